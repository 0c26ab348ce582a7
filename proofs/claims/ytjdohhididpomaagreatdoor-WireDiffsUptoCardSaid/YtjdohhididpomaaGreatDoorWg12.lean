/-
  Texts joined by program: VgN, VgP, WkP, WkN, Cm.
-/
import Derived.Test.YtjdohhididpomaaGreatDoorWg05
import Derived.Test.YtjdohhididpomaaGreatDoorProg
import Derived.KernelRfl
import Derived.Test.YtjdohhididpomaaGreatDoorWg11
import Derived.Test.YtjdohhididpomaaGreatDoorWg10
import Derived.Test.YtjdohhididpomaaGreatDoorWg06
set_option linter.unusedVariables false
set_option linter.unusedSimpArgs false

namespace Go.Proofs.YtjdohhididpomaaGreatDoor
section
set_option linter.unusedVariables false
open Go Go.RowKit Vc Ut Tb Cl
open Value
set_option maxRecDepth 1000000
theorem ztL(hsp:zf Tryz.prog zjh)(h:∀(g:ByteArray) (w:World),U8 w/\g.size<=67108864->(∃(g1:ByteArray), #[string g]= #[string g1]/\(U8 w/\g1.size<=67108864)/\∀(x:Int×Nat) w',x.fst=nxR g1/\x.snd=QM g1/\Ext w w'->zc (g.toList==(ByteArray.mk #[]).toList) (∃(x1:Nat),int .i64 0=int .i64 (x1:Int)/\x1=zD g/\Ext w w') (zc (x.fst==65533) (zc ((x.snd:Int)==1) (∃(y:Unit),int .i32 x.fst=int .i32 (sg g 0)/\int .i64 (x.snd:Int)=int .i64 (↑(pos g (1:Nat)):Int)/\0<g.size/\(zz g 0=true\/qe (sg g 0)=true)/\Ext w w') (∃(g2:Int), #[int .i32 x.fst]= #[int .i32 g2]/\True/\∀(x1:Bool) w'1,x1=qe g2/\Ext w' w'1->zc x1 (∃(y:Unit),int .i32 x.fst=int .i32 (sg g 0)/\int .i64 (x.snd:Int)=int .i64 (↑(pos g (1:Nat)):Int)/\0<g.size/\(zz g 0=true\/qe (sg g 0)=true)/\Ext w w'1) (∃(k:Nat),(x.snd:Int)=(k:Int)/\k<=g.size/\g.size<=g.size/\∃(g3:ByteArray), #[string (g.extract k g.size)]= #[string g3]/\(U8 w'1/\g3.size<=67108864)/\∀(x2:Int×Nat) w'2,x2.fst=nxR g3/\x2.snd=QM g3/\Ext w'1 w'2->zc ((x.snd:Int)==(g.size:Int)||x2.fst==65533&&(x2.snd:Int)==1) (∃(x3:Nat),int .i64 (x.snd:Int)=int .i64 (x3:Int)/\x3=zD g/\Ext w w'2) (∃(g4:Int), #[int .i32 x2.fst]= #[int .i32 g4]/\True/\∀(x3:Int) w'3,x3=zn g4/\Ext w'2 w'3->zc (x3==2) (zc (x3==2) (∃(c:Nat),(1:Int)=(c:Int)/\qR g 0 c=true/\Ext w'2 w'3) (∃(g5:Int), #[int .i32 x.fst]= #[int .i32 g5]/\True/\∀(x4:Bool) w'4,x4=qh g5/\Ext w'3 w'4->zc x4 (∃(g6:Int), #[int .i32 x2.fst]= #[int .i32 g6]/\True/\∀(x5:Bool) w'5,x5=qh g6/\Ext w'4 w'5->zc x5 (∃(c:Nat),(1:Int)=(c:Int)/\qR g 0 c=true/\Ext w'2 w'5) (zc (x.fst==8205) (∃(g7:Int), #[int .i32 x.fst]= #[int .i32 g7]/\True/\∀(x6:Bool) w'6,x6=qS g7/\Ext w'5 w'6->zc x6 (∃(g8:Int), #[int .i32 x2.fst]= #[int .i32 g8]/\True/\∀(x7:Bool) w'7,x7=qS g8/\Ext w'6 w'7->zc x7 (∃(c:Nat),(1:Int)=(c:Int)/\qR g 0 c=true/\Ext w'2 w'7) (∃(g9:Int×Int), #[int .i32 x.fst,int .i32 x2.fst]= #[int .i32 g9.fst,int .i32 g9.snd]/\True/\∀(x8:Bool) w'8,x8=qs g9.fst g9.snd/\Ext w'7 w'8->zc x8 (∃(c:Nat),(1:Int)=(c:Int)/\qR g 0 c=true/\Ext w'2 w'8) (∃(x9:Nat),int .i64 (x.snd:Int)=int .i64 (x9:Int)/\x9=zD g/\Ext w w'8))) (∃(g8:Int×Int), #[int .i32 x.fst,int .i32 x2.fst]= #[int .i32 g8.fst,int .i32 g8.snd]/\True/\∀(x7:Bool) w'7,x7=qs g8.fst g8.snd/\Ext w'6 w'7->zc x7 (∃(c:Nat),(1:Int)=(c:Int)/\qR g 0 c=true/\Ext w'2 w'7) (∃(x8:Nat),int .i64 (x.snd:Int)=int .i64 (x8:Int)/\x8=zD g/\Ext w w'7))) (∃(g7:Int×Int), #[int .i32 x.fst,int .i32 x2.fst]= #[int .i32 g7.fst,int .i32 g7.snd]/\True/\∀(x6:Bool) w'6,x6=qs g7.fst g7.snd/\Ext w'5 w'6->
 zc x6 (∃(c:Nat),(1:Int)=(c:Int)/\qR g 0 c=true/\Ext w'2 w'6) (∃(x7:Nat),int .i64 (x.snd:Int)=int .i64 (x7:Int)/\x7=zD g/\Ext w w'6)))) (zc (x.fst==8205) (∃(g6:Int), #[int .i32 x.fst]= #[int .i32 g6]/\True/\∀(x5:Bool) w'5,x5=qS g6/\Ext w'4 w'5->zc x5 (∃(g7:Int), #[int .i32 x2.fst]= #[int .i32 g7]/\True/\∀(x6:Bool) w'6,x6=qS g7/\Ext w'5 w'6->zc x6 (∃(c:Nat),(1:Int)=(c:Int)/\qR g 0 c=true/\Ext w'2 w'6) (∃(g8:Int×Int), #[int .i32 x.fst,int .i32 x2.fst]= #[int .i32 g8.fst,int .i32 g8.snd]/\True/\∀(x7:Bool) w'7,x7=qs g8.fst g8.snd/\Ext w'6 w'7->zc x7 (∃(c:Nat),(1:Int)=(c:Int)/\qR g 0 c=true/\Ext w'2 w'7) (∃(x8:Nat),int .i64 (x.snd:Int)=int .i64 (x8:Int)/\x8=zD g/\Ext w w'7))) (∃(g7:Int×Int), #[int .i32 x.fst,int .i32 x2.fst]= #[int .i32 g7.fst,int .i32 g7.snd]/\True/\∀(x6:Bool) w'6,x6=qs g7.fst g7.snd/\Ext w'5 w'6->zc x6 (∃(c:Nat),(1:Int)=(c:Int)/\qR g 0 c=true/\Ext w'2 w'6) (∃(x7:Nat),int .i64 (x.snd:Int)=int .i64 (x7:Int)/\x7=zD g/\Ext w w'6))) (∃(g6:Int×Int), #[int .i32 x.fst,int .i32 x2.fst]= #[int .i32 g6.fst,int .i32 g6.snd]/\True/\∀(x5:Bool) w'5,x5=qs g6.fst g6.snd/\Ext w'4 w'5->zc x5 (∃(c:Nat),(1:Int)=(c:Int)/\qR g 0 c=true/\Ext w'2 w'5) (∃(x6:Nat),int .i64 (x.snd:Int)=int .i64 (x6:Int)/\x6=zD g/\Ext w w'5))))) (∃(g5:Int), #[int .i32 x2.fst]= #[int .i32 g5]/\True/\∀(x4:Bool) w'4,x4=qj g5/\Ext w'3 w'4->zc x4 (∃(c:Nat),(1:Int)=(c:Int)/\qR g 0 c=true/\Ext w'2 w'4) (∃(g6:Int), #[int .i32 x.fst]= #[int .i32 g6]/\True/\∀(x5:Bool) w'5,x5=qh g6/\Ext w'4 w'5->zc x5 (∃(g7:Int), #[int .i32 x2.fst]= #[int .i32 g7]/\True/\∀(x6:Bool) w'6,x6=qh g7/\Ext w'5 w'6->zc x6 (∃(c:Nat),(1:Int)=(c:Int)/\qR g 0 c=true/\Ext w'2 w'6) (zc (x.fst==8205) (∃(g8:Int), #[int .i32 x.fst]= #[int .i32 g8]/\True/\∀(x7:Bool) w'7,x7=qS g8/\Ext w'6 w'7->zc x7 (∃(g9:Int), #[int .i32 x2.fst]= #[int .i32 g9]/\True/\∀(x8:Bool) w'8,x8=qS g9/\Ext w'7 w'8->zc x8 (∃(c:Nat),(1:Int)=(c:Int)/\qR g 0 c=true/\Ext w'2 w'8) (∃(g10:Int×Int), #[int .i32 x.fst,int .i32 x2.fst]= #[int .i32 g10.fst,int .i32 g10.snd]/\True/\∀(x9:Bool) w'9,x9=qs g10.fst g10.snd/\Ext w'8 w'9->zc x9 (∃(c:Nat),(1:Int)=(c:Int)/\qR g 0 c=true/\Ext w'2 w'9) (∃(x10:Nat),int .i64 (x.snd:Int)=int .i64 (x10:Int)/\x10=zD g/\Ext w w'9))) (∃(g9:Int×Int), #[int .i32 x.fst,int .i32 x2.fst]= #[int .i32 g9.fst,int .i32 g9.snd]/\True/\∀(x8:Bool) w'8,x8=qs g9.fst g9.snd/\Ext w'7 w'8->zc x8 (∃(c:Nat),(1:Int)=(c:Int)/\qR g 0 c=true/\Ext w'2 w'8) (∃(x9:Nat),int .i64 (x.snd:Int)=int .i64 (x9:Int)/\x9=zD g/\Ext w w'8))) (∃(g8:Int×Int),
 #[int .i32 x.fst,int .i32 x2.fst]= #[int .i32 g8.fst,int .i32 g8.snd]/\True/\∀(x7:Bool) w'7,x7=qs g8.fst g8.snd/\Ext w'6 w'7->zc x7 (∃(c:Nat),(1:Int)=(c:Int)/\qR g 0 c=true/\Ext w'2 w'7) (∃(x8:Nat),int .i64 (x.snd:Int)=int .i64 (x8:Int)/\x8=zD g/\Ext w w'7)))) (zc (x.fst==8205) (∃(g7:Int), #[int .i32 x.fst]= #[int .i32 g7]/\True/\∀(x6:Bool) w'6,x6=qS g7/\Ext w'5 w'6->zc x6 (∃(g8:Int), #[int .i32 x2.fst]= #[int .i32 g8]/\True/\∀(x7:Bool) w'7,x7=qS g8/\Ext w'6 w'7->zc x7 (∃(c:Nat),(1:Int)=(c:Int)/\qR g 0 c=true/\Ext w'2 w'7) (∃(g9:Int×Int), #[int .i32 x.fst,int .i32 x2.fst]= #[int .i32 g9.fst,int .i32 g9.snd]/\True/\∀(x8:Bool) w'8,x8=qs g9.fst g9.snd/\Ext w'7 w'8->zc x8 (∃(c:Nat),(1:Int)=(c:Int)/\qR g 0 c=true/\Ext w'2 w'8) (∃(x9:Nat),int .i64 (x.snd:Int)=int .i64 (x9:Int)/\x9=zD g/\Ext w w'8))) (∃(g8:Int×Int), #[int .i32 x.fst,int .i32 x2.fst]= #[int .i32 g8.fst,int .i32 g8.snd]/\True/\∀(x7:Bool) w'7,x7=qs g8.fst g8.snd/\Ext w'6 w'7->zc x7 (∃(c:Nat),(1:Int)=(c:Int)/\qR g 0 c=true/\Ext w'2 w'7) (∃(x8:Nat),int .i64 (x.snd:Int)=int .i64 (x8:Int)/\x8=zD g/\Ext w w'7))) (∃(g7:Int×Int), #[int .i32 x.fst,int .i32 x2.fst]= #[int .i32 g7.fst,int .i32 g7.snd]/\True/\∀(x6:Bool) w'6,x6=qs g7.fst g7.snd/\Ext w'5 w'6->zc x6 (∃(c:Nat),(1:Int)=(c:Int)/\qR g 0 c=true/\Ext w'2 w'6) (∃(x7:Nat),int .i64 (x.snd:Int)=int .i64 (x7:Int)/\x7=zD g/\Ext w w'6))))))/\∀(u:Nat->Value) (c:Nat) w'3,(1:Int)=(c:Int)/\qR g 0 c=true/\Ext w'2 w'3->InR .i64 ((1:Int)+1)/\InR .i64 ((x.snd:Int)+(x2.snd:Int))/\∃(y:Nat),int .i32 x.fst=int .i32 (sg g 0)/\int .i32 x2.fst=int .i32 (sg g (y - 1))/\int .i64 2=int .i64 (y:Int)/\int .i64 ((x.snd:Int)+(x2.snd:Int))=int .i64 (↑(pos g y):Int)/\1<=y/\y<=cnt g/\y<=32/\0<g.size/\goN g 0 (33 - y) y=zy g 0/\Ext w w'3))) (∃(g2:Int), #[int .i32 x.fst]= #[int .i32 g2]/\True/\∀(x1:Bool) w'1,x1=qe g2/\Ext w' w'1->zc x1 (∃(y:Unit),int .i32 x.fst=int .i32 (sg g 0)/\int .i64 (x.snd:Int)=int .i64 (↑(pos g (1:Nat)):Int)/\0<g.size/\(zz g 0=true\/qe (sg g 0)=true)/\Ext w w'1) (∃(k:Nat),(x.snd:Int)=(k:Int)/\k<=g.size/\g.size<=g.size/\∃(g3:ByteArray), #[string (g.extract k g.size)]= #[string g3]/\(U8 w'1/\g3.size<=67108864)/\∀(x2:Int×Nat) w'2,x2.fst=nxR g3/\x2.snd=QM g3/\Ext w'1 w'2->zc ((x.snd:Int)==(g.size:Int)||x2.fst==65533&&(x2.snd:Int)==1) (∃(x3:Nat),int .i64 (x.snd:Int)=int .i64 (x3:Int)/\x3=zD g/\Ext w w'2) (∃(g4:Int), #[int .i32 x2.fst]= #[int .i32 g4]/\True/\∀(x3:Int) w'3,x3=zn g4/\Ext w'2 w'3->zc (x3==2)
 (zc (x3==2) (∃(c:Nat),(1:Int)=(c:Int)/\qR g 0 c=true/\Ext w'2 w'3) (∃(g5:Int), #[int .i32 x.fst]= #[int .i32 g5]/\True/\∀(x4:Bool) w'4,x4=qh g5/\Ext w'3 w'4->zc x4 (∃(g6:Int), #[int .i32 x2.fst]= #[int .i32 g6]/\True/\∀(x5:Bool) w'5,x5=qh g6/\Ext w'4 w'5->zc x5 (∃(c:Nat),(1:Int)=(c:Int)/\qR g 0 c=true/\Ext w'2 w'5) (zc (x.fst==8205) (∃(g7:Int), #[int .i32 x.fst]= #[int .i32 g7]/\True/\∀(x6:Bool) w'6,x6=qS g7/\Ext w'5 w'6->zc x6 (∃(g8:Int), #[int .i32 x2.fst]= #[int .i32 g8]/\True/\∀(x7:Bool) w'7,x7=qS g8/\Ext w'6 w'7->zc x7 (∃(c:Nat),(1:Int)=(c:Int)/\qR g 0 c=true/\Ext w'2 w'7) (∃(g9:Int×Int), #[int .i32 x.fst,int .i32 x2.fst]= #[int .i32 g9.fst,int .i32 g9.snd]/\True/\∀(x8:Bool) w'8,x8=qs g9.fst g9.snd/\Ext w'7 w'8->zc x8 (∃(c:Nat),(1:Int)=(c:Int)/\qR g 0 c=true/\Ext w'2 w'8) (∃(x9:Nat),int .i64 (x.snd:Int)=int .i64 (x9:Int)/\x9=zD g/\Ext w w'8))) (∃(g8:Int×Int), #[int .i32 x.fst,int .i32 x2.fst]= #[int .i32 g8.fst,int .i32 g8.snd]/\True/\∀(x7:Bool) w'7,x7=qs g8.fst g8.snd/\Ext w'6 w'7->zc x7 (∃(c:Nat),(1:Int)=(c:Int)/\qR g 0 c=true/\Ext w'2 w'7) (∃(x8:Nat),int .i64 (x.snd:Int)=int .i64 (x8:Int)/\x8=zD g/\Ext w w'7))) (∃(g7:Int×Int), #[int .i32 x.fst,int .i32 x2.fst]= #[int .i32 g7.fst,int .i32 g7.snd]/\True/\∀(x6:Bool) w'6,x6=qs g7.fst g7.snd/\Ext w'5 w'6->zc x6 (∃(c:Nat),(1:Int)=(c:Int)/\qR g 0 c=true/\Ext w'2 w'6) (∃(x7:Nat),int .i64 (x.snd:Int)=int .i64 (x7:Int)/\x7=zD g/\Ext w w'6)))) (zc (x.fst==8205) (∃(g6:Int), #[int .i32 x.fst]= #[int .i32 g6]/\True/\∀(x5:Bool) w'5,x5=qS g6/\Ext w'4 w'5->zc x5 (∃(g7:Int), #[int .i32 x2.fst]= #[int .i32 g7]/\True/\∀(x6:Bool) w'6,x6=qS g7/\Ext w'5 w'6->zc x6 (∃(c:Nat),(1:Int)=(c:Int)/\qR g 0 c=true/\Ext w'2 w'6) (∃(g8:Int×Int), #[int .i32 x.fst,int .i32 x2.fst]= #[int .i32 g8.fst,int .i32 g8.snd]/\True/\∀(x7:Bool) w'7,x7=qs g8.fst g8.snd/\Ext w'6 w'7->zc x7 (∃(c:Nat),(1:Int)=(c:Int)/\qR g 0 c=true/\Ext w'2 w'7) (∃(x8:Nat),int .i64 (x.snd:Int)=int .i64 (x8:Int)/\x8=zD g/\Ext w w'7))) (∃(g7:Int×Int), #[int .i32 x.fst,int .i32 x2.fst]= #[int .i32 g7.fst,int .i32 g7.snd]/\True/\∀(x6:Bool) w'6,x6=qs g7.fst g7.snd/\Ext w'5 w'6->zc x6 (∃(c:Nat),(1:Int)=(c:Int)/\qR g 0 c=true/\Ext w'2 w'6) (∃(x7:Nat),int .i64 (x.snd:Int)=int .i64 (x7:Int)/\x7=zD g/\Ext w w'6))) (∃(g6:Int×Int), #[int .i32 x.fst,int .i32 x2.fst]= #[int .i32 g6.fst,int .i32 g6.snd]/\True/\∀(x5:Bool) w'5,x5=qs g6.fst g6.snd/\Ext w'4 w'5->zc x5 (∃(c:Nat),(1:Int)=(c:Int)/\qR g 0 c=true/\Ext w'2 w'5)
 (∃(x6:Nat),int .i64 (x.snd:Int)=int .i64 (x6:Int)/\x6=zD g/\Ext w w'5))))) (∃(g5:Int), #[int .i32 x2.fst]= #[int .i32 g5]/\True/\∀(x4:Bool) w'4,x4=qj g5/\Ext w'3 w'4->zc x4 (∃(c:Nat),(1:Int)=(c:Int)/\qR g 0 c=true/\Ext w'2 w'4) (∃(g6:Int), #[int .i32 x.fst]= #[int .i32 g6]/\True/\∀(x5:Bool) w'5,x5=qh g6/\Ext w'4 w'5->zc x5 (∃(g7:Int), #[int .i32 x2.fst]= #[int .i32 g7]/\True/\∀(x6:Bool) w'6,x6=qh g7/\Ext w'5 w'6->zc x6 (∃(c:Nat),(1:Int)=(c:Int)/\qR g 0 c=true/\Ext w'2 w'6) (zc (x.fst==8205) (∃(g8:Int), #[int .i32 x.fst]= #[int .i32 g8]/\True/\∀(x7:Bool) w'7,x7=qS g8/\Ext w'6 w'7->zc x7 (∃(g9:Int), #[int .i32 x2.fst]= #[int .i32 g9]/\True/\∀(x8:Bool) w'8,x8=qS g9/\Ext w'7 w'8->zc x8 (∃(c:Nat),(1:Int)=(c:Int)/\qR g 0 c=true/\Ext w'2 w'8) (∃(g10:Int×Int), #[int .i32 x.fst,int .i32 x2.fst]= #[int .i32 g10.fst,int .i32 g10.snd]/\True/\∀(x9:Bool) w'9,x9=qs g10.fst g10.snd/\Ext w'8 w'9->zc x9 (∃(c:Nat),(1:Int)=(c:Int)/\qR g 0 c=true/\Ext w'2 w'9) (∃(x10:Nat),int .i64 (x.snd:Int)=int .i64 (x10:Int)/\x10=zD g/\Ext w w'9))) (∃(g9:Int×Int), #[int .i32 x.fst,int .i32 x2.fst]= #[int .i32 g9.fst,int .i32 g9.snd]/\True/\∀(x8:Bool) w'8,x8=qs g9.fst g9.snd/\Ext w'7 w'8->zc x8 (∃(c:Nat),(1:Int)=(c:Int)/\qR g 0 c=true/\Ext w'2 w'8) (∃(x9:Nat),int .i64 (x.snd:Int)=int .i64 (x9:Int)/\x9=zD g/\Ext w w'8))) (∃(g8:Int×Int), #[int .i32 x.fst,int .i32 x2.fst]= #[int .i32 g8.fst,int .i32 g8.snd]/\True/\∀(x7:Bool) w'7,x7=qs g8.fst g8.snd/\Ext w'6 w'7->zc x7 (∃(c:Nat),(1:Int)=(c:Int)/\qR g 0 c=true/\Ext w'2 w'7) (∃(x8:Nat),int .i64 (x.snd:Int)=int .i64 (x8:Int)/\x8=zD g/\Ext w w'7)))) (zc (x.fst==8205) (∃(g7:Int), #[int .i32 x.fst]= #[int .i32 g7]/\True/\∀(x6:Bool) w'6,x6=qS g7/\Ext w'5 w'6->zc x6 (∃(g8:Int), #[int .i32 x2.fst]= #[int .i32 g8]/\True/\∀(x7:Bool) w'7,x7=qS g8/\Ext w'6 w'7->zc x7 (∃(c:Nat),(1:Int)=(c:Int)/\qR g 0 c=true/\Ext w'2 w'7) (∃(g9:Int×Int), #[int .i32 x.fst,int .i32 x2.fst]= #[int .i32 g9.fst,int .i32 g9.snd]/\True/\∀(x8:Bool) w'8,x8=qs g9.fst g9.snd/\Ext w'7 w'8->zc x8 (∃(c:Nat),(1:Int)=(c:Int)/\qR g 0 c=true/\Ext w'2 w'8) (∃(x9:Nat),int .i64 (x.snd:Int)=int .i64 (x9:Int)/\x9=zD g/\Ext w w'8))) (∃(g8:Int×Int), #[int .i32 x.fst,int .i32 x2.fst]= #[int .i32 g8.fst,int .i32 g8.snd]/\True/\∀(x7:Bool) w'7,x7=qs g8.fst g8.snd/\Ext w'6 w'7->zc x7 (∃(c:Nat),(1:Int)=(c:Int)/\qR g 0 c=true/\Ext w'2 w'7) (∃(x8:Nat),int .i64 (x.snd:Int)=int .i64 (x8:Int)/\x8=zD g/\Ext w w'7))) (∃(g7:Int×Int), #[int .i32 x.fst,int .i32 x2.fst]= #[int .i32 g7.fst,int .i32 g7.snd]/\
 True/\∀(x6:Bool) w'6,x6=qs g7.fst g7.snd/\Ext w'5 w'6->zc x6 (∃(c:Nat),(1:Int)=(c:Int)/\qR g 0 c=true/\Ext w'2 w'6) (∃(x7:Nat),int .i64 (x.snd:Int)=int .i64 (x7:Int)/\x7=zD g/\Ext w w'6))))))/\∀(u:Nat->Value) (c:Nat) w'3,(1:Int)=(c:Int)/\qR g 0 c=true/\Ext w'2 w'3->InR .i64 ((1:Int)+1)/\InR .i64 ((x.snd:Int)+(x2.snd:Int))/\∃(y:Nat),int .i32 x.fst=int .i32 (sg g 0)/\int .i32 x2.fst=int .i32 (sg g (y - 1))/\int .i64 2=int .i64 (y:Int)/\int .i64 ((x.snd:Int)+(x2.snd:Int))=int .i64 (↑(pos g y):Int)/\1<=y/\y<=cnt g/\y<=32/\0<g.size/\goN g 0 (33 - y) y=zy g 0/\Ext w w'3))))/\(∀(u:Nat->Value) (x:Nat) w',1<=x/\x<=cnt g/\x<=32/\0<g.size/\goN g 0 (33 - x) x=zy g 0/\Ext w w'->zc ((x:Int)==32) (∃(x1:Nat),int .i64 (↑(pos g x):Int)=int .i64 (x1:Int)/\x1=zD g/\Ext w w') (∃(k:Nat),(↑(pos g x):Int)=(k:Int)/\k<=g.size/\g.size<=g.size/\∃(g1:ByteArray), #[string (g.extract k g.size)]= #[string g1]/\(U8 w'/\g1.size<=67108864)/\∀(x1:Int×Nat) w'1,x1.fst=nxR g1/\x1.snd=QM g1/\Ext w' w'1->zc ((↑(pos g x):Int)==(g.size:Int)||x1.fst==65533&&(x1.snd:Int)==1) (∃(x2:Nat),int .i64 (↑(pos g x):Int)=int .i64 (x2:Int)/\x2=zD g/\Ext w w'1) (∃(g2:Int), #[int .i32 x1.fst]= #[int .i32 g2]/\True/\∀(x2:Int) w'2,x2=zn g2/\Ext w'1 w'2->zc (x2==2) (zc (x2==2) (∃(c:Nat),(x:Int)=(c:Int)/\qR g 0 c=true/\Ext w'1 w'2) (zc ((x:Int)==1) (∃(g3:Int), #[int .i32 (sg g 0)]= #[int .i32 g3]/\True/\∀(x3:Bool) w'3,x3=qh g3/\Ext w'2 w'3->zc x3 (∃(g4:Int), #[int .i32 x1.fst]= #[int .i32 g4]/\True/\∀(x4:Bool) w'4,x4=qh g4/\Ext w'3 w'4->zc x4 (∃(c:Nat),(x:Int)=(c:Int)/\qR g 0 c=true/\Ext w'1 w'4) (zc (sg g (x - 1)==8205) (∃(g5:Int), #[int .i32 (sg g 0)]= #[int .i32 g5]/\True/\∀(x5:Bool) w'5,x5=qS g5/\Ext w'4 w'5->zc x5 (∃(g6:Int), #[int .i32 x1.fst]= #[int .i32 g6]/\True/\∀(x6:Bool) w'6,x6=qS g6/\Ext w'5 w'6->zc x6 (∃(c:Nat),(x:Int)=(c:Int)/\qR g 0 c=true/\Ext w'1 w'6) (∃(g7:Int×Int), #[int .i32 (sg g (x - 1)),int .i32 x1.fst]= #[int .i32 g7.fst,int .i32 g7.snd]/\True/\∀(x7:Bool) w'7,x7=qs g7.fst g7.snd/\Ext w'6 w'7->zc x7 (∃(c:Nat),(x:Int)=(c:Int)/\qR g 0 c=true/\Ext w'1 w'7) (∃(x8:Nat),int .i64 (↑(pos g x):Int)=int .i64 (x8:Int)/\x8=zD g/\Ext w w'7))) (∃(g6:Int×Int), #[int .i32 (sg g (x - 1)),int .i32 x1.fst]= #[int .i32 g6.fst,int .i32 g6.snd]/\True/\∀(x6:Bool) w'6,x6=qs g6.fst g6.snd/\Ext w'5 w'6->zc x6 (∃(c:Nat),(x:Int)=(c:Int)/\qR g 0 c=true/\Ext w'1 w'6) (∃(x7:Nat),int .i64 (↑(pos g x):Int)=int .i64 (x7:Int)/\x7=zD g/\Ext w w'6))) (∃(g5:Int×Int), #[int .i32 (sg g (x - 1)),int .i32 x1.fst]=
 #[int .i32 g5.fst,int .i32 g5.snd]/\True/\∀(x5:Bool) w'5,x5=qs g5.fst g5.snd/\Ext w'4 w'5->zc x5 (∃(c:Nat),(x:Int)=(c:Int)/\qR g 0 c=true/\Ext w'1 w'5) (∃(x6:Nat),int .i64 (↑(pos g x):Int)=int .i64 (x6:Int)/\x6=zD g/\Ext w w'5)))) (zc (sg g (x - 1)==8205) (∃(g4:Int), #[int .i32 (sg g 0)]= #[int .i32 g4]/\True/\∀(x4:Bool) w'4,x4=qS g4/\Ext w'3 w'4->zc x4 (∃(g5:Int), #[int .i32 x1.fst]= #[int .i32 g5]/\True/\∀(x5:Bool) w'5,x5=qS g5/\Ext w'4 w'5->zc x5 (∃(c:Nat),(x:Int)=(c:Int)/\qR g 0 c=true/\Ext w'1 w'5) (∃(g6:Int×Int), #[int .i32 (sg g (x - 1)),int .i32 x1.fst]= #[int .i32 g6.fst,int .i32 g6.snd]/\True/\∀(x6:Bool) w'6,x6=qs g6.fst g6.snd/\Ext w'5 w'6->zc x6 (∃(c:Nat),(x:Int)=(c:Int)/\qR g 0 c=true/\Ext w'1 w'6) (∃(x7:Nat),int .i64 (↑(pos g x):Int)=int .i64 (x7:Int)/\x7=zD g/\Ext w w'6))) (∃(g5:Int×Int), #[int .i32 (sg g (x - 1)),int .i32 x1.fst]= #[int .i32 g5.fst,int .i32 g5.snd]/\True/\∀(x5:Bool) w'5,x5=qs g5.fst g5.snd/\Ext w'4 w'5->zc x5 (∃(c:Nat),(x:Int)=(c:Int)/\qR g 0 c=true/\Ext w'1 w'5) (∃(x6:Nat),int .i64 (↑(pos g x):Int)=int .i64 (x6:Int)/\x6=zD g/\Ext w w'5))) (∃(g4:Int×Int), #[int .i32 (sg g (x - 1)),int .i32 x1.fst]= #[int .i32 g4.fst,int .i32 g4.snd]/\True/\∀(x4:Bool) w'4,x4=qs g4.fst g4.snd/\Ext w'3 w'4->zc x4 (∃(c:Nat),(x:Int)=(c:Int)/\qR g 0 c=true/\Ext w'1 w'4) (∃(x5:Nat),int .i64 (↑(pos g x):Int)=int .i64 (x5:Int)/\x5=zD g/\Ext w w'4)))) (zc (sg g (x - 1)==8205) (∃(g3:Int), #[int .i32 (sg g 0)]= #[int .i32 g3]/\True/\∀(x3:Bool) w'3,x3=qS g3/\Ext w'2 w'3->zc x3 (∃(g4:Int), #[int .i32 x1.fst]= #[int .i32 g4]/\True/\∀(x4:Bool) w'4,x4=qS g4/\Ext w'3 w'4->zc x4 (∃(c:Nat),(x:Int)=(c:Int)/\qR g 0 c=true/\Ext w'1 w'4) (∃(g5:Int×Int), #[int .i32 (sg g (x - 1)),int .i32 x1.fst]= #[int .i32 g5.fst,int .i32 g5.snd]/\True/\∀(x5:Bool) w'5,x5=qs g5.fst g5.snd/\Ext w'4 w'5->zc x5 (∃(c:Nat),(x:Int)=(c:Int)/\qR g 0 c=true/\Ext w'1 w'5) (∃(x6:Nat),int .i64 (↑(pos g x):Int)=int .i64 (x6:Int)/\x6=zD g/\Ext w w'5))) (∃(g4:Int×Int), #[int .i32 (sg g (x - 1)),int .i32 x1.fst]= #[int .i32 g4.fst,int .i32 g4.snd]/\True/\∀(x4:Bool) w'4,x4=qs g4.fst g4.snd/\Ext w'3 w'4->zc x4 (∃(c:Nat),(x:Int)=(c:Int)/\qR g 0 c=true/\Ext w'1 w'4) (∃(x5:Nat),int .i64 (↑(pos g x):Int)=int .i64 (x5:Int)/\x5=zD g/\Ext w w'4))) (∃(g3:Int×Int), #[int .i32 (sg g (x - 1)),int .i32 x1.fst]= #[int .i32 g3.fst,int .i32 g3.snd]/\True/\∀(x3:Bool) w'3,x3=qs g3.fst g3.snd/\Ext w'2 w'3->zc x3 (∃(c:Nat),(x:Int)=(c:Int)/\qR g 0 c=true/\Ext w'1 w'3) (∃(x4:Nat),
 int .i64 (↑(pos g x):Int)=int .i64 (x4:Int)/\x4=zD g/\Ext w w'3))))) (∃(g3:Int), #[int .i32 x1.fst]= #[int .i32 g3]/\True/\∀(x3:Bool) w'3,x3=qj g3/\Ext w'2 w'3->zc x3 (∃(c:Nat),(x:Int)=(c:Int)/\qR g 0 c=true/\Ext w'1 w'3) (zc ((x:Int)==1) (∃(g4:Int), #[int .i32 (sg g 0)]= #[int .i32 g4]/\True/\∀(x4:Bool) w'4,x4=qh g4/\Ext w'3 w'4->zc x4 (∃(g5:Int), #[int .i32 x1.fst]= #[int .i32 g5]/\True/\∀(x5:Bool) w'5,x5=qh g5/\Ext w'4 w'5->zc x5 (∃(c:Nat),(x:Int)=(c:Int)/\qR g 0 c=true/\Ext w'1 w'5) (zc (sg g (x - 1)==8205) (∃(g6:Int), #[int .i32 (sg g 0)]= #[int .i32 g6]/\True/\∀(x6:Bool) w'6,x6=qS g6/\Ext w'5 w'6->zc x6 (∃(g7:Int), #[int .i32 x1.fst]= #[int .i32 g7]/\True/\∀(x7:Bool) w'7,x7=qS g7/\Ext w'6 w'7->zc x7 (∃(c:Nat),(x:Int)=(c:Int)/\qR g 0 c=true/\Ext w'1 w'7) (∃(g8:Int×Int), #[int .i32 (sg g (x - 1)),int .i32 x1.fst]= #[int .i32 g8.fst,int .i32 g8.snd]/\True/\∀(x8:Bool) w'8,x8=qs g8.fst g8.snd/\Ext w'7 w'8->zc x8 (∃(c:Nat),(x:Int)=(c:Int)/\qR g 0 c=true/\Ext w'1 w'8) (∃(x9:Nat),int .i64 (↑(pos g x):Int)=int .i64 (x9:Int)/\x9=zD g/\Ext w w'8))) (∃(g7:Int×Int), #[int .i32 (sg g (x - 1)),int .i32 x1.fst]= #[int .i32 g7.fst,int .i32 g7.snd]/\True/\∀(x7:Bool) w'7,x7=qs g7.fst g7.snd/\Ext w'6 w'7->zc x7 (∃(c:Nat),(x:Int)=(c:Int)/\qR g 0 c=true/\Ext w'1 w'7) (∃(x8:Nat),int .i64 (↑(pos g x):Int)=int .i64 (x8:Int)/\x8=zD g/\Ext w w'7))) (∃(g6:Int×Int), #[int .i32 (sg g (x - 1)),int .i32 x1.fst]= #[int .i32 g6.fst,int .i32 g6.snd]/\True/\∀(x6:Bool) w'6,x6=qs g6.fst g6.snd/\Ext w'5 w'6->zc x6 (∃(c:Nat),(x:Int)=(c:Int)/\qR g 0 c=true/\Ext w'1 w'6) (∃(x7:Nat),int .i64 (↑(pos g x):Int)=int .i64 (x7:Int)/\x7=zD g/\Ext w w'6)))) (zc (sg g (x - 1)==8205) (∃(g5:Int), #[int .i32 (sg g 0)]= #[int .i32 g5]/\True/\∀(x5:Bool) w'5,x5=qS g5/\Ext w'4 w'5->zc x5 (∃(g6:Int), #[int .i32 x1.fst]= #[int .i32 g6]/\True/\∀(x6:Bool) w'6,x6=qS g6/\Ext w'5 w'6->zc x6 (∃(c:Nat),(x:Int)=(c:Int)/\qR g 0 c=true/\Ext w'1 w'6) (∃(g7:Int×Int), #[int .i32 (sg g (x - 1)),int .i32 x1.fst]= #[int .i32 g7.fst,int .i32 g7.snd]/\True/\∀(x7:Bool) w'7,x7=qs g7.fst g7.snd/\Ext w'6 w'7->zc x7 (∃(c:Nat),(x:Int)=(c:Int)/\qR g 0 c=true/\Ext w'1 w'7) (∃(x8:Nat),int .i64 (↑(pos g x):Int)=int .i64 (x8:Int)/\x8=zD g/\Ext w w'7))) (∃(g6:Int×Int), #[int .i32 (sg g (x - 1)),int .i32 x1.fst]= #[int .i32 g6.fst,int .i32 g6.snd]/\True/\∀(x6:Bool) w'6,x6=qs g6.fst g6.snd/\Ext w'5 w'6->zc x6 (∃(c:Nat),(x:Int)=(c:Int)/\qR g 0 c=true/\Ext w'1 w'6) (∃(x7:Nat),int .i64 (↑(pos g x):Int)=int .i64 (x7:Int)/\x7=zD g/\Ext w w'6)))
 (∃(g5:Int×Int), #[int .i32 (sg g (x - 1)),int .i32 x1.fst]= #[int .i32 g5.fst,int .i32 g5.snd]/\True/\∀(x5:Bool) w'5,x5=qs g5.fst g5.snd/\Ext w'4 w'5->zc x5 (∃(c:Nat),(x:Int)=(c:Int)/\qR g 0 c=true/\Ext w'1 w'5) (∃(x6:Nat),int .i64 (↑(pos g x):Int)=int .i64 (x6:Int)/\x6=zD g/\Ext w w'5)))) (zc (sg g (x - 1)==8205) (∃(g4:Int), #[int .i32 (sg g 0)]= #[int .i32 g4]/\True/\∀(x4:Bool) w'4,x4=qS g4/\Ext w'3 w'4->zc x4 (∃(g5:Int), #[int .i32 x1.fst]= #[int .i32 g5]/\True/\∀(x5:Bool) w'5,x5=qS g5/\Ext w'4 w'5->zc x5 (∃(c:Nat),(x:Int)=(c:Int)/\qR g 0 c=true/\Ext w'1 w'5) (∃(g6:Int×Int), #[int .i32 (sg g (x - 1)),int .i32 x1.fst]= #[int .i32 g6.fst,int .i32 g6.snd]/\True/\∀(x6:Bool) w'6,x6=qs g6.fst g6.snd/\Ext w'5 w'6->zc x6 (∃(c:Nat),(x:Int)=(c:Int)/\qR g 0 c=true/\Ext w'1 w'6) (∃(x7:Nat),int .i64 (↑(pos g x):Int)=int .i64 (x7:Int)/\x7=zD g/\Ext w w'6))) (∃(g5:Int×Int), #[int .i32 (sg g (x - 1)),int .i32 x1.fst]= #[int .i32 g5.fst,int .i32 g5.snd]/\True/\∀(x5:Bool) w'5,x5=qs g5.fst g5.snd/\Ext w'4 w'5->zc x5 (∃(c:Nat),(x:Int)=(c:Int)/\qR g 0 c=true/\Ext w'1 w'5) (∃(x6:Nat),int .i64 (↑(pos g x):Int)=int .i64 (x6:Int)/\x6=zD g/\Ext w w'5))) (∃(g4:Int×Int), #[int .i32 (sg g (x - 1)),int .i32 x1.fst]= #[int .i32 g4.fst,int .i32 g4.snd]/\True/\∀(x4:Bool) w'4,x4=qs g4.fst g4.snd/\Ext w'3 w'4->zc x4 (∃(c:Nat),(x:Int)=(c:Int)/\qR g 0 c=true/\Ext w'1 w'4) (∃(x5:Nat),int .i64 (↑(pos g x):Int)=int .i64 (x5:Int)/\x5=zD g/\Ext w w'4))))))/\∀(u1:Nat->Value) (c:Nat) w'2,(x:Int)=(c:Int)/\qR g 0 c=true/\Ext w'1 w'2->InR .i64 ((x:Int)+1)/\InR .i64 ((↑(pos g x):Int)+(x1.snd:Int))/\∃(y:Nat),int .i32 (sg g 0)=int .i32 (sg g 0)/\int .i32 x1.fst=int .i32 (sg g (y - 1))/\int .i64 ((x:Int)+1)=int .i64 (y:Int)/\int .i64 ((↑(pos g x):Int)+(x1.snd:Int))=int .i64 (↑(pos g y):Int)/\(1<=y/\y<=cnt g/\y<=32/\0<g.size/\goN g 0 (33 - y) y=zy g 0/\Ext w w'2)/\40 - y<40 - x))/\(∀(u:Nat->Value) (x:Unit) w',0<g.size/\(zz g 0=true\/qe (sg g 0)=true)/\Ext w w'->zc (sg g 0==13) (zc (decide ((g.size:Int)>1)) (qd (1:Int) g.size fun k=>zc ((↑(g.data.toList.getD k (0:UInt8)).toNat:Int)==10) (∃(x1:Nat),int .i64 2=int .i64 (x1:Int)/\x1=zD g/\Ext w w') (∃(x1:Nat),int .i64 (↑(pos g (1:Nat)):Int)=int .i64 (x1:Int)/\x1=zD g/\Ext w w')) (∃(x1:Nat),int .i64 (↑(pos g (1:Nat)):Int)=int .i64 (x1:Int)/\x1=zD g/\Ext w w')) (∃(x1:Nat),int .i64 (↑(pos g (1:Nat)):Int)=int .i64 (x1:Int)/\x1=zD g/\Ext w w'))/\True):
   ((sSN zD)).Ok Tryz.prog 67:=ze (sSN zD) zuo zjh (fun _ _=>rfl) (fun _ _=>rfl) hsp Tryz.func67 rfl (n:=1) (fun _=>rfl) (by kernel_rfl) (zl (by kernel_rfl) h)
theorem zrC(hsp:zf Tryz.prog zi2)(h:∀(g:ByteArray) (w:World),U8 w/\g.size<=67108864->(∃(x:Nat×Option Addr×Nat),int .i64 0=int .i64 (↑(pos g x.fst):Int)/\slice none 0 0=slice x.snd.fst x.fst x.snd.snd/\x.fst<=cnt g/\Made w w (134:TypeId) 3 x.snd.fst x.fst (List.flatMap (ZV g) (List.range x.fst)) x.snd.snd)/\∀(u:Nat->Value) (x:Nat×Option Addr×Nat) w',x.fst<=cnt g/\Made w w' (134:TypeId) 3 x.snd.fst x.fst (List.flatMap (ZV g) (List.range x.fst)) x.snd.snd->zc (decide ((↑(pos g x.fst):Int)<(g.size:Int))) (∃(k:Nat),(↑(pos g x.fst):Int)=(k:Int)/\k<=g.size/\g.size<=g.size/\∃(g1:ByteArray), #[string (g.extract k g.size)]= #[string g1]/\(U8 w'/\g1.size<=67108864)/\∀(x1:Int×Nat) w'1,x1.fst=nxR g1/\x1.snd=QM g1/\Ext w' w'1->zc (x1.fst==65533) (∀b w1,New w'1 (Obj.cells #[int .i32 x1.fst,int .i64 (↑(pos g x.fst):Int),bool ((x1.snd:Int)==1)] 134) b w1->∃(a':Option Addr) (c':Nat) (w'2:World),zA Tryz.prog #[102,102] 102 (slice x.snd.fst x.fst x.snd.snd) (slice (some ⟨b,0,none⟩) 1 1) w1 a' (x.fst+1) c' w'2/\KO w1 w'2/\InR .i64 ((↑(pos g x.fst):Int)+(x1.snd:Int))/\∃(y:Nat×Option Addr×Nat),int .i64 ((↑(pos g x.fst):Int)+(x1.snd:Int))=int .i64 (↑(pos g y.fst):Int)/\slice a' (x.fst+1) c'=slice y.snd.fst y.fst y.snd.snd/\(y.fst<=cnt g/\Made w w'2 (134:TypeId) 3 y.snd.fst y.fst (List.flatMap (ZV g) (List.range y.fst)) y.snd.snd)/\cnt g - y.fst<cnt g - x.fst) (∀b w1,New w'1 (Obj.cells #[int .i32 x1.fst,int .i64 (↑(pos g x.fst):Int),bool false] (134:Nat)) b w1->∃(a':Option Addr) (c':Nat) (w'2:World),zA Tryz.prog #[102,102] 102 (slice x.snd.fst x.fst x.snd.snd) (slice (some ⟨b,0,none⟩) 1 1) w1 a' (x.fst+1) c' w'2/\KO w1 w'2/\InR .i64 ((↑(pos g x.fst):Int)+(x1.snd:Int))/\∃(y:Nat×Option Addr×Nat),int .i64 ((↑(pos g x.fst):Int)+(x1.snd:Int))=int .i64 (↑(pos g y.fst):Int)/\slice a' (x.fst+1) c'=slice y.snd.fst y.fst y.snd.snd/\(y.fst<=cnt g/\Made w w'2 (134:TypeId) 3 y.snd.fst y.fst (List.flatMap (ZV g) (List.range y.fst)) y.snd.snd)/\cnt g - y.fst<cnt g - x.fst)) (∃(x1:Option Addr×Nat×Nat),slice x.snd.fst x.fst x.snd.snd=slice x1.fst x1.snd.fst x1.snd.snd/\x1.snd.fst=cnt g/\Made w w' (134:TypeId) 3 x1.fst x1.snd.fst (List.flatMap (ZV g) (List.range (cnt g))) x1.snd.snd)):zer.Ok Tryz.prog 71:=ze zer zt8 zi2 (fun _ _=>rfl) (fun _ _=>rfl) hsp Tryz.func71 rfl (n:=1) (fun _=>rfl) (by kernel_rfl) (zl (by kernel_rfl) h)
theorem ztp(hsp:zf Tryz.prog zjd)(h:∀(g:GFst) (w:World),g.k<cnt g.s/\g.s.size<=67108864/\CellsAt w g.a (List.flatMap (ZV g.s) (List.drop g.k (List.range (cnt g.s))))->qd (0:Int) (cnt g.s - g.k) fun k=>zr g.a fun(b o:Nat)=>ZG w b (o+k*3+2) fun b1=>zc b1 (∃(x:Nat),int .i64 1=int .i64 (x:Int)/\x=zy g.s g.k/\Ext w w) ((qd (0:Int) (cnt g.s - g.k) fun k1=>zr g.a fun(b2 o1:Nat)=>zX w .i32 b2 (o1+k1*3) fun n=>zc (n==13) (zc (decide ((↑(cnt g.s - g.k):Int)>1)) (qd (1:Int) (cnt g.s - g.k) fun k2=>zr g.a fun(b3 o2:Nat)=>zX w .i32 b3 (o2+k2*3) fun n1=>∃(c:Unit),bool (n1==10)=bool (crB g.s g.k)/\Ext w w) (∃(c:Unit),bool false=bool (crB g.s g.k)/\Ext w w)) (∃(c:Unit),bool false=bool (crB g.s g.k)/\Ext w w))/\∀(u:Nat->Value) (c:Unit) w',Ext w w'->zc (crB g.s g.k) (∃(x:Nat),int .i64 2=int .i64 (x:Int)/\x=zy g.s g.k/\Ext w w') (qd (0:Int) (cnt g.s - g.k) fun k1=>zr g.a fun(b2 o1:Nat)=>zX w' .i32 b2 (o1+k1*3) fun n=>∃(g1:Int), #[int .i32 n]= #[int .i32 g1]/\True/\∀(x:Bool) w'1,x=qe g1/\Ext w' w'1->zc x (∃(x1:Nat),int .i64 1=int .i64 (x1:Int)/\x1=zy g.s g.k/\Ext w w'1) ((∃(x1:Nat),int .i64 1=int .i64 (x1:Int)/\1<=x1/\g.k+x1<=cnt g.s/\x1<=32/\goN g.s g.k (33 - x1) x1=zy g.s g.k/\Ext w'1 w'1)/\∀(u1:Nat->Value) (x1:Nat) w'2,1<=x1/\g.k+x1<=cnt g.s/\x1<=32/\goN g.s g.k (33 - x1) x1=zy g.s g.k/\Ext w'1 w'2->∀w1,Drew w'2 w1->zc (decide ((x1:Int)<(↑(cnt g.s - g.k):Int))) (zc (decide ((x1:Int)<32)) (qd (x1:Int) (cnt g.s - g.k) fun k2=>zr g.a fun(b3 o2:Nat)=>ZG w'2 b3 (o2+k2*3+2) fun b4=>zc (!b4) (qd (0:Int) (cnt g.s - g.k) fun k3=>zr g.a fun(b5 o3:Nat)=>zX w'2 .i32 b5 (o3+k3*3) fun n1=>InR .i64 ((x1:Int) - 1)/\qd ((x1:Int) - 1) (cnt g.s - g.k) fun k4=>zr g.a fun(b6 o4:Nat)=>zX w'2 .i32 b6 (o4+k4*3) fun n2=>qd (x1:Int) (cnt g.s - g.k) fun k5=>zr g.a fun(b7 o5:Nat)=>zX w'2 .i32 b7 (o5+k5*3) fun n3=>∃(g2:GTk), #[int .i32 n1,int .i32 n2,int .i32 n3,int .i64 (x1:Int)]= #[int .i32 g2.x,int .i32 g2.z,int .i32 g2.y,int .i64 (g2.n:Int)]/\True/\∀(x2:Bool) w'3,x2=qg g2.x g2.z g2.y g2.n/\Ext w1 w'3->zc x2 (InR .i64 ((x1:Int)+1)/\∃(y:Nat),int .i64 ((x1:Int)+1)=int .i64 (y:Int)/\(1<=y/\g.k+y<=cnt g.s/\y<=32/\goN g.s g.k (33 - y) y=zy g.s g.k/\Ext w'1 w'3)/\40 - y<40 - x1) (∃(x3:Nat),int .i64 (x1:Int)=int .i64 (x3:Int)/\x3=zy g.s g.k/\Ext w w'3)) (∃(x2:Nat),int .i64 (x1:Int)=int .i64 (x2:Int)/\x2=zy g.s g.k/\Ext w w1)) (∃(x2:Nat),int .i64 (x1:Int)=int .i64 (x2:Int)/\x2=zy g.s g.k/\Ext w w1)) (∃(x2:Nat),
 int .i64 (x1:Int)=int .i64 (x2:Int)/\x2=zy g.s g.k/\Ext w w1))))):zgI.Ok Tryz.prog 102:=ze zgI zul zjd (fun _ _=>rfl) (fun _ _=>rfl) hsp Tryz.func102 rfl (n:=1) (fun _=>rfl) (by kernel_rfl) (zl (by kernel_rfl) h)
theorem zr9(hsp:zf Tryz.prog zja)(h:∀(g:ByteArray) (w:World),U8 w/\g.size<=67108864->∃(g1:ByteArray), #[string g]= #[string g1]/\(U8 w/\g1.size<=67108864)/\∀(x:Option Addr×Nat×Nat) w',x.snd.fst=cnt g1/\Made w w' (134:TypeId) 3 x.fst x.snd.fst (List.flatMap (ZV g1) (List.range (cnt g1))) x.snd.snd->(∃(x1:GAl),slice x.fst x.snd.fst x.snd.snd=slice x1.la (cnt g - bk g x1.i) x1.lc/\slice none 0 0=slice x1.oa x1.i x1.oc/\x1.i<=Zc g/\cnt g - bk g x1.i<=x1.lc/\CellsAt w' x1.la (List.flatMap (ZV g) (List.drop (bk g x1.i) (List.range (cnt g))))/\Made w' w' (142:TypeId) 2 x1.oa x1.i (List.flatMap (pcV g) (List.range x1.i)) x1.oc)/\∀(u:Nat->Value) (x1:GAl) w'1,x1.i<=Zc g/\cnt g - bk g x1.i<=x1.lc/\CellsAt w' x1.la (List.flatMap (ZV g) (List.drop (bk g x1.i) (List.range (cnt g))))/\Made w' w'1 (142:TypeId) 2 x1.oa x1.i (List.flatMap (pcV g) (List.range x1.i)) x1.oc->zc (decide ((↑(cnt g - bk g x1.i):Int)>0)) (∃(g2:GFst), #[slice x1.la (cnt g - bk g x1.i) x1.lc]= #[slice g2.a (cnt g2.s - g2.k) g2.c]/\(g2.k<cnt g2.s/\g2.s.size<=67108864/\CellsAt w'1 g2.a (List.flatMap (ZV g2.s) (List.drop g2.k (List.range (cnt g2.s)))))/\∀(x2:Nat) w'2,x2=zy g2.s g2.k/\Ext w'1 w'2->zc (decide ((x2:Int)<(↑(cnt g - bk g x1.i):Int))) (qd (x2:Int) (cnt g - bk g x1.i) fun k=>zr x1.la fun(b o:Nat)=>zt w'2 b (o+k*3+1) fun n=>∀w1,Drew w'2 w1->qd (0:Int) (cnt g - bk g x1.i) fun k1=>zr x1.la fun(b1 o1:Nat)=>zt w'2 b1 (o1+k1*3+1) fun n1=>qd (0:Int) (cnt g - bk g x1.i) fun k2=>zr x1.la fun(b2 o2:Nat)=>zt w'2 b2 (o2+k2*3+1) fun n2=>∃(k3:Nat),n2=(k3:Int)/\∃(k4:Nat),n=(k4:Int)/\k3<=k4/\k4<=g.size/\∀b3 w11,New w1 (Obj.cells #[int .i64 n1,string (g.extract k3 k4)] 142) b3 w11->Below w1.heap.size w1 w11/\∃(a':Option Addr) (c':Nat) (w'3:World),zA Tryz.prog #[104,104] 104 (slice x1.oa x1.i x1.oc) (slice (some ⟨b3,0,none⟩) 1 1) w11 a' (x1.i+1) c' w'3/\KO w11 w'3/\∃(ln:Nat),(x2:Int)=(ln:Int)/\ln<=cnt g - bk g x1.i/\∀(ad':Option Addr),SlAt x1.la ad' x1.lc ln 3->∃(y:GAl),slice ad' (cnt g - bk g x1.i - ln) (x1.lc - ln)=slice y.la (cnt g - bk g y.i) y.lc/\slice a' (x1.i+1) c'=slice y.oa y.i y.oc/\(y.i<=Zc g/\cnt g - bk g y.i<=y.lc/\CellsAt w' y.la (List.flatMap (ZV g) (List.drop (bk g y.i) (List.range (cnt g))))/\Made w' w'3 (142:TypeId) 2 y.oa y.i (List.flatMap (pcV g) (List.range y.i)) y.oc)/\Zc g - y.i<Zc g - x1.i) (∀w1,Drew w'2 w1->qd (0:Int) (cnt g - bk g x1.i) fun k=>zr x1.la fun(b o:Nat)=>zt w'2 b (o+k*3+1) fun n=>qd (0:Int) (cnt g - bk g x1.i) fun k1=>zr x1.la fun(b1 o1:Nat)=>zt w'2 b1 (o1+k1*3+1) fun n1=>∃(k2:Nat),n1=(k2:Int)/\∃(k3:Nat),(g.size:Int)=(k3:Int)/\k2<=k3/\k3<=g.size/\∀b2 w11,
 New w1 (Obj.cells #[int .i64 n,string (g.extract k2 k3)] 142) b2 w11->Below w1.heap.size w1 w11/\∃(a':Option Addr) (c':Nat) (w'3:World),zA Tryz.prog #[104,104] 104 (slice x1.oa x1.i x1.oc) (slice (some ⟨b2,0,none⟩) 1 1) w11 a' (x1.i+1) c' w'3/\KO w11 w'3/\∃(ln:Nat),(x2:Int)=(ln:Int)/\ln<=cnt g - bk g x1.i/\∀(ad':Option Addr),SlAt x1.la ad' x1.lc ln 3->∃(y:GAl),slice ad' (cnt g - bk g x1.i - ln) (x1.lc - ln)=slice y.la (cnt g - bk g y.i) y.lc/\slice a' (x1.i+1) c'=slice y.oa y.i y.oc/\(y.i<=Zc g/\cnt g - bk g y.i<=y.lc/\CellsAt w' y.la (List.flatMap (ZV g) (List.drop (bk g y.i) (List.range (cnt g))))/\Made w' w'3 (142:TypeId) 2 y.oa y.i (List.flatMap (pcV g) (List.range y.i)) y.oc)/\Zc g - y.i<Zc g - x1.i)) (∃(x2:Option Addr×Nat×Nat),slice x1.oa x1.i x1.oc=slice x2.fst x2.snd.fst x2.snd.snd/\x2.snd.fst=Zc g/\Made w w'1 (142:TypeId) 2 x2.fst x2.snd.fst (List.flatMap (pcV g) (List.range (Zc g))) x2.snd.snd)):zju.Ok Tryz.prog 73:=ze zju zuh zja (fun _ _=>rfl) (fun _ _=>rfl) hsp Tryz.func73 rfl (n:=1) (fun _=>rfl) (by kernel_rfl) (zl (by kernel_rfl) h)
theorem zpA(hsp:zf Tryz.prog zgu)(h:∀(g:ByteArray) (w:World),U8 w/\g.size<=67108864->∃(g1:ByteArray), #[string g]= #[string g1]/\(U8 w/\g1.size<=67108864)/\∀(x:Option Addr×Nat×Nat) w',x.snd.fst=cnt g1/\Made w w' (134:TypeId) 3 x.fst x.snd.fst (List.flatMap (ZV g1) (List.range (cnt g1))) x.snd.snd->zc ((x.snd.fst:Int)==0) (∃(x1:Nat),int .i64 0=int .i64 (x1:Int)/\x1=zD g/\Ext w w') (∃(g2:GFst), #[slice x.fst x.snd.fst x.snd.snd]= #[slice g2.a (cnt g2.s - g2.k) g2.c]/\(g2.k<cnt g2.s/\g2.s.size<=67108864/\CellsAt w' g2.a (List.flatMap (ZV g2.s) (List.drop g2.k (List.range (cnt g2.s)))))/\∀(x1:Nat) w'1,x1=zy g2.s g2.k/\Ext w' w'1->zc ((x1:Int)==(x.snd.fst:Int)) (∃(x2:Nat),int .i64 (g.size:Int)=int .i64 (x2:Int)/\x2=zD g/\Ext w w'1) (qd (x1:Int) x.snd.fst fun k=>zr x.fst fun(b o:Nat)=>zt w'1 b (o+k*3+1) fun n=>∃(x2:Nat),int .i64 n=int .i64 (x2:Int)/\x2=zD g/\Ext w w'1))):
    ((sSN zD)).Ok Tryz.prog 69:=ze (sSN zD) (zP zgu) zgu (fun _ _=>rfl) (fun _ _=>rfl) hsp Tryz.func69 rfl (n:=1) (fun _=>rfl) (by kernel_rfl) (zl (by kernel_rfl) h)
end

section
set_option linter.unusedVariables false
open Go Go.RowKit Vc Tb Cl
open Value
set_option maxRecDepth 1000000
theorem zkR(hsp:zf Tryz.prog [])(h:∀(g:Int) (w:World),True->∃(x:Bool),bool (decide ((127462:Int)<=g)&&decide (g<=127487))=bool x/\x=qh g/\Ext w w):
    ((sRB qh)).Ok Tryz.prog 94:=ze (sRB qh) (zP []) [] (fun _ _=>rfl) (fun _ _=>rfl) hsp Tryz.func94 rfl (n:=1) (fun _=>rfl) (by kernel_rfl) (zl (by kernel_rfl) h)
theorem zqa(hsp:zf Tryz.prog [])(h:∀(g:Int) (w:World),True->∃(x:Bool),bool (g==8204||g==8205)=bool x/\x=qj g/\Ext w w):
    ((sRB qj)).Ok Tryz.prog 93:=ze (sRB qj) (zP []) [] (fun _ _=>rfl) (fun _ _=>rfl) hsp Tryz.func93 rfl (n:=1) (fun _=>rfl) (by kernel_rfl) (zl (by kernel_rfl) h)
theorem zmT(hsp:zf Tryz.prog zrv)(h:∀(g:Int) (w:World),True->∃(g1:Int), #[int .i32 g]= #[int .i32 g1]/\True/\∀(x:Int) w',x=zn g1/\Ext w w'->zc (x==7) (∃(g2:Int×Bool), #[int .i32 g,bool false]= #[int .i32 g2.fst,bool g2.snd]/\True/\∀(x1:Int) w'1,x1=zY g2.fst g2.snd/\Ext w' w'1->∃(x2:Bool),bool (x1==2)=bool x2/\x2=qS g/\Ext w w'1) (∃(x1:Bool),bool false=bool x1/\x1=qS g/\Ext w w')):
    ((sRB qS)).Ok Tryz.prog 95:=ze (sRB qS) (zP zrv) zrv (fun _ _=>rfl) (fun _ _=>rfl) hsp Tryz.func95 rfl (n:=1) (fun _=>rfl) (by kernel_rfl) (zl (by kernel_rfl) h)
theorem zup(hsp:zf Tryz.prog zji)(h:∀(g:Int) (w:World),True->∃(g1:Int), #[int .i32 g]= #[int .i32 g1]/\True/\∀(x:Int) w',x=zn g1/\Ext w w'->zc (x==0) (∃(x1:Bool),bool true=bool x1/\x1=qe g/\Ext w w') (zc (x==1) (∃(g2:Int), #[int .i32 g]= #[int .i32 g2]/\True/\∀(x1:Bool) w'1,x1=qj g2/\Ext w' w'1->∃(x2:Bool),(bool !x1)=bool x2/\x2=qe g/\Ext w w'1) (∃(x1:Bool),bool (g==8232||g==8233)=bool x1/\x1=qe g/\Ext w w'))):
    ((sRB qe)).Ok Tryz.prog 92:=ze (sRB qe) (zP zji) zji (fun _ _=>rfl) (fun _ _=>rfl) hsp Tryz.func92 rfl (n:=1) (fun _=>rfl) (by kernel_rfl) (zl (by kernel_rfl) h)
theorem zvf(hsp:zf Tryz.prog [])(h:∀(g:Int) (w:World),True->zc (decide (g<4352)||decide (g>55203)) (∃(x:Nat),int .i64 0=int .i64 (x:Int)/\x=Qd g/\Ext w w) (zc (decide (g<=4447)) (∃(x:Nat),int .i64 1=int .i64 (x:Int)/\x=Qd g/\Ext w w) (zc (decide (g<=4519)) (∃(x:Nat),int .i64 2=int .i64 (x:Int)/\x=Qd g/\Ext w w) (zc (decide (g<=4607)) (∃(x:Nat),int .i64 4=int .i64 (x:Int)/\x=Qd g/\Ext w w) (zc (decide (g<44032)) (∃(x:Nat),int .i64 0=int .i64 (x:Int)/\x=Qd g/\Ext w w) (InR .i32 (g - 44032)/\(0:Int)<=g - 44032/\(0:Int)<28/\zc ((g - 44032)%28==0) (∃(x:Nat),int .i64 8=int .i64 (x:Int)/\x=Qd g/\Ext w w) (∃(x:Nat),int .i64 16=int .i64 (x:Int)/\x=Qd g/\Ext w w))))))):
    ((sRN Qd)).Ok Tryz.prog 117:=ze (sRN Qd) (zP []) [] (fun _ _=>rfl) (fun _ _=>rfl) hsp Tryz.func117 rfl (n:=1) (fun _=>rfl) (by kernel_rfl) (zl (by kernel_rfl) h)
theorem zta(hsp:zf Tryz.prog zmy)(h:∀(g:Int×Int) (w:World),True->∃(g1:Int), #[int .i32 g.fst]= #[int .i32 g1]/\True/\∀(x:Nat) w',x=Qd g1/\Ext w w'->zc ((x:Int)==1) (∃(g2:Int), #[int .i32 g.snd]= #[int .i32 g2]/\True/\∀(x1:Nat) w'1,x1=Qd g2/\Ext w' w'1->∃(x2:Bool),bool (IntKind.i64.wrap (↑(BitVec.ofInt IntKind.i64.bits (27:Int)&&&BitVec.ofInt IntKind.i64.bits (x1:Int)).toNat:Int) !=(0:Int))=bool x2/\x2=qs g.fst g.snd/\Ext w w'1) (zc ((x:Int)==2||(x:Int)==8) (∃(g2:Int), #[int .i32 g.snd]= #[int .i32 g2]/\True/\∀(x1:Nat) w'1,x1=Qd g2/\Ext w' w'1->∃(x2:Bool),bool (IntKind.i64.wrap (↑(BitVec.ofInt IntKind.i64.bits (6:Int)&&&BitVec.ofInt IntKind.i64.bits (x1:Int)).toNat:Int) !=(0:Int))=bool x2/\x2=qs g.fst g.snd/\Ext w w'1) (zc ((x:Int)==4||(x:Int)==16) (∃(g2:Int), #[int .i32 g.snd]= #[int .i32 g2]/\True/\∀(x1:Nat) w'1,x1=Qd g2/\Ext w' w'1->∃(x2:Bool),bool (IntKind.i64.wrap (↑(BitVec.ofInt IntKind.i64.bits (4:Int)&&&BitVec.ofInt IntKind.i64.bits (x1:Int)).toNat:Int) !=(0:Int))=bool x2/\x2=qs g.fst g.snd/\Ext w w'1) (∃(g2:Int), #[int .i32 g.snd]= #[int .i32 g2]/\True/\∀(x1:Nat) w'1,x1=Qd g2/\Ext w' w'1->∃(x2:Bool),bool false=bool x2/\x2=qs g.fst g.snd/\Ext w w'1)))):
    ((zeZ qs)).Ok Tryz.prog 96:=ze (zeZ qs) (zP zmy) zmy (fun _ _=>rfl) (fun _ _=>rfl) hsp Tryz.func96 rfl (n:=2) (fun _=>rfl) (by kernel_rfl) (zl (by kernel_rfl) h)
theorem zjD(hsp:zf Tryz.prog [])(h:∀(g:Int) (w:World),True->∃(x:Bool),bool (decide (g>=127462)&&decide (g<=127487))=bool x/\x=qh g/\Ext w w):
    ((sRB qh)).Ok Tryz.prog 108:=ze (sRB qh) (zP []) [] (fun _ _=>rfl) (fun _ _=>rfl) hsp Tryz.func108 rfl (n:=1) (fun _=>rfl) (by kernel_rfl) (zl (by kernel_rfl) h)
theorem zmQ(hsp:zf Tryz.prog [])(h:∀(g:Int) (w:World),True->∃(x:Bool),bool (g==8204||g==8205)=bool x/\x=qj g/\Ext w w):
    ((sRB qj)).Ok Tryz.prog 105:=ze (sRB qj) (zP []) [] (fun _ _=>rfl) (fun _ _=>rfl) hsp Tryz.func105 rfl (n:=1) (fun _=>rfl) (by kernel_rfl) (zl (by kernel_rfl) h)
theorem zkM(hsp:zf Tryz.prog zmn)(h:∀(g:Int) (w:World),True->∃(g1:Int), #[int .i32 g]= #[int .i32 g1]/\True/\∀(x:Int) w',x=zn g1/\w'=w->zc (x==7) (∃(g2:Int×Bool), #[int .i32 g,bool false]= #[int .i32 g2.fst,bool g2.snd]/\True/\∀(x1:Int) w'1,x1=zY g2.fst g2.snd/\w'1=w'->∃(x2:Bool),bool (x1==2)=bool x2/\x2=qS g/\Ext w w'1) (∃(x1:Bool),bool false=bool x1/\x1=qS g/\Ext w w')):
    ((sRB qS)).Ok Tryz.prog 140:=ze (sRB qS) (zP zmn) zmn (fun _ _=>rfl) (fun _ _=>rfl) hsp Tryz.func140 rfl (n:=1) (fun _=>rfl) (by kernel_rfl) (zl (by kernel_rfl) h)
theorem zpL(hsp:zf Tryz.prog zgy)(h:∀(g:Int) (w:World),True->∃(g1:Int), #[int .i32 g]= #[int .i32 g1]/\True/\∀(x:Int) w',x=zn g1/\w'=w->zc (x==0) (∃(x1:Bool),bool true=bool x1/\x1=qe g/\Ext w w') (zc (g==8232) (∃(x1:Bool),bool true=bool x1/\x1=qe g/\Ext w w') (zc (g==8233) (∃(x1:Bool),bool true=bool x1/\x1=qe g/\Ext w w') (zc (x==1) (∃(g2:Int), #[int .i32 g]= #[int .i32 g2]/\True/\∀(x1:Bool) w'1,x1=qj g2/\Ext w' w'1->∃(x2:Bool),(bool !x1)=bool x2/\x2=qe g/\Ext w w'1) (∃(x1:Bool),bool false=bool x1/\x1=qe g/\Ext w w'))))):
    ((sRB qe)).Ok Tryz.prog 126:=ze (sRB qe) (zP zgy) zgy (fun _ _=>rfl) (fun _ _=>rfl) hsp Tryz.func126 rfl (n:=1) (fun _=>rfl) (by kernel_rfl) (zl (by kernel_rfl) h)
theorem zrR(hsp:zf Tryz.prog [])(h:∀(g:Int) (w:World),True->zc (decide (g>=4352)&&decide (g<=4447)) (∃(x:Nat),int .i64 1=int .i64 (x:Int)/\x=qr g/\Ext w w) (zc (decide (g>=4448)&&decide (g<=4519)) (∃(x:Nat),int .i64 2=int .i64 (x:Int)/\x=qr g/\Ext w w) (zc (decide (g>=4520)&&decide (g<=4607)) (∃(x:Nat),int .i64 3=int .i64 (x:Int)/\x=qr g/\Ext w w) (zc (decide (g>=44032)) (zc (decide (g<=55203)) (InR .i32 (g - 44032)/\(0:Int)<=g - 44032/\(0:Int)<28/\zc ((g - 44032)%28==0) (∃(x:Nat),int .i64 4=int .i64 (x:Int)/\x=qr g/\Ext w w) (zc (decide (g>=44032)&&decide (g<=55203)) (∃(x:Nat),int .i64 5=int .i64 (x:Int)/\x=qr g/\Ext w w) (∃(x:Nat),int .i64 0=int .i64 (x:Int)/\x=qr g/\Ext w w))) (zc (decide (g>=44032)&&decide (g<=55203)) (∃(x:Nat),int .i64 5=int .i64 (x:Int)/\x=qr g/\Ext w w) (∃(x:Nat),int .i64 0=int .i64 (x:Int)/\x=qr g/\Ext w w))) (zc (decide (g>=44032)&&decide (g<=55203)) (∃(x:Nat),int .i64 5=int .i64 (x:Int)/\x=qr g/\Ext w w) (∃(x:Nat),int .i64 0=int .i64 (x:Int)/\x=qr g/\Ext w w)))))):
    ((sRN qr)).Ok Tryz.prog 149:=ze (sRN qr) (zP []) [] (fun _ _=>rfl) (fun _ _=>rfl) hsp Tryz.func149 rfl (n:=1) (fun _=>rfl) (by kernel_rfl) (zl (by kernel_rfl) h)
theorem zxE(hsp:zf Tryz.prog zrt)(h:∀(g:Int×Int) (w:World),True->∃(g1:Int), #[int .i32 g.fst]= #[int .i32 g1]/\True/\∀(x:Nat) w',x=qr g1/\Ext w w'->∃(g2:Int), #[int .i32 g.snd]= #[int .i32 g2]/\True/\∀(x1:Nat) w'1,x1=qr g2/\Ext w' w'1->zc ((x:Int)==1) (∃(x2:Bool),bool ((x1:Int)==1||((x1:Int)==2||((x1:Int)==4||(x1:Int)==5)))=bool x2/\x2=qs g.fst g.snd/\Ext w w'1) (zc ((x:Int)==2||(x:Int)==4) (∃(x2:Bool),bool ((x1:Int)==2||(x1:Int)==3)=bool x2/\x2=qs g.fst g.snd/\Ext w w'1) (zc ((x:Int)==3||(x:Int)==5) (∃(x2:Bool),bool ((x1:Int)==3)=bool x2/\x2=qs g.fst g.snd/\Ext w w'1) (∃(x2:Bool),bool false=bool x2/\x2=qs g.fst g.snd/\Ext w w'1)))):
    ((zeZ qs)).Ok Tryz.prog 141:=ze (zeZ qs) (zP zrt) zrt (fun _ _=>rfl) (fun _ _=>rfl) hsp Tryz.func141 rfl (n:=2) (fun _=>rfl) (by kernel_rfl) (zl (by kernel_rfl) h)
theorem zrk(hsp:zf Tryz.prog zi0)(h:∀(g:GTk) (w:World),True->∃(g1:Int), #[int .i32 g.y]= #[int .i32 g1]/\True/\∀(x:Int) w',x=zn g1/\w'=w->zc (x==2) (∃(x1:Bool),bool true=bool x1/\x1=qg g.x g.z g.y g.n/\Ext w w') (∃(g2:Int), #[int .i32 g.y]= #[int .i32 g2]/\True/\∀(x1:Bool) w'1,x1=qj g2/\Ext w' w'1->zc x1 (∃(x2:Bool),bool true=bool x2/\x2=qg g.x g.z g.y g.n/\Ext w w'1) (zc ((g.n:Int)==1) (∃(g3:Int), #[int .i32 g.x]= #[int .i32 g3]/\True/\∀(x2:Bool) w'2,x2=qh g3/\Ext w'1 w'2->zc x2 (∃(g4:Int), #[int .i32 g.y]= #[int .i32 g4]/\True/\∀(x3:Bool) w'3,x3=qh g4/\Ext w'2 w'3->zc x3 (∃(x4:Bool),bool true=bool x4/\x4=qg g.x g.z g.y g.n/\Ext w w'3) (zc (g.z==8205) (∃(g5:Int), #[int .i32 g.x]= #[int .i32 g5]/\True/\∀(x4:Bool) w'4,x4=qS g5/\Ext w'3 w'4->zc x4 (∃(g6:Int), #[int .i32 g.y]= #[int .i32 g6]/\True/\∀(x5:Bool) w'5,x5=qS g6/\Ext w'4 w'5->zc x5 (∃(x6:Bool),bool true=bool x6/\x6=qg g.x g.z g.y g.n/\Ext w w'5) (∃(g7:Int×Int), #[int .i32 g.z,int .i32 g.y]= #[int .i32 g7.fst,int .i32 g7.snd]/\True/\∀(x6:Bool) w'6,x6=qs g7.fst g7.snd/\Ext w'5 w'6->∃(x7:Bool),bool x6=bool x7/\x7=qg g.x g.z g.y g.n/\Ext w w'6)) (∃(g6:Int×Int), #[int .i32 g.z,int .i32 g.y]= #[int .i32 g6.fst,int .i32 g6.snd]/\True/\∀(x5:Bool) w'5,x5=qs g6.fst g6.snd/\Ext w'4 w'5->∃(x6:Bool),bool x5=bool x6/\x6=qg g.x g.z g.y g.n/\Ext w w'5)) (∃(g5:Int×Int), #[int .i32 g.z,int .i32 g.y]= #[int .i32 g5.fst,int .i32 g5.snd]/\True/\∀(x4:Bool) w'4,x4=qs g5.fst g5.snd/\Ext w'3 w'4->∃(x5:Bool),bool x4=bool x5/\x5=qg g.x g.z g.y g.n/\Ext w w'4))) (zc (g.z==8205) (∃(g4:Int), #[int .i32 g.x]= #[int .i32 g4]/\True/\∀(x3:Bool) w'3,x3=qS g4/\Ext w'2 w'3->zc x3 (∃(g5:Int), #[int .i32 g.y]= #[int .i32 g5]/\True/\∀(x4:Bool) w'4,x4=qS g5/\Ext w'3 w'4->zc x4 (∃(x5:Bool),bool true=bool x5/\x5=qg g.x g.z g.y g.n/\Ext w w'4) (∃(g6:Int×Int), #[int .i32 g.z,int .i32 g.y]= #[int .i32 g6.fst,int .i32 g6.snd]/\True/\∀(x5:Bool) w'5,x5=qs g6.fst g6.snd/\Ext w'4 w'5->∃(x6:Bool),bool x5=bool x6/\x6=qg g.x g.z g.y g.n/\Ext w w'5)) (∃(g5:Int×Int), #[int .i32 g.z,int .i32 g.y]= #[int .i32 g5.fst,int .i32 g5.snd]/\True/\∀(x4:Bool) w'4,x4=qs g5.fst g5.snd/\Ext w'3 w'4->∃(x5:Bool),bool x4=bool x5/\x5=qg g.x g.z g.y g.n/\Ext w w'4)) (∃(g4:Int×Int), #[int .i32 g.z,int .i32 g.y]= #[int .i32 g4.fst,int .i32 g4.snd]/\True/\∀(x3:Bool) w'3,x3=qs g4.fst g4.snd/\Ext w'2 w'3->∃(x4:Bool),bool x3=bool x4/\x4=qg g.x g.z g.y g.n/\Ext w w'3))) (zc (g.z==8205) (∃(g3:Int), #[int .i32 g.x]= #[int .i32 g3]/\True/\∀(x2:Bool) w'2,x2=qS g3/\Ext w'1 w'2->zc x2
 (∃(g4:Int), #[int .i32 g.y]= #[int .i32 g4]/\True/\∀(x3:Bool) w'3,x3=qS g4/\Ext w'2 w'3->zc x3 (∃(x4:Bool),bool true=bool x4/\x4=qg g.x g.z g.y g.n/\Ext w w'3) (∃(g5:Int×Int), #[int .i32 g.z,int .i32 g.y]= #[int .i32 g5.fst,int .i32 g5.snd]/\True/\∀(x4:Bool) w'4,x4=qs g5.fst g5.snd/\Ext w'3 w'4->∃(x5:Bool),bool x4=bool x5/\x5=qg g.x g.z g.y g.n/\Ext w w'4)) (∃(g4:Int×Int), #[int .i32 g.z,int .i32 g.y]= #[int .i32 g4.fst,int .i32 g4.snd]/\True/\∀(x3:Bool) w'3,x3=qs g4.fst g4.snd/\Ext w'2 w'3->∃(x4:Bool),bool x3=bool x4/\x4=qg g.x g.z g.y g.n/\Ext w w'3)) (∃(g3:Int×Int), #[int .i32 g.z,int .i32 g.y]= #[int .i32 g3.fst,int .i32 g3.snd]/\True/\∀(x2:Bool) w'2,x2=qs g3.fst g3.snd/\Ext w'1 w'2->∃(x3:Bool),bool x2=bool x3/\x3=qg g.x g.z g.y g.n/\Ext w w'2))))):zjn.Ok Tryz.prog 127:=ze zjn (zP zi0) zi0 (fun _ _=>rfl) (fun _ _=>rfl) hsp Tryz.func127 rfl (n:=4) (fun _=>rfl) (by kernel_rfl) (zl (by kernel_rfl) h)
end

section
open Go Go.RowKit Vc Tb Cl
theorem zkS:(sRB qh).Ok Tryz.prog 94:=by
  refine zkR trivial ?_
  intro r w _
  exact⟨_,rfl,rfl,Ext.refl _⟩
theorem zdL:(sRB qh).Ok Tryz.prog 108:=by
  refine zjD trivial ?_
  intro r w _
  exact⟨_,rfl,rfl,Ext.refl _⟩
theorem zis:(sRB qj).Ok Tryz.prog 93:=by
  refine zqa trivial ?_
  intro r w _
  exact⟨_,rfl,rfl,Ext.refl _⟩
theorem zdl:(sRB qj).Ok Tryz.prog 105:=by
  refine zmQ trivial ?_
  intro r w _
  exact⟨_,rfl,rfl,Ext.refl _⟩
theorem zmU:(sRB qS).Ok Tryz.prog 95:=by
  refine zmT ⟨zbq,zhA,trivial⟩ ?_
  intro r w _
  refine⟨r,rfl,trivial,?_⟩
  rintro _ w1 ⟨rfl,e1⟩
  refine zb (fun h=> ?_) (fun h=> ?_)
  ·refine⟨(r,false),rfl,trivial,?_⟩
   rintro _ w2 ⟨rfl,e2⟩
   refine⟨_,rfl,?_,e1.trans e2⟩
   unfold qS;rw[h];rfl
  ·refine⟨_,rfl,?_,e1⟩
   unfold qS;rw[h];rfl
theorem zkN:(sRB qS).Ok Tryz.prog 140:=by
  refine zkM ⟨zce,zkH,trivial⟩ ?_
  intro r w _
  refine⟨r,rfl,trivial,?_⟩
  rintro _ _ ⟨rfl,rfl⟩
  refine zb (fun h=> ?_) (fun h=> ?_)
  ·refine⟨(r,false),rfl,trivial,?_⟩
   rintro _ _ ⟨rfl,rfl⟩
   refine⟨_,rfl,?_,Ext.refl _⟩
   unfold qS;rw[h];rfl
  ·refine⟨_,rfl,?_,Ext.refl _⟩
   unfold qS;rw[h];rfl
theorem zuq:(sRB qe).Ok Tryz.prog 92:=by
  refine zup ⟨zbq,zis,trivial⟩ ?_
  intro r w _
  refine⟨r,rfl,trivial,?_⟩
  rintro _ w1 ⟨rfl,e1⟩
  refine zb (fun h=>⟨_,rfl,?_,e1⟩) (fun h=>zb (fun h1=> ?_) (fun h1=>⟨_,rfl,?_,e1⟩))
  ·unfold qe;rw[h];rfl
  ·refine⟨r,rfl,trivial,?_⟩
   rintro _ w2 ⟨rfl,e2⟩
   refine⟨_,rfl,?_,e1.trans e2⟩
   have hr:(r==8232||r==8233)=false:=by
     rw[Bool.or_eq_false_iff,beq_eq_false_iff_ne,beq_eq_false_iff_ne]
     have hk:zn r=1:=by simpa using h1
     refine⟨?_,?_⟩
     ·rintro rfl;revert hk;decide+kernel
     ·rintro rfl;revert hk;decide+kernel
   unfold qe;rw[h,h1,hr];simp
  ·unfold qe;rw[h,h1];simp
theorem zpM:(sRB qe).Ok Tryz.prog 126:=by
  refine zpL ⟨zce,zdl,trivial⟩ ?_
  intro r w _
  refine⟨r,rfl,trivial,?_⟩
  rintro _ _ ⟨rfl,rfl⟩
  refine zb (fun h=>⟨_,rfl,?_,Ext.refl _⟩) (fun h=>zb (fun h1=>⟨_,rfl,?_,Ext.refl _⟩) (fun h1=>zb (fun h2=>⟨_,rfl,?_,Ext.refl _⟩) (fun h2=>zb (fun h3=> ?_) (fun h3=>⟨_,rfl,?_,Ext.refl _⟩))))
  ·unfold qe;rw[h];rfl
  ·unfold qe;rw[h,h1];rfl
  ·unfold qe;rw[h,h1,h2];rfl
  ·refine⟨r,rfl,trivial,?_⟩
   rintro _ w2 ⟨rfl,e2⟩
   refine⟨_,rfl,?_,e2⟩
   unfold qe;rw[h,h1,h2,h3];simp
  ·unfold qe;rw[h,h1,h2,h3];rfl
theorem zvg:(sRN Qd).Ok Tryz.prog 117:=by
  refine zvf trivial ?_
  intro r w _
  have hP:∀{k:Nat} {v:Int} {n:Nat},qr r=k->zdx k=n->v=(n:Int)->∃x:Nat,Value.int .i64 v= .int .i64 (x:Int)/\x=Qd r/\Ext w w:=by
    intro k v n h1 h2 h3
    exact⟨n,by rw[h3],by unfold Qd;rw[h1,h2],Ext.refl _⟩
  refine zb (fun h=> ?_) (fun h=> ?_)
  ·have h:r<4352\/55203<r:=by simpa using h
   refine hP (k:=0) ?_ rfl rfl
   unfold qr
   rw[if_neg (by omega),if_neg (by omega),if_neg (by omega),if_neg (by omega)]
  have h:¬r<4352/\¬55203<r:=by simpa using h
  refine zb (fun h1=> ?_) (fun h1=> ?_)
  ·have h1:=of_decide_eq_true h1
   refine hP (k:=1) ?_ rfl rfl
   unfold qr;rw[if_pos (by omega)]
  have h1:=of_decide_eq_false h1
  refine zb (fun h2=> ?_) (fun h2=> ?_)
  ·have h2:=of_decide_eq_true h2
   refine hP (k:=2) ?_ rfl rfl
   unfold qr;rw[if_neg (by omega),if_pos (by omega)]
  have h2:=of_decide_eq_false h2
  refine zb (fun h3=> ?_) (fun h3=> ?_)
  ·have h3:=of_decide_eq_true h3
   refine hP (k:=3) ?_ rfl rfl
   unfold qr;rw[if_neg (by omega),if_neg (by omega),if_pos (by omega)]
  have h3:=of_decide_eq_false h3
  refine zb (fun h4=> ?_) (fun h4=> ?_)
  ·have h4:=of_decide_eq_true h4
   refine hP (k:=0) ?_ rfl rfl
   unfold qr;rw[if_neg (by omega),if_neg (by omega),if_neg (by omega),if_neg (by omega)]
  have h4:=of_decide_eq_false h4
  refine⟨qF (by omega) (by omega),by omega,by omega,zb (fun h5=> ?_) (fun h5=> ?_)⟩
  ·have h5:(r - 44032)%28=0:=by simpa using h5
   refine hP (k:=4) ?_ rfl rfl
   unfold qr;rw[if_neg (by omega),if_neg (by omega),if_neg (by omega),if_pos (by omega),if_pos h5]
  ·have h5:¬(r - 44032)%28=0:=by simpa using h5
   refine hP (k:=5) ?_ rfl rfl
   unfold qr;rw[if_neg (by omega),if_neg (by omega),if_neg (by omega),if_pos (by omega),if_neg h5]
theorem zrS:(sRN qr).Ok Tryz.prog 149:=by
  refine zrR trivial ?_
  intro r w _
  have hP:∀{n:Nat} {v:Int},qr r=n->v=(n:Int)->∃x:Nat,Value.int .i64 v= .int .i64 (x:Int)/\x=qr r/\Ext w w:=by
    intro n v h1 h3
    exact⟨n,by rw[h3],h1.symm,Ext.refl _⟩
  refine zb (fun h=> ?_) (fun h=> ?_)
  ·simp only[Bool.and_eq_true,decide_eq_true_eq]at h
   refine hP (n:=1) ?_ rfl
   unfold qr;rw[if_pos (by omega)]
  simp only[Bool.and_eq_false_iff,decide_eq_false_iff_not]at h
  refine zb (fun h1=> ?_) (fun h1=> ?_)
  ·simp only[Bool.and_eq_true,decide_eq_true_eq]at h1
   refine hP (n:=2) ?_ rfl
   unfold qr;rw[if_neg (by omega),if_pos (by omega)]
  simp only[Bool.and_eq_false_iff,decide_eq_false_iff_not]at h1
  refine zb (fun h2=> ?_) (fun h2=> ?_)
  ·simp only[Bool.and_eq_true,decide_eq_true_eq]at h2
   refine hP (n:=3) ?_ rfl
   unfold qr;rw[if_neg (by omega),if_neg (by omega),if_pos (by omega)]
  simp only[Bool.and_eq_false_iff,decide_eq_false_iff_not]at h2
  have none:¬(44032<=r/\r<=55203)->qr r=0:=fun h4=>by
    unfold qr;rw[if_neg (by omega),if_neg (by omega),if_neg (by omega),if_neg h4]
  have last:∀(A:¬(44032<=r/\r<=55203)),zc (decide (r>=44032)&&decide (r<=55203)) (∃x:Nat,Value.int .i64 5= .int .i64 (x:Int)/\x=qr r/\Ext w w) (∃x:Nat,Value.int .i64 0= .int .i64 (x:Int)/\x=qr r/\Ext w w):=fun A=>
    zb (fun h=>by simp only[Bool.and_eq_true,decide_eq_true_eq]at h;omega) (fun _=>hP (none A) rfl)
  refine zb (fun h3=> ?_) (fun h3=>last (by have:=of_decide_eq_false h3;omega))
  refine zb (fun h4=> ?_) (fun h4=>last (by have:=of_decide_eq_false h4;omega))
  have h3:=of_decide_eq_true h3
  have h4:=of_decide_eq_true h4
  refine⟨qF (by omega) (by omega),by omega,by omega,zb (fun h5=> ?_) (fun h5=> ?_)⟩
  ·have h5:(r - 44032)%28=0:=by simpa using h5
   refine hP (n:=4) ?_ rfl
   unfold qr;rw[if_neg (by omega),if_neg (by omega),if_neg (by omega),if_pos (by omega),if_pos h5]
  ·have h5:¬(r - 44032)%28=0:=by simpa using h5
   refine zb (fun _=>hP (n:=5) ?_ rfl) (fun h=>by simp only[Bool.and_eq_false_iff,decide_eq_false_iff_not]at h;omega)
   unfold qr;rw[if_neg (by omega),if_neg (by omega),if_neg (by omega),if_pos (by omega),if_neg h5]
theorem zdP(r:Int):qr r<6:=by
  unfold qr
  repeat' split
  all_goals omega
theorem zs9:∀a:Fin 6,∀b:Fin 6,(zdx a.val=1->(IntKind.i64.wrap ((BitVec.ofInt IntKind.i64.bits 27&&&BitVec.ofInt IntKind.i64.bits ((zdx b.val:Nat):Int)).toNat:Int) !=0)=zge a.val b.val)/\
    ((zdx a.val=2\/zdx a.val=8)->(IntKind.i64.wrap ((BitVec.ofInt IntKind.i64.bits 6&&&BitVec.ofInt IntKind.i64.bits ((zdx b.val:Nat):Int)).toNat:Int) !=0)=zge a.val b.val)/\
    ((zdx a.val=4\/zdx a.val=16)->(IntKind.i64.wrap ((BitVec.ofInt IntKind.i64.bits 4&&&BitVec.ofInt IntKind.i64.bits ((zdx b.val:Nat):Int)).toNat:Int) !=0)=zge a.val b.val)/\
    (zdx a.val≠1->zdx a.val≠2->zdx a.val≠8->zdx a.val≠4->zdx a.val≠16->false=zge a.val b.val):=by decide+kernel
theorem ztb:(zeZ qs).Ok Tryz.prog 96:=by
  refine zta ⟨zvg,trivial⟩ ?_
  rintro⟨a,b⟩ w _
  dsimp only
  obtain⟨g1,g2,g3,g4⟩:=zs9 ⟨qr a,zdP a⟩ ⟨qr b,zdP b⟩
  dsimp only at g1 g2 g3 g4
  refine⟨a,rfl,trivial,?_⟩
  rintro _ w1 ⟨rfl,e1⟩
  refine zb (fun h=> ?_) (fun h=> ?_)
  ·refine⟨b,rfl,trivial,?_⟩
   rintro _ w2 ⟨rfl,e2⟩
   exact⟨_,rfl,g1 (by simp only[beq_iff_eq]at h;unfold Qd at h;omega),e1.trans e2⟩
  refine zb (fun h1=> ?_) (fun h1=> ?_)
  ·refine⟨b,rfl,trivial,?_⟩
   rintro _ w2 ⟨rfl,e2⟩
   exact⟨_,rfl,g2 (by simp only[Bool.or_eq_true,beq_iff_eq]at h1;unfold Qd at h1;omega),e1.trans e2⟩
  refine zb (fun h2=> ?_) (fun h2=> ?_)
  ·refine⟨b,rfl,trivial,?_⟩
   rintro _ w2 ⟨rfl,e2⟩
   exact⟨_,rfl,g3 (by simp only[Bool.or_eq_true,beq_iff_eq]at h2;unfold Qd at h2;omega),e1.trans e2⟩
  ·refine⟨b,rfl,trivial,?_⟩
   rintro _ w2 ⟨rfl,e2⟩
   simp only[Bool.or_eq_false_iff,beq_eq_false_iff_ne,ne_eq]at h h1 h2
   unfold Qd at h h1 h2
   exact⟨_,rfl,g4 (by omega) (by omega) (by omega) (by omega) (by omega),e1.trans e2⟩
theorem zuM:∀a:Fin 6,∀b:Fin 6,(a.val=1->(((b.val:Nat):Int)==1||(((b.val:Nat):Int)==2||(((b.val:Nat):Int)==4||((b.val:Nat):Int)==5)))=zge a.val b.val)/\((a.val=2\/a.val=4)->(((b.val:Nat):Int)==2||((b.val:Nat):Int)==3)=zge a.val b.val)/\
    ((a.val=3\/a.val=5)->(((b.val:Nat):Int)==3)=zge a.val b.val)/\(a.val=0->false=zge a.val b.val):=by decide+kernel
theorem zxF:(zeZ qs).Ok Tryz.prog 141:=by
  refine zxE ⟨zrS,trivial⟩ ?_
  rintro⟨a,b⟩ w _
  dsimp only
  obtain⟨g1,g2,g3,g4⟩:=zuM ⟨qr a,zdP a⟩ ⟨qr b,zdP b⟩
  have hlt:=zdP a
  dsimp only at g1 g2 g3 g4
  refine⟨a,rfl,trivial,?_⟩
  rintro _ w1 ⟨rfl,e1⟩
  refine⟨b,rfl,trivial,?_⟩
  rintro _ w2 ⟨rfl,e2⟩
  have E:=e1.trans e2
  refine zb (fun h=>⟨_,rfl,g1 (by simp only[beq_iff_eq]at h;omega),E⟩) (fun h=> ?_)
  refine zb (fun h1=>⟨_,rfl,g2 (by simp only[Bool.or_eq_true,beq_iff_eq]at h1;omega),E⟩) (fun h1=> ?_)
  refine zb (fun h2=>⟨_,rfl,g3 (by simp only[Bool.or_eq_true,beq_iff_eq]at h2;omega),E⟩) (fun h2=> ?_)
  simp only[Bool.or_eq_false_iff,beq_eq_false_iff_ne,ne_eq]at h h1 h2
  exact⟨_,rfl,g4 (by omega),E⟩
theorem zrl:zjn.Ok Tryz.prog 127:=by
  refine zrk ⟨zce,zdl,zdL,zkN,zxF,trivial⟩ ?_
  rintro⟨x,z,y,n⟩ w _
  dsimp only
  have hn:((n:Int)==1)=(n==1):=by
    rw[Bool.eq_iff_iff,beq_iff_eq,beq_iff_eq];omega
  rw[hn]
  clear hn
  refine⟨y,rfl,trivial,?_⟩
  rintro _ w1 ⟨rfl,hw⟩
  have E:Ext w w1:=by rw[hw];exact Ext.refl w
  clear hw
  repeat' first
    |refine⟨_,rfl,?_,E⟩
    |refine zb (fun h=> ?_) (fun h=> ?_)
    |(refine⟨_,rfl,trivial,?_⟩;rintro _ _ ⟨rfl,e⟩;replace E:=E.trans e)
    |(refine⟨(_,_),rfl,trivial,?_⟩;rintro _ _ ⟨rfl,e⟩;replace E:=E.trans e)
  all_goals (clear E;simp_all only[qg,Bool.true_or,Bool.or_true,Bool.false_or,Bool.and_true,Bool.and_false,Bool.false_and,Bool.true_and,Bool.or_false])
end

section
open Go Go.RowKit Vc Ut Tb Cl
theorem zaN{s:ByteArray}(h:0<s.size):zD s=pos s (zy s 0):=by
  have h0:0<Zc s:=Nat.pos_of_ne_zero (fun e=>by have:=zld.1 e;omega)
  unfold zD bp
  rw[zfV h0]
  show pos s (bk s 0+zy s (bk s 0))=_
  rw[show bk s 0=0 from rfl,Nat.zero_add]
theorem zij{s:ByteArray}(h:s.size=0):zD s=0:=by
  have:=zhJ s 1
  unfold zD;omega
theorem zyb(s:ByteArray)(n:Nat):qR s 0 n=(decide (n<cnt s)&&(decide (n<32)&&(!zz s n&&qg (sg s 0) (sg s (n - 1)) (sg s n) n))):=by
  unfold qR;rw[Nat.zero_add]
structure At(s:ByteArray)(n:Nat):Prop where
  pos:1<=n
  cnt:n<=cnt s
  most:n<=32
  size:0<s.size
  go:goN s 0 (33 - n) n=zy s 0
theorem At.stop{s:ByteArray}{n:Nat}(h:At s n)(hg:qR s 0 n=false):Ut.pos s n=zD s:=by
  rw[zaN h.size,<-h.go,zlu hg]
theorem At.next{s:ByteArray}{n:Nat}(h:At s n)(hg:qR s 0 n=true):At s (n+1):=by
  have h1:=zlv hg
  rw[zyb]at hg
  simp only[Bool.and_eq_true,decide_eq_true_eq]at hg
  exact⟨by omega,by omega,by omega,h.size,by rw[<-h1.2];exact h.go⟩
theorem At.test{s:ByteArray}{n:Nat}(h:At s n){r:Int}{k:Nat}(hr:r=nxR (s.extract (Ut.pos s n) s.size))(hk:k=QM (s.extract (Ut.pos s n) s.size))(hn:n<32):
    (((Ut.pos s n:Int)==(s.size:Int)||r==65533&&(k:Int)==1)=true->qR s 0 n=false)/\
    (((Ut.pos s n:Int)==(s.size:Int)||r==65533&&(k:Int)==1)=false->Ut.pos s n<s.size/\r=sg s n/\k=Qh s (Ut.pos s n)/\qR s 0 n=qg (sg s 0) (sg s (n - 1)) (sg s n) n):=by
  have hle:=Zs s n
  rw[zyb]
  by_cases hp:Ut.pos s n<s.size
  ·obtain⟨e1,e2⟩:=zbK hp
   rw[e1]at hr;rw[e2]at hk
   subst hr hk
   have hc:=qK.2 hp
   have hne:((Ut.pos s n:Int)==(s.size:Int))=false:=by rw[beq_eq_false_iff_ne];omega
   have hb:(dcR s (Ut.pos s n)==65533&&((Qh s (Ut.pos s n):Nat):Int)==1)=zz s n:=by
     unfold zz
     rw[Bool.eq_iff_iff]
     simp only[Bool.and_eq_true,beq_iff_eq,decide_eq_true_eq]
     omega
   rw[hne,Bool.false_or,hb,decide_eq_true hc,decide_eq_true hn]
   refine⟨fun h=>by rw[h];rfl,fun h=>⟨hp,rfl,rfl,by rw[h];rfl⟩⟩
  ·have he:Ut.pos s n=s.size:=by omega
   have hc:¬n<Ut.cnt s:=fun hh=>hp (qK.1 hh)
   have h1:((Ut.pos s n:Int)==(s.size:Int))=true:=by rw[he];exact beq_self_eq_true _
   rw[h1]
   refine⟨fun _=>by rw[decide_eq_false hc];rfl,fun h=>by simp at h⟩
theorem zlN:(sSN zD).Ok Tryz.prog 67:=by
  refine ztL ⟨zjM,zuq,zbq,zis,zkS,zmU,ztb,trivial⟩ ?_
  rintro(s:ByteArray) w ⟨hU,hsm⟩
  have hp0:pos s 0=0:=rfl
  refine⟨?_,?_,?_,trivial⟩
  ·refine⟨s,rfl,⟨hU,hsm⟩,?_⟩
   rintro⟨r,m⟩ w1 ⟨hr,hm,e1⟩
   dsimp only at hr hm⊢
   refine zb (fun h=> ?_) (fun h=> ?_)
   ·rw[zbA]at h
    refine⟨0,rfl,?_,e1⟩
    rw[zij (of_decide_eq_true h)]
   rw[zbA]at h
   have hz:0<s.size:=Nat.pos_of_ne_zero (of_decide_eq_false h)
   have hc0:0<cnt s:=qK.2 (by rw[hp0];exact hz)
   have hR:r=sg s 0:=by rw[hr];unfold nxR sg;rw[if_neg (by omega),hp0]
   have hM:m=pos s 1:=by rw[hm,qn (n:=0) (by rw[hp0];exact hz),hp0];unfold QM;rw[if_neg (by omega),Nat.zero_add]
   have hMd:m=Qh s (pos s 0):=by rw[hM,qn (n:=0) (by rw[hp0];exact hz),hp0,Nat.zero_add]
   clear hr hm
   have go:∀{w2:World},Ext w w2->zz s 0=false->qe (sg s 0)=false->At s 1:=by
     intro w2 _ hb ha
     refine⟨Nat.le_refl _,hc0,by decide,hz,?_⟩
     have hcr:crB s 0=false:=by
       unfold crB
       by_cases h13:sg s 0=13
       ·rw[h13,zur]at ha;cases ha
       ·rw[beq_eq_false_iff_ne.2 h13];rfl
     unfold zy
     rw[if_neg (by rw[hb];decide),if_neg (by rw[hcr];decide),if_neg (by rw[ha];decide)]
   subst hR
   have key:∀{w2:World},Ext w w2->At s 1->∀(k:Nat),(m:Int)=(k:Int)->k=pos s 1:=fun _ _ k hk=>by omega
   have hbad:zz s 0=(sg s 0==65533&&(m:Int)==1):=by
     unfold zz
     rw[Bool.eq_iff_iff]
     simp only[Bool.and_eq_true,beq_iff_eq,decide_eq_true_eq]
     unfold sg
     omega
   have single:∀{w2:World},Ext w w2->(zz s 0=true\/qe (sg s 0)=true)->∃_:Unit,Value.int .i32 (sg s 0)= .int .i32 (sg s 0)/\Value.int .i64 (m:Int)= .int .i64 (pos s 1:Int)/\0<s.size/\(zz s 0=true\/qe (sg s 0)=true)/\Ext w w2:=fun e hh=>⟨(),rfl,by rw[hM],hz,hh,e⟩
   refine zb (fun h1=>zb (fun h2=>single e1 (.inl (by rw[hbad,h1,h2];rfl))) (fun h2=> ?_)) (fun h1=> ?_)
   ·have hb:zz s 0=false:=by rw[hbad];simp[h2]
    refine⟨sg s 0,rfl,trivial,?_⟩
    rintro _ w2 ⟨rfl,e2⟩
    refine zb (fun ha=>single (e1.trans e2) (.inr ha)) (fun ha=> ?_)
    have hA:=go (e1.trans e2) hb ha
    have hple:=Zs s 1
    refine⟨pos s 1,by rw[hM],hple,Nat.le_refl _,_,rfl,⟨hU.ext (e1.trans e2),zbo hsm⟩,?_⟩
    rintro⟨r',m'⟩ w3 ⟨hr',hm',e3⟩
    dsimp only at hr' hm'⊢
    obtain⟨t1,t2⟩:=hA.test hr' hm' (by decide)
    have E3:=(e1.trans e2).trans e3
    rw[hM]
    refine⟨?_,?_⟩
    ·refine zb (fun h3=>⟨_,rfl,hA.stop (t1 h3),E3⟩) (fun h3=> ?_)
     obtain⟨hp,hr2,hm2,hgo⟩:=t2 h3
     clear t1 t2 h3 hr' hm'
     subst hr2
     have take:qg (sg s 0) (sg s 0) (sg s 1) 1=true->qR s 0 1=true:=fun h=>by rw[hgo];exact h
     have stop:qg (sg s 0) (sg s 0) (sg s 1) 1=false->pos s 1=zD s:=fun h=>hA.stop (by rw[hgo];exact h)
     refine⟨sg s 1,rfl,trivial,?_⟩
     rintro _ w4 ⟨rfl,e4⟩
     clear hgo single hbad go key h1 hb ha
     have E:=e4
     clear e4
     repeat' first
       |refine⟨1,rfl,take ?_,E⟩
       |refine⟨_,rfl,stop ?_,E3.trans E⟩
       |refine zb (fun h=> ?_) (fun h=> ?_)
       |(refine⟨_,rfl,trivial,?_⟩;rintro _ _ ⟨rfl,e⟩;replace E:=E.trans e)
       |(refine⟨(_,_),rfl,trivial,?_⟩;rintro _ _ ⟨rfl,e⟩;replace E:=E.trans e)
     all_goals (clear E take stop;first|(simp_all only[qg,Bool.true_or,Bool.or_true,Bool.false_or,Bool.or_false,Bool.and_true,Bool.and_false,Bool.false_and,Bool.true_and,beq_self_eq_true,reduceCtorEq];done)|(simp_all only[qg,Bool.true_or,Bool.or_true,Bool.false_or,Bool.or_false,Bool.and_true,Bool.and_false,Bool.false_and,Bool.true_and,beq_self_eq_true,reduceCtorEq];rename_i h;exact h))
    ·rintro _ c w5 ⟨hc,hg,e5⟩
     have hc1:c=1:=by omega
     subst hc1
     have hN:=hA.next hg
     have hp:=qK.1 (show 1<cnt s from hN.cnt)
     obtain⟨x1,x2⟩:=zbK hp
     rw[x1]at hr';rw[x2]at hm'
     have hdc:=za8 hp
     have hps:=qn hp
     refine⟨zd (by omega) (by omega),zd (by omega) (by omega),2,rfl,by rw[hr'];rfl,rfl,?_,hN.pos,hN.cnt,hN.most,hN.size,hN.go,E3.trans e5⟩
     rw[hps,hm'];simp
   ·have hb:zz s 0=false:=by rw[hbad];simp[h1]
    refine⟨sg s 0,rfl,trivial,?_⟩
    rintro _ w2 ⟨rfl,e2⟩
    refine zb (fun ha=>single (e1.trans e2) (.inr ha)) (fun ha=> ?_)
    have hA:=go (e1.trans e2) hb ha
    have hple:=Zs s 1
    refine⟨pos s 1,by rw[hM],hple,Nat.le_refl _,_,rfl,⟨hU.ext (e1.trans e2),zbo hsm⟩,?_⟩
    rintro⟨r',m'⟩ w3 ⟨hr',hm',e3⟩
    dsimp only at hr' hm'⊢
    obtain⟨t1,t2⟩:=hA.test hr' hm' (by decide)
    have E3:=(e1.trans e2).trans e3
    rw[hM]
    refine⟨?_,?_⟩
    ·refine zb (fun h3=>⟨_,rfl,hA.stop (t1 h3),E3⟩) (fun h3=> ?_)
     obtain⟨hp,hr2,hm2,hgo⟩:=t2 h3
     clear t1 t2 h3 hr' hm'
     subst hr2
     have take:qg (sg s 0) (sg s 0) (sg s 1) 1=true->qR s 0 1=true:=fun h=>by rw[hgo];exact h
     have stop:qg (sg s 0) (sg s 0) (sg s 1) 1=false->pos s 1=zD s:=fun h=>hA.stop (by rw[hgo];exact h)
     refine⟨sg s 1,rfl,trivial,?_⟩
     rintro _ w4 ⟨rfl,e4⟩
     clear hgo single hbad go key h1 hb ha
     have E:=e4
     clear e4
     repeat' first
       |refine⟨1,rfl,take ?_,E⟩
       |refine⟨_,rfl,stop ?_,E3.trans E⟩
       |refine zb (fun h=> ?_) (fun h=> ?_)
       |(refine⟨_,rfl,trivial,?_⟩;rintro _ _ ⟨rfl,e⟩;replace E:=E.trans e)
       |(refine⟨(_,_),rfl,trivial,?_⟩;rintro _ _ ⟨rfl,e⟩;replace E:=E.trans e)
     all_goals (clear E take stop;first|(simp_all only[qg,Bool.true_or,Bool.or_true,Bool.false_or,Bool.or_false,Bool.and_true,Bool.and_false,Bool.false_and,Bool.true_and,beq_self_eq_true,reduceCtorEq];done)|(simp_all only[qg,Bool.true_or,Bool.or_true,Bool.false_or,Bool.or_false,Bool.and_true,Bool.and_false,Bool.false_and,Bool.true_and,beq_self_eq_true,reduceCtorEq];rename_i h;exact h))
    ·rintro _ c w5 ⟨hc,hg,e5⟩
     have hc1:c=1:=by omega
     subst hc1
     have hN:=hA.next hg
     have hp:=qK.1 (show 1<cnt s from hN.cnt)
     obtain⟨x1,x2⟩:=zbK hp
     rw[x1]at hr';rw[x2]at hm'
     have hdc:=za8 hp
     have hps:=qn hp
     refine⟨zd (by omega) (by omega),zd (by omega) (by omega),2,rfl,by rw[hr'];rfl,rfl,?_,hN.pos,hN.cnt,hN.most,hN.size,hN.go,E3.trans e5⟩
     rw[hps,hm'];simp
  ·rintro _ n w1 ⟨n1,n2,n3,n4,n5,e1⟩
   have hA:At s n:=⟨n1,n2,n3,n4,n5⟩
   refine zb (fun h=>⟨_,rfl,hA.stop ?_,e1⟩) (fun h=> ?_)
   ·have h:n=32:=by simp only[beq_iff_eq]at h;omega
    rw[zyb,h];simp
   have hn:n<32:=by simp only[beq_eq_false_iff_ne,ne_eq]at h;omega
   have hple:=Zs s n
   refine⟨pos s n,rfl,hple,Nat.le_refl _,_,rfl,⟨hU.ext e1,zbo hsm⟩,?_⟩
   rintro⟨r',m'⟩ w3 ⟨hr',hm',e3⟩
   dsimp only at hr' hm'⊢
   obtain⟨t1,t2⟩:=hA.test hr' hm' hn
   have E3:=e1.trans e3
   have hnb:((n:Int)==1)=(n==1):=by
     rw[Bool.eq_iff_iff,beq_iff_eq,beq_iff_eq];omega
   refine⟨?_,?_⟩
   ·refine zb (fun h3=>⟨_,rfl,hA.stop (t1 h3),E3⟩) (fun h3=> ?_)
    obtain⟨hp,hr2,hm2,hgo⟩:=t2 h3
    clear t1 t2 h3 hr' hm'
    subst hr2
    have take:qg (sg s 0) (sg s (n - 1)) (sg s n) n=true->qR s 0 n=true:=fun h=>by rw[hgo];exact h
    have stop:qg (sg s 0) (sg s (n - 1)) (sg s n) n=false->pos s n=zD s:=fun h=>hA.stop (by rw[hgo];exact h)
    refine⟨sg s n,rfl,trivial,?_⟩
    rintro _ w4 ⟨rfl,e4⟩
    rw[hnb]
    clear hgo hnb h
    have E:=e4
    clear e4
    repeat' first
      |refine⟨n,rfl,take ?_,E⟩
      |refine⟨_,rfl,stop ?_,E3.trans E⟩
      |refine zb (fun h=> ?_) (fun h=> ?_)
      |(refine⟨_,rfl,trivial,?_⟩;rintro _ _ ⟨rfl,e⟩;replace E:=E.trans e)
      |(refine⟨(_,_),rfl,trivial,?_⟩;rintro _ _ ⟨rfl,e⟩;replace E:=E.trans e)
    all_goals (clear E take stop;first|(simp_all only[qg,Bool.true_or,Bool.or_true,Bool.false_or,Bool.or_false,Bool.and_true,Bool.and_false,Bool.false_and,Bool.true_and,reduceCtorEq];done)|(simp_all only[qg,Bool.true_or,Bool.or_true,Bool.false_or,Bool.or_false,Bool.and_true,Bool.and_false,Bool.false_and,Bool.true_and,reduceCtorEq];rename_i h;exact h))
   ·rintro _ c w5 ⟨hc,hg,e5⟩
    have hc1:c=n:=by omega
    subst hc1
    have hN:=hA.next hg
    have hp:=qK.1 (show c<cnt s from hN.cnt)
    obtain⟨x1,x2⟩:=zbK hp
    rw[x1]at hr';rw[x2]at hm'
    have hdc:=za8 hp
    have hps:=qn hp
    refine⟨zd (by omega) (by omega),zd (by omega) (by omega),c+1,rfl,by rw[hr'];rfl,by simp,?_,⟨hN.pos,hN.cnt,hN.most,hN.size,hN.go,E3.trans e5⟩,by omega⟩
    rw[hps,hm'];simp
  ·rintro _ _ w1 ⟨hz,hs,e1⟩
   have hno:∀{w2:World},¬(crB s 0=true)->pos s 1=zD s:=by
     intro _ hcr
     rw[zaN hz]
     unfold zy
     rcases hs with hs|hs
     ·rw[if_pos hs]
     ·split
      ·rfl
      ·simp only[if_neg hcr,if_pos hs]
   refine zb (fun h=> ?_) (fun h=>⟨_,rfl,hno (w2:=w) ?_,e1⟩)
   ·have h13:sg s 0=13:=by simpa using h
    obtain⟨c1,c2,c3⟩:=zxs hz h13
    have hnb:¬zz s 0=true:=by
      unfold zz
      simp only[decide_eq_true_eq]
      unfold sg at h13
      omega
    refine zb (fun h1=> ?_) (fun h1=>⟨_,rfl,hno (w2:=w) ?_,e1⟩)
    ·have h1:=of_decide_eq_true h1
     refine⟨1,rfl,by omega,zb (fun h2=>⟨2,rfl,?_,e1⟩) (fun h2=>⟨_,rfl,hno (w2:=w) ?_,e1⟩)⟩
     ·have hb:bt s 1=10:=by simp only[beq_iff_eq]at h2;unfold bt;omega
      have hcr:=c2.2 ⟨by omega,hb⟩
      rw[zaN hz]
      unfold zy
      rw[if_neg hnb,if_pos hcr,c3 hcr]
     ·intro hcr
      have:=(c2.1 hcr).2
      simp only[beq_eq_false_iff_ne,ne_eq]at h2
      unfold bt at this
      omega
    ·have h1:=of_decide_eq_false h1
     intro hcr
     have:=(c2.1 hcr).1
     omega
   ·intro hcr
    unfold crB at hcr
    rw[h]at hcr
    cases hcr
end

section
open Go Go.RowKit Vc Ut Tb Cl Orb
theorem zjT{s:ByteArray}{k:Nat}:∀{f n m:Nat},n<=m->m<goN s k f n->qR s k m=true
  |0,n,m,h1,h2=>by simp only[goN]at h2;omega
  |f+1,n,m,h1,h2=>by
   simp only[goN]at h2
   split at h2
   ·rename_i hg
    by_cases he:m=n
    ·subst he;exact hg
    ·exact zjT (by omega) h2
   ·omega
theorem zqD{s:ByteArray}{k m:Nat}(h:m<zy s k)(hb:zz s (k+m)=true):m=0/\zy s k=1:=by
  by_cases h0:zz s k=true
  ·have:zy s k=1:=by unfold zy;rw[if_pos h0]
   omega
  ·have hm:m≠0:=by rintro rfl;exact h0 hb
   exfalso
   unfold zy at h
   rw[if_neg h0]at h
   split at h
   ·rename_i hc
    have hm1:m=1:=by omega
    subst hm1
    simp only[crB,Bool.and_eq_true,beq_iff_eq]at hc
    have h10:=hc.2.2
    unfold sg at h10
    simp only[zz,decide_eq_true_eq]at hb
    omega
   ·split at h
    ·omega
    ·have:=zjT (show 1<=m by omega) h
     simp only[qR,Bool.and_eq_true]at this
     rw[hb]at this
     simp at this
end
end Go.Proofs.YtjdohhididpomaaGreatDoor
