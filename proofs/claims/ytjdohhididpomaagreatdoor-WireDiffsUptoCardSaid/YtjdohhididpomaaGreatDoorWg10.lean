/-
  Texts joined by program: VgSf, VgB, VgA, Gn, WkA, El, WkB, Gi.
-/
import Derived.Test.YtjdohhididpomaaGreatDoorWg06
import Derived.Test.YtjdohhididpomaaGreatDoorProg
import Derived.KernelRfl
import Derived.Test.YtjdohhididpomaaGreatDoorWg05
import Derived.Test.YtjdohhididpomaaGreatDoorWg03
import Derived.Test.YtjdohhididpomaaGreatDoorSh
set_option linter.unusedVariables false
set_option linter.unusedSimpArgs false

namespace Go.Proofs.YtjdohhididpomaaGreatDoor
section
set_option linter.unusedVariables false
open Go Go.RowKit Vc Ut Tb Cl
open Value
set_option maxRecDepth 1000000
theorem zuF(hsp:zf Tryz.prog [])(h:∀(g:Unit) (w:World),DB w->InR IntKind.u64 (IntKind.u64.wrap (↑(BitVec.ofInt IntKind.u64.bits (16:Int)&&&BitVec.ofInt IntKind.u64.bits (IntKind.u64.wrap ((0:Int) - 16))).toNat:Int)*(285870213051353865:Int))/\qd (15:Int) 64 fun k=>zX w .u8 (5) (0+k) fun n=>InR .i64 n/\∃(x:Unit),int .i64 n=int .i64 4/\w=w):
    ((sTz .u64)).Ok Tryz.prog 151:=ze (sTz .u64) (zP []) [] (fun _ _=>rfl) (fun _ _=>rfl) hsp Tryz.func151 rfl (n:=1) (fun _=>rfl) (by kernel_rfl) (zl (by kernel_rfl) h)
theorem zyP(hsp:zf Tryz.prog zxI)(h:∀(g:Unit) (w:World),DB w->∃(g1:Unit), #[int .u64 16]= #[int .u64 16]/\DB w/\∀(x:Unit) w',w'=w->∃(x1:Unit),int .i64 4=int .i64 4/\w'=w):
    ((sTz .u64)).Ok Tryz.prog 146:=ze (sTz .u64) (zP zxI) zxI (fun _ _=>rfl) (fun _ _=>rfl) hsp Tryz.func146 rfl (n:=1) (fun _=>rfl) (by kernel_rfl) (zl (by kernel_rfl) h)
theorem zxQ(hsp:zf Tryz.prog [])(h:∀(g:Unit) (w:World),True->InR .i64 ((16:Int) - 1)/\∃(x:Unit),bool true=bool true/\w=w):zuS.Ok Tryz.prog 145:=ze zuS (zP []) [] (fun _ _=>rfl) (fun _ _=>rfl) hsp Tryz.func145 rfl (n:=1) (fun _=>rfl) (by kernel_rfl) (zl (by kernel_rfl) h)
theorem zwK(hsp:zf Tryz.prog zca)(h:∀(g:Nat) (w:World),DB w/\16^(2 - 1)<=g/\g<16^2->∀b w1,New w (Obj.cells #[int .u8 0,int .u8 0,int .u8 0,int .u8 0,int .u8 0,int .u8 0,int .u8 0,int .u8 0,int .u8 0,int .u8 0,int .u8 0,int .u8 0,int .u8 0,int .u8 0,int .u8 0,int .u8 0,int .u8 0,int .u8 0,int .u8 0,int .u8 0,int .u8 0,int .u8 0,int .u8 0,int .u8 0,int .u8 0,int .u8 0,int .u8 0,int .u8 0,int .u8 0,int .u8 0,int .u8 0,int .u8 0,int .u8 0,int .u8 0,int .u8 0,int .u8 0,int .u8 0,int .u8 0,int .u8 0,int .u8 0,int .u8 0,int .u8 0,int .u8 0,int .u8 0,int .u8 0,int .u8 0,int .u8 0,int .u8 0,int .u8 0,int .u8 0,int .u8 0,int .u8 0,int .u8 0,int .u8 0,int .u8 0,int .u8 0,int .u8 0,int .u8 0,int .u8 0,int .u8 0,int .u8 0,int .u8 0,int .u8 0,int .u8 0,int .u8 0] 184) b w1->∃(g1:Unit), #[int .i64 16]= #[int .i64 16]/\True/\∀(x:Unit) w',w'=w1->InR .u64 (16:Int)/\∃(g2:Unit), #[int .u64 16]= #[int .u64 16]/\DB w'/\∀(x1:Unit) w'1,w'1=w'->InR .u64 (4:Int)/\InR .u64 (16:Int)/\InR .u64 (16:Int)/\InR .u64 ((16:Int) - 1)/\((∃(x2:Nat),int .i64 65=int .i64 ((65:Int) - (x2:Int))/\int .u64 (g:Int)=int .u64 (↑(g / (16:Nat)^x2):Int)/\x2+1<=2/\(∃(b1:Nat),pointer (some ⟨b,0,none⟩)=pointer (some ⟨b1,0,none⟩)/\w.heap.size<=b1/\w'1.heap[b1]? =some (Obj.cells (ZE g x2).toArray (184:TypeId)))/\Ext w w'1)/\∀(u:Nat->Value) (x2:Nat) (w'2:World),x2+1<=2/\(∃(b1:Nat),pointer (some ⟨b,0,none⟩)=pointer (some ⟨b1,0,none⟩)/\w.heap.size<=b1/\w'2.heap[b1]? =some (Obj.cells (ZE g x2).toArray (184:TypeId)))/\Ext w w'2->zc (decide ((↑(g / (16:Nat)^x2):Int)>=16)) (InR .i64 ((65:Int) - (x2:Int) - 1)/\∃(k:Nat),IntKind.u64.wrap (↑(BitVec.ofInt IntKind.u64.bits (↑(g / (16:Nat)^x2):Int)&&&BitVec.ofInt IntKind.u64.bits ((16:Int) - 1)).toNat:Int)=(k:Int)/\k<(ByteArray.mk #[(48:UInt8),(49:UInt8),(50:UInt8),(51:UInt8),(52:UInt8),(53:UInt8),(54:UInt8),(55:UInt8),(56:UInt8),(57:UInt8),(97:UInt8),(98:UInt8),(99:UInt8),(100:UInt8),(101:UInt8),(102:UInt8),(103:UInt8),(104:UInt8),(105:UInt8),(106:UInt8),(107:UInt8),(108:UInt8),(109:UInt8),(110:UInt8),(111:UInt8),(112:UInt8),(113:UInt8),(114:UInt8),(115:UInt8),(116:UInt8),(117:UInt8),(118:UInt8),(119:UInt8),(120:UInt8),(121:UInt8),(122:UInt8)]).size/\qd ((65:Int) - (x2:Int) - 1) 65 fun k1=>zh w'2 b (0+k1) (int IntKind.u8 (↑([(48:UInt8),(49:UInt8),(50:UInt8),(51:UInt8),(52:UInt8),(53:UInt8),(54:UInt8),(55:UInt8),(56:UInt8),(57:UInt8),(97:UInt8),(98:UInt8),(99:UInt8),(100:UInt8),(101:UInt8),(102:UInt8),(103:UInt8),(104:UInt8),(105:UInt8),(106:UInt8),(107:UInt8),(108:UInt8),(109:UInt8),(110:UInt8),
 (111:UInt8),(112:UInt8),(113:UInt8),(114:UInt8),(115:UInt8),(116:UInt8),(117:UInt8),(118:UInt8),(119:UInt8),(120:UInt8),(121:UInt8),(122:UInt8)].getD k (0:UInt8)).toNat:Int)) fun w11=>∃(y:Nat),int .i64 ((65:Int) - (x2:Int) - 1)=int .i64 ((65:Int) - (y:Int))/\int .u64 ((↑(g / (16:Nat)^x2):Int).fdiv ((2:Int)^min (Int.toNat (4:Int)) IntKind.u64.bits))=int .u64 (↑(g / (16:Nat)^y):Int)/\(y+1<=2/\(∃(b1:Nat),pointer (some ⟨b,0,none⟩)=pointer (some ⟨b1,0,none⟩)/\w.heap.size<=b1/\w11.heap[b1]? =some (Obj.cells (ZE g y).toArray (184:TypeId)))/\Ext w w11)/\2 - y<2 - x2) (∃(c:Unit),int .i64 ((65:Int) - (x2:Int))=int .i64 64/\int .u64 (↑(g / (16:Nat)^x2):Int)=int .u64 (↑(g / (16:Nat)^((2:Nat) - (1:Nat))):Int)/\(∃(b1:Nat) (j:Nat),pointer (some ⟨b,0,none⟩)=pointer (some ⟨b1,0,none⟩)/\w.heap.size<=b1/\j+1=2/\w'2.heap[b1]? =some (Obj.cells (ZE g j).toArray (184:TypeId)))/\Ext w w'2))/\∀(u:Nat->Value) (c:Unit) (w'2:World),(∃(b1:Nat) (j:Nat),pointer (some ⟨b,0,none⟩)=pointer (some ⟨b1,0,none⟩)/\w.heap.size<=b1/\j+1=2/\w'2.heap[b1]? =some (Obj.cells (ZE g j).toArray (184:TypeId)))/\Ext w w'2->InR .i64 ((64:Int) - 1)/\∃(k:Nat),(↑(g / (16:Nat)^((2:Nat) - (1:Nat))):Int)=(k:Int)/\k<(ByteArray.mk #[(48:UInt8),(49:UInt8),(50:UInt8),(51:UInt8),(52:UInt8),(53:UInt8),(54:UInt8),(55:UInt8),(56:UInt8),(57:UInt8),(97:UInt8),(98:UInt8),(99:UInt8),(100:UInt8),(101:UInt8),(102:UInt8),(103:UInt8),(104:UInt8),(105:UInt8),(106:UInt8),(107:UInt8),(108:UInt8),(109:UInt8),(110:UInt8),(111:UInt8),(112:UInt8),(113:UInt8),(114:UInt8),(115:UInt8),(116:UInt8),(117:UInt8),(118:UInt8),(119:UInt8),(120:UInt8),(121:UInt8),(122:UInt8)]).size/\qd (63:Int) 65 fun k1=>zh w'2 b (0+k1) (int IntKind.u8 (↑([(48:UInt8),(49:UInt8),(50:UInt8),(51:UInt8),(52:UInt8),(53:UInt8),(54:UInt8),(55:UInt8),(56:UInt8),(57:UInt8),(97:UInt8),(98:UInt8),(99:UInt8),(100:UInt8),(101:UInt8),(102:UInt8),(103:UInt8),(104:UInt8),(105:UInt8),(106:UInt8),(107:UInt8),(108:UInt8),(109:UInt8),(110:UInt8),(111:UInt8),(112:UInt8),(113:UInt8),(114:UInt8),(115:UInt8),(116:UInt8),(117:UInt8),(118:UInt8),(119:UInt8),(120:UInt8),(121:UInt8),(122:UInt8)].getD k (0:UInt8)).toNat:Int)) fun w11=>∃(str:ByteArray),Zz w11 (some ⟨b,63,none⟩) (65 - ((64:Int) - 1).toNat) str/\∃(x2:Unit×ByteArray),tuple #[slice none 0 0,string str]=tuple #[slice none 0 0,string x2.snd]/\x2.snd=qA (qT g 2)/\Ext w w11):
    ((zaF 2)).Ok Tryz.prog 133:=ze (zaF 2) (zeb 2 64) zca (fun _ _=>rfl) (fun _ _=>rfl) hsp Tryz.func133 rfl (n:=5) (fun _=>rfl) (by kernel_rfl) (zl (by kernel_rfl) h)
theorem zwI(hsp:zf Tryz.prog zca)(h:∀(g:Nat) (w:World),DB w/\16^(3 - 1)<=g/\g<16^3->∀b w1,New w (Obj.cells #[int .u8 0,int .u8 0,int .u8 0,int .u8 0,int .u8 0,int .u8 0,int .u8 0,int .u8 0,int .u8 0,int .u8 0,int .u8 0,int .u8 0,int .u8 0,int .u8 0,int .u8 0,int .u8 0,int .u8 0,int .u8 0,int .u8 0,int .u8 0,int .u8 0,int .u8 0,int .u8 0,int .u8 0,int .u8 0,int .u8 0,int .u8 0,int .u8 0,int .u8 0,int .u8 0,int .u8 0,int .u8 0,int .u8 0,int .u8 0,int .u8 0,int .u8 0,int .u8 0,int .u8 0,int .u8 0,int .u8 0,int .u8 0,int .u8 0,int .u8 0,int .u8 0,int .u8 0,int .u8 0,int .u8 0,int .u8 0,int .u8 0,int .u8 0,int .u8 0,int .u8 0,int .u8 0,int .u8 0,int .u8 0,int .u8 0,int .u8 0,int .u8 0,int .u8 0,int .u8 0,int .u8 0,int .u8 0,int .u8 0,int .u8 0,int .u8 0] 184) b w1->∃(g1:Unit), #[int .i64 16]= #[int .i64 16]/\True/\∀(x:Unit) w',w'=w1->InR .u64 (16:Int)/\∃(g2:Unit), #[int .u64 16]= #[int .u64 16]/\DB w'/\∀(x1:Unit) w'1,w'1=w'->InR .u64 (4:Int)/\InR .u64 (16:Int)/\InR .u64 (16:Int)/\InR .u64 ((16:Int) - 1)/\((∃(x2:Nat),int .i64 65=int .i64 ((65:Int) - (x2:Int))/\int .u64 (g:Int)=int .u64 (↑(g / (16:Nat)^x2):Int)/\x2+1<=3/\(∃(b1:Nat),pointer (some ⟨b,0,none⟩)=pointer (some ⟨b1,0,none⟩)/\w.heap.size<=b1/\w'1.heap[b1]? =some (Obj.cells (ZE g x2).toArray (184:TypeId)))/\Ext w w'1)/\∀(u:Nat->Value) (x2:Nat) (w'2:World),x2+1<=3/\(∃(b1:Nat),pointer (some ⟨b,0,none⟩)=pointer (some ⟨b1,0,none⟩)/\w.heap.size<=b1/\w'2.heap[b1]? =some (Obj.cells (ZE g x2).toArray (184:TypeId)))/\Ext w w'2->zc (decide ((↑(g / (16:Nat)^x2):Int)>=16)) (InR .i64 ((65:Int) - (x2:Int) - 1)/\∃(k:Nat),IntKind.u64.wrap (↑(BitVec.ofInt IntKind.u64.bits (↑(g / (16:Nat)^x2):Int)&&&BitVec.ofInt IntKind.u64.bits ((16:Int) - 1)).toNat:Int)=(k:Int)/\k<(ByteArray.mk #[(48:UInt8),(49:UInt8),(50:UInt8),(51:UInt8),(52:UInt8),(53:UInt8),(54:UInt8),(55:UInt8),(56:UInt8),(57:UInt8),(97:UInt8),(98:UInt8),(99:UInt8),(100:UInt8),(101:UInt8),(102:UInt8),(103:UInt8),(104:UInt8),(105:UInt8),(106:UInt8),(107:UInt8),(108:UInt8),(109:UInt8),(110:UInt8),(111:UInt8),(112:UInt8),(113:UInt8),(114:UInt8),(115:UInt8),(116:UInt8),(117:UInt8),(118:UInt8),(119:UInt8),(120:UInt8),(121:UInt8),(122:UInt8)]).size/\qd ((65:Int) - (x2:Int) - 1) 65 fun k1=>zh w'2 b (0+k1) (int IntKind.u8 (↑([(48:UInt8),(49:UInt8),(50:UInt8),(51:UInt8),(52:UInt8),(53:UInt8),(54:UInt8),(55:UInt8),(56:UInt8),(57:UInt8),(97:UInt8),(98:UInt8),(99:UInt8),(100:UInt8),(101:UInt8),(102:UInt8),(103:UInt8),(104:UInt8),(105:UInt8),(106:UInt8),(107:UInt8),(108:UInt8),(109:UInt8),(110:UInt8),
 (111:UInt8),(112:UInt8),(113:UInt8),(114:UInt8),(115:UInt8),(116:UInt8),(117:UInt8),(118:UInt8),(119:UInt8),(120:UInt8),(121:UInt8),(122:UInt8)].getD k (0:UInt8)).toNat:Int)) fun w11=>∃(y:Nat),int .i64 ((65:Int) - (x2:Int) - 1)=int .i64 ((65:Int) - (y:Int))/\int .u64 ((↑(g / (16:Nat)^x2):Int).fdiv ((2:Int)^min (Int.toNat (4:Int)) IntKind.u64.bits))=int .u64 (↑(g / (16:Nat)^y):Int)/\(y+1<=3/\(∃(b1:Nat),pointer (some ⟨b,0,none⟩)=pointer (some ⟨b1,0,none⟩)/\w.heap.size<=b1/\w11.heap[b1]? =some (Obj.cells (ZE g y).toArray (184:TypeId)))/\Ext w w11)/\3 - y<3 - x2) (∃(c:Unit),int .i64 ((65:Int) - (x2:Int))=int .i64 63/\int .u64 (↑(g / (16:Nat)^x2):Int)=int .u64 (↑(g / (16:Nat)^((3:Nat) - (1:Nat))):Int)/\(∃(b1:Nat) (j:Nat),pointer (some ⟨b,0,none⟩)=pointer (some ⟨b1,0,none⟩)/\w.heap.size<=b1/\j+1=3/\w'2.heap[b1]? =some (Obj.cells (ZE g j).toArray (184:TypeId)))/\Ext w w'2))/\∀(u:Nat->Value) (c:Unit) (w'2:World),(∃(b1:Nat) (j:Nat),pointer (some ⟨b,0,none⟩)=pointer (some ⟨b1,0,none⟩)/\w.heap.size<=b1/\j+1=3/\w'2.heap[b1]? =some (Obj.cells (ZE g j).toArray (184:TypeId)))/\Ext w w'2->InR .i64 ((63:Int) - 1)/\∃(k:Nat),(↑(g / (16:Nat)^((3:Nat) - (1:Nat))):Int)=(k:Int)/\k<(ByteArray.mk #[(48:UInt8),(49:UInt8),(50:UInt8),(51:UInt8),(52:UInt8),(53:UInt8),(54:UInt8),(55:UInt8),(56:UInt8),(57:UInt8),(97:UInt8),(98:UInt8),(99:UInt8),(100:UInt8),(101:UInt8),(102:UInt8),(103:UInt8),(104:UInt8),(105:UInt8),(106:UInt8),(107:UInt8),(108:UInt8),(109:UInt8),(110:UInt8),(111:UInt8),(112:UInt8),(113:UInt8),(114:UInt8),(115:UInt8),(116:UInt8),(117:UInt8),(118:UInt8),(119:UInt8),(120:UInt8),(121:UInt8),(122:UInt8)]).size/\qd (62:Int) 65 fun k1=>zh w'2 b (0+k1) (int IntKind.u8 (↑([(48:UInt8),(49:UInt8),(50:UInt8),(51:UInt8),(52:UInt8),(53:UInt8),(54:UInt8),(55:UInt8),(56:UInt8),(57:UInt8),(97:UInt8),(98:UInt8),(99:UInt8),(100:UInt8),(101:UInt8),(102:UInt8),(103:UInt8),(104:UInt8),(105:UInt8),(106:UInt8),(107:UInt8),(108:UInt8),(109:UInt8),(110:UInt8),(111:UInt8),(112:UInt8),(113:UInt8),(114:UInt8),(115:UInt8),(116:UInt8),(117:UInt8),(118:UInt8),(119:UInt8),(120:UInt8),(121:UInt8),(122:UInt8)].getD k (0:UInt8)).toNat:Int)) fun w11=>∃(str:ByteArray),Zz w11 (some ⟨b,62,none⟩) (65 - ((63:Int) - 1).toNat) str/\∃(x2:Unit×ByteArray),tuple #[slice none 0 0,string str]=tuple #[slice none 0 0,string x2.snd]/\x2.snd=qA (qT g 3)/\Ext w w11):
    ((zaF 3)).Ok Tryz.prog 133:=ze (zaF 3) (zeb 3 63) zca (fun _ _=>rfl) (fun _ _=>rfl) hsp Tryz.func133 rfl (n:=5) (fun _=>rfl) (by kernel_rfl) (zl (by kernel_rfl) h)
theorem zwG(hsp:zf Tryz.prog zca)(h:∀(g:Nat) (w:World),DB w/\16^(4 - 1)<=g/\g<16^4->∀b w1,New w (Obj.cells #[int .u8 0,int .u8 0,int .u8 0,int .u8 0,int .u8 0,int .u8 0,int .u8 0,int .u8 0,int .u8 0,int .u8 0,int .u8 0,int .u8 0,int .u8 0,int .u8 0,int .u8 0,int .u8 0,int .u8 0,int .u8 0,int .u8 0,int .u8 0,int .u8 0,int .u8 0,int .u8 0,int .u8 0,int .u8 0,int .u8 0,int .u8 0,int .u8 0,int .u8 0,int .u8 0,int .u8 0,int .u8 0,int .u8 0,int .u8 0,int .u8 0,int .u8 0,int .u8 0,int .u8 0,int .u8 0,int .u8 0,int .u8 0,int .u8 0,int .u8 0,int .u8 0,int .u8 0,int .u8 0,int .u8 0,int .u8 0,int .u8 0,int .u8 0,int .u8 0,int .u8 0,int .u8 0,int .u8 0,int .u8 0,int .u8 0,int .u8 0,int .u8 0,int .u8 0,int .u8 0,int .u8 0,int .u8 0,int .u8 0,int .u8 0,int .u8 0] 184) b w1->∃(g1:Unit), #[int .i64 16]= #[int .i64 16]/\True/\∀(x:Unit) w',w'=w1->InR .u64 (16:Int)/\∃(g2:Unit), #[int .u64 16]= #[int .u64 16]/\DB w'/\∀(x1:Unit) w'1,w'1=w'->InR .u64 (4:Int)/\InR .u64 (16:Int)/\InR .u64 (16:Int)/\InR .u64 ((16:Int) - 1)/\((∃(x2:Nat),int .i64 65=int .i64 ((65:Int) - (x2:Int))/\int .u64 (g:Int)=int .u64 (↑(g / (16:Nat)^x2):Int)/\x2+1<=4/\(∃(b1:Nat),pointer (some ⟨b,0,none⟩)=pointer (some ⟨b1,0,none⟩)/\w.heap.size<=b1/\w'1.heap[b1]? =some (Obj.cells (ZE g x2).toArray (184:TypeId)))/\Ext w w'1)/\∀(u:Nat->Value) (x2:Nat) (w'2:World),x2+1<=4/\(∃(b1:Nat),pointer (some ⟨b,0,none⟩)=pointer (some ⟨b1,0,none⟩)/\w.heap.size<=b1/\w'2.heap[b1]? =some (Obj.cells (ZE g x2).toArray (184:TypeId)))/\Ext w w'2->zc (decide ((↑(g / (16:Nat)^x2):Int)>=16)) (InR .i64 ((65:Int) - (x2:Int) - 1)/\∃(k:Nat),IntKind.u64.wrap (↑(BitVec.ofInt IntKind.u64.bits (↑(g / (16:Nat)^x2):Int)&&&BitVec.ofInt IntKind.u64.bits ((16:Int) - 1)).toNat:Int)=(k:Int)/\k<(ByteArray.mk #[(48:UInt8),(49:UInt8),(50:UInt8),(51:UInt8),(52:UInt8),(53:UInt8),(54:UInt8),(55:UInt8),(56:UInt8),(57:UInt8),(97:UInt8),(98:UInt8),(99:UInt8),(100:UInt8),(101:UInt8),(102:UInt8),(103:UInt8),(104:UInt8),(105:UInt8),(106:UInt8),(107:UInt8),(108:UInt8),(109:UInt8),(110:UInt8),(111:UInt8),(112:UInt8),(113:UInt8),(114:UInt8),(115:UInt8),(116:UInt8),(117:UInt8),(118:UInt8),(119:UInt8),(120:UInt8),(121:UInt8),(122:UInt8)]).size/\qd ((65:Int) - (x2:Int) - 1) 65 fun k1=>zh w'2 b (0+k1) (int IntKind.u8 (↑([(48:UInt8),(49:UInt8),(50:UInt8),(51:UInt8),(52:UInt8),(53:UInt8),(54:UInt8),(55:UInt8),(56:UInt8),(57:UInt8),(97:UInt8),(98:UInt8),(99:UInt8),(100:UInt8),(101:UInt8),(102:UInt8),(103:UInt8),(104:UInt8),(105:UInt8),(106:UInt8),(107:UInt8),(108:UInt8),(109:UInt8),(110:UInt8),
 (111:UInt8),(112:UInt8),(113:UInt8),(114:UInt8),(115:UInt8),(116:UInt8),(117:UInt8),(118:UInt8),(119:UInt8),(120:UInt8),(121:UInt8),(122:UInt8)].getD k (0:UInt8)).toNat:Int)) fun w11=>∃(y:Nat),int .i64 ((65:Int) - (x2:Int) - 1)=int .i64 ((65:Int) - (y:Int))/\int .u64 ((↑(g / (16:Nat)^x2):Int).fdiv ((2:Int)^min (Int.toNat (4:Int)) IntKind.u64.bits))=int .u64 (↑(g / (16:Nat)^y):Int)/\(y+1<=4/\(∃(b1:Nat),pointer (some ⟨b,0,none⟩)=pointer (some ⟨b1,0,none⟩)/\w.heap.size<=b1/\w11.heap[b1]? =some (Obj.cells (ZE g y).toArray (184:TypeId)))/\Ext w w11)/\4 - y<4 - x2) (∃(c:Unit),int .i64 ((65:Int) - (x2:Int))=int .i64 62/\int .u64 (↑(g / (16:Nat)^x2):Int)=int .u64 (↑(g / (16:Nat)^((4:Nat) - (1:Nat))):Int)/\(∃(b1:Nat) (j:Nat),pointer (some ⟨b,0,none⟩)=pointer (some ⟨b1,0,none⟩)/\w.heap.size<=b1/\j+1=4/\w'2.heap[b1]? =some (Obj.cells (ZE g j).toArray (184:TypeId)))/\Ext w w'2))/\∀(u:Nat->Value) (c:Unit) (w'2:World),(∃(b1:Nat) (j:Nat),pointer (some ⟨b,0,none⟩)=pointer (some ⟨b1,0,none⟩)/\w.heap.size<=b1/\j+1=4/\w'2.heap[b1]? =some (Obj.cells (ZE g j).toArray (184:TypeId)))/\Ext w w'2->InR .i64 ((62:Int) - 1)/\∃(k:Nat),(↑(g / (16:Nat)^((4:Nat) - (1:Nat))):Int)=(k:Int)/\k<(ByteArray.mk #[(48:UInt8),(49:UInt8),(50:UInt8),(51:UInt8),(52:UInt8),(53:UInt8),(54:UInt8),(55:UInt8),(56:UInt8),(57:UInt8),(97:UInt8),(98:UInt8),(99:UInt8),(100:UInt8),(101:UInt8),(102:UInt8),(103:UInt8),(104:UInt8),(105:UInt8),(106:UInt8),(107:UInt8),(108:UInt8),(109:UInt8),(110:UInt8),(111:UInt8),(112:UInt8),(113:UInt8),(114:UInt8),(115:UInt8),(116:UInt8),(117:UInt8),(118:UInt8),(119:UInt8),(120:UInt8),(121:UInt8),(122:UInt8)]).size/\qd (61:Int) 65 fun k1=>zh w'2 b (0+k1) (int IntKind.u8 (↑([(48:UInt8),(49:UInt8),(50:UInt8),(51:UInt8),(52:UInt8),(53:UInt8),(54:UInt8),(55:UInt8),(56:UInt8),(57:UInt8),(97:UInt8),(98:UInt8),(99:UInt8),(100:UInt8),(101:UInt8),(102:UInt8),(103:UInt8),(104:UInt8),(105:UInt8),(106:UInt8),(107:UInt8),(108:UInt8),(109:UInt8),(110:UInt8),(111:UInt8),(112:UInt8),(113:UInt8),(114:UInt8),(115:UInt8),(116:UInt8),(117:UInt8),(118:UInt8),(119:UInt8),(120:UInt8),(121:UInt8),(122:UInt8)].getD k (0:UInt8)).toNat:Int)) fun w11=>∃(str:ByteArray),Zz w11 (some ⟨b,61,none⟩) (65 - ((62:Int) - 1).toNat) str/\∃(x2:Unit×ByteArray),tuple #[slice none 0 0,string str]=tuple #[slice none 0 0,string x2.snd]/\x2.snd=qA (qT g 4)/\Ext w w11):
    ((zaF 4)).Ok Tryz.prog 133:=ze (zaF 4) (zeb 4 62) zca (fun _ _=>rfl) (fun _ _=>rfl) hsp Tryz.func133 rfl (n:=5) (fun _=>rfl) (by kernel_rfl) (zl (by kernel_rfl) h)
theorem zwE(hsp:zf Tryz.prog zca)(h:∀(g:Nat) (w:World),DB w/\16^(5 - 1)<=g/\g<16^5->∀b w1,New w (Obj.cells #[int .u8 0,int .u8 0,int .u8 0,int .u8 0,int .u8 0,int .u8 0,int .u8 0,int .u8 0,int .u8 0,int .u8 0,int .u8 0,int .u8 0,int .u8 0,int .u8 0,int .u8 0,int .u8 0,int .u8 0,int .u8 0,int .u8 0,int .u8 0,int .u8 0,int .u8 0,int .u8 0,int .u8 0,int .u8 0,int .u8 0,int .u8 0,int .u8 0,int .u8 0,int .u8 0,int .u8 0,int .u8 0,int .u8 0,int .u8 0,int .u8 0,int .u8 0,int .u8 0,int .u8 0,int .u8 0,int .u8 0,int .u8 0,int .u8 0,int .u8 0,int .u8 0,int .u8 0,int .u8 0,int .u8 0,int .u8 0,int .u8 0,int .u8 0,int .u8 0,int .u8 0,int .u8 0,int .u8 0,int .u8 0,int .u8 0,int .u8 0,int .u8 0,int .u8 0,int .u8 0,int .u8 0,int .u8 0,int .u8 0,int .u8 0,int .u8 0] 184) b w1->∃(g1:Unit), #[int .i64 16]= #[int .i64 16]/\True/\∀(x:Unit) w',w'=w1->InR .u64 (16:Int)/\∃(g2:Unit), #[int .u64 16]= #[int .u64 16]/\DB w'/\∀(x1:Unit) w'1,w'1=w'->InR .u64 (4:Int)/\InR .u64 (16:Int)/\InR .u64 (16:Int)/\InR .u64 ((16:Int) - 1)/\((∃(x2:Nat),int .i64 65=int .i64 ((65:Int) - (x2:Int))/\int .u64 (g:Int)=int .u64 (↑(g / (16:Nat)^x2):Int)/\x2+1<=5/\(∃(b1:Nat),pointer (some ⟨b,0,none⟩)=pointer (some ⟨b1,0,none⟩)/\w.heap.size<=b1/\w'1.heap[b1]? =some (Obj.cells (ZE g x2).toArray (184:TypeId)))/\Ext w w'1)/\∀(u:Nat->Value) (x2:Nat) (w'2:World),x2+1<=5/\(∃(b1:Nat),pointer (some ⟨b,0,none⟩)=pointer (some ⟨b1,0,none⟩)/\w.heap.size<=b1/\w'2.heap[b1]? =some (Obj.cells (ZE g x2).toArray (184:TypeId)))/\Ext w w'2->zc (decide ((↑(g / (16:Nat)^x2):Int)>=16)) (InR .i64 ((65:Int) - (x2:Int) - 1)/\∃(k:Nat),IntKind.u64.wrap (↑(BitVec.ofInt IntKind.u64.bits (↑(g / (16:Nat)^x2):Int)&&&BitVec.ofInt IntKind.u64.bits ((16:Int) - 1)).toNat:Int)=(k:Int)/\k<(ByteArray.mk #[(48:UInt8),(49:UInt8),(50:UInt8),(51:UInt8),(52:UInt8),(53:UInt8),(54:UInt8),(55:UInt8),(56:UInt8),(57:UInt8),(97:UInt8),(98:UInt8),(99:UInt8),(100:UInt8),(101:UInt8),(102:UInt8),(103:UInt8),(104:UInt8),(105:UInt8),(106:UInt8),(107:UInt8),(108:UInt8),(109:UInt8),(110:UInt8),(111:UInt8),(112:UInt8),(113:UInt8),(114:UInt8),(115:UInt8),(116:UInt8),(117:UInt8),(118:UInt8),(119:UInt8),(120:UInt8),(121:UInt8),(122:UInt8)]).size/\qd ((65:Int) - (x2:Int) - 1) 65 fun k1=>zh w'2 b (0+k1) (int IntKind.u8 (↑([(48:UInt8),(49:UInt8),(50:UInt8),(51:UInt8),(52:UInt8),(53:UInt8),(54:UInt8),(55:UInt8),(56:UInt8),(57:UInt8),(97:UInt8),(98:UInt8),(99:UInt8),(100:UInt8),(101:UInt8),(102:UInt8),(103:UInt8),(104:UInt8),(105:UInt8),(106:UInt8),(107:UInt8),(108:UInt8),(109:UInt8),(110:UInt8),
 (111:UInt8),(112:UInt8),(113:UInt8),(114:UInt8),(115:UInt8),(116:UInt8),(117:UInt8),(118:UInt8),(119:UInt8),(120:UInt8),(121:UInt8),(122:UInt8)].getD k (0:UInt8)).toNat:Int)) fun w11=>∃(y:Nat),int .i64 ((65:Int) - (x2:Int) - 1)=int .i64 ((65:Int) - (y:Int))/\int .u64 ((↑(g / (16:Nat)^x2):Int).fdiv ((2:Int)^min (Int.toNat (4:Int)) IntKind.u64.bits))=int .u64 (↑(g / (16:Nat)^y):Int)/\(y+1<=5/\(∃(b1:Nat),pointer (some ⟨b,0,none⟩)=pointer (some ⟨b1,0,none⟩)/\w.heap.size<=b1/\w11.heap[b1]? =some (Obj.cells (ZE g y).toArray (184:TypeId)))/\Ext w w11)/\5 - y<5 - x2) (∃(c:Unit),int .i64 ((65:Int) - (x2:Int))=int .i64 61/\int .u64 (↑(g / (16:Nat)^x2):Int)=int .u64 (↑(g / (16:Nat)^((5:Nat) - (1:Nat))):Int)/\(∃(b1:Nat) (j:Nat),pointer (some ⟨b,0,none⟩)=pointer (some ⟨b1,0,none⟩)/\w.heap.size<=b1/\j+1=5/\w'2.heap[b1]? =some (Obj.cells (ZE g j).toArray (184:TypeId)))/\Ext w w'2))/\∀(u:Nat->Value) (c:Unit) (w'2:World),(∃(b1:Nat) (j:Nat),pointer (some ⟨b,0,none⟩)=pointer (some ⟨b1,0,none⟩)/\w.heap.size<=b1/\j+1=5/\w'2.heap[b1]? =some (Obj.cells (ZE g j).toArray (184:TypeId)))/\Ext w w'2->InR .i64 ((61:Int) - 1)/\∃(k:Nat),(↑(g / (16:Nat)^((5:Nat) - (1:Nat))):Int)=(k:Int)/\k<(ByteArray.mk #[(48:UInt8),(49:UInt8),(50:UInt8),(51:UInt8),(52:UInt8),(53:UInt8),(54:UInt8),(55:UInt8),(56:UInt8),(57:UInt8),(97:UInt8),(98:UInt8),(99:UInt8),(100:UInt8),(101:UInt8),(102:UInt8),(103:UInt8),(104:UInt8),(105:UInt8),(106:UInt8),(107:UInt8),(108:UInt8),(109:UInt8),(110:UInt8),(111:UInt8),(112:UInt8),(113:UInt8),(114:UInt8),(115:UInt8),(116:UInt8),(117:UInt8),(118:UInt8),(119:UInt8),(120:UInt8),(121:UInt8),(122:UInt8)]).size/\qd (60:Int) 65 fun k1=>zh w'2 b (0+k1) (int IntKind.u8 (↑([(48:UInt8),(49:UInt8),(50:UInt8),(51:UInt8),(52:UInt8),(53:UInt8),(54:UInt8),(55:UInt8),(56:UInt8),(57:UInt8),(97:UInt8),(98:UInt8),(99:UInt8),(100:UInt8),(101:UInt8),(102:UInt8),(103:UInt8),(104:UInt8),(105:UInt8),(106:UInt8),(107:UInt8),(108:UInt8),(109:UInt8),(110:UInt8),(111:UInt8),(112:UInt8),(113:UInt8),(114:UInt8),(115:UInt8),(116:UInt8),(117:UInt8),(118:UInt8),(119:UInt8),(120:UInt8),(121:UInt8),(122:UInt8)].getD k (0:UInt8)).toNat:Int)) fun w11=>∃(str:ByteArray),Zz w11 (some ⟨b,60,none⟩) (65 - ((61:Int) - 1).toNat) str/\∃(x2:Unit×ByteArray),tuple #[slice none 0 0,string str]=tuple #[slice none 0 0,string x2.snd]/\x2.snd=qA (qT g 5)/\Ext w w11):
    ((zaF 5)).Ok Tryz.prog 133:=ze (zaF 5) (zeb 5 61) zca (fun _ _=>rfl) (fun _ _=>rfl) hsp Tryz.func133 rfl (n:=5) (fun _=>rfl) (by kernel_rfl) (zl (by kernel_rfl) h)
theorem zwC(hsp:zf Tryz.prog zca)(h:∀(g:Nat) (w:World),DB w/\16^(6 - 1)<=g/\g<16^6->∀b w1,New w (Obj.cells #[int .u8 0,int .u8 0,int .u8 0,int .u8 0,int .u8 0,int .u8 0,int .u8 0,int .u8 0,int .u8 0,int .u8 0,int .u8 0,int .u8 0,int .u8 0,int .u8 0,int .u8 0,int .u8 0,int .u8 0,int .u8 0,int .u8 0,int .u8 0,int .u8 0,int .u8 0,int .u8 0,int .u8 0,int .u8 0,int .u8 0,int .u8 0,int .u8 0,int .u8 0,int .u8 0,int .u8 0,int .u8 0,int .u8 0,int .u8 0,int .u8 0,int .u8 0,int .u8 0,int .u8 0,int .u8 0,int .u8 0,int .u8 0,int .u8 0,int .u8 0,int .u8 0,int .u8 0,int .u8 0,int .u8 0,int .u8 0,int .u8 0,int .u8 0,int .u8 0,int .u8 0,int .u8 0,int .u8 0,int .u8 0,int .u8 0,int .u8 0,int .u8 0,int .u8 0,int .u8 0,int .u8 0,int .u8 0,int .u8 0,int .u8 0,int .u8 0] 184) b w1->∃(g1:Unit), #[int .i64 16]= #[int .i64 16]/\True/\∀(x:Unit) w',w'=w1->InR .u64 (16:Int)/\∃(g2:Unit), #[int .u64 16]= #[int .u64 16]/\DB w'/\∀(x1:Unit) w'1,w'1=w'->InR .u64 (4:Int)/\InR .u64 (16:Int)/\InR .u64 (16:Int)/\InR .u64 ((16:Int) - 1)/\((∃(x2:Nat),int .i64 65=int .i64 ((65:Int) - (x2:Int))/\int .u64 (g:Int)=int .u64 (↑(g / (16:Nat)^x2):Int)/\x2+1<=6/\(∃(b1:Nat),pointer (some ⟨b,0,none⟩)=pointer (some ⟨b1,0,none⟩)/\w.heap.size<=b1/\w'1.heap[b1]? =some (Obj.cells (ZE g x2).toArray (184:TypeId)))/\Ext w w'1)/\∀(u:Nat->Value) (x2:Nat) (w'2:World),x2+1<=6/\(∃(b1:Nat),pointer (some ⟨b,0,none⟩)=pointer (some ⟨b1,0,none⟩)/\w.heap.size<=b1/\w'2.heap[b1]? =some (Obj.cells (ZE g x2).toArray (184:TypeId)))/\Ext w w'2->zc (decide ((↑(g / (16:Nat)^x2):Int)>=16)) (InR .i64 ((65:Int) - (x2:Int) - 1)/\∃(k:Nat),IntKind.u64.wrap (↑(BitVec.ofInt IntKind.u64.bits (↑(g / (16:Nat)^x2):Int)&&&BitVec.ofInt IntKind.u64.bits ((16:Int) - 1)).toNat:Int)=(k:Int)/\k<(ByteArray.mk #[(48:UInt8),(49:UInt8),(50:UInt8),(51:UInt8),(52:UInt8),(53:UInt8),(54:UInt8),(55:UInt8),(56:UInt8),(57:UInt8),(97:UInt8),(98:UInt8),(99:UInt8),(100:UInt8),(101:UInt8),(102:UInt8),(103:UInt8),(104:UInt8),(105:UInt8),(106:UInt8),(107:UInt8),(108:UInt8),(109:UInt8),(110:UInt8),(111:UInt8),(112:UInt8),(113:UInt8),(114:UInt8),(115:UInt8),(116:UInt8),(117:UInt8),(118:UInt8),(119:UInt8),(120:UInt8),(121:UInt8),(122:UInt8)]).size/\qd ((65:Int) - (x2:Int) - 1) 65 fun k1=>zh w'2 b (0+k1) (int IntKind.u8 (↑([(48:UInt8),(49:UInt8),(50:UInt8),(51:UInt8),(52:UInt8),(53:UInt8),(54:UInt8),(55:UInt8),(56:UInt8),(57:UInt8),(97:UInt8),(98:UInt8),(99:UInt8),(100:UInt8),(101:UInt8),(102:UInt8),(103:UInt8),(104:UInt8),(105:UInt8),(106:UInt8),(107:UInt8),(108:UInt8),(109:UInt8),(110:UInt8),
 (111:UInt8),(112:UInt8),(113:UInt8),(114:UInt8),(115:UInt8),(116:UInt8),(117:UInt8),(118:UInt8),(119:UInt8),(120:UInt8),(121:UInt8),(122:UInt8)].getD k (0:UInt8)).toNat:Int)) fun w11=>∃(y:Nat),int .i64 ((65:Int) - (x2:Int) - 1)=int .i64 ((65:Int) - (y:Int))/\int .u64 ((↑(g / (16:Nat)^x2):Int).fdiv ((2:Int)^min (Int.toNat (4:Int)) IntKind.u64.bits))=int .u64 (↑(g / (16:Nat)^y):Int)/\(y+1<=6/\(∃(b1:Nat),pointer (some ⟨b,0,none⟩)=pointer (some ⟨b1,0,none⟩)/\w.heap.size<=b1/\w11.heap[b1]? =some (Obj.cells (ZE g y).toArray (184:TypeId)))/\Ext w w11)/\6 - y<6 - x2) (∃(c:Unit),int .i64 ((65:Int) - (x2:Int))=int .i64 60/\int .u64 (↑(g / (16:Nat)^x2):Int)=int .u64 (↑(g / (16:Nat)^((6:Nat) - (1:Nat))):Int)/\(∃(b1:Nat) (j:Nat),pointer (some ⟨b,0,none⟩)=pointer (some ⟨b1,0,none⟩)/\w.heap.size<=b1/\j+1=6/\w'2.heap[b1]? =some (Obj.cells (ZE g j).toArray (184:TypeId)))/\Ext w w'2))/\∀(u:Nat->Value) (c:Unit) (w'2:World),(∃(b1:Nat) (j:Nat),pointer (some ⟨b,0,none⟩)=pointer (some ⟨b1,0,none⟩)/\w.heap.size<=b1/\j+1=6/\w'2.heap[b1]? =some (Obj.cells (ZE g j).toArray (184:TypeId)))/\Ext w w'2->InR .i64 ((60:Int) - 1)/\∃(k:Nat),(↑(g / (16:Nat)^((6:Nat) - (1:Nat))):Int)=(k:Int)/\k<(ByteArray.mk #[(48:UInt8),(49:UInt8),(50:UInt8),(51:UInt8),(52:UInt8),(53:UInt8),(54:UInt8),(55:UInt8),(56:UInt8),(57:UInt8),(97:UInt8),(98:UInt8),(99:UInt8),(100:UInt8),(101:UInt8),(102:UInt8),(103:UInt8),(104:UInt8),(105:UInt8),(106:UInt8),(107:UInt8),(108:UInt8),(109:UInt8),(110:UInt8),(111:UInt8),(112:UInt8),(113:UInt8),(114:UInt8),(115:UInt8),(116:UInt8),(117:UInt8),(118:UInt8),(119:UInt8),(120:UInt8),(121:UInt8),(122:UInt8)]).size/\qd (59:Int) 65 fun k1=>zh w'2 b (0+k1) (int IntKind.u8 (↑([(48:UInt8),(49:UInt8),(50:UInt8),(51:UInt8),(52:UInt8),(53:UInt8),(54:UInt8),(55:UInt8),(56:UInt8),(57:UInt8),(97:UInt8),(98:UInt8),(99:UInt8),(100:UInt8),(101:UInt8),(102:UInt8),(103:UInt8),(104:UInt8),(105:UInt8),(106:UInt8),(107:UInt8),(108:UInt8),(109:UInt8),(110:UInt8),(111:UInt8),(112:UInt8),(113:UInt8),(114:UInt8),(115:UInt8),(116:UInt8),(117:UInt8),(118:UInt8),(119:UInt8),(120:UInt8),(121:UInt8),(122:UInt8)].getD k (0:UInt8)).toNat:Int)) fun w11=>∃(str:ByteArray),Zz w11 (some ⟨b,59,none⟩) (65 - ((60:Int) - 1).toNat) str/\∃(x2:Unit×ByteArray),tuple #[slice none 0 0,string str]=tuple #[slice none 0 0,string x2.snd]/\x2.snd=qA (qT g 6)/\Ext w w11):
    ((zaF 6)).Ok Tryz.prog 133:=ze (zaF 6) (zeb 6 60) zca (fun _ _=>rfl) (fun _ _=>rfl) hsp Tryz.func133 rfl (n:=5) (fun _=>rfl) (by kernel_rfl) (zl (by kernel_rfl) h)
theorem zv8(hsp:zf Tryz.prog zmz)(h:∀(g:Nat) (w:World),DB w/\16<=g/\g<16777216->InR .u64 (g:Int)/\∃(g1:Nat), #[slice none 0 0,int .u64 (g:Int),int .i64 16,bool false,bool false]= #[slice none 0 0,int .u64 (g1:Int),int .i64 16,bool false,bool false]/\(DB w/\16<=g1/\g1<16777216)/\∀(x:Unit×ByteArray) w',x.snd=qA (qT g1 (Qx g1))/\Ext w w'->∃(x1:ByteArray),string x.snd=string x1/\x1=qA (qT g (Qx g))/\Ext w w'):ze1.Ok Tryz.prog 139:=ze ze1 (zP zmz) zmz (fun _ _=>rfl) (fun _ _=>rfl) hsp Tryz.func139 rfl (n:=2) (fun _=>rfl) (by kernel_rfl) (zl (by kernel_rfl) h)
theorem zyg(hsp:zf Tryz.prog zrw)(h:∀(g:Nat) (w:World),DB w/\16<=g/\g<16777216->∃(g1:Nat), #[int .i64 (g:Int),int .i64 16]= #[int .i64 (g1:Int),int .i64 16]/\(DB w/\16<=g1/\g1<16777216)/\∀(x:ByteArray) w',x=qA (qT g1 (Qx g1))/\Ext w w'->∃(x1:ByteArray),string x=string x1/\x1=qA (qT g (Qx g))/\Ext w w'):ze1.Ok Tryz.prog 124:=ze ze1 (zP zrw) zrw (fun _ _=>rfl) (fun _ _=>rfl) hsp Tryz.func124 rfl (n:=2) (fun _=>rfl) (by kernel_rfl) (zl (by kernel_rfl) h)
theorem zsE(hsp:zf Tryz.prog zjb)(h:∀(g:Nat) (w:World),DB w/\16<=g/\g<=1114111->InR .i64 (g:Int)/\∃(g1:Nat), #[int .i64 (g:Int),int .i64 16]= #[int .i64 (g1:Int),int .i64 16]/\(DB w/\16<=g1/\g1<16777216)/\∀(x:ByteArray) w',x=qA (qT g1 (Qx g1))/\Ext w w'->(∃(x1:Nat),string x=string (qA (qT g x1))/\Qx g<=x1/\x1<=QJ g/\w'=w')/\∀(u:Nat->Value) (x1:Nat) w'1,Qx g<=x1/\x1<=QJ g/\w'1=w'->zc (decide ((↑(qA (qT g x1)).size:Int)<4)) ((ByteArray.mk #[(48:UInt8)]).size+(qA (qT g x1)).size<=9223372036854775807/\∃(y:Nat),string ((ByteArray.mk #[(48:UInt8)])++qA (qT g x1))=string (qA (qT g y))/\(Qx g<=y/\y<=QJ g/\w'1=w')/\4 - y<4 - x1) ((ByteArray.mk #[(60:UInt8)]).size+(qA (qT g x1)).size<=9223372036854775807/\((ByteArray.mk #[(60:UInt8)])++qA (qT g x1)).size+(ByteArray.mk #[(62:UInt8)]).size<=9223372036854775807/\∃(x2:ByteArray),string ((ByteArray.mk #[(60:UInt8)])++qA (qT g x1)++(ByteArray.mk #[(62:UInt8)]))=string x2/\x2=ZM g/\Ext w w'1)):zjv.Ok Tryz.prog 99:=ze zjv zui zjb (fun _ _=>rfl) (fun _ _=>rfl) hsp Tryz.func99 rfl (n:=1) (fun _=>rfl) (by kernel_rfl) (zl (by kernel_rfl) h)
theorem zvy(hsp:zf Tryz.prog [])(h:∀(g:Nat) (w:World),16<=g/\g<=1114111->InR .i64 (g:Int)/\(∃(x:GNm),int .i64 (g:Int)=int .i64 (↑(g / (16:Nat)^x.j):Int)/\slice none 0 0=slice x.a x.j x.c/\x.j<=QJ g/\Made w w (5:TypeId) 1 x.a x.j (u8L (qT g x.j)) x.c)/\∀(u:Nat->Value) (x:GNm) w',x.j<=QJ g/\Made w w' (5:TypeId) 1 x.a x.j (u8L (qT g x.j)) x.c->zc (decide ((↑(g / (16:Nat)^x.j):Int)>0)||decide ((x.j:Int)<4)) ((0:Int)<=(↑(g / (16:Nat)^x.j):Int)/\(0:Int)<16/\∃(k:Nat),(↑(g / (16:Nat)^x.j):Int)%16=(k:Int)/\k<(ByteArray.mk #[(48:UInt8),(49:UInt8),(50:UInt8),(51:UInt8),(52:UInt8),(53:UInt8),(54:UInt8),(55:UInt8),(56:UInt8),(57:UInt8),(97:UInt8),(98:UInt8),(99:UInt8),(100:UInt8),(101:UInt8),(102:UInt8)]).size/\∀b w1,New w' (Obj.cells #[int IntKind.u8 (↑([(48:UInt8),(49:UInt8),(50:UInt8),(51:UInt8),(52:UInt8),(53:UInt8),(54:UInt8),(55:UInt8),(56:UInt8),(57:UInt8),(97:UInt8),(98:UInt8),(99:UInt8),(100:UInt8),(101:UInt8),(102:UInt8)].getD k (0:UInt8)).toNat:Int)] 5) b w1->∃(a':Option Addr) (c':Nat) (w'1:World),zA Tryz.prog #[40,40] 40 (slice (some ⟨b,0,none⟩) 1 1) (slice x.a x.j x.c) w1 a' (1+x.j) c' w'1/\KO w1 w'1/\(0:Int)<=(↑(g / (16:Nat)^x.j):Int)/\(0:Int)<16/\InR .i64 ((↑(g / (16:Nat)^x.j):Int) / 16)/\∃(y:GNm),int .i64 ((↑(g / (16:Nat)^x.j):Int) / 16)=int .i64 (↑(g / (16:Nat)^y.j):Int)/\slice a' (1+x.j) c'=slice y.a y.j y.c/\(y.j<=QJ g/\Made w w'1 (5:TypeId) 1 y.a y.j (u8L (qT g y.j)) y.c)/\10 - y.j<10 - x.j) (∃(str:ByteArray),Zz w' x.a x.j str/\∃(x1:ByteArray),string str=string x1/\x1=qA (qT g (QJ g))/\Ext w w')):zn0.Ok Tryz.prog 106:=ze zn0 zwY [] (fun _ _=>rfl) (fun _ _=>rfl) hsp Tryz.func106 rfl (n:=1) (fun _=>rfl) (by kernel_rfl) (zl (by kernel_rfl) h)
theorem zqw(hsp:zf Tryz.prog [])(h:∀(g:Nat) (w:World),g<=16->(∃(x:GNm),int .i64 0=int .i64 (x.j:Int)/\slice none 0 0=slice x.a x.j x.c/\x.j<=g/\Made w w (5:TypeId) 1 x.a x.j (u8L (List.replicate x.j (32:UInt8))) x.c)/\∀(u:Nat->Value) (x:GNm) w',x.j<=g/\Made w w' (5:TypeId) 1 x.a x.j (u8L (List.replicate x.j (32:UInt8))) x.c->zc (decide ((x.j:Int)<(g:Int))) (∀b w1,New w' (Obj.cells #[int .u8 32] 5) b w1->∃(a':Option Addr) (c':Nat) (w'1:World),zA Tryz.prog #[40,40] 40 (slice x.a x.j x.c) (slice (some ⟨b,0,none⟩) 1 1) w1 a' (x.j+1) c' w'1/\KO w1 w'1/\InR .i64 ((x.j:Int)+1)/\∃(y:GNm),int .i64 ((x.j:Int)+1)=int .i64 (y.j:Int)/\slice a' (x.j+1) c'=slice y.a y.j y.c/\(y.j<=g/\Made w w'1 (5:TypeId) 1 y.a y.j (u8L (List.replicate y.j (32:UInt8))) y.c)/\g - y.j<g - x.j) (∃(str:ByteArray),Zz w' x.a x.j str/\∃(x1:ByteArray),string str=string x1/\x1=Qf g/\Ext w w')):zfD.Ok Tryz.prog 104:=ze zfD zqP [] (fun _ _=>rfl) (fun _ _=>rfl) hsp Tryz.func104 rfl (n:=1) (fun _=>rfl) (by kernel_rfl) (zl (by kernel_rfl) h)
end

section
set_option linter.unusedVariables false
open Go Go.RowKit Vc Ut
open Value
set_option maxRecDepth 1000000
end

section
set_option linter.unusedVariables false
open Go Go.RowKit Vc Ut
open Value
set_option maxRecDepth 1000000
theorem zo9(hsp:zf Tryz.prog [])(h:∀(g:Nat×Nat×Nat) (w:World),True->∃(x:Bool),bool (decide ((g.fst:Int)>=(g.snd.fst:Int))&&decide ((g.fst:Int)<=(g.snd.snd:Int)))=bool x/\x=decide (g.snd.fst<=g.fst/\g.fst<=g.snd.snd)/\w=w):zcC.Ok Tryz.prog 114:=ze zcC (zP []) [] (fun _ _=>rfl) (fun _ _=>rfl) hsp Tryz.func114 rfl (n:=3) (fun _=>rfl) (by kernel_rfl) (zl (by kernel_rfl) h)
theorem zps(hsp:zf Tryz.prog zgp)(h:∀(g:Nat) (w:World),True->∃(g1:Nat×Nat×Nat), #[int .u8 (g:Int),int .u8 194,int .u8 223]= #[int .u8 (g1.fst:Int),int .u8 (g1.snd.fst:Int),int .u8 (g1.snd.snd:Int)]/\True/\∀(x:Bool) w',x=decide (g1.snd.fst<=g1.fst/\g1.fst<=g1.snd.snd)/\w'=w->zc x (∃(x1:Nat×Nat×Nat),tuple #[int .u8 128,int .u8 191,int .i64 2]=tuple #[int .u8 (x1.fst:Int),int .u8 (x1.snd.fst:Int),int .i64 (x1.snd.snd:Int)]/\x1=zT g/\w'=w) (zc ((g:Int)==224) (∃(x1:Nat×Nat×Nat),tuple #[int .u8 160,int .u8 191,int .i64 3]=tuple #[int .u8 (x1.fst:Int),int .u8 (x1.snd.fst:Int),int .i64 (x1.snd.snd:Int)]/\x1=zT g/\w'=w) (zc ((g:Int)==237) (∃(x1:Nat×Nat×Nat),tuple #[int .u8 128,int .u8 159,int .i64 3]=tuple #[int .u8 (x1.fst:Int),int .u8 (x1.snd.fst:Int),int .i64 (x1.snd.snd:Int)]/\x1=zT g/\w'=w) (∃(g2:Nat×Nat×Nat), #[int .u8 (g:Int),int .u8 225,int .u8 239]= #[int .u8 (g2.fst:Int),int .u8 (g2.snd.fst:Int),int .u8 (g2.snd.snd:Int)]/\True/\∀(x1:Bool) w'1,x1=decide (g2.snd.fst<=g2.fst/\g2.fst<=g2.snd.snd)/\w'1=w'->zc x1 (∃(x2:Nat×Nat×Nat),tuple #[int .u8 128,int .u8 191,int .i64 3]=tuple #[int .u8 (x2.fst:Int),int .u8 (x2.snd.fst:Int),int .i64 (x2.snd.snd:Int)]/\x2=zT g/\w'1=w) (zc ((g:Int)==240) (∃(x2:Nat×Nat×Nat),tuple #[int .u8 144,int .u8 191,int .i64 4]=tuple #[int .u8 (x2.fst:Int),int .u8 (x2.snd.fst:Int),int .i64 (x2.snd.snd:Int)]/\x2=zT g/\w'1=w) (∃(g3:Nat×Nat×Nat), #[int .u8 (g:Int),int .u8 241,int .u8 243]= #[int .u8 (g3.fst:Int),int .u8 (g3.snd.fst:Int),int .u8 (g3.snd.snd:Int)]/\True/\∀(x2:Bool) w'2,x2=decide (g3.snd.fst<=g3.fst/\g3.fst<=g3.snd.snd)/\w'2=w'1->zc x2 (∃(x3:Nat×Nat×Nat),tuple #[int .u8 128,int .u8 191,int .i64 4]=tuple #[int .u8 (x3.fst:Int),int .u8 (x3.snd.fst:Int),int .i64 (x3.snd.snd:Int)]/\x3=zT g/\w'2=w) (zc ((g:Int)==244) (∃(x3:Nat×Nat×Nat),tuple #[int .u8 128,int .u8 143,int .i64 4]=tuple #[int .u8 (x3.fst:Int),int .u8 (x3.snd.fst:Int),int .i64 (x3.snd.snd:Int)]/\x3=zT g/\w'2=w) (∃(x3:Nat×Nat×Nat),tuple #[int .u8 0,int .u8 0,int .i64 0]=tuple #[int .u8 (x3.fst:Int),int .u8 (x3.snd.fst:Int),int .i64 (x3.snd.snd:Int)]/\x3=zT g/\w'2=w)))))))):zdI.Ok Tryz.prog 113:=ze zdI (zP zgp) zgp (fun _ _=>rfl) (fun _ _=>rfl) hsp Tryz.func113 rfl (n:=1) (fun _=>rfl) (by kernel_rfl) (zl (by kernel_rfl) h)
theorem zqC(hsp:zf Tryz.prog zkp)(h:∀(g:ByteArray) (w:World),g.size<=67108864->zc (g.toList==(ByteArray.mk #[]).toList) (∃(x:Nat×Nat),tuple #[int .i64 0,int .i64 0]=tuple #[int .i64 (x.fst:Int),int .i64 (x.snd:Int)]/\x.fst=Zy g/\x.snd=Zu g/\w=w) (qd (0:Int) g.size fun k=>zc (decide ((↑(g.data.toList.getD k (0:UInt8)).toNat:Int)<128)) (∃(x:Nat×Nat),tuple #[int .i64 1,int .i64 1]=tuple #[int .i64 (x.fst:Int),int .i64 (x.snd:Int)]/\x.fst=Zy g/\x.snd=Zu g/\w=w) (qd (0:Int) g.size fun k1=>∃(g1:Nat), #[int .u8 (↑(g.data.toList.getD k1 (0:UInt8)).toNat:Int)]= #[int .u8 (g1:Int)]/\True/\∀(x:Nat×Nat×Nat) w',x=zT g1/\w'=w->zc ((x.snd.snd:Int)==0) (∃(x1:Nat×Nat),tuple #[int .i64 0,int .i64 0]=tuple #[int .i64 (x1.fst:Int),int .i64 (x1.snd:Int)]/\x1.fst=Zy g/\x1.snd=Zu g/\w'=w) ((∃(x1:Nat),int .i64 1=int .i64 (x1:Int)/\int .u8 (x.fst:Int)=int .u8 (↑(loB g x1):Int)/\int .u8 (x.snd.fst:Int)=int .u8 (↑(hiB g x1):Int)/\w'=w'/\1<=x1/\x1<=(zT (bt g 0)).snd.snd/\x1<=g.size/\Zf g ((zT (bt g 0)).snd.snd - x1) x1=Zf g ((zT (bt g 0)).snd.snd - 1) 1)/\∀(u:Nat->Value) (x1:Nat) w'1,w'1=w'/\1<=x1/\x1<=(zT (bt g 0)).snd.snd/\x1<=g.size/\Zf g ((zT (bt g 0)).snd.snd - x1) x1=Zf g ((zT (bt g 0)).snd.snd - 1) 1->zc (decide ((x1:Int)<(x.snd.snd:Int))) (zc (decide ((x1:Int)<(g.size:Int))) (qd (x1:Int) g.size fun k2=>∃(g2:Nat×Nat×Nat), #[int .u8 (↑(g.data.toList.getD k2 (0:UInt8)).toNat:Int),int .u8 (↑(loB g x1):Int),int .u8 (↑(hiB g x1):Int)]= #[int .u8 (g2.fst:Int),int .u8 (g2.snd.fst:Int),int .u8 (g2.snd.snd:Int)]/\True/\∀(x2:Bool) w'2,x2=decide (g2.snd.fst<=g2.fst/\g2.fst<=g2.snd.snd)/\w'2=w'1->zc x2 (InR .i64 ((x1:Int)+1)/\∃(y:Nat),int .i64 ((x1:Int)+1)=int .i64 (y:Int)/\int .u8 128=int .u8 (↑(loB g y):Int)/\int .u8 191=int .u8 (↑(hiB g y):Int)/\(w'2=w'/\1<=y/\y<=(zT (bt g 0)).snd.snd/\y<=g.size/\Zf g ((zT (bt g 0)).snd.snd - y) y=Zf g ((zT (bt g 0)).snd.snd - 1) 1)/\g.size - y<g.size - x1) (∃(x3:Nat×Nat),tuple #[int .i64 (x1:Int),int .i64 (x.snd.snd:Int)]=tuple #[int .i64 (x3.fst:Int),int .i64 (x3.snd:Int)]/\x3.fst=Zy g/\x3.snd=Zu g/\w'2=w)) (∃(x2:Nat×Nat),tuple #[int .i64 (x1:Int),int .i64 (x.snd.snd:Int)]=tuple #[int .i64 (x2.fst:Int),int .i64 (x2.snd:Int)]/\x2.fst=Zy g/\x2.snd=Zu g/\w'1=w)) (∃(x2:Nat×Nat),tuple #[int .i64 (x1:Int),int .i64 (x.snd.snd:Int)]=tuple #[int .i64 (x2.fst:Int),int .i64 (x2.snd:Int)]/\
 x2.fst=Zy g/\x2.snd=Zu g/\w'1=w))))):zdK.Ok Tryz.prog 76:=ze zdK zqR zkp (fun _ _=>rfl) (fun _ _=>rfl) hsp Tryz.func76 rfl (n:=1) (fun _=>rfl) (by kernel_rfl) (zl (by kernel_rfl) h)
theorem zpU(hsp:zf Tryz.prog [])(h:∀(g:ByteArray) (w:World),1<=g.size/\g.size<=4->∀b w1,New w (Obj.cells #[int .u8 127,int .u8 31,int .u8 15,int .u8 7] 5) b w1->∀w11,Drew w1 w11->qd (0:Int) g.size fun k=>InR .i64 ((g.size:Int) - 1)/\qd ((g.size:Int) - 1) 4 fun k1=>zX w1 .u8 b (0+k1) fun n=>InR IntKind.i32 (IntKind.u8.wrap (↑(BitVec.ofInt IntKind.u8.bits (↑(g.data.toList.getD k (0:UInt8)).toNat:Int)&&&BitVec.ofInt IntKind.u8.bits n).toNat:Int))/\(∃(x:Nat),int .i64 1=int .i64 ((x:Int)+1)/\int IntKind.i32 (IntKind.u8.wrap (↑(BitVec.ofInt IntKind.u8.bits (↑(g.data.toList.getD k (0:UInt8)).toNat:Int)&&&BitVec.ofInt IntKind.u8.bits n).toNat:Int))=int .i32 (↑(zaq g g.size x):Int)/\x+1<=g.size/\Ext w11 w11)/\∀(u:Nat->Value) (x:Nat) w',x+1<=g.size/\Ext w11 w'->zc (decide ((x:Int)+1<(g.size:Int))) (InR .i32 ((64:Int)*(↑(zaq g g.size x):Int))/\qd ((x:Int)+1) g.size fun k2=>InR IntKind.i32 (IntKind.u8.wrap (↑(BitVec.ofInt IntKind.u8.bits (↑(g.data.toList.getD k2 (0:UInt8)).toNat:Int)&&&BitVec.ofInt IntKind.u8.bits (63:Int)).toNat:Int))/\InR IntKind.i32 ((64:Int)*(↑(zaq g g.size x):Int)+IntKind.u8.wrap (↑(BitVec.ofInt IntKind.u8.bits (↑(g.data.toList.getD k2 (0:UInt8)).toNat:Int)&&&BitVec.ofInt IntKind.u8.bits (63:Int)).toNat:Int))/\InR .i64 ((x:Int)+1+1)/\∃(y:Nat),int .i64 ((x:Int)+1+1)=int .i64 ((y:Int)+1)/\int IntKind.i32 ((64:Int)*(↑(zaq g g.size x):Int)+IntKind.u8.wrap (↑(BitVec.ofInt IntKind.u8.bits (↑(g.data.toList.getD k2 (0:UInt8)).toNat:Int)&&&BitVec.ofInt IntKind.u8.bits (63:Int)).toNat:Int))=int .i32 (↑(zaq g g.size y):Int)/\(y+1<=g.size/\Ext w11 w')/\g.size - y<g.size - x) (∃(x1:Nat),int .i32 (↑(zaq g g.size x):Int)=int .i32 (x1:Int)/\x1=zdn g g.size/\Ext w w')):zfC.Ok Tryz.prog 77:=ze zfC zqO [] (fun _ _=>rfl) (fun _ _=>rfl) hsp Tryz.func77 rfl (n:=1) (fun _=>rfl) (by kernel_rfl) (zl (by kernel_rfl) h)
theorem zrV(hsp:zf Tryz.prog zi7)(h:∀(g:ByteArray) (w:World),U8 w/\g.size<=67108864->∃(g1:ByteArray), #[string g]= #[string g1]/\g1.size<=67108864/\∀(x:Nat×Nat) w',x.fst=Zy g1/\x.snd=Zu g1/\w'=w->zc (g.toList==(ByteArray.mk #[]).toList) (∃(x1:Int×Nat),tuple #[int .i32 65533,int .i64 0]=tuple #[int .i32 x1.fst,int .i64 (x1.snd:Int)]/\x1.fst=nxR g/\x1.snd=QM g/\Ext w w') (zc ((x.fst:Int)==0||decide ((x.fst:Int)<(x.snd:Int))) (∃(x1:Int×Nat),tuple #[int .i32 65533,int .i64 1]=tuple #[int .i32 x1.fst,int .i64 (x1.snd:Int)]/\x1.fst=nxR g/\x1.snd=QM g/\Ext w w') (∃(k:Nat),(x.snd:Int)=(k:Int)/\0<=k/\k<=g.size/\∃(g2:ByteArray), #[string (g.extract 0 k)]= #[string g2]/\(1<=g2.size/\g2.size<=4)/\∀(x1:Nat) w'1,x1=zdn g2 g2.size/\Ext w' w'1->∃(x2:Int×Nat),tuple #[int .i32 (x1:Int),int .i64 (x.snd:Int)]=tuple #[int .i32 x2.fst,int .i64 (x2.snd:Int)]/\x2.fst=nxR g/\x2.snd=QM g/\Ext w w'1))):
    ((zdg nxR QM)).Ok Tryz.prog 52:=ze (zdg nxR QM) (zP zi7) zi7 (fun _ _=>rfl) (fun _ _=>rfl) hsp Tryz.func52 rfl (n:=1) (fun _=>rfl) (by kernel_rfl) (zl (by kernel_rfl) h)
theorem zvD(hsp:zf Tryz.prog zmr)(h:∀(g:ByteArray) (w:World),U8 w/\g.size<=67108864->∃(g1:ByteArray), #[string g]= #[string g1]/\(U8 w/\g1.size<=67108864)/\∀(x:Int×Nat) w',x.fst=nxR g1/\x.snd=QM g1/\Ext w w'->∃(x1:Int×Nat),tuple #[int .i32 x.fst,int .i64 (x.snd:Int)]=tuple #[int .i32 x1.fst,int .i64 (x1.snd:Int)]/\x1.fst=nxR g/\x1.snd=QM g/\Ext w w'):
    ((zdg nxR QM)).Ok Tryz.prog 50:=ze (zdg nxR QM) (zP zmr) zmr (fun _ _=>rfl) (fun _ _=>rfl) hsp Tryz.func50 rfl (n:=1) (fun _=>rfl) (by kernel_rfl) (zl (by kernel_rfl) h)
end

section
open Go Go.RowKit Vc
theorem zgb{xs:List Int}{x:Nat}(h:x<xs.length):xs.take (x+1)=xs.take x++[xs.getD x 0]:=by
  rw[List.take_add_one,List.getD_eq_getElem?_getD,List.getElem?_eq_getElem h];rfl
theorem zc5{k:IntKind}{xs:List Int}{i:Nat}(h:i<xs.length):((xs.take (i+1)).map (Value.int k))=((xs.take i).map (Value.int k))++[.int k (xs.getD i 0)]:=by
  rw[zgb h];simp
theorem zt4{w w1:World}{k:IntKind}{e:TypeId}{b:Nat}{xs:List Int}{cs:Array Value}(h:New w (.cells cs e) b w1)(hcs:cs=(xs.map (Value.int k)).toArray)(hl:xs.length<=35184372087808):GSl.at k ⟨some ⟨b,0,none⟩,xs.length,xs⟩ w1:=by
  subst hcs;exact⟨CellsAt.new h,hl⟩
theorem Ext.fr_new{w0 w w':World}{S:Nat->Prop}(h:Ext w0 w)(hf:Fr S w w')(hS:∀q,S q->w0.heap.size<=q):Ext w0 w':=
  Below.trans h (hf.below h.size (fun q hq hs=>by have:=hS q hs;omega))
theorem zoW(a b:Nat):((a:Int)==(b:Int))=decide (a=b):=decide_eq_decide.2 (by omega)
theorem zwz(a b:Nat):((a:Int) !=(b:Int))=decide (a≠b):=by
  rw[bne,zoW,decide_not]
theorem zcL{α:Type}{f:α->List Value}{s:Nat}(hf:∀x,(f x).length=s):∀{l:List α} {k j:Nat} {x:α},l[k]? =some x->j<s->(l.flatMap f)[k*s+j]? =(f x)[j]?
  |[],k,j,x,h,_=>by simp at h
  |y::l,0,j,x,h,hj=>by
   simp only[List.getElem?_cons_zero,Option.some.injEq]at h
   subst h
   rw[List.flatMap_cons,Nat.zero_mul,Nat.zero_add,List.getElem?_append_left (by rw[hf];exact hj)]
  |y::l,k+1,j,x,h,hj=>by
   simp only[List.getElem?_cons_succ]at h
   rw[List.flatMap_cons,List.getElem?_append_right (by rw[hf,Nat.add_mul];omega),hf,show(k+1)*s+j - s=k*s+j from by rw[Nat.add_mul];omega]
   exact zcL hf h hj
theorem ziw{α:Type}{f:α->List Value}{s:Nat}(hf:∀x,(f x).length=s)(l:List α):(l.flatMap f).length=l.length*s:=by
  induction l with
  |nil=>simp
  |cons x l ih=>rw[List.flatMap_cons,List.length_append,ih,hf,List.length_cons,Nat.add_mul];omega
namespace Vc
open Go Go.RowKit
theorem CellsAt.fld{w:World}{ad:Option Addr}{vs:List Value}{k s j:Nat}{v:Value}{K:Nat->Nat->Prop}(h:CellsAt w ad vs)(hv:vs[k*s+j]? =some v)
    (hk:∀b o,w.cell? ⟨b,o+k*s+j,none⟩=some v->K b o):zr ad K:=by
  rcases h with h|⟨b,o,h1,h2⟩
  ·subst h;simp at hv
  ·subst h1
   refine hk b o ?_
   rw[Nat.add_assoc];exact h2 _ _ hv
end Vc
end

section
open Go Go.RowKit Vc Ut
theorem U8.ext{w w':World}(h:U8 w)(hx:Ext w w'):U8 w':=⟨fun c hc=>hx.cell (h.1 c hc),fun i hi=>⟨hx.cell (h.2 i hi).1,hx.cell (h.2 i hi).2⟩⟩
theorem U8.fr{S:Nat->Prop}{w w':World}(h:U8 w)(hf:Fr S w w')(h0:¬S 0)(h1:¬S 1):U8 w':=by
  have k:∀(g o:Nat) (v:Value),¬S g->w.cell? ⟨g,o,none⟩=some v->w'.cell? ⟨g,o,none⟩=some v:=fun g o v hg hc=>
    (World.cell?_of_block (w:=w) (hf.block g (World.block_lt_of_cell? w _ hc) hg)).trans hc
  exact⟨fun c hc=>k _ _ _ h0 (h.1 c hc),fun i hi=>⟨k _ _ _ h1 (h.2 i hi).1,k _ _ _ h1 (h.2 i hi).2⟩⟩
theorem U8.lt{w:World}(h:U8 w):0<w.heap.size/\1<w.heap.size:=
  ⟨World.block_lt_of_cell? w _ (h.1 0 (by decide)),World.block_lt_of_cell? w _ (h.2 0 (by decide)).1⟩
theorem zaD(a b:ByteArray):(a.toList==b.toList)=decide (a=b):=by
  rw[ByteArray.toList_eq,ByteArray.toList_eq]
  by_cases h:a=b
  ·subst h;simp
  ·rw[decide_eq_false h]
   have:¬a.data.toList=b.data.toList:=fun hh=>h (ByteArray.ext (Array.ext' hh))
   simpa using this
theorem zay{a:ByteArray}(h:a.size=0):a=ByteArray.mk #[]:=by
  apply ByteArray.ext
  exact Array.eq_empty_of_size_eq_zero h
theorem zbA(a:ByteArray):(a.toList==(ByteArray.mk #[]).toList)=decide (a.size=0):=by
  rw[zaD]
  exact decide_eq_decide.2 ⟨fun h=>by rw[h];rfl,zay⟩
theorem zhY:zcC.Ok Tryz.prog 114:=by
  refine zo9 trivial ?_
  rintro⟨c,a,b⟩ w _
  refine⟨_,rfl,?_,rfl⟩
  dsimp only
  rw[Bool.decide_and]
  congr 1<;>exact decide_eq_decide.2 (by omega)
theorem zpt:zdI.Ok Tryz.prog 113:=by
  refine zps ⟨zhY,trivial⟩ ?_
  rintro c w _
  refine⟨(c,194,223),rfl,trivial,?_⟩
  rintro x w1 ⟨rfl,rfl⟩
  dsimp only
  refine zb (fun h=>⟨(128,191,2),rfl,?_,rfl⟩) (fun h1=> ?_)
  ·simp only[decide_eq_true_eq]at h;unfold zT;rw[if_pos h]
  simp only[decide_eq_false_iff_not]at h1
  refine zb (fun h=>⟨(160,191,3),rfl,?_,rfl⟩) (fun h2=> ?_)
  ·simp only[beq_iff_eq]at h;unfold zT;rw[if_neg h1,if_pos (by omega)]
  simp only[beq_eq_false_iff_ne,ne_eq]at h2
  refine zb (fun h=>⟨(128,159,3),rfl,?_,rfl⟩) (fun h3=> ?_)
  ·simp only[beq_iff_eq]at h;unfold zT;rw[if_neg h1,if_neg (by omega),if_pos (by omega)]
  simp only[beq_eq_false_iff_ne,ne_eq]at h3
  refine⟨(c,225,239),rfl,trivial,?_⟩
  rintro x w2 ⟨rfl,rfl⟩
  refine zb (fun h=>⟨(128,191,3),rfl,?_,rfl⟩) (fun h4=> ?_)
  ·simp only[decide_eq_true_eq]at h;unfold zT;rw[if_neg h1,if_neg (by omega),if_neg (by omega),if_pos h]
  simp only[decide_eq_false_iff_not]at h4
  refine zb (fun h=>⟨(144,191,4),rfl,?_,rfl⟩) (fun h5=> ?_)
  ·simp only[beq_iff_eq]at h;unfold zT;rw[if_neg h1,if_neg (by omega),if_neg (by omega),if_neg h4,if_pos (by omega)]
  simp only[beq_eq_false_iff_ne,ne_eq]at h5
  refine⟨(c,241,243),rfl,trivial,?_⟩
  rintro x w3 ⟨rfl,rfl⟩
  refine zb (fun h=>⟨(128,191,4),rfl,?_,rfl⟩) (fun h6=> ?_)
  ·simp only[decide_eq_true_eq]at h;unfold zT;rw[if_neg h1,if_neg (by omega),if_neg (by omega),if_neg h4,if_neg (by omega),if_pos h]
  simp only[decide_eq_false_iff_not]at h6
  refine zb (fun h=>⟨(128,143,4),rfl,?_,rfl⟩) (fun h7=>⟨(0,0,0),rfl,?_,rfl⟩)
  ·simp only[beq_iff_eq]at h;unfold zT;rw[if_neg h1,if_neg (by omega),if_neg (by omega),if_neg h4,if_neg (by omega),if_neg h6,if_pos (by omega)]
  ·simp only[beq_eq_false_iff_ne,ne_eq]at h7;unfold zT;rw[if_neg h1,if_neg (by omega),if_neg (by omega),if_neg h4,if_neg (by omega),if_neg h6,if_neg (by omega)]
theorem Qs{s:ByteArray}{f n:Nat}(h:¬okB s n):Zf s f n=n:=by
  cases f with
  |zero=>rfl
  |succ f=>unfold Zf;rw[if_neg h]
theorem zfF{s:ByteArray}{k n:Nat}(h:okB s n)(hk:n<k):Zf s (k - n) n=Zf s (k - (n+1)) (n+1):=by
  rw[show k - n=k - (n+1)+1 from by omega]
  unfold Zf
  rw[if_pos h]
  cases k - (n+1)<;>rfl
set_option maxRecDepth 20000 in
theorem ziL:zdK.Ok Tryz.prog 76:=by
  refine zqC ⟨zpt,zhY,trivial⟩ ?_
  rintro s w hsm
  rw[zbA]
  refine zb (fun h=> ?_) (fun h=> ?_)
  ·have h0:s.size=0:=by simpa using h
   exact⟨(0,0),rfl,by unfold Zy;rw[if_pos h0],by unfold Zu;rw[if_pos h0],rfl⟩
  have h0:¬s.size=0:=by simpa using h
  refine⟨0,rfl,by omega,?_⟩
  refine zb (fun h=> ?_) (fun h=> ?_)
  ·have h1:bt s 0<128:=by simp only[decide_eq_true_eq]at h;unfold bt;omega
   exact⟨(1,1),rfl,by unfold Zy;rw[if_neg h0,if_pos h1],by unfold Zu;rw[if_neg h0,if_pos h1],rfl⟩
  have h1:¬bt s 0<128:=by simp only[decide_eq_false_iff_not]at h;unfold bt;omega
  refine⟨0,rfl,by omega,bt s 0,rfl,trivial,?_⟩
  rintro x w1 ⟨rfl,rfl⟩
  have hS:Zu s=(zT (bt s 0)).2.2:=by unfold Zu;rw[if_neg h0,if_neg h1]
  refine zb (fun h=> ?_) (fun h=> ?_)
  ·have h2:(zT (bt s 0)).2.2=0:=by simp only[beq_iff_eq]at h;omega
   exact⟨(0,0),rfl,by unfold Zy;rw[if_neg h0,if_neg h1,if_pos h2],by rw[hS,h2],rfl⟩
  have h2:¬(zT (bt s 0)).2.2=0:=by simp only[beq_eq_false_iff_ne,ne_eq]at h;omega
  have hN:Zy s=Zf s ((zT (bt s 0)).2.2 - 1) 1:=by unfold Zy;rw[if_neg h0,if_neg h1,if_neg h2]
  have hbd:=zjk (bt s 0)
  refine⟨⟨1,rfl,rfl,rfl,rfl,Nat.le_refl _,by omega,by omega,rfl⟩,?_⟩
  rintro _ n w2 ⟨rfl,hn1,hn2,hn3,hrun⟩
  have done:Zf s ((zT (bt s 0)).2.2 - n) n=n->∃x2:Nat×Nat,Value.tuple #[.int .i64 n, .int .i64 (zT (bt s 0)).2.2]=Value.tuple #[.int .i64 x2.1, .int .i64 x2.2]/\x2.1=Zy s/\x2.2=Zu s/\w2=w2:=
    fun hd=>⟨(n,(zT (bt s 0)).2.2),rfl,by rw[hN,<-hrun,hd],hS.symm,rfl⟩
  refine zb (fun h=> ?_) (fun h=> ?_)
  ·have hk:n<(zT (bt s 0)).2.2:=by simp only[decide_eq_true_eq]at h;omega
   refine zb (fun h=> ?_) (fun h=> ?_)
   ·have hs:n<s.size:=by simp only[decide_eq_true_eq]at h;omega
    refine⟨n,rfl,hs,(bt s n,loB s n,hiB s n),rfl,trivial,?_⟩
    rintro x w3 ⟨rfl,rfl⟩
    dsimp only
    refine zb (fun h=> ?_) (fun h=> ?_)
    ·have hok:okB s n:=by simp only[decide_eq_true_eq]at h;exact⟨hs,h⟩
     refine⟨zd (by omega) (by omega),n+1,by simp,?_,?_,⟨rfl,by omega,by omega,by omega,by rw[<-hrun,zfF hok hk]⟩,by omega⟩
     ·unfold loB;rw[if_neg (by omega)];rfl
     ·unfold hiB;rw[if_neg (by omega)];rfl
    ·exact done (Qs (fun hok=>by simp only[decide_eq_false_iff_not]at h;exact h hok.2))
   ·exact done (Qs (fun hok=>by simp only[decide_eq_false_iff_not]at h;have:=hok.1;omega))
  ·have hk:n=(zT (bt s 0)).2.2:=by simp only[decide_eq_false_iff_not]at h;omega
   refine done ?_
   rw[<-hk,Nat.sub_self];rfl
set_option maxRecDepth 100000 in
theorem zqS:∀x:Fin 256,IntKind.u8.wrap ((BitVec.ofInt IntKind.u8.bits ((x.val:Nat):Int)&&&BitVec.ofInt IntKind.u8.bits 127).toNat:Int)=((x.val%128:Nat):Int)/\
    IntKind.u8.wrap ((BitVec.ofInt IntKind.u8.bits ((x.val:Nat):Int)&&&BitVec.ofInt IntKind.u8.bits 31).toNat:Int)=((x.val%32:Nat):Int)/\
    IntKind.u8.wrap ((BitVec.ofInt IntKind.u8.bits ((x.val:Nat):Int)&&&BitVec.ofInt IntKind.u8.bits 15).toNat:Int)=((x.val%16:Nat):Int)/\
    IntKind.u8.wrap ((BitVec.ofInt IntKind.u8.bits ((x.val:Nat):Int)&&&BitVec.ofInt IntKind.u8.bits 7).toNat:Int)=((x.val%8:Nat):Int)/\
    IntKind.u8.wrap ((BitVec.ofInt IntKind.u8.bits ((x.val:Nat):Int)&&&BitVec.ofInt IntKind.u8.bits 63).toNat:Int)=((x.val%64:Nat):Int):=by decide
theorem zl4(s:ByteArray)(i:Nat){m:Int}{k:Nat}(h:(m=127/\k=128)\/(m=31/\k=32)\/(m=15/\k=16)\/(m=7/\k=8)\/(m=63/\k=64)):
    IntKind.u8.wrap ((BitVec.ofInt IntKind.u8.bits ((s.data.toList.getD i 0).toNat:Int)&&&BitVec.ofInt IntKind.u8.bits m).toNat:Int)=((bt s i%k:Nat):Int):=by
  have:=zqS ⟨bt s i,QO s i⟩
  dsimp only at this
  rcases h with⟨rfl,rfl⟩|⟨rfl,rfl⟩|⟨rfl,rfl⟩|⟨rfl,rfl⟩|⟨rfl,rfl⟩
  ·exact this.1
  ·exact this.2.1
  ·exact this.2.2.1
  ·exact this.2.2.2.1
  ·exact this.2.2.2.2
theorem zpV:zfC.Ok Tryz.prog 77:=by
  refine zpU trivial ?_
  rintro s w ⟨h1,h4⟩ b w1 hn w2 hd
  have hcell:∃m:Int,w1.cell? ⟨b,0+(s.size - 1),none⟩=some (.int .u8 m)/\((m=127/\zcm s.size=128)\/(m=31/\zcm s.size=32)\/(m=15/\zcm s.size=16)\/(m=7/\zcm s.size=8)\/(m=63/\zcm s.size=64)):=by
    rw[Nat.zero_add,hn.cell]
    have:s.size=1\/s.size=2\/s.size=3\/s.size=4:=by omega
    rcases this with h|h|h|h<;>rw[h]
    ·exact⟨127,rfl, .inl ⟨rfl,rfl⟩⟩
    ·exact⟨31,rfl, .inr (.inl ⟨rfl,rfl⟩)⟩
    ·exact⟨15,rfl, .inr (.inr (.inl ⟨rfl,rfl⟩))⟩
    ·exact⟨7,rfl, .inr (.inr (.inr (.inl ⟨rfl,rfl⟩)))⟩
  obtain⟨m,hc,hm⟩:=hcell
  have hmod:=zl4 s 0 hm
  have hb:=QO s 0
  have hml:bt s 0%zcm s.size<=bt s 0:=Nat.mod_le _ _
  refine⟨0,rfl,by omega,zd (by omega) (by omega),s.size - 1,by omega,by omega,m,hc,?_,⟨0,rfl,?_,by omega,Ext.refl _⟩,?_⟩
  ·rw[hmod];exact qF (by omega) (by omega)
  ·rw[hmod];rfl
  rintro _ n w3 ⟨hn1,hw3⟩
  refine zb (fun h=> ?_) (fun h=> ?_)
  ·have hn2:n+1<s.size:=by simp only[decide_eq_true_eq]at h;omega
   have hp:=zvA s s.size n
   have hp64:(64:Nat)^n<=64^2:=Nat.pow_le_pow_right (by omega) (by omega)
   have hm63:=zl4 s (n+1) (m:=63) (k:=64) (.inr (.inr (.inr (.inr ⟨rfl,rfl⟩))))
   have h64:bt s (n+1)%64<64:=Nat.mod_lt _ (by omega)
   refine⟨qF (by omega) (by omega),n+1,by omega,hn2,?_,?_,zd (by omega) (by omega),n+1,by simp,?_,⟨by omega,hw3⟩,by omega⟩
   ·rw[hm63];exact qF (by omega) (by omega)
   ·rw[hm63];exact qF (by omega) (by omega)
   ·rw[hm63];simp only[zaq];simp
  ·have hn2:n=s.size - 1:=by simp only[decide_eq_false_iff_not]at h;omega
   refine⟨zaq s s.size n,rfl,by unfold zdn;rw[hn2],?_⟩
   exact Ext.trans hn.ext (Ext.trans hd.ext hw3)
theorem zsv{s:ByteArray}{k a n:Nat}(hk:k<=s.size)(hn:n<k):zaq (s.extract 0 k) a n=zaq s a n:=by
  induction n with
  |zero=>simp only[zaq];rw[zeQ (by omega)]
  |succ n ih=>simp only[zaq];rw[ih (by omega),zeQ (by omega),Nat.zero_add]
theorem zgS:(zdg nxR QM).Ok Tryz.prog 52:=by
  refine zrV ⟨ziL,zpV,trivial⟩ ?_
  rintro s w ⟨hU,hsm⟩
  refine⟨s,rfl,hsm,?_⟩
  rintro⟨n,k⟩ w1 ⟨hn,hk,rfl⟩
  dsimp only at hn hk⊢
  have hx:=zcj s
  rw[zbA]
  refine zb (fun h=> ?_) (fun h=> ?_)
  ·have h0:s.size=0:=by simpa using h
   exact⟨(65533,0),rfl,by unfold nxR;rw[if_pos h0],by unfold QM;rw[if_pos h0],Ext.refl _⟩
  have h0:¬s.size=0:=by simpa using h
  unfold zbl at hx
  rw[if_neg h0]at hx
  refine zb (fun h=> ?_) (fun h=> ?_)
  ·have hb:Zy s=0\/Zy s<Zu s:=by simp only[Bool.or_eq_true,beq_iff_eq,decide_eq_true_eq]at h;omega
   rw[if_pos hb]at hx
   exact⟨(65533,1),rfl,hx.1,hx.2,Ext.refl _⟩
  ·have hb:¬(Zy s=0\/Zy s<Zu s):=by simp only[Bool.or_eq_false_iff,beq_eq_false_iff_ne,ne_eq,decide_eq_false_iff_not]at h;omega
   rw[if_neg hb]at hx
   have hle:=zfW s
   have hsz:(s.extract 0 k).size=k:=by rw[zS (by omega)];rfl
   refine⟨k,rfl,Nat.zero_le _,by omega,_,rfl,by rw[hsz];omega,?_⟩
   rintro x w2 ⟨hx2,hw2⟩
   refine⟨(x,k),rfl,?_,by rw[hk];exact hx.2,hw2⟩
   dsimp only
   rw[hx2,hsz,<-hx.1,hk]
   unfold zdn
   rw[zsv (by omega) (by omega)]
theorem zyl:(zdg nxR QM).Ok Tryz.prog 75:=by
  rintro(s:ByteArray) w ⟨hU,hsm⟩
  refine(Tryz.utf8_DecodeRuneInString s w hU).mono fun e w' ⟨he,hx⟩=>⟨(nxR s,QM s),?_,⟨rfl,rfl,hx⟩,KO.below hx (Nat.le_refl _)⟩
  have:=ze8 s
  rw[he,this.1,this.2];rfl
theorem zjM:(zdg nxR QM).Ok Tryz.prog 50:=by
  refine zvD ⟨zyl,trivial⟩ ?_
  rintro s w hp
  refine⟨s,rfl,hp,?_⟩
  rintro x w1 ⟨h1,h2,h3⟩
  exact⟨x,rfl,h1,h2,h3⟩
theorem ziS(s:ByteArray)(h0:s.size≠0):zW s=if Zu s<=s.size then true else if 1<s.size/\¬okB s 1 then true else if 2<s.size/\¬okB s 2 then true else false:=by
  have hle:=zfW s
  unfold zW
  by_cases h1:Zu s<=s.size
  ·rw[if_pos h1];simp only[decide_eq_true_eq];omega
  ·rw[if_neg h1]
   have hS:Zu s=(zT (bt s 0)).2.2/\¬bt s 0<128:=by
     unfold Zu at h1⊢
     rw[if_neg h0]at h1⊢
     by_cases h:bt s 0<128
     ·rw[if_pos h]at h1;omega
     ·exact⟨if_neg h,h⟩
   have hN:Zy s=Zf s (Zu s - 1) 1:=by
     unfold Zy;rw[if_neg h0,if_neg hS.2,<-hS.1,if_neg (by omega)]
   have:s.size=1\/s.size=2\/s.size=3:=by omega
   rcases this with h|h|h
   ·have:¬okB s 1:=fun hh=>by have:=hh.1;omega
    rw[Qs this]at hN
    rw[if_neg (by omega),if_neg (by omega)];simp only[decide_eq_false_iff_not];omega
   ·have n2:¬okB s 2:=fun hh=>by have:=hh.1;omega
    by_cases k1:okB s 1
    ·rw[zfF k1 (by omega),Qs n2]at hN
     rw[if_neg (fun hh=>hh.2 k1),if_neg (by omega)];simp only[decide_eq_false_iff_not];omega
    ·rw[Qs k1]at hN
     rw[if_pos ⟨by omega,k1⟩];simp only[decide_eq_true_eq];omega
   ·have n3:¬okB s 3:=fun hh=>by have:=hh.1;omega
    by_cases k1:okB s 1
    ·rw[zfF k1 (by omega)]at hN
     rw[if_neg (fun hh=>hh.2 k1)]
     by_cases k2:okB s 2
     ·rw[zfF k2 (by omega),Qs n3]at hN
      rw[if_neg (fun hh=>hh.2 k2)];simp only[decide_eq_false_iff_not];omega
     ·rw[Qs k2]at hN
      rw[if_pos ⟨by omega,k2⟩];simp only[decide_eq_true_eq];omega
    ·rw[Qs k1]at hN
     rw[if_pos ⟨by omega,k1⟩];simp only[decide_eq_true_eq];omega
set_option maxRecDepth 100000 in
theorem zqi:∀c:Fin 256,IntKind.u8.wrap ((BitVec.ofInt IntKind.u8.bits ((Lib.firstT c.val:Nat):Int)&&&BitVec.ofInt IntKind.u8.bits 7).toNat:Int)=(if c.val<128 then 0 else if(zT c.val).2.2=0 then 1 else((zT c.val).2.2:Int))/\
    ((Lib.firstT c.val:Nat):Int).fdiv (2^min (Int.toNat 4) IntKind.u8.bits)=((Lib.firstT c.val / 16:Nat):Int)/\Lib.firstT c.val / 16<16/\
    ((zT c.val).2.2≠0->Lib.accLo (Lib.firstT c.val / 16)=(zT c.val).1/\Lib.accHi (Lib.firstT c.val / 16)=(zT c.val).2.1):=by decide
end

section
open Go Go.RowKit Vc Ut
theorem znq:ElemOk Tryz.prog 69 21 1 4:=Q4 (.int .i32 0) (by kernel_rfl) (by kernel_rfl) rfl
theorem zhv:ElemOk Tryz.prog 61 3 1 8:=Q4 (.int .i64 0) (by kernel_rfl) (by kernel_rfl) rfl
theorem zhu:ElemOk Tryz.prog 40 5 1 1:=Q4 (.int .u8 0) (by kernel_rfl) (by kernel_rfl) rfl
theorem zbo{s:ByteArray}{n:Nat}(h:s.size<=67108864):(s.extract (pos s n) s.size).size<=67108864:=by
  rw[zS (Nat.le_refl _)];omega
theorem zbK{s:ByteArray}{n:Nat}(h:pos s n<s.size):nxR (s.extract (pos s n) s.size)=dcR s (pos s n)/\QM (s.extract (pos s n) s.size)=Qh s (pos s n):=by
  have hz:¬(s.extract (pos s n) s.size).size=0:=by rw[zS (Nat.le_refl _)];omega
  unfold nxR QM dcR Qh
  rw[if_neg hz,if_neg hz,zah s (by omega)]
  exact⟨rfl,rfl⟩
end

section
open Go Go.RowKit Vc Ut
theorem zsp(s:ByteArray)(n:Nat):(zcg s n).length=4:=rfl
theorem zso(s:ByteArray)(n:Nat):∀u∈zcg s n,u.oneCell'=true:=by
  intro u hu
  simp only[zcg,List.mem_cons,List.not_mem_nil,or_false]at hu
  rcases hu with rfl|rfl|rfl|rfl<;>rfl
theorem zk6{s:ByteArray}{l:List Nat}{k j n:Nat}{v:Value}(hk:l[k]? =some n)(hj:(zcg s n)[j]? =some v):(l.flatMap (zcg s))[k*4+j]? =some v:=by
  rw[zcL (zsp s) hk (by have:=(List.getElem?_eq_some_iff.1 hj).1;simpa[zcg]using this)];exact hj
theorem zyA{s:ByteArray}{k:Nat}(h:k<cnt s):(zfo s)[k]? =some k:=by simp[zfo,List.getElem?_range,h]
theorem zcT(s:ByteArray)(n:Nat):zax s (n+1)=zax s n++(if zz s n then [(pos s n:Int)]else []):=by
  unfold zax
  rw[List.range_succ,List.filter_append,List.map_append]
  congr 1
  by_cases h:zz s n=true<;>simp[h]
theorem zt0(s:ByteArray)(n:Nat):(zax s n).length<=n:=by
  unfold zax;rw[List.length_map];have:=List.length_filter_le (zz s) (List.range n);simpa using this
theorem zhT{w w1:World}{s:ByteArray}{e c b:Nat}(h:zhO w s e c b w1):Made w w1 e 1 (some ⟨b,0,none⟩) (ZI s).length ((zo s).map (Value.int .i32)) c:=by
  obtain⟨h1,h2,rfl,rfl⟩:=h
  have hext:Ext w (w.drew.alloc (.cells (ZI s++List.replicate (c - (ZI s).length) (Value.int .i32 0)).toArray e)):=((Below.refl w.heap.size w).drew).alloc (Nat.le_refl _) _
  refine⟨⟨by rw[zes,Nat.mul_one], .inr ⟨w.heap.size,(ZI s++List.replicate (c - (ZI s).length) (Value.int .i32 0)).toArray,rfl,?_,h1,h2,?_,?_⟩⟩,?_,hext⟩
  ·show(w.heap.push _)[w.heap.size]? =_
   simp
  ·simp;omega
  ·rw[Nat.mul_one,List.take_left' rfl,zes]
  ·intro g hg;simp[qi]at hg;omega
theorem zdh(s:ByteArray):(ZI s).length=cnt s:=by rw[zes,List.length_map,zN]
theorem zdi{w:World}{ad:Option Addr}{xs:List Int}(h:CellsAt w ad (xs.map (Value.int .i32))):zac w ad xs.length xs:=by
  refine⟨rfl,?_⟩
  rcases h with h|⟨b,o,rfl,h⟩
  ·left;simpa using h
  ·right
   refine⟨b,o,rfl,fun j hj=>h j _ ?_⟩
   simp[List.getD,hj]
theorem Qn{w:World}{ad:Option Addr}{n:Nat}{s:ByteArray}(hn:n=s.size)(h:CellsAt w ad (s.data.toList.map fun b=>Value.int .u8 (b.toNat:Int))):Zz w ad n s:=by
  refine⟨hn.symm,?_⟩
  rcases h with h|⟨b,o,rfl,h⟩
  ·left;have:=qH s;rw[List.map_eq_nil_iff]at h;rw[h]at this;simp at this;omega
  ·right
   refine⟨b,o,rfl,fun j hj=>h j _ ?_⟩
   have hl:=qH s
   rw[List.getElem?_map,List.getD_eq_getElem?_getD,List.getElem?_eq_getElem (by omega)];rfl
theorem znA(xs:List Int):(runesBytes xs).data.toList.map (fun b=>Value.int .u8 (b.toNat:Int))=(xs.flatMap Zh).map (Value.int .u8):=by
  apply List.ext_getElem?
  intro j
  have hsz:=Qj xs
  have hl:=qH (runesBytes xs)
  rw[List.getElem?_map,List.getElem?_map]
  by_cases h:j<(xs.flatMap Zh).length
  ·have e:=zc1 xs j h
   have hnn:=zeM xs _ (List.getElem_mem h)
   rw[List.getD_eq_getElem?_getD,List.getD_eq_getElem?_getD,List.getElem?_eq_getElem h,List.getElem?_eq_getElem (by omega)]at e
   rw[List.getElem?_eq_getElem h,List.getElem?_eq_getElem (by omega)]
   simp only[Option.map_some,Option.getD_some]at e⊢
   congr 2;omega
  ·rw[List.getElem?_eq_none (by omega),List.getElem?_eq_none (by omega)];rfl
end

section
namespace Vc
open Go Go.RowKit
theorem Stored.box{w w1:World}{b:Nat}{u v:Value}{t:TypeId}(hs:Stored w ⟨b,0,none⟩ v w1)(h:w.heap[b]? =some (.cells #[u] t)):w1.heap[b]? =some (.cells #[v] t):=by
  have:=hs.heap h
  simpa using this
theorem ZD{w:World}{b:Nat}{v:Value}{t:TypeId}(h:w.heap[b]? =some (.cells #[v] t)):w.cell? ⟨b,0,none⟩=some v:=by
  rw[za h];rfl
theorem zfU{w:World}{b:Nat}{v:Value}{t:TypeId}(h:w.heap[b]? =some (.cells #[v] t)):∃old,w.cell? ⟨b,0,none⟩=some old:=⟨v,ZD h⟩
theorem zea{w:World}{b:Nat}{v:Value}{t:TypeId}(h:w.heap[b]? =some (.cells #[v] t)):w.frozen? ⟨b,0,none⟩=false:=zB h _
theorem zv{w:World}{b:Nat}{o:Obj}(h:w.heap[b]? =some o):b<w.heap.size:=(Array.getElem?_eq_some_iff.1 h).1
theorem Step.stored{D:Nat->Prop}{W W1:World}{p:Addr}{v:Value}(hs:Stored W p v W1)(hD:D p.block)(hdom:∀q,D q->q<W.heap.size):Step D W W1 D:=
  ⟨(Fr.stored hs).mono (fun x _ hx=>by subst hx;exact hD),fun q hq=>⟨by rw[hs.size];exact hdom q hq, .inl hq⟩⟩
theorem Step.refl{D:Nat->Prop}{W:World}(hdom:∀q,D q->q<W.heap.size):Step D W W D:=⟨Fr.refl _ _,fun q hq=>⟨hdom q hq, .inl hq⟩⟩
theorem Step.trans{D D1 D2:Nat->Prop}{a b c:World}(h:Step D a b D1)(k:Step D1 b c D2):Step D a c D2:=
  ⟨h.fr.trans k.fr (fun x hx hd=>((h.dom x hd).2).elim id (fun h2=>by omega)),fun q hq=>⟨(k.dom q hq).1,(k.dom q hq).2.elim (fun h1=>((h.dom q h1).2)) (fun h2=> .inr (Nat.le_trans h.fr.size h2))⟩⟩
theorem Step.ext{D:Nat->Prop}{W W1:World}(hx:Ext W W1)(hdom:∀q,D q->q<W.heap.size):Step D W W1 D:=⟨Fr.of_ext hx,fun q hq=>⟨Nat.lt_of_lt_of_le (hdom q hq) hx.size, .inl hq⟩⟩
theorem Mid.step{w W W1:World}{D0 D D':Nat->Prop}(h:Mid w D0 D W)(k:Step D W W1 D'):Mid w D0 D' W1:=
  ⟨h.fr.trans k.fr (fun x hx hd=>((h.dom x hd).2).elim id (fun h2=>by omega)),fun q hq=>⟨(k.dom q hq).1,(k.dom q hq).2.elim (fun h1=>(h.dom q h1).2) (fun h2=> .inr (Nat.le_trans h.fr.size h2))⟩⟩
theorem Mid.lt{w W:World}{D0 D:Nat->Prop}(h:Mid w D0 D W):∀q,D q->q<W.heap.size:=fun q hq=>(h.dom q hq).1
theorem Mid.old{w W:World}{D0 D:Nat->Prop}(h:Mid w D0 D W){b:Nat}(hb:b<w.heap.size)(h0:¬D0 b):W.heap[b]? =w.heap[b]? :=h.fr.block b hb h0
theorem Mid.start{w W:World}{D0:Nat->Prop}(h:Ext w W)(hd:∀q,D0 q->q<w.heap.size):Mid w D0 D0 W:=⟨Fr.of_ext h,fun q hq=>⟨Nat.lt_of_lt_of_le (hd q hq) h.size, .inl hq⟩⟩
theorem Mid.own{w W W1:World}{D0 D:Nat->Prop}{S:Nat->Prop}(h:Mid w D0 D W)(hf:Fr S W W1)(hS:∀q,S q->w.heap.size<=q):Mid w D0 D W1:=
  ⟨h.fr.trans hf (fun x hx hs=>by have:=hS x hs;omega),fun q hq=>⟨Nat.lt_of_lt_of_le (h.dom q hq).1 hf.size,(h.dom q hq).2⟩⟩
theorem Mid.ext{w0 w W:World}{D0 D:Nat->Prop}(h:Mid w D0 D W)(hx:Ext w0 w)(h0:∀q,D0 q->w0.heap.size<=q):Ext w0 W:=
  Below.trans hx (h.fr.below hx.size (fun q hq hd=>by have:=h0 q hd;omega))
theorem Ext.turn{w0 w w2:World}(h:Ext w0 w)(ht:Turn w0.heap.size w w2):Ext w0 w2:=Below.trans h ht.ext
theorem Ext.stored{w0 w w1:World}{p:Addr}{v:Value}(h:Ext w0 w)(hs:Stored w p v w1)(hp:w0.heap.size<=p.block):Ext w0 w1:=hs.below h hp
end Vc
end
end Go.Proofs.YtjdohhididpomaaGreatDoor
