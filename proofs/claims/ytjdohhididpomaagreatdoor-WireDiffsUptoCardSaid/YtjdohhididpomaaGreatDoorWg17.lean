/-
  Texts joined by program: VgXc, WkXc, WkXh, WkXi, WkXj, WkXk, WkXl, SpXi.
-/
import Derived.Test.YtjdohhididpomaaGreatDoorWg16
import Derived.Test.YtjdohhididpomaaGreatDoorProg
import Derived.KernelRfl
import Derived.Test.YtjdohhididpomaaGreatDoorWg07
import Derived.Test.YtjdohhididpomaaGreatDoorWg15
set_option linter.unusedVariables false
set_option linter.unusedSimpArgs false

namespace Go.Proofs.YtjdohhididpomaaGreatDoor
section
set_option linter.unusedVariables false
open Go Go.RowKit Vc Ut Tb Cl
open Value
set_option maxRecDepth 1000000
theorem zvN(hsp:zf Tryz.prog [])(h:∀(g:GGg) (w:World),qb w g.a1 g.g1.cs/\qb w g.a2 g.g2.cs->∀b w1,New w (Obj.cells #[int .i64 g.g1.w,int .i64 g.g1.h,slice g.a1 g.g1.cs.length g.c1,int .i64 g.g1.x,int .i64 g.g1.y] 24) b w1->∀b1 w11,New w1 (Obj.cells #[int .i64 g.g2.w,int .i64 g.g2.h,slice g.a2 g.g2.cs.length g.c2,int .i64 g.g2.x,int .i64 g.g2.y] 24) b1 w11->zt w11 b 0 fun n=>zt w11 b1 0 fun n1=>zc (n !=n1) (∃(x:Bool),bool false=bool x/\x=zae g.g1 g.g2/\Ext w w11) (zt w11 b 1 fun n2=>zt w11 b1 1 fun n3=>zc (n2 !=n3) (∃(x:Bool),bool false=bool x/\x=zae g.g1 g.g2/\Ext w w11) (zt w11 b 3 fun n4=>zt w11 b1 3 fun n5=>zc (n4 !=n5) (∃(x:Bool),bool false=bool x/\x=zae g.g1 g.g2/\Ext w w11) (zt w11 b 4 fun n6=>zt w11 b1 4 fun n7=>zc (n6 !=n7) (∃(x:Bool),bool false=bool x/\x=zae g.g1 g.g2/\Ext w w11) (qL w11 b 2 fun a3 n8 c=>qL w11 b1 2 fun a4 n9 c1=>zc ((n8:Int) !=(n9:Int)) (∃(x:Bool),bool false=bool x/\x=zae g.g1 g.g2/\Ext w w11) (qL w11 b 2 fun a5 n10 c2=>(∃(x:Nat),int .i64 0=int .i64 (x:Int)/\x<=g.g1.cs.length/\List.take x g.g1.cs=List.take x g.g2.cs/\Ext w11 w11)/\∀(u:Nat->Value) (x:Nat) w',x<=g.g1.cs.length/\List.take x g.g1.cs=List.take x g.g2.cs/\Ext w11 w'->zc (decide ((x:Int)<(n10:Int))) (∀w12,Drew w' w12->qL w' b 2 fun a8 n11 c3=>qd (x:Int) n11 fun k=>zr a8 fun(b2 o:Nat)=>LdT w' b2 (o+k*6) fun s=>zX w' .i8 b2 (o+k*6+1) fun n12=>zt w' b2 (o+k*6+2) fun n13=>zt w' b2 (o+k*6+3) fun n14=>ZG w' b2 (o+k*6+4) fun b3=>zX w' .u16 b2 (o+k*6+5) fun n15=>qL w' b1 2 fun a9 n16 c4=>qd (x:Int) n16 fun k1=>zr a9 fun(b4 o1:Nat)=>LdT w' b4 (o1+k1*6) fun s1=>zX w' .i8 b4 (o1+k1*6+1) fun n17=>zt w' b4 (o1+k1*6+2) fun n18=>zt w' b4 (o1+k1*6+3) fun n19=>ZG w' b4 (o1+k1*6+4) fun b5=>zX w' .u16 b4 (o1+k1*6+5) fun n20=>zc (!(s.toList==s1.toList&&(n12==n17&&(n13==n18&&(n14==n19&&(b3==b5&&(n15==n20&&true))))))) (∃(x1:Bool),bool false=bool x1/\x1=zae g.g1 g.g2/\Ext w w12) (InR .i64 ((x:Int)+1)/\∃(y:Nat),int .i64 ((x:Int)+1)=int .i64 (y:Int)/\(y<=g.g1.cs.length/\List.take y g.g1.cs=List.take y g.g2.cs/\Ext w11 w12)/\g.g1.cs.length - y<g.g1.cs.length - x)) (∃(x1:Bool),bool true=bool x1/\x1=zae g.g1 g.g2/\Ext w w'))))))):zjw.Ok Tryz.prog 32:=ze zjw zuj [] (fun _ _=>rfl) (fun _ _=>rfl) hsp Tryz.func32 rfl (n:=2) (fun _=>rfl) (by kernel_rfl) (zl (by kernel_rfl) h)
theorem zqA(hsp:zf Tryz.prog [])(h:∀(g:GCs) (w:World),CellsAt w g.ad (zE g.cs)/\zi g.cs<=16777216->(∃(x:Nat),int .i64 0=int .i64 (x:Int)/\int .i64 0=int .i64 (↑(zi (List.take x g.cs)):Int)/\x<=g.cs.length/\Ext w w)/\∀(u:Nat->Value) (x:Nat) w',x<=g.cs.length/\Ext w w'->zc (decide ((x:Int)<(g.cs.length:Int))) (qd (x:Int) g.cs.length fun k=>zr g.ad fun(b o:Nat)=>LdT w' b (o+k*6) fun s=>InR .i64 ((1:Int)+(s.size:Int))/\InR .i64 ((↑(zi (List.take x g.cs)):Int)+((1:Int)+(s.size:Int)))/\zc (decide ((↑(zi (List.take x g.cs)):Int)+((1:Int)+(s.size:Int))>16777216)) (∃(x1:Unit),bool true=bool false/\Ext w w') (InR .i64 ((x:Int)+1)/\∃(y:Nat),int .i64 ((x:Int)+1)=int .i64 (y:Int)/\int .i64 ((↑(zi (List.take x g.cs)):Int)+((1:Int)+(s.size:Int)))=int .i64 (↑(zi (List.take y g.cs)):Int)/\(y<=g.cs.length/\Ext w w')/\g.cs.length - y<g.cs.length - x)) (∃(x1:Unit),bool false=bool false/\Ext w w')):zfE.Ok Tryz.prog 6:=ze zfE zqQ [] (fun _ _=>rfl) (fun _ _=>rfl) hsp Tryz.func6 rfl (n:=1) (fun _=>rfl) (by kernel_rfl) (zl (by kernel_rfl) h)
theorem zvV(hsp:zf Tryz.prog zmv)(h:∀(g:GKp) (w:World),CellsAt w g.a1 (zE (g.g.cs++[qP]))/\g.g.cs.length+1<=g.c1/\qb w g.a2 g.g.cs->∀b w1,New w (Obj.cells #[int .i64 g.g.w,int .i64 g.g.h,slice g.a1 g.g.cs.length g.c1,int .i64 g.g.x,int .i64 g.g.y] 24) b w1->∀b1 w11,New w1 (Obj.cells #[int .i64 g.g.w,int .i64 g.g.h,slice g.a2 g.g.cs.length g.c2,int .i64 g.g.x,int .i64 g.g.y] 24) b1 w11->qL w11 b1 2 fun a3 n c=>LdG w11 b fun n1 n2 a4 n3 c1 n4 n5=>LdG w11 b1 fun n6 n7 a5 n8 c2 n9 n10=>∃(g1:GGg), #[agg #[int .i64 n1,int .i64 n2,slice a4 n3 c1,int .i64 n4,int .i64 n5],agg #[int .i64 n6,int .i64 n7,slice a5 n8 c2,int .i64 n9,int .i64 n10]]= #[ZT g1.a1 g1.c1 g1.g1,ZT g1.a2 g1.c2 g1.g2]/\(qb w11 g1.a1 g1.g1.cs/\qb w11 g1.a2 g1.g2.cs)/\∀(x:Bool) w',x=zae g1.g1 g1.g2/\Ext w11 w'->zc x (qL w' b 2 fun a7 n11 c3=>InR .i64 ((n:Int)+1)/\∃(hn:Nat),(n:Int)+1=(hn:Int)/\hn<=c3/\qd (n:Int) hn fun k=>zr a7 fun(b2 o:Nat)=>zX w' .i8 b2 (o+k*6+1) fun n12=>∃(x1:Unit),bool (n12==77)=bool true/\Ext w w') (∃(x1:Unit),bool false=bool true/\Ext w w')):zn3.Ok Tryz.prog 13:=ze zn3 (zP zmv) zmv (fun _ _=>rfl) (fun _ _=>rfl) hsp Tryz.func13 rfl (n:=2) (fun _=>rfl) (by kernel_rfl) (zl (by kernel_rfl) h)
theorem zvJ(hsp:zf Tryz.prog zmt)(h:∀(g:GGw) (w:World),UD w/\qb w g.a1 g.g1.cs/\qb w g.a2 g.g2.cs->∀b w1,New w (Obj.cells #[int .i64 g.g1.w,int .i64 g.g1.h,slice g.a1 g.g1.cs.length g.c1,int .i64 g.g1.x,int .i64 g.g1.y] 24) b w1->∀b1 w11,New w1 (Obj.cells #[int .i64 g.g2.w,int .i64 g.g2.h,slice g.a2 g.g2.cs.length g.c2,int .i64 g.g2.x,int .i64 g.g2.y] 24) b1 w11->(LdG w11 b fun n n1 a3 n2 c n3 n4=>∃(g1:GGr), #[agg #[int .i64 n,int .i64 n1,slice a3 n2 c,int .i64 n3,int .i64 n4],bool g.wd]= #[ZT g1.ad g1.c g1.g,bool g1.wd]/\(UD w11/\qb w11 g1.ad g1.g.cs)/\∀(x:Bool) w',x=zm g1.g g1.wd/\Ext w11 w'->zc x (zt w' b 0 fun n5=>zt w' b1 0 fun n6=>zc (n5==n6) (zt w' b 1 fun n7=>zt w' b1 1 fun n8=>∃(c1:Unit),bool (n7==n8)=bool (qC g.g1 g.g2 g.wd)/\Ext w11 w') (∃(c1:Unit),bool false=bool (qC g.g1 g.g2 g.wd)/\Ext w11 w')) (∃(c1:Unit),bool false=bool (qC g.g1 g.g2 g.wd)/\Ext w11 w'))/\∀(u:Nat->Value) (c:Unit) w',Ext w11 w'->(∃(x:Nat),int .i64 0=int .i64 (x:Int)/\int .i64 100=int .i64 (↑(Ze (qC g.g1 g.g2 g.wd) g.g1.cs g.g2.cs x):Int)/\x<=g.g2.cs.length/\Ext w' w')/\∀(u1:Nat->Value) (x:Nat) w'1,x<=g.g2.cs.length/\Ext w' w'1->qL w'1 b1 2 fun a5 n c1=>zc (decide ((x:Int)<(n:Int))) (∀w12,Drew w'1 w12->zc (qC g.g1 g.g2 g.wd) (qL w'1 b 2 fun a7 n1 c2=>zc (decide ((x:Int)<(n1:Int))) (qL w'1 b 2 fun a8 n2 c3=>qd (x:Int) n2 fun k=>zr a8 fun(b2 o:Nat)=>LdT w'1 b2 (o+k*6) fun s=>zX w'1 .i8 b2 (o+k*6+1) fun n3=>zt w'1 b2 (o+k*6+2) fun n4=>zt w'1 b2 (o+k*6+3) fun n5=>ZG w'1 b2 (o+k*6+4) fun b3=>zX w'1 .u16 b2 (o+k*6+5) fun n6=>qL w'1 b1 2 fun a9 n7 c4=>qd (x:Int) n7 fun k1=>zr a9 fun(b4 o1:Nat)=>LdT w'1 b4 (o1+k1*6) fun s1=>zX w'1 .i8 b4 (o1+k1*6+1) fun n8=>zt w'1 b4 (o1+k1*6+2) fun n9=>zt w'1 b4 (o1+k1*6+3) fun n10=>ZG w'1 b4 (o1+k1*6+4) fun b5=>zX w'1 .u16 b4 (o1+k1*6+5) fun n11=>∃(g1:Ce×Ce), #[agg #[string s,int .i8 n3,int .i64 n4,int .i64 n5,bool b3,int .u16 n6],agg #[string s1,int .i8 n8,int .i64 n9,int .i64 n10,bool b5,int .u16 n11]]= #[agg #[string g1.fst.t,int .i8 g1.fst.p,int .i64 g1.fst.a,int .i64 g1.fst.n,bool g1.fst.r,int .u16 (g1.fst.st:Int)],agg #[string g1.snd.t,int .i8 g1.snd.p,int .i64 g1.snd.a,int .i64 g1.snd.n,bool g1.snd.r,int .u16 (g1.snd.st:Int)]]/\True/\∀(x1:Bool) w'2,x1=qm g1.fst g1.snd/\Ext w12 w'2->zc x1 (InR .i64 ((x:Int)+1)/\∃(y:Nat),int .i64 ((x:Int)+1)=int .i64 (y:Int)/\int .i64 (↑(Ze (qC g.g1 g.g2 g.wd) g.g1.cs g.g2.cs x):Int)=int .i64 (↑(Ze (qC g.g1 g.g2 g.wd) g.g1.cs g.g2.cs y):Int)/\(y<=g.g2.cs.length/\Ext w' w'2)/\g.g2.cs.length - y<g.g2.cs.length - x)
 (InR .i64 ((↑(Ze (qC g.g1 g.g2 g.wd) g.g1.cs g.g2.cs x):Int)+60)/\qL w'2 b1 2 fun a11 n12 c5=>qd (x:Int) n12 fun k2=>zr a11 fun(b6 o2:Nat)=>LdT w'2 b6 (o2+k2*6) fun s2=>InR .i64 ((↑(Ze (qC g.g1 g.g2 g.wd) g.g1.cs g.g2.cs x):Int)+60+(s2.size:Int))/\InR .i64 ((x:Int)+1)/\∃(y:Nat),int .i64 ((x:Int)+1)=int .i64 (y:Int)/\int .i64 ((↑(Ze (qC g.g1 g.g2 g.wd) g.g1.cs g.g2.cs x):Int)+60+(s2.size:Int))=int .i64 (↑(Ze (qC g.g1 g.g2 g.wd) g.g1.cs g.g2.cs y):Int)/\(y<=g.g2.cs.length/\Ext w' w'2)/\g.g2.cs.length - y<g.g2.cs.length - x)) (InR .i64 ((↑(Ze (qC g.g1 g.g2 g.wd) g.g1.cs g.g2.cs x):Int)+60)/\qL w12 b1 2 fun a8 n2 c3=>qd (x:Int) n2 fun k=>zr a8 fun(b2 o:Nat)=>LdT w12 b2 (o+k*6) fun s=>InR .i64 ((↑(Ze (qC g.g1 g.g2 g.wd) g.g1.cs g.g2.cs x):Int)+60+(s.size:Int))/\InR .i64 ((x:Int)+1)/\∃(y:Nat),int .i64 ((x:Int)+1)=int .i64 (y:Int)/\int .i64 ((↑(Ze (qC g.g1 g.g2 g.wd) g.g1.cs g.g2.cs x):Int)+60+(s.size:Int))=int .i64 (↑(Ze (qC g.g1 g.g2 g.wd) g.g1.cs g.g2.cs y):Int)/\(y<=g.g2.cs.length/\Ext w' w12)/\g.g2.cs.length - y<g.g2.cs.length - x)) (InR .i64 ((↑(Ze (qC g.g1 g.g2 g.wd) g.g1.cs g.g2.cs x):Int)+60)/\qL w12 b1 2 fun a7 n1 c2=>qd (x:Int) n1 fun k=>zr a7 fun(b2 o:Nat)=>LdT w12 b2 (o+k*6) fun s=>InR .i64 ((↑(Ze (qC g.g1 g.g2 g.wd) g.g1.cs g.g2.cs x):Int)+60+(s.size:Int))/\InR .i64 ((x:Int)+1)/\∃(y:Nat),int .i64 ((x:Int)+1)=int .i64 (y:Int)/\int .i64 ((↑(Ze (qC g.g1 g.g2 g.wd) g.g1.cs g.g2.cs x):Int)+60+(s.size:Int))=int .i64 (↑(Ze (qC g.g1 g.g2 g.wd) g.g1.cs g.g2.cs y):Int)/\(y<=g.g2.cs.length/\Ext w' w12)/\g.g2.cs.length - y<g.g2.cs.length - x)) (∃(x1:Nat),int .i64 (↑(Ze (qC g.g1 g.g2 g.wd) g.g1.cs g.g2.cs x):Int)=int .i64 (x1:Int)/\x1=Ze (qC g.g1 g.g2 g.wd) g.g1.cs g.g2.cs g.g2.cs.length/\Ext w w'1)):zn2.Ok Tryz.prog 19:=ze zn2 zwZ zmt (fun _ _=>rfl) (fun _ _=>rfl) hsp Tryz.func19 rfl (n:=3) (fun _=>rfl) (by kernel_rfl) (zl (by kernel_rfl) h)
theorem zuH(hsp:zf Tryz.prog [])(h:∀(g:GTw) (w:World),qb w g.ad g.g.cs->∀b w1,New w (Obj.cells #[int .i64 g.g.w,int .i64 g.g.h,slice g.ad g.g.cs.length g.c,int .i64 g.g.x,int .i64 g.g.y] 24) b w1->∀b1 w11,New w1 (Obj.cells #[int .i64 0,int .i64 0,slice none 0 0,int .i64 0,int .i64 0] 24) b1 w11->qL w11 b 2 fun a3 n c=>InR .i64 ((n:Int)+1)/\∃(n1:Nat) (m:Nat),(0:Int)=(n1:Int)/\(n:Int)+1=(m:Int)/\n1<=m/\48*m<=281474976710656/\m<=9223372036854775807/\∀b2 w12,New w11 (Obj.cells (Qu (agg #[string (ByteArray.mk #[]),int .i8 0,int .i64 0,int .i64 0,bool false,int .u16 0]).cells m) 52) b2 w12->qL w12 b 2 fun a5 n2 c1=>∃(a':Option Addr) (c':Nat) (w':World),zA Tryz.prog #[22,22] 22 (slice (some ⟨b2,0,none⟩) n1 m) (slice a5 n2 c1) w12 a' (n1+n2) c' w'/\KO w12 w'/\∀b3 w13,New w' (Obj.cells #[string (ByteArray.mk #[]),int .i8 77,int .i64 0,int .i64 0,bool false,int .u16 0] 52) b3 w13->∃(a'1:Option Addr) (c'1:Nat) (w'1:World),zA Tryz.prog #[22,22] 22 (slice a' (n1+n2) c') (slice (some ⟨b3,0,none⟩) 1 1) w13 a'1 (n1+n2+1) c'1 w'1/\KO w13 w'1/\InR .i64 ((↑(n1+n2+1):Int) - 1)/\∃(hn:Nat),(↑(n1+n2+1):Int) - 1=(hn:Int)/\hn<=c'1/\zh w'1 b 2 (slice a'1 hn c'1) fun w14=>LdG w14 b fun n3 n4 a8 n5 c2 n6 n7=>zh w14 b1 0 (int .i64 n3) fun w15=>zh w15 b1 1 (int .i64 n4) fun w16=>zh w16 b1 2 (slice a8 n5 c2) fun w17=>zh w17 b1 3 (int .i64 n6) fun w18=>zh w18 b1 4 (int .i64 n7) fun w19=>LdG w19 b1 fun n8 n9 a14 n10 c3 n11 n12=>∃(x:GTw),agg #[int .i64 n8,int .i64 n9,slice a14 n10 c3,int .i64 n11,int .i64 n12]=ZT x.ad x.c x.g/\x.g=g.g/\Made w w19 (52:TypeId) 6 x.ad (g.g.cs.length+1) (zE (g.g.cs++[qP])) x.c):znU.Ok Tryz.prog 8:=ze znU (zP []) [] (fun _ _=>rfl) (fun _ _=>rfl) hsp Tryz.func8 rfl (n:=1) (fun _=>rfl) (by kernel_rfl) (zl (by kernel_rfl) h)
end

section
open Go Go.RowKit Vc Ut Tb Cl
theorem Qm:ElemOk Tryz.prog 22 52 6 48:=Q4 (.agg #[.string ⟨#[]⟩, .int .i8 0, .int .i64 0, .int .i64 0, .bool false, .int .u16 0]) (by kernel_rfl) (by kernel_rfl) rfl
theorem zd9(a b:List Ce):zi (a++b)=zi a+zi b:=by simp[zi]
theorem zcR(l:List Ce)(i:Nat):zi (l.take i)<=zi l:=by
  have:=zd9 (l.take i) (l.drop i)
  rw[List.take_append_drop]at this;omega
theorem zdC{l:List Ce}{i:Nat}(h:i<l.length):l.take (i+1)=l.take i++[zg l i]:=by
  rw[List.take_succ_eq_append_getElem h,zbW h]
theorem zqB:zfE.Ok Tryz.prog 6:=by
  refine zqA trivial ?_
  rintro⟨ad,c,cs⟩ w ⟨hc,hb⟩
  dsimp only at hc hb⊢
  have hl:=bulk_len cs
  refine⟨⟨0,rfl,rfl,Nat.zero_le _,Ext.refl _⟩,?_⟩
  rintro _ i w1 ⟨hi,e1⟩
  refine zb (fun h=> ?_) (fun h=>⟨(),rfl,e1⟩)
  have hlt:i<cs.length:=by have:=of_decide_eq_true h;omega
  have hs:zi (cs.take (i+1))=zi (cs.take i)+(1+(zg cs i).t.size):=by
    rw[zdC hlt,zd9,zaB];rfl
  have h1:=zcR cs (i+1)
  refine⟨i,rfl,hlt,(hc.ext e1).ce hlt fun b o hce=>⟨_,hce.1,zd (by omega) (by omega),zd (by omega) (by omega),zb (fun h=> ?_) (fun h=>⟨zd (by omega) (by omega),i+1,rfl,?_,⟨hlt,e1⟩,by omega⟩)⟩⟩
  ·exfalso;have:=of_decide_eq_true h;omega
  ·rw[hs];rfl
theorem zvO:zjw.Ok Tryz.prog 32:=by
  refine zvN trivial ?_
  rintro⟨a1,c1,g1,a2,c2,g2⟩ w ⟨⟨hc1,hb1⟩,⟨hc2,hb2⟩⟩ b w1 hn1 b2 w2 hn2
  dsimp only at hc1 hb1 hc2 hb2 hn1 hn2⊢
  have hg1:=(ZR hn1.heap).ext hn2.ext
  have hg2:=ZR hn2.heap
  have e02:=Ext.trans hn1.ext hn2.ext
  have hl1:=bulk_len g1.cs
  refine⟨_,hg1.w,_,hg2.w,zb (fun h=>⟨_,rfl,?_,e02⟩) (fun k1=>⟨_,hg1.h,_,hg2.h,zb (fun h=>⟨_,rfl,?_,e02⟩) (fun k2=>⟨_,hg1.x,_,hg2.x,zb (fun h=>⟨_,rfl,?_,e02⟩) (fun k3=>⟨_,hg1.y,_,hg2.y,zb (fun h=>⟨_,rfl,?_,e02⟩) (fun k4=> ?_)⟩)⟩)⟩)⟩
  ·unfold zae;rw[show(g1.w==g2.w)=false from by rw[beq_eq_false_iff_ne];exact bne_iff_ne.1 h];rfl
  ·unfold zae;rw[show(g1.h==g2.h)=false from by rw[beq_eq_false_iff_ne];exact bne_iff_ne.1 h];simp
  ·unfold zae;rw[show(g1.x==g2.x)=false from by rw[beq_eq_false_iff_ne];exact bne_iff_ne.1 h];simp
  ·unfold zae;rw[show(g1.y==g2.y)=false from by rw[beq_eq_false_iff_ne];exact bne_iff_ne.1 h];simp
  have hS:zae g1 g2=decide (g1.cs=g2.cs):=by
    unfold zae
    rw[bne_eq_false_iff_eq.1 k1,bne_eq_false_iff_eq.1 k2,bne_eq_false_iff_eq.1 k3,bne_eq_false_iff_eq.1 k4]
    simp
  rw[hS]
  refine⟨_,_,_,hg1.cs,_,_,_,hg2.cs,zb (fun h=>⟨_,rfl,?_,e02⟩) (fun k5=> ?_)⟩
  ·have h:=bne_iff_ne.1 h
   symm;rw[decide_eq_false_iff_not];intro hh;rw[hh]at h;exact h rfl
  have hlen:g1.cs.length=g2.cs.length:=by have:=bne_eq_false_iff_eq.1 k5;omega
  refine⟨_,_,_,hg1.cs,⟨0,rfl,Nat.zero_le _,rfl,Ext.refl _⟩,?_⟩
  rintro _ i w3 ⟨hi,hs,e23⟩
  have e03:=Ext.trans e02 e23
  refine zb (fun h=> ?_) (fun h=>⟨_,rfl,?_,e03⟩)
  ·have hlt:i<g1.cs.length:=by have:=of_decide_eq_true h;omega
   intro w4 hd
   have hg13:=hg1.ext e23
   have hg23:=hg2.ext e23
   refine⟨_,_,_,hg13.cs,i,rfl,hlt,(hc1.ext e03).ce hlt fun b3 o3 hce=>hce.load ⟨_,_,_,hg23.cs,i,rfl,by omega,(hc2.ext e03).ce (by omega) fun b4 o4 hcd=>hcd.load ?_⟩⟩
   have heq:((zg g1.cs i).t.toList==(zg g2.cs i).t.toList&&((zg g1.cs i).p==(zg g2.cs i).p&&((zg g1.cs i).a==(zg g2.cs i).a&&((zg g1.cs i).n==(zg g2.cs i).n&&((zg g1.cs i).r==(zg g2.cs i).r&&((((zg g1.cs i).st:Nat):Int)==(((zg g2.cs i).st:Nat):Int)&&true))))))=decide (zg g1.cs i=zg g2.cs i):=by
     rw[zaD]
     generalize zg g1.cs i=x
     generalize zg g2.cs i=y
     obtain⟨x1,x2,x3,x4,x5,x6⟩:=x
     obtain⟨y1,y2,y3,y4,y5,y6⟩:=y
     rw[Bool.eq_iff_iff]
     simp only[Bool.and_eq_true,decide_eq_true_eq,beq_iff_eq,and_true,Ce.mk.injEq]
     constructor
     ·rintro⟨h1,h2,h3,h4,h5,h6⟩;exact⟨h1,h2,h3,h4,h5,by omega⟩
     ·rintro⟨h1,h2,h3,h4,h5,h6⟩;exact⟨h1,h2,h3,h4,h5,by omega⟩
   rw[heq]
   refine zb (fun h=>⟨_,rfl,?_,Ext.trans e03 hd.ext⟩) (fun h=>⟨zd (by omega) (by omega),i+1,rfl,⟨by omega,?_,Ext.trans e23 hd.ext⟩,by omega⟩)
   ·have h:¬zg g1.cs i=zg g2.cs i:=by simpa using h
    symm;rw[decide_eq_false_iff_not];intro hh;rw[hh]at h;exact h rfl
   ·have h:zg g1.cs i=zg g2.cs i:=by simpa using h
    rw[zdC hlt,zdC (by omega),hs,h]
  ·have h:=of_decide_eq_false h
   symm;rw[decide_eq_true_eq]
   rw[List.take_of_length_le (by omega),List.take_of_length_le (by omega)]at hs
   exact hs
theorem zp3(g:Gr):zae g g=true:=by unfold zae;simp
theorem zvW:zn3.Ok Tryz.prog 13:=by
  refine zvV ⟨zvO,trivial⟩ ?_
  rintro⟨a1,c1,a2,c2,g⟩ w ⟨hc1,hl,hc2,hb⟩ b w1 hn1 b2 w2 hn2
  dsimp only at hc1 hl hc2 hb hn1 hn2⊢
  have hg1:=(ZR hn1.heap).ext hn2.ext
  have hg2:=ZR hn2.heap
  have e02:=Ext.trans hn1.ext hn2.ext
  have hl1:=bulk_len g.cs
  have hcl:CellsAt w a1 (zE g.cs):=by
    have:=hc1.take (g.cs.length*6)
    rw[zhp,List.take_left' rfl]at this
    exact this
  refine⟨_,_,_,hg2.cs,hg1.load (hg2.load ⟨⟨a1,c1,g,a2,c2,g⟩,rfl,⟨⟨hcl.ext e02,hb⟩,hc2.ext e02,hb⟩,?_⟩)⟩
  rintro x w3 ⟨hx,e23⟩
  dsimp only at hx
  rw[zp3]at hx
  have e03:=Ext.trans e02 e23
  refine zb (fun h=> ?_) (fun h=>by rw[hx]at h;cases h)
  have hg3:=hg1.ext e23
  have hm:g.cs.length<(g.cs++[qP]).length:=by simp
  refine⟨_,_,_,hg3.cs,zd (by omega) (by omega),g.cs.length+1,rfl,hl,g.cs.length,rfl,by omega,(hc1.ext e03).ce hm fun b3 o3 hce=>⟨_,hce.2.1,(),?_,e03⟩⟩
  have:zg (g.cs++[qP]) g.cs.length=qP:=by
    unfold zg;rw[List.getD_eq_getElem?_getD,List.getElem?_append_right (Nat.le_refl _),Nat.sub_self];rfl
  rw[this];rfl
theorem zpY(kn:Bool)(a b:List Ce):Ze kn a b 0=100:=rfl
theorem zil(kn:Bool)(a b:List Ce)(i:Nat):Ze kn a b (i+1)=Ze kn a b i+if kn&&(decide (i<a.length)&&qm (zg a i) (zg b i))then 0 else 60+(zg b i).t.size:=by
  unfold Ze;rw[List.range_succ,List.map_append,List.sum_append];simp;omega
theorem zop(kn:Bool)(a b:List Ce):∀i,i<=b.length->Ze kn a b i<=100+60*zi (b.take i)
  |0,_=>by rw[zpY];omega
  |i+1,h=>by
   have:=zop kn a b i (by omega)
   rw[zil,zdC h,zd9,zaB]
   split<;>simp[zi]at* <;>omega
theorem zvK:zn2.Ok Tryz.prog 19:=by
  refine zvJ ⟨zh9,ziP,trivial⟩ ?_
  rintro⟨a1,c1,g1,a2,c2,g2,wd⟩ w ⟨hU,⟨hc1,hb1⟩,⟨hc2,hb2⟩⟩ b w1 hn1 b2 w2 hn2
  dsimp only at hc1 hb1 hc2 hb2 hn1 hn2⊢
  have hg1:=(ZR hn1.heap).ext hn2.ext
  have hg2:=ZR hn2.heap
  have e02:=Ext.trans hn1.ext hn2.ext
  have hl2:=bulk_len g2.cs
  refine⟨hg1.load ⟨⟨a1,c1,g1,wd⟩,rfl,⟨hU.ext e02,hc1.ext e02,hb1⟩,?_⟩,?_⟩
  ·rintro x w3 ⟨hx,e23⟩
   dsimp only at hx
   have h1:=hg1.ext e23
   have h2:=hg2.ext e23
   refine zb (fun h=>⟨_,h1.w,_,h2.w,zb (fun h3=>⟨_,h1.h,_,h2.h,(),?_,e23⟩) (fun h3=>⟨(),?_,e23⟩)⟩) (fun h=>⟨(),?_,e23⟩)
   ·unfold qC;rw[<-hx,h,h3];rfl
   ·unfold qC;rw[<-hx,h,h3];rfl
   ·unfold qC;rw[<-hx,h];rfl
  rintro _ _ w3 e23
  generalize hkn:qC g1 g2 wd=kn
  refine⟨⟨0,rfl,rfl,Nat.zero_le _,Ext.refl _⟩,?_⟩
  rintro _ i w4 ⟨hi,e34⟩
  have e24:=Ext.trans e23 e34
  have e04:=Ext.trans e02 e24
  have h1:=hg1.ext e24
  have h2:=hg2.ext e24
  have hc1':=hc1.ext e04
  have hc2':=hc2.ext e04
  refine⟨_,_,_,h2.cs,zb (fun h=> ?_) (fun h=>⟨_,rfl,?_,e04⟩)⟩
  rotate_left
  ·have h:=of_decide_eq_false h
   rw[show i=g2.cs.length from by omega]
  have hlt:i<g2.cs.length:=by have:=of_decide_eq_true h;omega
  intro w5 hd
  have hml:=zop kn g1.cs g2.cs i hi
  have hbt:=zcR g2.cs i
  have hba:=zcS g2.cs hlt
  have hms:=zil kn g1.cs g2.cs i
  have add:∀{w6:World},Ext w5 w6->(kn&&(decide (i<g1.cs.length)&&qm (zg g1.cs i) (zg g2.cs i)))=false->
   InR .i64 ((Ze kn g1.cs g2.cs i:Int)+60)/\∃(a:Option Addr) (n c:Nat),w6.cell? ⟨b2,2,none⟩=some (.slice a n c)/\∃k:Nat,(i:Int)=(k:Int)/\k<n/\zr a fun b6 o2=>∃s2:ByteArray,w6.cell? ⟨b6,o2+k*6,none⟩=some (.string s2)/\
     InR .i64 ((Ze kn g1.cs g2.cs i:Int)+60+(s2.size:Int))/\InR .i64 ((i:Int)+1)/\∃y:Nat,Value.int .i64 ((i:Int)+1)=Value.int .i64 (y:Int)/\Value.int .i64 ((Ze kn g1.cs g2.cs i:Int)+60+(s2.size:Int))=Value.int .i64 (Ze kn g1.cs g2.cs y:Int)/\
       (y<=g2.cs.length/\Ext w3 w6)/\g2.cs.length - y<g2.cs.length - i:=by
    intro w6 e56 hf
    have e46:=Ext.trans hd.ext e56
    rw[hf]at hms
    refine⟨zd (by omega) (by omega),_,_,_,(h2.ext e46).cs,i,rfl,hlt,(hc2'.ext e46).ce hlt fun b6 o6 hce=>⟨_,hce.1,zd (by omega) (by omega),zd (by omega) (by omega),i+1,rfl,?_,⟨hlt,Ext.trans e34 e46⟩,by omega⟩⟩
    rw[hms];congr 1
    simp only[Bool.false_eq_true,if_false];omega
  refine zb (fun hk=>⟨_,_,_,h1.cs,zb (fun h3=>⟨_,_,_,h1.cs,i,rfl,by have:=of_decide_eq_true h3;omega,hc1'.ce (by have:=of_decide_eq_true h3;omega) fun b3 o3 hce=>hce.load ⟨_,_,_,h2.cs,i,rfl,hlt,hc2'.ce hlt fun b4 o4 hcd=>hcd.load ⟨(zg g1.cs i,zg g2.cs i),rfl,trivial,?_⟩⟩⟩) (fun h3=>add (Ext.refl _) ?_)⟩) (fun hk=>add (Ext.refl _) (by rw[hk];rfl))
  ·rintro x w6 ⟨hx,e56⟩
   dsimp only at hx
   have h3:=of_decide_eq_true h3
   have hd1:decide (i<g1.cs.length)=true:=decide_eq_true (by omega)
   refine zb (fun h5=>⟨zd (by omega) (by omega),i+1,rfl,?_,⟨hlt,Ext.trans e34 (Ext.trans hd.ext e56)⟩,by omega⟩) (fun h5=>add e56 ?_)
   ·rw[hms,hk,hd1,<-hx,h5];rfl
   ·rw[hk,hd1,<-hx,h5];rfl
  ·have h3:=of_decide_eq_false h3
   have hd1:decide (i<g1.cs.length)=false:=decide_eq_false (by omega)
   rw[hk,hd1];rfl
theorem zuI:znU.Ok Tryz.prog 8:=by
  refine zuH trivial ?_
  rintro⟨ad,c,g⟩ w ⟨hc,hb⟩ b w1 hn1 b1 w2 hn2
  dsimp only at hc hb hn1 hn2⊢
  have hg2:=(ZR hn1.heap).ext hn2.ext
  have e02:=Ext.trans hn1.ext hn2.ext
  have hl:=bulk_len g.cs
  have z1:=hn1.size;have z2:=hn2.size
  refine⟨_,_,_,hg2.cs,zd (by omega) (by omega),0,g.cs.length+1,rfl,rfl,Nat.zero_le _,by omega,by omega,?_⟩
  intro b3 w3 hn3
  have z3:=hn3.size
  have e03:=Ext.trans e02 hn3.ext
  have hg3:=hg2.ext hn3.ext
  have hsz:(Qu (ceV (zw 0)).toArray (g.cs.length+1)).size=(g.cs.length+1)*6:=by
    have:=congrArg List.length (ZP (g.cs.length+1))
    rw[Array.length_toList,zR,List.length_replicate]at this
    exact this
  have hm3:Made w2 w3 52 6 (some ⟨b3,0,none⟩) 0 [] (g.cs.length+1):=by
    have hrow:=Row.made (n:=0) (s:=6) hn3 (Nat.zero_le _) (show g.cs.length+1<=maxLen by unfold maxLen;omega) hsz
    rw[Nat.zero_mul,List.take_zero]at hrow
    exact⟨hrow,fun q hq=>by simp[qi]at hq;omega,hn3.ext⟩
  obtain⟨a4,c4,w4,hrun,hko,hm4,hcap⟩:=hm3.pushS (P:=Tryz.prog) (ty:=22) Qm (by decide) (sa:=ad) (cx:=c) (m:=g.cs.length) (news:=zE g.cs) (zR _) (hc.ext e03) (zat _) (by unfold maxLen;omega) (.inr (by omega))
  refine⟨_,_,_,hg3.cs,a4,c4,w4,hrun,hko,?_⟩
  intro b5 w5 hn5
  obtain⟨a6,c6,w6,hrun6,hko6,hm6,_,hcap6⟩:=hm4.pushN (P:=Tryz.prog) (ty:=22) Qm (by decide) (m:=1) (news:=ceV qP) hn5 rfl (zfO _) (by unfold maxLen;omega) (.inr (by omega))
  have hrow6:Row w6 52 6 a6 (g.cs.length+1) (zE (g.cs++[qP])) c6:=by
    have:=hm6.row
    rw[List.nil_append,show 0+g.cs.length+1=g.cs.length+1 from by omega]at this
    rw[zbR];exact this
  have hle:=hrow6.le.1
  refine⟨a6,c6,w6,hrun6,hko6,zd (by omega) (by omega),g.cs.length,by omega,by omega,?_⟩
  have hb6:=hm6.ext.heap (hn2.ext.heap hn1.heap)
  have hb16:=hm6.ext.heap hn2.heap
  have e06:=Ext.trans e02 hm6.ext
  have z6:=hm6.ext.size
  refine⟨rfl,⟨_,by rw[za hb6];rfl⟩,zB hb6 _,?_⟩
  intro w7 hs7
  have hb7:w7.heap[b]? =some (.cells #[.int .i64 g.w, .int .i64 g.h, .slice a6 g.cs.length c6, .int .i64 g.x, .int .i64 g.y] 24):=hs7.heap hb6
  have hb17:=(hs7.other (k:=b1) (by show b1≠b;omega)).trans hb16
  have hg7:=ZR (g:=g) hb7
  refine hg7.load ?_
  refine zgg hb17 [.int .i64 g.w, .int .i64 g.h, .slice a6 g.cs.length c6, .int .i64 g.x, .int .i64 g.y] rfl (show 5<=maxLen by decide) (by intro u hu;simp only[List.mem_cons,List.not_mem_nil,or_false]at hu;rcases hu with rfl|rfl|rfl|rfl|rfl<;>rfl) ?_
  intro w8 hb8 hf8
  refine(ZR (g:=g) hb8).load ⟨⟨a6,c6,g⟩,rfl,rfl,?_⟩
  have nw:∀q,qi a6=some q->w2.heap.size<=q:=hm6.new
  have e07:Ext w w7:=Ext.stored e06 hs7 (by show _<=b;omega)
  refine⟨?_,fun q hq=>by have:=nw q hq;omega,Ext.fr_new e07 hf8 (fun q hq=>by omega)⟩
  have hr7:=hrow6.keep (w':=w7) fun q hq=>hs7.other (by show q≠b;have:=nw q hq;omega)
  exact hr7.keep fun q hq=>hf8.block q (hr7.lt hq) (by have:=nw q hq;omega)
end

section
open Go Go.RowKit Vc Ut Tb Cl
theorem QD{w:World}{e t:TypeId}{s n c q:Nat}{ad:Option Addr}{vs:List Value}{cs:Array Value}(h:Row w e s ad n vs c)(hq:w.heap[q]? =some (.cells cs t))(hne:t≠e):qi ad≠some q:=fun hh=>by
  obtain⟨cur,h1⟩:=QV h hh
  rw[hq]at h1
  injection h1 with h2
  injection h2 with _ h3
  exact hne h3
theorem zh7{w:World}{e t:TypeId}{s s' n c n' c' q:Nat}{ad ad':Option Addr}{vs vs':List Value}(h:Row w e s ad n vs c)(h':Row w t s' ad' n' vs' c')(hne:t≠e)(hq:qi ad'=some q):qi ad≠some q:=fun hh=>by
  obtain⟨cur,h1⟩:=QV h' hq
  exact QD h h1 hne hh
theorem GlIn.lt{w:World}{A:GlP}{g:Gs}(h:GlIn w A g):∀q,own A q->q<w.heap.size:=fun q hq=>by
  rcases hq with rfl|hq|hq
  ·exact zv h.box
  ·exact h.row.lt hq
  ·exact h.num.lt hq
theorem GlIn.cp{w:World}{A:GlP}{g:Gs}(h:GlIn w A g):qi A.ca≠some A.p:=QD h.row h.box (by decide)
theorem GlIn.np{w:World}{A:GlP}{g:Gs}(h:GlIn w A g):qi A.na≠some A.p:=QD h.num h.box (by decide)
theorem GlIn.cn{w:World}{A:GlP}{g:Gs}(h:GlIn w A g){q:Nat}(hq:qi A.na=some q):qi A.ca≠some q:=zh7 h.row h.num (by decide) hq
theorem GlIn.ud{w:World}{A:GlP}{g:Gs}(h:GlIn w A g):UD w:=h.u w (Below.refl _ _)
theorem GlIn.ext{w w':World}{A:GlP}{g:Gs}(h:GlIn w A g)(hx:Ext w w'):GlIn w' A g:=
  ⟨hx.heap h.box,h.row.ext hx,h.num.ext hx,h.nil,h.bq,Nat.le_trans h.bw hx.size,h.u.on (hx.mono h.bw)⟩
theorem GlIn.below{w w':World}{A:GlP}{g:Gs}(h:GlIn w A g)(hf:Fr (own A) w w'):Below A.B w w':=hf.below h.bw (fun q hq hh=>by have:=h.bq q hh;omega)
theorem GlOut.refl{w:World}{A:GlP}{g:Gs}(h:GlIn w A g):GlOut w w A A g:=⟨h,rfl,rfl,rfl,Step.refl h.lt⟩
theorem GlOut.ext{w w':World}{A:GlP}{g:Gs}(h:GlIn w A g)(hx:Ext w w'):GlOut w w' A A g:=⟨h.ext hx,rfl,rfl,rfl,Step.ext hx h.lt⟩
theorem GlOut.trans{a b c:World}{A A1 A2:GlP}{g1 g2:Gs}(h:GlOut a b A A1 g1)(k:GlOut b c A1 A2 g2):GlOut a c A A2 g2:=
  ⟨k.is,k.p.trans h.p,k.b.trans h.b,k.rb.trans h.rb,h.st.trans k.st⟩
theorem GlIn.old{w:World}{A:GlP}{g:Gs}(h:GlIn w A g){k:Nat}(hk:k<14):∃old,w.cell? ⟨A.p,k,none⟩=some old:=by
  rw[za h.box];exact⟨_,Array.getElem?_eq_getElem (by show k<14;exact hk)⟩
theorem GlIn.free{w:World}{A:GlP}{g:Gs}(h:GlIn w A g)(k:Nat):w.frozen? ⟨A.p,k,none⟩=false:=zB h.box _
theorem qG{w w1:World}{A:GlP}{g g':Gs}{k:Nat}{v:Value}(h:GlIn w A g)(hs:Stored w ⟨A.p,k,none⟩ v w1)(hv:(glV A g).setIfInBounds k v=glV A g')(hc:g'.cs=g.cs)(hn:g'.num=g.num):GlOut w w1 A A g':=by
  have hst:Step (own A) w w1 (own A):=Step.stored hs (.inl rfl) h.lt
  refine⟨⟨by rw[<-hv];exact hs.heap h.box,?_,?_,by rw[hn];exact h.nil,h.bq,by rw[hs.size];exact h.bw,h.u.on (h.below hst.fr)⟩,rfl,rfl,rfl,hst⟩
  ·rw[hc];exact h.row.keep fun q hq=>hs.other (by show q≠A.p;rintro rfl;exact h.cp hq)
  ·rw[hn];exact h.num.keep fun q hq=>hs.other (by show q≠A.p;rintro rfl;exact h.np hq)
theorem zct{w w1:World}{A:GlP}{g:Gs}{cs':List Ce}(h:GlIn w A g)(hr:Row w1 52 6 A.ca g.cs.length (zE cs') A.cc)(hf:Fr (fun q=>qi A.ca=some q) w w1):GlOut w w1 A A {g with cs:=cs'}:=by
  have hl:cs'.length=g.cs.length:=by have:=hr.1;rw[zR]at this;omega
  have hfo:Fr (own A) w w1:=hf.mono fun q _ hq=> .inr (.inl hq)
  refine⟨⟨?_,by rw[hl];exact hr,h.num.keep fun q hq=>hf.block q (h.num.lt hq) (h.cn hq),h.nil,h.bq,Nat.le_trans h.bw hf.size,h.u.on (h.below hfo)⟩,rfl,rfl,rfl,hfo,fun q hq=>⟨Nat.lt_of_lt_of_le (h.lt q hq) hf.size, .inl hq⟩⟩
  have:=(hf.block A.p (zv h.box) h.cp).trans h.box
  rw[this]
  unfold glV
  dsimp only
  rw[hl]
theorem zlY:zgK.Ok Tryz.prog 63:=by
  refine zt2 trivial ?_
  rintro⟨A,g⟩ w ⟨hG,hF⟩ w1 hd
  dsimp only at hG hF⊢
  have hw:=hF.w;have hx:=hF.x
  have hG1:=hG.ext hd.ext
  refine⟨g.x,(za hG.box 4).trans rfl,g.w,(za hG.box 0).trans rfl,zb (fun h=>⟨g.w,(za hG1.box 0).trans rfl,zd (by omega) (by omega),rfl,hG1.old (k:=4) (by decide),hG1.free 4,fun w2 hs=>⟨A,rfl,?_⟩⟩) (fun h=>⟨A,rfl,?_⟩)⟩
  ·have h:g.w<=g.x:=by have:=of_decide_eq_true h;omega
   have e:qu g={g with x:=g.w - 1}:=by unfold qu;rw[if_pos h]
   have ev:(if 0>(g.w:Int) - 1 then 0 else(g.w:Int) - 1)=((g.w - 1:Nat):Int):=by split<;>omega
   rw[ev]at hs
   rw[e]
   exact(GlOut.ext hG hd.ext).trans (qG hG1 hs rfl rfl rfl)
  ·have h:¬g.w<=g.x:=by have:=of_decide_eq_false h;omega
   have e:qu g=g:=by unfold qu;rw[if_neg h]
   rw[e];exact GlOut.ext hG hd.ext
theorem zmc:zal Tryz.prog 52=some (.agg #[.string ⟨#[]⟩, .int .i8 0, .int .i64 0, .int .i64 0, .bool false, .int .u16 0]):=by kernel_rfl
theorem zs1:∃i,Tryz.prog.info? 52=some i/\i.size=6:=by
  obtain⟨i,z,h1,h2,h3,h4⟩:=Qm.info
  exact⟨i,h1,h3⟩
theorem zad{w:World}{e:TypeId}{s n c:Nat}{ad:Option Addr}{vs:List Value}(h:Row w e s ad n vs c)(hn:0<n):∃q,ad=some ⟨q,0,none⟩:=by
  rcases h.2 with⟨_,h1,_⟩|⟨g',cur,rfl,_⟩
  ·omega
  ·exact⟨g',rfl⟩
theorem zdu(ad:Option Addr){n:Nat}(c:Nat)(w:World)(hn:n=0):(Builtin.clear_ #[22] 0 #[.slice ad n c]).run Tryz.prog w= .ok (.tuple #[]) w:=by
  subst hn
  cases ad<;>simp[Builtin.clear_,run_underlying Qm.und]
theorem zlF:zgJ.Ok Tryz.prog 64:=by
  refine zty trivial ?_
  rintro⟨A,g⟩ w ⟨hG,hF⟩ w1 hd
  dsimp only at hG hF⊢
  have hw:=hF.w;have hh:=hF.h;have hy:=hF.y
  have hG1:=hG.ext hd.ext
  have hO1:=GlOut.ext hG hd.ext
  have hwh:g.w*g.h<=1048576:=Nat.le_trans (Nat.mul_le_mul hw hh) (by decide)
  have hlen:=hF.len
  refine⟨g.y,(za hG.box 5).trans rfl,zd (by omega) (by omega),g.h,(za hG.box 1).trans rfl,zb (fun h=>⟨g.y,(za hG1.box 5).trans rfl,zd (by omega) (by omega),rfl,hG1.old (k:=5) (by decide),hG1.free 5,fun w2 hs=>⟨A,rfl,?_⟩⟩) (fun h=> ?_)⟩
  ·have h:g.y+1<g.h:=by have:=of_decide_eq_true h;omega
   have e:qc g={g with y:=g.y+1}:=by unfold qc;rw[if_pos h]
   rw[e]
   exact hO1.trans (qG hG1 hs rfl rfl rfl)
  have h:¬g.y+1<g.h:=by have:=of_decide_eq_false h;omega
  have e:qc g={g with cs:=g.cs.drop g.w++List.replicate (min g.w g.cs.length) (zw 0)}:=by unfold qc;rw[if_neg h]
  rw[e]
  intro w2 hd2
  have hG2:=hG1.ext hd2.ext
  have hO2:=hO1.trans (GlOut.ext hG1 hd2.ext)
  refine⟨A.ca,g.cs.length,A.cc,(za hG1.box 3).trans rfl,A.ca,g.cs.length,A.cc,(za hG1.box 3).trans rfl,g.w,(za hG1.box 0).trans rfl,A.ca,g.cs.length,A.cc,(za hG1.box 3).trans rfl,min g.w g.cs.length,by split<;>omega,Nat.min_le_right _ _,?_⟩
  intro ad' hsl
  have hcc:=hG2.row.le.1
  by_cases h0:g.cs.length=0
  · -- nothing is there
    have hm0:min g.w g.cs.length=0:=by omega
    have hcs:g.cs=[]:=List.eq_nil_of_length_eq_zero h0
    have hcopy:zcU Tryz.prog #[22,22] 3 (.slice A.ca g.cs.length A.cc) (.slice ad' (g.cs.length - min g.w g.cs.length) (A.cc - min g.w g.cs.length)) w2 0 w2:=by
      obtain⟨i,hi,hs⟩:=zs1
      have hfc:∀(a:Option Addr) (c:Nat),(Builtin.firstCells 6 0 (.slice a 0 c)).run Tryz.prog w2= .ok #[] w2:=fun a c=>by
        cases a with
        |none=>rfl
        |some a=>simp[Builtin.firstCells,loadCells,loadCellsFrom]
      unfold zcU
      rw[h0]
      cases hca:A.ca with
      |none=>simp[Builtin.copy_,run_underlying Qm.und,Builtin.lenOf,sizeOf,typeInfo,hi,hs,hfc,goInt]
      |some a=>simp[Builtin.copy_,run_underlying Qm.und,Builtin.lenOf,sizeOf,typeInfo,hi,hs,hfc,goInt,storeCells]
    refine⟨0,w2,hcopy,KOE.refl _ _,?_⟩
    intro w3 hd3
    have hO3:=hO2.trans (GlOut.ext hG2 hd3.ext)
    refine⟨A.ca,g.cs.length,A.cc,(za hG2.box 3).trans rfl,A.ca,g.cs.length,A.cc,(za hG2.box 3).trans rfl,g.w,(za hG2.box 0).trans rfl,zd (by omega) (by omega),0,by split<;>omega,by omega,?_⟩
    intro ad2 hsl2
    refine⟨w3,zdu _ _ _ (by omega),KOE.refl _ _,A,rfl,?_⟩
    ·rw[hcs]
     have:({g with cs:=List.drop g.w []++List.replicate (min g.w ([]:List Ce).length) (zw 0)}:Gs)=g:=by
       rw[show List.drop g.w ([]:List Ce)++List.replicate (min g.w ([]:List Ce).length) (zw 0)=g.cs from by rw[hcs];simp]
     rw[this];exact hO3
  ·obtain⟨q,hq⟩:=zad hG2.row (by omega)
   have hh0:0<g.h:=by
     rcases Nat.eq_zero_or_pos g.h with h|h
     ·rw[h,Nat.mul_zero]at hlen;omega
     ·exact h
   have hwl:g.w<=g.cs.length:=by rw[hlen];exact Nat.le_mul_of_pos_right _ hh0
   have hm:min g.w g.cs.length=g.w:=Nat.min_eq_left hwl
   rw[hm]at hsl⊢
   obtain⟨i,hi,hs⟩:=zs1
   have hrow2:=hG2.row
   rw[hq]at hrow2
   have hsrc:CellsAt w2 ad' (zE (g.cs.drop g.w)):=by
     have:=hG2.row.cells.drop (s:=6) hsl (by omega) (by rw[zR];omega)
     rw[zd1]at this;exact this
   obtain⟨w3,hcp,hko3,hr3,hf3⟩:=ztJ (P:=Tryz.prog) (dT:=22) (sT:=22) (ty:=3) (cx:=A.cc - g.w) (dn:=A.cc) Qm.und hi hs hrow2 hsrc (m:=g.cs.length - g.w) (by rw[zR,List.length_drop]) (by omega) (zat _)
   rw[<-hq]at hcp
   refine⟨g.cs.length - g.w,w3,hcp,hko3,?_⟩
   have hcells3:zdF (zE g.cs) 0 (zE (g.cs.drop g.w))=zE (g.cs.drop g.w++g.cs.drop (g.cs.length - g.w)):=by
     rw[zfu _ _ _ (by rw[zR,zR,List.length_drop];omega),List.take_zero,List.nil_append,Nat.zero_add,zR,List.length_drop,zd1,zbR]
   rw[hcells3,<-hq]at hr3
   have hf3':Fr (fun x=>qi A.ca=some x) w2 w3:=hf3.mono fun x _ hx=>by rw[hq,hx];rfl
   have hO3:=hO2.trans (zct hG2 hr3 hf3')
   have hG3:=hO3.is
   intro w4 hd4
   have hG4:=hG3.ext hd4.ext
   have hO4:=hO3.trans (GlOut.ext hG3 hd4.ext)
   have hlen3:(g.cs.drop g.w++g.cs.drop (g.cs.length - g.w)).length=g.cs.length:=by rw[List.length_append,List.length_drop,List.length_drop];omega
   refine⟨A.ca,g.cs.length,A.cc,(za hG3.box 3).trans ?_,A.ca,g.cs.length,A.cc,(za hG3.box 3).trans ?_,g.w,(za hG3.box 0).trans rfl,zd (by omega) (by omega),g.cs.length - g.w,by split<;>omega,by omega,?_⟩
   ·show some (Value.slice A.ca (g.cs.drop g.w++g.cs.drop (g.cs.length - g.w)).length A.cc)=_
    rw[hlen3]
   ·show some (Value.slice A.ca (g.cs.drop g.w++g.cs.drop (g.cs.length - g.w)).length A.cc)=_
    rw[hlen3]
   intro ad2 hsl2
   have hrow4:=hG4.row
   dsimp only at hrow4
   rw[hlen3]at hrow4
   have hfin:∀{w5:World} {cs':List Ce},Row w5 52 6 A.ca g.cs.length (zE cs') A.cc->Fr (fun x=>qi A.ca=some x) w4 w5->cs'=g.cs.drop g.w++List.replicate g.w (zw 0)->GlOut w w5 A A {g with cs:=g.cs.drop g.w++List.replicate g.w (zw 0)}:=by
     intro w5 cs' hr5 hf5 he
     subst he
     have:=hO4.trans (zct hG4 (by dsimp only;rw[hlen3];exact hr5) hf5)
     exact this
   by_cases hw0:g.w=0
   ·refine⟨w4,zdu _ _ _ (by omega),KOE.refl _ _,A,rfl,?_⟩
    ·refine hfin hrow4 (Fr.refl _ _) ?_
     rw[hw0,Nat.sub_zero,List.drop_length];rfl
   ·have hca:ad2=some ⟨q,(g.cs.length - g.w)*6,none⟩:=by
      rw[hq]at hsl2
      have:=hsl2.lt (by omega)
      rw[Nat.zero_add]at this;exact this
    have hrow4':=hrow4
    rw[hq]at hrow4'
    obtain⟨w5,hcl,hko5,hr5,hf5⟩:=ziF (P:=Tryz.prog) (t:=22) (ty:=0) (cx:=A.cc - (g.cs.length - g.w)) Qm.und zmc rfl hrow4' (k:=g.cs.length - g.w) (m:=g.w) (by omega)
    refine⟨w5,?_,hko5,A,rfl,?_⟩
    ·rw[hca,show g.cs.length - (g.cs.length - g.w)=g.w from by omega];exact hcl
    ·refine hfin (by rw[<-hq]at hr5;exact hr5) (hf5.mono fun x _ hx=>by rw[hq,hx];rfl) ?_
     rw[List.take_left' (by rw[List.length_drop])]
end

section
open Go Go.RowKit Vc Ut Tb Cl
theorem ztd{W:World}{A:GlP}{g:Gs}{j:Nat}{x:Ce}{K:World->Prop}(hG:GlIn W A g)(hj:j<g.cs.length)(hK:∀w',GlOut W w' A A {g with cs:=g.cs.set j x}->K w'):zr A.ca fun b o=>zaU b (o+j*6) 0 (ceV x) W K:=by
  obtain⟨q,hq⟩:=zad hG.row (by omega)
  have hrow:=hG.row
  rw[hq]at hrow⊢
  exact hrow.setCe hj x fun w' hr hf=>hK w' (zct hG (by rw[hq];exact hr) (hf.mono fun x _ hx=>by rw[hq,hx];rfl))
theorem znh{W:World}{A:GlP}{g:Gs}{j k:Nat}{x:Ce}{v:Value}{K:Nat->Nat->Prop}(hG:GlIn W A g)(hj:j<g.cs.length)(hk:k<6)(hx:(ceV (zg g.cs j)).set k v=ceV x)
    (hK:∀b o,(∃old,W.cell? ⟨b,o+j*6+k,none⟩=some old)->W.frozen? ⟨b,o+j*6+k,none⟩=false->(∀w',Stored W ⟨b,o+j*6+k,none⟩ v w'->GlOut W w' A A {g with cs:=g.cs.set j x})->K b o):zr A.ca K:=by
  obtain⟨q,hq⟩:=zad hG.row (by omega)
  have hrow:=hG.row
  rw[hq]at hrow⊢
  have hn:=hrow.1
  rw[zR]at hn
  obtain⟨h1,h2⟩:=hrow.can (j:=0+j*6+k) (by omega)
  refine hK q 0 h1 h2 fun w' hs=> ?_
  have hr:=hrow.put hs
  rw[Nat.zero_add,zhq _ j k x v hj hk hx,<-hq]at hr
  exact zct hG hr ((Fr.stored hs).mono fun y _ hy=>by rw[hq,hy];rfl)
theorem zye{w w':World}{A A':GlP}{g g':Gs}{b:Nat}{cs:Array Value}{t:TypeId}(hb:w.heap[b]? =some (.cells cs t))(h:GlIn w A g)(ho:GlOut w w' A A' g')(ht:t≠65)(hn:qi A.ca≠some b)(hm:qi A.na≠some b):w'.heap[b]? =some (.cells cs t):=by
  refine(ho.st.fr.block b (zv hb) (fun hh=> ?_)).trans hb
  rcases hh with rfl|hh|hh
  ·rw[h.box]at hb
   injection hb with h2
   injection h2 with _ h3
   exact ht h3.symm
  ·exact hn hh
  ·exact hm hh
set_option maxRecDepth 2000 in
theorem zoA:zkF.Ok Tryz.prog 89:=by
  refine zvS trivial ?_
  rintro⟨A,g,i,c⟩ w ⟨hG,hF,hi,hw0,hl0,hl1⟩ b w1 hn
  dsimp only at hG hF hi hw0 hl0 hl1 hn⊢
  have hG1:=hG.ext hn.ext
  have hw:=hF.w;have hh:=hF.h;have hlen:=hF.len
  have hwh:g.w*g.h<=1048576:=Nat.le_trans (Nat.mul_le_mul hw hh) (by decide)
  have hce:=Z5 hn.heap
  refine⟨_,_,_,(za hG1.box 3).trans rfl,i,rfl,hi,hG1.row.cells.ce hi fun b1 o1 hc1=>hc1.load ?_⟩
  intro b2 w2 hn2
  have hG2:=hG1.ext hn2.ext
  have e02:=Ext.trans hn.ext hn2.ext
  have hO2:=GlOut.ext hG e02
  have hce2:=Z5 hn2.heap
  have hb2:=hn2.ext.heap hn.heap
  have z1:=hn.size
  have hnew:∀q,own A q->q≠b:=fun q hq=>by have:=hG.lt q hq;omega
  have hkeep:∀{W:World},GlOut w2 W A A (QK g i)->W.heap[b]? =some (.cells #[.string c.t, .int .i8 c.p, .int .i64 c.a, .int .i64 c.n, .bool c.r, .int .u16 c.st] 52):=fun ho=>
    zye hb2 hG2 ho (by decide) (fun h=>hnew b (.inr (.inl h)) rfl) (fun h=>hnew b (.inr (.inr h)) rfl)
  refine⟨⟨_,hce2.2.1,zb (fun h1=> ?_) (fun h1=> ?_)⟩,?_⟩
  ·have h1:(zg g.cs i).p=1:=beq_iff_eq.1 h1
   have hi0:=hl0 h1
   have e:QK g i={g with cs:=g.cs.set (i - 1) (zw (zg g.cs (i - 1)).st)}:=by unfold QK zhU;rw[if_pos h1]
   intro w3 hd
   have hG3:=hG2.ext hd.ext
   have hO3:=GlOut.ext hG2 hd.ext
   refine⟨_,_,_,(za hG2.box 3).trans rfl,zd (by omega) (by omega),_,_,_,(za hG2.box 3).trans rfl,zd (by omega) (by omega),i - 1,by omega,by omega,hG2.row.cells.ce (i:=i - 1) (by omega) fun b4 o4 hc4=>⟨_,hc4.2.2.2.2.2,i - 1,by omega,by omega,ztd (x:=zw (zg g.cs (i - 1)).st) hG3 (by omega) fun w4 hO=>⟨(A,b),rfl,?_,?_⟩⟩⟩
   ·rw[e];exact hO2.trans (hO3.trans hO)
   ·exact hkeep (by rw[e];exact hO3.trans hO)
  ·have h1:¬(zg g.cs i).p=1:=beq_eq_false_iff_ne.1 h1
   have hmod:((i:Int)+1)%(g.w:Int)=(((i+1)%g.w:Nat):Int):=by rw[Int.natCast_emod];rfl
   refine⟨zd (by omega) (by omega),g.w,(za hG2.box 0).trans rfl,by omega,by omega,zb (fun h2=> ?_) (fun h2=>⟨(A,b),rfl,?_,hb2⟩)⟩
   ·have h2:(i+1)%g.w≠0:=by have:=bne_iff_ne.1 h2;rw[hmod]at this;omega
    have hi1:=hl1 h2
    refine⟨_,_,_,(za hG2.box 3).trans rfl,zd (by omega) (by omega),i+1,rfl,hi1,hG2.row.cells.ce hi1 fun b4 o4 hc4=>⟨_,hc4.2.1,zb (fun h3=> ?_) (fun h3=>⟨(A,b),rfl,?_,hb2⟩)⟩⟩
    ·have h3:(zg g.cs (i+1)).p=1:=beq_iff_eq.1 h3
     have e:QK g i={g with cs:=g.cs.set (i+1) (zw (zg g.cs (i+1)).st)}:=by unfold QK zhU;rw[if_neg h1,if_pos ⟨h2,h3⟩]
     intro w3 hd
     have hG3:=hG2.ext hd.ext
     have hO3:=GlOut.ext hG2 hd.ext
     refine⟨_,_,_,(za hG2.box 3).trans rfl,zd (by omega) (by omega),_,_,_,(za hG2.box 3).trans rfl,zd (by omega) (by omega),i+1,rfl,hi1,hG2.row.cells.ce hi1 fun b5 o5 hc5=>⟨_,hc5.2.2.2.2.2,i+1,rfl,hi1,ztd (x:=zw (zg g.cs (i+1)).st) hG3 hi1 fun w4 hO=>⟨(A,b),rfl,?_,?_⟩⟩⟩
     ·rw[e];exact hO2.trans (hO3.trans hO)
     ·exact hkeep (by rw[e];exact hO3.trans hO)
    ·have h3:¬(zg g.cs (i+1)).p=1:=beq_eq_false_iff_ne.1 h3
     have e:QK g i=g:=by unfold QK zhU;rw[if_neg h1,if_neg (fun hh=>h3 hh.2)]
     rw[e];exact hO2
   ·have h2:(i+1)%g.w=0:=by have:=bne_eq_false_iff_eq.1 h2;rw[hmod]at this;omega
    have e:QK g i=g:=by unfold QK zhU;rw[if_neg h1,if_neg (fun hh=>hh.1 h2)]
    rw[e];exact hO2
  clear hkeep hb2 hce2 hO2 hG2 hn2
  rintro _ ⟨A3,b3⟩ w3 ⟨hO3,hb3⟩
  dsimp only at hO3 hb3
  intro w4 hd
  have hG3:=hO3.is
  have hG4:=hG3.ext hd.ext
  have hO4:=hO3.trans (GlOut.ext hG3 hd.ext)
  have hce3:=Z5 hb3
  have hlt:(QK g i).cs.length=g.cs.length:=by
    show(zhU g.cs g.w i).length=_
    unfold zhU
    split
    ·rw[List.length_set]
    ·split
     ·rw[List.length_set]
     ·rfl
  have hp:A3.p=A.p:=hO3.p
  refine⟨_,_,_,by rw[<-hp];exact(za hG3.box 3).trans rfl,hce3.load ⟨i,rfl,by rw[hlt];exact hi,ztd (x:=c) hG4 (by rw[hlt];exact hi) fun w5 hO=>⟨A3,rfl,?_⟩⟩⟩
  have:=hO4.trans hO
  exact this
end

section
open Go Go.RowKit Vc Ut Tb Cl
theorem zyc{w w1:World}{A:GlP}{g:Gs}{l:List Int}(h:GlIn w A g)(hl:l.length=g.num.length)(hr:Row w1 3 1 A.na g.num.length (l.map (Value.int .i64)) A.nc)(hf:Fr (fun q=>qi A.na=some q) w w1):GlOut w w1 A A {g with num:=l}:=by
  have hfo:Fr (own A) w w1:=hf.mono fun q _ hq=> .inr (.inr hq)
  refine⟨⟨?_,h.row.keep fun q hq=>hf.block q (h.row.lt hq) (fun hh=>h.cn hh hq),by dsimp only;rw[hl];exact hr,fun hn=> ?_,h.bq,Nat.le_trans h.bw hf.size,h.u.on (h.below hfo)⟩,rfl,rfl,rfl,hfo,fun q hq=>⟨Nat.lt_of_lt_of_le (h.lt q hq) hf.size, .inl hq⟩⟩
  ·have:=(hf.block A.p (zv h.box) h.np).trans h.box
   rw[this]
   unfold glV
   dsimp only
   rw[hl]
  ·dsimp only at hn
   refine h.nil (List.eq_nil_of_length_eq_zero ?_)
   rw[<-hl,hn];rfl
theorem zoG{w w2 w3:World}{A:GlP}{g:Gs}{l:List Int}{a':Option Addr}{c' n':Nat}(h:GlIn w A g)(hn':n'=l.length)(hl0:l≠[])(hr:Row w2 3 1 a' n' (l.map (Value.int .i64)) c')(hf:Fr (fun q=>qi A.na=some q) w w2)
    (hnw:∀q,qi a'=some q->qi A.na=some q\/w.heap.size<=q) (hs:Stored w2 ⟨A.p,11,none⟩ (.slice a' n' c') w3):GlOut w w3 A {A with na:=a',nc:=c'} {g with num:=l}:=by
  subst hn'
  have hb2:=(hf.block A.p (zv h.box) h.np).trans h.box
  have hz:=hf.size
  have hz3:=hs.size
  have hpq:qi a'≠some A.p:=QD hr hb2 (by decide)
  have hfo:Fr (own A) w w3:=(hf.mono fun q _ hq=> .inr (.inr hq)).trans (Fr.stored hs) (fun x _ hx=> .inl hx)
  have hr3:Row w3 3 1 a' l.length (l.map (Value.int .i64)) c':=hr.keep fun q hq=>hs.other (by show q≠A.p;rintro rfl;exact hpq hq)
  have hBp:=h.bq A.p (.inl rfl)
  have hown:∀q,own {A with na:=a',nc:=c'} q->own A q\/w.heap.size<=q:=by
    rintro q (hq|hq|hq)
    ·exact .inl (.inl hq)
    ·exact .inl (.inr (.inl hq))
    ·exact(hnw q hq).elim (fun hh=> .inl (.inr (.inr hh))) .inr
  refine⟨⟨hs.heap hb2,?_,hr3,fun hn=>absurd hn hl0,fun q hq=> ?_,by dsimp only;have:=h.bw;omega,h.u.on (h.below hfo)⟩,rfl,rfl,rfl,hfo,fun q hq=>⟨?_,hown q hq⟩⟩
  ·refine(h.row.keep fun q hq=>hf.block q (h.row.lt hq) (fun hh=>h.cn hh hq)).keep fun q hq=>hs.other (by show q≠A.p;rintro rfl;exact h.cp hq)
  ·rcases hown q hq with hh|hh
   ·exact h.bq q hh
   ·have:=h.bw;dsimp only;omega
  ·rcases hq with rfl|hq|hq
   ·have:=zv h.box;dsimp only;omega
   ·have:=h.row.lt hq;omega
   ·exact hr3.lt hq
theorem Qa{l:List Int}{i:Nat}(h:i<l.length):l.getD i 0=zV l i:=by
  unfold zV;rw[List.getD_eq_getElem?_getD,List.getD_eq_getElem?_getD,List.getElem?_eq_getElem h];rfl
theorem zeF{l:List Int}{i:Nat}(h:i<l.length):zV l i∈l:=by
  unfold zV;rw[List.getD_eq_getElem?_getD,List.getElem?_eq_getElem h];exact List.getElem_mem h
theorem zs4:zjy.Ok Tryz.prog 59:=by
  refine zs3 trivial ?_
  rintro⟨A,g,r,f⟩ w ⟨hG,hF,hne⟩
  dsimp only at hG hF hne⊢
  have hnl:=hF.numl
  have hlen:0<g.num.length:=by
    rcases Nat.eq_zero_or_pos g.num.length with h|h
    ·exact absurd (List.eq_nil_of_length_eq_zero h) hne
    ·exact h
  have hc11:w.cell? ⟨A.p,11,none⟩=some (.slice A.na g.num.length A.nc):=(za hG.box 11).trans rfl
  refine⟨_,_,_,hc11,zd (by omega) (by omega),zb (fun h=>⟨rfl,hG.old (k:=12) (by decide),hG.free 12,fun w1 hs=>⟨A,rfl,?_⟩⟩) (fun h=>zb (fun h1=> ?_) (fun h1=>zb (fun h2=> ?_) (fun h2=>⟨rfl,hG.old (k:=13) (by decide),hG.free 13,fun w1 hs=>⟨A,rfl,?_⟩⟩)))⟩
  ·rw[Bool.and_eq_true,beq_iff_eq]at h
   have e:qt g r f={g with asked:=true}:=by unfold qt;rw[if_pos h]
   rw[e];exact qG hG hs rfl rfl rfl
  ·have h0:¬(r=63/\f=true):=fun hh=>by rw[Bool.and_eq_false_iff,beq_eq_false_iff_ne]at h;rcases h with h|h;exact h hh.1;rw[hh.2]at h;cases h
   have h1:r=59:=beq_iff_eq.1 h1
   have e:qt g r f={g with num:=g.num++[-1]}:=by unfold qt;rw[if_neg h0,if_pos h1]
   rw[e]
   refine⟨_,_,_,hc11,?_⟩
   intro b w1 hn
   obtain⟨a',c',w2,hrun,hko,hrow,hg,hor,_⟩:=hG.num.pushN (P:=Tryz.prog) (ty:=61) zhv (by decide) (m:=1) (news:=[.int .i64 (-1)]) hn rfl (by simp[Value.oneCell']) (by unfold maxLen;omega) (.inr (by omega))
   have hz:=hn.size
   have hfr:Fr (fun q=>qi A.na=some q) w w2:=(Fr.of_ext hn.ext).trans (Fr.grown hg) (fun x _ hx=>hx)
   have hb2:=(hfr.block A.p (zv hG.box) hG.np).trans hG.box
   refine⟨a',c',w2,hrun,hko,rfl,⟨_,by rw[za hb2];rfl⟩,zB hb2 _,fun w3 hs=>⟨{A with na:=a',nc:=c'},rfl,?_⟩⟩
   refine zoG hG (l:=g.num++[-1]) (by rw[List.length_append];rfl) (by simp) (by rw[List.map_append];exact hrow) hfr ?_ hs
   intro q hq
   rcases hor with rfl|⟨rfl,_⟩
   ·exact .inl hq
   ·right;simp[qi]at hq;omega
  ·have h0:¬(r=63/\f=true):=fun hh=>by rw[Bool.and_eq_false_iff,beq_eq_false_iff_ne]at h;rcases h with h|h;exact h hh.1;rw[hh.2]at h;cases h
   have h1:¬r=59:=beq_eq_false_iff_ne.1 h1
   rw[Bool.and_eq_true]at h2
   have h2a:=of_decide_eq_true h2.1
   have h2b:=of_decide_eq_true h2.2
   have e:qt g r f={g with num:=g.num.set (g.num.length - 1) (min (max (zV g.num (g.num.length - 1)) 0*10+(r - 48)) 9999)}:=by unfold qt;rw[if_neg h0,if_neg h1,if_pos ⟨h2a,h2b⟩]
   rw[e]
   intro w1 hd
   have hG1:=hG.ext hd.ext
   have hlt:g.num.length - 1<g.num.length:=by omega
   have hb:=hF.num _ (zeF hlt)
   have hgd:=Qa hlt
   refine⟨_,_,_,hc11,_,_,_,hc11,g.num.length - 1,by omega,hlt,hG.num.cells.int hlt fun b o hbo=>⟨_,hbo,?_⟩⟩
   rw[hgd]
   generalize zV g.num (g.num.length - 1)=n at hb⊢
   have hm:0<=(if 0>n then 0 else n)/\(if 0>n then 0 else n)<=9999:=by split<;>omega
   refine⟨zd (by omega) (by omega),qF (by omega) (by omega),zd (by omega) (by omega),Ext.refl _,zd (by omega) (by omega),g.num.length - 1,by omega,hlt,?_⟩
   obtain⟨q,hq⟩:=zad hG1.num hlen
   have hrow:=hG1.num
   rw[hq]at hrow⊢
   obtain⟨k1,k2⟩:=hrow.can (j:=0+(g.num.length - 1)) (by omega)
   refine⟨rfl,k1,k2,fun w2 hs=>⟨A,rfl,(GlOut.ext hG hd.ext).trans ?_⟩⟩
   have hv:(if 9999<(if 0>n then 0 else n)*10+(r - 48)then 9999 else(if 0>n then 0 else n)*10+(r - 48))=min (max n 0*10+(r - 48)) 9999:=by
     rw[show(if 0>n then 0 else n)=max n 0 from by rw[Int.max_def];split<;>split<;>omega,Int.min_def]
     split<;>split<;>omega
   rw[hv]at hs
   have hr:=hrow.put hs
   rw[Nat.zero_add,<-List.map_set,<-hq]at hr
   exact zyc hG1 List.length_set hr ((Fr.stored hs).mono fun y _ hy=>by rw[hq,hy];rfl)
  ·have h0:¬(r=63/\f=true):=fun hh=>by rw[Bool.and_eq_false_iff,beq_eq_false_iff_ne]at h;rcases h with h|h;exact h hh.1;rw[hh.2]at h;cases h
   have h1:¬r=59:=beq_eq_false_iff_ne.1 h1
   have h2:¬(48<=r/\r<=57):=fun hh=>by rw[decide_eq_true (show r>=48 from hh.1),decide_eq_true hh.2]at h2;cases h2
   have e:qt g r f={g with void:=true}:=by unfold qt;rw[if_neg h0,if_neg h1,if_neg h2]
   rw[e];exact qG hG hs rfl rfl rfl
theorem zvC:zn1.Ok Tryz.prog 85:=by
  refine zvB trivial ?_
  rintro⟨b,a,c,l,i⟩ w ⟨hb,hc⟩
  dsimp only at hb hc⊢
  refine⟨_,_,_,ZD hb,zb (fun h=> ?_) (fun h=>⟨_,rfl,?_,rfl⟩)⟩
  ·have hlt:i<l.length:=by have:=of_decide_eq_true h;omega
   exact⟨_,_,_,ZD hb,i,rfl,hlt,hc.int hlt fun b1 o1 hb1=>⟨_,hb1,_,rfl,Qa hlt,rfl⟩⟩
  ·have h:=of_decide_eq_false h
   unfold zV;rw[List.getD_eq_getElem?_getD,List.getElem?_eq_none (by omega)];rfl
end

section
open Go Go.RowKit Vc Ut Tb Cl
theorem za9:∀(f f':Nat) (l:List Int) (st:Nat),l.length<=f->l.length<=f'->zO f l st=zO f' l st
  |f,f',[],st,_,_=>by cases f<;>cases f'<;>simp[zO]
  |0,f',n::l,st,h,_=>by simp at h
  |f+1,0,n::l,st,_,h=>by simp at h
  |f+1,f'+1,n::l,st,h,h'=>by
   simp only[List.length_cons]at h h'
   have ih:=fun st=>za9 f f' l st (by omega) (by omega)
   simp only[zO,ih]
   split
   ·rfl
   split
   ·rfl
   split
   ·rfl
   split
   ·rfl
   split
   ·rfl
   cases l with
   |nil=>rfl
   |cons a l=>
    cases l with
    |nil=>rfl
    |cons k l'=>
     simp only[List.length_cons]at h h'
     have ih2:=fun st=>za9 f f' l' st (by omega) (by omega)
     simp only[ih2]
theorem zap{a b:Nat}(ha:a<65536)(hb:b<65536):IntKind.u16.wrap (((BitVec.ofInt IntKind.u16.bits (a:Int)|||BitVec.ofInt IntKind.u16.bits (b:Int)).toNat:Nat):Int)=((a|||b:Nat):Int):=by
  have h:(BitVec.ofInt IntKind.u16.bits (a:Int)|||BitVec.ofInt IntKind.u16.bits (b:Int)).toNat=a|||b:=by
    rw[BitVec.toNat_or,BitVec.ofInt_natCast,BitVec.ofInt_natCast,BitVec.toNat_ofNat,BitVec.toNat_ofNat]
    show(a%65536)|||(b%65536)=_
    rw[Nat.mod_eq_of_lt ha,Nat.mod_eq_of_lt hb]
  rw[h]
  have h2:a|||b<2^16:=Nat.or_lt_two_pow ha hb
  exact InR.wrap ⟨by show(0:Int)<=_;omega,by show _<=(65535:Int);omega⟩
theorem zbZ{a b:Nat}(ha:a<65536)(hb:b<65536):a|||b<65536:=Nat.or_lt_two_pow (n:=16) ha hb
theorem zqb:∀i:Fin 16,Nat.testBit 65280 i.val=decide (8<=i.val):=by decide
theorem zsx{a:Nat}(ha:a<65536):IntKind.u16.wrap (((BitVec.ofInt IntKind.u16.bits (a:Int)&&& ~~~BitVec.ofInt IntKind.u16.bits 255).toNat:Nat):Int)=((a / 256*256:Nat):Int):=by
  have hb:(~~~BitVec.ofInt IntKind.u16.bits 255:BitVec IntKind.u16.bits)=BitVec.ofInt IntKind.u16.bits ((65280:Nat):Int):=by decide
  rw[hb,zfX ha (by decide)]
  congr 1
  apply Nat.eq_of_testBit_eq
  intro i
  rw[Nat.testBit_and]
  have e:a / 256*256=(a>>>8)<<<8:=by rw[Nat.shiftRight_eq_div_pow,Nat.shiftLeft_eq]
  rw[e,Nat.testBit_shiftLeft,Nat.testBit_shiftRight]
  by_cases hi:i<16
  ·have:=zqb ⟨i,hi⟩
   dsimp only at this
   rw[this]
   by_cases h8:8<=i
   ·rw[decide_eq_true h8,show 8+(i - 8)=i from by omega];simp[h8]
   ·rw[decide_eq_false h8];simp[h8]
  ·have h0:a.testBit i=false:=Nat.testBit_lt_two_pow (Nat.lt_of_lt_of_le ha (Nat.pow_le_pow_right (show 0<2 by decide) (show 16<=i by omega)))
   rw[h0,show 8+(i - 8)=i from by omega,h0];simp
theorem zos{a:Nat}(ha:a<65536):IntKind.u16.wrap (((BitVec.ofInt IntKind.u16.bits (a:Int)&&&BitVec.ofInt IntKind.u16.bits 4095).toNat:Nat):Int)=((a%4096:Nat):Int):=by
  rw[show(4095:Int)=((4095:Nat):Int)from rfl,zfX ha (by decide),show(4095:Nat)=2^12 - 1 from rfl,Nat.and_two_pow_sub_one_eq_mod]
theorem zxd{k:Int}(h0:0<=k)(h1:k<=15):IntKind.u16.wrap (k*2^min (Int.toNat 12) IntKind.u16.bits)=((k.toNat*4096:Nat):Int):=by
  rw[show((2:Int)^min (Int.toNat 12) IntKind.u16.bits)=4096 from rfl]
  rw[InR.wrap (k:= .u16) (n:=k*4096) ⟨by show(0:Int)<=_;omega,by show _<=(65535:Int);omega⟩]
  omega
theorem zmE{ad ad':Option Addr}{m l z:Nat}(h:SlAt ad ad' m l z):qi ad'=qi ad:=by
  unfold SlAt at h
  subst h
  split
  ·rfl
  ·cases ad with
   |none=>rfl
   |some a=>
    obtain⟨b,o,sp⟩:=a
    cases sp<;>(simp only[Option.map,qi,Addr.add];split<;>rfl)
theorem zzl{A:GlP}{g:Gs}{w W:World}{k c s:Nat}{a:Option Addr}(hnp:qi A.na≠some A.p)(hnl:g.num.length<=1099511627776)(hO:GlOut w W A A (zbb g s))(hs:s<65536)(hc:CellsAt W a ((g.num.drop k).map (Value.int .i64)))(hbl:qi a=qi A.na)(hcap:g.num.length - k<=c)
    (hk3:k+2<g.num.length) (h0:0<=zV g.num (k+2)) (h1:zV g.num (k+2)<=255) (hw:zO (g.num.length - (k+1)) (g.num.drop (k+3)) (s / 256*256|||(zV g.num (k+2)).toNat)=Zq g.num g.sty):
    ∃n5:Int,W.cell? ⟨A.p,7,none⟩=some (.int .u16 n5)/\true=true/\(∃old,W.cell? ⟨A.p,7,none⟩=some old)/\W.frozen? ⟨A.p,7,none⟩=false/\
     ∀w1,Stored W ⟨A.p,7,none⟩ (.int .u16 (IntKind.u16.wrap (((BitVec.ofInt IntKind.u16.bits n5&&& ~~~BitVec.ofInt IntKind.u16.bits 255).toNat:Nat):Int))) w1->∀w11,Drew w1 w11->
     ∃n6:Int,w1.cell? ⟨A.p,7,none⟩=some (.int .u16 n6)/\∃k5:Nat,(2:Int)=(k5:Int)/\k5<g.num.length - k/\zr a fun b5 o5=>∃n7:Int,w1.cell? ⟨b5,o5+k5,none⟩=some (.int .i64 n7)/\InR .u16 n7/\Below w11.heap.size w11 w11/\true=true/\
      (∃old,w11.cell? ⟨A.p,7,none⟩=some old)/\w11.frozen? ⟨A.p,7,none⟩=false/\
      ∀w12,Stored w11 ⟨A.p,7,none⟩ (.int .u16 (IntKind.u16.wrap (((BitVec.ofInt IntKind.u16.bits n6|||BitVec.ofInt IntKind.u16.bits n7).toNat:Nat):Int))) w12->
      ∃ln:Nat,(2:Int)=(ln:Int)/\ln<=g.num.length - k/\∀ad',SlAt a ad' c ln 1->∃c1:WgX,Value.slice ad' (g.num.length - k - ln) (c - ln)=Value.slice c1.a (g.num.length - c1.k) c1.c/\wgJ ⟨A,g⟩ w c1 w12/\g.num.length - c1.k<=ZL (Value.slice a (g.num.length - k) c):=by
  refine⟨s,(za hO.is.box 7).trans rfl,rfl,hO.is.old (k:=7) (by decide),hO.is.free 7,fun w1 hs1 w11 hd=> ?_⟩
  rw[zsx hs]at hs1
  have hO1:=hO.trans (qG (g':=zbb g (s / 256*256)) hO.is hs1 rfl rfl rfl)
  have hc1:CellsAt w1 a ((g.num.drop k).map (Value.int .i64)):=hc.keep fun q hq=>hs1.other (by show q≠A.p;rintro rfl;rw[hbl]at hq;exact hnp hq)
  have hO11:=hO1.trans (GlOut.ext hO1.is hd.ext)
  have hgd:(g.num.drop k).getD 2 0=zV g.num (k+2):=by
    rw[<-Qa hk3,List.getD_eq_getElem?_getD,List.getElem?_drop,List.getD_eq_getElem?_getD]
  refine⟨((s / 256*256:Nat):Int),(za hO1.is.box 7).trans rfl,2,rfl,by omega,hc1.int (by rw[List.length_drop];omega) fun b5 o5 hb5=>⟨_,hb5,?_⟩⟩
  rw[hgd]
  refine⟨⟨by show(0:Int)<=_;omega,by show _<=(65535:Int);omega⟩,Ext.refl _,rfl,hO11.is.old (k:=7) (by decide),hO11.is.free 7,fun w12 hs12=>⟨2,rfl,by omega,fun ad' hsl=>⟨⟨k+2,ad',c - 2,s / 256*256|||(zV g.num (k+2)).toNat⟩,by dsimp only;rw[show g.num.length - k - 2=g.num.length - (k+2)from by omega],⟨hk3,?_,?_,?_,?_,?_,?_⟩,by show g.num.length - (k+2)<=g.num.length - k;omega⟩⟩⟩
  ·rw[show zV g.num (k+2)=(((zV g.num (k+2)).toNat:Nat):Int)from(Int.toNat_of_nonneg h0).symm,zap (by omega) (by omega)]at hs12
   exact hO11.trans (qG (g':=zbb g (s / 256*256|||(zV g.num (k+2)).toNat)) hO11.is hs12 rfl rfl rfl)
  ·exact zbZ (by omega) (by omega)
  ·have hc12:CellsAt w12 a ((g.num.drop k).map (Value.int .i64)):=(hc1.ext hd.ext).keep fun q hq=>hs12.other (by show q≠A.p;rintro rfl;rw[hbl]at hq;exact hnp hq)
   have:=hc12.drop (s:=1) hsl (by omega) (by rw[List.length_map,List.length_drop];omega)
   rw[<-List.map_drop,List.drop_drop]at this
   exact this
  ·rw[zmE hsl,hbl]
  ·show g.num.length - (k+2)<=c - 2;omega
  ·rw[<-hw];exact za9 _ _ _ _ (by show(g.num.drop (k+2+1)).length<=g.num.length - (k+2+1);rw[List.length_drop];omega) (by show(g.num.drop (k+3)).length<=g.num.length - (k+1);rw[List.length_drop];omega)
theorem zzk{A:GlP}{g:Gs}{w W:World}{k c s:Nat}{a:Option Addr}(hnp:qi A.na≠some A.p)(hnl:g.num.length<=1099511627776)(hO:GlOut w W A A (zbb g s))(hs:s<65536)(hc:CellsAt W a ((g.num.drop k).map (Value.int .i64)))(hbl:qi a=qi A.na)(hcap:g.num.length - k<=c)
    (hk3:k+2<g.num.length) (h0:0<=zV g.num (k+2)) (h1:zV g.num (k+2)<=15) (hw:zO (g.num.length - (k+1)) (g.num.drop (k+3)) (s%4096|||(zV g.num (k+2)).toNat*4096)=Zq g.num g.sty):
    ∃n5:Int,W.cell? ⟨A.p,7,none⟩=some (.int .u16 n5)/\true=true/\(∃old,W.cell? ⟨A.p,7,none⟩=some old)/\W.frozen? ⟨A.p,7,none⟩=false/\
     ∀w1,Stored W ⟨A.p,7,none⟩ (.int .u16 (IntKind.u16.wrap (((BitVec.ofInt IntKind.u16.bits n5&&&BitVec.ofInt IntKind.u16.bits 4095).toNat:Nat):Int))) w1->∀w11,Drew w1 w11->
     ∃n6:Int,w1.cell? ⟨A.p,7,none⟩=some (.int .u16 n6)/\∃k5:Nat,(2:Int)=(k5:Int)/\k5<g.num.length - k/\zr a fun b5 o5=>∃n7:Int,w1.cell? ⟨b5,o5+k5,none⟩=some (.int .i64 n7)/\InR .u16 n7/\Below w11.heap.size w11 w11/\true=true/\
      (∃old,w11.cell? ⟨A.p,7,none⟩=some old)/\w11.frozen? ⟨A.p,7,none⟩=false/\
      ∀w12,Stored w11 ⟨A.p,7,none⟩ (.int .u16 (IntKind.u16.wrap (((BitVec.ofInt IntKind.u16.bits n6|||BitVec.ofInt IntKind.u16.bits (IntKind.u16.wrap (n7*2^min (Int.toNat 12) IntKind.u16.bits))).toNat:Nat):Int))) w12->
      ∃ln:Nat,(2:Int)=(ln:Int)/\ln<=g.num.length - k/\∀ad',SlAt a ad' c ln 1->∃c1:WgX,Value.slice ad' (g.num.length - k - ln) (c - ln)=Value.slice c1.a (g.num.length - c1.k) c1.c/\wgJ ⟨A,g⟩ w c1 w12/\g.num.length - c1.k<=ZL (Value.slice a (g.num.length - k) c):=by
  refine⟨s,(za hO.is.box 7).trans rfl,rfl,hO.is.old (k:=7) (by decide),hO.is.free 7,fun w1 hs1 w11 hd=> ?_⟩
  rw[zos hs]at hs1
  have hO1:=hO.trans (qG (g':=zbb g (s%4096)) hO.is hs1 rfl rfl rfl)
  have hc1:CellsAt w1 a ((g.num.drop k).map (Value.int .i64)):=hc.keep fun q hq=>hs1.other (by show q≠A.p;rintro rfl;rw[hbl]at hq;exact hnp hq)
  have hO11:=hO1.trans (GlOut.ext hO1.is hd.ext)
  have hgd:(g.num.drop k).getD 2 0=zV g.num (k+2):=by
    rw[<-Qa hk3,List.getD_eq_getElem?_getD,List.getElem?_drop,List.getD_eq_getElem?_getD]
  refine⟨((s%4096:Nat):Int),(za hO1.is.box 7).trans rfl,2,rfl,by omega,hc1.int (by rw[List.length_drop];omega) fun b5 o5 hb5=>⟨_,hb5,?_⟩⟩
  rw[hgd]
  refine⟨⟨by show(0:Int)<=_;omega,by show _<=(65535:Int);omega⟩,Ext.refl _,rfl,hO11.is.old (k:=7) (by decide),hO11.is.free 7,fun w12 hs12=>⟨2,rfl,by omega,fun ad' hsl=>⟨⟨k+2,ad',c - 2,s%4096|||(zV g.num (k+2)).toNat*4096⟩,by dsimp only;rw[show g.num.length - k - 2=g.num.length - (k+2)from by omega],⟨hk3,?_,?_,?_,?_,?_,?_⟩,by show g.num.length - (k+2)<=g.num.length - k;omega⟩⟩⟩
  ·rw[zxd h0 h1,zap (by omega) (by omega)]at hs12
   exact hO11.trans (qG (g':=zbb g (s%4096|||(zV g.num (k+2)).toNat*4096)) hO11.is hs12 rfl rfl rfl)
  ·exact zbZ (by omega) (by omega)
  ·have hc12:CellsAt w12 a ((g.num.drop k).map (Value.int .i64)):=(hc1.ext hd.ext).keep fun q hq=>hs12.other (by show q≠A.p;rintro rfl;rw[hbl]at hq;exact hnp hq)
   have:=hc12.drop (s:=1) hsl (by omega) (by rw[List.length_map,List.length_drop];omega)
   rw[<-List.map_drop,List.drop_drop]at this
   exact this
  ·rw[zmE hsl,hbl]
  ·show g.num.length - (k+2)<=c - 2;omega
  ·rw[<-hw];exact za9 _ _ _ _ (by show(g.num.drop (k+2+1)).length<=g.num.length - (k+2+1);rw[List.length_drop];omega) (by show(g.num.drop (k+3)).length<=g.num.length - (k+1);rw[List.length_drop];omega)
set_option maxRecDepth 4000 in
theorem zq5:zjm.Ok Tryz.prog 86:=by
  refine zq4 trivial ?_
  rintro⟨A,g⟩ w ⟨hG,hF⟩
  dsimp only at hG hF⊢
  have hnl:=hF.numl
  have hsty:=hF.sty
  have hnp:=hG.np
  refine⟨⟨⟨0,A.na,A.nc,g.sty⟩,by rw[Nat.sub_zero],Nat.zero_le _,GlOut.refl hG,hsty,by rw[List.drop_zero];exact hG.num.cells,rfl,by rw[Nat.sub_zero];exact hG.num.le.1,by rw[Nat.sub_zero,List.drop_zero];rfl⟩,?_⟩
  rintro _ ⟨k,a,c,s⟩ W ⟨hk,hO,hs,hc,hbl,hcap,hw⟩
  dsimp only at hk hO hs hc hbl hcap hw⊢
  refine zb (fun h=> ?_) (fun h=>⟨A,rfl,?_⟩)
  rotate_left
  ·have h:=of_decide_eq_false h
   have hk:k=g.num.length:=by omega
   rw[hk,Nat.sub_self,List.drop_length]at hw
   rw[<-hw]
   exact hO
  have hlt:k<g.num.length:=by have:=of_decide_eq_true h;omega
  clear h
  have hgd:∀j,k+j<g.num.length->(g.num.drop k).getD j 0=zV g.num (k+j):=fun j hj=>by
    rw[<-Qa hj,List.getD_eq_getElem?_getD,List.getElem?_drop,List.getD_eq_getElem?_getD]
  have hn:=hF.num _ (zeF hlt)
  have hdr:g.num.drop k=zV g.num k::g.num.drop (k+1):=by
    rw[List.drop_eq_getElem_cons hlt,<-Qa hlt,List.getD_eq_getElem?_getD,List.getElem?_eq_getElem hlt];rfl
  have hst:zO (g.num.length - (k+1)+1) (zV g.num k::g.num.drop (k+1)) s=Zq g.num g.sty:=by
    rw[<-hdr,show g.num.length - (k+1)+1=g.num.length - k from by omega];exact hw
  have hgd0:=hgd 0 hlt
  have fin:∀{W':World},GlOut w W' A A (zbb g s)->CellsAt W' a ((g.num.drop k).map (Value.int .i64))->zO (g.num.length - (k+1)) (g.num.drop (k+1)) s=Zq g.num g.sty->
   ∃c1:WgX,Value.slice a (g.num.length - k) c=Value.slice c1.a (g.num.length - c1.k) c1.c/\wgJ ⟨A,g⟩ w c1 W'/\g.num.length - c1.k<=ZL (Value.slice a (g.num.length - k) c):=
    fun hO' hc' hw'=>⟨⟨k,a,c,s⟩,rfl,⟨hlt,hO',hs,hc',hbl,hcap,hw'⟩,Nat.le_refl _⟩
  have put:∀{W1 W2:World} {s':Nat},GlOut w W1 A A (zbb g s)->CellsAt W1 a ((g.num.drop k).map (Value.int .i64))->Stored W1 ⟨A.p,7,none⟩ (.int .u16 (s':Int)) W2->s'<65536->zO (g.num.length - (k+1)) (g.num.drop (k+1)) s'=Zq g.num g.sty->
   ∃c1:WgX,Value.slice a (g.num.length - k) c=Value.slice c1.a (g.num.length - c1.k) c1.c/\wgJ ⟨A,g⟩ w c1 W2/\g.num.length - c1.k<=ZL (Value.slice a (g.num.length - k) c):=
    fun{W1 W2 s'} hO' hc' hs' hlt' hw'=>⟨⟨k,a,c,s'⟩,rfl,⟨hlt,hO'.trans (qG hO'.is hs' rfl rfl rfl),hlt',hc'.keep fun q hq=>hs'.other (by show q≠A.p;rintro rfl;rw[hbl]at hq;exact hnp hq),hbl,hcap,hw'⟩,Nat.le_refl _⟩
  refine⟨0,rfl,by omega,hc.int (by rw[List.length_drop];omega) fun b o hb=>⟨_,hb,?_,?_⟩⟩
  ·rw[hgd0]
   rw[Nat.add_zero]
   generalize hnn:zV g.num k=n at hn hst⊢
   simp only[zO]at hst
   refine zb (fun h1=>⟨rfl,hO.is.old (k:=7) (by decide),hO.is.free 7,fun w1 hs1=> ?_⟩) (fun h1=>zb (fun h2=>⟨s,(za hO.is.box 7).trans rfl,rfl,hO.is.old (k:=7) (by decide),hO.is.free 7,fun w1 hs1=> ?_⟩) (fun h2=> ?_))
   ·have h1:n= -1\/n=0:=by simpa using h1
    rw[if_pos h1]at hst
    exact put (s':=0) hO hc hs1 (by decide) hst
   ·have h1:¬(n= -1\/n=0):=by simpa using h1
    have h2:n=1:=beq_iff_eq.1 h2
    rw[if_neg h1,if_pos h2]at hst
    rw[show(256:Int)=((256:Nat):Int)from rfl,zap hs (by decide)]at hs1
    exact put hO hc hs1 (zbZ hs (by decide)) hst
   have h1:¬(n= -1\/n=0):=by simpa using h1
   have h2:¬n=1:=beq_eq_false_iff_ne.1 h2
   rw[if_neg h1,if_neg h2]at hst
   have hnt:n=((n.toNat:Nat):Int):=(Int.toNat_of_nonneg (by omega)).symm
   refine⟨⟨n.toNat,by rw[<-hnt],by rw[<-hnt],by rw[<-hnt],rfl,hnt⟩,?_⟩
   rintro _ m W1 ⟨hW1,hm⟩
   replace hW1:=hW1.symm;subst hW1
   refine zb (fun h3=> ?_) (fun h3=>zb (fun h4=>⟨s,(za hO.is.box 7).trans rfl,rfl,hO.is.old (k:=7) (by decide),hO.is.free 7,fun w1 hs1=> ?_⟩) (fun h4=> ?_))
   ·intro w1 hd
    have hO1:=hO.trans (GlOut.ext hO.is hd.ext)
    refine⟨s,(za hO.is.box 7).trans rfl,zd (by omega) (by omega),rfl,hO1.is.old (k:=7) (by decide),hO1.is.free 7,fun w2 hs2=> ?_⟩
    rw[Bool.or_eq_true,beq_iff_eq,beq_iff_eq]at h3
    rcases h3 with h3|h3
    ·have h3':n=3:=by omega
     have hm3:m=3:=by omega
     subst hm3
     rw[if_pos h3']at hst
     rw[show IntKind.u16.wrap (1*2^min (6+((3:Nat):Int)).toNat IntKind.u16.bits)=((512:Nat):Int)from rfl,zap hs (by decide)]at hs2
     exact put hO1 (hc.ext hd.ext) hs2 (zbZ hs (by decide)) hst
    ·have h3':¬n=3:=by omega
     have h4':n=4:=by omega
     have hm4:m=4:=by omega
     subst hm4
     rw[if_neg h3',if_pos h4']at hst
     rw[show IntKind.u16.wrap (1*2^min (6+((4:Nat):Int)).toNat IntKind.u16.bits)=((1024:Nat):Int)from rfl,zap hs (by decide)]at hs2
     exact put hO1 (hc.ext hd.ext) hs2 (zbZ hs (by decide)) hst
   ·rw[Bool.or_eq_false_iff,beq_eq_false_iff_ne,beq_eq_false_iff_ne]at h3
    have h4:n=7:=by rw[hm];exact beq_iff_eq.1 h4
    rw[if_neg (by omega),if_neg (by omega),if_pos h4]at hst
    rw[show(2048:Int)=((2048:Nat):Int)from rfl,zap hs (by decide)]at hs1
    exact put hO hc hs1 (zbZ hs (by decide)) hst
   rw[Bool.or_eq_false_iff,beq_eq_false_iff_ne,beq_eq_false_iff_ne]at h3
   have h4:¬n=7:=by rw[hm];exact beq_eq_false_iff_ne.1 h4
   rw[if_neg (by omega),if_neg (by omega),if_neg h4]at hst
   refine zb (fun h5=> ?_) (fun h5=>fin hO hc ?_)
   rotate_left
   ·rw[Bool.or_eq_false_iff,beq_eq_false_iff_ne,beq_eq_false_iff_ne]at h5
    rw[<-hst]
    split
    ·rw[if_neg (fun hh=>by omega),if_neg (fun hh=>by omega)]
    ·rfl
   rw[Bool.or_eq_true,beq_iff_eq,beq_iff_eq]at h5
   refine zb (fun h6=>fin hO hc ?_) (fun h6=> ?_)
   ·have h6:=of_decide_eq_true h6
    rw[<-hst]
    split
    ·rename_i a1 a2 a3 hl
     exfalso
     have:=congrArg List.length hl
     rw[List.length_drop]at this
     simp only[List.length_cons]at this
     omega
    ·rfl
   have h6:=of_decide_eq_false h6
   have k1:k+1<g.num.length:=by omega
   have k2:k+2<g.num.length:=by omega
   have hd1:g.num.drop (k+1)=zV g.num (k+1)::zV g.num (k+2)::g.num.drop (k+3):=by
     rw[List.drop_eq_getElem_cons k1,List.drop_eq_getElem_cons k2,<-Qa k1,<-Qa k2,List.getD_eq_getElem?_getD,List.getD_eq_getElem?_getD,List.getElem?_eq_getElem k1,List.getElem?_eq_getElem k2];rfl
   have hst2:=hst
   rw[hd1]at hst2
   dsimp only at hst2
   rw[<-hd1]at hst2
   refine⟨1,rfl,by omega,hc.int (by rw[List.length_drop];omega) fun b1 o1 hb1=>⟨_,hb1,?_⟩⟩
   rw[hgd 1 k1]
   refine zb (fun h7=>fin hO hc ?_) (fun h7=> ?_)
   ·have h7:=bne_iff_ne.1 h7
    rw[if_neg (fun hh=>h7 hh.2.1),if_neg (fun hh=>h7 hh.2.1)]at hst2
    exact hst2
   have h7:=bne_eq_false_iff_eq.1 h7
   refine⟨2,rfl,by omega,hc.int (by rw[List.length_drop];omega) fun b2 o2 hb2=>⟨_,hb2,?_⟩⟩
   rw[hgd 2 k2]
   refine zb (fun h8=>fin hO hc ?_) (fun h8=> ?_)
   ·have h8:=of_decide_eq_true h8
    rw[if_neg (fun hh=>by omega),if_neg (fun hh=>by omega)]at hst2
    exact hst2
   have h8:=of_decide_eq_false h8
   have c2:∀{K:Int->Prop},K (zV g.num (k+2))->∃k3:Nat,(2:Int)=(k3:Int)/\k3<g.num.length - k/\zr a fun b3 o3=>∃n3:Int,W.cell? ⟨b3,o3+k3,none⟩=some (.int .i64 n3)/\K n3:=
     fun hK=>⟨2,rfl,by omega,hc.int (by rw[List.length_drop];omega) fun b3 o3 hb3=>⟨_,hb3,by rw[hgd 2 k2];exact hK⟩⟩
   have d38:=fun(h38:n=38) (hle:zV g.num (k+2)<=255)=>zzl hnp hnl hO hs hc hbl hcap k2 (by omega) hle (by rw[if_pos ⟨h38,h7,by omega,hle⟩]at hst2;exact hst2)
   have d48:=fun(h48:n=48) (hle:zV g.num (k+2)<=15)=>zzk hnp hnl hO hs hc hbl hcap k2 (by omega) hle (by rw[if_neg (fun hh=>by omega),if_pos ⟨h48,h7,by omega,hle⟩]at hst2;exact hst2)
   refine zb (fun h9=>c2 (zb (fun h10=>fin hO hc ?_) (fun h10=>zb (fun h11=> ?_) (fun h11=>zb (fun h12=>d38 (by rw[hm];exact beq_iff_eq.1 h9) (by have:=of_decide_eq_false h10;omega)) (fun h12=> ?_))))) (fun h9=>zb (fun h11=>c2 (zb (fun h10=>fin hO hc ?_) (fun h10=>zb (fun h12=> ?_) (fun h12=>d48 (by rw[hm];exact beq_iff_eq.1 h11) (by have:=of_decide_eq_false h10;omega))))) (fun h11=> ?_))
   ·have h9:=beq_iff_eq.1 h9
    have h10:=of_decide_eq_true h10
    rw[if_neg (fun hh=>by omega),if_neg (fun hh=>by omega)]at hst2
    exact hst2
   ·exfalso;have h9:=beq_iff_eq.1 h9;have h11:=beq_iff_eq.1 h11;omega
   ·exfalso;rw[h9]at h12;cases h12
   ·have h9:=beq_eq_false_iff_ne.1 h9
    have h10:=of_decide_eq_true h10
    rw[if_neg (fun hh=>by omega),if_neg (fun hh=>by omega)]at hst2
    exact hst2
   ·exfalso;rw[h9]at h12;cases h12
   ·exfalso;have h9:=beq_eq_false_iff_ne.1 h9;have h11:=beq_eq_false_iff_ne.1 h11;omega
  rintro _ ⟨k',a',c',s'⟩ W' ⟨⟨hk',hO',hs',hc',hbl',hcap',hw'⟩,hle⟩
  dsimp only at hk' hO' hs' hc' hbl' hcap' hw' hle⊢
  have hle:g.num.length - k'<=g.num.length - k:=hle
  refine⟨1,rfl,by omega,fun ad' hsl=>⟨⟨k'+1,ad',c' - 1,s'⟩,by dsimp only;rw[show g.num.length - k' - 1=g.num.length - (k'+1)from by omega],⟨hk',hO',hs',?_,by rw[zmE hsl,hbl'],by show g.num.length - (k'+1)<=c' - 1;omega,hw'⟩,by dsimp only;omega⟩⟩
  have:=hc'.drop (s:=1) hsl (by omega) (by rw[List.length_map,List.length_drop];omega)
  rw[<-List.map_drop,List.drop_drop]at this
  exact this
end

section
open Go Go.RowKit Vc Ut Tb Cl
theorem ziG{n:Int}{m:Nat}:(if 0>(if(m:Int)<n then(m:Int)else n) - 1 then(0:Int)else(if(m:Int)<n then(m:Int)else n) - 1)=((qV n m:Nat):Int):=by
  unfold qV
  have e:min n (m:Int)=if(m:Int)<n then(m:Int)else n:=by split<;>omega
  rw[e]
  generalize (if(m:Int)<n then(m:Int)else n)=k
  split<;>omega
theorem zxn{g:Gs}(hF:fitG g)(i:Nat): -1<=zV g.num i/\zV g.num i<=9999:=by
  by_cases h:i<g.num.length
  ·exact hF.num _ (zeF h)
  ·unfold zV;rw[List.getD_eq_getElem?_getD,List.getElem?_eq_none (by omega)];exact⟨by decide,by decide⟩
set_option maxRecDepth 2000 in
theorem ztB:zjC.Ok Tryz.prog 60:=by
  refine ztA ⟨zvC,zlY,zq5,trivial⟩ ?_
  rintro⟨A,g,r⟩ w ⟨hG,hF⟩
  dsimp only at hG hF⊢
  have hw:=hF.w;have hh:=hF.h
  refine⟨A.na,g.num.length,A.nc,(za hG.box 11).trans rfl,fun b w1 hn=>⟨rfl,(zjN hn).1,(zjN hn).2.1,fun w11 hs=> ?_⟩⟩
  have hG1:=hG.ext hn.ext
  have hO1:=GlOut.ext hG hn.ext
  have z1:=hn.size
  have hlt:=hG.lt
  have hbA:b≠A.p:=fun h=>by have:=hlt A.p (.inl rfl);omega
  obtain⟨hx2,hbox, -, -⟩:=(zjN hn).2.2 hs
  have hG2:=hG.ext hx2
  have hO2:=GlOut.ext hG hx2
  have hbn:qi A.na≠some b:=fun h=>by have:=hlt b (.inr (.inr h));omega
  have hbc:qi A.ca≠some b:=fun h=>by have:=hlt b (.inr (.inl h));omega
  refine⟨g.void,(za hG2.box 13).trans rfl,zb (fun h=>⟨A,rfl,?_⟩) (fun hv=>⟨g.asked,(za hG2.box 12).trans rfl,zb (fun ha=> ?_) (fun ha=> ?_)⟩)⟩
  ·have e:zL g r=g:=by unfold zL;rw[if_pos h]
   rw[e];exact hO2
  ·refine⟨⟨b,A.na,A.nc,g.num,0⟩,rfl,⟨hbox,hG2.num.cells⟩,?_⟩
   rintro x w' ⟨rfl,rfl⟩
   have e:zL g r=if zV g.num 0=25/\(r=104\/r=108)then {g with hid:=r==108}else g:=by
     unfold zL;rw[if_neg (by rw[hv];decide),if_pos ha]
   rw[e]
   refine zb (fun h25=> ?_) (fun h25=>⟨A,rfl,?_⟩)
   ·have h25:=beq_iff_eq.1 h25
    have put:(r=104\/r=108)->true=true/\(∃old,w'.cell? ⟨A.p,6,none⟩=some old)/\w'.frozen? ⟨A.p,6,none⟩=false/\∀w12,Stored w' ⟨A.p,6,none⟩ (.bool (r==108)) w12->∃x1:GlP,Value.tuple #[]=Value.tuple #[]/\GlOut w w12 A x1 (if zV g.num 0=25/\(r=104\/r=108)then {g with hid:=r==108}else g):=fun hr=>
      ⟨rfl,hG2.old (k:=6) (by decide),hG2.free 6,fun w12 hs12=>⟨A,rfl,by rw[if_pos ⟨h25,hr⟩];exact hO2.trans (qG hG2 hs12 rfl rfl rfl)⟩⟩
    refine zb (fun h1=>put (.inl (beq_iff_eq.1 h1))) (fun h1=>zb (fun h2=>put (.inr (beq_iff_eq.1 h2))) (fun h2=>⟨A,rfl,?_⟩))
    rw[if_neg (fun hh=>hh.2.elim (beq_eq_false_iff_ne.1 h1) (beq_eq_false_iff_ne.1 h2))]
    exact hO2
   ·rw[if_neg (fun hh=>beq_eq_false_iff_ne.1 h25 hh.1)]
    exact hO2
  have e:zL g r=if r=72 then {g with y:=qV (zV g.num 0) g.h,x:=qV (zV g.num 1) g.w}
   else if r=74/\zV g.num 0=2 then qu {g with cs:=List.replicate g.cs.length (zw 0)}
   else if r=109 then {g with sty:=Zq g.num g.sty}else g:=by
    unfold zL;rw[if_neg (by rw[hv];decide),if_neg (by rw[ha];decide)]
  rw[e]
  have wr:∀{W:World},W=w11->r=109->∃(a4:Option Addr) (n1 c1:Nat),W.cell? ⟨b,0,none⟩=some (.slice a4 n1 c1)/\∃g1:GGl, #[Value.pointer (some ⟨A.p,0,none⟩),Value.slice a4 n1 c1]= #[Value.pointer (some ⟨g1.A.p,0,none⟩),Value.slice g1.A.na g1.g.num.length g1.A.nc]/\
   (GlIn W g1.A g1.g/\fitG g1.g)/\∀(x:GlP) (w':World),GlOut W w' g1.A x (zbb g1.g (Zq g1.g.num g1.g.sty))->∃x1:GlP,Value.tuple #[]=Value.tuple #[]/\GlOut w w' A x1 (if r=72 then {g with y:=qV (zV g.num 0) g.h,x:=qV (zV g.num 1) g.w}
   else if r=74/\zV g.num 0=2 then qu {g with cs:=List.replicate g.cs.length (zw 0)}
   else if r=109 then {g with sty:=Zq g.num g.sty}else g):=by
    rintro W rfl hr
    refine⟨_,_,_,ZD hbox,⟨A,g⟩,rfl,⟨hG2,hF⟩,fun x w' hO=>⟨x,rfl,?_⟩⟩
    rw[if_neg (by omega),if_neg (by omega),if_pos hr]
    exact hO2.trans hO
  refine zb (fun h72=> ?_) (fun h72=>zb (fun h74=> ?_) (fun h74=>zb (fun h109=>wr rfl (beq_iff_eq.1 h109)) (fun h109=>⟨A,rfl,?_⟩)))
  ·rw[if_pos (beq_iff_eq.1 h72)]
   intro w12 hd
   have hG3:=hG2.ext hd.ext
   have hO3:=hO2.trans (GlOut.ext hG2 hd.ext)
   have hbox3:=Ext.heap hd.ext hbox
   refine⟨g.h,(za hG2.box 1).trans rfl,⟨b,A.na,A.nc,g.num,0⟩,rfl,⟨hbox3,hG3.num.cells⟩,?_⟩
   rintro x w' ⟨rfl,hW⟩
   replace hW:=hW.symm;subst hW
   have n0:=zxn hF 0
   have n1:=zxn hF 1
   dsimp only
   refine⟨Ext.refl _,zd (by split<;>omega) (by split<;>omega),rfl,hG3.old (k:=5) (by decide),hG3.free 5,fun w13 hs13 w14 hd14=> ?_⟩
   rw[ziG]at hs13
   have hO4:=qG (g':={g with y:=qV (zV g.num 0) g.h}) hG3 hs13 rfl rfl rfl
   have hbox4:w13.heap[b]? =some (.cells #[.slice A.na g.num.length A.nc] 61):=(hs13.other hbA).trans hbox3
   have hG4:=hO4.is
   have hG5:=hG4.ext hd14.ext
   have hO5:=hO4.trans (GlOut.ext hG4 hd14.ext)
   have hbox5:=Ext.heap hd14.ext hbox4
   refine⟨g.w,(za hG4.box 0).trans rfl,⟨b,A.na,A.nc,g.num,1⟩,rfl,⟨hbox5,hG5.num.cells⟩,?_⟩
   rintro x w' ⟨rfl,hW⟩
   replace hW:=hW.symm;subst hW
   dsimp only
   refine⟨Ext.refl _,zd (by split<;>omega) (by split<;>omega),rfl,hG5.old (k:=4) (by decide),hG5.free 4,fun w15 hs15=>⟨A,rfl,?_⟩⟩
   rw[ziG]at hs15
   exact hO3.trans (hO5.trans (qG hG5 hs15 rfl rfl rfl))
  ·have h74:=beq_iff_eq.1 h74
   refine⟨⟨b,A.na,A.nc,g.num,0⟩,rfl,⟨hbox,hG2.num.cells⟩,?_⟩
   rintro x w' ⟨rfl,rfl⟩
   dsimp only
   refine zb (fun h2=> ?_) (fun h2=>zb (fun h109=>wr rfl (beq_iff_eq.1 h109)) (fun h109=>⟨A,rfl,?_⟩))
   ·have h2:=beq_iff_eq.1 h2
    rw[if_neg (by omega),if_pos ⟨h74,h2⟩]
    have hF':fitG {g with cs:=List.replicate g.cs.length (zw 0)}:=⟨hF.w,hF.h,by rw[List.length_replicate];exact hF.len,hF.x,hF.y,hF.sty,fun c hc=>by rw[(List.mem_replicate.1 hc).2];decide,hF.num,hF.numl,by rw[List.length_replicate];exact hF.last⟩
    refine⟨A.ca,g.cs.length,A.cc,(za hG2.box 3).trans rfl,?_⟩
    by_cases h0:g.cs.length=0
    ·have hcs:g.cs=[]:=List.eq_nil_of_length_eq_zero h0
     have e2:({g with cs:=List.replicate g.cs.length (zw 0)}:Gs)=g:=by rw[h0,List.replicate_zero,<-hcs]
     refine⟨_,zdu _ _ _ h0,KOE.refl _ _,⟨A,g⟩,rfl,⟨hG2,hF⟩,fun x w' hO=>⟨x,rfl,?_⟩⟩
     rw[e2];exact hO2.trans hO
    ·obtain⟨q,hq⟩:=zad hG2.row (by omega)
     have hrow:=hG2.row
     rw[hq]at hrow
     obtain⟨w3,hc,hk,hr,hf⟩:=ziF (k:=0) (m:=g.cs.length) (cx:=A.cc) (ty:=0) (t:=22) Qm.und zmc rfl hrow (Nat.zero_add _)
     rw[Nat.zero_mul,<-hq]at hc
     rw[List.take_zero,List.nil_append,<-hq]at hr
     have hO3:=zct hG2 hr (hf.mono fun y _ hy=>by rw[hq,hy];rfl)
     refine⟨w3,hc,hk,⟨A,{g with cs:=List.replicate g.cs.length (zw 0)}⟩,rfl,⟨hO3.is,hF'⟩,fun x w' hO=>⟨x,rfl,hO2.trans (hO3.trans hO)⟩⟩
   ·have h2:=beq_eq_false_iff_ne.1 h2
    have h109:=beq_eq_false_iff_ne.1 h109
    rw[if_neg (by omega),if_neg (fun hh=>h2 hh.2),if_neg h109]
    exact hO2
  ·have h72:=beq_eq_false_iff_ne.1 h72
   have h74:=beq_eq_false_iff_ne.1 h74
   have h109:=beq_eq_false_iff_ne.1 h109
   rw[if_neg h72,if_neg (fun hh=>h74 hh.1),if_neg h109]
   exact hO2
end

section
open Go Go.RowKit Vc Ut Tb Cl
def zam(g:Gs)(s:Nat):Gs:={g with stt:=s}
structure GTak where
  A:GlP
  g:Gs
  r:Int
  m:Nat
def zf5(w:World)(A:GlP)(g:Gs)(m:Nat):Prop:=GlIn w A g/\okG g m/\m<=549755813888
def zjc:List (Nat×CallSpec):=[(26,QT),(25,zbF),(89,zkF)]
def zjx:CallSpec where
  G:=GTak
  args:=fun g=> #[.pointer (some ⟨g.A.p,0,none⟩), .int .i32 g.r]
  pre:=fun g w=>zf5 w g.A g.g g.m
  X:=GlP×Bool
  res:=fun x=> .bool x.2
  post:=fun g w x w'=>x.2=(zZ g.g g.r).isSome/\GlOut w w' g.A x.1 ((zZ g.g g.r).getD g.g)
def zmp:List (Nat×CallSpec):=[(88,zjx),(45,za3),(25,zbF),(64,zgJ),(89,zkF)]
def znX:CallSpec where
  G:=GTak
  args:=fun g=> #[.pointer (some ⟨g.A.p,0,none⟩), .int .i32 g.r]
  pre:=fun g w=>zf5 w g.A g.g g.m/\g.g.stt=0
  X:=GlP
  res:=fun _=> .tuple #[]
  post:=fun g w x w'=>GlOut w w' g.A x (qD g.g g.r)
def Zn(g:Gs)(n:Nat):Gs:=if g.w<g.x+n then qc {g with last:=0,x:=0}else {g with last:=0}
def Qq(g:Gs)(r:Int):ByteArray:=(Zi (Zt r) 0 (lkW g.wd)).1
structure ptI(g:GTak)(w00:World)(x:GlP)(w:World)(s n:Value):Prop where
  out:GlOut w00 w g.A x (Zn g.g (plN (Qq g.g g.r) g.g.wd))
  s:s= .string (Qq g.g g.r)
  n:n= .int .i64 (plN (Qq g.g g.r) g.g.wd:Int)
  put:qD g.g g.r=Ql (Zn g.g (plN (Qq g.g g.r) g.g.wd)) (Qq g.g g.r) (plN (Qq g.g g.r) g.g.wd)
  has:¬(plN (Qq g.g g.r) g.g.wd=0\/g.g.w<plN (Qq g.g g.r) g.g.wd\/g.g.h=0)
def zwU(g:GTak)(w00:World):Ann where
  sp:=zmp
  cuts:=[(5,7,{X:=GlP,sh:=fun _ _=>[],inv:=fun e _ x w=>ptI g w00 x w (gv e 4) (gv e 6)})]
def zi1:List (Nat×CallSpec):=[(59,zjy),(60,zjC),(61,zcc .i8 zn),(62,znX),(63,zgK),(64,zgJ)]
def zjo:CallSpec where
  G:=GTak
  args:=fun g=> #[.pointer (some ⟨g.A.p,0,none⟩), .int .i32 g.r]
  pre:=fun g w=>zf5 w g.A g.g g.m
  X:=GlP
  res:=fun _=> .tuple #[]
  post:=fun g w x w'=>GlOut w w' g.A x (zj g.g g.r)
def zt7(g:GTak)(w00:World):Ann where
  sp:=zi1
  jumps:=[(0,{
    X:=GlP
    sh:=fun _ _=>[]
    inv:=fun _ _ x w=>GlOut w00 w g.A x (zam (zk g.g) 0)/\zj g.g g.r=qz (zam (zk g.g) 0) g.r/\okG (zam (zk g.g) 0) g.m
    mu:=fun _ _ _ _=>0})]
end
end Go.Proofs.YtjdohhididpomaaGreatDoor
