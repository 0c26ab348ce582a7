/-
  Texts joined by program: VgXj, Qm, WkXp, WkXq, Mz, SpXm, VgXm.
-/
import Derived.Test.YtjdohhididpomaaGreatDoorWg18
import Derived.Test.YtjdohhididpomaaGreatDoorProg
import Derived.KernelRfl
import Derived.Test.YtjdohhididpomaaGreatDoorWg06
import Derived.Test.YtjdohhididpomaaGreatDoorWg05
import Derived.Test.YtjdohhididpomaaGreatDoorWg03
import Derived.Lib.AppendZeros
set_option linter.unusedVariables false
set_option linter.unusedSimpArgs false

namespace Go.Proofs.YtjdohhididpomaaGreatDoor
section
set_option linter.unusedVariables false
open Go Go.RowKit Vc Ut Tb Cl
open Value
set_option maxRecDepth 1000000
theorem zvF(hsp:zf Tryz.prog zms)(h:∀(g:Int×Int×Bool) (w:World),UDB w.heap.size w->∃(g1:Int×Int), #[int .i64 g.fst,int .i64 g.snd.fst]= #[int .i64 g1.fst,int .i64 g1.snd]/\True/\∀(x:Bool) w',x=Zv g1.fst g1.snd/\Ext w w'->zc (!x) (∃(x1:NwX),tuple #[pointer none,int .i64 5]=tuple #[pointer x1.p,int .i64 x1.e]/\Ext w w'/\(Zv g.fst g.snd.fst=false->x1.p=none/\x1.e=(5:Int))/\(Zv g.fst g.snd.fst=true->x1.p=some ⟨x1.A.p,0,none⟩/\x1.e=(0:Int)/\x1.A.B=w.heap.size/\GlIn w' x1.A (zaO g.fst.toNat g.snd.fst.toNat g.snd.snd)/\GlRd w' x1.A none 0 (ByteArray.mk #[]))) (∀w1,Drew w' w1->InR .i64 (g.fst*g.snd.fst)/\(∃(n:Nat) (m:Nat),g.fst*g.snd.fst=(n:Int)/\g.fst*g.snd.fst=(m:Int)/\n<=m/\48*m<=281474976710656/\m<=9223372036854775807/\∀b w11,New w1 (Obj.cells (Qu (agg #[string (ByteArray.mk #[]),int .i8 0,int .i64 0,int .i64 0,bool false,int .u16 0]).cells m) 52) b w11->Below w1.heap.size w1 w11/\∃(g2:Unit),(#[]:Array Value)= #[]/\True/\∀(x1:Nat) w'1,x1=w11.heap.size/\RdIn w'1 x1 none 0 (ByteArray.mk #[])/\Ext w11 w'1->Below w11.heap.size w11 w'1/\∀b1 w12,New w'1 (Obj.cells #[int .i64 g.fst,int .i64 g.snd.fst,bool g.snd.snd,slice (some ⟨b,0,none⟩) n m,int .i64 0,int .i64 0,bool false,int .u16 0,int .i64 0,pointer (some ⟨x1,0,none⟩),int .i64 0,slice none 0 0,bool false,bool false] 65) b1 w12->∃(x2:NwX),tuple #[pointer (some ⟨b1,0,none⟩),int .i64 0]=tuple #[pointer x2.p,int .i64 x2.e]/\Ext w w12/\(Zv g.fst g.snd.fst=false->x2.p=none/\x2.e=(5:Int))/\(Zv g.fst g.snd.fst=true->x2.p=some ⟨x2.A.p,0,none⟩/\x2.e=(0:Int)/\x2.A.B=w.heap.size/\GlIn w12 x2.A (zaO g.fst.toNat g.snd.fst.toNat g.snd.snd)/\GlRd w12 x2.A none 0 (ByteArray.mk #[])))/\∃(g2:Unit),(#[]:Array Value)= #[]/\True/\∀(x1:Nat) w'1,x1=w1.heap.size/\RdIn w'1 x1 none 0 (ByteArray.mk #[])/\Ext w1 w'1->Below w1.heap.size w1 w'1/\∃(n:Nat) (m:Nat),g.fst*g.snd.fst=(n:Int)/\g.fst*g.snd.fst=(m:Int)/\n<=m/\48*m<=281474976710656/\m<=9223372036854775807/\∀b w11,New w'1 (Obj.cells (Qu (agg #[string (ByteArray.mk #[]),int .i8 0,int .i64 0,int .i64 0,bool false,int .u16 0]).cells m) 52) b w11->Below w'1.heap.size w'1 w11/\∀b1 w12,New w11 (Obj.cells #[int .i64 g.fst,int .i64 g.snd.fst,bool g.snd.snd,slice (some ⟨b,0,none⟩) n m,int .i64 0,int .i64 0,bool false,int .u16 0,int .i64 0,pointer (some ⟨x1,0,none⟩),int .i64 0,slice none 0 0,bool false,bool false] 65) b1 w12->∃(x2:NwX),tuple #[pointer (some ⟨b1,0,none⟩),int .i64 0]=tuple #[pointer x2.p,int .i64 x2.e]/\Ext w w12/\(Zv g.fst g.snd.fst=false->x2.p=none/\x2.e=(5:Int))/\(Zv g.fst g.snd.fst=true->x2.p=some ⟨x2.A.p,0,none⟩/\x2.e=(0:Int)/\x2.A.B=w.heap.size/\
 GlIn w12 x2.A (zaO g.fst.toNat g.snd.fst.toNat g.snd.snd)/\GlRd w12 x2.A none 0 (ByteArray.mk #[])))):zrK.Ok Tryz.prog 14:=ze zrK (zP zms) zms (fun _ _=>rfl) (fun _ _=>rfl) hsp Tryz.func14 rfl (n:=3) (fun _=>rfl) (by kernel_rfl) (zl (by kernel_rfl) h)
theorem zts(hsp:zf Tryz.prog zje)(h:∀(g:GFd) (w:World),GlIn w g.A g.g/\okG g.g g.m/\GlRd w g.A g.ha g.hc g.h/\CellsAt w g.ad (zu g.b)/\g.b.size<=67108864/\g.m+3+g.b.size<=549755813888->∃(a1:Option Addr),w.cell? ⟨g.A.p,9,none⟩=some (pointer a1)/\∃(g1:GRd), #[pointer a1,slice g.ad g.b.size g.c]= #[pointer (some ⟨g1.rb,0,none⟩),slice g1.ad g1.b.size g1.c]/\(U8 w/\RdIn w g1.rb g1.ha g1.hc g1.h/\CellsAt w g1.ad (zu g1.b)/\g1.h.size<=67108864/\g1.b.size<=67108864)/\∀(x:(Option Addr×Nat×Nat)×Option Addr×Nat) w',x.fst.snd.fst=(ZF (g1.h++g1.b)).length/\NewRow w w' (21:TypeId) x.fst.fst x.fst.snd.fst (List.map (int IntKind.i32) (ZF (g1.h++g1.b))) x.fst.snd.snd/\RdIn w' g1.rb x.snd.fst x.snd.snd (fdH (g1.h++g1.b))/\(∀(q:Nat),qi x.snd.fst=some q->w.heap.size<=q)/\(∀(q:Nat),qi x.fst.fst=some q->qi x.snd.fst≠some q)/\Fr (fun(q:Nat)=>q=g1.rb) w w'->(∃(x1:GlP×Nat),int .i64 0=int .i64 (x1.snd:Int)/\x1.snd<=(ZF (g.h++g.b)).length/\GlOut w' w' g.A x1.fst (zH g.g (List.take x1.snd (ZF (g.h++g.b)))))/\∀(u:Nat->Value) (x1:GlP×Nat) w'1,x1.snd<=(ZF (g.h++g.b)).length/\GlOut w' w'1 g.A x1.fst (zH g.g (List.take x1.snd (ZF (g.h++g.b))))->zc (decide ((x1.snd:Int)<(x.fst.snd.fst:Int))) (qd (x1.snd:Int) x.fst.snd.fst fun k=>zr x.fst.fst fun(b o:Nat)=>zX w'1 .i32 b (o+k) fun n=>∃(g2:GTak), #[pointer (some ⟨g.A.p,0,none⟩),int .i32 n]= #[pointer (some ⟨g2.A.p,0,none⟩),int .i32 g2.r]/\zf5 w'1 g2.A g2.g g2.m/\∀(x2:GlP) w'2,GlOut w'1 w'2 g2.A x2 (zj g2.g g2.r)->InR .i64 ((x1.snd:Int)+1)/\∃(y:GlP×Nat),int .i64 ((x1.snd:Int)+1)=int .i64 (y.snd:Int)/\(y.snd<=(ZF (g.h++g.b)).length/\GlOut w' w'2 g.A y.fst (zH g.g (List.take y.snd (ZF (g.h++g.b)))))/\(ZF (g.h++g.b)).length - y.snd<(ZF (g.h++g.b)).length - x1.snd) (∃(x2:GlP×Option Addr×Nat),tuple #[]=tuple #[]/\FdOut w w'1 g.A g.ha g.h x2.fst x2.snd.fst x2.snd.snd (zH g.g (ZF (g.h++g.b))) (fdH (g.h++g.b)))):zjB.Ok Tryz.prog 22:=ze zjB zum zje (fun _ _=>rfl) (fun _ _=>rfl) hsp Tryz.func22 rfl (n:=2) (fun _=>rfl) (by kernel_rfl) (zl (by kernel_rfl) h)
theorem zs7(hsp:zf Tryz.prog [])(h:∀(g:GGl) (w:World),GlIn w g.A g.g/\fitG g.g->∀b w1,New w (Obj.cells #[int .i64 0,int .i64 0,slice none 0 0,int .i64 0,int .i64 0] 24) b w1->(∀w11,Drew w1 w11->zt w1 g.A.p 0 fun n=>zt w1 g.A.p 1 fun n1=>qL w1 g.A.p 3 fun a3 n2 c=>(∃(a':Option Addr) (c':Nat) (w':World),zA Tryz.prog #[22,22] 22 (slice none 0 0) (slice a3 n2 c) w11 a' (0+n2) c' w'/\KO w11 w'/\Below w11.heap.size w11 w'/\∀b1 w12,New w' (Obj.cells #[int .i64 0,int .i64 0,slice none 0 0,int .i64 0,int .i64 0] 24) b1 w12->Below w'.heap.size w' w12/\zh w12 b1 0 (int .i64 n) fun w13=>zh w13 b1 1 (int .i64 n1) fun w14=>zh w14 b1 2 (slice a' (0+n2) c') fun w15=>zh w15 b1 3 (int .i64 (-1:Int)) fun w16=>zh w16 b1 4 (int .i64 (-1:Int)) fun w17=>∃(c1:GdX),pointer (some ⟨b1,0,none⟩)=pointer (some ⟨c1.b,0,none⟩)/\gdI g.g w c1 w17 (pointer (some ⟨b,0,none⟩))/\c1.x=(-1:Int)/\c1.y=(-1:Int))/\∀b1 w12,New w11 (Obj.cells #[int .i64 0,int .i64 0,slice none 0 0,int .i64 0,int .i64 0] 24) b1 w12->Below w11.heap.size w11 w12/\∃(a':Option Addr) (c':Nat) (w':World),zA Tryz.prog #[22,22] 22 (slice none 0 0) (slice a3 n2 c) w12 a' (0+n2) c' w'/\KO w12 w'/\Below w12.heap.size w12 w'/\zh w' b1 0 (int .i64 n) fun w13=>zh w13 b1 1 (int .i64 n1) fun w14=>zh w14 b1 2 (slice a' (0+n2) c') fun w15=>zh w15 b1 3 (int .i64 (-1:Int)) fun w16=>zh w16 b1 4 (int .i64 (-1:Int)) fun w17=>∃(c1:GdX),pointer (some ⟨b1,0,none⟩)=pointer (some ⟨c1.b,0,none⟩)/\gdI g.g w c1 w17 (pointer (some ⟨b,0,none⟩))/\c1.x=(-1:Int)/\c1.y=(-1:Int))/\∀(u:Nat->Value) (c:GdX) w',gdI g.g w c w' (pointer (some ⟨b,0,none⟩))/\c.x=(-1:Int)/\c.y=(-1:Int)->(ZG w' g.A.p 6 fun b1=>zc (!b1) (qL w' g.A.p 3 fun a3 n c1=>zc (decide ((n:Int)>0)) (∀w11,Drew w' w11->¬ptN (pointer (some ⟨c.b,0,none⟩)) g.A.p/\zt w' g.A.p 4 fun n1=>¬ptN (pointer (some ⟨c.b,0,none⟩)) g.A.p/\zt w' g.A.p 0 fun n2=>InR .i64 (n2 - 1)/\¬ptN (pointer (some ⟨c.b,0,none⟩)) g.A.p/\zt w' g.A.p 5 fun n3=>zh w11 c.b 3 (int .i64 (if n2 - 1<n1 then n2 - 1 else n1)) fun w12=>Fr (ptN (pointer (some ⟨c.b,0,none⟩))) w11 w12/\zh w12 c.b 4 (int .i64 n3) fun w13=>∃(c2:GdX),pointer (some ⟨c.b,0,none⟩)=pointer (some ⟨c2.b,0,none⟩)/\gdI g.g w c2 w13 (pointer (some ⟨b,0,none⟩))/\(c2.x=if g.g.hid=false/\g.g.cs≠[]then min (g.g.x:Int) ((g.g.w:Int) - 1)else(-1:Int))/\c2.y=if g.g.hid=false/\g.g.cs≠[]then(g.g.y:Int)else(-1:Int)) (∃(c2:GdX),pointer (some ⟨c.b,0,none⟩)=pointer (some ⟨c2.b,0,none⟩)/\gdI g.g w c2 w' (pointer (some ⟨b,0,none⟩))/\(c2.x=if g.g.hid=false/\g.g.cs≠[]then min (g.g.x:Int) ((g.g.w:Int) - 1)else(-1:Int))/\c2.y=if g.g.hid=false/\g.g.cs≠[]then(g.g.y:Int)else(-1:Int))) (∃(c1:GdX),
 pointer (some ⟨c.b,0,none⟩)=pointer (some ⟨c1.b,0,none⟩)/\gdI g.g w c1 w' (pointer (some ⟨b,0,none⟩))/\(c1.x=if g.g.hid=false/\g.g.cs≠[]then min (g.g.x:Int) ((g.g.w:Int) - 1)else(-1:Int))/\c1.y=if g.g.hid=false/\g.g.cs≠[]then(g.g.y:Int)else(-1:Int)))/\∀(u1:Nat->Value) (c1:GdX) w'1,(pointer (some ⟨c.b,0,none⟩)=pointer (some ⟨c1.b,0,none⟩)/\gdI g.g w c1 w'1 (pointer (some ⟨b,0,none⟩))/\(c1.x=if g.g.hid=false/\g.g.cs≠[]then min (g.g.x:Int) ((g.g.w:Int) - 1)else(-1:Int))/\c1.y=if g.g.hid=false/\g.g.cs≠[]then(g.g.y:Int)else(-1:Int))->LdG w'1 c.b fun n n1 a4 n2 c2 n3 n4=>zh w'1 b 0 (int .i64 n) fun w11=>zh w11 b 1 (int .i64 n1) fun w12=>zh w12 b 2 (slice a4 n2 c2) fun w13=>zh w13 b 3 (int .i64 n3) fun w14=>zh w14 b 4 (int .i64 n4) fun w15=>LdG w15 b fun n5 n6 a10 n7 c3 n8 n9=>∃(x:(Option Addr×Nat)×Gr),agg #[int .i64 n5,int .i64 n6,slice a10 n7 c3,int .i64 n8,int .i64 n9]=ZT x.fst.fst x.fst.snd x.snd/\gdOut g.g w w15 x):zjz.Ok Tryz.prog 23:=ze zjz zuk [] (fun _ _=>rfl) (fun _ _=>rfl) hsp Tryz.func23 rfl (n:=1) (fun _=>rfl) (by kernel_rfl) (zl (by kernel_rfl) h)
end

section
open Go Vc Ut Tb Cl Orb
theorem QP{a b:ByteArray}(ha:zC a=true)(hb:zC b=true):zC (a++b)=true/\zo (a++b)=zo a++zo b:=by
  have ea:=zdd ha
  have eb:=zdd hb
  have h:a++b=runesBytes (zo a++zo b):=by rw[zaG,ea,eb]
  have ca:(zo a).map (fun r=>(zG r:Int))=zo a:=by rw[<-zbz,ea]
  have cb:(zo b).map (fun r=>(zG r:Int))=zo b:=by rw[<-zbz,eb]
  rw[h]
  exact⟨zf7 _,by rw[zbz,List.map_append,ca,cb]⟩
theorem zl0:∀l:List UInt8,(∀b∈l,b.toNat<128)->((l.map fun b=>(b.toNat:Int)).flatMap fun r=>Za (zG r)).map UInt8.ofNat=l
  |[],_=>rfl
  |b::l,h=>by
   have hb:=h b (by simp)
   have e1:zG (b.toNat:Int)=b.toNat:=by
     unfold zG;rw[if_pos (by omega),Int.toNat_natCast]
   have e2:Za b.toNat=[b.toNat]:=by unfold Za;rw[if_pos hb]
   rw[List.map_cons,List.flatMap_cons,e1,e2,List.map_append,zl0 l (fun c hc=>h c (by simp[hc]))]
   simp
theorem Q6{l:List UInt8}(h:∀b∈l,b.toNat<128):zC ⟨l.toArray⟩=true/\zo ⟨l.toArray⟩=l.map fun b=>(b.toNat:Int):=by
  have e:(⟨l.toArray⟩:ByteArray)=runesBytes (l.map fun b=>(b.toNat:Int)):=by
    apply ByteArray.ext
    apply Array.ext'
    rw[zan,zl0 l h]
  rw[e]
  refine⟨zf7 _,?_⟩
  rw[zbz,List.map_map]
  refine List.map_congr_left fun b hb=> ?_
  have:=h b hb
  show(zG (b.toNat:Int):Int)=b.toNat
  unfold zG
  rw[if_pos (by omega),Int.toNat_natCast]
theorem znN{α:Type}(p:α->Bool):∀(l:List α),(l.takeWhile p).length<=l.length/\(∀j x,j<(l.takeWhile p).length->l[j]? =some x->p x=true)/\(∀x,l[(l.takeWhile p).length]? =some x->p x=false)
  |[]=>by simp
  |y::l=>by
   obtain⟨h1,h2,h3⟩:=znN p l
   cases hy:p y
   ·simp[hy]
   ·rw[List.takeWhile_cons,if_pos hy]
    refine⟨by simpa using h1,fun j x hj hx=> ?_,fun x hx=>h3 x (by simpa using hx)⟩
    cases j with
    |zero=>simp at hx;subst hx;exact hy
    |succ j=>exact h2 j x (by simpa using hj) (by simpa using hx)
theorem zlC(t:ByteArray):fdN t<=cnt t/\(∀j,j<fdN t->zW (t.extract (pos t j) t.size)=true)/\(fdN t=cnt t\/zW (t.extract (pos t (fdN t)) t.size)=false):=by
  obtain⟨h1,h2,h3⟩:=znN (fun n=>zW (t.extract (pos t n) t.size)) (List.range (cnt t))
  rw[List.length_range]at h1
  refine⟨h1,fun j hj=>h2 j j hj (by unfold fdN at hj;rw[List.getElem?_eq_getElem (by rw[List.length_range];omega),List.getElem_range]),?_⟩
  by_cases h:fdN t=cnt t
  ·exact .inl h
  ·exact .inr (h3 _ (by unfold fdN at h;rw[List.getElem?_eq_getElem (by rw[List.length_range];omega),List.getElem_range];rfl))
theorem zqk{t:ByteArray}(h:zC t=true):fdN t=cnt t:=by
  obtain⟨h1, -,h3⟩:=zlC t
  rcases h3 with h3|h3
  ·exact h3
  by_cases hlt:fdN t=cnt t
  ·exact hlt
  exfalso
  have hlt:fdN t<cnt t:=by omega
  generalize fdN t=n at hlt h3
  obtain⟨e1,e2⟩:=zgL h3
  have hp:=qK.1 hlt
  have hz:(t.extract (pos t n) t.size).size=t.size - pos t n:=zS (Nat.le_refl _)
  have hd:=zd5 (s:=t) (k:=n) 0
  rw[Nat.add_zero]at hd
  generalize t.extract (pos t n) t.size=u at e1 e2 hz hd
  have hc:cnt u=u.size:=by rw[<-zN,e2,List.length_replicate]
  have hu0:0<u.size:=by omega
  have hr:=Zj (s:=u) (n:=0) (by omega)
  rw[e2,List.getD_eq_getElem?_getD,List.getElem?_replicate,if_pos hu0]at hr
  have hp1:=qn (s:=u) (n:=0) (show 0<u.size from hu0)
  have hpl:=Zs u 1
  have hcd:=zbp (s:=u) (k:=1) (by omega)
  have hcl:=Z3 (u.extract (pos u 1) u.size)
  rw[zS (Nat.le_refl _)]at hcl
  have hdp:=zbV u (pos u 0)
  have e0:pos u 0=0:=rfl
  rw[Nat.zero_add]at hp1
  have hN:Qh u (pos u 0)=1:=by omega
  have hb:zz t n=true:=by
    unfold zz
    have q1:Qh t (pos t n)=1:=by unfold Qh at hN⊢;rw[<-hd];exact hN
    have q2:dcR t (pos t n)=65533:=by
      unfold dcR at hr⊢;rw[<-hd];exact hr.symm
    rw[q1,q2];rfl
  unfold zC at h
  rw[List.all_eq_true]at h
  have:=h n (List.mem_range.2 hlt)
  rw[hb]at this
  cases this
theorem zlB{t:ByteArray}(h:zC t=true):ZF t=zo t/\fdH t=⟨#[]⟩:=by
  have hn:=zqk h
  refine⟨?_,zay ?_⟩
  ·unfold ZF;rw[hn,List.take_of_length_le (by rw[zN];exact Nat.le_refl _)]
  ·unfold fdH;rw[hn,ZJ,zS (Nat.le_refl _),Nat.sub_self]
theorem zaf(g:Gs)(l m:List Int):zH g (l++m)=zH (zH g l) m:=List.foldl_append
theorem ZB(g:Gs)(r:Int)(l:List Int):zH g (r::l)=zH (zj g r) l:=rfl
theorem zjS{g:Gs}(h:g.num≠[]):zk g=g:=by unfold zk;rw[if_neg h]
theorem zdB{g:Gs}{pre:List Int}{v d:Int}(hs:g.stt=2)(hn:(zk g).num=pre++[v])(h1:48<=d)(h2:d<=57):
    zj g d={g with num:=pre++[min (max v 0*10+(d - 48)) 9999]}:=by
  unfold zj
  rw[if_neg (by omega),if_pos hs]
  dsimp only
  rw[if_pos (by omega)]
  show qt (zk g) d (decide (g.num=[]))=_
  unfold qt
  rw[if_neg (fun hh=>by have:=hh.1;omega),if_neg (by omega),if_pos ⟨h1,h2⟩,hn]
  have e1:(pre++[v]).length - 1=pre.length:=by simp
  have e2:zV (pre++[v]) pre.length=v:=by unfold zV;simp
  rw[e1,e2,List.set_append_right _ _ (Nat.le_refl _),Nat.sub_self,List.set_cons_zero]
  unfold zk;split<;>rfl
theorem ztE(u:Nat):∀{g:Gs} {pre:List Int},u<=9999->g.stt=2->(zk g).num=pre++[-1]->zH g ((Lib.decDigits u).map fun b=>(b.toNat:Int))={g with num:=pre++[(u:Int)]}:=by
  induction u using Nat.strongRecOn with
  |_ u ih=>
   intro g pre hu hs hn
   rw[Lib.decDigits]
   by_cases h:u<10
   ·have e:((UInt8.ofNat (48+u)).toNat:Int)=48+u:=by rw[UInt8.toNat_ofNat'];omega
    rw[dif_pos h,List.map_cons,List.map_nil,ZB,e,zdB hs hn (by omega) (by omega)]
    show({g with num:=_}:Gs)=_
    rw[show min (max (-1) 0*10+(48+(u:Int) - 48)) 9999=(u:Int) by omega]
   ·have e:((UInt8.ofNat (48+u%10)).toNat:Int)=48+(u%10:Nat):=by rw[UInt8.toNat_ofNat'];omega
    rw[dif_neg h,List.map_append,zaf,ih (u / 10) (by omega) (by omega) hs hn,List.map_cons,List.map_nil,ZB,e]
    have hne:pre++[((u / 10:Nat):Int)]≠[]:=by simp
    rw[zdB (g:={g with num:=pre++[((u / 10:Nat):Int)]}) (pre:=pre) (v:=((u / 10:Nat):Int)) hs (by rw[zjS hne]) (by omega) (by omega)]
    show({g with num:=_}:Gs)=_
    rw[show min (max ((u / 10:Nat):Int) 0*10+(48+((u%10:Nat):Int) - 48)) 9999=(u:Int) by omega]
theorem zym(u:Nat):∀b∈Lib.decDigits u,b.toNat<128:=by
  induction u using Nat.strongRecOn with
  |_ u ih=>
   rw[Lib.decDigits]
   by_cases h:u<10
   ·rw[dif_pos h]
    intro b hb
    rw[List.mem_singleton.1 hb,UInt8.toNat_ofNat'];omega
   ·rw[dif_neg h]
    intro b hb
    rcases List.mem_append.1 hb with hb|hb
    ·exact ih (u / 10) (by omega) b hb
    ·rw[List.mem_singleton.1 hb,UInt8.toNat_ofNat'];omega
def digsN(l:List Int):Prop:=∀n∈l,0<=n/\n<=9999
theorem digsN.tail{n:Int}{l:List Int}(h:digsN (n::l)):digsN l:=fun k hk=>h k (List.mem_cons_of_mem _ hk)
theorem zlZ{n:Int}(h:0<=n):zC (qE n)=true/\zo (qE n)=(Lib.decDigits n.toNat).map fun b=>(b.toNat:Int):=by
  have e:qE n=⟨(Lib.decDigits n.toNat).toArray⟩:=by
    unfold qE Lib.itoa;rw[if_neg (by omega)]
  rw[e];exact Q6 (zym _)
theorem zkw:zC ⟨#[59]⟩=true/\zo ⟨#[59]⟩=[59]:=Q6 (l:=[59]) (by decide)
theorem QF:zC ⟨#[]⟩=true/\zo ⟨#[]⟩=[]:=Q6 (l:=[]) (by decide)
theorem zg9:∀(l:List Int) (first:Bool),digsN l->zC (qW first l)=true
  |[],_,_=>QF.1
  |n::l,first,h=>by
   unfold qW
   refine(QP (QP ?_ (zlZ (h n (by simp)).1).1).1 (zg9 l false h.tail)).1
   cases first
   ·exact zkw.1
   ·exact QF.1
theorem zg7(n:Int)(l:List Int)(first:Bool)(h:digsN (n::l)):zo (qW first (n::l))=(if first then []else [59])++((Lib.decDigits n.toNat).map fun b=>(b.toNat:Int))++zo (qW false l):=by
  have hi:=zlZ (h n (by simp)).1
  have hl:=zg9 l false h.tail
  have hf:zC (if first then⟨#[]⟩else⟨#[59]⟩:ByteArray)=true/\zo (if first then⟨#[]⟩else⟨#[59]⟩:ByteArray)=if first then []else [59]:=by
    cases first
    ·exact zkw
    ·exact QF
  have h2:=QP hf.1 hi.1
  rw[show qW first (n::l)=(if first then⟨#[]⟩else⟨#[59]⟩)++qE n++qW false l from rfl,(QP h2.1 hl).2,h2.2,hf.2,hi.2]
theorem zla{g:Gs}{pre:List Int}{n:Int}(h0:0<=n)(h1:n<=9999)(hs:g.stt=2)(hn:(zk g).num=pre++[-1]):zH g ((Lib.decDigits n.toNat).map fun b=>(b.toNat:Int))={g with num:=pre++[n]}:=by
  rw[ztE n.toNat (by omega) hs hn,Int.toNat_of_nonneg h0]
theorem zpl{g:Gs}(hs:g.stt=2)(hn:g.num≠[]):zj g 59={g with num:=g.num++[-1]}:=by
  unfold zj
  rw[if_neg (by omega),if_pos hs]
  dsimp only
  rw[if_pos (by decide)]
  show qt (zk g) 59 (decide (g.num=[]))=_
  rw[zjS hn]
  unfold qt
  rw[if_neg (fun hh=>by cases hh.1),if_pos rfl]
theorem zii:∀(l:List Int) {g:Gs},digsN l->g.stt=2->g.num≠[]->zH g (zo (qW false l))={g with num:=g.num++l}
  |[],g,_,_,_=>by
   show zH g (zo ⟨#[]⟩)=_
   rw[QF.2,List.append_nil];rfl
  |n::l,g,h,hs,hn=>by
   have hb:=h n (by simp)
   rw[zg7 n l false h,zaf,zaf,if_neg (by decide),ZB,zpl hs hn]
   show zH (zH {g with num:=g.num++[-1]} _) _=_
   rw[zla (g:={g with num:=g.num++[-1]}) (pre:=g.num) hb.1 hb.2 hs (by rw[zjS (by simp)])]
   rw[zii l (g:={g with num:=g.num++[n]}) h.tail hs (by simp)]
   show({g with num:=_}:Gs)=_
   rw[List.append_assoc];rfl
theorem zmZ{l:List Int}{g:Gs}(h0:l≠[])(h:digsN l)(hs:g.stt=2)(hn:g.num=[]):zH g (zo (qW true l))={g with num:=l}:=by
  cases l with
  |nil=>exact absurd rfl h0
  |cons n l=>
   have hb:=h n (by simp)
   rw[zg7 n l true h,zaf,zaf,if_pos rfl]
   show zH (zH g _) _=_
   rw[zla (pre:=[]) hb.1 hb.2 hs (by unfold zk;rw[if_pos hn];rfl)]
   rw[zii l (g:={g with num:=[]++[n]}) h.tail hs (by simp)]
   rfl
theorem zoM:zC ⟨#[27,91]⟩=true/\zo ⟨#[27,91]⟩=[27,91]:=Q6 (l:=[27,91]) (by decide)
theorem zoh{c:UInt8}(h:c.toNat<128):zC ⟨#[c]⟩=true/\zo ⟨#[c]⟩=[(c.toNat:Int)]:=Q6 (l:=[c]) (by simpa using h)
theorem zdG{c:UInt8}{l:List Int}(hc:c.toNat<128)(hl:digsN l):zC (zbd c l)=true/\zo (zbd c l)=[27,91]++zo (qW true l)++[(c.toNat:Int)]:=by
  have h1:=QP zoM.1 (zg9 l true hl)
  have h2:=QP h1.1 (zoh hc).1
  unfold zbd
  exact⟨h2.1,by rw[h2.2,h1.2,zoM.2,(zoh hc).2]⟩
theorem zvU:zn 27=0:=by decide+kernel
theorem zrm{g:Gs}(hs:g.stt=0):zj g 27={g with last:=0,stt:=1}:=by
  unfold zj
  rw[if_neg (by omega),if_neg (by omega)]
  unfold qz
  rw[if_neg (by rw[zvU];decide),if_pos rfl]
theorem zrn{g:Gs}(hs:g.stt=1):zj g 91={g with stt:=2,num:=[],asked:=false,void:=false}:=by
  unfold zj
  rw[if_pos hs,if_pos rfl]
theorem zlD{g:Gs}(hs:g.stt=0)(l:List Int):zH g ([27,91]++l)=zH {g with last:=0,stt:=2,num:=[],asked:=false,void:=false} l:=by
  rw[zaf,ZB,ZB,zrm hs,zrn (g:={g with last:=0,stt:=1}) rfl]
  rfl
theorem zh3{g:Gs}{c:Int}(hs:g.stt=2)(hn:g.num≠[])(h1:64<=c)(h2:c<=126):zj g c=zL {g with stt:=0} c:=by
  unfold zj
  rw[if_neg (by omega),if_pos hs]
  dsimp only
  rw[if_neg (by omega),if_pos ⟨h1,h2⟩,if_neg hn]
def zmF(g:Gs)(l:List Int):Gs:={g with last:=0,stt:=0,num:=l,asked:=false,void:=false}
theorem zgG{g:Gs}{c:UInt8}{l:List Int}(hs:g.stt=0)(h0:l≠[])(hl:digsN l)(h1:64<=c.toNat)(h2:c.toNat<=126):zH g (zo (zbd c l))=zL (zmF g l) (c.toNat:Int):=by
  rw[(zdG (by omega) hl).2,List.append_assoc,zlD hs,zaf,zmZ h0 hl rfl rfl,ZB]
  rw[zh3 (g:={g with last:=0,stt:=2,num:=l,asked:=false,void:=false}) rfl h0 (by omega) (by omega)]
  rfl
end

section
open Go Go.RowKit Vc Ut Tb Cl
theorem zoC(t:ByteArray):(fdH t).size<=3:=by
  obtain⟨h1,h2,h3⟩:=zlC t
  rcases h3 with h3|h3
  ·have h0:(fdH t).size=0:=by
     unfold fdH;rw[h3,ZJ,zS (Nat.le_refl _),Nat.sub_self]
   omega
  ·exact(zgL h3).1
theorem zd3(t:ByteArray):(ZF t).length<=t.size:=by
  unfold ZF
  rw[List.length_take,zN]
  have:=Z3 t
  omega
theorem RdIn.fr{S:Nat->Prop}{w w':World}{rb hc:Nat}{ha:Option Addr}{h:ByteArray}(hr:RdIn w rb ha hc h)(hf:Fr S w w')(h1:¬S rb)(h2:∀q,qi ha=some q->h.size≠0->¬S q):RdIn w' rb ha hc h:=by
  refine⟨(hf.block _ (zv hr.box) h1).trans hr.box,?_,hr.le⟩
  by_cases h0:h.size=0
  ·rw[zay h0];exact CellsAt.nil _ _
  ·exact hr.cells.fr hf (fun q hq=>h2 q hq h0)
theorem RdIn.ext{w w':World}{rb hc:Nat}{ha:Option Addr}{h:ByteArray}(hr:RdIn w rb ha hc h)(hx:Ext w w'):RdIn w' rb ha hc h:=
  hr.fr (Fr.of_ext (S:=fun _=>False) hx) (fun h=>h) (fun _ _ _ h=>h)
theorem RdIn.lt{w:World}{rb hc:Nat}{ha:Option Addr}{h:ByteArray}(hr:RdIn w rb ha hc h){q:Nat}(hq:qi ha=some q)(h0:h.size≠0):q<w.heap.size:=by
  rcases hr.cells with h1|⟨b,o,h1,h2⟩
  ·exfalso
   have:=congrArg List.length h1
   unfold zu at this
   rw[List.length_map]at this
   apply h0
   show h.data.size=0
   rw[<-Array.length_toList];simpa using this
  ·subst h1
   have e:b=q:=Option.some.inj hq
   subst e
   have hl:0<(zu h).length:=by
     unfold zu;rw[List.length_map,Array.length_toList];show 0<h.size;omega
   exact World.block_lt_of_cell? _ _ (h2 0 _ (List.getElem?_eq_getElem hl))
theorem GlIn.fr{S:Nat->Prop}{w w':World}{A:GlP}{g:Gs}(h:GlIn w A g)(hf:Fr S w w')(hS:∀q,S q->A.B<=q/\¬own A q):GlIn w' A g:=
  ⟨(hf.block _ (zv h.box) (fun hh=>(hS _ hh).2 (.inl rfl))).trans h.box,h.row.fr hf (fun q hq hh=>(hS q hh).2 (.inr (.inl hq))),h.num.fr hf (fun q hq hh=>(hS q hh).2 (.inr (.inr hq))),h.nil,h.bq,Nat.le_trans h.bw hf.size,h.u.on (hf.below h.bw (fun q hq hh=>by have:=(hS q hh).1;omega))⟩
theorem zon{w w12:World}{W H b b1 x1:Nat}{wd:Bool}(hu:UDB w.heap.size w)(hx:Ext w w12)(hs:Zv W H=true)(hb:w.heap.size<=b)(hx1:w.heap.size<=x1)(hb1:w.heap.size<=b1)(n1:x1≠b)(n2:x1≠b1)
    (hr:Row w12 52 6 (some ⟨b,0,none⟩) (W*H) (zE (List.replicate (W*H) (zw 0))) (W*H)) (hrd:RdIn w12 x1 none 0 ⟨#[]⟩)
    (hbox:w12.heap[b1]? =some (.cells #[.int .i64 W, .int .i64 H, .bool wd, .slice (some ⟨b,0,none⟩) (W*H) (W*H), .int .i64 0, .int .i64 0, .bool false, .int .u16 0, .int .i64 0, .pointer (some ⟨x1,0,none⟩), .int .i64 0, .slice none 0 0, .bool false, .bool false] 65)):
    ∃x2:NwX,Value.tuple #[.pointer (some ⟨b1,0,none⟩), .int .i64 0]=Value.tuple #[.pointer x2.p, .int .i64 x2.e]/\Ext w w12/\(Zv W H=false->x2.p=none/\x2.e=5)/\
     (Zv W H=true->x2.p=some ⟨x2.A.p,0,none⟩/\x2.e=0/\x2.A.B=w.heap.size/\GlIn w12 x2.A (zaO (W:Int).toNat (H:Int).toNat wd)/\GlRd w12 x2.A none 0 ⟨#[]⟩):=by
  refine⟨⟨some ⟨b1,0,none⟩,0,⟨w.heap.size,b1,some ⟨b,0,none⟩,W*H,x1,none,0⟩⟩,rfl,hx,fun h=>(by rw[hs]at h;cases h),fun _=>⟨rfl,rfl,rfl,?_,?_⟩⟩
  ·rw[Int.toNat_natCast,Int.toNat_natCast]
   have hl:(zaO W H wd).cs.length=W*H:=List.length_replicate
   refine⟨?_,?_,Row.nil _ _ _,fun _=>rfl,?_,hx.size,hu.on hx⟩
   ·show w12.heap[b1]? =_
    rw[hbox];unfold glV;rw[hl];rfl
   ·rw[hl];exact hr
   ·rintro q (hq|hq|hq)
    ·subst hq;exact hb1
    ·have e:b=q:=Option.some.inj hq;subst e;exact hb
    ·cases hq
  ·refine⟨hrd,by decide,?_⟩
   rintro q (hq|⟨hq, -⟩)
   ·dsimp only at hq
    subst hq
    refine⟨hx1,zv hrd.box,?_⟩
    rintro(hq|hq|hq)
    ·exact n2 hq
    ·have e:b=q:=Option.some.inj hq;exact n1 e.symm
    ·cases hq
   ·cases hq
theorem zvG:zrK.Ok Tryz.prog 14:=by
  refine zvF ⟨zks,zx0,trivial⟩ ?_
  rintro⟨gw,gh,wd⟩ w hu
  dsimp only at hu⊢
  refine⟨(gw,gh),rfl,trivial,?_⟩
  rintro _ w1 ⟨rfl,hx1⟩
  refine zb (fun h=> ?_) (fun h=> ?_)
  ·have h:Zv gw gh=false:=by simpa using h
   exact⟨⟨none,5,⟨0,0,none,0,0,none,0⟩⟩,rfl,hx1,fun _=>⟨rfl,rfl⟩,fun h'=>(by rw[h]at h';cases h')⟩
  have h:Zv gw gh=true:=by simpa using h
  have hsz:=h
  unfold Zv at hsz
  have hsz:=of_decide_eq_true hsz
  obtain⟨W,rfl⟩:∃n:Nat,gw=(n:Int):=⟨gw.toNat,by omega⟩
  obtain⟨H,rfl⟩:∃n:Nat,gh=(n:Int):=⟨gh.toNat,by omega⟩
  have hW:W<=1024:=by omega
  have hH:H<=1024:=by omega
  have hWH:W*H<=1048576:=Nat.le_trans (Nat.mul_le_mul hW hH) (by decide)
  have hcast:(W:Int)*(H:Int)=((W*H:Nat):Int):=by rw[Int.natCast_mul]
  have hmk:(Qu (ceV (zw 0)).toArray (W*H)).size=(W*H)*6:=by
    have:=congrArg List.length (ZP (W*H))
    rw[Array.length_toList,zR,List.length_replicate]at this
    exact this
  intro w2 hd
  have hx2:=Ext.trans hx1 hd.ext
  rw[hcast]
  refine⟨zd (by omega) (by omega),⟨W*H,W*H,rfl,rfl,Nat.le_refl _,by omega,by omega,fun b w3 hn3=>⟨hn3.ext,(),rfl,trivial,fun x1 w4 ⟨e1,hrd,hx4⟩=>⟨hx4,fun b1 w5 hn5=> ?_⟩⟩⟩,(),rfl,trivial,fun x1 w4 ⟨e1,hrd,hx4⟩=>⟨hx4,W*H,W*H,rfl,rfl,Nat.le_refl _,by omega,by omega,fun b w3 hn3=>⟨hn3.ext,fun b1 w5 hn5=> ?_⟩⟩⟩
  ·have z3:=hn3.size;have z5:=hn5.size;have zx:=hx4.size;have z2:=hx2.size
   have hrow:Row w3 52 6 (some ⟨b,0,none⟩) (W*H) ((Qu (ceV (zw 0)).toArray (W*H)).toList.take (W*H*6)) (W*H):=Row.made (n:=W*H) (s:=6) hn3 (Nat.le_refl _) (show W*H<=maxLen by unfold maxLen;omega) hmk
   rw[ZP,List.take_of_length_le (by rw[zR,List.length_replicate];exact Nat.le_refl _)]at hrow
   exact zon hu (Ext.trans (Ext.trans hx2 hn3.ext) (Ext.trans hx4 hn5.ext)) h (by omega) (by omega) (by omega) (by omega) (by have:=zv hrd.box;omega) ((hrow.ext hx4).ext hn5.ext) (hrd.ext hn5.ext) hn5.heap
  ·have z3:=hn3.size;have z5:=hn5.size;have zx:=hx4.size;have z2:=hx2.size
   have hrow:Row w3 52 6 (some ⟨b,0,none⟩) (W*H) ((Qu (ceV (zw 0)).toArray (W*H)).toList.take (W*H*6)) (W*H):=Row.made (n:=W*H) (s:=6) hn3 (Nat.le_refl _) (show W*H<=maxLen by unfold maxLen;omega) hmk
   rw[ZP,List.take_of_length_le (by rw[zR,List.length_replicate];exact Nat.le_refl _)]at hrow
   have hlx:=zv hrd.box
   exact zon hu (Ext.trans (Ext.trans hx2 hx4) (Ext.trans hn3.ext hn5.ext)) h (by omega) (by omega) (by omega) (by omega) (by omega) (hrow.ext hn5.ext) ((hrd.ext hn3.ext).ext hn5.ext) hn5.heap
theorem ziA(g:Gs)(l:List Int){k:Nat}(hk:k<l.length):zH g (l.take (k+1))=zj (zH g (l.take k)) l[k]:=by
  unfold zH
  rw[List.take_add_one,List.getElem?_eq_getElem hk,Option.toList_some,List.foldl_append]
  rfl
set_option maxRecDepth 2000 in
theorem ztt:zjB.Ok Tryz.prog 22:=by
  refine zts ⟨zwd,zrq,trivial⟩ ?_
  rintro⟨A,g,m,ha,hc,h,ad,c,b⟩ w ⟨hG,hk,hR,hcb,hbz,hmb⟩
  dsimp only at hG hk hR hcb hbz hmb⊢
  have hsm:=hR.sm
  refine⟨some ⟨A.rb,0,none⟩,(za hG.box 9).trans rfl,⟨A.rb,ha,hc,h,ad,c,b⟩,rfl,⟨hG.ud.1,hR.rd,hcb,by dsimp only;omega,hbz⟩,?_⟩
  rintro⟨⟨ra,rn,rc⟩,ha',hc'⟩ w1 ⟨hrn,hrow,hrd,hnew,hne,hfr⟩
  dsimp only at hrn hrow hrd hnew hne hfr⊢
  subst hrn
  have hrb:=hR.far A.rb (.inl rfl)
  have hG1:GlIn w1 A g:=hG.fr hfr (fun q hq=>by subst hq;exact⟨hrb.1,hrb.2.2⟩)
  have hlb:=zd3 (h++b)
  have hsz:(h++b).size=h.size+b.size:=ByteArray.size_append
  refine⟨⟨(A,0),rfl,Nat.zero_le _,GlOut.refl hG1⟩,?_⟩
  rintro _ ⟨A2,k⟩ w2 ⟨hk2,hO2⟩
  dsimp only at hk2 hO2⊢
  have hp2:A2.p=A.p:=hO2.p
  refine zb (fun h1=> ?_) (fun h1=> ?_)
  ·have h1:k<(ZF (h++b)).length:=by have:=of_decide_eq_true h1;omega
   have hc2:CellsAt w2 ra ((ZF (h++b)).map (Value.int .i32)):=hrow.row.cells.fr hO2.st.fr (fun q hq hh=>by have:=hG.lt q hh;have:=hrow.new q hq;omega)
   refine⟨k,rfl,h1,hc2.int h1 fun b5 o5 hb5=>⟨_,hb5,⟨A2,zH g ((ZF (h++b)).take k),(ZF (h++b)).getD k 0,m+k⟩,by rw[hp2.symm],⟨hO2.is,?_,by show m+k<=549755813888;omega⟩,?_⟩⟩
   ·have:=zdU ((ZF (h++b)).take k) hk
    rw[List.length_take,Nat.min_eq_left hk2]at this
    exact this
   ·intro A3 w3 hO3
    dsimp only at hO3
    refine⟨zd (by omega) (by omega),(A3,k+1),rfl,⟨h1,?_⟩,by dsimp only;omega⟩
    dsimp only
    rw[ziA g _ h1]
    have e:(ZF (h++b)).getD k 0=(ZF (h++b))[k]:=by rw[List.getD_eq_getElem?_getD,List.getElem?_eq_getElem h1];rfl
    rw[e]at hO3
    exact hO2.trans hO3
  ·have h1:k=(ZF (h++b)).length:=by have:=of_decide_eq_false h1;omega
   subst h1
   rw[List.take_length]at hO2
   have hfar:∀q,q=A.rb\/(qi ha'=some q/\(fdH (h++b)).size≠0)->A.B<=q/\q<w1.heap.size/\¬own A q/\(zmW A ha h q\/w.heap.size<=q):=by
     rintro q (hq|⟨hq,h0⟩)
     ·subst hq;exact⟨hrb.1,Nat.lt_of_lt_of_le hrb.2.1 hfr.size,hrb.2.2, .inl (.inr (.inl rfl))⟩
     ·have h2:=hnew q hq
      exact⟨Nat.le_trans hG.bw h2,hrd.lt hq h0,fun hh=>by have:=hG.lt q hh;omega, .inr h2⟩
   have hB2:A2.B=A.B:=hO2.b
   have hrb2:A2.rb=A.rb:=hO2.rb
   refine⟨(A2,ha',hc'),rfl,⟨hO2.is,⟨?_,zoC _,?_⟩,hp2,hB2,hrb2,?_,?_⟩⟩
   ·rw[hrb2]
    exact hrd.fr hO2.st.fr hrb.2.2 (fun q hq h0=>(hfar q (.inr ⟨hq,h0⟩)).2.2.1)
   ·intro q hq
    rw[hrb2]at hq
    obtain⟨f1,f2,f3, -⟩:=hfar q hq
    refine⟨by rw[hB2];exact f1,Nat.lt_of_lt_of_le f2 hO2.st.fr.size,fun hh=> ?_⟩
    rcases(hO2.st.dom q hh).2 with h5|h5
    ·exact f3 h5
    ·omega
   ·refine(hfr.mono (T:=zmW A ha h) (fun q _ hq=> .inr (.inl hq))).trans hO2.st.fr (fun q _ hq=> .inl hq)
   ·rintro q (hq|hq)
    ·have h5:=hO2.st.dom q hq
     refine⟨h5.1,h5.2.elim (fun h6=> .inl (.inl h6)) (fun h6=> .inr (Nat.le_trans hfr.size h6))⟩
    ·rw[hrb2]at hq
     obtain⟨f1,f2,f3,f4⟩:=hfar q hq
     exact⟨Nat.lt_of_lt_of_le f2 hO2.st.fr.size,f4⟩
end

section
open Go Go.RowKit Vc Ut Tb Cl
theorem qo{w0 w w1:World}{e t:TypeId}{s n c b k:Nat}{a:Option Addr}{vs:List Value}{cs:Array Value}{v:Value}(h:Made w0 w e s a n vs c)(hb:w.heap[b]? =some (.cells cs t))(ht:t≠e)(hB:w0.heap.size<=b)(hs:Stored w ⟨b,k,none⟩ v w1):Made w0 w1 e s a n vs c:=
  ⟨h.row.keep fun q hq=>hs.other (by show q≠b;rintro rfl;exact QD h.row hb ht hq),h.new,Ext.stored h.ext hs hB⟩
theorem qI{w:World}{b:Nat}{v0 v1 v2 v3 v4:Value}{t:TypeId}(h:w.heap[b]? =some (.cells #[v0,v1,v2,v3,v4] t)){k:Nat}(hk:k<5):(∃old,w.cell? ⟨b,k,none⟩=some old)/\w.frozen? ⟨b,k,none⟩=false:=
  ⟨⟨_,(za h k).trans (Array.getElem?_eq_getElem (by simpa using hk))⟩,zB h _⟩
set_option maxRecDepth 4000 in
theorem zs8:zjz.Ok Tryz.prog 23:=by
  refine zs7 trivial ?_
  rintro⟨A,g⟩ w ⟨hG,hF⟩ b w1 hn
  dsimp only at hG hF⊢
  have z1:=hn.size
  have hb:b=w.heap.size:=z1.1
  have hG1:=hG.ext hn.ext
  have hw:=hF.w;have hh:=hF.h;have hlen:=hF.len;have hx:=hF.x
  have hwh:g.w*g.h<=1048576:=Nat.le_trans (Nat.mul_le_mul hw hh) (by decide)
  have fin:∀{W:World} {b1:Nat} {a':Option Addr} {c':Nat},W.heap[b1]? =some (.cells #[.int .i64 0, .int .i64 0, .slice none 0 0, .int .i64 0, .int .i64 0] 24)->W.heap[b]? =some (.cells #[.int .i64 0, .int .i64 0, .slice none 0 0, .int .i64 0, .int .i64 0] 24)->
   b<b1->Made w W 52 6 a' g.cs.length (zE g.cs) c'->
   true=true/\(∃old,W.cell? ⟨b1,0,none⟩=some old)/\W.frozen? ⟨b1,0,none⟩=false/\∀w13,Stored W ⟨b1,0,none⟩ (.int .i64 g.w) w13->
   true=true/\(∃old,w13.cell? ⟨b1,1,none⟩=some old)/\w13.frozen? ⟨b1,1,none⟩=false/\∀w14,Stored w13 ⟨b1,1,none⟩ (.int .i64 g.h) w14->
   true=true/\(∃old,w14.cell? ⟨b1,2,none⟩=some old)/\w14.frozen? ⟨b1,2,none⟩=false/\∀w15,Stored w14 ⟨b1,2,none⟩ (.slice a' (0+g.cs.length) c') w15->
   true=true/\(∃old,w15.cell? ⟨b1,3,none⟩=some old)/\w15.frozen? ⟨b1,3,none⟩=false/\∀w16,Stored w15 ⟨b1,3,none⟩ (.int .i64 (-1)) w16->
   true=true/\(∃old,w16.cell? ⟨b1,4,none⟩=some old)/\w16.frozen? ⟨b1,4,none⟩=false/\∀w17,Stored w16 ⟨b1,4,none⟩ (.int .i64 (-1)) w17->
   ∃c1:GdX,Value.pointer (some ⟨b1,0,none⟩)=Value.pointer (some ⟨c1.b,0,none⟩)/\gdI g w c1 w17 (.pointer (some ⟨b,0,none⟩))/\c1.x= -1/\c1.y= -1:=by
    intro W b1 a' c' h1 hb0 hlt hm
    have hB:w.heap.size<=b1:=by omega
    refine⟨rfl,(qI h1 (k:=0) (by decide)).1,(qI h1 (k:=0) (by decide)).2,fun w2 s2=> ?_⟩
    have h2:=s2.heap h1
    have m2:=qo hm h1 (by decide) hB s2
    refine⟨rfl,(qI h2 (k:=1) (by decide)).1,(qI h2 (k:=1) (by decide)).2,fun w3 s3=> ?_⟩
    have h3:=s3.heap h2
    have m3:=qo m2 h2 (by decide) hB s3
    refine⟨rfl,(qI h3 (k:=2) (by decide)).1,(qI h3 (k:=2) (by decide)).2,fun w4 s4=> ?_⟩
    have h4:=s4.heap h3
    have m4:=qo m3 h3 (by decide) hB s4
    refine⟨rfl,(qI h4 (k:=3) (by decide)).1,(qI h4 (k:=3) (by decide)).2,fun w5 s5=> ?_⟩
    have h5:=s5.heap h4
    have m5:=qo m4 h4 (by decide) hB s5
    refine⟨rfl,(qI h5 (k:=4) (by decide)).1,(qI h5 (k:=4) (by decide)).2,fun w6 s6=> ?_⟩
    have h6:=s6.heap h5
    have m6:=qo m5 h5 (by decide) hB s6
    have hne:b≠b1:=by omega
    refine⟨⟨b1,a',c', -1, -1⟩,rfl,⟨by rw[hb],?_,?_,by dsimp only;omega,m6⟩,rfl,rfl⟩
    ·rw[<-hb]
     exact(s6.other hne).trans ((s5.other hne).trans ((s4.other hne).trans ((s3.other hne).trans ((s2.other hne).trans hb0))))
    ·rw[Nat.zero_add]at h6
     exact h6
  refine⟨fun w2 hd=> ?_,?_⟩
  ·have x2:=Ext.trans hn.ext hd.ext
   have hG2:=hG.ext x2
   refine⟨g.w,(za hG1.box 0).trans rfl,g.h,(za hG1.box 1).trans rfl,A.ca,g.cs.length,A.cc,(za hG1.box 3).trans rfl,?_,fun b1 w3 hn3=>⟨hn3.ext,?_⟩⟩
   ·obtain⟨a',c',w3,hrun,hko,hm3m, -⟩:=(Made.nil w2 52 6).pushS (P:=Tryz.prog) (ty:=22) Qm (by decide) (sa:=A.ca) (cx:=A.cc) (m:=g.cs.length) (news:=zE g.cs) (zR _) hG2.row.cells (zat _) (by unfold maxLen;omega) (.inr (by omega))
    rw[Nat.zero_add,List.nil_append]at hm3m
    have hm3:=hm3m.earlier x2
    have hx3:Ext w2 w3:=hm3m.ext
    refine⟨a',c',w3,hrun,hko,hx3,fun b1 w4 hn4=>⟨hn4.ext,?_⟩⟩
    have z4:=hn4.size;have z3:=hx3.size;have z2:=hd.ext.size
    exact fin hn4.heap (Ext.heap hn4.ext (Ext.heap hx3 (Ext.heap hd.ext hn.heap))) (by omega) (hm3.later hn4.ext)
   ·have x3:=Ext.trans x2 hn3.ext
    have hG3:=hG.ext x3
    obtain⟨a',c',w4,hrun,hko,hm4m, -⟩:=(Made.nil w3 52 6).pushS (P:=Tryz.prog) (ty:=22) Qm (by decide) (sa:=A.ca) (cx:=A.cc) (m:=g.cs.length) (news:=zE g.cs) (zR _) hG3.row.cells (zat _) (by unfold maxLen;omega) (.inr (by omega))
    rw[Nat.zero_add,List.nil_append]at hm4m
    have hm4:=hm4m.earlier x3
    have hx4:Ext w3 w4:=hm4m.ext
    have z3:=hn3.size;have z2:=hd.ext.size
    exact⟨a',c',w4,hrun,hko,hx4,fin (Ext.heap hx4 hn3.heap) (Ext.heap hx4 (Ext.heap hn3.ext (Ext.heap hd.ext hn.heap))) (by omega) hm4⟩
  ·rintro _ ⟨b1,a',c',xx,yy⟩ w2 ⟨hI,hxx,hyy⟩
   dsimp only at hxx hyy
   subst hxx hyy
   obtain⟨-,hres,hout,hne,hm⟩:=hI
   dsimp only at hres hout hne hm⊢
   have hG2:=hG.ext hm.ext
   refine⟨⟨g.hid,(za hG2.box 6).trans rfl,zb (fun h1=>⟨_,_,_,(za hG2.box 3).trans rfl,zb (fun h2 w3 hd=> ?_) (fun h2=>⟨⟨b1,a',c', -1, -1⟩,rfl,⟨by rw[hb],hres,hout,hne,hm⟩,?_,?_⟩)⟩) (fun h1=>⟨⟨b1,a',c', -1, -1⟩,rfl,⟨by rw[hb],hres,hout,hne,hm⟩,?_,?_⟩)⟩,?_⟩
   ·have h1:g.hid=false:=by simpa using h1
    have h2:g.cs≠[]:=by
      have:=of_decide_eq_true h2
      intro hh
      rw[hh]at this
      simp at this
    have hG3:=hG2.ext hd.ext
    have hout3:=Ext.heap hd.ext hout
    have hnp:¬ptN (.pointer (some ⟨b1,0,none⟩)) A.p:=fun hh=>by
      have hh:A.p=b1:=hh
      have:=hG.lt A.p (.inl rfl)
      omega
    refine⟨hnp,g.x,(za hG2.box 4).trans rfl,hnp,g.w,(za hG2.box 0).trans rfl,zd (by omega) (by omega),hnp,g.y,(za hG2.box 5).trans rfl,rfl,(qI hout3 (k:=3) (by decide)).1,(qI hout3 (k:=3) (by decide)).2,fun w4 s4=> ?_⟩
    have hB:w.heap.size<=b1:=by omega
    have h4:=s4.heap hout3
    have m3:=hm.later hd.ext
    have m4:=qo m3 hout3 (by decide) hB s4
    refine⟨(Fr.stored s4).mono (fun q _ hq=>hq),rfl,(qI h4 (k:=4) (by decide)).1,(qI h4 (k:=4) (by decide)).2,fun w5 s5=> ?_⟩
    have h5:=s5.heap h4
    have m5:=qo m4 h4 (by decide) hB s5
    have hne1:w.heap.size≠b1:=by omega
    refine⟨⟨b1,a',c',min (g.x:Int) ((g.w:Int) - 1),g.y⟩,rfl,⟨by rw[hb],?_,?_,hne,m5⟩,?_,?_⟩
    ·exact(s5.other hne1).trans ((s4.other hne1).trans (Ext.heap hd.ext hres))
    ·have e:(if(g.w:Int) - 1<(g.x:Int)then(g.w:Int) - 1 else(g.x:Int))=min (g.x:Int) ((g.w:Int) - 1):=by split<;>omega
     rw[e]at h5
     exact h5
    ·rw[if_pos ⟨h1,h2⟩]
    ·rw[if_pos ⟨h1,h2⟩]
   ·have h2:g.cs=[]:=by
      have:=of_decide_eq_false h2
      exact List.eq_nil_of_length_eq_zero (by omega)
    rw[if_neg (fun hh=>hh.2 h2)]
   ·have h2:g.cs=[]:=by
      have:=of_decide_eq_false h2
      exact List.eq_nil_of_length_eq_zero (by omega)
    rw[if_neg (fun hh=>hh.2 h2)]
   ·have h1:g.hid=true:=by simpa using h1
    rw[if_neg (fun hh=>by rw[h1]at hh;cases hh.1)]
   ·have h1:g.hid=true:=by simpa using h1
    rw[if_neg (fun hh=>by rw[h1]at hh;cases hh.1)]
   rintro _ ⟨b2,a2,c2,xx,yy⟩ w3 ⟨he,⟨-,hres3,hout3,hne3,hm3⟩,hxx,hyy⟩
   dsimp only at he hres3 hout3 hne3 hm3 hxx hyy
   have e2:b1=b2:=by injection he with he;injection he with he;injection he
   subst e2
   rw[hb.symm]at hres3
   have hB:w.heap.size<=b:=by omega
   refine⟨_,(za hout3 0).trans rfl,_,(za hout3 1).trans rfl,_,_,_,(za hout3 2).trans rfl,_,(za hout3 3).trans rfl,_,(za hout3 4).trans rfl,?_⟩
   refine⟨rfl,(qI hres3 (k:=0) (by decide)).1,(qI hres3 (k:=0) (by decide)).2,fun w4 s4=> ?_⟩
   have h4:=s4.heap hres3
   have m4:=qo hm3 hres3 (by decide) hB s4
   refine⟨rfl,(qI h4 (k:=1) (by decide)).1,(qI h4 (k:=1) (by decide)).2,fun w5 s5=> ?_⟩
   have h5:=s5.heap h4
   have m5:=qo m4 h4 (by decide) hB s5
   refine⟨rfl,(qI h5 (k:=2) (by decide)).1,(qI h5 (k:=2) (by decide)).2,fun w6 s6=> ?_⟩
   have h6:=s6.heap h5
   have m6:=qo m5 h5 (by decide) hB s6
   refine⟨rfl,(qI h6 (k:=3) (by decide)).1,(qI h6 (k:=3) (by decide)).2,fun w7 s7=> ?_⟩
   have h7:=s7.heap h6
   have m7:=qo m6 h6 (by decide) hB s7
   refine⟨rfl,(qI h7 (k:=4) (by decide)).1,(qI h7 (k:=4) (by decide)).2,fun w8 s8=> ?_⟩
   have h8:=s8.heap h7
   have m8:=qo m7 h7 (by decide) hB s8
   refine⟨_,(za h8 0).trans rfl,_,(za h8 1).trans rfl,_,_,_,(za h8 2).trans rfl,_,(za h8 3).trans rfl,_,(za h8 4).trans rfl,((a2,c2),qQ g),?_,rfl,m8⟩
   rw[hxx,hyy]
   rfl
end

section
namespace Vc
open Go Go.RowKit
section
variable {P : Program} (w : World)
theorem zgP(t tn ty e:TypeId)(i:TypeInfo)(z:Value)(k kn:IntKind)(ht:P.underlying t=some (.slice e))(htn:P.underlying tn=some (.int kn))(hi:P.info? e=some i)(hz:i.zero=some z)
    (g sLen sCap:Nat) (cur:Array Value) (hg:w.heap[g]? =some (.cells cur e (0,0))) (n:Nat) (h0:0<n) (hs:0<i.size) (h63:(n:Int)<=9223372036854775807) (h48:n*i.bytes<=281474976710656) (news:List Value) (hnews:(Builtin.zeroCells z.cells n).toList=news) (h1:∀u∈news,u.oneCell'=true)
    (hroom:sLen+n<=sCap) (hfit:sLen*i.size+news.length<=cur.size):
    (Builtin.append_ #[t,tn] ty #[.slice (some ⟨g,0,none⟩) sLen sCap, .int k n]).run P w=
      .ok (.slice (some ⟨g,0,none⟩) (sLen+n) sCap) (w.setRow g (cur.toList.take (sLen*i.size)++news++cur.toList.drop (sLen*i.size+news.length)).toArray):=by
  have hw:IntKind.i64.wrap (n:Int)=n:=by rw[IntKind.wrap_i64];omega
  have h48i:¬(281474976710656<(n:Int)*(i.bytes:Int)):=by
    rw[<-Int.natCast_mul]
    omega
  have hneg:¬((n:Int)<0):=by omega
  have hns:¬(n*i.size=0):=Nat.mul_ne_zero (by omega) (by omega)
  have hn0:n≠0:=by omega
  have hst:=run_storeCells_at P g (sLen*i.size) e news 0 cur w hg (by simpa using hfit) h1
  simp only[Nat.add_zero]at hst
  have hs0:i.size≠0:=by omega
  simp[Builtin.append_,run_underlying ht,run_underlying htn,sizeOf,typeInfo,zeroValue,hi,hz,asInt,asIntOf,hw,hneg,hns,hn0,hs0,h48i,hroom,hnews,Addr.add_lit,hst]
theorem zgQ(t tn ty e:TypeId)(i:TypeInfo)(z:Value)(k kn:IntKind)(ht:P.underlying t=some (.slice e))(htn:P.underlying tn=some (.int kn))(hi:P.info? e=some i)(hz:i.zero=some z)
    (b:Addr) (sLen sCap:Nat) (olds:List Value) (hlo:olds.length=sLen*i.size) (holds:∀j v,olds[j]? =some v->w.cell? (b.add j)=some v)
    (n:Nat) (h0:0<n) (hs:0<i.size) (h48:n*i.bytes<=281474976710656)
    (hg:sCap<sLen+n) (h63:((sLen+n:Nat):Int)<=9223372036854775807) (hfit:Builtin.nextslicecap (sLen+n) sCap*i.bytes<=281474976710656):
    (Builtin.append_ #[t,tn] ty #[.slice (some b) sLen sCap, .int k n]).run P w=
      .ok (.slice (some ⟨w.heap.size,0,none⟩) (sLen+n) (grownCap w (sLen+n) sCap e))
        (w.drew.alloc (.cells (olds.toArray++Builtin.zeroCells z.cells n++Builtin.zeroCells z.cells (grownCap w (sLen+n) sCap e - (sLen+n))) e)):=by
  have hw:IntKind.i64.wrap (n:Int)=n:=by rw[IntKind.wrap_i64];omega
  have h48i:¬(281474976710656<(n:Int)*(i.bytes:Int)):=by
    rw[<-Int.natCast_mul]
    omega
  have hneg:¬((n:Int)<0):=by omega
  have hns:¬(n*i.size=0):=Nat.mul_ne_zero (by omega) (by omega)
  have hn0:n≠0:=by omega
  have hs0:i.size≠0:=by omega
  have hn:¬(sLen+n<=sCap):=by omega
  have h63':¬(9223372036854775807<((sLen:Int)+(n:Int))):=by omega
  have h48':¬(281474976710656<Builtin.nextslicecap (sLen+n) sCap*i.bytes):=by omega
  have hfo:=run_firstCells_some (P:=P) w.drew i.size sLen b sLen sCap olds hlo (by simpa using holds)
  simp[Builtin.append_,run_underlying ht,run_underlying htn,sizeOf,typeInfo,zeroValue,hi,hz,asInt,asIntOf,hw,hneg,hns,hn0,hs0,h48i,hn,h63',h48',Question.forced,hfo,newRow,grownCap]
end
theorem zqG{P:Program}{w:World}{t tn ty e:TypeId}{i:TypeInfo}{z:Value}{k kn:IntKind}{s bytes:Nat}(ht:P.underlying t=some (.slice e))(htn:P.underlying tn=some (.int kn))(hi:P.info? e=some i)(hz:i.zero=some z)(hsize:i.size=s)(hby:i.bytes=bytes)
    (hzs:z.cells.size=s) (hs0:0<s) {ad:Option Addr} {n c:Nat} {vs:List Value} (h:Row w e s ad n vs c) {m:Nat} {news:List Value} (hnews:(Builtin.zeroCells z.cells m).toList=news) (h1:∀u∈news,u.oneCell'=true) (h63:n+m<=maxLen) (hbytes:(n+m)*bytes<=140737488355328):
    ∃ad' c' w2,zA P #[t,tn] ty (.slice ad n c) (.int k m) w ad' (n+m) c' w2/\KO w w2/\Row w2 e s ad' (n+m) (vs++news) c'/\w.grownBy w2 (qi ad)/\(ad'=ad\/(ad'=some ⟨w.heap.size,0,none⟩/\w.heap.size<w2.heap.size/\Ext w w2)):=by
  have hko:∀{w2:World},w.grownBy w2 (qi ad)->KO w w2:=fun hg=>KO.grown hg (fun j o hj ho=>by
    rcases h.2 with⟨h1,_⟩|⟨g,cur,h1,h2,_⟩
    ·subst h1;cases hj
    ·subst h1;cases hj;rw[h2]at ho;cases ho;rfl)
  subst hsize
  subst hby
  have hsmall:n+m<=9223372036854775807:=by simp only[maxLen]at h63;omega
  have hl:news.length=m*i.size:=by rw[<-hnews,Array.length_toList,size_zeroCells,hzs]
  have hlen:(vs++news).length=(n+m)*i.size:=by rw[List.length_append,h.1,hl,Nat.add_mul]
  have hmb:m*i.bytes<=140737488355328:=Nat.le_trans (Nat.mul_le_mul_right _ (by omega)) hbytes
  by_cases hm:m=0
  ·subst hm
   have hn:news=[]:=List.eq_nil_of_length_eq_zero (by simpa using hl)
   subst hn
   refine⟨ad,c,w,?_,KOE.refl _ _,by simpa using h,⟨rfl,rfl,rfl,Nat.le_refl _,fun _ _ _=>rfl⟩, .inl rfl⟩
   have hnc:=h.le.1
   have hw:IntKind.i64.wrap (0:Int)=0:=by decide
   unfold zA
   cases ad with
   |none=>simp[Builtin.append_,run_underlying ht,run_underlying htn,sizeOf,typeInfo,hi,hz,asInt,asIntOf,hw,hnc]
   |some a=>simp[Builtin.append_,run_underlying ht,run_underlying htn,sizeOf,typeInfo,hi,hz,asInt,asIntOf,hw,hnc,storeCells]
  ·have grown:∀(old:Nat),old<n+m->∀(row:Option Nat),
    Row (w.drew.alloc (.cells (vs.toArray++Builtin.zeroCells z.cells m++Builtin.zeroCells z.cells (grownCap w (n+m) old e - (n+m))) e)) e i.size (some ⟨w.heap.size,0,none⟩) (n+m) (vs++news) (grownCap w (n+m) old e)/\
    w.grownBy (w.drew.alloc (.cells (vs.toArray++Builtin.zeroCells z.cells m++Builtin.zeroCells z.cells (grownCap w (n+m) old e - (n+m))) e)) row/\w.heap.size<(w.drew.alloc (.cells (vs.toArray++Builtin.zeroCells z.cells m++Builtin.zeroCells z.cells (grownCap w (n+m) old e - (n+m))) e)).heap.size/\
    Ext w (w.drew.alloc (.cells (vs.toArray++Builtin.zeroCells z.cells m++Builtin.zeroCells z.cells (grownCap w (n+m) old e - (n+m))) e)):=by
     intro old ho row
     have hge:=grownCap_ge w (n+m) old e
     have hcm:grownCap w (n+m) old e<=maxLen:=grownCap_le_maxLen w (n+m) old e h63
     refine⟨⟨hlen, .inr ⟨w.heap.size,_,rfl,heap_alloc_new w.drew _,hge,hcm,?_,?_⟩⟩,⟨rfl,rfl,rfl,by simp,fun k hk _=>heap_alloc_old w.drew _ hk⟩,by simp,(Below.drew (Below.refl _ w)).alloc (by simp) _⟩
     ·simp only[Array.size_append,List.size_toArray,size_zeroCells,hzs,h.1,<-Nat.add_mul]
      congr 1
      omega
     ·simp only[Array.toList_append,List.append_assoc,hnews]
      rw[<-List.append_assoc,<-hlen]
      exact List.take_left
   rcases h.2 with⟨rfl,rfl,rfl⟩|⟨g,cur,rfl,hg,hnc,hcm,hcs,htake⟩
   ·have hx:vs=[]:=List.eq_nil_of_length_eq_zero (by simpa using h.1)
    subst hx
    have hr:=Lib.run_append_nil_zeros (P:=P) w t tn ty e i z k kn ht htn hi hz m (by omega) hs0 (by omega) (by omega)
    have hgr:=grown 0 (by omega) (qi none)
    simp only[Nat.zero_add,List.nil_append,Array.empty_append]at hgr⊢
    exact⟨_,_,_,hr,hko hgr.2.1,hgr.1,hgr.2.1, .inr ⟨rfl,hgr.2.2⟩⟩
   ·by_cases hroom:n+m<=c
    ·have hfit:n*i.size+news.length<=cur.size:=by rw[hl,hcs,<-Nat.add_mul];exact Nat.mul_le_mul_right _ hroom
     have hr:=zgP (P:=P) w t tn ty e i z k kn ht htn hi hz g n c cur hg m (by omega) hs0 (by omega) (by omega) news hnews h1 hroom hfit
     have hgb:w.grownBy (w.setRow g (cur.toList.take (n*i.size)++news++cur.toList.drop (n*i.size+news.length)).toArray) (qi (some ⟨g,0,none⟩)):=⟨rfl,rfl,rfl,by simp,fun k _ hk=>setRow_other w g k _ (fun e=>hk (by simp[qi,e]))⟩
     refine⟨_,_,_,hr,hko hgb,⟨hlen, .inr ⟨g,_,rfl,setRow_heap w g cur _ e _ hg,hroom,hcm,?_,?_⟩⟩,⟨rfl,rfl,rfl,by simp,fun k _ hk=>setRow_other w g k _ (fun e=>hk (by simp[qi,e]))⟩, .inl rfl⟩
     ·simp only[List.size_toArray,List.length_append,List.length_take,List.length_drop,Array.length_toList]
      omega
     ·rw[htake,<-hlen]
      exact List.take_left
    ·have holds:∀(j:Nat) u,vs[j]? =some u->w.cell? ((⟨g,0,none⟩:Addr).add j)=some u:=by
       intro j u hu
       rcases h.cells with h0|⟨b',o',e1,e2⟩
       ·subst h0;simp at hu
       ·cases e1;rw[add_lit];exact e2 j u hu
     have hr:=zgQ (P:=P) w t tn ty e i z k kn ht htn hi hz ⟨g,0,none⟩ n c vs h.1 holds m (by omega) hs0 (by omega) (by omega) (by omega) (growslice_fits (by omega) hbytes)
     have hgr:=grown c (by omega) (qi (some ⟨g,0,none⟩))
     exact⟨_,_,_,hr,hko hgr.2.1,hgr.1,hgr.2.1, .inr ⟨rfl,hgr.2.2⟩⟩
theorem Made.pushZ{P:Program}{w0 w:World}{t tn ty e:TypeId}{k kn:IntKind}{s bytes:Nat}(hE:ElemOk P t e s bytes)(hs:0<s)(htn:P.underlying tn=some (.int kn)){z:Value}(hz0:zal P e=some z){ad:Option Addr}{n c m:Nat}{vs news:List Value}(h:Made w0 w e s ad n vs c)
    (hnews:(Builtin.zeroCells z.cells m).toList=news) (h1:∀u∈news,u.oneCell'=true) (h63:n+m<=maxLen) (hb:(n+m)*bytes<=140737488355328):
    ∃ad' c' w2,zA P #[t,tn] ty (.slice ad n c) (.int k m) w ad' (n+m) c' w2/\KO w w2/\Made w0 w2 e s ad' (n+m) (vs++news) c'/\Fr (fun q=>qi ad=some q) w w2:=by
  obtain⟨i,z',hi,hz,hz1,hz2,hz3⟩:=hE.info
  have e1:z'=z:=by
    unfold zal at hz0
    rw[hi]at hz0
    have:i.zero=some z:=hz0
    rw[hz]at this
    exact Option.some.inj this
  subst e1
  obtain⟨ad',c',w2,hr,hko,hrow,hg,hor⟩:=zqG (P:=P) (ty:=ty) (k:=k) hE.und htn hi hz hz1 hz2 hz3 hs h.row hnews h1 h63 hb
  exact⟨ad',c',w2,hr,hko,h.grown hrow hg hor,Fr.grown hg⟩
end Vc
end

section
open Go Go.RowKit Vc Ut Tb Cl
def rlV(A:GlP)(g:Gs)(hl:List Int):Array Value:= #[.int .i64 g.w, .int .i64 g.h, .bool g.wd, .slice A.ca g.cs.length A.cc, .int .i64 g.x, .int .i64 g.y, .bool (!g.hid), .int .u16 g.sty, .int .i64 ((g.last:Int) - 1), .pointer (some ⟨A.rb,0,none⟩), .int .i64 g.stt, .slice A.na hl.length A.nc]
structure RlIn(w:World)(A:GlP)(g:Gs)(hl:List Int):Prop where
  box:w.heap[A.p]? =some (.cells (rlV A g hl) 71)
  row:Row w 52 6 A.ca g.cs.length (zE g.cs) A.cc
  held:Row w 21 1 A.na hl.length (hl.map (Value.int .i32)) A.nc
  bq:∀q,own A q->A.B<=q
  bw:A.B<=w.heap.size
  u:UDB A.B w
structure RlOut(w w':World)(A A':GlP)(g':Gs)(hl':List Int):Prop where
  is:RlIn w' A' g' hl'
  p:A'.p=A.p
  b:A'.B=A.B
  rb:A'.rb=A.rb
  st:Step (own A) w w' (own A')
structure GRl where
  A:GlP
  g:Gs
  hl:List Int
def zgH:CallSpec where
  G:=GRl
  args:=fun g=> #[.pointer (some ⟨g.A.p,0,none⟩)]
  pre:=fun g w=>RlIn w g.A g.g g.hl/\fitG g.g/\g.g.last=0
  X:=GlP
  res:=fun _=> .tuple #[]
  post:=fun g w x w'=>RlOut w w' g.A x (qc g.g) g.hl
def zuf(g:GRl)(w00:World):Ann where
  sp:=[]
  frees:=[(3,fun _ q=>w00.heap.size<=q)]
structure GRy where
  A:GlP
  g:Gs
  hl:List Int
  i:Nat
  c:Ce
def zkD:CallSpec where
  G:=GRy
  args:=fun g=> #[.pointer (some ⟨g.A.p,0,none⟩), .int .i64 g.i,ceA g.c]
  pre:=fun g w=>RlIn w g.A g.g g.hl/\fitG g.g/\zb0 g.g g.i/\((zg g.g.cs g.i).p=0\/(zg g.g.cs g.i).p=1)
  X:=GlP
  res:=fun _=> .tuple #[]
  post:=fun g w x w'=>RlOut w w' g.A x (Qe g.g g.i g.c) g.hl
def zaT(g:Gs)(i:Nat):Gs:=if(zg g.cs i).p=1 then {g with cs:=g.cs.set (i - 1) (zw (zg g.cs (i - 1)).st)}else g
def zwS(g:GRy)(_:World):Ann where
  sp:=[]
  cuts:=[(2,3,{X:=Unit,sh:=fun _ _=>[],inv:=fun _ w0 _ w=>RlOut w0 w g.A g.A (zaT g.g g.i) g.hl}),(4,5,{X:=Unit,sh:=fun _ _=>[],inv:=fun _ w0 _ w=>RlOut w0 w g.A g.A (QK g.g g.i) g.hl})]
structure GRt where
  A:GlP
  g:Gs
  hl:List Int
  r:Int
  m:Nat
def zdk(w:World)(A:GlP)(g:Gs)(hl:List Int)(m:Nat):Prop:=RlIn w A g hl/\okG g m/\m<=549755813888
def zgv:List (Nat×CallSpec):=[(29,QT),(28,zcD),(83,zkD)]
def zfz:CallSpec where
  G:=GRt
  args:=fun g=> #[.pointer (some ⟨g.A.p,0,none⟩), .int .i32 g.r]
  pre:=fun g w=>zdk w g.A g.g g.hl g.m
  X:=GlP×Bool
  res:=fun x=> .bool x.2
  post:=fun g w x w'=>x.2=(zZ g.g g.r).isSome/\RlOut w w' g.A x.1 ((zZ g.g g.r).getD g.g) g.hl
def zmm:List (Nat×CallSpec):=[(82,zfz),(46,za3),(28,zcD),(56,zgH),(83,zkD)]
def znW:CallSpec where
  G:=GRt
  args:=fun g=> #[.pointer (some ⟨g.A.p,0,none⟩), .int .i32 g.r]
  pre:=fun g w=>zdk w g.A g.g g.hl g.m/\g.g.stt=0
  X:=GlP
  res:=fun _=> .tuple #[]
  post:=fun g w x w'=>RlOut w w' g.A x (qD g.g g.r) g.hl
structure rpI(g:GRt)(w00:World)(x:GlP)(w:World)(s n:Value):Prop where
  out:RlOut w00 w g.A x (Zn g.g (plN (Qq g.g g.r) g.g.wd)) g.hl
  s:s= .string (Qq g.g g.r)
  n:n= .int .i64 (plN (Qq g.g g.r) g.g.wd:Int)
  put:qD g.g g.r=Ql (Zn g.g (plN (Qq g.g g.r) g.g.wd)) (Qq g.g g.r) (plN (Qq g.g g.r) g.g.wd)
  has:¬(plN (Qq g.g g.r) g.g.wd=0\/g.g.w<plN (Qq g.g g.r) g.g.wd\/g.g.h=0)
def zwR(g:GRt)(w00:World):Ann where
  sp:=zmm
  cuts:=[(5,7,{X:=GlP,sh:=fun _ _=>[],inv:=fun e _ x w=>rpI g w00 x w (gv e 4) (gv e 6)})]
end

section
set_option linter.unusedVariables false
open Go Go.RowKit Vc Ut Tb Cl
open Value
set_option maxRecDepth 1000000
theorem zr6(hsp:zf Tryz.prog [])(h:∀(g:GRl) (w:World),RlIn w g.A g.g g.hl/\fitG g.g/\g.g.last=0->∀w1,Drew w w1->zt w g.A.p 5 fun n=>zt w g.A.p 1 fun n1=>InR .i64 (n1 - 1)/\zc (decide (n<n1 - 1)) (zt w1 g.A.p 5 fun n2=>InR .i64 (n2+1)/\zh w1 g.A.p 5 (int .i64 (n2+1)) fun w11=>∃(x:GlP),tuple #[]=tuple #[]/\RlOut w w11 g.A x (qc g.g) g.hl) (zt w1 g.A.p 1 fun n2=>zc (n2==0) (∃(x:GlP),tuple #[]=tuple #[]/\RlOut w w1 g.A x (qc g.g) g.hl) (∀w11,Drew w1 w11->¬w.heap.size<=g.A.p/\qL w1 g.A.p 3 fun a3 n3 c=>¬w.heap.size<=g.A.p/\zt w1 g.A.p 0 fun n4=>∃(ln:Nat),n4=(ln:Int)/\ln<=n3/\∀(ad':Option Addr),SlAt a3 ad' c ln 6->¬w.heap.size<=g.A.p/\zt w1 g.A.p 0 fun n5=>∃(a':Option Addr) (c':Nat) (w':World),zA Tryz.prog #[22,22] 22 (slice none 0 0) (slice ad' (n3 - ln) (c - ln)) w11 a' (0+(n3 - ln)) c' w'/\KO w11 w'/\Fr (fun(q:Nat)=>w.heap.size<=q) w11 w'/\∃(a'1:Option Addr) (c'1:Nat) (w'1:World),zA Tryz.prog #[22,3] 22 (slice a' (0+(n3 - ln)) c') (int .i64 n5) w' a'1 (0+(n3 - ln)+zp4 (int .i64 n5)) c'1 w'1/\KO w' w'1/\Fr (fun(q:Nat)=>w.heap.size<=q) w' w'1/\zh w'1 g.A.p 3 (slice a'1 (0+(n3 - ln)+zp4 (int .i64 n5)) c'1) fun w12=>∀w13,Drew w12 w13->zt w12 g.A.p 8 fun n6=>zt w12 g.A.p 0 fun n7=>zc (decide (n6>=n7)) (∀w14,Drew w13 w14->zt w13 g.A.p 8 fun n8=>zt w13 g.A.p 0 fun n9=>InR .i64 (n8 - n9)/\zh w14 g.A.p 8 (int .i64 (n8 - n9)) fun w15=>∃(x:GlP),tuple #[]=tuple #[]/\RlOut w w15 g.A x (qc g.g) g.hl) (zh w13 g.A.p 8 (int .i64 (-1:Int)) fun w14=>∃(x:GlP),tuple #[]=tuple #[]/\RlOut w w14 g.A x (qc g.g) g.hl)))):zgH.Ok Tryz.prog 56:=ze zgH zuf [] (fun _ _=>rfl) (fun _ _=>rfl) hsp Tryz.func56 rfl (n:=1) (fun _=>rfl) (by kernel_rfl) (zl (by kernel_rfl) h)
theorem zu1(hsp:zf Tryz.prog [])(h:∀(g:GRy) (w:World),RlIn w g.A g.g g.hl/\fitG g.g/\zb0 g.g g.i/\((zg g.g.cs g.i).p=(0:Int)\/(zg g.g.cs g.i).p=(1:Int))->∀b w1,New w (Obj.cells #[string g.c.t,int .i8 g.c.p,int .i64 g.c.a,int .i64 g.c.n,bool g.c.r,int .u16 (g.c.st:Int)] 52) b w1->qL w1 g.A.p 3 fun a2 n c=>qd (g.i:Int) n fun k=>zr a2 fun(b1 o:Nat)=>LdT w1 b1 (o+k*6) fun s=>zX w1 .i8 b1 (o+k*6+1) fun n1=>zt w1 b1 (o+k*6+2) fun n2=>zt w1 b1 (o+k*6+3) fun n3=>ZG w1 b1 (o+k*6+4) fun b2=>zX w1 .u16 b1 (o+k*6+5) fun n4=>∀b3 w11,New w1 (Obj.cells #[string s,int .i8 n1,int .i64 n2,int .i64 n3,bool b2,int .u16 n4] 52) b3 w11->(zX w11 .i8 b3 1 fun n5=>zc (n5==1) (∀w12,Drew w11 w12->qL w11 g.A.p 3 fun a5 n6 c1=>InR .i64 ((g.i:Int) - 1)/\qL w11 g.A.p 3 fun a6 n7 c2=>InR .i64 ((g.i:Int) - 1)/\qd ((g.i:Int) - 1) n7 fun k1=>zr a6 fun(b4 o1:Nat)=>zX w11 .u16 b4 (o1+k1*6+5) fun n8=>qd ((g.i:Int) - 1) n6 fun k2=>zr a5 fun(b5 o2:Nat)=>zh w12 b5 (o2+k2*6) (string (ByteArray.mk #[])) fun w13=>zh w13 b5 (o2+k2*6+1) (int .i8 0) fun w14=>zh w14 b5 (o2+k2*6+2) (int .i64 0) fun w15=>zh w15 b5 (o2+k2*6+3) (int .i64 0) fun w16=>zh w16 b5 (o2+k2*6+4) (bool false) fun w17=>zh w17 b5 (o2+k2*6+5) (int .u16 n8) fun w18=>∃(c3:Unit),RlOut w11 w18 g.A g.A (zaT g.g g.i) g.hl) (∃(c1:Unit),RlOut w11 w11 g.A g.A (zaT g.g g.i) g.hl))/\∀(u:Nat->Value) (c1:Unit) w',RlOut w11 w' g.A g.A (zaT g.g g.i) g.hl->(∀w12,Drew w' w12->zt w' g.A.p 0 fun n5=>(0:Int)<=(g.i:Int)/\(0:Int)<n5/\zt w' g.A.p 0 fun n6=>InR .i64 (n6 - 1)/\zc (decide ((g.i:Int)%n5<n6 - 1)) (qL w' g.A.p 3 fun a6 n7 c2=>InR .i64 ((g.i:Int)+1)/\qd ((g.i:Int)+1) n7 fun k1=>zr a6 fun(b4 o1:Nat)=>zX w' .i8 b4 (o1+k1*6+1) fun n8=>zc (n8==1) (zX w' .i8 b3 1 fun n9=>zc (n9==0) (∀w13,Drew w12 w13->qL w12 g.A.p 3 fun a8 n10 c3=>InR .i64 ((g.i:Int)+1)/\qL w12 g.A.p 3 fun a9 n11 c4=>InR .i64 ((g.i:Int)+1)/\qd ((g.i:Int)+1) n11 fun k2=>zr a9 fun(b5 o2:Nat)=>zX w12 .u16 b5 (o2+k2*6+5) fun n12=>qd ((g.i:Int)+1) n10 fun k3=>zr a8 fun(b6 o3:Nat)=>zh w13 b6 (o3+k3*6) (string (ByteArray.mk #[])) fun w14=>zh w14 b6 (o3+k3*6+1) (int .i8 0) fun w15=>zh w15 b6 (o3+k3*6+2) (int .i64 0) fun w16=>zh w16 b6 (o3+k3*6+3) (int .i64 0) fun w17=>zh w17 b6 (o3+k3*6+4) (bool false) fun w18=>zh w18 b6 (o3+k3*6+5) (int .u16 n12) fun w19=>∃(c5:Unit),RlOut w' w19 g.A g.A (QK g.g g.i) g.hl) (∃(c3:Unit),RlOut w' w12 g.A g.A (QK g.g g.i) g.hl)) (∃(c3:Unit),RlOut w' w12 g.A g.A (QK g.g g.i) g.hl)) (∃(c2:Unit),RlOut w' w12 g.A g.A (QK g.g g.i) g.hl))/\∀(u1:Nat->Value) (c2:Unit) w'1,
 RlOut w' w'1 g.A g.A (QK g.g g.i) g.hl->∀w12,Drew w'1 w12->qL w'1 g.A.p 3 fun a7 n5 c3=>LdT w'1 b 0 fun s1=>zX w'1 .i8 b 1 fun n6=>zt w'1 b 2 fun n7=>zt w'1 b 3 fun n8=>ZG w'1 b 4 fun b4=>zX w'1 .u16 b 5 fun n9=>qd (g.i:Int) n5 fun k1=>zr a7 fun(b5 o1:Nat)=>zh w12 b5 (o1+k1*6) (string s1) fun w13=>zh w13 b5 (o1+k1*6+1) (int .i8 n6) fun w14=>zh w14 b5 (o1+k1*6+2) (int .i64 n7) fun w15=>zh w15 b5 (o1+k1*6+3) (int .i64 n8) fun w16=>zh w16 b5 (o1+k1*6+4) (bool b4) fun w17=>zh w17 b5 (o1+k1*6+5) (int .u16 n9) fun w18=>∃(x:GlP),tuple #[]=tuple #[]/\RlOut w w18 g.A x (Qe g.g g.i g.c) g.hl):zkD.Ok Tryz.prog 83:=ze zkD zwS [] (fun _ _=>rfl) (fun _ _=>rfl) hsp Tryz.func83 rfl (n:=3) (fun _=>rfl) (by kernel_rfl) (zl (by kernel_rfl) h)
theorem zpC(hsp:zf Tryz.prog zgv)(h:∀(g:GRt) (w:World),zdk w g.A g.g g.hl g.m->zt w g.A.p 8 fun n=>zc (decide (n<0)) (∃(x:GlP×Bool),bool false=bool x.snd/\x.snd=(zZ g.g g.r).isSome/\RlOut w w g.A x.fst ((zZ g.g g.r).getD g.g) g.hl) (∀w1,Drew w w1->qL w g.A.p 3 fun a2 n1 c=>zt w g.A.p 8 fun n2=>qd n2 n1 fun k=>zr a2 fun(b o:Nat)=>LdT w b (o+k*6) fun s=>zX w .i8 b (o+k*6+1) fun n3=>zt w b (o+k*6+2) fun n4=>zt w b (o+k*6+3) fun n5=>ZG w b (o+k*6+4) fun b1=>zX w .u16 b (o+k*6+5) fun n6=>∃(g1:Ce), #[agg #[string s,int .i8 n3,int .i64 n4,int .i64 n5,bool b1,int .u16 n6]]= #[agg #[string g1.t,int .i8 g1.p,int .i64 g1.a,int .i64 g1.n,bool g1.r,int .u16 (g1.st:Int)]]/\True/\∀(x:ByteArray) w',x=zM g1/\Ext w1 w'->ZG w' g.A.p 2 fun b2=>∃(g2:ByteArray×Bool), #[string x,bool b2]= #[string g2.fst,bool g2.snd]/\(UD w'/\g2.fst.size<=67108864)/\∀(x1:Nat×Bool) w'1,x1.snd=decide (plN g2.fst g2.snd≠0)/\(x1.snd=true->x1.fst=plN g2.fst g2.snd)/\Ext w' w'1->x.size+(Utf8.encode g.r).size<=9223372036854775807/\ZG w'1 g.A.p 2 fun b3=>∃(g3:ByteArray×Bool), #[string (x++Utf8.encode g.r),bool b3]= #[string g3.fst,bool g3.snd]/\(UD w'1/\g3.fst.size<=67108864)/\∀(x2:Nat×Bool) w'2,x2.snd=decide (plN g3.fst g3.snd≠0)/\(x2.snd=true->x2.fst=plN g3.fst g3.snd)/\Ext w'1 w'2->zc (!x2.snd||decide ((x2.fst:Int)<(x1.fst:Int))) (∃(x3:GlP×Bool),bool false=bool x3.snd/\x3.snd=(zZ g.g g.r).isSome/\RlOut w w'2 g.A x3.fst ((zZ g.g g.r).getD g.g) g.hl) (zc (decide ((x2.fst:Int)>(x1.fst:Int))) (∀w11,Drew w'2 w11->zt w'2 g.A.p 8 fun n7=>zt w'2 g.A.p 0 fun n8=>(0:Int)<=n7/\(0:Int)<n8/\zt w'2 g.A.p 0 fun n9=>InR .i64 (n9 - 1)/\zc (n7%n8==n9 - 1) (zh w11 g.A.p 8 (int .i64 (-1:Int)) fun w12=>∃(x3:GlP×Bool),bool true=bool x3.snd/\x3.snd=(zZ g.g g.r).isSome/\RlOut w w12 g.A x3.fst ((zZ g.g g.r).getD g.g) g.hl) (∀w12,Drew w11 w12->zt w11 g.A.p 8 fun n10=>InR .i64 (n10+1)/\qL w11 g.A.p 3 fun a8 n11 c1=>zt w11 g.A.p 8 fun n12=>qd n12 n11 fun k1=>zr a8 fun(b4 o1:Nat)=>zX w11 .u16 b4 (o1+k1*6+5) fun n13=>∃(g4:GRy), #[pointer (some ⟨g.A.p,0,none⟩),int .i64 (n10+1),agg #[string (ByteArray.mk #[]),int .i8 1,int .i64 0,int .i64 0,bool false,int .u16 n13]]= #[pointer (some ⟨g4.A.p,0,none⟩),int .i64 (g4.i:Int),agg #[string g4.c.t,int .i8 g4.c.p,int .i64 g4.c.a,int .i64 g4.c.n,bool g4.c.r,int .u16 (g4.c.st:Int)]]/\(RlIn w12 g4.A g4.g g4.hl/\fitG g4.g/\zb0 g4.g g4.i/\((zg g4.g.cs g4.i).p=(0:Int)\/(zg g4.g.cs g4.i).p=(1:Int)))/\∀(x3:GlP) w'3,RlOut w12 w'3 g4.A x3 (Qe g4.g g4.i g4.c) g4.hl->zt w'3 g.A.p 4 fun n14=>InR .i64 (n14+1)/\zh w'3 g.A.p 4 (int .i64 (n14+1)) fun w13=>∀w14,Drew w13 w14->
 qL w13 g.A.p 3 fun a12 n15 c2=>zt w13 g.A.p 8 fun n16=>Below w14.heap.size w14 w14/\x.size+(Utf8.encode g.r).size<=9223372036854775807/\qd n16 n15 fun k2=>zr a12 fun(b5 o2:Nat)=>zh w14 b5 (o2+k2*6) (string (x++Utf8.encode g.r)) fun w15=>∃(x4:GlP×Bool),bool true=bool x4.snd/\x4.snd=(zZ g.g g.r).isSome/\RlOut w w15 g.A x4.fst ((zZ g.g g.r).getD g.g) g.hl)) (∀w11,Drew w'2 w11->qL w'2 g.A.p 3 fun a7 n7 c1=>zt w'2 g.A.p 8 fun n8=>Below w11.heap.size w11 w11/\x.size+(Utf8.encode g.r).size<=9223372036854775807/\qd n8 n7 fun k1=>zr a7 fun(b4 o1:Nat)=>zh w11 b4 (o1+k1*6) (string (x++Utf8.encode g.r)) fun w12=>∃(x3:GlP×Bool),bool true=bool x3.snd/\x3.snd=(zZ g.g g.r).isSome/\RlOut w w12 g.A x3.fst ((zZ g.g g.r).getD g.g) g.hl)))):zfz.Ok Tryz.prog 82:=ze zfz (zP zgv) zgv (fun _ _=>rfl) (fun _ _=>rfl) hsp Tryz.func82 rfl (n:=2) (fun _=>rfl) (by kernel_rfl) (zl (by kernel_rfl) h)
theorem zuY(hsp:zf Tryz.prog zmm)(h:∀(g:GRt) (w:World),zdk w g.A g.g g.hl g.m/\g.g.stt=0->∃(g1:GRt), #[pointer (some ⟨g.A.p,0,none⟩),int .i32 g.r]= #[pointer (some ⟨g1.A.p,0,none⟩),int .i32 g1.r]/\zdk w g1.A g1.g g1.hl g1.m/\∀(x:GlP×Bool) w',x.snd=(zZ g1.g g1.r).isSome/\RlOut w w' g1.A x.fst ((zZ g1.g g1.r).getD g1.g) g1.hl->zc x.snd (∃(x1:GlP),tuple #[]=tuple #[]/\RlOut w w' g.A x1 (qD g.g g.r) g.hl) (zh w' g.A.p 8 (int .i64 (-1:Int)) fun w1=>ZG w1 g.A.p 2 fun b=>∃(g2:GT6), #[string (Utf8.encode g.r),int .i64 0,agg #[int .i64 0,bool b,int .i8 0,bool false,bool false]]= #[string g2.s,int .i64 g2.col,agg #[int .i64 g2.l.tab,bool g2.l.wide,int .i8 g2.l.want,bool g2.l.join,bool g2.l.raw]]/\(U8 w1/\DB w1/\g2.s.size<=67108864)/\∀(x1:ByteArray×Nat) w'1,x1=Zi g2.s g2.col g2.l/\Ext w1 w'1->ZG w'1 g.A.p 2 fun b1=>∃(g3:ByteArray×Bool), #[string x1.fst,bool b1]= #[string g3.fst,bool g3.snd]/\(UD w'1/\g3.fst.size<=67108864)/\∀(x2:Nat×Bool) w'2,x2.snd=decide (plN g3.fst g3.snd≠0)/\(x2.snd=true->x2.fst=plN g3.fst g3.snd)/\Ext w'1 w'2->zc (!x2.snd) (∃(x3:GlP),tuple #[]=tuple #[]/\RlOut w w'2 g.A x3 (qD g.g g.r) g.hl) (zt w'2 g.A.p 0 fun n=>zc (decide ((x2.fst:Int)>n)) (∃(x3:GlP),tuple #[]=tuple #[]/\RlOut w w'2 g.A x3 (qD g.g g.r) g.hl) (zt w'2 g.A.p 1 fun n1=>zc (n1==0) (∃(x3:GlP),tuple #[]=tuple #[]/\RlOut w w'2 g.A x3 (qD g.g g.r) g.hl) ((∀w11,Drew w'2 w11->zt w'2 g.A.p 4 fun n2=>InR .i64 (n2+(x2.fst:Int))/\zt w'2 g.A.p 0 fun n3=>zc (decide (n2+(x2.fst:Int)>n3)) (zh w11 g.A.p 4 (int .i64 0) fun w12=>∃(g4:GRl), #[pointer (some ⟨g.A.p,0,none⟩)]= #[pointer (some ⟨g4.A.p,0,none⟩)]/\(RlIn w12 g4.A g4.g g4.hl/\fitG g4.g/\g4.g.last=0)/\∀(x3:GlP) w'3,RlOut w12 w'3 g4.A x3 (qc g4.g) g4.hl->∃(c:GlP),rpI g w c w'3 (string x1.fst) (int .i64 (x2.fst:Int))) (∃(c:GlP),rpI g w c w11 (string x1.fst) (int .i64 (x2.fst:Int))))/\∀(u:Nat->Value) (c:GlP) w'3,rpI g w c w'3 (string x1.fst) (int .i64 (x2.fst:Int))->∀w11,Drew w'3 w11->zt w'3 g.A.p 5 fun n2=>zt w'3 g.A.p 0 fun n3=>InR .i64 (n2*n3)/\zt w'3 g.A.p 4 fun n4=>InR .i64 (n2*n3+n4)/\zX w11 .u16 g.A.p 7 fun n5=>∃(g4:GRy), #[pointer (some ⟨g.A.p,0,none⟩),int .i64 (n2*n3+n4),agg #[string x1.fst,int .i8 0,int .i64 0,int .i64 0,bool false,int .u16 n5]]= #[pointer (some ⟨g4.A.p,0,none⟩),int .i64 (g4.i:Int),agg #[string g4.c.t,int .i8 g4.c.p,int .i64 g4.c.a,int .i64 g4.c.n,bool g4.c.r,int .u16 (g4.c.st:Int)]]/\(RlIn w11 g4.A g4.g g4.hl/\fitG g4.g/\zb0 g4.g g4.i/\((zg g4.g.cs g4.i).p=(0:Int)\/(zg g4.g.cs g4.i).p=(1:Int)))/\∀(x3:GlP) w'4,RlOut w11 w'4 g4.A x3 (Qe g4.g g4.i g4.c) g4.hl->zc ((x2.fst:Int)==2) (InR .i64 (n2*n3+n4+1)/\zX w'4 .u16 g.A.p 7 fun n6=>∃(g5:GRy),
 #[pointer (some ⟨g.A.p,0,none⟩),int .i64 (n2*n3+n4+1),agg #[string (ByteArray.mk #[]),int .i8 1,int .i64 0,int .i64 0,bool false,int .u16 n6]]= #[pointer (some ⟨g5.A.p,0,none⟩),int .i64 (g5.i:Int),agg #[string g5.c.t,int .i8 g5.c.p,int .i64 g5.c.a,int .i64 g5.c.n,bool g5.c.r,int .u16 (g5.c.st:Int)]]/\(RlIn w'4 g5.A g5.g g5.hl/\fitG g5.g/\zb0 g5.g g5.i/\((zg g5.g.cs g5.i).p=(0:Int)\/(zg g5.g.cs g5.i).p=(1:Int)))/\∀(x4:GlP) w'5,RlOut w'4 w'5 g5.A x4 (Qe g5.g g5.i g5.c) g5.hl->∀w12,Drew w'5 w12->qL w'5 g.A.p 3 fun a10 n7 c1=>zX w'5 .u16 g.A.p 7 fun n8=>qd (n2*n3+n4) n7 fun k=>zr a10 fun(b2 o:Nat)=>zh w12 b2 (o+k*6) (string x1.fst) fun w13=>zh w13 b2 (o+k*6+1) (int .i8 0) fun w14=>zh w14 b2 (o+k*6+2) (int .i64 0) fun w15=>zh w15 b2 (o+k*6+3) (int .i64 0) fun w16=>zh w16 b2 (o+k*6+4) (bool false) fun w17=>zh w17 b2 (o+k*6+5) (int .u16 n8) fun w18=>zt w18 g.A.p 4 fun n9=>InR .i64 (n9+(x2.fst:Int))/\zh w18 g.A.p 4 (int .i64 (n9+(x2.fst:Int))) fun w19=>zh w19 g.A.p 8 (int .i64 (n2*n3+n4)) fun w110=>∃(x5:GlP),tuple #[]=tuple #[]/\RlOut w w110 g.A x5 (qD g.g g.r) g.hl) (zt w'4 g.A.p 4 fun n6=>InR .i64 (n6+(x2.fst:Int))/\zh w'4 g.A.p 4 (int .i64 (n6+(x2.fst:Int))) fun w12=>zh w12 g.A.p 8 (int .i64 (n2*n3+n4)) fun w13=>∃(x4:GlP),tuple #[]=tuple #[]/\RlOut w w13 g.A x4 (qD g.g g.r) g.hl)))))):znW.Ok Tryz.prog 55:=ze znW zwR zmm (fun _ _=>rfl) (fun _ _=>rfl) hsp Tryz.func55 rfl (n:=2) (fun _=>rfl) (by kernel_rfl) (zl (by kernel_rfl) h)
end
end Go.Proofs.YtjdohhididpomaaGreatDoor
