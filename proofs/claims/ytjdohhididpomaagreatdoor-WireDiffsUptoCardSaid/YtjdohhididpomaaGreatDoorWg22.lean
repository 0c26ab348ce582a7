/-
  Texts joined by program: WkXy, SpXg, VgXg, WkXf, WkXg, SpXq, VgXq.
-/
import Derived.Test.YtjdohhididpomaaGreatDoorWg21
import Derived.Test.YtjdohhididpomaaGreatDoorWg06
import Derived.Test.YtjdohhididpomaaGreatDoorProg
import Derived.KernelRfl
import Derived.Test.YtjdohhididpomaaGreatDoorWg16
import Derived.Test.YtjdohhididpomaaGreatDoorWg17
import Derived.Test.YtjdohhididpomaaGreatDoorWg18
set_option linter.unusedVariables false
set_option linter.unusedSimpArgs false

namespace Go.Proofs.YtjdohhididpomaaGreatDoor
section
open Go Go.RowKit Vc Ut Tb Cl
theorem zvP(g:Gs)(s:ByteArray)(n:Nat):(Ql g s n).stt=g.stt:=rfl
theorem zu6{g:Gs}{r:Int}:(qD g r).stt=g.stt:=by
  unfold qD
  split
  ·rename_i g' hj;exact(zlo hj).1
  ·dsimp only
   split
   ·rfl
   ·rw[zvP]
    split
    ·exact(zeO _).1
    ·rfl
theorem ztg{g:Gs}{r:Int}(h:g.stt=0):(qz g r).stt≠2:=by
  unfold qz
  split
  ·rw[zu6,h];decide
  split
  ·show 1≠2;decide
  split
  ·show g.stt≠2;rw[h];decide
  split
  ·rw[(zeO _).1]
   have:(qu {g with last:=0}).stt=g.stt:=by unfold qu;split<;>rfl
   rw[this,h];decide
  ·show g.stt≠2;rw[h];decide
theorem ztz{g:Gs}{r:Int}:(zL g r).stt=g.stt:=by
  unfold zL
  split
  ·rfl
  split
  ·split<;>rfl
  split
  ·rfl
  split
  ·unfold qu;split<;>rfl
  split<;>rfl
theorem zs2(g:Gs)(r:Int)(f:Bool):∃n a v,qt (zk g) r f={g with num:=n,asked:=a,void:=v}:=by
  unfold qt zk
  split<;>split<;>first|exact⟨_,_,_,rfl⟩|(split<;>first|exact⟨_,_,_,rfl⟩|(split<;>exact⟨_,_,_,rfl⟩))
theorem zv4(g:Gs):hdG (zk g)=if(hdG g).num=[]then {hdG g with num:=[-1]}else hdG g:=by
  unfold zk hdG
  dsimp only
  split<;>rfl
theorem zuW(l:List Int)(r:Int):zcW (l++[r])=zar (zcW l) r:=by
  unfold zcW;rw[List.foldl_append];rfl
theorem zxM{w w3:World}{A:GlP}{g:Gs}{hl:List Int}(h:RlIn w A g hl)(hs:Stored w ⟨A.p,11,none⟩ (.slice none 0 0) w3):RlOut w w3 A {A with na:=none,nc:=0} g []:=by
  have hz3:=hs.size
  have hfo:Fr (own A) w w3:=(Fr.stored hs).mono (fun x _ hx=> .inl hx)
  have hown:∀q,own {A with na:=none,nc:=0} q->own A q:=by
    rintro q (hq|hq|hq)
    ·exact .inl hq
    ·exact .inr (.inl hq)
    ·cases hq
  refine⟨⟨hs.heap h.box,?_,Row.nil _ _ _,fun q hq=>h.bq q (hown q hq),by dsimp only;have:=h.bw;omega,h.u.on (h.below hfo)⟩,rfl,rfl,rfl,hfo,fun q hq=>⟨?_, .inl (hown q hq)⟩⟩
  ·exact h.row.keep fun q hq=>hs.other (by show q≠A.p;rintro rfl;exact h.cp hq)
  ·rw[hz3];exact h.lt q (hown q hq)
theorem zu2{w w2 w3:World}{A:GlP}{g:Gs}{hl l:List Int}{a':Option Addr}{c' n':Nat}(h:RlIn w A g hl)(hn':n'=l.length)(hr:Row w2 21 1 a' n' (l.map (Value.int .i32)) c')(hf:Fr (fun q=>qi A.na=some q) w w2)
    (hnw:∀q,qi a'=some q->qi A.na=some q\/w.heap.size<=q) (hs:Stored w2 ⟨A.p,11,none⟩ (.slice a' n' c') w3):RlOut w w3 A {A with na:=a',nc:=c'} g l:=by
  subst hn'
  have hb2:=(hf.block A.p (zv h.box) h.np).trans h.box
  have hz:=hf.size
  have hz3:=hs.size
  have hpq:qi a'≠some A.p:=QD hr hb2 (by decide)
  have hfo:Fr (own A) w w3:=(hf.mono fun q _ hq=> .inr (.inr hq)).trans (Fr.stored hs) (fun x _ hx=> .inl hx)
  have hr3:Row w3 21 1 a' l.length (l.map (Value.int .i32)) c':=hr.keep fun q hq=>hs.other (by show q≠A.p;rintro rfl;exact hpq hq)
  have hown:∀q,own {A with na:=a',nc:=c'} q->own A q\/w.heap.size<=q:=by
    rintro q (hq|hq|hq)
    ·exact .inl (.inl hq)
    ·exact .inl (.inr (.inl hq))
    ·exact(hnw q hq).elim (fun hh=> .inl (.inr (.inr hh))) .inr
  refine⟨⟨hs.heap hb2,?_,hr3,fun q hq=> ?_,by dsimp only;have:=h.bw;omega,h.u.on (h.below hfo)⟩,rfl,rfl,rfl,hfo,fun q hq=>⟨?_,hown q hq⟩⟩
  ·refine(h.row.keep fun q hq=>hf.block q (h.row.lt hq) (fun hh=>h.cn hh hq)).keep fun q hq=>hs.other (by show q≠A.p;rintro rfl;exact h.cp hq)
  ·rcases hown q hq with hh|hh
   ·exact h.bq q hh
   ·have:=h.bw;dsimp only;omega
  ·rcases hq with rfl|hq|hq
   ·have:=zv h.box;dsimp only;omega
   ·have:=h.row.lt hq;omega
   ·exact hr3.lt hq
theorem zbG{w w':World}{A A1:GlP}{g1 T:Gs}{hl:List Int}{r:Int}{m:Nat}(hO:RlOut w w' A A1 g1 hl)(hk:okG g1 m)(hm:m<=549755813888)(hs:g1.stt=0)(hl2:hl.length<=m)(hT:T=qz g1 r):
    ∃g1:Int, #[Value.int .i32 r]= #[Value.int .i32 g1]/\True/\∀(x:Int) (w'1:World),x=zn g1/\w'1=w'->
     zc (x !=0)
      (∃g2:GRt, #[Value.pointer (some ⟨A.p,0,none⟩),Value.int .i32 r]= #[Value.pointer (some ⟨g2.A.p,0,none⟩),Value.int .i32 g2.r]/\(zdk w'1 g2.A g2.g g2.hl g2.m/\g2.g.stt=0)/\
       ∀(x1:GlP) (w'2:World),RlOut w'1 w'2 g2.A x1 (qD g2.g g2.r) g2.hl->∃x2:GlP×List Int,Value.tuple #[]=Value.tuple #[]/\rkOut w w'2 A x2.1 T x2.2 (m+1))
      (true=true/\(∃old,w'1.cell? ⟨A.p,8,none⟩=some old)/\w'1.frozen? ⟨A.p,8,none⟩=false/\∀w1,Stored w'1 ⟨A.p,8,none⟩ (.int .i64 (-1)) w1->
        zc (r==27)
         (true=true/\(∃old,w1.cell? ⟨A.p,10,none⟩=some old)/\w1.frozen? ⟨A.p,10,none⟩=false/\∀w11,Stored w1 ⟨A.p,10,none⟩ (.int .i64 1) w11->∃x1:GlP×List Int,Value.tuple #[]=Value.tuple #[]/\rkOut w w11 A x1.1 T x1.2 (m+1))
         (zc (r==13)
           (true=true/\(∃old,w1.cell? ⟨A.p,4,none⟩=some old)/\w1.frozen? ⟨A.p,4,none⟩=false/\∀w11,Stored w1 ⟨A.p,4,none⟩ (.int .i64 0) w11->∃x1:GlP×List Int,Value.tuple #[]=Value.tuple #[]/\rkOut w w11 A x1.1 T x1.2 (m+1))
           (zc (r==10)
             (∀w12,Drew w1 w12->∃n3:Int,w1.cell? ⟨A.p,4,none⟩=some (.int .i64 n3)/\∃n4:Int,w1.cell? ⟨A.p,0,none⟩=some (.int .i64 n4)/\InR .i64 (n4 - 1)/\true=true/\(∃old,w12.cell? ⟨A.p,4,none⟩=some old)/\w12.frozen? ⟨A.p,4,none⟩=false/\
              ∀w13,Stored w12 ⟨A.p,4,none⟩ (.int .i64 (if(if(0:Int)>n4 - 1 then(0:Int)else n4 - 1)<n3 then(if(0:Int)>n4 - 1 then(0:Int)else n4 - 1)else n3)) w13->
              ∃g2:GRl, #[Value.pointer (some ⟨A.p,0,none⟩)]= #[Value.pointer (some ⟨g2.A.p,0,none⟩)]/\(RlIn w13 g2.A g2.g g2.hl/\fitG g2.g/\g2.g.last=0)/\∀(x1:GlP) (w'2:World),RlOut w13 w'2 g2.A x1 (qc g2.g) g2.hl->
               ∃x2:GlP×List Int,Value.tuple #[]=Value.tuple #[]/\rkOut w w'2 A x2.1 T x2.2 (m+1))
             (∃x1:GlP×List Int,Value.tuple #[]=Value.tuple #[]/\rkOut w w1 A x1.1 T x1.2 (m+1))))):=by
  subst hT
  have hns:=ztg (r:=r) hs
  have fin:∀{W:World} {A2:GlP} {T:Gs},T=qz g1 r->RlOut w W A A2 T hl->∃x2:GlP×List Int,Value.tuple #[]=Value.tuple #[]/\rkOut w W A x2.1 (qz g1 r) x2.2 (m+1):=
    fun e ho=>⟨(_,hl),rfl,⟨by rw[<-e];exact ho,fun h2=>absurd h2 hns,by dsimp only;omega⟩⟩
  refine⟨r,rfl,trivial,?_⟩
  rintro _ w2 ⟨rfl,hw2⟩
  subst hw2
  have hG:=hO.is
  have hp:A1.p=A.p:=hO.p
  rw[hp.symm]
  have hfr:qz g1 r=if zn r≠0 then qD g1 r else if r=27 then {g1 with last:=0,stt:=1}else if r=13 then {g1 with last:=0,x:=0}else if r=10 then qc (qu {g1 with last:=0})else {g1 with last:=0}:=rfl
  refine zb (fun h=> ?_) (fun h=> ?_)
  ·have h:=bne_iff_ne.1 h
   rw[if_pos h]at hfr
   exact⟨⟨A1,g1,hl,r,m⟩,rfl,⟨⟨hG,hk,hm⟩,hs⟩,fun A3 w3 hO3=>fin hfr.symm (hO.trans hO3)⟩
  have h:=bne_eq_false_iff_eq.1 h
  rw[if_neg (fun hh=>hh h)]at hfr
  refine⟨rfl,hG.old (k:=8) (by decide),hG.free 8,fun w3 hs3=> ?_⟩
  have hO3:=hO.trans (qZ (g':={g1 with last:=0}) hG hs3 rfl rfl)
  have hG3:=hO3.is
  have hk3:=QE hk
  have hw:=hk.w;have hx:=hk.x
  refine zb (fun h1=>⟨rfl,hG3.old (k:=10) (by decide),hG3.free 10,fun w4 hs4=> ?_⟩) (fun h1=>zb (fun h2=>⟨rfl,hG3.old (k:=4) (by decide),hG3.free 4,fun w4 hs4=> ?_⟩) (fun h2=>zb (fun h3=> ?_) (fun h3=> ?_)))
  ·rw[if_pos (beq_iff_eq.1 h1)]at hfr
   exact fin hfr.symm (hO3.trans (qZ (g':={g1 with last:=0,stt:=1}) hG3 hs4 rfl rfl))
  ·rw[if_neg (beq_eq_false_iff_ne.1 h1),if_pos (beq_iff_eq.1 h2)]at hfr
   exact fin hfr.symm (hO3.trans (qZ (g':={g1 with last:=0,x:=0}) hG3 hs4 rfl rfl))
  ·rw[if_neg (beq_eq_false_iff_ne.1 h1),if_neg (beq_eq_false_iff_ne.1 h2),if_pos (beq_iff_eq.1 h3)]at hfr
   intro w4 hd4
   have hG4:=hG3.ext hd4.ext
   have hO4:=hO3.trans (RlOut.ext hG3 hd4.ext)
   have hbk:qu {g1 with last:=0}={g1 with last:=0,x:=if g1.w<=g1.x then g1.w - 1 else g1.x}:=by
     unfold qu
     dsimp only
     split<;>rfl
   have hv:(if(if(0:Int)>(g1.w:Int) - 1 then(0:Int)else(g1.w:Int) - 1)<(g1.x:Int)then(if(0:Int)>(g1.w:Int) - 1 then(0:Int)else(g1.w:Int) - 1)else(g1.x:Int))=(((if g1.w<=g1.x then g1.w - 1 else g1.x:Nat)):Int):=by
     split<;>split<;>split<;>omega
   refine⟨g1.x,(za hG3.box 4).trans rfl,g1.w,(za hG3.box 0).trans rfl,zd (by omega) (by omega),rfl,hG4.old (k:=4) (by decide),hG4.free 4,fun w5 hs5=> ?_⟩
   rw[hv]at hs5
   have hO5:=hO4.trans (qZ (g':={g1 with last:=0,x:=if g1.w<=g1.x then g1.w - 1 else g1.x}) hG4 hs5 rfl rfl)
   have hk5:=zfL hk3 rfl
   rw[hbk]at hk5 hfr
   exact⟨⟨A1,{g1 with last:=0,x:=if g1.w<=g1.x then g1.w - 1 else g1.x},hl⟩,rfl,⟨hO5.is,hk5.fit hm,rfl⟩,fun A6 w6 hO6=>fin hfr.symm (hO5.trans hO6)⟩
  ·rw[if_neg (beq_eq_false_iff_ne.1 h1),if_neg (beq_eq_false_iff_ne.1 h2),if_neg (beq_eq_false_iff_ne.1 h3)]at hfr
   exact fin hfr.symm hO3
set_option maxRecDepth 4000 in
theorem zrQ:zjp.Ok Tryz.prog 40:=by
  refine zrP ⟨zr8,zce,zuZ,zkT,trivial⟩ ?_
  rintro⟨A,g,hl,r,m⟩ w ⟨hG,hk,hm,hhd,hlen⟩
  dsimp only at hG hk hm hhd hlen⊢
  have hF:=hk.fit hm
  have hst:=hk.stt
  have hc10:w.cell? ⟨A.p,10,none⟩=some (.int .i64 g.stt):=(za hG.box 10).trans rfl
  refine⟨g.stt,hc10,zb (fun h1=> ?_) (fun h1=>⟨g.stt,hc10,?_⟩)⟩
  ·have h1:g.stt=1:=by have:=beq_iff_eq.1 h1;omega
   have e:zj g r=if r=91 then {g with stt:=2,num:=[],asked:=false,void:=false}else {g with stt:=0}:=by unfold zj;rw[if_pos h1]
   rw[e]
   refine⟨rfl,hG.old (k:=10) (by decide),hG.free 10,fun w1 hs1=> ?_⟩
   have hO1:=qZ (g':={g with stt:=0}) hG hs1 rfl rfl
   have hG1:=hO1.is
   refine zb (fun h2=> ?_) (fun h2=>⟨(A,hl),rfl,?_⟩)
   ·rw[if_pos (beq_iff_eq.1 h2)]
    refine⟨rfl,hG1.old (k:=10) (by decide),hG1.free 10,fun w2 hs2=> ?_⟩
    have hO2:=hO1.trans (qZ (g':={g with stt:=2}) hG1 hs2 rfl rfl)
    have hG2:=hO2.is
    refine⟨rfl,hG2.old (k:=11) (by decide),hG2.free 11,fun w3 hs3=>⟨({A with na:=none,nc:=0},[]),rfl,?_⟩⟩
    have hO3:=hO2.trans (zxM hG2 hs3)
    exact⟨hO3.hd [] false false,fun _=>rfl,Nat.zero_le _⟩
   ·rw[if_neg (beq_eq_false_iff_ne.1 h2)]
    exact⟨hO1,fun hh=>absurd (show 0=2 from hh) (by decide),by dsimp only;omega⟩
  have h1:g.stt≠1:=by have:=beq_eq_false_iff_ne.1 h1;omega
  have tl:∀{G:Gs},G={g with num:=G.num,asked:=G.asked,void:=G.void,stt:=0}->okG G m->zj g r=qz G r->
   (true=true/\(∃old,w.cell? ⟨A.p,10,none⟩=some old)/\w.frozen? ⟨A.p,10,none⟩=false/\∀w1,Stored w ⟨A.p,10,none⟩ (.int .i64 0) w1->RlOut w w1 A A G hl):=by
    intro G hGe _ _
    refine⟨rfl,hG.old (k:=10) (by decide),hG.free 10,fun w1 hs1=> ?_⟩
    have hO1:=(qZ (g':={g with stt:=0}) hG hs1 rfl rfl).hd G.num G.asked G.void
    rw[hGe]
    exact hO1
  refine zb (fun h2=> ?_) (fun h2=> ?_)
  rotate_left
  ·have h2:g.stt≠2:=by have:=beq_eq_false_iff_ne.1 h2;omega
   have h0:g.stt=0:=by omega
   have e:zj g r=qz g r:=by unfold zj;rw[if_neg h1,if_neg h2]
   have ht:=tl (G:=g) (by rw[<-h0]) hk e
   exact⟨g.stt,hc10,zb (fun h=>absurd (by have:=beq_iff_eq.1 h;omega) h2) (fun _=>⟨ht.1,ht.2.1,ht.2.2.1,fun w1 hs1=>zbG (ht.2.2.2 w1 hs1) hk hm h0 hlen e⟩)⟩
  have h2:g.stt=2:=by have:=beq_iff_eq.1 h2;omega
  have hl0:=hk.sl (by omega)
  have hhd:=hhd h2
  have e:zj g r=if 32<=r/\r<=63 then qt (zk g) r (decide (g.num=[]))else if 64<=r/\r<=126 then zL {zk g with stt:=0} r else qz {zk g with stt:=0} r:=by
    unfold zj;rw[if_neg (by omega),if_pos h2];rfl
  have hkh:=zg4 hk
  have hhf:=zhl g
  have hk0:okG {zk g with stt:=0} m:=zeA hkh (hhf.2.1.trans hl0) (by decide)
  have ehd:({zk g with stt:=0}:Gs)={g with num:=(zk g).num,asked:=(zk g).asked,void:=(zk g).void,stt:=0}:=by
    unfold zk;split<;>rfl
  have tail:¬(32<=r/\r<=63)->¬(64<=r/\r<=126)->(zj g r=qz {zk g with stt:=0} r):=fun k1 k2=>by rw[e,if_neg k1,if_neg k2]
  refine zb (fun h3=>zb (fun h4=> ?_) (fun h4=> ?_)) (fun h3=> ?_)
  ·have h34:32<=r/\r<=63:=⟨of_decide_eq_true h3,of_decide_eq_true h4⟩
   rw[e,if_pos h34]
   refine⟨_,_,_,(za hG.box 11).trans rfl,fun b w1 hn1=> ?_⟩
   have hG1:=hG.ext hn1.ext
   obtain⟨a',c',w2,hrun,hko,hrow,hg,hor,_⟩:=hG.held.pushN (P:=Tryz.prog) (ty:=69) znq (by decide) (m:=1) (news:=[.int .i32 r]) hn1 rfl (by simp[Value.oneCell']) (by unfold maxLen;omega) (.inr (by omega))
   have hz:=hn1.size
   have hfr:Fr (fun q=>qi A.na=some q) w w2:=(Fr.of_ext hn1.ext).trans (Fr.grown hg) (fun x _ hx=>hx)
   have hb2:=(hfr.block A.p (zv hG.box) hG.np).trans hG.box
   refine⟨a',c',w2,hrun,hko,rfl,⟨_,by rw[za hb2];rfl⟩,zB hb2 _,fun w3 hs=>⟨({A with na:=a',nc:=c'},hl++[r]),rfl,?_⟩⟩
   have hO:=zu2 (l:=hl++[r]) hG (by rw[List.length_append];rfl) (by rw[List.map_append];exact hrow) hfr (fun q hq=>by
     rcases hor with rfl|⟨rfl,_⟩
     ·exact .inl hq
     ·right;simp[qi]at hq;omega) hs
   obtain⟨n,a,v,ev⟩:=zs2 g r (decide (g.num=[]))
   refine⟨by rw[ev];exact hO.hd n a v,fun _=> ?_,by dsimp only;rw[List.length_append];show hl.length+1<=_;omega⟩
   dsimp only
   rw[zv0,zuW,<-hhd]
   unfold zar
   rw[zv4]
   rfl
  ·have h34:¬(32<=r/\r<=63):=fun hh=>by have:=of_decide_eq_false h4;exact this hh.2
   refine⟨g.stt,hc10,zb (fun _=>zb (fun h5=>zb (fun h6=> ?_) (fun h6=> ?_)) (fun h5=> ?_)) (fun h=>by rw[h2]at h;cases h)⟩
   ·have h56:64<=r/\r<=126:=⟨of_decide_eq_true h5,of_decide_eq_true h6⟩
    rw[e,if_neg h34,if_pos h56]
    refine⟨rfl,hG.old (k:=10) (by decide),hG.free 10,fun w1 hs1=> ?_⟩
    have hO1:=qZ (g':={g with stt:=0}) hG hs1 rfl rfl
    have hF0:fitG {g with stt:=0}:=⟨hF.w,hF.h,hF.len,hF.x,hF.y,hF.sty,hF.st,hF.num,hF.numl,hF.last⟩
    refine⟨⟨A,{g with stt:=0},hl,r⟩,rfl,⟨hO1.is,hF0,by dsimp only;omega⟩,fun A2 w2 hO2=>⟨(A2,hl),rfl,?_⟩⟩
    have eG:zk (gH {g with stt:=0} hl)={zk g with stt:=0}:=by
      have:gH {g with stt:=0} hl={g with stt:=0}:=by
        unfold gH
        rw[<-hhd];rfl
      rw[this]
      unfold zk
      dsimp only
      split<;>rfl
    dsimp only at hO2
    rw[eG]at hO2
    exact⟨hO1.trans hO2,fun hh=>by rw[ztz]at hh;exact absurd (show 0=2 from hh) (by decide),by dsimp only;omega⟩
   ·have h56:¬(64<=r/\r<=126):=fun hh=>of_decide_eq_false h6 hh.2
    have ht:=tl ehd hk0 (tail h34 h56)
    exact⟨ht.1,ht.2.1,ht.2.2.1,fun w1 hs1=>zbG (ht.2.2.2 w1 hs1) hk0 hm rfl hlen (tail h34 h56)⟩
   ·have h56:¬(64<=r/\r<=126):=fun hh=>of_decide_eq_false h5 hh.1
    have ht:=tl ehd hk0 (tail h34 h56)
    exact⟨ht.1,ht.2.1,ht.2.2.1,fun w1 hs1=>zbG (ht.2.2.2 w1 hs1) hk0 hm rfl hlen (tail h34 h56)⟩
  ·have h34:¬(32<=r/\r<=63):=fun hh=>of_decide_eq_false h3 hh.1
   refine⟨g.stt,hc10,zb (fun _=>zb (fun h5=>absurd (of_decide_eq_true h5) (by have:=of_decide_eq_false h3;omega)) (fun h5=> ?_)) (fun h=>by rw[h2]at h;cases h)⟩
   have h56:¬(64<=r/\r<=126):=fun hh=>of_decide_eq_false h5 hh.1
   have ht:=tl ehd hk0 (tail h34 h56)
   exact⟨ht.1,ht.2.1,ht.2.2.1,fun w1 hs1=>zbG (ht.2.2.2 w1 hs1) hk0 hm rfl hlen (tail h34 h56)⟩
end

section
open Go Go.RowKit Vc Ut Tb Cl
structure GHf where
  a1:Option Addr
  c1:Nat
  g1:Gr
  a2:Option Addr
  c2:Nat
  g2:Gr
  i:Nat
def zn5:CallSpec where
  G:=GHf
  args:=fun g=> #[ZT g.a1 g.c1 g.g1,ZT g.a2 g.c2 g.g2, .int .i64 g.i]
  pre:=fun g w=>qb w g.a1 g.g1.cs/\qb w g.a2 g.g2.cs/\g.g1.cs.length=g.g2.cs.length/\g.i<g.g2.cs.length
  X:=Bool
  res:=fun x=> .bool x
  post:=fun g w x w'=>x=zcs g.g1.cs g.g2.cs g.i/\Ext w w'
def zmx:List (Nat×CallSpec):=[(30,QC)]
structure GDf where
  a1:Option Addr
  c1:Nat
  g1:Gr
  a2:Option Addr
  c2:Nat
  g2:Gr
  wd:Bool
def zxH(cs:List Ce):Prop:=∀c∈cs,c.st<65536
def zlS(a b:Gr):Prop:=zi a.cs<=1048576/\zi b.cs<=1048576/\zxH b.cs
def zkG:CallSpec where
  G:=GDf
  args:=fun g=> #[ZT g.a1 g.c1 g.g1,ZT g.a2 g.c2 g.g2, .bool g.wd]
  pre:=fun g w=>UDB w.heap.size w/\P10 w.heap.size w/\qb w g.a1 g.g1.cs/\qb w g.a2 g.g2.cs/\zlS g.g1 g.g2
  X:=Option Addr×Nat×Nat
  res:=fun x=> .slice x.1 x.2.1 x.2.2
  post:=fun g w x w'=>Made w w' 5 1 x.1 x.2.1 (zu ((Zb g.g1 g.g2 g.wd).getD ⟨#[]⟩)) x.2.2
def zmB:List (Nat×CallSpec):=[(9,Q7),(11,zbE),(34,zkA),(35,zrI),(30,QC),(36,zn5),(37,znV),(38,zkE)]
def boxG(w:World)(b:Nat)(ad:Option Addr)(c:Nat)(g:Gr):Prop:=w.heap[b]? =some (.cells #[.int .i64 g.w, .int .i64 g.h, .slice ad g.cs.length c, .int .i64 g.x, .int .i64 g.y] 24)
def dfI(g:GDf)(w00:World)(x:TeP×Nat×Nat)(t:Te)(w:World):Prop:=
  TeIn w x.1 t/\x.1.B=w00.heap.size/\Below w00.heap.size w00 w/\boxG w x.2.1 g.a1 g.c1 g.g1/\boxG w x.2.2 g.a2 g.c2 g.g2/\w00.heap.size<=x.2.1/\w00.heap.size<=x.2.2
def zw5(g:GDf)(w00:World):Ann where
  sp:=zmB
  cuts:=[(1,1,{X:=Unit,sh:=fun _ _=>[(7, .bool (zm g.g1 g.wd))],inv:=fun _ w0 _ w=>Ext w0 w}),(2,3,{X:=Unit,sh:=fun _ _=>[],inv:=fun _ w0 _ w=>Ext w0 w/\zm g.g2 g.wd=true/\(zm g.g1 g.wd&&qa g.g1 g.g2)=false}),
    (6,6,{X:=Unit,sh:=fun _ _=>[(7, .bool (zI g.g1 g.g2 g.wd))],inv:=fun _ w0 _ w=>w=w0/\zm g.g2 g.wd=true}),
    (7,8,{X:=TeP×Nat×Nat,sh:=fun _ x=>[(3, .pointer (some ⟨x.2.1,0,none⟩)),(4, .pointer (some ⟨x.2.2,0,none⟩)),(8, .pointer (some ⟨x.1.q,0,none⟩))],inv:=fun _ _ x w=>dfI g w00 x (Qy (zI g.g1 g.g2 g.wd) g.g2 g.wd) w/\zm g.g2 g.wd=true})]
  loops:=[(10,{
    X:=Nat×TeP×Nat×Nat
    sh:=fun _ x=>[(56, .int .i64 x.1),(3, .pointer (some ⟨x.2.2.1,0,none⟩)),(4, .pointer (some ⟨x.2.2.2,0,none⟩)),(8, .pointer (some ⟨x.2.1.q,0,none⟩))]
    inv:=fun _ _ x w=>x.1<=g.g2.cs.length/\dfI g w00 x.2 (qB (zI g.g1 g.g2 g.wd) g.g1.cs g.g2.cs (Qy (zI g.g1 g.g2 g.wd) g.g2 g.wd) x.1) w
    mu:=fun _ _ x _=>g.g2.cs.length - x.1})]
end

section
set_option linter.unusedVariables false
open Go Go.RowKit Vc Ut Tb Cl
open Value
set_option maxRecDepth 1000000
theorem zv5(hsp:zf Tryz.prog zmx)(h:∀(g:GHf) (w:World),qb w g.a1 g.g1.cs/\qb w g.a2 g.g2.cs/\g.g1.cs.length=g.g2.cs.length/\g.i<g.g2.cs.length->∀b w1,New w (Obj.cells #[int .i64 g.g1.w,int .i64 g.g1.h,slice g.a1 g.g1.cs.length g.c1,int .i64 g.g1.x,int .i64 g.g1.y] 24) b w1->∀b1 w11,New w1 (Obj.cells #[int .i64 g.g2.w,int .i64 g.g2.h,slice g.a2 g.g2.cs.length g.c2,int .i64 g.g2.x,int .i64 g.g2.y] 24) b1 w11->∀w12,Drew w11 w12->InR .i64 ((g.i:Int)+1)/\qL w11 b1 2 fun a4 n c=>zc (decide ((g.i:Int)+1<(n:Int))) (qL w11 b1 2 fun a5 n1 c1=>InR .i64 ((g.i:Int)+1)/\qd ((g.i:Int)+1) n1 fun k=>zr a5 fun(b2 o:Nat)=>zX w11 .i8 b2 (o+k*6+1) fun n2=>zc (n2==1) (qL w11 b 2 fun a6 n3 c2=>InR .i64 ((g.i:Int)+1)/\qd ((g.i:Int)+1) n3 fun k1=>zr a6 fun(b3 o1:Nat)=>LdT w11 b3 (o1+k1*6) fun s=>zX w11 .i8 b3 (o1+k1*6+1) fun n4=>zt w11 b3 (o1+k1*6+2) fun n5=>zt w11 b3 (o1+k1*6+3) fun n6=>ZG w11 b3 (o1+k1*6+4) fun b4=>zX w11 .u16 b3 (o1+k1*6+5) fun n7=>qL w11 b1 2 fun a7 n8 c3=>InR .i64 ((g.i:Int)+1)/\qd ((g.i:Int)+1) n8 fun k2=>zr a7 fun(b5 o2:Nat)=>LdT w11 b5 (o2+k2*6) fun s1=>zX w11 .i8 b5 (o2+k2*6+1) fun n9=>zt w11 b5 (o2+k2*6+2) fun n10=>zt w11 b5 (o2+k2*6+3) fun n11=>ZG w11 b5 (o2+k2*6+4) fun b6=>zX w11 .u16 b5 (o2+k2*6+5) fun n12=>∃(g1:Ce×Ce), #[agg #[string s,int .i8 n4,int .i64 n5,int .i64 n6,bool b4,int .u16 n7],agg #[string s1,int .i8 n9,int .i64 n10,int .i64 n11,bool b6,int .u16 n12]]= #[agg #[string g1.fst.t,int .i8 g1.fst.p,int .i64 g1.fst.a,int .i64 g1.fst.n,bool g1.fst.r,int .u16 (g1.fst.st:Int)],agg #[string g1.snd.t,int .i8 g1.snd.p,int .i64 g1.snd.a,int .i64 g1.snd.n,bool g1.snd.r,int .u16 (g1.snd.st:Int)]]/\True/\∀(x:Bool) w',x=qm g1.fst g1.snd/\Ext w12 w'->∃(x1:Bool),(bool !x)=bool x1/\x1=zcs g.g1.cs g.g2.cs g.i/\Ext w w') (∃(x:Bool),bool false=bool x/\x=zcs g.g1.cs g.g2.cs g.i/\Ext w w12)) (∃(x:Bool),bool false=bool x/\x=zcs g.g1.cs g.g2.cs g.i/\Ext w w12)):zn5.Ok Tryz.prog 36:=ze zn5 (zP zmx) zmx (fun _ _=>rfl) (fun _ _=>rfl) hsp Tryz.func36 rfl (n:=3) (fun _=>rfl) (by kernel_rfl) (zl (by kernel_rfl) h)
theorem zwp(hsp:zf Tryz.prog zmB)(h:∀(g:GDf) (w:World),UDB w.heap.size w/\P10 w.heap.size w/\qb w g.a1 g.g1.cs/\qb w g.a2 g.g2.cs/\zlS g.g1 g.g2->∀b w1,New w (Obj.cells #[int .i64 g.g1.w,int .i64 g.g1.h,slice g.a1 g.g1.cs.length g.c1,int .i64 g.g1.x,int .i64 g.g1.y] 24) b w1->∀b1 w11,New w1 (Obj.cells #[int .i64 g.g2.w,int .i64 g.g2.h,slice g.a2 g.g2.cs.length g.c2,int .i64 g.g2.x,int .i64 g.g2.y] 24) b1 w11->(LdG w11 b fun n n1 a3 n2 c n3 n4=>∃(g1:GGr), #[agg #[int .i64 n,int .i64 n1,slice a3 n2 c,int .i64 n3,int .i64 n4],bool g.wd]= #[ZT g1.ad g1.c g1.g,bool g1.wd]/\(UD w11/\qb w11 g1.ad g1.g.cs)/\∀(x:Bool) w',x=zm g1.g g1.wd/\Ext w11 w'->∃(c1:Unit),bool x=bool (zm g.g1 g.wd)/\Ext w11 w')/\∀(u:Nat->Value) (c:Unit) w',Ext w11 w'->(LdG w' b1 fun n n1 a4 n2 c1 n3 n4=>∃(g1:GGr), #[agg #[int .i64 n,int .i64 n1,slice a4 n2 c1,int .i64 n3,int .i64 n4],bool g.wd]= #[ZT g1.ad g1.c g1.g,bool g1.wd]/\(UD w'/\qb w' g1.ad g1.g.cs)/\∀(x:Bool) w'1,x=zm g1.g g1.wd/\Ext w' w'1->zc (!x) (∃(x1:Option Addr×Nat×Nat),slice none 0 0=slice x1.fst x1.snd.fst x1.snd.snd/\Made w w'1 (5:TypeId) 1 x1.fst x1.snd.fst (zu ((Zb g.g1 g.g2 g.wd).getD (ByteArray.mk #[]))) x1.snd.snd) (zc (zm g.g1 g.wd) (LdG w'1 b fun n5 n6 a6 n7 c2 n8 n9=>LdG w'1 b1 fun n10 n11 a7 n12 c3 n13 n14=>∃(g2:GGg), #[agg #[int .i64 n5,int .i64 n6,slice a6 n7 c2,int .i64 n8,int .i64 n9],agg #[int .i64 n10,int .i64 n11,slice a7 n12 c3,int .i64 n13,int .i64 n14]]= #[ZT g2.a1 g2.c1 g2.g1,ZT g2.a2 g2.c2 g2.g2]/\(qb w'1 g2.a1 g2.g1.cs/\qb w'1 g2.a2 g2.g2.cs)/\∀(x1:Bool) w'2,x1=qa g2.g1 g2.g2/\Ext w'1 w'2->zc x1 (∃(x2:Option Addr×Nat×Nat),slice none 0 0=slice x2.fst x2.snd.fst x2.snd.snd/\Made w w'2 (5:TypeId) 1 x2.fst x2.snd.fst (zu ((Zb g.g1 g.g2 g.wd).getD (ByteArray.mk #[]))) x2.snd.snd) (∃(c4:Unit),Ext w' w'2/\zm g.g2 g.wd=true/\(zm g.g1 g.wd&&qa g.g1 g.g2)=false)) (∃(c2:Unit),Ext w' w'1/\zm g.g2 g.wd=true/\(zm g.g1 g.wd&&qa g.g1 g.g2)=false)))/\∀(u1:Nat->Value) (c1:Unit) w'1,Ext w' w'1/\zm g.g2 g.wd=true/\(zm g.g1 g.wd&&qa g.g1 g.g2)=false->zt w'1 b1 0 fun n=>∀b2 w12,New w'1 (Obj.cells #[slice none 0 0,int .i64 (-1:Int),string (ByteArray.mk #[]),int .u16 0,int .i64 n,bool g.wd] 74) b2 w12->∃(g1:GMove), #[pointer (some ⟨b2,0,none⟩),int .u16 0]= #[pointer (some ⟨g1.p.q,0,none⟩),int .u16 (g1.i:Int)]/\(TeIn w12 g1.p g1.t/\g1.i<65536/\g1.t.b.size<=536870912)/\∀(x:TeP) w'2,TeOut w12 w'2 g1.p x (Qo g1.t g1.i)->zc (zm g.g1 g.wd) (zt w'2 b 0 fun n1=>zt w'2 b1 0 fun n2=>zc (n1==n2) (zt w'2 b 1 fun n3=>zt w'2 b1 1 fun n4=>∃(c2:Unit),bool (n3==n4)=bool (zI g.g1 g.g2 g.wd)/\w'2=w'2/\zm g.g2 g.wd=true)
 (∃(c2:Unit),bool false=bool (zI g.g1 g.g2 g.wd)/\w'2=w'2/\zm g.g2 g.wd=true)) (∃(c2:Unit),bool false=bool (zI g.g1 g.g2 g.wd)/\w'2=w'2/\zm g.g2 g.wd=true)/\∀(u2:Nat->Value) (c2:Unit) w'3,w'3=w'2/\zm g.g2 g.wd=true->zc (!zI g.g1 g.g2 g.wd) (∀b3 w13,New w'3 (Obj.cells #[int .i64 2] 3) b3 w13->∃(g2:GSay), #[pointer (some ⟨b2,0,none⟩),int .u8 74,slice (some ⟨b3,0,none⟩) 1 1]= #[pointer (some ⟨g2.p.q,0,none⟩),int .u8 (g2.c.toNat:Int),slice g2.la g2.l.length g2.lc]/\(TeIn w13 g2.p g2.t/\Row w13 (3:TypeId) 1 g2.la g2.l.length (List.map (int IntKind.i64) g2.l) g2.lc/\g2.t.b.size<=536870912/\g2.l.length<=16/\∀(n1:Int),n1∈g2.l->(-9223372036854775808:Int)<=n1/\n1<=9223372036854775807)/\∀(x1:TeP) w'4,TeOut w13 w'4 g2.p x1 (zhS g2.t g2.c g2.l)->∃(c3:TeP×Nat×Nat),pointer (some ⟨b,0,none⟩)=pointer (some ⟨c3.snd.fst,0,none⟩)/\pointer (some ⟨b1,0,none⟩)=pointer (some ⟨c3.snd.snd,0,none⟩)/\pointer (some ⟨b2,0,none⟩)=pointer (some ⟨c3.fst.q,0,none⟩)/\dfI g w c3 (Qy (zI g.g1 g.g2 g.wd) g.g2 g.wd) w'4/\zm g.g2 g.wd=true) (∃(c3:TeP×Nat×Nat),pointer (some ⟨b,0,none⟩)=pointer (some ⟨c3.snd.fst,0,none⟩)/\pointer (some ⟨b1,0,none⟩)=pointer (some ⟨c3.snd.snd,0,none⟩)/\pointer (some ⟨b2,0,none⟩)=pointer (some ⟨c3.fst.q,0,none⟩)/\dfI g w c3 (Qy (zI g.g1 g.g2 g.wd) g.g2 g.wd) w'3/\zm g.g2 g.wd=true)/\∀(u3:Nat->Value) (c3:TeP×Nat×Nat) w'4,dfI g w c3 (Qy (zI g.g1 g.g2 g.wd) g.g2 g.wd) w'4/\zm g.g2 g.wd=true->qL w'4 c3.snd.snd 2 fun a9 n1 c4=>(∃(x1:Nat×TeP×Nat×Nat),int .i64 0=int .i64 (x1.fst:Int)/\pointer (some ⟨c3.snd.fst,0,none⟩)=pointer (some ⟨x1.snd.snd.fst,0,none⟩)/\pointer (some ⟨c3.snd.snd,0,none⟩)=pointer (some ⟨x1.snd.snd.snd,0,none⟩)/\pointer (some ⟨c3.fst.q,0,none⟩)=pointer (some ⟨x1.snd.fst.q,0,none⟩)/\x1.fst<=g.g2.cs.length/\dfI g w x1.snd (qB (zI g.g1 g.g2 g.wd) g.g1.cs g.g2.cs (Qy (zI g.g1 g.g2 g.wd) g.g2 g.wd) x1.fst) w'4)/\∀(u4:Nat->Value) (x1:Nat×TeP×Nat×Nat) w'5,x1.fst<=g.g2.cs.length/\dfI g w x1.snd (qB (zI g.g1 g.g2 g.wd) g.g1.cs g.g2.cs (Qy (zI g.g1 g.g2 g.wd) g.g2 g.wd) x1.fst) w'5->zc (decide ((x1.fst:Int)<(n1:Int))) (qd (x1.fst:Int) n1 fun k=>zr a9 fun(b3 o:Nat)=>LdT w'5 b3 (o+k*6) fun s=>zX w'5 .i8 b3 (o+k*6+1) fun n2=>zt w'5 b3 (o+k*6+2) fun n3=>zt w'5 b3 (o+k*6+3) fun n4=>ZG w'5 b3 (o+k*6+4) fun b4=>zX w'5 .u16 b3 (o+k*6+5) fun n5=>∀b5 w13,New w'5 (Obj.cells #[string (ByteArray.mk #[]),int .i8 0,int .i64 0,int .i64 0,bool false,int .u16 0] 52) b5 w13->zh w13 b5 0 (string s) fun w14=>zh w14 b5 1 (int .i8 n2) fun w15=>zh w15 b5 2 (int .i64 n3) fun w16=>zh w16 b5 3 (int .i64 n4) fun w17=>zh w17 b5 4 (bool b4) fun w18=>zh w18 b5 5 (int .u16 n5) fun w19=>
 ∀w110,Drew w19 w110->zX w19 .i8 b5 1 fun n6=>zc (n6==0) (zc (!zI g.g1 g.g2 g.wd) (LdT w110 b5 0 fun s1=>zX w110 .i8 b5 1 fun n7=>zt w110 b5 2 fun n8=>zt w110 b5 3 fun n9=>ZG w110 b5 4 fun b6=>zX w110 .u16 b5 5 fun n10=>∃(g2:GTell), #[pointer (some ⟨x1.snd.fst.q,0,none⟩),int .i64 (x1.fst:Int),agg #[string s1,int .i8 n7,int .i64 n8,int .i64 n9,bool b6,int .u16 n10]]= #[pointer (some ⟨g2.p.q,0,none⟩),int .i64 (g2.i:Int),agg #[string g2.c.t,int .i8 g2.c.p,int .i64 g2.c.a,int .i64 g2.c.n,bool g2.c.r,int .u16 (g2.c.st:Int)]]/\(TeIn w110 g2.p g2.t/\teOk g2.t/\g2.i<=1048576/\g2.c.st<65536/\g2.t.b.size<=536000000/\g2.c.t.size<=16777216/\g2.t.last.size<=16777216)/\∀(x2:TeP) w'6,TeOut w110 w'6 g2.p x2 (QA g2.t (g2.i:Int) g2.c)->InR .i64 ((x1.fst:Int)+1)/\∃(y:Nat×TeP×Nat×Nat),int .i64 ((x1.fst:Int)+1)=int .i64 (y.fst:Int)/\pointer (some ⟨x1.snd.snd.fst,0,none⟩)=pointer (some ⟨y.snd.snd.fst,0,none⟩)/\pointer (some ⟨x1.snd.snd.snd,0,none⟩)=pointer (some ⟨y.snd.snd.snd,0,none⟩)/\pointer (some ⟨x1.snd.fst.q,0,none⟩)=pointer (some ⟨y.snd.fst.q,0,none⟩)/\(y.fst<=g.g2.cs.length/\dfI g w y.snd (qB (zI g.g1 g.g2 g.wd) g.g1.cs g.g2.cs (Qy (zI g.g1 g.g2 g.wd) g.g2 g.wd) y.fst) w'6)/\g.g2.cs.length - y.fst<g.g2.cs.length - x1.fst) (qL w19 x1.snd.snd.fst 2 fun a19 n7 c5=>qd (x1.fst:Int) n7 fun k1=>zr a19 fun(b6 o1:Nat)=>LdT w19 b6 (o1+k1*6) fun s1=>zX w19 .i8 b6 (o1+k1*6+1) fun n8=>zt w19 b6 (o1+k1*6+2) fun n9=>zt w19 b6 (o1+k1*6+3) fun n10=>ZG w19 b6 (o1+k1*6+4) fun b7=>zX w19 .u16 b6 (o1+k1*6+5) fun n11=>LdT w19 b5 0 fun s2=>zX w19 .i8 b5 1 fun n12=>zt w19 b5 2 fun n13=>zt w19 b5 3 fun n14=>ZG w19 b5 4 fun b8=>zX w19 .u16 b5 5 fun n15=>∃(g2:Ce×Ce), #[agg #[string s1,int .i8 n8,int .i64 n9,int .i64 n10,bool b7,int .u16 n11],agg #[string s2,int .i8 n12,int .i64 n13,int .i64 n14,bool b8,int .u16 n15]]= #[agg #[string g2.fst.t,int .i8 g2.fst.p,int .i64 g2.fst.a,int .i64 g2.fst.n,bool g2.fst.r,int .u16 (g2.fst.st:Int)],agg #[string g2.snd.t,int .i8 g2.snd.p,int .i64 g2.snd.a,int .i64 g2.snd.n,bool g2.snd.r,int .u16 (g2.snd.st:Int)]]/\True/\∀(x2:Bool) w'6,x2=qm g2.fst g2.snd/\Ext w110 w'6->zc (!x2) (LdT w'6 b5 0 fun s3=>zX w'6 .i8 b5 1 fun n16=>zt w'6 b5 2 fun n17=>zt w'6 b5 3 fun n18=>ZG w'6 b5 4 fun b9=>zX w'6 .u16 b5 5 fun n19=>∃(g3:GTell), #[pointer (some ⟨x1.snd.fst.q,0,none⟩),int .i64 (x1.fst:Int),agg #[string s3,int .i8 n16,int .i64 n17,int .i64 n18,bool b9,int .u16 n19]]= #[pointer (some ⟨g3.p.q,0,none⟩),int .i64 (g3.i:Int),agg #[string g3.c.t,int .i8 g3.c.p,int .i64 g3.c.a,int .i64 g3.c.n,bool g3.c.r,int .u16 (g3.c.st:Int)]]/\(TeIn w'6 g3.p g3.t/\teOk g3.t/\g3.i<=1048576/\g3.c.st<65536/\
 g3.t.b.size<=536000000/\g3.c.t.size<=16777216/\g3.t.last.size<=16777216)/\∀(x3:TeP) w'7,TeOut w'6 w'7 g3.p x3 (QA g3.t (g3.i:Int) g3.c)->InR .i64 ((x1.fst:Int)+1)/\∃(y:Nat×TeP×Nat×Nat),int .i64 ((x1.fst:Int)+1)=int .i64 (y.fst:Int)/\pointer (some ⟨x1.snd.snd.fst,0,none⟩)=pointer (some ⟨y.snd.snd.fst,0,none⟩)/\pointer (some ⟨x1.snd.snd.snd,0,none⟩)=pointer (some ⟨y.snd.snd.snd,0,none⟩)/\pointer (some ⟨x1.snd.fst.q,0,none⟩)=pointer (some ⟨y.snd.fst.q,0,none⟩)/\(y.fst<=g.g2.cs.length/\dfI g w y.snd (qB (zI g.g1 g.g2 g.wd) g.g1.cs g.g2.cs (Qy (zI g.g1 g.g2 g.wd) g.g2 g.wd) y.fst) w'7)/\g.g2.cs.length - y.fst<g.g2.cs.length - x1.fst) (LdG w'6 x1.snd.snd.fst fun n16 n17 a21 n18 c6 n19 n20=>LdG w'6 x1.snd.snd.snd fun n21 n22 a22 n23 c7 n24 n25=>∃(g3:GHf), #[agg #[int .i64 n16,int .i64 n17,slice a21 n18 c6,int .i64 n19,int .i64 n20],agg #[int .i64 n21,int .i64 n22,slice a22 n23 c7,int .i64 n24,int .i64 n25],int .i64 (x1.fst:Int)]= #[ZT g3.a1 g3.c1 g3.g1,ZT g3.a2 g3.c2 g3.g2,int .i64 (g3.i:Int)]/\(qb w'6 g3.a1 g3.g1.cs/\qb w'6 g3.a2 g3.g2.cs/\g3.g1.cs.length=g3.g2.cs.length/\g3.i<g3.g2.cs.length)/\∀(x3:Bool) w'7,x3=zcs g3.g1.cs g3.g2.cs g3.i/\Ext w'6 w'7->zc x3 (LdT w'7 b5 0 fun s3=>zX w'7 .i8 b5 1 fun n26=>zt w'7 b5 2 fun n27=>zt w'7 b5 3 fun n28=>ZG w'7 b5 4 fun b9=>zX w'7 .u16 b5 5 fun n29=>∃(g4:GTell), #[pointer (some ⟨x1.snd.fst.q,0,none⟩),int .i64 (x1.fst:Int),agg #[string s3,int .i8 n26,int .i64 n27,int .i64 n28,bool b9,int .u16 n29]]= #[pointer (some ⟨g4.p.q,0,none⟩),int .i64 (g4.i:Int),agg #[string g4.c.t,int .i8 g4.c.p,int .i64 g4.c.a,int .i64 g4.c.n,bool g4.c.r,int .u16 (g4.c.st:Int)]]/\(TeIn w'7 g4.p g4.t/\teOk g4.t/\g4.i<=1048576/\g4.c.st<65536/\g4.t.b.size<=536000000/\g4.c.t.size<=16777216/\g4.t.last.size<=16777216)/\∀(x4:TeP) w'8,TeOut w'7 w'8 g4.p x4 (QA g4.t (g4.i:Int) g4.c)->InR .i64 ((x1.fst:Int)+1)/\∃(y:Nat×TeP×Nat×Nat),int .i64 ((x1.fst:Int)+1)=int .i64 (y.fst:Int)/\pointer (some ⟨x1.snd.snd.fst,0,none⟩)=pointer (some ⟨y.snd.snd.fst,0,none⟩)/\pointer (some ⟨x1.snd.snd.snd,0,none⟩)=pointer (some ⟨y.snd.snd.snd,0,none⟩)/\pointer (some ⟨x1.snd.fst.q,0,none⟩)=pointer (some ⟨y.snd.fst.q,0,none⟩)/\(y.fst<=g.g2.cs.length/\dfI g w y.snd (qB (zI g.g1 g.g2 g.wd) g.g1.cs g.g2.cs (Qy (zI g.g1 g.g2 g.wd) g.g2 g.wd) y.fst) w'8)/\g.g2.cs.length - y.fst<g.g2.cs.length - x1.fst) (InR .i64 ((x1.fst:Int)+1)/\∃(y:Nat×TeP×Nat×Nat),int .i64 ((x1.fst:Int)+1)=int .i64 (y.fst:Int)/\pointer (some ⟨x1.snd.snd.fst,0,none⟩)=pointer (some ⟨y.snd.snd.fst,0,none⟩)/\pointer (some ⟨x1.snd.snd.snd,0,none⟩)=pointer (some ⟨y.snd.snd.snd,0,none⟩)/\pointer (some ⟨x1.snd.fst.q,0,none⟩)=pointer (some ⟨y.snd.fst.q,0,none⟩)/\(y.fst<=g.g2.cs.length/\
 dfI g w y.snd (qB (zI g.g1 g.g2 g.wd) g.g1.cs g.g2.cs (Qy (zI g.g1 g.g2 g.wd) g.g2 g.wd) y.fst) w'7)/\g.g2.cs.length - y.fst<g.g2.cs.length - x1.fst)))) (InR .i64 ((x1.fst:Int)+1)/\∃(y:Nat×TeP×Nat×Nat),int .i64 ((x1.fst:Int)+1)=int .i64 (y.fst:Int)/\pointer (some ⟨x1.snd.snd.fst,0,none⟩)=pointer (some ⟨y.snd.snd.fst,0,none⟩)/\pointer (some ⟨x1.snd.snd.snd,0,none⟩)=pointer (some ⟨y.snd.snd.snd,0,none⟩)/\pointer (some ⟨x1.snd.fst.q,0,none⟩)=pointer (some ⟨y.snd.fst.q,0,none⟩)/\(y.fst<=g.g2.cs.length/\dfI g w y.snd (qB (zI g.g1 g.g2 g.wd) g.g1.cs g.g2.cs (Qy (zI g.g1 g.g2 g.wd) g.g2 g.wd) y.fst) w110)/\g.g2.cs.length - y.fst<g.g2.cs.length - x1.fst)) (zt w'5 x1.snd.snd.snd 3 fun n2=>zc (decide (n2<0)) (qL w'5 x1.snd.fst.q 0 fun a11 n3 c5=>∃(a':Option Addr) (c':Nat) (w'6:World),zA Tryz.prog #[40,9] 40 (slice a11 n3 c5) (string (ByteArray.mk #[(27:UInt8),(91:UInt8),(63:UInt8),(50:UInt8),(53:UInt8),(108:UInt8)])) w'5 a' (n3+(ByteArray.mk #[(27:UInt8),(91:UInt8),(63:UInt8),(50:UInt8),(53:UInt8),(108:UInt8)]).size) c' w'6/\KO w'5 w'6/\zh w'6 x1.snd.fst.q 0 (slice a' (n3+(ByteArray.mk #[(27:UInt8),(91:UInt8),(63:UInt8),(50:UInt8),(53:UInt8),(108:UInt8)]).size) c') fun w13=>qL w13 x1.snd.fst.q 0 fun a13 n4 c6=>∃(x2:Option Addr×Nat×Nat),slice a13 n4 c6=slice x2.fst x2.snd.fst x2.snd.snd/\Made w w13 (5:TypeId) 1 x2.fst x2.snd.fst (zu ((Zb g.g1 g.g2 g.wd).getD (ByteArray.mk #[]))) x2.snd.snd) (qL w'5 x1.snd.fst.q 0 fun a11 n3 c5=>∃(a':Option Addr) (c':Nat) (w'6:World),zA Tryz.prog #[40,9] 40 (slice a11 n3 c5) (string (ByteArray.mk #[(27:UInt8),(91:UInt8),(63:UInt8),(50:UInt8),(53:UInt8),(104:UInt8)])) w'5 a' (n3+(ByteArray.mk #[(27:UInt8),(91:UInt8),(63:UInt8),(50:UInt8),(53:UInt8),(104:UInt8)]).size) c' w'6/\KO w'5 w'6/\zh w'6 x1.snd.fst.q 0 (slice a' (n3+(ByteArray.mk #[(27:UInt8),(91:UInt8),(63:UInt8),(50:UInt8),(53:UInt8),(104:UInt8)]).size) c') fun w13=>∀w14,Drew w13 w14->zt w13 x1.snd.snd.snd 4 fun n4=>zt w13 x1.snd.fst.q 4 fun n5=>InR .i64 (n4*n5)/\zt w13 x1.snd.snd.snd 3 fun n6=>InR .i64 (n4*n5+n6)/\∃(g2:GMove), #[pointer (some ⟨x1.snd.fst.q,0,none⟩),int .i64 (n4*n5+n6)]= #[pointer (some ⟨g2.p.q,0,none⟩),int .i64 (g2.i:Int)]/\(TeIn w14 g2.p g2.t/\teOk g2.t/\g2.i<=1048576/\g2.t.b.size<=536870912)/\∀(x2:TeP) w'7,TeOut w14 w'7 g2.p x2 (Qt g2.t (g2.i:Int))->qL w'7 x1.snd.fst.q 0 fun a15 n7 c6=>∃(x3:Option Addr×Nat×Nat),slice a15 n7 c6=slice x3.fst x3.snd.fst x3.snd.snd/\
 Made w w'7 (5:TypeId) 1 x3.fst x3.snd.fst (zu ((Zb g.g1 g.g2 g.wd).getD (ByteArray.mk #[]))) x3.snd.snd))):zkG.Ok Tryz.prog 18:=ze zkG zw5 zmB (fun _ _=>rfl) (fun _ _=>rfl) hsp Tryz.func18 rfl (n:=3) (fun _=>rfl) (by kernel_rfl) (zl (by kernel_rfl) h)
end

section
open Go Go.RowKit Vc Ut Tb Cl
theorem zjl{c:UInt8}{l:List Int}(h:∀n∈l, -9223372036854775808<=n/\n<=9223372036854775807):(zbd c l).size<=3+22*l.length:=by
  have:=zg8 l true h
  unfold zbd
  rw[ByteArray.size_append,ByteArray.size_append]
  show 2+_+1<=_
  omega
theorem zyk{t:Te}(h:teOk t){i:Nat}(hi:i<=1048576):0<=(i:Int) / t.w/\(i:Int) / t.w<=1048576/\0<=(i:Int)%t.w/\(i:Int)%t.w<1024:=by
  obtain⟨h0,h1,_⟩:=h
  have hq:(i:Int) / t.w<=(i:Int):=Int.ediv_le_self _ (by omega)
  have hq0:0<=(i:Int) / t.w:=Int.ediv_nonneg (by omega) (by omega)
  have hr0:0<=(i:Int)%t.w:=Int.emod_nonneg _ (by omega)
  have hr1:(i:Int)%t.w<t.w:=Int.emod_lt_of_pos _ h0
  omega
theorem zlf{t:Te}(h:teOk t){i:Nat}(hi:i<=1048576):(Qt t i).b.size<=t.b.size+47:=by
  have hb:=zyk h hi
  have:=zjl (c:=72) (l:=[(i:Int) / t.w+1,(i:Int)%t.w+1]) (by
    intro n hn
    simp only[List.mem_cons,List.not_mem_nil,or_false]at hn
    rcases hn with rfl|rfl<;>omega)
  show(t.b++zbd 72 [(i:Int) / t.w+1,(i:Int)%t.w+1]).size<=_
  rw[ByteArray.size_append]
  simp only[List.length_cons,List.length_nil]at this
  omega
theorem zka{t:Te}{st:Nat}(hs:st<65536):(Qo t st).b.size<=t.b.size+245:=by
  have hl:=zhZ st
  have:=zjl (c:=109) (l:=qU st) (fun n hn=>by have:=zkb hs n hn;omega)
  show(t.b++zbd 109 (qU st)).size<=_
  rw[ByteArray.size_append]
  omega
theorem teOk.te1{t:Te}(h:teOk t)(i:Int):teOk (te1 t i):=by unfold Go.Proofs.YtjdohhididpomaaGreatDoor.te1;split<;>exact h
theorem teOk.te2{t:Te}(h:teOk t){st:Nat}(hs:st<65536):teOk (te2 t st):=by unfold Go.Proofs.YtjdohhididpomaaGreatDoor.te2;split<;>first|exact⟨h.1,h.2.1,hs⟩|exact h
theorem teOk.te3{t:Te}(h:teOk t)(i:Int)(s:ByteArray):teOk (te3 t i s):=by unfold Go.Proofs.YtjdohhididpomaaGreatDoor.te3;split<;>exact h
theorem znR{t:Te}(h:teOk t){i:Nat}(hi:i<=1048576):(te1 t i).b.size<=t.b.size+47:=by
  unfold te1;split
  ·exact zlf h hi
  ·omega
theorem znQ{t:Te}{st:Nat}(hs:st<65536):(te2 t st).b.size<=t.b.size+245:=by
  unfold te2;split
  ·exact zka hs
  ·omega
theorem znP{t:Te}(h:teOk t){i:Nat}(hi:i<=1048576)(s:ByteArray):(te3 t i s).b.size<=t.b.size+47:=by
  unfold te3;split
  ·exact zlf h hi
  ·omega
theorem zrj{t:Te}(i:Int):(te1 t i).last.size<=t.last.size:=by unfold te1;split<;>first|exact Nat.zero_le _|exact Nat.le_refl _
theorem zri{t:Te}(st:Nat):(te2 t st).last.size<=t.last.size:=by unfold te2;split<;>first|exact Nat.zero_le _|exact Nat.le_refl _
theorem zxc(t:Te)(i:Int):(te1 t i).w=t.w/\(te1 t i).wd=t.wd:=by unfold te1;split<;>exact⟨rfl,rfl⟩
theorem zxb(t:Te)(st:Nat):(te2 t st).w=t.w/\(te2 t st).wd=t.wd:=by unfold te2;split<;>exact⟨rfl,rfl⟩
theorem zxa(t:Te)(i:Int)(s:ByteArray):(te3 t i s).w=t.w/\(te3 t i s).wd=t.wd:=by unfold te3;split<;>exact⟨rfl,rfl⟩
theorem zxY(s:ByteArray):QM s<=s.size:=by
  by_cases h:s.size=0
  ·unfold QM;rw[if_pos h];omega
  ·have h0:(0:Nat)<s.size:=by omega
   have:=za8 (s:=s) (i:=0) h0
   have e:=(zbK (s:=s) (n:=0) (by show 0<_;omega)).2
   rw[show pos s 0=0 from rfl,ByteArray.extract_zero_size]at e
   omega
theorem zkm(s:ByteArray):Lib.strCells s=zu s:=rfl
theorem znC{w w':World}{p p':TeP}{t t':Te}{b:Nat}{cs:Array Value}(hb:w.heap[b]? =some (.cells cs 52))(ht:TeIn w p t)(h:TeOut w w' p p' t'):w'.heap[b]? =some (.cells cs 52):=by
  refine h.kp.oth b _ hb (fun hh=> ?_) (fun c fz hh=>by injection hh with _ h2;exact absurd h2 (by decide))
  cases hh
  rw[ht.box]at hb
  injection hb with h2
  injection h2 with _ h3
  exact absurd h3 (by decide)
theorem zxz:Tryz.prog.underlying 9=some .string:=by kernel_rfl
theorem ziU{w:World}{p:TeP}{t:Te}(h:TeIn w p t)(s:ByteArray)(hsz:t.b.size+s.size<=1073741824){K:Option Addr->Nat->World->Prop}
    (hK:∀a' c' w2,zA Tryz.prog #[40,9] 40 (.slice p.ad t.b.size p.c) (.string s) w a' (t.b.size+s.size) c' w2->KO w w2->(∃old,w2.cell? ⟨p.q,0,none⟩=some old)->w2.frozen? ⟨p.q,0,none⟩=false->
      (∀w3,Stored w2 ⟨p.q,0,none⟩ (.slice a' (t.b.size+s.size) c') w3->TeOut w w3 p ⟨p.B,p.q,a',c'⟩ (teB t (t.b++s)))->K a' c' w2):∃a' c' w2,K a' c' w2:=by
  obtain⟨a',c',w2,hrun,hko,hrow,hg,hor⟩:=h.row.pushStr (P:=Tryz.prog) (ty:=40) zhu zxz s (by omega)
  have hk:Kp p.B none w w2:=Kp.grown h.row hg h.bw h.bad
  obtain⟨o1,o2⟩:=hk.old h 0 (by decide)
  rw[zkm,<-Q9]at hrow
  refine⟨a',c',w2,hK a' c' w2 hrun hko o1 o2 fun w3 hs=>zmi h hk (by rw[ByteArray.size_append]) hrow (ziM h.bw h.bad hor) hs⟩
set_option maxRecDepth 2000 in
theorem zuK:znV.Ok Tryz.prog 37:=by
  refine zuJ ⟨zdA,zoo,znJ,zjM,ziI,zcF,trivial⟩ ?_
  rintro⟨p,t,i,c⟩ w ⟨hT,hok,hi,hst,hsz,hcs,hls⟩ b w1 hn
  dsimp only at hT hok hi hst hsz hcs hls hn⊢
  have hce:=Z5 hn.heap
  have hts:=zby c
  unfold QA
  refine hce.load ⟨c,rfl,trivial,?_⟩
  rintro x w2 ⟨rfl,e12⟩
  have e02:=Ext.trans hn.ext e12
  have hT2:=hT.ext e02
  have hO2:TeOut w w2 p p t:=TeOut.ext hT e02
  have hb2:=e12.heap hn.heap
  refine⟨⟨_,by rw[za hT2.box];rfl,zb (fun h=> ?_) (fun h=> ?_)⟩,?_⟩
  ·have h:=bne_iff_ne.1 h
   refine⟨⟨p,t,i⟩,rfl,⟨hT2,hok,hi,by dsimp only;omega⟩,?_⟩
   intro p3 w3 hO3
   refine⟨(p3,b),rfl,?_,znC hb2 hT2 hO3⟩
   have e:te1 t i=Qt t i:=by unfold te1;rw[if_pos h]
   rw[e];exact hO2.trans hO3
  ·have h:=bne_eq_false_iff_eq.1 h
   refine⟨(p,b),rfl,?_,hb2⟩
   have e:te1 t i=t:=by unfold te1;rw[if_neg (fun hh=>hh h)]
   rw[e];exact hO2
  have hok1:=hok.te1 i
  have hl1:=znR hok hi
  have hla1:=zrj (t:=t) i
  have hw1:=zxc t i
  generalize te1 t i=t1 at*
  rintro _ ⟨⟨B3,q3,a3,c3⟩,b3⟩ w3 ⟨hO3,hb3⟩
  obtain rfl:B3=p.B:=hO3.b
  obtain rfl:q3=p.q:=hO3.q
  dsimp only at hO3 hb3⊢
  have hce3:=Z5 hb3
  have hst3:w3.cell? ⟨p.q,3,none⟩=some (.int .u16 t1.st):=(za hO3.is.box 3).trans rfl
  refine⟨?_,?_⟩
  ·intro w4 hd
   have hO4:=hO3.trans (TeOut.ext hO3.is hd.ext)
   have hb4:=Ext.heap hd.ext hb3
   refine⟨_,hst3,_,hce3.2.2.2.2.2,zb (fun h=> ?_) (fun h=> ?_)⟩
   ·have h:t1.st≠c.st:=by have:=bne_iff_ne.1 h;omega
    refine⟨_,(hce3.ext hd.ext).2.2.2.2.2,⟨⟨p.B,p.q,a3,c3⟩,t1,c.st⟩,rfl,⟨hO4.is,hst,by dsimp only;omega⟩,?_⟩
    intro p5 w5 hO5
    refine⟨(p5,b3),rfl,?_,znC hb4 hO4.is hO5⟩
    have e:te2 t1 c.st=Qo t1 c.st:=by unfold te2;rw[if_pos h]
    rw[e];exact hO4.trans hO5
   ·have h:t1.st=c.st:=by have:=bne_eq_false_iff_eq.1 h;omega
    refine⟨(⟨p.B,p.q,a3,c3⟩,b3),rfl,?_,hb4⟩
    have e:te2 t1 c.st=t1:=by unfold te2;rw[if_neg (fun hh=>hh h)]
    rw[e];exact hO4
  have hok2:=hok1.te2 hst
  have hl2:=znQ (t:=t1) hst
  have hla2:=zri (t:=t1) c.st
  have hw2:=zxb t1 c.st
  clear hO3 hb3 hce3 hst3 hO2 hT2 hb2 hce
  generalize te2 t1 c.st=t2 at*
  rintro _ ⟨⟨B5,q5,a5,c5⟩,b5⟩ w5 ⟨hO5,hb5⟩
  obtain rfl:B5=p.B:=hO5.b
  obtain rfl:q5=p.q:=hO5.q
  dsimp only at hO5 hb5⊢
  refine⟨?_,?_⟩
  ·refine⟨zM c,rfl,⟨hO5.is.ud.1,by omega⟩,?_⟩
   rintro⟨r,n⟩ w6 ⟨_,hn6,e56⟩ w7 hd
   dsimp only at hn6⊢
   have hO6:=hO5.trans (TeOut.ext hO5.is e56)
   have hO7:=hO6.trans (TeOut.ext hO6.is hd.ext)
   have hb7:=Ext.heap hd.ext (e56.heap hb5)
   have hnl:=zxY (zM c)
   have hla:w6.cell? ⟨p.q,2,none⟩=some (.string t2.last):=(za hO6.is.box 2).trans rfl
   refine⟨_,hla,?_⟩
   try dsimp only
   rw[QR]
   have hz:(t2.last++(zM c).extract 0 n).size<=67108864:=by rw[ByteArray.size_append,zS (by omega)];omega
   refine zb (fun h=>⟨_,hla,n,rfl,Nat.zero_le _,by omega,by rw[ByteArray.size_append]at hz;omega,_,rfl,⟨hO7.is.ud.1,hz⟩,?_⟩) (fun h=>⟨(⟨p.B,p.q,a5,c5⟩,b5),rfl,?_,hb7⟩)
   ·have h:t2.last.size≠0:=by simpa using h
    rintro k w8 ⟨hk,e78⟩
    have hO8:=hO7.trans (TeOut.ext hO7.is e78)
    have hb8:=e78.heap hb7
    refine zb (fun h1=>⟨⟨⟨p.B,p.q,a5,c5⟩,t2,i⟩,rfl,⟨hO8.is,hok2,hi,by dsimp only;omega⟩,?_⟩) (fun h1=>⟨(⟨p.B,p.q,a5,c5⟩,b5),rfl,?_,hb8⟩)
    ·intro p9 w9 hO9
     refine⟨(p9,b5),rfl,?_,znC hb8 hO8.is hO9⟩
     have e:te3 t2 i (zM c)=Qt t2 i:=by
       unfold te3 zeJ
       rw[if_pos]
       rw[<-hn6,<-hk,decide_eq_true h,decide_eq_true (by rw[beq_iff_eq]at h1;omega)];rfl
     rw[e];exact hO8.trans hO9
    ·have e:te3 t2 i (zM c)=t2:=by
       unfold te3 zeJ
       rw[if_neg]
       rw[<-hn6,<-hk,decide_eq_false (p:=k=1) (by rw[beq_eq_false_iff_ne]at h1;omega),Bool.and_false];decide
     rw[e];exact hO8
   ·have h:¬t2.last.size≠0:=by simpa using h
    have e:te3 t2 i (zM c)=t2:=by
      unfold te3 zeJ
      rw[if_neg]
      rw[decide_eq_false h,Bool.false_and];decide
    rw[e];exact hO7
  have hok3:=hok2.te3 i (zM c)
  have hl3:=znP hok2 hi (zM c)
  have hw3:=zxa t2 i (zM c)
  clear hO5 hb5
  generalize te3 t2 i (zM c)=t3 at*
  rintro _ ⟨⟨B8,q8,a8,c8⟩,b8⟩ w8 ⟨hO8,_⟩
  obtain rfl:B8=p.B:=hO8.b
  obtain rfl:q8=p.q:=hO8.q
  dsimp only at hO8⊢
  have hc8:w8.cell? ⟨p.q,0,none⟩=some (.slice a8 t3.b.size c8):=(za hO8.is.box 0).trans rfl
  have hpn:=zof (zM c) t3.wd
  refine⟨_,_,_,hc8,ziU hO8.is (zM c) (by omega) fun a' c' w9 hrun hko h1 h2 hst=>⟨hrun,hko,rfl,h1,h2,fun w10 hs=> ?_⟩⟩
  have hO10:=hO8.trans (hst w10 hs)
  refine⟨rfl,hO10.is.old (k:=2) (by decide),hO10.is.free 2,fun w11 hs11=> ?_⟩
  have hO11:=hO10.trans (zek (t':=⟨t3.b++zM c,t3.ps,zM c,t3.st,t3.w,t3.wd⟩) hO10.is hs11 rfl rfl)
  refine⟨_,(za hO11.is.box 5).trans rfl,(zM c,t3.wd),rfl,⟨hO11.is.ud,by dsimp only;omega⟩,?_⟩
  rintro n w12 ⟨hn12,e1112⟩
  dsimp only at hn12
  have hO12:=hO11.trans (TeOut.ext hO11.is e1112)
  refine⟨zd (by omega) (by omega),rfl,hO12.is.old (k:=1) (by decide),hO12.is.free 1,fun w13 hs13=> ?_⟩
  have hO13:=hO12.trans (zek (t':=⟨t3.b++zM c,(i:Int)+(n:Int),zM c,t3.st,t3.w,t3.wd⟩) hO12.is hs13 rfl rfl)
  intro w14 hd
  have hO14:=hO13.trans (TeOut.ext hO13.is hd.ext)
  refine⟨(i:Int)+(n:Int),(za hO13.is.box 1).trans rfl,t3.w,(za hO13.is.box 4).trans rfl,by omega,hok3.1,zb (fun h=>⟨rfl,hO14.is.old (k:=1) (by decide),hO14.is.free 1,fun w15 hs15=>⟨⟨p.B,p.q,a',c'⟩,rfl,?_⟩⟩) (fun h=>⟨⟨p.B,p.q,a',c'⟩,rfl,?_⟩)⟩
  ·have h:((i:Int)+(n:Int))%t3.w=0:=beq_iff_eq.1 h
   have e:te4 t3 i (zM c)=⟨t3.b++zM c, -1,zM c,t3.st,t3.w,t3.wd⟩:=by
     unfold te4;rw[<-hn12,if_pos h]
   rw[e]
   exact hO14.trans (zek hO14.is hs15 rfl rfl)
  ·have h:¬((i:Int)+(n:Int))%t3.w=0:=by rw[beq_eq_false_iff_ne]at h;exact h
   have e:te4 t3 i (zM c)=⟨t3.b++zM c,(i:Int)+(n:Int),zM c,t3.st,t3.w,t3.wd⟩:=by
     unfold te4;rw[<-hn12,if_neg h]
   rw[e];exact hO14
end

section
open Go Go.RowKit Vc Ut Tb Cl
theorem zv6:zn5.Ok Tryz.prog 36:=by
  refine zv5 ⟨zeU,trivial⟩ ?_
  rintro⟨a1,c1,g1,a2,c2,g2,i⟩ w ⟨⟨hc1,hb1⟩,⟨hc2,hb2⟩,hlen,hi⟩ b w1 hn1 b2 w2 hn2 w3 hd
  dsimp only at hc1 hb1 hc2 hb2 hlen hi hn1 hn2⊢
  have hg1:=(ZR hn1.heap).ext hn2.ext
  have hg2:=ZR hn2.heap
  have e02:=Ext.trans hn1.ext hn2.ext
  have e03:=Ext.trans e02 hd.ext
  have hl:=bulk_len g2.cs
  have hH:∀h:i+1<g2.cs.length,zcs g1.cs g2.cs i=((zg g2.cs (i+1)).p==1&& !qm (zg g1.cs (i+1)) (zg g2.cs (i+1))):=fun h=>by
    unfold zcs;rw[decide_eq_true h,Bool.true_and]
  refine⟨zd (by omega) (by omega),_,_,_,hg2.cs,zb (fun h=> ?_) (fun h=>⟨_,rfl,?_,e03⟩)⟩
  rotate_left
  ·have h:=of_decide_eq_false h
   unfold zcs;rw[decide_eq_false (by omega)];rfl
  have h1:i+1<g2.cs.length:=by have:=of_decide_eq_true h;omega
  refine⟨_,_,_,hg2.cs,zd (by omega) (by omega),i+1,rfl,h1,(hc2.ext e02).ce h1 fun b4 o4 hce=>⟨_,hce.2.1,zb (fun k1=>⟨_,_,_,hg1.cs,zd (by omega) (by omega),i+1,rfl,by omega,(hc1.ext e02).ce (by omega) fun b5 o5 hd5=>hd5.load ⟨_,_,_,hg2.cs,zd (by omega) (by omega),i+1,rfl,h1,(hc2.ext e02).ce h1 fun b6 o6 hd6=>hd6.load ⟨(zg g1.cs (i+1),zg g2.cs (i+1)),rfl,trivial,?_⟩⟩⟩) (fun k1=>⟨_,rfl,?_,e03⟩)⟩⟩
  ·rintro x w4 ⟨hx,e34⟩
   exact⟨_,rfl,by rw[hH h1,k1,hx];rfl,Ext.trans e03 e34⟩
  ·rw[hH h1,k1];rfl
theorem zze(kn:Bool)(b:Gr)(wd:Bool):(Qy kn b wd).w=b.w/\(Qy kn b wd).wd=wd/\(Qy kn b wd).last.size=0/\(Qy kn b wd).st=0:=by
  cases kn<;>exact⟨rfl,rfl,rfl,rfl⟩
theorem zoX(kn:Bool)(b:Gr)(wd:Bool):(Qy kn b wd).b.size<=400:=by
  have h1:=zka (t:=⟨⟨#[]⟩, -1,⟨#[]⟩,0,b.w,wd⟩) (st:=0) (by decide)
  have h2:=zjl (c:=74) (l:=[2]) (by intro n hn;simp at hn;omega)
  have h1:(Qo ⟨⟨#[]⟩, -1,⟨#[]⟩,0,b.w,wd⟩ 0).b.size<=0+245:=h1
  cases kn
  ·show((Qo ⟨⟨#[]⟩, -1,⟨#[]⟩,0,b.w,wd⟩ 0).b++zbd 74 [2]).size<=400
   rw[ByteArray.size_append]
   simp only[List.length_cons,List.length_nil]at h2
   omega
  ·show(Qo ⟨⟨#[]⟩, -1,⟨#[]⟩,0,b.w,wd⟩ 0).b.size<=400
   omega
theorem zrg{t:Te}(h:teOk t){i:Nat}(hi:i<=1048576){c:Ce}(hs:c.st<65536):teOk (QA t i c)/\(QA t i c).b.size<=t.b.size+340+c.t.size/\(QA t i c).last=zM c/\(QA t i c).w=t.w/\(QA t i c).wd=t.wd:=by
  have h1:=h.te1 i
  have h2:=h1.te2 hs
  have h3:=h2.te3 i (zM c)
  have l1:=znR h hi
  have l2:=znQ (t:=te1 t i) hs
  have l3:=znP h2 hi (zM c)
  have w1:=zxc t i
  have w2:=zxb (te1 t i) c.st
  have w3:=zxa (te2 (te1 t i) c.st) i (zM c)
  have ht:=zby c
  refine⟨h3,?_,rfl,?_,?_⟩
  ·show((te3 (te2 (te1 t i) c.st) i (zM c)).b++zM c).size<=_
   rw[ByteArray.size_append];omega
  ·show(te3 (te2 (te1 t i) c.st) i (zM c)).w=_
   rw[w3.1,w2.1,w1.1]
  ·show(te3 (te2 (te1 t i) c.st) i (zM c)).wd=_
   rw[w3.2,w2.2,w1.2]
theorem zxt{cs:List Ce}(h:zxH cs){i:Nat}(hi:i<cs.length):(zg cs i).st<65536:=by
  rw[zbW hi];exact h _ (List.getElem_mem hi)
theorem zjO{kn:Bool}{a b:List Ce}{t:Te}(ht:teOk t)(hs:zxH b)(hl:b.length<=1048576)(h0:t.last.size=0):∀i,i<=b.length->teOk (qB kn a b t i)/\(qB kn a b t i).b.size<=t.b.size+340*i+zi (b.take i)/\(qB kn a b t i).last.size<=1+zi b/\(qB kn a b t i).w=t.w/\(qB kn a b t i).wd=t.wd
  |0,_=>⟨ht,by show t.b.size<=_;omega,by show t.last.size<=_;omega,rfl,rfl⟩
  |i+1,hi=>by
   obtain⟨h1,h2,h3,h4,h5⟩:=zjO ht hs hl h0 (kn:=kn) (a:=a) i (by omega)
   have hb:zi (b.take (i+1))=zi (b.take i)+(1+(zg b i).t.size):=by
     rw[zdC hi,zd9,zaB];rfl
   have hba:=zcS b hi
   simp only[qB]
   split
   ·obtain⟨k1,k2,k3,k4,k5⟩:=zrg h1 (i:=i) (by omega) (c:=zg b i) (zxt hs hi)
    refine⟨k1,Nat.le_trans k2 (by omega),?_,k4.trans h4,k5.trans h5⟩
    rw[k3]
    have:=zby (zg b i)
    omega
   ·exact⟨h1,by omega,h3,h4,h5⟩
theorem boxG.gr{w:World}{b:Nat}{ad:Option Addr}{c:Nat}{g:Gr}(h:boxG w b ad c g):GrB w b ad c g:=ZR h
theorem boxG.kp{w w':World}{p p':TeP}{t t':Te}{b:Nat}{ad:Option Addr}{c:Nat}{g:Gr}(hb:boxG w b ad c g)(ht:TeIn w p t)(h:TeOut w w' p p' t'):boxG w' b ad c g:=by
  unfold boxG at hb⊢
  refine h.kp.oth b _ hb (fun hh=> ?_) (fun c fz hh=>by injection hh with _ h2;exact absurd h2 (by decide))
  cases hh
  rw[ht.box]at hb
  injection hb with h2
  injection h2 with _ h3
  exact absurd h3 (by decide)
theorem dfI.out{g:GDf}{w00:World}{p p':TeP}{b1 b2:Nat}{t t':Te}{w w':World}(h:dfI g w00 (p,b1,b2) t w)(ho:TeOut w w' p p' t'):dfI g w00 (p',b1,b2) t' w':=by
  obtain⟨h1,h2,h3,h4,h5,h6,h7⟩:=h
  dsimp only at h1 h2 h4 h5 h6 h7
  refine⟨ho.is,by dsimp only;rw[ho.b,h2],Below.trans h3 ?_,h4.kp h1 ho,h5.kp h1 ho,h6,h7⟩
  have:=ho.kp.below;rw[h2]at this;exact this
theorem dfI.ext{g:GDf}{w00:World}{p:TeP}{b1 b2:Nat}{t:Te}{w w':World}(h:dfI g w00 (p,b1,b2) t w)(hx:Ext w w'):dfI g w00 (p,b1,b2) t w':=h.out (TeOut.ext h.1 hx)
set_option maxRecDepth 4000 in
theorem zoP:zkG.Ok Tryz.prog 18:=by
  refine zwp ⟨zia,zky,znJ,zmK,zeU,zv6,zuK,zoo,trivial⟩ ?_
  rintro⟨a1,c1,g1,a2,c2,g2,wd⟩ w ⟨hU,hP,⟨hc1,hb1⟩,⟨hc2,hb2⟩,⟨hk1,hk2,hst⟩⟩ b1 w1 hn1 b2 w2 hn2
  dsimp only at hU hP hc1 hb1 hc2 hb2 hk1 hk2 hst hn1 hn2⊢
  have hx1:boxG w2 b1 a1 c1 g1:=hn2.ext.heap hn1.heap
  have hx2:boxG w2 b2 a2 c2 g2:=hn2.heap
  have e02:=Ext.trans hn1.ext hn2.ext
  have z1:=hn1.size;have z2:=hn2.size
  have hll:=bulk_len g2.cs
  refine⟨hx1.gr.load ⟨⟨a1,c1,g1,wd⟩,rfl,⟨hU _ e02,hc1.ext e02,hb1⟩,?_⟩,?_⟩
  ·rintro x w3 ⟨hx,e23⟩
   exact⟨(),by rw[hx],e23⟩
  rintro _ _ w3 e23
  have hx13:boxG w3 b1 a1 c1 g1:=e23.heap hx1
  have hx23:boxG w3 b2 a2 c2 g2:=e23.heap hx2
  have e03:=Ext.trans e02 e23
  refine⟨hx23.gr.load ⟨⟨a2,c2,g2,wd⟩,rfl,⟨hU _ e03,hc2.ext e03,hb2⟩,?_⟩,?_⟩
  ·rintro x w4 ⟨hx,e34⟩
   dsimp only at hx
   have e04:=Ext.trans e03 e34
   refine zb (fun h=>⟨(none,0,0),rfl,?_⟩) (fun h=> ?_)
   ·have hd:Zb g1 g2 wd=none:=by unfold Zb;rw[if_pos (.inl (by rw[<-hx];simpa using h))]
    rw[hd]
    exact(Made.nil w _ _).later e04
   have hr2:zm g2 wd=true:=by rw[<-hx];simpa using h
   have h14:boxG w4 b1 a1 c1 g1:=e34.heap hx13
   have h24:boxG w4 b2 a2 c2 g2:=e34.heap hx23
   refine zb (fun h1=>h14.gr.load (h24.gr.load ⟨⟨a1,c1,g1,a2,c2,g2⟩,rfl,⟨⟨hc1.ext e04,hb1⟩,hc2.ext e04,hb2⟩,?_⟩)) (fun h1=>⟨(),e34,hr2,by rw[h1];rfl⟩)
   rintro y w5 ⟨hy,e45⟩
   dsimp only at hy
   refine zb (fun h2=>⟨(none,0,0),rfl,?_⟩) (fun h2=>⟨(),Ext.trans e34 e45,hr2,by rw[<-hy,h2,Bool.and_false]⟩)
   have hd:Zb g1 g2 wd=none:=by unfold Zb;rw[if_pos (.inr ⟨h1,by rw[<-hy];exact h2⟩)]
   rw[hd]
   exact(Made.nil w _ _).later (Ext.trans e04 e45)
  rintro _ _ w4 ⟨e34,hr2,hns⟩
  have e04:=Ext.trans e03 e34
  have hx14:boxG w4 b1 a1 c1 g1:=e34.heap hx13
  have hx24:boxG w4 b2 a2 c2 g2:=e34.heap hx23
  obtain⟨r1,r2,r3,r4,r5,r6,r7⟩:=ZY hr2
  have hdf:Zb g1 g2 wd=some (zlE (qB (zI g1 g2 wd) g1.cs g2.cs (Qy (zI g1 g2 wd) g2 wd) g2.cs.length) g2).b:=by
    unfold Zb
    rw[if_neg]
    rintro(h|⟨h,h'⟩)
    ·rw[hr2]at h;cases h
    ·rw[h,h']at hns;cases hns
  rw[hdf]
  clear hdf hns
  refine⟨_,hx24.gr.w,?_⟩
  intro q w5 hn5
  have e05:=Ext.trans e04 hn5.ext
  have z5:=hn5.size
  have s02:=e02.size;have s24:=e23.size;have s34:=e34.size
  have hT5:TeIn w5 ⟨w.heap.size,q,none,0⟩ ⟨⟨#[]⟩, -1,⟨#[]⟩,0,g2.w,wd⟩:=by
    refine⟨hn5.heap,Row.nil _ _ _,by dsimp only;omega,(fun g hg=>by cases hg),e05.size,hP.on e05,hU.on e05⟩
  refine⟨⟨⟨w.heap.size,q,none,0⟩,⟨⟨#[]⟩, -1,⟨#[]⟩,0,g2.w,wd⟩,0⟩,rfl,⟨hT5,by show 0<65536;decide,by show 0<=536870912;decide⟩,?_⟩
  rintro⟨B6,q6,a6,c6⟩ w6 hO6
  obtain rfl:B6=w.heap.size:=hO6.b
  obtain rfl:q6=q:=hO6.q
  dsimp only at hO6⊢
  have hx15:boxG w5 b1 a1 c1 g1:=hn5.ext.heap hx14
  have hx25:boxG w5 b2 a2 c2 g2:=hn5.ext.heap hx24
  have hD6:dfI ⟨a1,c1,g1,a2,c2,g2,wd⟩ w (⟨w.heap.size,q6,a6,c6⟩,b1,b2) (Qo ⟨⟨#[]⟩, -1,⟨#[]⟩,0,g2.w,wd⟩ 0) w6:=
    dfI.out (t:=⟨⟨#[]⟩, -1,⟨#[]⟩,0,g2.w,wd⟩) ⟨hT5,rfl,e05,hx15,hx25,by dsimp only;omega,by dsimp only;omega⟩ hO6
  have hx16:=hx15.kp hT5 hO6
  have hx26:=hx25.kp hT5 hO6
  refine⟨?_,?_⟩
  ·refine zb (fun h=>⟨_,hx16.gr.w,_,hx26.gr.w,zb (fun h1=>⟨_,hx16.gr.h,_,hx26.gr.h,(),?_,rfl,hr2⟩) (fun h1=>⟨(),?_,rfl,hr2⟩)⟩) (fun h=>⟨(),?_,rfl,hr2⟩)
   ·unfold zI;rw[h,h1];rfl
   ·unfold zI;rw[h,h1];rfl
   ·unfold zI;rw[h];rfl
  rintro _ _ w6' ⟨hw6,_⟩
  replace hw6:=hw6.symm;subst hw6
  have hknl:zI g1 g2 wd=true->g1.cs.length=g2.cs.length:=by
    intro h
    unfold zI at h
    simp only[Bool.and_eq_true,beq_iff_eq]at h
    have:=(ZY h.1).2.2.2.2.1
    rw[h.2.1,h.2.2]at this;omega
  generalize hkn:zI g1 g2 wd=kn at*
  have hbw:=zze kn g2 wd
  have hbl:=zoX kn g2 wd
  refine⟨zb (fun h=> ?_) (fun h=>⟨(⟨w.heap.size,q6,a6,c6⟩,b1,b2),rfl,rfl,rfl,?_,hr2⟩),?_⟩
  ·have h:kn=false:=by simpa using h
   intro b7 w7 hn7
   have hm:=Made.box (s:=1) (n:=1) hn7 (Ext.refl _) rfl (by unfold maxLen;decide)
   have hD7:=hD6.ext hn7.ext
   refine⟨⟨⟨w.heap.size,q6,a6,c6⟩,_,74,some ⟨b7,0,none⟩,1,[2]⟩,rfl,⟨hD7.1,hm.row,?_,by show 1<=16;decide,?_⟩,?_⟩
   ·have:=zoX true g2 wd
    show(Qo ⟨⟨#[]⟩, -1,⟨#[]⟩,0,g2.w,wd⟩ 0).b.size<=_
    have h2:(Qy true g2 wd).b.size=(Qo ⟨⟨#[]⟩, -1,⟨#[]⟩,0,g2.w,wd⟩ 0).b.size:=rfl
    omega
   ·intro n hn;simp at hn;omega
   rintro⟨B8,q8,a8,c8⟩ w8 hO8
   obtain rfl:B8=w.heap.size:=hO8.b
   obtain rfl:q8=q6:=hO8.q
   subst h
   exact⟨(⟨w.heap.size,q8,a8,c8⟩,b1,b2),rfl,rfl,rfl,hD7.out hO8,hr2⟩
  ·have h:kn=true:=by simpa using h
   subst h
   exact hD6
  clear hD6 hO6 hT5 hx16 hx26 hx15 hx25 hx14 hx24 hx13 hx23 hx1 hx2 e02 e23 e03 e34 e04 e05 hn5 hn1 hn2 z1 z2 z5 s02 s24 s34
  generalize Qy kn g2 wd=t0 at*
  have hok:0<g2.w->teOk t0:=fun h=>⟨by rw[hbw.1];exact h,by rw[hbw.1];exact r2,by rw[hbw.2.2.2];decide⟩
  rintro _ ⟨⟨B9,q9,a9,c9⟩,b1',b2'⟩ w9 ⟨hD9,_⟩
  refine⟨_,_,_,hD9.2.2.2.2.1.gr.cs,⟨(0,⟨B9,q9,a9,c9⟩,b1',b2'),rfl,rfl,rfl,rfl,Nat.zero_le _,hD9⟩,?_⟩
  clear hD9
  rintro _ ⟨i,⟨B10,q10,a10,c10⟩,d1,d2⟩ w10 ⟨hi,hD10⟩
  obtain rfl:B10=w.heap.size:=hD10.2.1
  dsimp only at hi hD10⊢
  have e10:Ext w w10:=hD10.2.2.1
  have hT10:=hD10.1
  have x1:=hD10.2.2.2.1
  have x2:=hD10.2.2.2.2.1
  dsimp only at hT10 x1 x2
  refine zb (fun h=> ?_) (fun h=> ?_)
  ·have hlt:i<g2.cs.length:=by have:=of_decide_eq_true h;omega
   have hw0:0<g2.w:=by
     rcases Int.lt_or_eq_of_le r1 with h|h
     ·exact h
     ·exfalso;rw[<-h,Int.zero_mul]at r5;omega
   obtain⟨l1,l2,l3,l4,l5⟩:=zjO (hok hw0) hst (by omega) hbw.2.2.1 (kn:=kn) (a:=g1.cs) i (by omega)
   have hbt:=zcR g2.cs i
   have hba:=zcS g2.cs hlt
   generalize ht:qB kn g1.cs g2.cs t0 i=t at*
   have pre:∀{W:World},Ext w10 W->TeIn W ⟨w.heap.size,q10,a10,c10⟩ t/\teOk t/\i<=1048576/\(zg g2.cs i).st<65536/\t.b.size<=536000000/\(zg g2.cs i).t.size<=16777216/\t.last.size<=16777216:=
     fun hx=>⟨hT10.ext hx,l1,by omega,zxt hst hlt,by omega,by omega,by omega⟩
   have fin:∀{W:World} {p':TeP},p'.q=q10->dfI ⟨a1,c1,g1,a2,c2,g2,wd⟩ w (p',d1,d2) (qB kn g1.cs g2.cs t0 (i+1)) W->
    InR .i64 ((i:Int)+1)/\∃y:Nat×TeP×Nat×Nat,Value.int .i64 ((i:Int)+1)=Value.int .i64 (y.1:Int)/\Value.pointer (some ⟨d1,0,none⟩)=Value.pointer (some ⟨y.2.2.1,0,none⟩)/\Value.pointer (some ⟨d2,0,none⟩)=Value.pointer (some ⟨y.2.2.2,0,none⟩)/\
      Value.pointer (some ⟨q10,0,none⟩)=Value.pointer (some ⟨y.2.1.q,0,none⟩)/\(y.1<=g2.cs.length/\dfI ⟨a1,c1,g1,a2,c2,g2,wd⟩ w y.2 (qB kn g1.cs g2.cs t0 y.1) W)/\g2.cs.length - y.1<g2.cs.length - i:=
     fun hq hd=>⟨zd (by omega) (by omega),(i+1,_,d1,d2),rfl,rfl,rfl,by dsimp only;rw[hq],⟨hlt,hd⟩,by dsimp only;omega⟩
   have yes:∀{W W':World} {p':TeP},Ext w10 W->QQ kn g1.cs g2.cs i=true->TeOut W W' ⟨w.heap.size,q10,a10,c10⟩ p' (QA t i (zg g2.cs i))->dfI ⟨a1,c1,g1,a2,c2,g2,wd⟩ w (p',d1,d2) (qB kn g1.cs g2.cs t0 (i+1)) W':=by
     intro W W' p' hx hb hO
     have e:qB kn g1.cs g2.cs t0 (i+1)=QA t i (zg g2.cs i):=by
       simp only[qB];rw[if_pos hb,ht]
     rw[e]
     exact(hD10.ext hx).out hO
   have no:∀{W:World},Ext w10 W->QQ kn g1.cs g2.cs i=false->dfI ⟨a1,c1,g1,a2,c2,g2,wd⟩ w (⟨w.heap.size,q10,a10,c10⟩,d1,d2) (qB kn g1.cs g2.cs t0 (i+1)) W:=by
     intro W hx hb
     have e:qB kn g1.cs g2.cs t0 (i+1)=t:=by
       simp only[qB];rw[if_neg (by rw[hb];decide),ht]
     rw[e]
     exact hD10.ext hx
   refine⟨i,rfl,hlt,(hc2.ext e10).ce hlt fun b o hce=>hce.load ?_⟩
   intro b5 w13 hn13
   have z13:=hn13.size
   refine zgg hn13.heap (ceV (zg g2.cs i)) rfl (by show 6<=maxLen;decide) (zfO _) ?_
   intro w14 hb14 hf14 w15 hd
   have e14:Ext w10 w14:=Ext.fr_new hn13.ext hf14 (fun q hq=>by omega)
   have e15:Ext w10 w15:=Ext.trans e14 hd.ext
   have hce14:=Z5 hb14
   have hce15:=hce14.ext hd.ext
   have hcell:=hce14.2.1
   refine⟨_,hcell,zb (fun hp=>zb (fun hk=> ?_) (fun hk=> ?_)) (fun hp=>fin rfl (no e15 (by unfold QQ;rw[hp];rfl)))⟩
   ·have hk:kn=false:=by simpa using hk
    refine hce15.load ⟨⟨⟨w.heap.size,q10,a10,c10⟩,t,i,zg g2.cs i⟩,rfl,pre e15,?_⟩
    intro p' w16 hO
    exact fin hO.q (yes e15 (by unfold QQ;rw[hp,hk];rfl) hO)
   have hk:kn=true:=by simpa using hk
   have hlen:=hknl hk
   have x114:GrB w14 d1 a1 c1 g1:=x1.gr.ext e14
   refine⟨_,_,_,x114.cs,i,rfl,by omega,(hc1.ext (Ext.trans e10 e14)).ce (by omega) fun b6 o6 hca=>hca.load (hce14.load ⟨(zg g1.cs i,zg g2.cs i),rfl,trivial,?_⟩)⟩
   rintro x w16 ⟨hx,e1516⟩
   dsimp only at hx
   have e16:=Ext.trans e15 e1516
   have hce16:=hce15.ext e1516
   refine zb (fun h1=> ?_) (fun h1=> ?_)
   ·refine hce16.load ⟨⟨⟨w.heap.size,q10,a10,c10⟩,t,i,zg g2.cs i⟩,rfl,pre e16,?_⟩
    intro p' w17 hO
    exact fin hO.q (yes e16 (by unfold QQ;rw[hp,<-hx,h1];simp) hO)
   have x116:GrB w16 d1 a1 c1 g1:=x1.gr.ext e16
   have x216:GrB w16 d2 a2 c2 g2:=x2.gr.ext e16
   refine x116.load (x216.load ⟨⟨a1,c1,g1,a2,c2,g2,i⟩,rfl,⟨⟨hc1.ext (Ext.trans e10 e16),hb1⟩,⟨hc2.ext (Ext.trans e10 e16),hb2⟩,hlen,hlt⟩,?_⟩)
   rintro y w17 ⟨hy,e1617⟩
   dsimp only at hy
   have e17:=Ext.trans e16 e1617
   refine zb (fun h2=> ?_) (fun h2=>fin rfl (no e17 (by unfold QQ;rw[hp,<-hx,h1,<-hy,h2,hk];rfl)))
   refine(hce16.ext e1617).load ⟨⟨⟨w.heap.size,q10,a10,c10⟩,t,i,zg g2.cs i⟩,rfl,pre e17,?_⟩
   intro p' w18 hO
   exact fin hO.q (yes e17 (by unfold QQ;rw[hp,<-hy,h2];simp) hO)
  ·have hi:i=g2.cs.length:=by have:=of_decide_eq_false h;omega
   subst hi
   have hsz:(qB kn g1.cs g2.cs t0 g2.cs.length).b.size<=536000000/\(qB kn g1.cs g2.cs t0 g2.cs.length).w=g2.w/\(0<g2.w->teOk (qB kn g1.cs g2.cs t0 g2.cs.length)):=by
     rcases Int.lt_or_eq_of_le r1 with h|h
     ·obtain⟨l1,l2,l3,l4,l5⟩:=zjO (hok h) hst (by omega) hbw.2.2.1 (kn:=kn) (a:=g1.cs) g2.cs.length (Nat.le_refl _)
      have hbt:=zcR g2.cs g2.cs.length
      exact⟨by omega,by rw[l4,hbw.1],fun _=>l1⟩
     ·have h0:g2.cs.length=0:=by rw[<-h,Int.zero_mul]at r5;omega
      rw[h0]
      exact⟨by show t0.b.size<=_;omega,hbw.1,fun hh=>by omega⟩
   generalize qB kn g1.cs g2.cs t0 g2.cs.length=t at*
   obtain⟨s1,s2,s3⟩:=hsz
   have hcell:∀{W:World} {a:Option Addr} {c:Nat} {t':Te},TeIn W ⟨w.heap.size,q10,a,c⟩ t'->W.cell? ⟨q10,0,none⟩=some (.slice a t'.b.size c):=fun h=>(za h.box 0).trans rfl
   have made:∀{W:World} {a:Option Addr} {c:Nat} {t':Te},Ext w W->TeIn W ⟨w.heap.size,q10,a,c⟩ t'->Made w W 5 1 a t'.b.size (zu t'.b) c:=fun hx h=>⟨h.row,h.bad,hx⟩
   refine⟨_,x2.gr.x,zb (fun h=> ?_) (fun h=> ?_)⟩
   ·have h:g2.x<0:=of_decide_eq_true h
    refine⟨_,_,_,hcell hT10,ziU hT10 ⟨#[27,91,63,50,53,108]⟩ (by show _+6<=_;omega) fun a' c' w11 hrun hko h1 h2 hs=>⟨hrun,hko,rfl,h1,h2,fun w12 hs12=> ?_⟩⟩
    have hO:=hs w12 hs12
    have hd:=hD10.out hO
    refine⟨_,_,_,hcell hO.is,(a',_,c'),rfl,?_⟩
    have e:zlE t g2=teB t (t.b++⟨#[27,91,63,50,53,108]⟩):=by unfold zlE;rw[if_pos h];rfl
    dsimp only[Option.getD]
    rw[e]
    exact made hd.2.2.1 hO.is
   ·have hxn:¬g2.x<0:=of_decide_eq_false h
    have hcur:0<=g2.x/\g2.x<g2.w/\0<=g2.y/\g2.y<g2.h:=by
      unfold zav at r6
      rw[show(g2.x== -1)=false from by rw[beq_eq_false_iff_ne];omega,Bool.false_and,Bool.false_or]at r6
      exact of_decide_eq_true r6
    obtain⟨k1,k2,k3,k4⟩:=hcur
    have m1:0<=g2.y*g2.w:=Int.mul_nonneg k3 r1
    have m2:g2.y*g2.w+g2.w<=g2.h*g2.w:=by
      have:=Int.mul_le_mul_of_nonneg_right (show g2.y+1<=g2.h by omega) r1
      rw[Int.add_mul,Int.one_mul]at this;exact this
    rw[Int.mul_comm g2.w g2.h]at r5
    refine⟨_,_,_,hcell hT10,ziU hT10 ⟨#[27,91,63,50,53,104]⟩ (by show _+6<=_;omega) fun a' c' w11 hrun hko h1 h2 hs=>⟨hrun,hko,rfl,h1,h2,fun w12 hs12=> ?_⟩⟩
    have hO:=hs w12 hs12
    have hd:=hD10.out hO
    intro w13 hdr
    have hd13:=hd.ext hdr.ext
    have hO13:=hO.trans (TeOut.ext hO.is hdr.ext)
    have x212:GrB w12 d2 a2 c2 g2:=hd.2.2.2.2.1.gr
    have hnat:g2.y*g2.w+g2.x=(((g2.y*g2.w+g2.x).toNat:Nat):Int):=(Int.toNat_of_nonneg (by omega)).symm
    refine⟨_,x212.y,g2.w,(za hO.is.box 4).trans (congrArg (fun z=>some (Value.int .i64 z)) s2),zd (by omega) (by omega),_,x212.x,zd (by omega) (by omega),⟨⟨w.heap.size,q10,a',c'⟩,teB t (t.b++⟨#[27,91,63,50,53,104]⟩),(g2.y*g2.w+g2.x).toNat⟩,by rw[<-hnat],⟨hO13.is,s3 (by omega),by dsimp only;omega,?_⟩,?_⟩
    ·show(t.b++⟨#[27,91,63,50,53,104]⟩).size<=_
     rw[ByteArray.size_append]
     show _+6<=_
     omega
    rintro⟨B14,q14,a14,c14⟩ w14 hO14
    obtain rfl:B14=w.heap.size:=hO14.b
    obtain rfl:q14=q10:=hO14.q
    have hd14:=hd13.out hO14
    refine⟨_,_,_,hcell hO14.is,(a14,_,c14),rfl,?_⟩
    have e:zlE t g2=Qt (teB t (t.b++⟨#[27,91,63,50,53,104]⟩)) (((g2.y*g2.w+g2.x).toNat:Nat):Int):=by
      unfold zlE;rw[if_neg hxn,<-hnat,<-s2];rfl
    dsimp only[Option.getD]
    rw[e]
    exact made hd14.2.2.1 hO14.is
end

section
open Go Go.RowKit Vc Ut Tb Cl
structure PcE where
  ad:Option Addr
  c:Nat
  b:ByteArray
def UP(w:World):Prop:=UDB w.heap.size w/\P10 w.heap.size w
def zfy:CallSpec where
  G:=Unit
  args:=fun _=> #[]
  pre:=fun _ w=>UP w
  X:=Unit
  res:=fun _=> .bool true
  post:=fun _ w _ w'=>Ext w w'
def zxh:CallSpec where
  G:=Nat×Nat×Bool
  args:=fun g=> #[.int .i64 (g.1:Int), .int .i64 (g.2.1:Int), .bool g.2.2]
  pre:=fun g w=>UDB w.heap.size w/\g.1<=1024/\g.2.1<=1024
  X:=GlP
  res:=fun A=> .tuple #[.pointer (some ⟨A.p,0,none⟩), .int .i64 0]
  post:=fun g w A w'=>Ext w w'/\A.B=w.heap.size/\GlIn w' A (zaO g.1 g.2.1 g.2.2)/\GlRd w' A none 0 ⟨#[]⟩
def zgo:List (Nat×CallSpec):=[(14,zxh),(22,zjB),(23,zjz),(9,Q7),(18,zkG),(11,zbE)]
def zqJ(_:Unit)(_:World):Ann where
  sp:=zgo
  cuts:=[(2,3,{X:=Unit,sh:=fun _ _=>[],inv:=fun _ w0 _ w=>w=w0}),(6,7,{X:=Unit,sh:=fun _ _=>[],inv:=fun _ w0 _ w=>Ext w0 w})]
end

section
set_option linter.unusedVariables false
open Go Go.RowKit Vc Ut Tb Cl
open Value
set_option maxRecDepth 1000000
theorem zo7(hsp:zf Tryz.prog zgo)(h:∀(g:Unit) (w:World),UP w->∃(g1:Nat×Nat×Bool), #[int .i64 4,int .i64 2,bool false]= #[int .i64 (g1.fst:Int),int .i64 (g1.snd.fst:Int),bool g1.snd.snd]/\(UDB w.heap.size w/\g1.fst<=1024/\g1.snd.fst<=1024)/\∀(x:GlP) w',Ext w w'/\x.B=w.heap.size/\GlIn w' x (zaO g1.fst g1.snd.fst g1.snd.snd)/\GlRd w' x none 0 (ByteArray.mk #[])->(∃(c:Unit),w'=w')/\∀(u:Nat->Value) (c:Unit) w'1,w'1=w'->∀b w1,New w'1 (Obj.cells #[int .u8 228,int .u8 184,int .u8 128,int .u8 228,int .u8 186,int .u8 140,int .u8 228,int .u8 184,int .u8 137] 5) b w1->∀w11,Marked w1 b w11->∃(g2:GFd), #[pointer (some ⟨x.p,0,none⟩),slice (some ⟨b,0,none⟩) 9 9]= #[pointer (some ⟨g2.A.p,0,none⟩),slice g2.ad g2.b.size g2.c]/\(GlIn w11 g2.A g2.g/\okG g2.g g2.m/\GlRd w11 g2.A g2.ha g2.hc g2.h/\CellsAt w11 g2.ad (zu g2.b)/\g2.b.size<=67108864/\g2.m+3+g2.b.size<=549755813888)/\∀(x1:GlP×Option Addr×Nat) w'2,FdOut w11 w'2 g2.A g2.ha g2.h x1.fst x1.snd.fst x1.snd.snd (zH g2.g (ZF (g2.h++g2.b))) (fdH (g2.h++g2.b))->∃(g3:GGl), #[pointer (some ⟨x.p,0,none⟩)]= #[pointer (some ⟨g3.A.p,0,none⟩)]/\(GlIn w'2 g3.A g3.g/\fitG g3.g)/\∀(x2:(Option Addr×Nat)×Gr) w'3,gdOut g3.g w'2 w'3 x2->∀b1 w12,New w'3 (Obj.cells #[int .i64 x2.snd.w,int .i64 x2.snd.h,slice x2.fst.fst x2.snd.cs.length x2.fst.snd,int .i64 x2.snd.x,int .i64 x2.snd.y] 24) b1 w12->(qL w12 b1 2 fun a8 n c1=>zc ((n:Int) !=8) (∃(x3:Unit),bool false=bool true/\Ext w w12) (qL w12 b1 2 fun a9 n1 c2=>qd (0:Int) n1 fun k=>zr a9 fun(b2 o:Nat)=>LdT w12 b2 (o+k*6) fun s=>zc (!s.toList==(ByteArray.mk #[(228:UInt8),(184:UInt8),(128:UInt8)]).toList) (∃(x3:Unit),bool false=bool true/\Ext w w12) (qL w12 b1 2 fun a10 n2 c3=>qd (1:Int) n2 fun k1=>zr a10 fun(b3 o1:Nat)=>zX w12 .i8 b3 (o1+k1*6+1) fun n3=>zc (n3 !=1) (∃(x3:Unit),bool false=bool true/\Ext w w12) (qL w12 b1 2 fun a11 n4 c4=>qd (4:Int) n4 fun k2=>zr a11 fun(b4 o2:Nat)=>LdT w12 b4 (o2+k2*6) fun s1=>zc (!s1.toList==(ByteArray.mk #[(228:UInt8),(184:UInt8),(137:UInt8)]).toList) (∃(x3:Unit),bool false=bool true/\Ext w w12) (zt w12 b1 3 fun n5=>zc (n5 !=2) (∃(x3:Unit),bool false=bool true/\Ext w w12) (zt w12 b1 4 fun n6=>zc (n6 !=1) (∃(x3:Unit),bool false=bool true/\Ext w w12) (LdG w12 b1 fun n7 n8 a12 n9 c5 n10 n11=>∃(g4:GGr), #[agg #[int .i64 n7,int .i64 n8,slice a12 n9 c5,int .i64 n10,int .i64 n11],bool false]= #[ZT g4.ad g4.c g4.g,bool g4.wd]/\(UD w12/\qb w12 g4.ad g4.g.cs)/\∀(x3:Bool) w'4,x3=zm g4.g g4.wd/\Ext w12 w'4->zc (!x3) (∃(x4:Unit),bool false=bool true/\Ext w w'4) (∃(c6:Unit),Ext w12 w'4))))))))/\∀(u1:Nat->Value) (c1:Unit) w'4,Ext w12 w'4->∃(n:Nat) (m:Nat),(8:Int)=(n:Int)/\
 (8:Int)=(m:Int)/\n<=m/\48*m<=281474976710656/\m<=9223372036854775807/\∀b2 w13,New w'4 (Obj.cells (Qu (agg #[string (ByteArray.mk #[]),int .i8 0,int .i64 0,int .i64 0,bool false,int .u16 0]).cells m) 52) b2 w13->∀b3 w14,New w13 (Obj.cells #[int .i64 4,int .i64 2,slice (some ⟨b2,0,none⟩) n m,int .i64 1,int .i64 1] 24) b3 w14->qL w14 b3 2 fun a11 n1 c2=>qd (5:Int) n1 fun k=>zr a11 fun(b4 o:Nat)=>zh w14 b4 (o+k*6) (string (ByteArray.mk #[(120:UInt8)])) fun w15=>zh w15 b4 (o+k*6+1) (int .i8 0) fun w16=>zh w16 b4 (o+k*6+2) (int .i64 0) fun w17=>zh w17 b4 (o+k*6+3) (int .i64 0) fun w18=>zh w18 b4 (o+k*6+4) (bool false) fun w19=>zh w19 b4 (o+k*6+5) (int .u16 263) fun w110=>LdG w110 b1 fun n2 n3 a18 n4 c3 n5 n6=>LdG w110 b3 fun n7 n8 a19 n9 c4 n10 n11=>∃(g4:GDf), #[agg #[int .i64 n2,int .i64 n3,slice a18 n4 c3,int .i64 n5,int .i64 n6],agg #[int .i64 n7,int .i64 n8,slice a19 n9 c4,int .i64 n10,int .i64 n11],bool false]= #[ZT g4.a1 g4.c1 g4.g1,ZT g4.a2 g4.c2 g4.g2,bool g4.wd]/\(UDB w110.heap.size w110/\P10 w110.heap.size w110/\qb w110 g4.a1 g4.g1.cs/\qb w110 g4.a2 g4.g2.cs/\zlS g4.g1 g4.g2)/\∀(x3:Option Addr×Nat×Nat) w'5,Made w110 w'5 (5:TypeId) 1 x3.fst x3.snd.fst (zu ((Zb g4.g1 g4.g2 g4.wd).getD (ByteArray.mk #[]))) x3.snd.snd->∃(g5:GFd), #[pointer (some ⟨x.p,0,none⟩),slice x3.fst x3.snd.fst x3.snd.snd]= #[pointer (some ⟨g5.A.p,0,none⟩),slice g5.ad g5.b.size g5.c]/\(GlIn w'5 g5.A g5.g/\okG g5.g g5.m/\GlRd w'5 g5.A g5.ha g5.hc g5.h/\CellsAt w'5 g5.ad (zu g5.b)/\g5.b.size<=67108864/\g5.m+3+g5.b.size<=549755813888)/\∀(x4:GlP×Option Addr×Nat) w'6,FdOut w'5 w'6 g5.A g5.ha g5.h x4.fst x4.snd.fst x4.snd.snd (zH g5.g (ZF (g5.h++g5.b))) (fdH (g5.h++g5.b))->∀w111,Drew w'6 w111->LdG w'6 b3 fun n12 n13 a23 n14 c5 n15 n16=>∃(g6:GGl), #[pointer (some ⟨x.p,0,none⟩)]= #[pointer (some ⟨g6.A.p,0,none⟩)]/\(GlIn w111 g6.A g6.g/\fitG g6.g)/\∀(x5:(Option Addr×Nat)×Gr) w'7,gdOut g6.g w111 w'7 x5->Below w111.heap.size w111 w'7/\∃(g7:GGg), #[ZT x5.fst.fst x5.fst.snd x5.snd,agg #[int .i64 n12,int .i64 n13,slice a23 n14 c5,int .i64 n15,int .i64 n16]]= #[ZT g7.a1 g7.c1 g7.g1,ZT g7.a2 g7.c2 g7.g2]/\(qb w'7 g7.a1 g7.g1.cs/\qb w'7 g7.a2 g7.g2.cs)/\∀(x6:Bool) w'8,x6=qa g7.g1 g7.g2/\Ext w'7 w'8->zc x6 (LdG w'8 b1 fun n17 n18 a26 n19 c6 n20 n21=>LdG w'8 b3 fun n22 n23 a27 n24 c7 n25 n26=>∃(g8:GGg), #[agg #[int .i64 n17,int .i64 n18,slice a26 n19 c6,int .i64 n20,int .i64 n21],agg #[int .i64 n22,int .i64 n23,slice a27 n24 c7,int .i64 n25,int .i64 n26]]= #[ZT g8.a1 g8.c1 g8.g1,ZT g8.a2 g8.c2 g8.g2]/\(qb w'8 g8.a1 g8.g1.cs/\qb w'8 g8.a2 g8.g2.cs)/\∀(x7:Bool) w'9,x7=qa g8.g1 g8.g2/\Ext w'8 w'9->zc (!x7) (LdG w'9 b3 fun n27 n28 a29 n29 c8 n30 n31=>LdG w'9 b3 fun n32 n33 a30 n34 c9 n35 n36=>
 ∃(g9:GDf), #[agg #[int .i64 n27,int .i64 n28,slice a29 n29 c8,int .i64 n30,int .i64 n31],agg #[int .i64 n32,int .i64 n33,slice a30 n34 c9,int .i64 n35,int .i64 n36],bool false]= #[ZT g9.a1 g9.c1 g9.g1,ZT g9.a2 g9.c2 g9.g2,bool g9.wd]/\(UDB w'9.heap.size w'9/\P10 w'9.heap.size w'9/\qb w'9 g9.a1 g9.g1.cs/\qb w'9 g9.a2 g9.g2.cs/\zlS g9.g1 g9.g2)/\∀(x8:Option Addr×Nat×Nat) w'10,Made w'9 w'10 (5:TypeId) 1 x8.fst x8.snd.fst (zu ((Zb g9.g1 g9.g2 g9.wd).getD (ByteArray.mk #[]))) x8.snd.snd->∃(x9:Unit),bool ((x8.snd.fst:Int)==0)=bool true/\Ext w w'10) (∃(x8:Unit),bool false=bool true/\Ext w w'9)) (∃(x7:Unit),bool false=bool true/\Ext w w'8)):zfy.Ok Tryz.prog 7:=ze zfy zqJ zgo (fun _ _=>rfl) (fun _ _=>rfl) hsp Tryz.func7 rfl (n:=0) (fun _=>rfl) (by kernel_rfl) (zl (by kernel_rfl) h)
end
end Go.Proofs.YtjdohhididpomaaGreatDoor
