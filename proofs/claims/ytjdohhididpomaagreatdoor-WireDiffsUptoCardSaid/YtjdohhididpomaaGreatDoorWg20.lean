/-
  Texts joined by program: WkXs, WkXt, Qk, WkXu, Ql, SpXn, VgXn, WkXv.
-/
import Derived.Test.YtjdohhididpomaaGreatDoorWg19
import Derived.Test.YtjdohhididpomaaGreatDoorWg18
import Derived.Test.YtjdohhididpomaaGreatDoorWg06
import Derived.Test.YtjdohhididpomaaGreatDoorProg
import Derived.KernelRfl
set_option linter.unusedVariables false
set_option linter.unusedSimpArgs false

namespace Go.Proofs.YtjdohhididpomaaGreatDoor
section
open Go Go.RowKit Vc Ut Tb Cl
theorem RlIn.lt{w:World}{A:GlP}{g:Gs}{hl:List Int}(h:RlIn w A g hl):∀q,own A q->q<w.heap.size:=fun q hq=>by
  rcases hq with rfl|hq|hq
  ·exact zv h.box
  ·exact h.row.lt hq
  ·exact h.held.lt hq
theorem RlIn.cp{w:World}{A:GlP}{g:Gs}{hl:List Int}(h:RlIn w A g hl):qi A.ca≠some A.p:=QD h.row h.box (by decide)
theorem RlIn.np{w:World}{A:GlP}{g:Gs}{hl:List Int}(h:RlIn w A g hl):qi A.na≠some A.p:=QD h.held h.box (by decide)
theorem RlIn.cn{w:World}{A:GlP}{g:Gs}{hl:List Int}(h:RlIn w A g hl){q:Nat}(hq:qi A.na=some q):qi A.ca≠some q:=zh7 h.row h.held (by decide) hq
theorem RlIn.ud{w:World}{A:GlP}{g:Gs}{hl:List Int}(h:RlIn w A g hl):UD w:=h.u w (Below.refl _ _)
theorem RlIn.ext{w w':World}{A:GlP}{g:Gs}{hl:List Int}(h:RlIn w A g hl)(hx:Ext w w'):RlIn w' A g hl:=
  ⟨Ext.heap hx h.box,h.row.ext hx,h.held.ext hx,h.bq,Nat.le_trans h.bw hx.size,h.u.on (hx.mono h.bw)⟩
theorem RlIn.below{w w':World}{A:GlP}{g:Gs}{hl:List Int}(h:RlIn w A g hl)(hf:Fr (own A) w w'):Below A.B w w':=hf.below h.bw (fun q hq hh=>by have:=h.bq q hh;omega)
theorem RlOut.refl{w:World}{A:GlP}{g:Gs}{hl:List Int}(h:RlIn w A g hl):RlOut w w A A g hl:=⟨h,rfl,rfl,rfl,Step.refl h.lt⟩
theorem RlOut.ext{w w':World}{A:GlP}{g:Gs}{hl:List Int}(h:RlIn w A g hl)(hx:Ext w w'):RlOut w w' A A g hl:=⟨h.ext hx,rfl,rfl,rfl,Step.ext hx h.lt⟩
theorem RlOut.trans{a b c:World}{A A1 A2:GlP}{g1 g2:Gs}{h1 h2:List Int}(h:RlOut a b A A1 g1 h1)(k:RlOut b c A1 A2 g2 h2):RlOut a c A A2 g2 h2:=
  ⟨k.is,k.p.trans h.p,k.b.trans h.b,k.rb.trans h.rb,h.st.trans k.st⟩
theorem RlIn.old{w:World}{A:GlP}{g:Gs}{hl:List Int}(h:RlIn w A g hl){k:Nat}(hk:k<12):∃old,w.cell? ⟨A.p,k,none⟩=some old:=
  ⟨_,(za h.box k).trans (Array.getElem?_eq_getElem (by simpa[rlV]using hk))⟩
theorem RlIn.free{w:World}{A:GlP}{g:Gs}{hl:List Int}(h:RlIn w A g hl)(k:Nat):w.frozen? ⟨A.p,k,none⟩=false:=zB h.box _
theorem qZ{w w1:World}{A:GlP}{g g':Gs}{hl:List Int}{k:Nat}{v:Value}(h:RlIn w A g hl)(hs:Stored w ⟨A.p,k,none⟩ v w1)(hv:(rlV A g hl).setIfInBounds k v=rlV A g' hl)(hc:g'.cs=g.cs):RlOut w w1 A A g' hl:=by
  have hfo:Fr (own A) w w1:=(Fr.stored hs).mono (fun x _ hx=> .inl hx)
  refine⟨⟨?_,?_,?_,h.bq,Nat.le_trans h.bw hfo.size,h.u.on (h.below hfo)⟩,rfl,rfl,rfl,hfo,fun q hq=>⟨by rw[hs.size];exact h.lt q hq, .inl hq⟩⟩
  ·rw[<-hv];exact hs.heap h.box
  ·rw[hc];exact h.row.keep fun q hq=>hs.other (by show q≠A.p;rintro rfl;exact h.cp hq)
  ·exact h.held.keep fun q hq=>hs.other (by show q≠A.p;rintro rfl;exact h.np hq)
theorem zkO{w w1:World}{A:GlP}{g:Gs}{hl:List Int}{cs':List Ce}(h:RlIn w A g hl)(hr:Row w1 52 6 A.ca g.cs.length (zE cs') A.cc)(hf:Fr (fun q=>qi A.ca=some q) w w1):RlOut w w1 A A {g with cs:=cs'} hl:=by
  have hl':cs'.length=g.cs.length:=by have:=hr.1;rw[zR]at this;omega
  have hfo:Fr (own A) w w1:=hf.mono fun q _ hq=> .inr (.inl hq)
  refine⟨⟨?_,by rw[hl'];exact hr,h.held.keep fun q hq=>hf.block q (h.held.lt hq) (h.cn hq),h.bq,Nat.le_trans h.bw hf.size,h.u.on (h.below hfo)⟩,rfl,rfl,rfl,hfo,fun q hq=>⟨Nat.lt_of_lt_of_le (h.lt q hq) hf.size, .inl hq⟩⟩
  have:=(hf.block A.p (zv h.box) h.cp).trans h.box
  rw[this]
  unfold rlV
  dsimp only
  rw[hl']
theorem zob{W:World}{A:GlP}{g:Gs}{hl:List Int}{j:Nat}{x:Ce}{K:World->Prop}(hG:RlIn W A g hl)(hj:j<g.cs.length)(hK:∀w',RlOut W w' A A {g with cs:=g.cs.set j x} hl->K w'):zr A.ca fun b o=>zaU b (o+j*6) 0 (ceV x) W K:=by
  obtain⟨q,hq⟩:=zad hG.row (by omega)
  have hrow:=hG.row
  rw[hq]at hrow⊢
  exact hrow.setCe hj x fun w' hr hf=>hK w' (zkO hG (by rw[hq];exact hr) (hf.mono fun x _ hx=>by rw[hq,hx];rfl))
theorem zrY{W:World}{A:GlP}{g:Gs}{hl:List Int}{j k:Nat}{x:Ce}{v:Value}{K:Nat->Nat->Prop}(hG:RlIn W A g hl)(hj:j<g.cs.length)(hk:k<6)(hx:(ceV (zg g.cs j)).set k v=ceV x)
    (hK:∀b o,(∃old,W.cell? ⟨b,o+j*6+k,none⟩=some old)->W.frozen? ⟨b,o+j*6+k,none⟩=false->(∀w',Stored W ⟨b,o+j*6+k,none⟩ v w'->RlOut W w' A A {g with cs:=g.cs.set j x} hl)->K b o):zr A.ca K:=by
  obtain⟨q,hq⟩:=zad hG.row (by omega)
  have hrow:=hG.row
  rw[hq]at hrow⊢
  have hn:=hrow.1
  rw[zR]at hn
  obtain⟨h1,h2⟩:=hrow.can (j:=0+j*6+k) (by omega)
  refine hK q 0 h1 h2 fun w' hs=> ?_
  have hr:=hrow.put hs
  rw[Nat.zero_add,zhq _ j k x v hj hk hx,<-hq]at hr
  exact zkO hG hr ((Fr.stored hs).mono fun y _ hy=>by rw[hq,hy];rfl)
theorem zmP{w w':World}{A A':GlP}{g g':Gs}{hl hl':List Int}{b:Nat}{cs:Array Value}{t:TypeId}(hb:w.heap[b]? =some (.cells cs t))(h:RlIn w A g hl)(ho:RlOut w w' A A' g' hl')(ht:t≠71)(hn:qi A.ca≠some b)(hm:qi A.na≠some b):w'.heap[b]? =some (.cells cs t):=by
  refine(ho.st.fr.block b (zv hb) (fun hh=> ?_)).trans hb
  rcases hh with rfl|hh|hh
  ·rw[h.box]at hb
   injection hb with h2
   injection h2 with _ h3
   exact ht h3.symm
  ·exact hn hh
  ·exact hm hh
theorem zoc{w w2 w3:World}{A:GlP}{g:Gs}{hl:List Int}{cs:List Ce}{a':Option Addr}{c' n':Nat}(h:RlIn w A g hl)(hn':n'=cs.length)(hm:Made w w2 52 6 a' n' (zE cs) c')(hs:Stored w2 ⟨A.p,3,none⟩ (.slice a' n' c') w3):
    RlOut w w3 A {A with ca:=a',cc:=c'} {g with cs:=cs} hl:=by
  subst hn'
  have hb2:=Ext.heap hm.ext h.box
  have hz3:=hs.size
  have hz:=hm.ext.size
  have hpq:qi a'≠some A.p:=QD hm.row hb2 (by decide)
  have hfo:Fr (own A) w w3:=(Fr.of_ext (S:=own A) hm.ext).trans (Fr.stored hs) (fun x _ hx=> .inl hx)
  have hr3:Row w3 52 6 a' cs.length (zE cs) c':=hm.row.keep fun q hq=>hs.other (by show q≠A.p;rintro rfl;exact hpq hq)
  have hown:∀q,own {A with ca:=a',cc:=c'} q->own A q\/w.heap.size<=q:=by
    rintro q (hq|hq|hq)
    ·exact .inl (.inl hq)
    ·exact .inr (hm.new q hq)
    ·exact .inl (.inr (.inr hq))
  refine⟨⟨hs.heap hb2,hr3,?_,fun q hq=> ?_,by dsimp only;have:=h.bw;omega,h.u.on (h.below hfo)⟩,rfl,rfl,rfl,hfo,fun q hq=>⟨?_,hown q hq⟩⟩
  ·exact(h.held.ext hm.ext).keep fun q hq=>hs.other (by show q≠A.p;rintro rfl;exact h.np hq)
  ·rcases hown q hq with hh|hh
   ·exact h.bq q hh
   ·have:=h.bw;dsimp only;omega
  ·rcases hq with rfl|hq|hq
   ·have:=zv h.box;dsimp only;omega
   ·exact hr3.lt hq
   ·have:=h.held.lt hq;omega
theorem zzv:Tryz.prog.underlying 3=some (.int .i64):=by kernel_rfl
theorem ztk(n:Nat):(Builtin.zeroCells (Value.agg #[.string ⟨#[]⟩, .int .i8 0, .int .i64 0, .int .i64 0, .bool false, .int .u16 0]).cells n).toList=zE (List.replicate n (zw 0)):=zcX n
set_option maxRecDepth 4000 in
theorem zkT:zgH.Ok Tryz.prog 56:=by
  refine zr6 trivial ?_
  rintro⟨A,g,hl⟩ w ⟨hG,hF,hlast⟩ w1 hd
  dsimp only at hG hF hlast⊢
  have hw:=hF.w;have hh:=hF.h;have hy:=hF.y;have hlen:=hF.len
  have hwh:g.w*g.h<=1048576:=Nat.le_trans (Nat.mul_le_mul hw hh) (by decide)
  have hG1:=hG.ext hd.ext
  have hO1:=RlOut.ext hG hd.ext
  refine⟨g.y,(za hG.box 5).trans rfl,g.h,(za hG.box 1).trans rfl,zd (by omega) (by omega),zb (fun h=>⟨g.y,(za hG1.box 5).trans rfl,zd (by omega) (by omega),rfl,hG1.old (k:=5) (by decide),hG1.free 5,fun w2 hs=>⟨A,rfl,?_⟩⟩) (fun h=>⟨g.h,(za hG1.box 1).trans rfl,zb (fun h2=>⟨A,rfl,?_⟩) (fun h2 w2 hd2=> ?_)⟩)⟩
  ·have h:g.y+1<g.h:=by have:=of_decide_eq_true h;omega
   have e:qc g={g with y:=g.y+1}:=by unfold qc;rw[if_pos h]
   rw[e]
   exact hO1.trans (qZ hG1 hs rfl rfl)
  ·have h2:g.h=0:=by have:=beq_iff_eq.1 h2;omega
   have hcs:g.cs=[]:=List.eq_nil_of_length_eq_zero (by rw[hlen,h2,Nat.mul_zero])
   have e:qc g=g:=by
     unfold qc
     rw[if_neg (by omega)]
     rw[show g.cs.drop g.w++List.replicate (min g.w g.cs.length) (zw 0)=g.cs from by rw[hcs];simp]
   rw[e];exact hO1
  have h:¬g.y+1<g.h:=by have:=of_decide_eq_false h;omega
  have h2:g.h≠0:=by have:=beq_eq_false_iff_ne.1 h2;omega
  have hwl:g.w<=g.cs.length:=by rw[hlen];exact Nat.le_mul_of_pos_right _ (by omega)
  have e:qc g={g with cs:=g.cs.drop g.w++List.replicate g.w (zw 0)}:=by unfold qc;rw[if_neg h,Nat.min_eq_left hwl]
  rw[e]
  have hG2:=hG1.ext hd2.ext
  have hO2:=hO1.trans (RlOut.ext hG1 hd2.ext)
  have hnp:¬w.heap.size<=A.p:=by have:=hG.lt A.p (.inl rfl);omega
  refine⟨hnp,A.ca,g.cs.length,A.cc,(za hG1.box 3).trans rfl,hnp,g.w,(za hG1.box 0).trans rfl,g.w,rfl,hwl,fun ad' hsl=> ?_⟩
  have hdrop:CellsAt w2 ad' (zE (g.cs.drop g.w)):=by
    have hcc:=hG2.row.le.1
    have:=hG2.row.cells.drop (s:=6) hsl (by omega) (by rw[zR];omega)
    rw[zd1]at this
    exact this
  have hld:(g.cs.drop g.w).length=g.cs.length - g.w:=List.length_drop
  obtain⟨a3,c3,w3,hrun3,hko3,hm3, -⟩:=(Made.nil w2 52 6).pushS (P:=Tryz.prog) (t:=22) (ty:=22) Qm (by decide) (sa:=ad') (cx:=A.cc - g.w) (m:=g.cs.length - g.w) (news:=zE (g.cs.drop g.w)) (by rw[zR,hld]) hdrop (zat _) (by unfold maxLen;omega) (.inr (by omega))
  obtain⟨a4,c4,w4,hrun4,hko4,hm4,hfr4⟩:=hm3.pushZ (P:=Tryz.prog) (t:=22) (tn:=3) (ty:=22) (k:= .i64) (m:=g.w) Qm (by decide) zzv zmc (ztk g.w) (zat _) (by unfold maxLen;omega) (by omega)
  have hm4x:=hm4.ext
  have z12:=Nat.le_trans hd.ext.size hd2.ext.size
  refine⟨hnp,g.w,(za hG1.box 0).trans rfl,a3,c3,w3,hrun3,hko3,Fr.of_ext hm3.ext,a4,c4,w4,hrun4,hko4,hfr4.mono (fun q _ hq=>Nat.le_trans z12 (hm3.new q hq)),?_⟩
  have hG4:=hG2.ext hm4x
  refine⟨rfl,hG4.old (k:=3) (by decide),hG4.free 3,fun w5 hs5 w6 hd6=> ?_⟩
  have hm4':Made w2 w4 52 6 a4 (0+(g.cs.length - g.w)+g.w) (zE (g.cs.drop g.w++List.replicate g.w (zw 0))) c4:=by
    rw[zbR];rw[List.nil_append]at hm4;exact hm4
  have hO5:=hO2.trans (zoc (cs:=g.cs.drop g.w++List.replicate g.w (zw 0)) hG2 (by rw[List.length_append,hld,List.length_replicate];omega) hm4' hs5)
  have hG5:=hO5.is
  have hG6:=hG5.ext hd6.ext
  have hO6:=hO5.trans (RlOut.ext hG5 hd6.ext)
  refine⟨(g.last:Int) - 1,(za hG5.box 8).trans rfl,g.w,(za hG5.box 0).trans rfl,zb (fun h3=> ?_) (fun h3=>⟨rfl,hG6.old (k:=8) (by decide),hG6.free 8,fun w7 hs7=>⟨_,rfl,hO6.trans (qZ (g':={g with cs:=g.cs.drop g.w++List.replicate g.w (zw 0)}) hG6 hs7 ?_ rfl)⟩⟩)⟩
  ·exfalso
   have:=of_decide_eq_true h3
   omega
  ·unfold rlV;rw[hlast];rfl
theorem zx5(g:Gs)(i:Nat):(zaT g i).w=g.w/\(zaT g i).cs.length=g.cs.length/\(0<i->zg (zaT g i).cs (i+1)=zg g.cs (i+1)):=by
  unfold zaT
  split
  ·refine⟨rfl,by rw[List.length_set],fun hi=> ?_⟩
   dsimp only
   by_cases hl:i - 1<g.cs.length
   ·rw[Zd hl,if_neg (by omega)]
   ·rw[List.set_eq_of_length_le (by omega)]
  ·exact⟨rfl,rfl,fun _=>rfl⟩
set_option maxRecDepth 4000 in
theorem zoa:zkD.Ok Tryz.prog 83:=by
  refine zu1 trivial ?_
  rintro⟨A,g,hl,i,c⟩ w ⟨hG,hF,⟨hi,hw0,hl0,hl1⟩,hp01⟩ b w1 hn
  dsimp only at hG hF hi hw0 hl0 hl1 hp01 hn⊢
  have hG1:=hG.ext hn.ext
  have hw:=hF.w;have hh:=hF.h;have hlen:=hF.len
  have hwh:g.w*g.h<=1048576:=Nat.le_trans (Nat.mul_le_mul hw hh) (by decide)
  refine⟨_,_,_,(za hG1.box 3).trans rfl,i,rfl,hi,hG1.row.cells.ce hi fun b1 o1 hc1=>hc1.load ?_⟩
  intro b3 w2 hn2
  have hG2:=hG1.ext hn2.ext
  have e02:=Ext.trans hn.ext hn2.ext
  have hO2:=RlOut.ext hG e02
  have hce2:=Z5 hn2.heap
  have hb2:=Ext.heap hn2.ext hn.heap
  have z1:=hn.size;have z2:=hn2.size
  have hnb:∀q,own A q->q≠b/\q≠b3:=fun q hq=>by have:=hG.lt q hq;omega
  refine⟨⟨_,hce2.2.1,zb (fun h1=> ?_) (fun h1=>⟨(),?_⟩)⟩,?_⟩
  ·have h1:(zg g.cs i).p=1:=beq_iff_eq.1 h1
   have hi0:=hl0 h1
   have e:zaT g i={g with cs:=g.cs.set (i - 1) (zw (zg g.cs (i - 1)).st)}:=by unfold zaT;rw[if_pos h1]
   intro w3 hd
   have hG3:=hG2.ext hd.ext
   have hO3:=RlOut.ext hG2 hd.ext
   refine⟨_,_,_,(za hG2.box 3).trans rfl,zd (by omega) (by omega),_,_,_,(za hG2.box 3).trans rfl,zd (by omega) (by omega),i - 1,by omega,by omega,hG2.row.cells.ce (i:=i - 1) (by omega) fun b4 o4 hc4=>⟨_,hc4.2.2.2.2.2,i - 1,by omega,by omega,zob (x:=zw (zg g.cs (i - 1)).st) hG3 (by omega) fun w4 hO=>⟨(),?_⟩⟩⟩
   rw[e];exact hO3.trans hO
  ·have h1:¬(zg g.cs i).p=1:=beq_eq_false_iff_ne.1 h1
   have e:zaT g i=g:=by unfold zaT;rw[if_neg h1]
   rw[e];exact RlOut.refl hG2
  rintro _ - w3 hO3
  have hG3:=hO3.is
  have hQ:=zx5 g i
  have hbox3:w3.heap[b3]? =_:=zmP hn2.heap hG2 hO3 (by decide) (fun h=>(hnb b3 (.inr (.inl h))).2 rfl) (fun h=>(hnb b3 (.inr (.inr h))).2 rfl)
  have hboxb:w3.heap[b]? =_:=zmP hb2 hG2 hO3 (by decide) (fun h=>(hnb b (.inr (.inl h))).1 rfl) (fun h=>(hnb b (.inr (.inr h))).1 rfl)
  have hce3:=Z5 hbox3
  have hmod:((i:Int))%(g.w:Int)=((i%g.w:Nat):Int):=by rw[Int.natCast_emod]
  have hml:i%g.w<g.w:=Nat.mod_lt _ hw0
  have hQc:(zaT g i).cs.length=g.cs.length:=hQ.2.1
  have hQw:(zaT g i).w=g.w:=hQ.1
  have hmod1:(i+1)%g.w≠0 ↔ i%g.w<g.w - 1:=by
    rw[Nat.add_mod]
    rcases Nat.lt_or_ge (i%g.w) (g.w - 1)with hlt|hge
    ·rw[Nat.mod_eq_of_lt (show 1<g.w by omega),Nat.mod_eq_of_lt (show i%g.w+1<g.w by omega)];omega
    ·have h1:i%g.w=g.w - 1:=by omega
     rw[h1]
     have h2:(g.w - 1+1%g.w)%g.w=0:=by
       rcases Nat.eq_or_lt_of_le hw0 with h3|h3
       ·have h4:g.w=1:=h3.symm
        rw[h4]
       ·rw[Nat.mod_eq_of_lt h3,Nat.sub_add_cancel (by omega),Nat.mod_self]
     omega
  have noT:¬((zg g.cs i).p≠1/\(i+1)%g.w≠0/\(zg g.cs (i+1)).p=1)->QK g i=zaT g i:=fun hh=>by
    unfold QK zaT zhU
    by_cases h1:(zg g.cs i).p=1
    ·rw[if_pos h1,if_pos h1]
    ·rw[if_neg h1,if_neg h1,if_neg (fun h2=>hh ⟨h1,h2⟩)]
  refine⟨fun w4 hd4=>⟨g.w,(za hG3.box 0).trans (by unfold rlV;rw[hQw];rfl),by omega,by omega,g.w,(za hG3.box 0).trans (by unfold rlV;rw[hQw];rfl),zd (by omega) (by omega),zb (fun h2=> ?_) (fun h2=>⟨(),?_⟩)⟩,?_⟩
  ·have h2:(i+1)%g.w≠0:=by have:=of_decide_eq_true h2;rw[hmod]at this;exact hmod1.2 (by omega)
   have hi1:=hl1 h2
   have hG4:=hG3.ext hd4.ext
   have hO4:=RlOut.ext hG3 hd4.ext
   refine⟨_,_,_,(za hG3.box 3).trans rfl,zd (by omega) (by omega),i+1,rfl,by rw[hQc];exact hi1,hG3.row.cells.ce (by rw[hQc];exact hi1) fun b4 o4 hc4=>⟨_,hc4.2.1,zb (fun h3=>⟨_,hce3.2.1,zb (fun h4=> ?_) (fun h4=>⟨(),?_⟩)⟩) (fun h3=>⟨(),?_⟩)⟩⟩
   ·have h4:(zg g.cs i).p=0:=beq_iff_eq.1 h4
    have eq:zaT g i=g:=by unfold zaT;rw[if_neg (by rw[h4];decide)]
    have h3:(zg (zaT g i).cs (i+1)).p=1:=beq_iff_eq.1 h3
    rw[eq]at h3 hG4 hO4 hG3
    have e:QK g i={g with cs:=g.cs.set (i+1) (zw (zg g.cs (i+1)).st)}:=by unfold QK zhU;rw[if_neg (by rw[h4];decide),if_pos ⟨h2,h3⟩]
    intro w5 hd5
    have hG5:=hG4.ext hd5.ext
    have hO5:=hO4.trans (RlOut.ext hG4 hd5.ext)
    refine⟨_,_,_,(za hG4.box 3).trans rfl,zd (by omega) (by omega),_,_,_,(za hG4.box 3).trans rfl,zd (by omega) (by omega),i+1,rfl,hi1,hG4.row.cells.ce hi1 fun b5 o5 hc5=>⟨_,hc5.2.2.2.2.2,i+1,rfl,hi1,zob (x:=zw (zg g.cs (i+1)).st) hG5 hi1 fun w6 hO=>⟨(),?_⟩⟩⟩
    rw[e];exact hO5.trans hO
   ·have h4:(zg g.cs i).p=1:=by have:=beq_eq_false_iff_ne.1 h4;omega
    rw[noT (fun hh=>hh.1 h4)];exact hO4
   ·have h3:¬(zg (zaT g i).cs (i+1)).p=1:=beq_eq_false_iff_ne.1 h3
    rw[noT (fun hh=>h3 (by
     have eq:zaT g i=g:=by unfold zaT;rw[if_neg hh.1]
     rw[eq];exact hh.2.2))]
    exact hO4
  ·have h2:¬(i+1)%g.w≠0:=fun hh=>by have:=of_decide_eq_false h2;rw[hmod]at this;have:=hmod1.1 hh;omega
   rw[noT (fun hh=>h2 hh.2.1)]
   exact RlOut.ext hG3 hd4.ext
  rintro _ - w4 hO4 w5 hd5
  have hG4:=hO4.is
  have hbox4:w4.heap[b]? =_:=zmP hboxb hG3 hO4 (by decide) (fun h=>(hnb b (.inr (.inl h))).1 rfl) (fun h=>(hnb b (.inr (.inr h))).1 rfl)
  have hce4:=Z5 hbox4
  have hG5:=hG4.ext hd5.ext
  have hlt:(QK g i).cs.length=g.cs.length:=by
    unfold QK zhU
    dsimp only
    split
    ·rw[List.length_set]
    ·split
     ·rw[List.length_set]
     ·rfl
  refine⟨_,_,_,(za hG4.box 3).trans rfl,hce4.load ⟨i,rfl,by rw[hlt];exact hi,zob (x:=c) hG5 (by rw[hlt];exact hi) fun w6 hO=>⟨A,rfl,?_⟩⟩⟩
  exact hO2.trans (hO3.trans (hO4.trans ((RlOut.ext hG4 hd5.ext).trans hO)))
end

section
open Go Go.RowKit Vc Ut Tb Cl
theorem zsH{i w:Nat}(hw0:0<w):(i+1)%w≠0 ↔ i%w<w - 1:=by
  have hml:i%w<w:=Nat.mod_lt _ hw0
  rw[Nat.add_mod]
  rcases Nat.lt_or_ge (i%w) (w - 1)with hlt|hge
  ·rw[Nat.mod_eq_of_lt (show 1<w by omega),Nat.mod_eq_of_lt (show i%w+1<w by omega)];omega
  ·have h1:i%w=w - 1:=by omega
   rw[h1]
   have h2:(w - 1+1%w)%w=0:=by
     rcases Nat.eq_or_lt_of_le hw0 with h3|h3
     ·have h4:w=1:=h3.symm
      rw[h4]
     ·rw[Nat.mod_eq_of_lt h3,Nat.sub_add_cancel (by omega),Nat.mod_self]
   omega
theorem zjG{g:Gs}{m i:Nat}(h:okG g m)(hi:i<g.cs.length):(zg g.cs i).p=0\/(zg g.cs i).p=1:=by
  have:=h.ok i hi
  unfold Z0 at this
  by_cases h1:(zg g.cs i).p=1
  ·exact .inr h1
  ·rw[if_neg h1]at this;exact .inl this.1
set_option maxRecDepth 4000 in
theorem zpD:zfz.Ok Tryz.prog 82:=by
  refine zpC ⟨zga,zew,zoa,trivial⟩ ?_
  rintro⟨A,g,hl,r,m⟩ w ⟨hG,hk,hm⟩
  dsimp only at hG hk hm⊢
  have hF:=hk.fit hm
  have hw:=hF.w;have hh:=hF.h;have hlen:=hF.len;have hlast:=hF.last
  have hwh:g.w*g.h<=1048576:=Nat.le_trans (Nat.mul_le_mul hw hh) (by decide)
  have hx:=hF.x
  refine⟨(g.last:Int) - 1,(za hG.box 8).trans rfl,zb (fun h=> ?_) (fun h=> ?_)⟩
  ·have h:g.last=0:=by have:=of_decide_eq_true h;omega
   have e:zZ g r=none:=by unfold zZ;rw[if_pos h]
   exact⟨(A,false),rfl,by rw[e];rfl,by rw[e];exact RlOut.refl hG⟩
  have hlne:g.last≠0:=by have:=of_decide_eq_false h;omega
  clear h
  obtain⟨t1,t2,tz⟩:=hk.txt hlne
  have hL:=hk.last hlne
  have hi:g.last - 1<g.cs.length:=by have:=hL.le;omega
  have hez:(Utf8.encode r).size<=4:=zag r
  have hpc:((g.last:Int) - 1)=((g.last - 1:Nat):Int):=by omega
  intro w1 hd1
  refine⟨_,_,_,(za hG.box 3).trans rfl,(g.last:Int) - 1,(za hG.box 8).trans rfl,g.last - 1,hpc,hi,hG.row.cells.ce hi fun b o hce=>hce.load ⟨zg g.cs (g.last - 1),rfl,trivial,?_⟩⟩
  rintro _ w2 ⟨rfl,hx2⟩
  have hx02:=Ext.trans hd1.ext hx2
  have hG2:=hG.ext hx02
  refine⟨g.wd,(za hG2.box 2).trans rfl,(zM (zg g.cs (g.last - 1)),g.wd),rfl,⟨hG2.ud,Nat.le_trans tz (by decide)⟩,?_⟩
  rintro⟨n,nok⟩ w3 ⟨hn1,hn,hx3⟩
  dsimp only at hn1 hn⊢
  replace hn:=hn (by rw[hn1];exact decide_eq_true (by omega))
  clear hn1
  have hx03:=Ext.trans hx02 hx3
  have hG3:=hG.ext hx03
  have hsz:(zM (zg g.cs (g.last - 1))++Utf8.encode r).size<=132:=by
    rw[ByteArray.size_append];omega
  refine⟨by omega,g.wd,(za hG3.box 2).trans rfl,(zM (zg g.cs (g.last - 1))++Utf8.encode r,g.wd),rfl,⟨hG3.ud,Nat.le_trans hsz (by decide)⟩,?_⟩
  rintro⟨k,kok⟩ w4 ⟨hk1,hk2,hx4⟩
  dsimp only at hk1 hk2⊢
  have hx04:=Ext.trans hx03 hx4
  have hG4:=hG.ext hx04
  have hO4:=RlOut.ext hG hx04
  obtain⟨j,hjj⟩:∃j,j=plN (zM (zg g.cs (g.last - 1))++Utf8.encode r) g.wd:=⟨_,rfl⟩
  rw[<-hjj]at hk1 hk2
  have hj:zZ g r=if j<n then none else if n<j then
    (if g.last%g.w=0 then some {g with last:=0}else
      some {g with cs:=(zF g.cs g.w g.last (ZA (zg g.cs (g.last - 1)).st)).set (g.last - 1) {zg (zF g.cs g.w g.last (ZA (zg g.cs (g.last - 1)).st)) (g.last - 1)with t:=zM (zg g.cs (g.last - 1))++Zt r},x:=g.x+1})
    else some {g with cs:=g.cs.set (g.last - 1) {zg g.cs (g.last - 1)with t:=zM (zg g.cs (g.last - 1))++Zt r}}:=by
    unfold zZ;rw[if_neg hlne,hn,hjj];rfl
  rw[hj]
  clear hj
  refine zb (fun h1=> ?_) (fun h1=> ?_)
  ·have h1:j<n:=by
     rw[Bool.or_eq_true]at h1
     cases hkk:kok with
     |false=>
      rw[hkk]at hk1
      have:¬(j≠0):=of_decide_eq_false hk1.symm
      omega
     |true=>
      have:=hk2 hkk
      rw[hkk]at h1
      rcases h1 with h1|h1
      ·cases h1
      ·have:=of_decide_eq_true h1;omega
   rw[if_pos h1]
   exact⟨(A,false),rfl,rfl,hO4⟩
  rw[Bool.or_eq_false_iff]at h1
  have hkok:kok=true:=by simpa using h1.1
  have hkj:=hk2 hkok
  subst hkj
  have h1:¬k<n:=by have:=of_decide_eq_false h1.2;omega
  rw[if_neg h1]
  refine zb (fun h2=> ?_) (fun h2=> ?_)
  ·have h2:n<k:=by have:=of_decide_eq_true h2;omega
   rw[if_pos h2]
   have hk2':k<=2:=by rw[hjj];exact zex _ _
   have hn1:plN (zM (zg g.cs (g.last - 1))) g.wd=1:=by omega
   have hw0:0<g.w:=(hk.lay hi).2.1
   have hmod:((g.last:Int) - 1)%(g.w:Int)=(((g.last - 1)%g.w:Nat):Int):=by rw[Int.natCast_emod,hpc]
   have hml:=Nat.mod_lt (g.last - 1) hw0
   have hmd:=zsH (i:=g.last - 1) hw0
   rw[show g.last - 1+1=g.last by omega]at hmd
   intro w5 hd5
   have hG5:=hG4.ext hd5.ext
   have hO5:=hO4.trans (RlOut.ext hG4 hd5.ext)
   refine⟨(g.last:Int) - 1,(za hG4.box 8).trans rfl,g.w,(za hG4.box 0).trans rfl,by omega,by omega,g.w,(za hG4.box 0).trans rfl,zd (by omega) (by omega),zb (fun h3=> ?_) (fun h3=> ?_)⟩
   ·have h3:g.last%g.w=0:=by
      have:=beq_iff_eq.1 h3
      rw[hmod]at this
      rcases Nat.eq_zero_or_pos (g.last%g.w)with e|e
      ·exact e
      ·have:=hmd.1 (by omega);omega
    refine⟨rfl,hG5.old (k:=8) (by decide),hG5.free 8,fun w6 hs=>⟨(A,true),rfl,?_⟩⟩
    rw[if_pos h3]
    exact⟨rfl,hO5.trans (qZ hG5 hs rfl rfl)⟩
   ·have h3:g.last%g.w≠0:=by
      have:=beq_eq_false_iff_ne.1 h3
      rw[hmod]at this
      exact hmd.2 (by omega)
    rw[if_neg h3]
    obtain⟨hll,hxw⟩:=hk.last_lt hlne hn1 h3
    have hlay:=hk.lay hll
    have hst:=(zgn hk.st (g.last - 1)).1
    intro w6 hd6
    have hG6:=hG5.ext hd6.ext
    have hO6:=hO5.trans (RlOut.ext hG5 hd6.ext)
    refine⟨(g.last:Int) - 1,(za hG5.box 8).trans rfl,zd (by omega) (by omega),_,_,_,(za hG5.box 3).trans rfl,(g.last:Int) - 1,(za hG5.box 8).trans rfl,g.last - 1,hpc,hi,hG5.row.cells.ce hi fun b4 o4 hc4=>⟨_,hc4.2.2.2.2.2,⟨A,g,hl,g.last,ZA (zg g.cs (g.last - 1)).st⟩,by dsimp only;rw[show(g.last:Int) - 1+1=g.last by omega];rfl,⟨hG6,hF,hlay,zjG hk hll⟩,?_⟩⟩
    intro A7 w7 hO7
    dsimp only at hO7
    have hG7:=hO7.is
    have hp7:A7.p=A.p:=hO7.p
    refine⟨g.x,by rw[<-hp7];exact(za hG7.box 4).trans rfl,zd (by omega) (by omega),rfl,by rw[<-hp7];exact hG7.old (k:=4) (by decide),by rw[<-hp7];exact hG7.free 4,fun w8 hs8=> ?_⟩
    rw[<-hp7]at hs8
    have hO8:=qZ (g':={Qe g g.last (ZA (zg g.cs (g.last - 1)).st)with x:=g.x+1}) hG7 hs8 rfl rfl
    have hG8:=hO8.is
    have hl5:(zF g.cs g.w g.last (ZA (zg g.cs (g.last - 1)).st)).length=g.cs.length:=zQ _ _ _ _
    intro w9 hd9
    have hG9:=hG8.ext hd9.ext
    have hO9:=hO8.trans (RlOut.ext hG8 hd9.ext)
    refine⟨_,_,_,by rw[<-hp7];exact(za hG8.box 3).trans rfl,(g.last:Int) - 1,by rw[<-hp7];exact(za hG8.box 8).trans rfl,Ext.refl _,by omega,g.last - 1,hpc,by dsimp only;show g.last - 1<(zF _ _ _ _).length;rw[hl5];exact hi,?_⟩
    refine zrY (k:=0) (j:=g.last - 1) (v:= .string (zM (zg g.cs (g.last - 1))++Utf8.encode r)) (x:={zg (zF g.cs g.w g.last (ZA (zg g.cs (g.last - 1)).st)) (g.last - 1)with t:=zM (zg g.cs (g.last - 1))++Zt r}) hG9 (by dsimp only;show g.last - 1<(zF _ _ _ _).length;rw[hl5];exact hi) (by decide) rfl (fun b5 o5 h51 h52 h53=>⟨rfl,h51,h52,fun w10 hs10=>⟨(A7,true),rfl,rfl,?_⟩⟩)
    exact hO6.trans (hO7.trans (hO9.trans (h53 w10 hs10)))
  ·have h2:¬n<k:=by have:=of_decide_eq_false h2;omega
   rw[if_neg h2]
   intro w5 hd5
   have hG5:=hG4.ext hd5.ext
   have hO5:=hO4.trans (RlOut.ext hG4 hd5.ext)
   refine⟨_,_,_,(za hG4.box 3).trans rfl,(g.last:Int) - 1,(za hG4.box 8).trans rfl,Ext.refl _,by omega,g.last - 1,hpc,hi,?_⟩
   exact zrY (k:=0) (j:=g.last - 1) (v:= .string (zM (zg g.cs (g.last - 1))++Utf8.encode r)) (x:={zg g.cs (g.last - 1)with t:=zM (zg g.cs (g.last - 1))++Zt r}) hG5 hi (by decide) rfl (fun b5 o5 h51 h52 h53=>⟨rfl,h51,h52,fun w6 hs6=>⟨(A,true),rfl,rfl,hO5.trans (h53 w6 hs6)⟩⟩)
end

section
open Go Vc Ut Tb Cl Orb
theorem zyp{l m:List Ce}(h:l.length=m.length)(hj:∀j,j<l.length->zg l j=zg m j):l=m:=by
  apply List.ext_getElem h
  intro j h1 h2
  have:=hj j h1
  rwa [zbW h1,zbW h2]at this
theorem zq1{l:List Ce}{w i:Nat}{wd:Bool}{s:ByteArray}{st:Nat}(h:okL l w wd)(hi:i+1<l.length)(hm:(i+1)%w≠0):
    ((zF (zF l w i ⟨s,0,0,0,false,st⟩) w (i+1) (ZA st)).set i ⟨s,0,0,0,false,st⟩)=
      (zF (zF l w (i+1) (zw st)) w i ⟨s,0,0,0,false,st⟩).set (i+1) {zg (zF (zF l w (i+1) (zw st)) w i ⟨s,0,0,0,false,st⟩) (i+1)with p:=1}:=by
  generalize hS:(⟨s,0,0,0,false,st⟩:Ce)=S
  have hi0:i<l.length:=by omega
  have ha0:(zg l i).p=1->0<i/\(zg l (i+1)).p≠1:=fun hp=>by
    have h1:=h i hi0
    unfold Z0 at h1;rw[if_pos hp]at h1
    refine⟨h1.1,fun h2=> ?_⟩
    have h3:=h (i+1) hi
    unfold Z0 at h3;rw[if_pos h2,Nat.add_sub_cancel]at h3
    rw[h3.2.1]at hp;cases hp
  have hc0:(zg l (i+2)).p=1->(zg l (i+1)).p≠1:=fun hp h2=>by
    have hl2:i+2<l.length:=by
      rcases Nat.lt_or_ge (i+2) l.length with e|e
      ·exact e
      ·rw[zd8 e]at hp;cases hp
    have h3:=h (i+2) hl2
    unfold Z0 at h3;rw[if_pos hp,show i+2 - 1=i+1 by omega]at h3
    rw[h3.2.1]at h2;cases h2
  have hL1:=Zm (w:=w) (c:=S) hi0 (fun hp=>(ha0 hp).1)
  have hM:=Zm (w:=w) (c:=zw st) hi (fun _=>by omega)
  have hl1:(zF l w i S).length=l.length:=zQ _ _ _ _
  have hlM:(zF l w (i+1) (zw st)).length=l.length:=zQ _ _ _ _
  have hL2:=Zm (l:=zF l w i S) (w:=w) (c:=ZA st) (i:=i+1) (by rw[hl1];exact hi) (fun _=>by omega)
  have hM2:=Zm (l:=zF l w (i+1) (zw st)) (w:=w) (c:=S) (i:=i) (by rw[hlM];exact hi0) (fun hp=>by
    rw[hM,if_neg (by omega)]at hp
    split at hp
    ·rw[Nat.add_sub_cancel,if_pos rfl]at hp;cases hp
    ·rw[if_neg (by omega)]at hp;exact(ha0 hp).1)
  generalize hP:zF l w i S=P at hL1 hl1 hL2⊢
  generalize hQ:zF l w (i+1) (zw st)=Q at hM hlM hM2⊢
  have hl2:(zF P w (i+1) (ZA st)).length=l.length:=by rw[zQ,hl1]
  have hlM2:(zF Q w i S).length=l.length:=by rw[zQ,hlM]
  generalize zF P w (i+1) (ZA st)=P2 at hL2 hl2⊢
  generalize zF Q w i S=Q2 at hM2 hlM2⊢
  have hQ1:zg Q (i+1)=zw st:=by rw[hM,if_pos rfl]
  have hP1:(zg P (i+1)).p≠1:=by
    rw[hL1,if_neg (by omega)]
    by_cases ha:(zg l i).p=1
    ·rw[if_pos ha,if_neg (by omega)];exact(ha0 ha).2
    ·rw[if_neg ha]
     by_cases hb:(zg l (i+1)).p=1
     ·rw[if_pos ⟨hm,hb,rfl⟩];intro hh;cases hh
     ·rw[if_neg (fun hh=>hb hh.2.1)];exact hb
  have hQ2:zg Q2 (i+1)=zw st:=by
    rw[hM2,if_neg (by omega)]
    by_cases ha:(zg Q i).p=1
    ·rw[if_pos ha,if_neg (by omega),hQ1]
    ·rw[if_neg ha,if_neg (fun hh=>by rw[hQ1]at hh;exact absurd hh.2.1 (by intro h9;cases h9)),hQ1]
  refine zyp (by rw[List.length_set,List.length_set,hl2,hlM2]) (fun j hj=> ?_)
  rw[List.length_set,hl2]at hj
  rw[Zd (by rw[hl2];exact hi0),Zd (by rw[hlM2];exact hi)]
  by_cases hji:j=i
  ·subst hji
   rw[if_pos rfl,if_neg (by omega),hM2,if_pos rfl]
  rw[if_neg hji]
  by_cases hj1:j=i+1
  ·subst hj1
   rw[if_pos rfl,hL2,if_pos rfl,hQ2];rfl
  rw[if_neg hj1,hL2,if_neg hj1,if_neg hP1,hM2,if_neg hji]
  have hPj:zg P j=if(zg l i).p=1/\j=i - 1 then zw (zg l (i - 1)).st else zg l j:=by
    rw[hL1,if_neg hji]
    by_cases ha:(zg l i).p=1
    ·rw[if_pos ha]
     by_cases e:j=i - 1
     ·rw[if_pos e,if_pos ⟨ha,e⟩]
     ·rw[if_neg e,if_neg (fun hh=>e hh.2)]
    ·rw[if_neg ha,if_neg (fun hh=>hj1 hh.2.2),if_neg (fun hh=>ha hh.1)]
  have hP2:zg P (i+2)=zg l (i+2):=by
    rw[hL1,if_neg (by omega)]
    by_cases ha:(zg l i).p=1
    ·rw[if_pos ha,if_neg (by omega)]
    ·rw[if_neg ha,if_neg (fun hh=>by omega)]
  have hQj:∀k,k≠i->k≠i+1->zg Q k=if(i+2)%w≠0/\(zg l (i+2)).p=1/\k=i+2 then zw (zg l (i+2)).st else zg l k:=fun k h1 h2=>by
    rw[hM,if_neg h2]
    by_cases hb:(zg l (i+1)).p=1
    ·rw[if_pos hb,Nat.add_sub_cancel,if_neg h1,if_neg (fun hh=>hc0 hh.2.1 hb)]
    ·rw[if_neg hb]
  have hQi:(zg Q i).p=1 ↔ (zg l i).p=1:=by
    rw[hM,if_neg (by omega)]
    by_cases hb:(zg l (i+1)).p=1
    ·rw[if_pos hb,Nat.add_sub_cancel,if_pos rfl]
     exact⟨fun hh=>(by cases hh),fun hh=>absurd hb (ha0 hh).2⟩
    ·rw[if_neg hb,if_neg (fun hh=>by omega)]
  have hno:¬((i+1)%w≠0/\(zg Q (i+1)).p=1/\j=i+1):=fun hh=>hj1 hh.2.2
  rw[show i+1+1=i+2 from rfl,hP2]
  by_cases ha:(zg l i).p=1
  ·rw[if_pos (hQi.2 ha),hQj j hji hj1,hPj]
   by_cases e:j=i - 1
   ·have h0:=(ha0 ha).1
    have e2:zg Q (i - 1)=zg l (i - 1):=by rw[hQj (i - 1) (by omega) (by omega),if_neg (fun hh=>by omega)]
    rw[if_pos e,e2,if_neg (fun hh=>by omega),if_pos ⟨ha,e⟩]
   ·rw[if_neg e,if_neg (show ¬((zg l i).p=1/\j=i - 1)from fun hh=>e hh.2)]
  ·rw[if_neg (fun hh=>ha (hQi.1 hh)),if_neg hno,hQj j hji hj1,hPj,if_neg (show ¬((zg l i).p=1/\j=i - 1)from fun hh=>ha hh.1)]
end

section
open Go Go.RowKit Vc Ut Tb Cl
set_option maxRecDepth 4000 in
theorem zuZ:znW.Ok Tryz.prog 55:=by
  refine zuY ⟨zpD,zki,zew,zkT,zoa,trivial⟩ ?_
  rintro⟨A,g,hl,r,m⟩ w ⟨⟨hG,hk,hm⟩,hst⟩
  dsimp only at hG hk hm hst⊢
  have hF:=hk.fit hm
  have hw:=hF.w;have hh:=hF.h;have hlen:=hF.len
  have hez:(Utf8.encode r).size<=4:=zag r
  refine⟨⟨A,g,hl,r,m⟩,rfl,⟨hG,hk,hm⟩,?_⟩
  rintro⟨A1,b⟩ w1 ⟨hb,hO1⟩
  dsimp only at hb hO1⊢
  refine zb (fun h=>⟨A1,rfl,?_⟩) (fun h=> ?_)
  ·obtain⟨g',hj⟩:=Option.isSome_iff_exists.1 (hb.symm.trans h)
   have e:qD g r=g':=by unfold qD;rw[hj]
   rw[e];rw[hj]at hO1;exact hO1
  have hj:zZ g r=none:=by
    cases hj:zZ g r with
    |none=>rfl
    |some g'=>rw[hj,h]at hb;cases hb
  rw[hj]at hO1
  replace hO1:RlOut w w1 A A1 g hl:=hO1
  have hp1:A1.p=A.p:=hO1.p
  have hG1:=hO1.is
  have hput:qD g r=if plN (Qq g r) g.wd=0\/g.w<plN (Qq g r) g.wd\/g.h=0 then {g with last:=0}else Ql (Zn g (plN (Qq g r) g.wd)) (Qq g r) (plN (Qq g r) g.wd):=by
    unfold qD;rw[hj];rfl
  refine⟨rfl,by rw[<-hp1];exact hG1.old (k:=8) (by decide),by rw[<-hp1];exact hG1.free 8,fun w2 hs2=> ?_⟩
  rw[<-hp1]at hs2
  have hO2:=hO1.trans (qZ (g':={g with last:=0}) hG1 hs2 rfl rfl)
  have hG2:=hO2.is
  refine⟨g.wd,by rw[<-hp1];exact(za hG2.box 2).trans rfl,⟨Utf8.encode r,0,lkW g.wd⟩,rfl,⟨hG2.ud.1,hG2.ud.2,by dsimp only;omega⟩,?_⟩
  rintro⟨s,k⟩ w3 ⟨hsk,hx3⟩
  have hs:s=Qq g r:=congrArg Prod.fst hsk
  clear hsk
  subst hs
  have hsz:(Qq g r).size<=20:=by
    have:=zej (Zt r) 0 (lkW g.wd)
    have h4:=zag r
    show(Zi (Zt r) 0 (lkW g.wd)).1.size<=20
    omega
  have hG3:=hG2.ext hx3
  refine⟨g.wd,by rw[<-hp1];exact(za hG3.box 2).trans rfl,(Qq g r,g.wd),rfl,⟨hG3.ud,Nat.le_trans hsz (by decide)⟩,?_⟩
  rintro⟨n',nok⟩ w4 ⟨hn1,hn2,hx4⟩
  dsimp only at hn1 hn2⊢
  have hx24:=Ext.trans hx3 hx4
  have hG4:=hG2.ext hx24
  have hO4:=hO2.trans (RlOut.ext hG2 hx24)
  refine zb (fun h1=>⟨A1,rfl,?_⟩) (fun h1=> ?_)
  ·have h1:plN (Qq g r) g.wd=0:=by
     have e:nok=false:=by simpa using h1
     rw[e]at hn1
     have:¬(plN (Qq g r) g.wd≠0):=of_decide_eq_false hn1.symm
     omega
   rw[hput,if_pos (.inl h1)];exact hO4
  have hnok:nok=true:=by simpa using h1
  have hn:=hn2 hnok
  rw[hnok]at hn1
  have hn0:plN (Qq g r) g.wd≠0:=of_decide_eq_true hn1.symm
  subst hn
  clear hn1 hn2 h1
  obtain⟨n,hn⟩:∃n,n=plN (Qq g r) g.wd:=⟨_,rfl⟩
  have hn2:n<=2:=by rw[hn];exact zex _ _
  rw[<-hn]at hn0 hput⊢
  refine⟨g.w,by rw[<-hp1];exact(za hG4.box 0).trans rfl,zb (fun h2=>⟨A1,rfl,?_⟩) (fun h2=>⟨g.h,by rw[<-hp1];exact(za hG4.box 1).trans rfl,zb (fun h3=>⟨A1,rfl,?_⟩) (fun h3=> ?_)⟩)⟩
  ·have h2:g.w<n:=by have:=of_decide_eq_true h2;omega
   rw[hput,if_pos (.inr (.inl h2))];exact hO4
  ·have h3:g.h=0:=by have:=beq_iff_eq.1 h3;omega
   rw[hput,if_pos (.inr (.inr h3))];exact hO4
  have h2:¬g.w<n:=by have:=of_decide_eq_false h2;omega
  have h3:g.h≠0:=by have:=beq_eq_false_iff_ne.1 h3;omega
  have hhas:¬(n=0\/g.w<n\/g.h=0):=by omega
  rw[if_neg hhas]at hput
  have hx:=hk.x
  refine⟨fun w5 hd=>⟨g.x,by rw[<-hp1];exact(za hG4.box 4).trans rfl,zd (by omega) (by omega),g.w,by rw[<-hp1];exact(za hG4.box 0).trans rfl,zb (fun h4=> ?_) (fun h4=> ?_)⟩,?_⟩
  ·have h4:g.w<g.x+n:=by have:=of_decide_eq_true h4;omega
   have hG5:=hG4.ext hd.ext
   have hO5:=hO4.trans (RlOut.ext hG4 hd.ext)
   refine⟨rfl,by rw[<-hp1];exact hG5.old (k:=4) (by decide),by rw[<-hp1];exact hG5.free 4,fun w6 hs6=> ?_⟩
   rw[<-hp1]at hs6
   have hO6:=hO5.trans (qZ (g':={g with last:=0,x:=0}) hG5 hs6 rfl rfl)
   refine⟨⟨A1,{g with last:=0,x:=0},hl⟩,by rw[<-hp1],⟨hO6.is,(zk8 hk).fit hm,rfl⟩,fun A7 w7 hO7=>⟨A7,⟨?_,rfl,by rw[hn],by rw[<-hn];exact hput,by rw[<-hn];exact hhas⟩⟩⟩
   dsimp only at hO7
   rw[<-hn]
   have e:Zn g n=qc {g with last:=0,x:=0}:=by unfold Zn;rw[if_pos h4]
   rw[e]
   exact hO6.trans hO7
  ·have h4:¬g.w<g.x+n:=by have:=of_decide_eq_false h4;omega
   refine⟨A1,⟨?_,rfl,by rw[hn],by rw[<-hn];exact hput,by rw[<-hn];exact hhas⟩⟩
   rw[<-hn]
   have e:Zn g n={g with last:=0}:=by unfold Zn;rw[if_neg h4]
   rw[e]
   exact hO4.trans (RlOut.ext hG4 hd.ext)
  rintro _ A5 w5 ⟨hO5, -, -, -, -⟩ w6 hd6
  dsimp only at hO5
  rw[<-hn]at hO5
  rw[hput]
  have hwf:=zq0 g n
  have hkW:okG (Zn g n) m:=zoi hk
  have hlW:(Zn g n).last=0:=by unfold Zn;split;exact ziC _;rfl
  generalize Zn g n=gW at hO5 hwf hkW hlW⊢
  obtain⟨e1,e2,e3,e4,e5⟩:=hwf
  have hFW:=hkW.fit hm
  have hG5:=hO5.is
  have hp5:A5.p=A.p:=hO5.p
  have hG6:=hG5.ext hd6.ext
  have hO6:=hO5.trans (RlOut.ext hG5 hd6.ext)
  have hy:gW.y<gW.h:=by rcases hkW.y with e|e<;>omega
  have hxn:=e5 (by omega)
  have hW1:=hkW.w;have hW2:=hkW.h
  have hyw:gW.y*gW.w+gW.w<=gW.cs.length:=by
    rw[hkW.len]
    have:(gW.y+1)*gW.w<=gW.h*gW.w:=Nat.mul_le_mul_right _ hy
    rw[Nat.add_mul,Nat.one_mul,Nat.mul_comm gW.h]at this
    exact this
  have hlen5:gW.cs.length<=1048576:=by rw[hkW.len];exact Nat.le_trans (Nat.mul_le_mul hW1 hW2) (by decide)
  have hcast:(gW.y:Int)*(gW.w:Int)=((gW.y*gW.w:Nat):Int):=by rw[Int.natCast_mul]
  rw[hp5.symm]
  refine⟨gW.y,(za hG5.box 5).trans rfl,gW.w,(za hG5.box 0).trans rfl,by rw[hcast];exact zd (by omega) (by omega),gW.x,(za hG5.box 4).trans rfl,by rw[hcast];exact zd (by omega) (by omega),?_⟩
  rw[hcast]
  have hpls:plN (Qq g r) gW.wd=n:=by rw[e3];exact hn.symm
  obtain⟨i,hii⟩:∃i,i=gW.y*gW.w+gW.x:=⟨_,rfl⟩
  have hi:i<gW.cs.length:=by omega
  have hic:((gW.y*gW.w:Nat):Int)+(gW.x:Int)=(i:Int):=by omega
  rw[hic]
  refine⟨gW.sty,(za hG6.box 7).trans rfl,⟨A5,gW,hl,i,⟨Qq g r,0,0,0,false,gW.sty⟩⟩,rfl,⟨hG6,hFW,hkW.lay hi,zjG hkW hi⟩,?_⟩
  intro A7 w7 hO7
  dsimp only at hO7
  have hp7:A7.p=A5.p:=hO7.p
  have hG7:=hO7.is
  rw[hp7.symm]
  rcases(show n=1\/n=2 by omega)with e|e
  ·subst e
   refine zb (fun h=>by cases h) (fun _=> ?_)
   refine⟨gW.x,(za hG7.box 4).trans rfl,zd (by omega) (by omega),rfl,hG7.old (k:=4) (by decide),hG7.free 4,fun w8 hs8=> ?_⟩
   have hO8:=qZ (g':={Qe gW i ⟨Qq g r,0,0,0,false,gW.sty⟩with x:=gW.x+1}) hG7 hs8 rfl rfl
   have hG8:=hO8.is
   refine⟨rfl,hG8.old (k:=8) (by decide),hG8.free 8,fun w9 hs9=>⟨A7,rfl,?_⟩⟩
   rw[zoz,<-hii]
   rw[show(i:Int)=((i+1:Nat):Int) - 1 by omega]at hs9
   exact hO6.trans (hO7.trans (hO8.trans (qZ hG8 hs9 rfl rfl)))
  ·subst e
   refine zb (fun _=> ?_) (fun h=>by cases h)
   have hi1:i+1<gW.cs.length:=by omega
   have hmW:(i+1)%gW.w≠0:=by
     rw[hii,show gW.y*gW.w+gW.x+1=gW.x+1+gW.y*gW.w by omega,Nat.add_mul_mod_self_right,Nat.mod_eq_of_lt (by omega)]
     omega
   have hgl:=Zm (l:=gW.cs) (w:=gW.w) (i:=i) (c:=⟨Qq g r,0,0,0,false,gW.sty⟩) hi (fun hp=>by have:=hkW.ok i hi;unfold Z0 at this;rw[if_pos hp]at this;exact this.1)
   have hl7:(Qe gW i ⟨Qq g r,0,0,0,false,gW.sty⟩).cs.length=gW.cs.length:=zQ _ _ _ _
   have hp01:(zg (Qe gW i ⟨Qq g r,0,0,0,false,gW.sty⟩).cs (i+1)).p=0\/(zg (Qe gW i ⟨Qq g r,0,0,0,false,gW.sty⟩).cs (i+1)).p=1:=by
     show(zg (zF _ _ _ _) (i+1)).p=0\/(zg (zF _ _ _ _) (i+1)).p=1
     rw[hgl,if_neg (by omega)]
     split
     ·rw[if_neg (by omega)];exact zjG hkW hi1
     ·split
      ·exact .inl rfl
      ·exact zjG hkW hi1
   have hF7:=zto (i:=i) (c:=⟨Qq g r,0,0,0,false,gW.sty⟩) hFW hkW.sty
   have hlk:=hkW.lay hi1
   refine⟨zd (by omega) (by omega),gW.sty,(za hG7.box 7).trans rfl,⟨A7,Qe gW i ⟨Qq g r,0,0,0,false,gW.sty⟩,hl,i+1,ZA gW.sty⟩,rfl,⟨hG7,hF7,⟨by rw[hl7];exact hi1,hlk.2.1,fun _=>Nat.succ_pos i,fun hh=>by rw[hl7];exact hlk.2.2.2 hh⟩,hp01⟩,?_⟩
   intro A8 w8 hO8
   dsimp only at hO8
   have hp8:A8.p=A7.p:=hO8.p
   have hG8:=hO8.is
   rw[hp8.symm]
   have hl8:(Qe (Qe gW i ⟨Qq g r,0,0,0,false,gW.sty⟩) (i+1) (ZA gW.sty)).cs.length=gW.cs.length:=(zQ _ _ _ _).trans hl7
   intro w9 hd9
   have hG9:=hG8.ext hd9.ext
   have hO9:=RlOut.ext hG8 hd9.ext
   refine⟨_,_,_,(za hG8.box 3).trans rfl,gW.sty,(za hG8.box 7).trans rfl,i,rfl,by rw[hl8];exact hi,zob (x:=⟨Qq g r,0,0,0,false,gW.sty⟩) hG9 (by rw[hl8];exact hi) fun w10 hO10=> ?_⟩
   have hG10:=hO10.is
   refine⟨gW.x,(za hG10.box 4).trans rfl,zd (by omega) (by omega),rfl,hG10.old (k:=4) (by decide),hG10.free 4,fun w11 hs11=> ?_⟩
   have hO11:=qZ (g':={Qe (Qe gW i ⟨Qq g r,0,0,0,false,gW.sty⟩) (i+1) (ZA gW.sty)with cs:=(Qe (Qe gW i ⟨Qq g r,0,0,0,false,gW.sty⟩) (i+1) (ZA gW.sty)).cs.set i ⟨Qq g r,0,0,0,false,gW.sty⟩,x:=gW.x+2}) hG10 hs11 rfl rfl
   have hG11:=hO11.is
   refine⟨rfl,hG11.old (k:=8) (by decide),hG11.free 8,fun w12 hs12=>⟨A8,rfl,?_⟩⟩
   rw[zox,<-hii,<-zq1 (wd:=gW.wd) hkW.ok hi1 hmW]
   rw[show(i:Int)=((i+1:Nat):Int) - 1 by omega]at hs12
   exact hO6.trans (hO7.trans (hO8.trans (hO9.trans (hO10.trans (hO11.trans (qZ hG11 hs12 rfl rfl))))))
end

section
open Go Vc Ut Tb Cl
def zaY(out:List Int):List Int->Option (List Int)
  |[]=>some out
  |r::l=>if r=59 then zaY (out++[-1]) l
   else if 48<=r/\r<=57 then zaY (out.set (out.length - 1) (min (10*max (zV out (out.length - 1)) 0+(r - 48)) 9999)) l
   else none
def Qz(l:List Int):Bool:=l.head? ==some 63
def zaX(l:List Int):Option (List Int):=zaY [-1] (if Qz l then l.tail else l)
structure Hd where
  num:List Int
  asked:Bool
  void:Bool
def hdG(g:Gs):Hd:=⟨g.num,g.asked,g.void⟩
def zbn(h:Hd)(r:Int)(first:Bool):Hd:=
  if r=63/\first=true then {h with asked:=true}
  else if r=59 then {h with num:=h.num++[-1]}
  else if 48<=r/\r<=57 then {h with num:=h.num.set (h.num.length - 1) (min (max (zV h.num (h.num.length - 1)) 0*10+(r - 48)) 9999)}
  else {h with void:=true}
def zar(h:Hd)(r:Int):Hd:=zbn (if h.num=[]then {h with num:=[-1]}else h) r (decide (h.num=[]))
def zcW(l:List Int):Hd:=l.foldl zar ⟨[],false,false⟩
theorem zv0(g:Gs)(r:Int)(f:Bool):hdG (qt g r f)=zbn (hdG g) r f:=by
  unfold qt zbn hdG
  split
  ·rfl
  split
  ·rfl
  split<;>rfl
theorem zgl(h:Hd)(r:Int):(zar h r).num≠[]:=by
  unfold zar
  have:∀h:Hd,h.num≠[]->∀f,(zbn h r f).num≠[]:=by
    intro h hn f
    unfold zbn
    split
    ·exact hn
    split
    ·simp
    split
    ·intro hh
     have:=congrArg List.length hh
     rw[List.length_set]at this
     exact hn (List.eq_nil_of_length_eq_zero this)
    ·exact hn
  split
  ·exact this _ (by simp) _
  ·rename_i hn;exact this _ hn _
theorem zgR:∀(l:List Int) (h:Hd),h.num≠[]->(l.foldl zar h).asked=h.asked/\(h.void=true->(l.foldl zar h).void=true)/\(h.void=false->match zaY h.num l with|some o=>(l.foldl zar h).void=false/\(l.foldl zar h).num=o|none=>(l.foldl zar h).void=true)
  |[],h,_=>⟨rfl,id,fun hv=>⟨hv,rfl⟩⟩
  |r::l,h,hn=>by
   have e:zar h r=zbn h r false:=by unfold zar;rw[if_neg hn,decide_eq_false hn]
   have ih:=zgR l (zar h r) (zgl h r)
   rw[List.foldl_cons]
   rw[e]at ih⊢
   unfold zbn at ih⊢
   rw[if_neg (fun hh=>by cases hh.2)]at ih⊢
   unfold zaY
   by_cases h1:r=59
   ·rw[if_pos h1]at ih⊢
    rw[if_pos h1]
    exact ih
   rw[if_neg h1]at ih⊢
   rw[if_neg h1]
   by_cases h2:48<=r/\r<=57
   ·rw[if_pos h2]at ih⊢
    rw[if_pos h2,Int.mul_comm 10]
    exact ih
   ·rw[if_neg h2]at ih⊢
    rw[if_neg h2]
    exact⟨ih.1,fun _=>ih.2.1 rfl,fun _=>ih.2.1 rfl⟩
theorem zkJ(l:List Int):(match zaX l with|some o=>(zcW l).void=false/\(if l=[]then(zcW l).num=[]/\o=[-1]else(zcW l).num=o)/\(zcW l).asked=Qz l|none=>(zcW l).void=true):=by
  cases l with
  |nil=>exact⟨rfl,by rw[if_pos rfl];exact⟨rfl,rfl⟩,rfl⟩
  |cons r l=>
   unfold zaX zcW
   rw[List.foldl_cons]
   have e:zar ⟨[],false,false⟩ r=zbn ⟨[-1],false,false⟩ r true:=rfl
   rw[e]
   by_cases h0:r=63
   ·subst h0
    have ea:Qz (63::l)=true:=rfl
    rw[ea,if_pos rfl,List.tail_cons]
    have eh:zbn ⟨[-1],false,false⟩ 63 true=⟨[-1],true,false⟩:=rfl
    rw[eh]
    have:=zgR l ⟨[-1],true,false⟩ (by simp)
    have h3:=this.2.2 rfl
    dsimp only at h3
    split
    ·rename_i o ho
     rw[ho]at h3
     exact⟨h3.1,by rw[if_neg (by simp)];exact h3.2,this.1⟩
    ·rename_i ho
     rw[ho]at h3
     exact h3
   ·have ea:Qz (r::l)=false:=by
      unfold Qz
      rw[List.head?_cons]
      exact beq_eq_false_iff_ne.2 (fun hh=>h0 (Option.some.inj hh))
    rw[ea,if_neg (by simp)]
    have eh:zbn ⟨[-1],false,false⟩ r true=zbn ⟨[-1],false,false⟩ r false:=by
      unfold zbn;rw[if_neg (show ¬(r=63/\true=true)from fun hh=>h0 hh.1),if_neg (show ¬(r=63/\false=true)from fun hh=>h0 hh.1)]
    have es:zar ⟨[-1],false,false⟩ r=zbn ⟨[-1],false,false⟩ r false:=rfl
    rw[eh,<-es]
    have:=zgR (r::l) ⟨[-1],false,false⟩ (by simp)
    rw[List.foldl_cons]at this
    have h3:=this.2.2 rfl
    dsimp only at h3
    split
    ·rename_i o ho
     rw[ho]at h3
     exact⟨h3.1,by rw[if_neg (by simp)];exact h3.2,this.1⟩
    ·rename_i ho
     rw[ho]at h3
     exact h3
end

section
open Go Go.RowKit Vc Ut Tb Cl
structure GAt where
  a:Option Addr
  c:Nat
  l:List Int
  i:Nat
def zkC:CallSpec where
  G:=GAt
  args:=fun g=> #[.slice g.a g.l.length g.c, .int .i64 g.i]
  pre:=fun g w=>CellsAt w g.a (g.l.map (Value.int .i64))
  X:=Int
  res:=fun x=> .int .i64 x
  post:=fun g w x w'=>x=zV g.l g.i/\w'=w
structure GNu where
  a:Option Addr
  c:Nat
  l:List Int
structure NuX where
  a:Option Addr
  n:Nat
  c:Nat
  asked:Bool
  ok:Bool
structure nuOut(l:List Int)(w w':World)(x:NuX):Prop where
  some:∀o,zaX l=some o->x.ok=true/\x.asked=Qz l/\x.n=o.length/\Made w w' 3 1 x.a x.n (o.map (Value.int .i64)) x.c
  none:zaX l=none->x.ok=false
  ext:Ext w w'
def zjq:CallSpec where
  G:=GNu
  args:=fun g=> #[.slice g.a g.l.length g.c]
  pre:=fun g w=>CellsAt w g.a (g.l.map (Value.int .i32))/\g.l.length<=1099511627776/\g.l.length<=g.c
  X:=NuX
  res:=fun x=> .tuple #[.slice x.a x.n x.c, .bool x.asked, .bool x.ok]
  post:=fun g w x w'=>nuOut g.l w w' x
def Z6(l:List Int):List Int:=if Qz l then l.tail else l
structure NuS where
  i:Nat
  a:Option Addr
  c:Nat
  o:List Int
structure nuI(l:List Int)(w00:World)(x:NuS)(w:World):Prop where
  le:x.i<=(Z6 l).length
  eq:zaY x.o ((Z6 l).drop x.i)=zaX l
  ne:x.o≠[]
  len:x.o.length<=x.i+1
  bd:∀n∈x.o, -1<=n/\n<=9999
  made:Made w00 w 3 1 x.a x.o.length (x.o.map (Value.int .i64)) x.c
def zuc(g:GNu)(w00:World):Ann where
  sp:=[]
  cuts:=[(1,1,{X:=Unit,sh:=fun _ _=>[(5, .bool (Qz g.l))],inv:=fun _ w0 _ w=>w=w0}),(2,3,{X:=Option Addr×Nat,sh:=fun _ x=>[(0, .slice x.1 (Z6 g.l).length x.2)],inv:=fun e w0 x w=>w=w0/\CellsAt w x.1 ((Z6 g.l).map (Value.int .i32))})]
  loops:=[(6,{
    X:=NuS
    sh:=fun _ x=>[(7, .int .i64 x.i),(6, .slice x.a x.o.length x.c)]
    inv:=fun _ _ x w=>nuI g.l w00 x w
    mu:=fun _ _ x _=>(Z6 g.l).length - x.i})]
end

section
set_option linter.unusedVariables false
open Go Go.RowKit Vc Ut Tb Cl
open Value
set_option maxRecDepth 1000000
theorem zu0(hsp:zf Tryz.prog [])(h:∀(g:GAt) (w:World),CellsAt w g.a (List.map (int IntKind.i64) g.l)->zc (decide ((g.i:Int)<(g.l.length:Int))) (qd (g.i:Int) g.l.length fun k=>zr g.a fun(b o:Nat)=>zt w b (o+k) fun n=>∃(x:Int),int .i64 n=int .i64 x/\x=zV g.l g.i/\w=w) (∃(x:Int),int .i64 (-1:Int)=int .i64 x/\x=zV g.l g.i/\w=w)):zkC.Ok Tryz.prog 79:=ze zkC (zP []) [] (fun _ _=>rfl) (fun _ _=>rfl) hsp Tryz.func79 rfl (n:=2) (fun _=>rfl) (by kernel_rfl) (zl (by kernel_rfl) h)
theorem zrT(hsp:zf Tryz.prog [])(h:∀(g:GNu) (w:World),CellsAt w g.a (List.map (int IntKind.i32) g.l)/\g.l.length<=1099511627776/\g.l.length<=g.c->zc (decide ((g.l.length:Int)>0)) (qd (0:Int) g.l.length fun k=>zr g.a fun(b o:Nat)=>zX w .i32 b (o+k) fun n=>∃(c:Unit),bool (n==63)=bool (Qz g.l)/\w=w) (∃(c:Unit),bool false=bool (Qz g.l)/\w=w)/\∀(u:Nat->Value) (c:Unit) w',w'=w->zc (Qz g.l) (∃(ln:Nat),(1:Int)=(ln:Int)/\ln<=g.l.length/\∀(ad':Option Addr),SlAt g.a ad' g.c ln 1->∃(c1:Option Addr×Nat),slice ad' (g.l.length - ln) (g.c - ln)=slice c1.fst (Z6 g.l).length c1.snd/\w'=w'/\CellsAt w' c1.fst (List.map (int IntKind.i32) (Z6 g.l))) (∃(c1:Option Addr×Nat),slice g.a g.l.length g.c=slice c1.fst (Z6 g.l).length c1.snd/\w'=w'/\CellsAt w' c1.fst (List.map (int IntKind.i32) (Z6 g.l)))/\∀(u1:Nat->Value) (c1:Option Addr×Nat) w'1,w'1=w'/\CellsAt w'1 c1.fst (List.map (int IntKind.i32) (Z6 g.l))->∀b w1,New w'1 (Obj.cells #[int .i64 (-1:Int)] 3) b w1->(∃(x:NuS),int .i64 0=int .i64 (x.i:Int)/\slice (some ⟨b,0,none⟩) 1 1=slice x.a x.o.length x.c/\nuI g.l w x w1)/\∀(u2:Nat->Value) (x:NuS) w'2,nuI g.l w x w'2->zc (decide ((x.i:Int)<(↑(Z6 g.l).length:Int))) (InR .i64 ((x.o.length:Int) - 1)/\qd (x.i:Int) ((Z6 g.l).length) fun k=>zr c1.fst fun(b1 o:Nat)=>zX w'2 .i32 b1 (o+k) fun n=>zc (n==59) (∀b2 w11,New w'2 (Obj.cells #[int .i64 (-1:Int)] 3) b2 w11->∃(a':Option Addr) (c':Nat) (w'3:World),zA Tryz.prog #[61,61] 61 (slice x.a x.o.length x.c) (slice (some ⟨b2,0,none⟩) 1 1) w11 a' (x.o.length+1) c' w'3/\KO w11 w'3/\InR .i64 ((x.i:Int)+1)/\∃(y:NuS),int .i64 ((x.i:Int)+1)=int .i64 (y.i:Int)/\slice a' (x.o.length+1) c'=slice y.a y.o.length y.c/\nuI g.l w y w'3/\(Z6 g.l).length - y.i<(Z6 g.l).length - x.i) (qd (x.i:Int) ((Z6 g.l).length) fun k1=>zr c1.fst fun(b2 o1:Nat)=>zX w'2 .i32 b2 (o1+k1) fun n1=>zc (decide (n1>=48)) (qd (x.i:Int) ((Z6 g.l).length) fun k2=>zr c1.fst fun(b3 o2:Nat)=>zX w'2 .i32 b3 (o2+k2) fun n2=>zc (decide (n2<=57)) (∀w11,Drew w'2 w11->qd ((x.o.length:Int) - 1) x.o.length fun k3=>zr x.a fun(b4 o3:Nat)=>zt w'2 b4 (o3+k3) fun n3=>InR .i64 ((10:Int)*if(0:Int)>n3 then(0:Int)else n3)/\qd (x.i:Int) ((Z6 g.l).length) fun k4=>zr c1.fst fun(b5 o4:Nat)=>zX w'2 .i32 b5 (o4+k4) fun n4=>InR .i32 (n4 - 48)/\InR .i64 (n4 - 48)/\Below w11.heap.size w11 w11/\InR .i64 (((10:Int)*if(0:Int)>n3 then(0:Int)else n3)+(n4 - 48))/\qd ((x.o.length:Int) - 1) x.o.length fun k5=>zr x.a fun(b6 o5:Nat)=>zh w11 b6 (o5+k5) (int IntKind.i64 (if(9999:Int)<((10:Int)*if(0:Int)>n3 then(0:Int)else n3)+(n4 - 48)then(9999:Int)
 else((10:Int)*if(0:Int)>n3 then(0:Int)else n3)+(n4 - 48))) fun w12=>InR .i64 ((x.i:Int)+1)/\∃(y:NuS),int .i64 ((x.i:Int)+1)=int .i64 (y.i:Int)/\slice x.a x.o.length x.c=slice y.a y.o.length y.c/\nuI g.l w y w12/\(Z6 g.l).length - y.i<(Z6 g.l).length - x.i) (∃(x1:NuX),tuple #[slice none 0 0,bool false,bool false]=tuple #[slice x1.a x1.n x1.c,bool x1.asked,bool x1.ok]/\nuOut g.l w w'2 x1)) (∃(x1:NuX),tuple #[slice none 0 0,bool false,bool false]=tuple #[slice x1.a x1.n x1.c,bool x1.asked,bool x1.ok]/\nuOut g.l w w'2 x1))) (∃(x1:NuX),tuple #[slice x.a x.o.length x.c,bool (Qz g.l),bool true]=tuple #[slice x1.a x1.n x1.c,bool x1.asked,bool x1.ok]/\nuOut g.l w w'2 x1)):zjq.Ok Tryz.prog 78:=ze zjq zuc [] (fun _ _=>rfl) (fun _ _=>rfl) hsp Tryz.func78 rfl (n:=1) (fun _=>rfl) (by kernel_rfl) (zl (by kernel_rfl) h)
end

section
open Go Go.RowKit Vc Ut Tb Cl
theorem zn9:zkC.Ok Tryz.prog 79:=by
  refine zu0 trivial ?_
  rintro⟨a,c,l,i⟩ w hc
  dsimp only at hc⊢
  refine zb (fun h=> ?_) (fun h=>⟨_,rfl,?_,rfl⟩)
  ·have hlt:i<l.length:=by have:=of_decide_eq_true h;omega
   exact⟨i,rfl,hlt,hc.int hlt fun b1 o1 hb1=>⟨_,hb1,_,rfl,Qa hlt,rfl⟩⟩
  ·have h:=of_decide_eq_false h
   unfold zV;rw[List.getD_eq_getElem?_getD,List.getElem?_eq_none (by omega)];rfl
theorem zwM(l:List Int):(Z6 l).length<=l.length:=by
  unfold Z6;split
  ·rw[List.length_tail];omega
  ·exact Nat.le_refl _
theorem zpT{l:List Int}{i:Nat}{o:List Int}(h:i<l.length):zaY o (l.drop i)=if l.getD i 0=59 then zaY (o++[-1]) (l.drop (i+1))
    else if 48<=l.getD i 0/\l.getD i 0<=57 then zaY (o.set (o.length - 1) (min (10*max (zV o (o.length - 1)) 0+(l.getD i 0 - 48)) 9999)) (l.drop (i+1))else none:=by
  rw[List.drop_eq_getElem_cons h,List.getD_eq_getElem?_getD,List.getElem?_eq_getElem h,zaY];rfl
set_option maxRecDepth 4000 in
theorem zrU:zjq.Ok Tryz.prog 78:=by
  refine zrT trivial ?_
  rintro⟨a,c,l⟩ w ⟨hc,hll,hcap⟩
  dsimp only at hc hll hcap⊢
  have hal:=zwM l
  refine⟨zb (fun h=> ?_) (fun h=>⟨(),?_,rfl⟩),?_⟩
  ·have hlt:0<l.length:=by have:=of_decide_eq_true h;omega
   refine⟨0,rfl,hlt,hc.int hlt fun b o hb=>⟨_,hb,(),?_,rfl⟩⟩
   obtain⟨x,l',rfl⟩:=List.exists_cons_of_length_pos hlt
   unfold Qz
   rw[List.head?_cons]
   show Value.bool (x==63)=Value.bool (some x==some 63)
   rfl
  ·have h:l=[]:=List.eq_nil_of_length_eq_zero (by have:=of_decide_eq_false h;omega)
   subst h;rfl
  rintro _ - w1 hw1
  replace hw1:=hw1.symm
  subst hw1
  refine⟨zb (fun h=> ?_) (fun h=>⟨(a,c),?_,rfl,?_⟩),?_⟩
  ·have hl0:0<l.length:=by
     rcases Nat.eq_zero_or_pos l.length with e|e
     ·rw[List.eq_nil_of_length_eq_zero e]at h;cases h
     ·exact e
   have hT:Z6 l=l.drop 1:=by unfold Z6;rw[if_pos h,List.drop_one]
   refine⟨1,rfl,hl0,fun ad' hsl=>⟨(ad',c - 1),?_,rfl,?_⟩⟩
   ·dsimp only;rw[hT,List.length_drop]
   ·dsimp only
    rw[hT]
    have hca:=hc.drop (s:=1) hsl (by omega) (by rw[List.length_map];omega)
    rw[Nat.one_mul,<-List.map_drop]at hca
    exact hca
  ·dsimp only
   unfold Z6;rw[if_neg (by rw[h];decide)]
  ·dsimp only
   unfold Z6;rw[if_neg (by rw[h];decide)];exact hc
  rintro _ ⟨a1,c1⟩ w2 ⟨hw2,hc2⟩
  replace hw2:=hw2.symm
  subst hw2
  dsimp only at hc2⊢
  intro b w3 hn3
  have z3:=hn3.size
  have hm3:Made w w3 3 1 (some ⟨b,0,none⟩) 1 (([-1]:List Int).map (Value.int .i64)) 1:=⟨⟨rfl, .inr ⟨b,_,rfl,hn3.heap,Nat.le_refl _,by decide,rfl,rfl⟩⟩,fun q hq=>by have:b=q:=Option.some.inj hq;omega,hn3.ext⟩
  refine⟨⟨⟨0,some ⟨b,0,none⟩,1,[-1]⟩,rfl,rfl,⟨Nat.zero_le _,rfl,by simp,Nat.le_refl _,fun n hn=>by rw[List.mem_singleton.1 hn];exact⟨by decide,by decide⟩,hm3⟩⟩,?_⟩
  rintro _ ⟨i,ao,co,o⟩ w4 hI
  obtain⟨hle,heq,hne,hlen,hbd,hm⟩:=hI
  dsimp only at hle heq hne hlen hbd hm⊢
  have hol:0<o.length:=by rcases Nat.eq_zero_or_pos o.length with e|e;exact absurd (List.eq_nil_of_length_eq_zero e) hne;exact e
  have hc4:CellsAt w4 a1 ((Z6 l).map (Value.int .i32)):=hc2.ext hm.ext
  refine zb (fun h=> ?_) (fun h=> ?_)
  ·have hi:i<(Z6 l).length:=by have:=of_decide_eq_true h;omega
   have hnd:=zpT (o:=o) hi
   rw[heq]at hnd
   have step:∀{W:World} {a':Option Addr} {c' n':Nat} {o':List Int},n'=o'.length->zaY o' ((Z6 l).drop (i+1))=zaX l->o'≠[]->o'.length<=i+2->(∀n∈o', -1<=n/\n<=9999)->Made w W 3 1 a' o'.length (o'.map (Value.int .i64)) c'->
    InR .i64 ((i:Int)+1)/\∃y:NuS,Value.int .i64 ((i:Int)+1)=Value.int .i64 (y.i:Int)/\Value.slice a' n' c'=Value.slice y.a y.o.length y.c/\nuI l w y W/\(Z6 l).length - y.i<(Z6 l).length - i:=
     fun e1 e2 e3 e4 e5 e6=>⟨zd (by omega) (by omega),⟨i+1,_,_,_⟩,rfl,by rw[e1],⟨hi,e2,e3,e4,e5,e6⟩,by show(Z6 l).length - (i+1)<_;omega⟩
   have stop:zaX l=none->∃x1:NuX,Value.tuple #[.slice none 0 0, .bool false, .bool false]=Value.tuple #[.slice x1.a x1.n x1.c, .bool x1.asked, .bool x1.ok]/\nuOut l w w4 x1:=
     fun hn=>⟨⟨none,0,0,false,false⟩,rfl,⟨fun o ho=>(by rw[hn]at ho;cases ho),fun _=>rfl,hm.ext⟩⟩
   refine⟨zd (by omega) (by omega),i,rfl,hi,hc4.int hi fun b2 o2 hb2=>⟨_,hb2,zb (fun h1=> ?_) (fun h1=> ?_)⟩⟩
   ·rw[if_pos (beq_iff_eq.1 h1)]at hnd
    intro b5 w5 hn5
    obtain⟨a6,c6,w6,hrun,hko,hm6, -⟩:=hm.pushN (P:=Tryz.prog) (t:=61) (ty:=61) zhv (by decide) (m:=1) (news:=[Value.int .i64 (-1)]) hn5 rfl (by intro u hu;rw[List.mem_singleton.1 hu];rfl) (by unfold maxLen;omega) (.inr (by omega))
    have hm6':Made w w6 3 1 a6 (o++[-1]).length ((o++[-1]).map (Value.int .i64)) c6:=by
      rw[List.map_append,List.length_append];exact hm6
    exact⟨a6,c6,w6,hrun,hko,step (by rw[List.length_append];rfl) hnd.symm (by simp) (by rw[List.length_append];show o.length+1<=_;omega) (fun n hn=>by
      rcases List.mem_append.1 hn with hn|hn
      ·exact hbd n hn
      ·rw[List.mem_singleton.1 hn];exact⟨by decide,by decide⟩) hm6'⟩
   ·rw[if_neg (beq_eq_false_iff_ne.1 h1)]at hnd
    refine⟨i,rfl,hi,hc4.int hi fun b3 o3 hb3=>⟨_,hb3,zb (fun h2=>⟨i,rfl,hi,hc4.int hi fun b4 o4 hb4=>⟨_,hb4,zb (fun h3=> ?_) (fun h3=>stop ?_)⟩⟩) (fun h2=>stop ?_)⟩⟩
    ·have h2:=of_decide_eq_true h2
     have h3:=of_decide_eq_true h3
     rw[if_pos ⟨h2,h3⟩]at hnd
     have hlast:o.length - 1<o.length:=by omega
     have hco:=hm.row.cells
     have hb:=hbd _ (zeF hlast)
     intro w5 hd5
     refine⟨o.length - 1,by omega,hlast,hco.int hlast fun b5 o5 hb5=>⟨_,hb5,?_⟩⟩
     rw[Qa hlast]
     refine⟨zd (by split<;>omega) (by split<;>omega),i,rfl,hi,hc4.int hi fun b6 o6 hb6=>⟨_,hb6,⟨by show(-2147483648:Int)<=_;omega,by show _<=(2147483647:Int);omega⟩,zd (by omega) (by omega),Ext.refl _,zd (by split<;>omega) (by split<;>omega),o.length - 1,by omega,hlast,?_⟩⟩
     obtain⟨q,hq⟩:=zad hm.row hol
     have hm5:=hm.later hd5.ext
     have hrow:=hm5.row
     rw[hq]at hrow⊢
     obtain⟨k1,k2⟩:=hrow.can (j:=0+(o.length - 1)) (by omega)
     refine⟨rfl,k1,k2,fun w6 hs6=> ?_⟩
     have hr:=hrow.put hs6
     rw[Nat.zero_add,<-List.map_set]at hr
     have e:(if 9999<(10*if 0>zV o (o.length - 1)then 0 else zV o (o.length - 1))+((Z6 l).getD i 0 - 48)then(9999:Int)else(10*if 0>zV o (o.length - 1)then 0 else zV o (o.length - 1))+((Z6 l).getD i 0 - 48))=min (10*max (zV o (o.length - 1)) 0+((Z6 l).getD i 0 - 48)) 9999:=by
       split<;>split<;>omega
     rw[e]at hr
     refine step List.length_set.symm hnd.symm (fun hh=>hne (List.eq_nil_of_length_eq_zero (by have:=congrArg List.length hh;rw[List.length_set]at this;exact this))) (by rw[List.length_set];omega) (fun n hn=> ?_) ⟨by rw[List.length_set];exact hr,fun g hg=>hm.new g (by rw[hq];exact hg),Ext.stored hm5.ext hs6 (hm.new q (by rw[hq];rfl))⟩
     rcases List.mem_or_eq_of_mem_set hn with hn|hn
     ·exact hbd n hn
     ·rw[hn];omega
    ·have h3:=of_decide_eq_false h3
     rw[if_neg (fun hh=>h3 hh.2)]at hnd
     exact hnd
    ·have h2:=of_decide_eq_false h2
     rw[if_neg (fun hh=>h2 hh.1)]at hnd
     exact hnd
  ·have hi:i=(Z6 l).length:=by have:=of_decide_eq_false h;omega
   rw[hi,List.drop_length]at heq
   have heq:some o=zaX l:=heq
   refine⟨⟨ao,o.length,co,Qz l,true⟩,rfl,⟨fun o' ho=> ?_,fun hn=>(by rw[hn]at heq;cases heq),hm.ext⟩⟩
   rw[<-heq]at ho
   have ho:=Option.some.inj ho
   subst ho
   exact⟨rfl,rfl,rfl,hm⟩
end
end Go.Proofs.YtjdohhididpomaaGreatDoor
