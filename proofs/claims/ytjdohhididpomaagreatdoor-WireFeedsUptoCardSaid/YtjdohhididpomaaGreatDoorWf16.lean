/-
  Texts joined by program: VgXc, WkXc, WkXh, WkXi, WkXj, WkXk, WkXl, SpXi.
-/
import Derived.Test.YtjdohhididpomaaGreatDoorWf15
import Derived.Test.YtjdohhididpomaaGreatDoorProg
import Derived.KernelRfl
import Derived.Test.YtjdohhididpomaaGreatDoorWf07
import Derived.Test.YtjdohhididpomaaGreatDoorWf14
set_option linter.unusedVariables false
set_option linter.unusedSimpArgs false

namespace Go.Proofs.YtjdohhididpomaaGreatDoor
section
set_option linter.unusedVariables false
open Go Go.RowKit Vc Ut Tb Cl
open Value
set_option maxRecDepth 1000000
end

section
open Go Go.RowKit Vc Ut Tb Cl
theorem Qw:ElemOk Tryz.prog 22 52 6 48:=QQ (.agg #[.string ⟨#[]⟩, .int .i8 0, .int .i64 0, .int .i64 0, .bool false, .int .u16 0]) (by kernel_rfl) (by kernel_rfl) rfl
theorem zlD(a b:List Ce):zm (a++b)=zm a+zm b:=by simp[zm]
theorem ziu(l:List Ce)(i:Nat):zm (l.take i)<=zm l:=by
  have:=zlD (l.take i) (l.drop i)
  rw[List.take_append_drop]at this;omega
theorem zus{l:List Ce}{i:Nat}(h:i<l.length):l.take (i+1)=l.take i++[zg l i]:=by
  rw[List.take_succ_eq_append_getElem h,zbE h]
end

section
open Go Go.RowKit Vc Ut Tb Cl
theorem Qs{w:World}{e t:TypeId}{s n c q:Nat}{ad:Option Addr}{vs:List Value}{cs:Array Value}(h:Row w e s ad n vs c)(hq:w.heap[q]? =some (.cells cs t))(hne:t≠e):zV ad≠some q:=fun hh=>by
  obtain⟨cur,h1⟩:=QH h hh
  rw[hq]at h1
  injection h1 with h2
  injection h2 with _ h3
  exact hne h3
theorem zhU{w:World}{e t:TypeId}{s s' n c n' c' q:Nat}{ad ad':Option Addr}{vs vs':List Value}(h:Row w e s ad n vs c)(h':Row w t s' ad' n' vs' c')(hne:t≠e)(hq:zV ad'=some q):zV ad≠some q:=fun hh=>by
  obtain⟨cur,h1⟩:=QH h' hq
  exact Qs h h1 hne hh
theorem GlIn.lt{w:World}{A:GlP}{g:Gs}(h:GlIn w A g):∀q,own A q->q<w.heap.size:=fun q hq=>by
  rcases hq with rfl|hq|hq
  ·exact zE h.box
  ·exact h.row.lt hq
  ·exact h.num.lt hq
theorem GlIn.cp{w:World}{A:GlP}{g:Gs}(h:GlIn w A g):zV A.ca≠some A.p:=Qs h.row h.box (by decide)
theorem GlIn.np{w:World}{A:GlP}{g:Gs}(h:GlIn w A g):zV A.na≠some A.p:=Qs h.num h.box (by decide)
theorem GlIn.cn{w:World}{A:GlP}{g:Gs}(h:GlIn w A g){q:Nat}(hq:zV A.na=some q):zV A.ca≠some q:=zhU h.row h.num (by decide) hq
theorem GlIn.ud{w:World}{A:GlP}{g:Gs}(h:GlIn w A g):UD w:=h.u w (Below.refl _ _)
theorem GlIn.ext{w w':World}{A:GlP}{g:Gs}(h:GlIn w A g)(hx:Ext w w'):GlIn w' A g:=
  ⟨hx.heap h.box,h.row.ext hx,h.num.ext hx,h.nil,h.bq,Nat.le_trans h.bw hx.size,h.u.on (hx.mono h.bw)⟩
theorem GlIn.below{w w':World}{A:GlP}{g:Gs}(h:GlIn w A g)(hf:Fr (own A) w w'):Below A.B w w':=hf.below h.bw (fun q hq hh=>by have:=h.bq q hh;omega)
theorem GlOut.refl{w:World}{A:GlP}{g:Gs}(h:GlIn w A g):GlOut w w A A g:=⟨h,rfl,rfl,rfl,Step.refl h.lt⟩
theorem GlOut.ext{w w':World}{A:GlP}{g:Gs}(h:GlIn w A g)(hx:Ext w w'):GlOut w w' A A g:=⟨h.ext hx,rfl,rfl,rfl,Step.ext hx h.lt⟩
theorem GlOut.trans{a b c:World}{A A1 A2:GlP}{g1 g2:Gs}(h:GlOut a b A A1 g1)(k:GlOut b c A1 A2 g2):GlOut a c A A2 g2:=
  ⟨k.is,k.p.trans h.p,k.b.trans h.b,k.rb.trans h.rb,h.st.trans k.st⟩
theorem GlIn.old{w:World}{A:GlP}{g:Gs}(h:GlIn w A g){k:Nat}(hk:k<14):∃old,w.cell? ⟨A.p,k,none⟩=some old:=by
  rw[za h.box];exact⟨_,Array.getElem?_eq_getElem (by show k<14;exact hk)⟩
theorem GlIn.free{w:World}{A:GlP}{g:Gs}(h:GlIn w A g)(k:Nat):w.frozen? ⟨A.p,k,none⟩=false:=zy h.box _
theorem qG{w w1:World}{A:GlP}{g g':Gs}{k:Nat}{v:Value}(h:GlIn w A g)(hs:Stored w ⟨A.p,k,none⟩ v w1)(hv:(glV A g).setIfInBounds k v=glV A g')(hc:g'.cs=g.cs)(hn:g'.num=g.num):GlOut w w1 A A g':=by
  have hst:Step (own A) w w1 (own A):=Step.stored hs (.inl rfl) h.lt
  refine⟨⟨by rw[<-hv];exact hs.heap h.box,?_,?_,by rw[hn];exact h.nil,h.bq,by rw[hs.size];exact h.bw,h.u.on (h.below hst.fr)⟩,rfl,rfl,rfl,hst⟩
  ·rw[hc];exact h.row.keep fun q hq=>hs.other (by show q≠A.p;rintro rfl;exact h.cp hq)
  ·rw[hn];exact h.num.keep fun q hq=>hs.other (by show q≠A.p;rintro rfl;exact h.np hq)
theorem zce{w w1:World}{A:GlP}{g:Gs}{cs':List Ce}(h:GlIn w A g)(hr:Row w1 52 6 A.ca g.cs.length (qn cs') A.cc)(hf:Fr (fun q=>zV A.ca=some q) w w1):GlOut w w1 A A {g with cs:=cs'}:=by
  have hl:cs'.length=g.cs.length:=by have:=hr.1;rw[zW]at this;omega
  have hfo:Fr (own A) w w1:=hf.mono fun q _ hq=> .inr (.inl hq)
  refine⟨⟨?_,by rw[hl];exact hr,h.num.keep fun q hq=>hf.block q (h.num.lt hq) (h.cn hq),h.nil,h.bq,Nat.le_trans h.bw hf.size,h.u.on (h.below hfo)⟩,rfl,rfl,rfl,hfo,fun q hq=>⟨Nat.lt_of_lt_of_le (h.lt q hq) hf.size, .inl hq⟩⟩
  have:=(hf.block A.p (zE h.box) h.cp).trans h.box
  rw[this]
  unfold glV
  dsimp only
  rw[hl]
theorem zlI:zgw.Ok Tryz.prog 63:=by
  refine ztM trivial ?_
  rintro⟨A,g⟩ w ⟨hG,hF⟩ w1 hd
  dsimp only at hG hF⊢
  have hw:=hF.w;have hx:=hF.x
  have hG1:=hG.ext hd.ext
  refine⟨g.x,(za hG.box 4).trans rfl,g.w,(za hG.box 0).trans rfl,zb (fun h=>⟨g.w,(za hG1.box 0).trans rfl,zd (by omega) (by omega),rfl,hG1.old (k:=4) (by decide),hG1.free 4,fun w2 hs=>⟨A,rfl,?_⟩⟩) (fun h=>⟨A,rfl,?_⟩)⟩
  ·have h:g.w<=g.x:=by have:=of_decide_eq_true h;omega
   have e:qq g={g with x:=g.w - 1}:=by unfold qq;rw[if_pos h]
   have ev:(if 0>(g.w:Int) - 1 then 0 else(g.w:Int) - 1)=((g.w - 1:Nat):Int):=by split<;>omega
   rw[ev]at hs
   rw[e]
   exact(GlOut.ext hG hd.ext).trans (qG hG1 hs rfl rfl rfl)
  ·have h:¬g.w<=g.x:=by have:=of_decide_eq_false h;omega
   have e:qq g=g:=by unfold qq;rw[if_neg h]
   rw[e];exact GlOut.ext hG hd.ext
theorem zlW:Q6 Tryz.prog 52=some (.agg #[.string ⟨#[]⟩, .int .i8 0, .int .i64 0, .int .i64 0, .bool false, .int .u16 0]):=by kernel_rfl
theorem zsK:∃i,Tryz.prog.info? 52=some i/\i.size=6:=by
  obtain⟨i,z,h1,h2,h3,h4⟩:=Qw.info
  exact⟨i,h1,h3⟩
theorem QX{w:World}{e:TypeId}{s n c:Nat}{ad:Option Addr}{vs:List Value}(h:Row w e s ad n vs c)(hn:0<n):∃q,ad=some ⟨q,0,none⟩:=by
  rcases h.2 with⟨_,h1,_⟩|⟨g',cur,rfl,_⟩
  ·omega
  ·exact⟨g',rfl⟩
theorem zdg(ad:Option Addr){n:Nat}(c:Nat)(w:World)(hn:n=0):(Builtin.clear_ #[22] 0 #[.slice ad n c]).run Tryz.prog w= .ok (.tuple #[]) w:=by
  subst hn
  cases ad<;>simp[Builtin.clear_,run_underlying Qw.und]
theorem zlq:zgv.Ok Tryz.prog 64:=by
  refine ztj trivial ?_
  rintro⟨A,g⟩ w ⟨hG,hF⟩ w1 hd
  dsimp only at hG hF⊢
  have hw:=hF.w;have hh:=hF.h;have hy:=hF.y
  have hG1:=hG.ext hd.ext
  have hO1:=GlOut.ext hG hd.ext
  have hwh:g.w*g.h<=1048576:=Nat.le_trans (Nat.mul_le_mul hw hh) (by decide)
  have hlen:=hF.len
  refine⟨g.y,(za hG.box 5).trans rfl,zd (by omega) (by omega),g.h,(za hG.box 1).trans rfl,zb (fun h=>⟨g.y,(za hG1.box 5).trans rfl,zd (by omega) (by omega),rfl,hG1.old (k:=5) (by decide),hG1.free 5,fun w2 hs=>⟨A,rfl,?_⟩⟩) (fun h=> ?_)⟩
  ·have h:g.y+1<g.h:=by have:=of_decide_eq_true h;omega
   have e:zZ g={g with y:=g.y+1}:=by unfold zZ;rw[if_pos h]
   rw[e]
   exact hO1.trans (qG hG1 hs rfl rfl rfl)
  have h:¬g.y+1<g.h:=by have:=of_decide_eq_false h;omega
  have e:zZ g={g with cs:=g.cs.drop g.w++List.replicate (min g.w g.cs.length) (zr 0)}:=by unfold zZ;rw[if_neg h]
  rw[e]
  intro w2 hd2
  have hG2:=hG1.ext hd2.ext
  have hO2:=hO1.trans (GlOut.ext hG1 hd2.ext)
  refine⟨A.ca,g.cs.length,A.cc,(za hG1.box 3).trans rfl,A.ca,g.cs.length,A.cc,(za hG1.box 3).trans rfl,g.w,(za hG1.box 0).trans rfl,A.ca,g.cs.length,A.cc,(za hG1.box 3).trans rfl,min g.w g.cs.length,by split<;>omega,Nat.min_le_right _ _,?_⟩
  intro ad' hsl
  have hcc:=hG2.row.le.1
  by_cases h0:g.cs.length=0
  · -- nothing is there
    have hm0:min g.w g.cs.length=0:=by omega
    have hcs:g.cs=[]:=List.eq_nil_of_length_eq_zero h0
    have hcopy:zcF Tryz.prog #[22,22] 3 (.slice A.ca g.cs.length A.cc) (.slice ad' (g.cs.length - min g.w g.cs.length) (A.cc - min g.w g.cs.length)) w2 0 w2:=by
      obtain⟨i,hi,hs⟩:=zsK
      have hfc:∀(a:Option Addr) (c:Nat),(Builtin.firstCells 6 0 (.slice a 0 c)).run Tryz.prog w2= .ok #[] w2:=fun a c=>by
        cases a with
        |none=>rfl
        |some a=>simp[Builtin.firstCells,loadCells,loadCellsFrom]
      unfold zcF
      rw[h0]
      cases hca:A.ca with
      |none=>simp[Builtin.copy_,run_underlying Qw.und,Builtin.lenOf,sizeOf,typeInfo,hi,hs,hfc,goInt]
      |some a=>simp[Builtin.copy_,run_underlying Qw.und,Builtin.lenOf,sizeOf,typeInfo,hi,hs,hfc,goInt,storeCells]
    refine⟨0,w2,hcopy,KOE.refl _ _,?_⟩
    intro w3 hd3
    have hO3:=hO2.trans (GlOut.ext hG2 hd3.ext)
    refine⟨A.ca,g.cs.length,A.cc,(za hG2.box 3).trans rfl,A.ca,g.cs.length,A.cc,(za hG2.box 3).trans rfl,g.w,(za hG2.box 0).trans rfl,zd (by omega) (by omega),0,by split<;>omega,by omega,?_⟩
    intro ad2 hsl2
    refine⟨w3,zdg _ _ _ (by omega),KOE.refl _ _,A,rfl,?_⟩
    ·rw[hcs]
     have:({g with cs:=List.drop g.w []++List.replicate (min g.w ([]:List Ce).length) (zr 0)}:Gs)=g:=by
       rw[show List.drop g.w ([]:List Ce)++List.replicate (min g.w ([]:List Ce).length) (zr 0)=g.cs from by rw[hcs];simp]
     rw[this];exact hO3
  ·obtain⟨q,hq⟩:=QX hG2.row (by omega)
   have hh0:0<g.h:=by
     rcases Nat.eq_zero_or_pos g.h with h|h
     ·rw[h,Nat.mul_zero]at hlen;omega
     ·exact h
   have hwl:g.w<=g.cs.length:=by rw[hlen];exact Nat.le_mul_of_pos_right _ hh0
   have hm:min g.w g.cs.length=g.w:=Nat.min_eq_left hwl
   rw[hm]at hsl⊢
   obtain⟨i,hi,hs⟩:=zsK
   have hrow2:=hG2.row
   rw[hq]at hrow2
   have hsrc:CellsAt w2 ad' (qn (g.cs.drop g.w)):=by
     have:=hG2.row.cells.drop (s:=6) hsl (by omega) (by rw[zW];omega)
     rw[zdO]at this;exact this
   obtain⟨w3,hcp,hko3,hr3,hf3⟩:=zts (P:=Tryz.prog) (dT:=22) (sT:=22) (ty:=3) (cx:=A.cc - g.w) (dn:=A.cc) Qw.und hi hs hrow2 hsrc (m:=g.cs.length - g.w) (by rw[zW,List.length_drop]) (by omega) (zaf _)
   rw[<-hq]at hcp
   refine⟨g.cs.length - g.w,w3,hcp,hko3,?_⟩
   have hcells3:za0 (qn g.cs) 0 (qn (g.cs.drop g.w))=qn (g.cs.drop g.w++g.cs.drop (g.cs.length - g.w)):=by
     rw[zfi _ _ _ (by rw[zW,zW,List.length_drop];omega),List.take_zero,List.nil_append,Nat.zero_add,zW,List.length_drop,zdO,zdd]
   rw[hcells3,<-hq]at hr3
   have hf3':Fr (fun x=>zV A.ca=some x) w2 w3:=hf3.mono fun x _ hx=>by rw[hq,hx];rfl
   have hO3:=hO2.trans (zce hG2 hr3 hf3')
   have hG3:=hO3.is
   intro w4 hd4
   have hG4:=hG3.ext hd4.ext
   have hO4:=hO3.trans (GlOut.ext hG3 hd4.ext)
   have hlen3:(g.cs.drop g.w++g.cs.drop (g.cs.length - g.w)).length=g.cs.length:=by rw[List.length_append,List.length_drop,List.length_drop];omega
   refine⟨A.ca,g.cs.length,A.cc,(za hG3.box 3).trans ?_,A.ca,g.cs.length,A.cc,(za hG3.box 3).trans ?_,g.w,(za hG3.box 0).trans rfl,zd (by omega) (by omega),g.cs.length - g.w,by split<;>omega,by omega,?_⟩
   ·show some (Value.slice A.ca (g.cs.drop g.w++g.cs.drop (g.cs.length - g.w)).length A.cc)=_
    rw[hlen3]
   ·show some (Value.slice A.ca (g.cs.drop g.w++g.cs.drop (g.cs.length - g.w)).length A.cc)=_
    rw[hlen3]
   intro ad2 hsl2
   have hrow4:=hG4.row
   dsimp only at hrow4
   rw[hlen3]at hrow4
   have hfin:∀{w5:World} {cs':List Ce},Row w5 52 6 A.ca g.cs.length (qn cs') A.cc->Fr (fun x=>zV A.ca=some x) w4 w5->cs'=g.cs.drop g.w++List.replicate g.w (zr 0)->GlOut w w5 A A {g with cs:=g.cs.drop g.w++List.replicate g.w (zr 0)}:=by
     intro w5 cs' hr5 hf5 he
     subst he
     have:=hO4.trans (zce hG4 (by dsimp only;rw[hlen3];exact hr5) hf5)
     exact this
   by_cases hw0:g.w=0
   ·refine⟨w4,zdg _ _ _ (by omega),KOE.refl _ _,A,rfl,?_⟩
    ·refine hfin hrow4 (Fr.refl _ _) ?_
     rw[hw0,Nat.sub_zero,List.drop_length];rfl
   ·have hca:ad2=some ⟨q,(g.cs.length - g.w)*6,none⟩:=by
      rw[hq]at hsl2
      have:=hsl2.lt (by omega)
      rw[Nat.zero_add]at this;exact this
    have hrow4':=hrow4
    rw[hq]at hrow4'
    obtain⟨w5,hcl,hko5,hr5,hf5⟩:=zio (P:=Tryz.prog) (t:=22) (ty:=0) (cx:=A.cc - (g.cs.length - g.w)) Qw.und zlW rfl hrow4' (k:=g.cs.length - g.w) (m:=g.w) (by omega)
    refine⟨w5,?_,hko5,A,rfl,?_⟩
    ·rw[hca,show g.cs.length - (g.cs.length - g.w)=g.w from by omega];exact hcl
    ·refine hfin (by rw[<-hq]at hr5;exact hr5) (hf5.mono fun x _ hx=>by rw[hq,hx];rfl) ?_
     rw[List.take_left' (by rw[List.length_drop])]
end

section
open Go Go.RowKit Vc Ut Tb Cl
theorem zsV{W:World}{A:GlP}{g:Gs}{j:Nat}{x:Ce}{K:World->Prop}(hG:GlIn W A g)(hj:j<g.cs.length)(hK:∀w',GlOut W w' A A {g with cs:=g.cs.set j x}->K w'):zn A.ca fun b o=>zaE b (o+j*6) 0 (ceV x) W K:=by
  obtain⟨q,hq⟩:=QX hG.row (by omega)
  have hrow:=hG.row
  rw[hq]at hrow⊢
  exact hrow.setCe hj x fun w' hr hf=>hK w' (zce hG (by rw[hq];exact hr) (hf.mono fun x _ hx=>by rw[hq,hx];rfl))
theorem zm0{W:World}{A:GlP}{g:Gs}{j k:Nat}{x:Ce}{v:Value}{K:Nat->Nat->Prop}(hG:GlIn W A g)(hj:j<g.cs.length)(hk:k<6)(hx:(ceV (zg g.cs j)).set k v=ceV x)
    (hK:∀b o,(∃old,W.cell? ⟨b,o+j*6+k,none⟩=some old)->W.frozen? ⟨b,o+j*6+k,none⟩=false->(∀w',Stored W ⟨b,o+j*6+k,none⟩ v w'->GlOut W w' A A {g with cs:=g.cs.set j x})->K b o):zn A.ca K:=by
  obtain⟨q,hq⟩:=QX hG.row (by omega)
  have hrow:=hG.row
  rw[hq]at hrow⊢
  have hn:=hrow.1
  rw[zW]at hn
  obtain⟨h1,h2⟩:=hrow.can (j:=0+j*6+k) (by omega)
  refine hK q 0 h1 h2 fun w' hs=> ?_
  have hr:=hrow.put hs
  rw[Nat.zero_add,zha _ j k x v hj hk hx,<-hq]at hr
  exact zce hG hr ((Fr.stored hs).mono fun y _ hy=>by rw[hq,hy];rfl)
theorem zxU{w w':World}{A A':GlP}{g g':Gs}{b:Nat}{cs:Array Value}{t:TypeId}(hb:w.heap[b]? =some (.cells cs t))(h:GlIn w A g)(ho:GlOut w w' A A' g')(ht:t≠65)(hn:zV A.ca≠some b)(hm:zV A.na≠some b):w'.heap[b]? =some (.cells cs t):=by
  refine(ho.st.fr.block b (zE hb) (fun hh=> ?_)).trans hb
  rcases hh with rfl|hh|hh
  ·rw[h.box]at hb
   injection hb with h2
   injection h2 with _ h3
   exact ht h3.symm
  ·exact hn hh
  ·exact hm hh
set_option maxRecDepth 2000 in
theorem zon:zkp.Ok Tryz.prog 89:=by
  refine zvu trivial ?_
  rintro⟨A,g,i,c⟩ w ⟨hG,hF,hi,hw0,hl0,hl1⟩ b w1 hn
  dsimp only at hG hF hi hw0 hl0 hl1 hn⊢
  have hG1:=hG.ext hn.ext
  have hw:=hF.w;have hh:=hF.h;have hlen:=hF.len
  have hwh:g.w*g.h<=1048576:=Nat.le_trans (Nat.mul_le_mul hw hh) (by decide)
  have hce:=Qd hn.heap
  refine⟨_,_,_,(za hG1.box 3).trans rfl,i,rfl,hi,hG1.row.cells.ce hi fun b1 o1 hc1=>hc1.load ?_⟩
  intro b2 w2 hn2
  have hG2:=hG1.ext hn2.ext
  have e02:=Ext.trans hn.ext hn2.ext
  have hO2:=GlOut.ext hG e02
  have hce2:=Qd hn2.heap
  have hb2:=hn2.ext.heap hn.heap
  have z1:=hn.size
  have hnew:∀q,own A q->q≠b:=fun q hq=>by have:=hG.lt q hq;omega
  have hkeep:∀{W:World},GlOut w2 W A A (Qz g i)->W.heap[b]? =some (.cells #[.string c.t, .int .i8 c.p, .int .i64 c.a, .int .i64 c.n, .bool c.r, .int .u16 c.st] 52):=fun ho=>
    zxU hb2 hG2 ho (by decide) (fun h=>hnew b (.inr (.inl h)) rfl) (fun h=>hnew b (.inr (.inr h)) rfl)
  refine⟨⟨_,hce2.2.1,zb (fun h1=> ?_) (fun h1=> ?_)⟩,?_⟩
  ·have h1:(zg g.cs i).p=1:=beq_iff_eq.1 h1
   have hi0:=hl0 h1
   have e:Qz g i={g with cs:=g.cs.set (i - 1) (zr (zg g.cs (i - 1)).st)}:=by unfold Qz zhF;rw[if_pos h1]
   intro w3 hd
   have hG3:=hG2.ext hd.ext
   have hO3:=GlOut.ext hG2 hd.ext
   refine⟨_,_,_,(za hG2.box 3).trans rfl,zd (by omega) (by omega),_,_,_,(za hG2.box 3).trans rfl,zd (by omega) (by omega),i - 1,by omega,by omega,hG2.row.cells.ce (i:=i - 1) (by omega) fun b4 o4 hc4=>⟨_,hc4.2.2.2.2.2,i - 1,by omega,by omega,zsV (x:=zr (zg g.cs (i - 1)).st) hG3 (by omega) fun w4 hO=>⟨(A,b),rfl,?_,?_⟩⟩⟩
   ·rw[e];exact hO2.trans (hO3.trans hO)
   ·exact hkeep (by rw[e];exact hO3.trans hO)
  ·have h1:¬(zg g.cs i).p=1:=beq_eq_false_iff_ne.1 h1
   have hmod:((i:Int)+1)%(g.w:Int)=(((i+1)%g.w:Nat):Int):=by rw[Int.natCast_emod];rfl
   refine⟨zd (by omega) (by omega),g.w,(za hG2.box 0).trans rfl,by omega,by omega,zb (fun h2=> ?_) (fun h2=>⟨(A,b),rfl,?_,hb2⟩)⟩
   ·have h2:(i+1)%g.w≠0:=by have:=bne_iff_ne.1 h2;rw[hmod]at this;omega
    have hi1:=hl1 h2
    refine⟨_,_,_,(za hG2.box 3).trans rfl,zd (by omega) (by omega),i+1,rfl,hi1,hG2.row.cells.ce hi1 fun b4 o4 hc4=>⟨_,hc4.2.1,zb (fun h3=> ?_) (fun h3=>⟨(A,b),rfl,?_,hb2⟩)⟩⟩
    ·have h3:(zg g.cs (i+1)).p=1:=beq_iff_eq.1 h3
     have e:Qz g i={g with cs:=g.cs.set (i+1) (zr (zg g.cs (i+1)).st)}:=by unfold Qz zhF;rw[if_neg h1,if_pos ⟨h2,h3⟩]
     intro w3 hd
     have hG3:=hG2.ext hd.ext
     have hO3:=GlOut.ext hG2 hd.ext
     refine⟨_,_,_,(za hG2.box 3).trans rfl,zd (by omega) (by omega),_,_,_,(za hG2.box 3).trans rfl,zd (by omega) (by omega),i+1,rfl,hi1,hG2.row.cells.ce hi1 fun b5 o5 hc5=>⟨_,hc5.2.2.2.2.2,i+1,rfl,hi1,zsV (x:=zr (zg g.cs (i+1)).st) hG3 hi1 fun w4 hO=>⟨(A,b),rfl,?_,?_⟩⟩⟩
     ·rw[e];exact hO2.trans (hO3.trans hO)
     ·exact hkeep (by rw[e];exact hO3.trans hO)
    ·have h3:¬(zg g.cs (i+1)).p=1:=beq_eq_false_iff_ne.1 h3
     have e:Qz g i=g:=by unfold Qz zhF;rw[if_neg h1,if_neg (fun hh=>h3 hh.2)]
     rw[e];exact hO2
   ·have h2:(i+1)%g.w=0:=by have:=bne_eq_false_iff_eq.1 h2;rw[hmod]at this;omega
    have e:Qz g i=g:=by unfold Qz zhF;rw[if_neg h1,if_neg (fun hh=>hh.1 h2)]
    rw[e];exact hO2
  clear hkeep hb2 hce2 hO2 hG2 hn2
  rintro _ ⟨A3,b3⟩ w3 ⟨hO3,hb3⟩
  dsimp only at hO3 hb3
  intro w4 hd
  have hG3:=hO3.is
  have hG4:=hG3.ext hd.ext
  have hO4:=hO3.trans (GlOut.ext hG3 hd.ext)
  have hce3:=Qd hb3
  have hlt:(Qz g i).cs.length=g.cs.length:=by
    show(zhF g.cs g.w i).length=_
    unfold zhF
    split
    ·rw[List.length_set]
    ·split
     ·rw[List.length_set]
     ·rfl
  have hp:A3.p=A.p:=hO3.p
  refine⟨_,_,_,by rw[<-hp];exact(za hG3.box 3).trans rfl,hce3.load ⟨i,rfl,by rw[hlt];exact hi,zsV (x:=c) hG4 (by rw[hlt];exact hi) fun w5 hO=>⟨A3,rfl,?_⟩⟩⟩
  have:=hO4.trans hO
  exact this
end

section
open Go Go.RowKit Vc Ut Tb Cl
theorem zxS{w w1:World}{A:GlP}{g:Gs}{l:List Int}(h:GlIn w A g)(hl:l.length=g.num.length)(hr:Row w1 3 1 A.na g.num.length (l.map (Value.int .i64)) A.nc)(hf:Fr (fun q=>zV A.na=some q) w w1):GlOut w w1 A A {g with num:=l}:=by
  have hfo:Fr (own A) w w1:=hf.mono fun q _ hq=> .inr (.inr hq)
  refine⟨⟨?_,h.row.keep fun q hq=>hf.block q (h.row.lt hq) (fun hh=>h.cn hh hq),by dsimp only;rw[hl];exact hr,fun hn=> ?_,h.bq,Nat.le_trans h.bw hf.size,h.u.on (h.below hfo)⟩,rfl,rfl,rfl,hfo,fun q hq=>⟨Nat.lt_of_lt_of_le (h.lt q hq) hf.size, .inl hq⟩⟩
  ·have:=(hf.block A.p (zE h.box) h.np).trans h.box
   rw[this]
   unfold glV
   dsimp only
   rw[hl]
  ·dsimp only at hn
   refine h.nil (List.eq_nil_of_length_eq_zero ?_)
   rw[<-hl,hn];rfl
theorem zos{w w2 w3:World}{A:GlP}{g:Gs}{l:List Int}{a':Option Addr}{c' n':Nat}(h:GlIn w A g)(hn':n'=l.length)(hl0:l≠[])(hr:Row w2 3 1 a' n' (l.map (Value.int .i64)) c')(hf:Fr (fun q=>zV A.na=some q) w w2)
    (hnw:∀q,zV a'=some q->zV A.na=some q\/w.heap.size<=q) (hs:Stored w2 ⟨A.p,11,none⟩ (.slice a' n' c') w3):GlOut w w3 A {A with na:=a',nc:=c'} {g with num:=l}:=by
  subst hn'
  have hb2:=(hf.block A.p (zE h.box) h.np).trans h.box
  have hz:=hf.size
  have hz3:=hs.size
  have hpq:zV a'≠some A.p:=Qs hr hb2 (by decide)
  have hfo:Fr (own A) w w3:=(hf.mono fun q _ hq=> .inr (.inr hq)).trans (Fr.stored hs) (fun x _ hx=> .inl hx)
  have hr3:Row w3 3 1 a' l.length (l.map (Value.int .i64)) c':=hr.keep fun q hq=>hs.other (by show q≠A.p;rintro rfl;exact hpq hq)
  have hBp:=h.bq A.p (.inl rfl)
  have hown:∀q,own {A with na:=a',nc:=c'} q->own A q\/w.heap.size<=q:=by
    rintro q (hq|hq|hq)
    ·exact .inl (.inl hq)
    ·exact .inl (.inr (.inl hq))
    ·exact(hnw q hq).elim (fun hh=> .inl (.inr (.inr hh))) .inr
  refine⟨⟨hs.heap hb2,?_,hr3,fun hn=>absurd hn hl0,fun q hq=> ?_,by dsimp only;have:=h.bw;omega,h.u.on (h.below hfo)⟩,rfl,rfl,rfl,hfo,fun q hq=>⟨?_,hown q hq⟩⟩
  ·refine(h.row.keep fun q hq=>hf.block q (h.row.lt hq) (fun hh=>h.cn hh hq)).keep fun q hq=>hs.other (by show q≠A.p;rintro rfl;exact h.cp hq)
  ·rcases hown q hq with hh|hh
   ·exact h.bq q hh
   ·have:=h.bw;dsimp only;omega
  ·rcases hq with rfl|hq|hq
   ·have:=zE h.box;dsimp only;omega
   ·have:=h.row.lt hq;omega
   ·exact hr3.lt hq
theorem Z1{l:List Int}{i:Nat}(h:i<l.length):l.getD i 0=zS l i:=by
  unfold zS;rw[List.getD_eq_getElem?_getD,List.getD_eq_getElem?_getD,List.getElem?_eq_getElem h];rfl
theorem zet{l:List Int}{i:Nat}(h:i<l.length):zS l i∈l:=by
  unfold zS;rw[List.getD_eq_getElem?_getD,List.getElem?_eq_getElem h];exact List.getElem_mem h
theorem zsN:zjf.Ok Tryz.prog 59:=by
  refine zsM trivial ?_
  rintro⟨A,g,r,f⟩ w ⟨hG,hF,hne⟩
  dsimp only at hG hF hne⊢
  have hnl:=hF.numl
  have hlen:0<g.num.length:=by
    rcases Nat.eq_zero_or_pos g.num.length with h|h
    ·exact absurd (List.eq_nil_of_length_eq_zero h) hne
    ·exact h
  have hc11:w.cell? ⟨A.p,11,none⟩=some (.slice A.na g.num.length A.nc):=(za hG.box 11).trans rfl
  refine⟨_,_,_,hc11,zd (by omega) (by omega),zb (fun h=>⟨rfl,hG.old (k:=12) (by decide),hG.free 12,fun w1 hs=>⟨A,rfl,?_⟩⟩) (fun h=>zb (fun h1=> ?_) (fun h1=>zb (fun h2=> ?_) (fun h2=>⟨rfl,hG.old (k:=13) (by decide),hG.free 13,fun w1 hs=>⟨A,rfl,?_⟩⟩)))⟩
  ·rw[Bool.and_eq_true,beq_iff_eq]at h
   have e:qp g r f={g with asked:=true}:=by unfold qp;rw[if_pos h]
   rw[e];exact qG hG hs rfl rfl rfl
  ·have h0:¬(r=63/\f=true):=fun hh=>by rw[Bool.and_eq_false_iff,beq_eq_false_iff_ne]at h;rcases h with h|h;exact h hh.1;rw[hh.2]at h;cases h
   have h1:r=59:=beq_iff_eq.1 h1
   have e:qp g r f={g with num:=g.num++[-1]}:=by unfold qp;rw[if_neg h0,if_pos h1]
   rw[e]
   refine⟨_,_,_,hc11,?_⟩
   intro b w1 hn
   obtain⟨a',c',w2,hrun,hko,hrow,hg,hor,_⟩:=hG.num.pushN (P:=Tryz.prog) (ty:=61) zhd (by decide) (m:=1) (news:=[.int .i64 (-1)]) hn rfl (by simp[Value.oneCell']) (by unfold maxLen;omega) (.inr (by omega))
   have hz:=hn.size
   have hfr:Fr (fun q=>zV A.na=some q) w w2:=(Fr.of_ext hn.ext).trans (Fr.grown hg) (fun x _ hx=>hx)
   have hb2:=(hfr.block A.p (zE hG.box) hG.np).trans hG.box
   refine⟨a',c',w2,hrun,hko,rfl,⟨_,by rw[za hb2];rfl⟩,zy hb2 _,fun w3 hs=>⟨{A with na:=a',nc:=c'},rfl,?_⟩⟩
   refine zos hG (l:=g.num++[-1]) (by rw[List.length_append];rfl) (by simp) (by rw[List.map_append];exact hrow) hfr ?_ hs
   intro q hq
   rcases hor with rfl|⟨rfl,_⟩
   ·exact .inl hq
   ·right;simp[zV]at hq;omega
  ·have h0:¬(r=63/\f=true):=fun hh=>by rw[Bool.and_eq_false_iff,beq_eq_false_iff_ne]at h;rcases h with h|h;exact h hh.1;rw[hh.2]at h;cases h
   have h1:¬r=59:=beq_eq_false_iff_ne.1 h1
   rw[Bool.and_eq_true]at h2
   have h2a:=of_decide_eq_true h2.1
   have h2b:=of_decide_eq_true h2.2
   have e:qp g r f={g with num:=g.num.set (g.num.length - 1) (min (max (zS g.num (g.num.length - 1)) 0*10+(r - 48)) 9999)}:=by unfold qp;rw[if_neg h0,if_neg h1,if_pos ⟨h2a,h2b⟩]
   rw[e]
   intro w1 hd
   have hG1:=hG.ext hd.ext
   have hlt:g.num.length - 1<g.num.length:=by omega
   have hb:=hF.num _ (zet hlt)
   have hgd:=Z1 hlt
   refine⟨_,_,_,hc11,_,_,_,hc11,g.num.length - 1,by omega,hlt,hG.num.cells.int hlt fun b o hbo=>⟨_,hbo,?_⟩⟩
   rw[hgd]
   generalize zS g.num (g.num.length - 1)=n at hb⊢
   have hm:0<=(if 0>n then 0 else n)/\(if 0>n then 0 else n)<=9999:=by split<;>omega
   refine⟨zd (by omega) (by omega),qF (by omega) (by omega),zd (by omega) (by omega),Ext.refl _,zd (by omega) (by omega),g.num.length - 1,by omega,hlt,?_⟩
   obtain⟨q,hq⟩:=QX hG1.num hlen
   have hrow:=hG1.num
   rw[hq]at hrow⊢
   obtain⟨k1,k2⟩:=hrow.can (j:=0+(g.num.length - 1)) (by omega)
   refine⟨rfl,k1,k2,fun w2 hs=>⟨A,rfl,(GlOut.ext hG hd.ext).trans ?_⟩⟩
   have hv:(if 9999<(if 0>n then 0 else n)*10+(r - 48)then 9999 else(if 0>n then 0 else n)*10+(r - 48))=min (max n 0*10+(r - 48)) 9999:=by
     rw[show(if 0>n then 0 else n)=max n 0 from by rw[Int.max_def];split<;>split<;>omega,Int.min_def]
     split<;>split<;>omega
   rw[hv]at hs
   have hr:=hrow.put hs
   rw[Nat.zero_add,<-List.map_set,<-hq]at hr
   exact zxS hG1 List.length_set hr ((Fr.stored hs).mono fun y _ hy=>by rw[hq,hy];rfl)
  ·have h0:¬(r=63/\f=true):=fun hh=>by rw[Bool.and_eq_false_iff,beq_eq_false_iff_ne]at h;rcases h with h|h;exact h hh.1;rw[hh.2]at h;cases h
   have h1:¬r=59:=beq_eq_false_iff_ne.1 h1
   have h2:¬(48<=r/\r<=57):=fun hh=>by rw[decide_eq_true (show r>=48 from hh.1),decide_eq_true hh.2]at h2;cases h2
   have e:qp g r f={g with void:=true}:=by unfold qp;rw[if_neg h0,if_neg h1,if_neg h2]
   rw[e];exact qG hG hs rfl rfl rfl
theorem zvk:znL.Ok Tryz.prog 85:=by
  refine zvj trivial ?_
  rintro⟨b,a,c,l,i⟩ w ⟨hb,hc⟩
  dsimp only at hb hc⊢
  refine⟨_,_,_,Zv hb,zb (fun h=> ?_) (fun h=>⟨_,rfl,?_,rfl⟩)⟩
  ·have hlt:i<l.length:=by have:=of_decide_eq_true h;omega
   exact⟨_,_,_,Zv hb,i,rfl,hlt,hc.int hlt fun b1 o1 hb1=>⟨_,hb1,_,rfl,Z1 hlt,rfl⟩⟩
  ·have h:=of_decide_eq_false h
   unfold zS;rw[List.getD_eq_getElem?_getD,List.getElem?_eq_none (by omega)];rfl
end

section
open Go Go.RowKit Vc Ut Tb Cl
theorem zaU:∀(f f':Nat) (l:List Int) (st:Nat),l.length<=f->l.length<=f'->zK f l st=zK f' l st
  |f,f',[],st,_,_=>by cases f<;>cases f'<;>simp[zK]
  |0,f',n::l,st,h,_=>by simp at h
  |f+1,0,n::l,st,_,h=>by simp at h
  |f+1,f'+1,n::l,st,h,h'=>by
   simp only[List.length_cons]at h h'
   have ih:=fun st=>zaU f f' l st (by omega) (by omega)
   simp only[zK,ih]
   split
   ·rfl
   split
   ·rfl
   split
   ·rfl
   split
   ·rfl
   split
   ·rfl
   cases l with
   |nil=>rfl
   |cons a l=>
    cases l with
    |nil=>rfl
    |cons k l'=>
     simp only[List.length_cons]at h h'
     have ih2:=fun st=>zaU f f' l' st (by omega) (by omega)
     simp only[ih2]
theorem zab{a b:Nat}(ha:a<65536)(hb:b<65536):IntKind.u16.wrap (((BitVec.ofInt IntKind.u16.bits (a:Int)|||BitVec.ofInt IntKind.u16.bits (b:Int)).toNat:Nat):Int)=((a|||b:Nat):Int):=by
  have h:(BitVec.ofInt IntKind.u16.bits (a:Int)|||BitVec.ofInt IntKind.u16.bits (b:Int)).toNat=a|||b:=by
    rw[BitVec.toNat_or,BitVec.ofInt_natCast,BitVec.ofInt_natCast,BitVec.toNat_ofNat,BitVec.toNat_ofNat]
    show(a%65536)|||(b%65536)=_
    rw[Nat.mod_eq_of_lt ha,Nat.mod_eq_of_lt hb]
  rw[h]
  have h2:a|||b<2^16:=Nat.or_lt_two_pow ha hb
  exact InR.wrap ⟨by show(0:Int)<=_;omega,by show _<=(65535:Int);omega⟩
theorem zbH{a b:Nat}(ha:a<65536)(hb:b<65536):a|||b<65536:=Nat.or_lt_two_pow (n:=16) ha hb
theorem zpR:∀i:Fin 16,Nat.testBit 65280 i.val=decide (8<=i.val):=by decide
theorem zsg{a:Nat}(ha:a<65536):IntKind.u16.wrap (((BitVec.ofInt IntKind.u16.bits (a:Int)&&& ~~~BitVec.ofInt IntKind.u16.bits 255).toNat:Nat):Int)=((a / 256*256:Nat):Int):=by
  have hb:(~~~BitVec.ofInt IntKind.u16.bits 255:BitVec IntKind.u16.bits)=BitVec.ofInt IntKind.u16.bits ((65280:Nat):Int):=by decide
  rw[hb,zfJ ha (by decide)]
  congr 1
  apply Nat.eq_of_testBit_eq
  intro i
  rw[Nat.testBit_and]
  have e:a / 256*256=(a>>>8)<<<8:=by rw[Nat.shiftRight_eq_div_pow,Nat.shiftLeft_eq]
  rw[e,Nat.testBit_shiftLeft,Nat.testBit_shiftRight]
  by_cases hi:i<16
  ·have:=zpR ⟨i,hi⟩
   dsimp only at this
   rw[this]
   by_cases h8:8<=i
   ·rw[decide_eq_true h8,show 8+(i - 8)=i from by omega];simp[h8]
   ·rw[decide_eq_false h8];simp[h8]
  ·have h0:a.testBit i=false:=Nat.testBit_lt_two_pow (Nat.lt_of_lt_of_le ha (Nat.pow_le_pow_right (show 0<2 by decide) (show 16<=i by omega)))
   rw[h0,show 8+(i - 8)=i from by omega,h0];simp
theorem zoe{a:Nat}(ha:a<65536):IntKind.u16.wrap (((BitVec.ofInt IntKind.u16.bits (a:Int)&&&BitVec.ofInt IntKind.u16.bits 4095).toNat:Nat):Int)=((a%4096:Nat):Int):=by
  rw[show(4095:Int)=((4095:Nat):Int)from rfl,zfJ ha (by decide),show(4095:Nat)=2^12 - 1 from rfl,Nat.and_two_pow_sub_one_eq_mod]
theorem zwT{k:Int}(h0:0<=k)(h1:k<=15):IntKind.u16.wrap (k*2^min (Int.toNat 12) IntKind.u16.bits)=((k.toNat*4096:Nat):Int):=by
  rw[show((2:Int)^min (Int.toNat 12) IntKind.u16.bits)=4096 from rfl]
  rw[InR.wrap (k:= .u16) (n:=k*4096) ⟨by show(0:Int)<=_;omega,by show _<=(65535:Int);omega⟩]
  omega
theorem zmo{ad ad':Option Addr}{m l z:Nat}(h:SlAt ad ad' m l z):zV ad'=zV ad:=by
  unfold SlAt at h
  subst h
  split
  ·rfl
  ·cases ad with
   |none=>rfl
   |some a=>
    obtain⟨b,o,sp⟩:=a
    cases sp<;>(simp only[Option.map,zV,Addr.add];split<;>rfl)
theorem zy1{A:GlP}{g:Gs}{w W:World}{k c s:Nat}{a:Option Addr}(hnp:zV A.na≠some A.p)(hnl:g.num.length<=1099511627776)(hO:GlOut w W A A (zaW g s))(hs:s<65536)(hc:CellsAt W a ((g.num.drop k).map (Value.int .i64)))(hbl:zV a=zV A.na)(hcap:g.num.length - k<=c)
    (hk3:k+2<g.num.length) (h0:0<=zS g.num (k+2)) (h1:zS g.num (k+2)<=255) (hw:zK (g.num.length - (k+1)) (g.num.drop (k+3)) (s / 256*256|||(zS g.num (k+2)).toNat)=Zl g.num g.sty):
    ∃n5:Int,W.cell? ⟨A.p,7,none⟩=some (.int .u16 n5)/\true=true/\(∃old,W.cell? ⟨A.p,7,none⟩=some old)/\W.frozen? ⟨A.p,7,none⟩=false/\
     ∀w1,Stored W ⟨A.p,7,none⟩ (.int .u16 (IntKind.u16.wrap (((BitVec.ofInt IntKind.u16.bits n5&&& ~~~BitVec.ofInt IntKind.u16.bits 255).toNat:Nat):Int))) w1->∀w11,Drew w1 w11->
     ∃n6:Int,w1.cell? ⟨A.p,7,none⟩=some (.int .u16 n6)/\∃k5:Nat,(2:Int)=(k5:Int)/\k5<g.num.length - k/\zn a fun b5 o5=>∃n7:Int,w1.cell? ⟨b5,o5+k5,none⟩=some (.int .i64 n7)/\InR .u16 n7/\Below w11.heap.size w11 w11/\true=true/\
      (∃old,w11.cell? ⟨A.p,7,none⟩=some old)/\w11.frozen? ⟨A.p,7,none⟩=false/\
      ∀w12,Stored w11 ⟨A.p,7,none⟩ (.int .u16 (IntKind.u16.wrap (((BitVec.ofInt IntKind.u16.bits n6|||BitVec.ofInt IntKind.u16.bits n7).toNat:Nat):Int))) w12->
      ∃ln:Nat,(2:Int)=(ln:Int)/\ln<=g.num.length - k/\∀ad',SlAt a ad' c ln 1->∃c1:WgX,Value.slice ad' (g.num.length - k - ln) (c - ln)=Value.slice c1.a (g.num.length - c1.k) c1.c/\wgJ ⟨A,g⟩ w c1 w12/\g.num.length - c1.k<=ZD (Value.slice a (g.num.length - k) c):=by
  refine⟨s,(za hO.is.box 7).trans rfl,rfl,hO.is.old (k:=7) (by decide),hO.is.free 7,fun w1 hs1 w11 hd=> ?_⟩
  rw[zsg hs]at hs1
  have hO1:=hO.trans (qG (g':=zaW g (s / 256*256)) hO.is hs1 rfl rfl rfl)
  have hc1:CellsAt w1 a ((g.num.drop k).map (Value.int .i64)):=hc.keep fun q hq=>hs1.other (by show q≠A.p;rintro rfl;rw[hbl]at hq;exact hnp hq)
  have hO11:=hO1.trans (GlOut.ext hO1.is hd.ext)
  have hgd:(g.num.drop k).getD 2 0=zS g.num (k+2):=by
    rw[<-Z1 hk3,List.getD_eq_getElem?_getD,List.getElem?_drop,List.getD_eq_getElem?_getD]
  refine⟨((s / 256*256:Nat):Int),(za hO1.is.box 7).trans rfl,2,rfl,by omega,hc1.int (by rw[List.length_drop];omega) fun b5 o5 hb5=>⟨_,hb5,?_⟩⟩
  rw[hgd]
  refine⟨⟨by show(0:Int)<=_;omega,by show _<=(65535:Int);omega⟩,Ext.refl _,rfl,hO11.is.old (k:=7) (by decide),hO11.is.free 7,fun w12 hs12=>⟨2,rfl,by omega,fun ad' hsl=>⟨⟨k+2,ad',c - 2,s / 256*256|||(zS g.num (k+2)).toNat⟩,by dsimp only;rw[show g.num.length - k - 2=g.num.length - (k+2)from by omega],⟨hk3,?_,?_,?_,?_,?_,?_⟩,by show g.num.length - (k+2)<=g.num.length - k;omega⟩⟩⟩
  ·rw[show zS g.num (k+2)=(((zS g.num (k+2)).toNat:Nat):Int)from(Int.toNat_of_nonneg h0).symm,zab (by omega) (by omega)]at hs12
   exact hO11.trans (qG (g':=zaW g (s / 256*256|||(zS g.num (k+2)).toNat)) hO11.is hs12 rfl rfl rfl)
  ·exact zbH (by omega) (by omega)
  ·have hc12:CellsAt w12 a ((g.num.drop k).map (Value.int .i64)):=(hc1.ext hd.ext).keep fun q hq=>hs12.other (by show q≠A.p;rintro rfl;rw[hbl]at hq;exact hnp hq)
   have:=hc12.drop (s:=1) hsl (by omega) (by rw[List.length_map,List.length_drop];omega)
   rw[<-List.map_drop,List.drop_drop]at this
   exact this
  ·rw[zmo hsl,hbl]
  ·show g.num.length - (k+2)<=c - 2;omega
  ·rw[<-hw];exact zaU _ _ _ _ (by show(g.num.drop (k+2+1)).length<=g.num.length - (k+2+1);rw[List.length_drop];omega) (by show(g.num.drop (k+3)).length<=g.num.length - (k+1);rw[List.length_drop];omega)
theorem zy0{A:GlP}{g:Gs}{w W:World}{k c s:Nat}{a:Option Addr}(hnp:zV A.na≠some A.p)(hnl:g.num.length<=1099511627776)(hO:GlOut w W A A (zaW g s))(hs:s<65536)(hc:CellsAt W a ((g.num.drop k).map (Value.int .i64)))(hbl:zV a=zV A.na)(hcap:g.num.length - k<=c)
    (hk3:k+2<g.num.length) (h0:0<=zS g.num (k+2)) (h1:zS g.num (k+2)<=15) (hw:zK (g.num.length - (k+1)) (g.num.drop (k+3)) (s%4096|||(zS g.num (k+2)).toNat*4096)=Zl g.num g.sty):
    ∃n5:Int,W.cell? ⟨A.p,7,none⟩=some (.int .u16 n5)/\true=true/\(∃old,W.cell? ⟨A.p,7,none⟩=some old)/\W.frozen? ⟨A.p,7,none⟩=false/\
     ∀w1,Stored W ⟨A.p,7,none⟩ (.int .u16 (IntKind.u16.wrap (((BitVec.ofInt IntKind.u16.bits n5&&&BitVec.ofInt IntKind.u16.bits 4095).toNat:Nat):Int))) w1->∀w11,Drew w1 w11->
     ∃n6:Int,w1.cell? ⟨A.p,7,none⟩=some (.int .u16 n6)/\∃k5:Nat,(2:Int)=(k5:Int)/\k5<g.num.length - k/\zn a fun b5 o5=>∃n7:Int,w1.cell? ⟨b5,o5+k5,none⟩=some (.int .i64 n7)/\InR .u16 n7/\Below w11.heap.size w11 w11/\true=true/\
      (∃old,w11.cell? ⟨A.p,7,none⟩=some old)/\w11.frozen? ⟨A.p,7,none⟩=false/\
      ∀w12,Stored w11 ⟨A.p,7,none⟩ (.int .u16 (IntKind.u16.wrap (((BitVec.ofInt IntKind.u16.bits n6|||BitVec.ofInt IntKind.u16.bits (IntKind.u16.wrap (n7*2^min (Int.toNat 12) IntKind.u16.bits))).toNat:Nat):Int))) w12->
      ∃ln:Nat,(2:Int)=(ln:Int)/\ln<=g.num.length - k/\∀ad',SlAt a ad' c ln 1->∃c1:WgX,Value.slice ad' (g.num.length - k - ln) (c - ln)=Value.slice c1.a (g.num.length - c1.k) c1.c/\wgJ ⟨A,g⟩ w c1 w12/\g.num.length - c1.k<=ZD (Value.slice a (g.num.length - k) c):=by
  refine⟨s,(za hO.is.box 7).trans rfl,rfl,hO.is.old (k:=7) (by decide),hO.is.free 7,fun w1 hs1 w11 hd=> ?_⟩
  rw[zoe hs]at hs1
  have hO1:=hO.trans (qG (g':=zaW g (s%4096)) hO.is hs1 rfl rfl rfl)
  have hc1:CellsAt w1 a ((g.num.drop k).map (Value.int .i64)):=hc.keep fun q hq=>hs1.other (by show q≠A.p;rintro rfl;rw[hbl]at hq;exact hnp hq)
  have hO11:=hO1.trans (GlOut.ext hO1.is hd.ext)
  have hgd:(g.num.drop k).getD 2 0=zS g.num (k+2):=by
    rw[<-Z1 hk3,List.getD_eq_getElem?_getD,List.getElem?_drop,List.getD_eq_getElem?_getD]
  refine⟨((s%4096:Nat):Int),(za hO1.is.box 7).trans rfl,2,rfl,by omega,hc1.int (by rw[List.length_drop];omega) fun b5 o5 hb5=>⟨_,hb5,?_⟩⟩
  rw[hgd]
  refine⟨⟨by show(0:Int)<=_;omega,by show _<=(65535:Int);omega⟩,Ext.refl _,rfl,hO11.is.old (k:=7) (by decide),hO11.is.free 7,fun w12 hs12=>⟨2,rfl,by omega,fun ad' hsl=>⟨⟨k+2,ad',c - 2,s%4096|||(zS g.num (k+2)).toNat*4096⟩,by dsimp only;rw[show g.num.length - k - 2=g.num.length - (k+2)from by omega],⟨hk3,?_,?_,?_,?_,?_,?_⟩,by show g.num.length - (k+2)<=g.num.length - k;omega⟩⟩⟩
  ·rw[zwT h0 h1,zab (by omega) (by omega)]at hs12
   exact hO11.trans (qG (g':=zaW g (s%4096|||(zS g.num (k+2)).toNat*4096)) hO11.is hs12 rfl rfl rfl)
  ·exact zbH (by omega) (by omega)
  ·have hc12:CellsAt w12 a ((g.num.drop k).map (Value.int .i64)):=(hc1.ext hd.ext).keep fun q hq=>hs12.other (by show q≠A.p;rintro rfl;rw[hbl]at hq;exact hnp hq)
   have:=hc12.drop (s:=1) hsl (by omega) (by rw[List.length_map,List.length_drop];omega)
   rw[<-List.map_drop,List.drop_drop]at this
   exact this
  ·rw[zmo hsl,hbl]
  ·show g.num.length - (k+2)<=c - 2;omega
  ·rw[<-hw];exact zaU _ _ _ _ (by show(g.num.drop (k+2+1)).length<=g.num.length - (k+2+1);rw[List.length_drop];omega) (by show(g.num.drop (k+3)).length<=g.num.length - (k+1);rw[List.length_drop];omega)
set_option maxRecDepth 4000 in
theorem zqM:zi4.Ok Tryz.prog 86:=by
  refine zqL trivial ?_
  rintro⟨A,g⟩ w ⟨hG,hF⟩
  dsimp only at hG hF⊢
  have hnl:=hF.numl
  have hsty:=hF.sty
  have hnp:=hG.np
  refine⟨⟨⟨0,A.na,A.nc,g.sty⟩,by rw[Nat.sub_zero],Nat.zero_le _,GlOut.refl hG,hsty,by rw[List.drop_zero];exact hG.num.cells,rfl,by rw[Nat.sub_zero];exact hG.num.le.1,by rw[Nat.sub_zero,List.drop_zero];rfl⟩,?_⟩
  rintro _ ⟨k,a,c,s⟩ W ⟨hk,hO,hs,hc,hbl,hcap,hw⟩
  dsimp only at hk hO hs hc hbl hcap hw⊢
  refine zb (fun h=> ?_) (fun h=>⟨A,rfl,?_⟩)
  rotate_left
  ·have h:=of_decide_eq_false h
   have hk:k=g.num.length:=by omega
   rw[hk,Nat.sub_self,List.drop_length]at hw
   rw[<-hw]
   exact hO
  have hlt:k<g.num.length:=by have:=of_decide_eq_true h;omega
  clear h
  have hgd:∀j,k+j<g.num.length->(g.num.drop k).getD j 0=zS g.num (k+j):=fun j hj=>by
    rw[<-Z1 hj,List.getD_eq_getElem?_getD,List.getElem?_drop,List.getD_eq_getElem?_getD]
  have hn:=hF.num _ (zet hlt)
  have hdr:g.num.drop k=zS g.num k::g.num.drop (k+1):=by
    rw[List.drop_eq_getElem_cons hlt,<-Z1 hlt,List.getD_eq_getElem?_getD,List.getElem?_eq_getElem hlt];rfl
  have hst:zK (g.num.length - (k+1)+1) (zS g.num k::g.num.drop (k+1)) s=Zl g.num g.sty:=by
    rw[<-hdr,show g.num.length - (k+1)+1=g.num.length - k from by omega];exact hw
  have hgd0:=hgd 0 hlt
  have fin:∀{W':World},GlOut w W' A A (zaW g s)->CellsAt W' a ((g.num.drop k).map (Value.int .i64))->zK (g.num.length - (k+1)) (g.num.drop (k+1)) s=Zl g.num g.sty->
   ∃c1:WgX,Value.slice a (g.num.length - k) c=Value.slice c1.a (g.num.length - c1.k) c1.c/\wgJ ⟨A,g⟩ w c1 W'/\g.num.length - c1.k<=ZD (Value.slice a (g.num.length - k) c):=
    fun hO' hc' hw'=>⟨⟨k,a,c,s⟩,rfl,⟨hlt,hO',hs,hc',hbl,hcap,hw'⟩,Nat.le_refl _⟩
  have put:∀{W1 W2:World} {s':Nat},GlOut w W1 A A (zaW g s)->CellsAt W1 a ((g.num.drop k).map (Value.int .i64))->Stored W1 ⟨A.p,7,none⟩ (.int .u16 (s':Int)) W2->s'<65536->zK (g.num.length - (k+1)) (g.num.drop (k+1)) s'=Zl g.num g.sty->
   ∃c1:WgX,Value.slice a (g.num.length - k) c=Value.slice c1.a (g.num.length - c1.k) c1.c/\wgJ ⟨A,g⟩ w c1 W2/\g.num.length - c1.k<=ZD (Value.slice a (g.num.length - k) c):=
    fun{W1 W2 s'} hO' hc' hs' hlt' hw'=>⟨⟨k,a,c,s'⟩,rfl,⟨hlt,hO'.trans (qG hO'.is hs' rfl rfl rfl),hlt',hc'.keep fun q hq=>hs'.other (by show q≠A.p;rintro rfl;rw[hbl]at hq;exact hnp hq),hbl,hcap,hw'⟩,Nat.le_refl _⟩
  refine⟨0,rfl,by omega,hc.int (by rw[List.length_drop];omega) fun b o hb=>⟨_,hb,?_,?_⟩⟩
  ·rw[hgd0]
   rw[Nat.add_zero]
   generalize hnn:zS g.num k=n at hn hst⊢
   simp only[zK]at hst
   refine zb (fun h1=>⟨rfl,hO.is.old (k:=7) (by decide),hO.is.free 7,fun w1 hs1=> ?_⟩) (fun h1=>zb (fun h2=>⟨s,(za hO.is.box 7).trans rfl,rfl,hO.is.old (k:=7) (by decide),hO.is.free 7,fun w1 hs1=> ?_⟩) (fun h2=> ?_))
   ·have h1:n= -1\/n=0:=by simpa using h1
    rw[if_pos h1]at hst
    exact put (s':=0) hO hc hs1 (by decide) hst
   ·have h1:¬(n= -1\/n=0):=by simpa using h1
    have h2:n=1:=beq_iff_eq.1 h2
    rw[if_neg h1,if_pos h2]at hst
    rw[show(256:Int)=((256:Nat):Int)from rfl,zab hs (by decide)]at hs1
    exact put hO hc hs1 (zbH hs (by decide)) hst
   have h1:¬(n= -1\/n=0):=by simpa using h1
   have h2:¬n=1:=beq_eq_false_iff_ne.1 h2
   rw[if_neg h1,if_neg h2]at hst
   have hnt:n=((n.toNat:Nat):Int):=(Int.toNat_of_nonneg (by omega)).symm
   refine⟨⟨n.toNat,by rw[<-hnt],by rw[<-hnt],by rw[<-hnt],rfl,hnt⟩,?_⟩
   rintro _ m W1 ⟨hW1,hm⟩
   replace hW1:=hW1.symm;subst hW1
   refine zb (fun h3=> ?_) (fun h3=>zb (fun h4=>⟨s,(za hO.is.box 7).trans rfl,rfl,hO.is.old (k:=7) (by decide),hO.is.free 7,fun w1 hs1=> ?_⟩) (fun h4=> ?_))
   ·intro w1 hd
    have hO1:=hO.trans (GlOut.ext hO.is hd.ext)
    refine⟨s,(za hO.is.box 7).trans rfl,zd (by omega) (by omega),rfl,hO1.is.old (k:=7) (by decide),hO1.is.free 7,fun w2 hs2=> ?_⟩
    rw[Bool.or_eq_true,beq_iff_eq,beq_iff_eq]at h3
    rcases h3 with h3|h3
    ·have h3':n=3:=by omega
     have hm3:m=3:=by omega
     subst hm3
     rw[if_pos h3']at hst
     rw[show IntKind.u16.wrap (1*2^min (6+((3:Nat):Int)).toNat IntKind.u16.bits)=((512:Nat):Int)from rfl,zab hs (by decide)]at hs2
     exact put hO1 (hc.ext hd.ext) hs2 (zbH hs (by decide)) hst
    ·have h3':¬n=3:=by omega
     have h4':n=4:=by omega
     have hm4:m=4:=by omega
     subst hm4
     rw[if_neg h3',if_pos h4']at hst
     rw[show IntKind.u16.wrap (1*2^min (6+((4:Nat):Int)).toNat IntKind.u16.bits)=((1024:Nat):Int)from rfl,zab hs (by decide)]at hs2
     exact put hO1 (hc.ext hd.ext) hs2 (zbH hs (by decide)) hst
   ·rw[Bool.or_eq_false_iff,beq_eq_false_iff_ne,beq_eq_false_iff_ne]at h3
    have h4:n=7:=by rw[hm];exact beq_iff_eq.1 h4
    rw[if_neg (by omega),if_neg (by omega),if_pos h4]at hst
    rw[show(2048:Int)=((2048:Nat):Int)from rfl,zab hs (by decide)]at hs1
    exact put hO hc hs1 (zbH hs (by decide)) hst
   rw[Bool.or_eq_false_iff,beq_eq_false_iff_ne,beq_eq_false_iff_ne]at h3
   have h4:¬n=7:=by rw[hm];exact beq_eq_false_iff_ne.1 h4
   rw[if_neg (by omega),if_neg (by omega),if_neg h4]at hst
   refine zb (fun h5=> ?_) (fun h5=>fin hO hc ?_)
   rotate_left
   ·rw[Bool.or_eq_false_iff,beq_eq_false_iff_ne,beq_eq_false_iff_ne]at h5
    rw[<-hst]
    split
    ·rw[if_neg (fun hh=>by omega),if_neg (fun hh=>by omega)]
    ·rfl
   rw[Bool.or_eq_true,beq_iff_eq,beq_iff_eq]at h5
   refine zb (fun h6=>fin hO hc ?_) (fun h6=> ?_)
   ·have h6:=of_decide_eq_true h6
    rw[<-hst]
    split
    ·rename_i a1 a2 a3 hl
     exfalso
     have:=congrArg List.length hl
     rw[List.length_drop]at this
     simp only[List.length_cons]at this
     omega
    ·rfl
   have h6:=of_decide_eq_false h6
   have k1:k+1<g.num.length:=by omega
   have k2:k+2<g.num.length:=by omega
   have hd1:g.num.drop (k+1)=zS g.num (k+1)::zS g.num (k+2)::g.num.drop (k+3):=by
     rw[List.drop_eq_getElem_cons k1,List.drop_eq_getElem_cons k2,<-Z1 k1,<-Z1 k2,List.getD_eq_getElem?_getD,List.getD_eq_getElem?_getD,List.getElem?_eq_getElem k1,List.getElem?_eq_getElem k2];rfl
   have hst2:=hst
   rw[hd1]at hst2
   dsimp only at hst2
   rw[<-hd1]at hst2
   refine⟨1,rfl,by omega,hc.int (by rw[List.length_drop];omega) fun b1 o1 hb1=>⟨_,hb1,?_⟩⟩
   rw[hgd 1 k1]
   refine zb (fun h7=>fin hO hc ?_) (fun h7=> ?_)
   ·have h7:=bne_iff_ne.1 h7
    rw[if_neg (fun hh=>h7 hh.2.1),if_neg (fun hh=>h7 hh.2.1)]at hst2
    exact hst2
   have h7:=bne_eq_false_iff_eq.1 h7
   refine⟨2,rfl,by omega,hc.int (by rw[List.length_drop];omega) fun b2 o2 hb2=>⟨_,hb2,?_⟩⟩
   rw[hgd 2 k2]
   refine zb (fun h8=>fin hO hc ?_) (fun h8=> ?_)
   ·have h8:=of_decide_eq_true h8
    rw[if_neg (fun hh=>by omega),if_neg (fun hh=>by omega)]at hst2
    exact hst2
   have h8:=of_decide_eq_false h8
   have c2:∀{K:Int->Prop},K (zS g.num (k+2))->∃k3:Nat,(2:Int)=(k3:Int)/\k3<g.num.length - k/\zn a fun b3 o3=>∃n3:Int,W.cell? ⟨b3,o3+k3,none⟩=some (.int .i64 n3)/\K n3:=
     fun hK=>⟨2,rfl,by omega,hc.int (by rw[List.length_drop];omega) fun b3 o3 hb3=>⟨_,hb3,by rw[hgd 2 k2];exact hK⟩⟩
   have d38:=fun(h38:n=38) (hle:zS g.num (k+2)<=255)=>zy1 hnp hnl hO hs hc hbl hcap k2 (by omega) hle (by rw[if_pos ⟨h38,h7,by omega,hle⟩]at hst2;exact hst2)
   have d48:=fun(h48:n=48) (hle:zS g.num (k+2)<=15)=>zy0 hnp hnl hO hs hc hbl hcap k2 (by omega) hle (by rw[if_neg (fun hh=>by omega),if_pos ⟨h48,h7,by omega,hle⟩]at hst2;exact hst2)
   refine zb (fun h9=>c2 (zb (fun h10=>fin hO hc ?_) (fun h10=>zb (fun h11=> ?_) (fun h11=>zb (fun h12=>d38 (by rw[hm];exact beq_iff_eq.1 h9) (by have:=of_decide_eq_false h10;omega)) (fun h12=> ?_))))) (fun h9=>zb (fun h11=>c2 (zb (fun h10=>fin hO hc ?_) (fun h10=>zb (fun h12=> ?_) (fun h12=>d48 (by rw[hm];exact beq_iff_eq.1 h11) (by have:=of_decide_eq_false h10;omega))))) (fun h11=> ?_))
   ·have h9:=beq_iff_eq.1 h9
    have h10:=of_decide_eq_true h10
    rw[if_neg (fun hh=>by omega),if_neg (fun hh=>by omega)]at hst2
    exact hst2
   ·exfalso;have h9:=beq_iff_eq.1 h9;have h11:=beq_iff_eq.1 h11;omega
   ·exfalso;rw[h9]at h12;cases h12
   ·have h9:=beq_eq_false_iff_ne.1 h9
    have h10:=of_decide_eq_true h10
    rw[if_neg (fun hh=>by omega),if_neg (fun hh=>by omega)]at hst2
    exact hst2
   ·exfalso;rw[h9]at h12;cases h12
   ·exfalso;have h9:=beq_eq_false_iff_ne.1 h9;have h11:=beq_eq_false_iff_ne.1 h11;omega
  rintro _ ⟨k',a',c',s'⟩ W' ⟨⟨hk',hO',hs',hc',hbl',hcap',hw'⟩,hle⟩
  dsimp only at hk' hO' hs' hc' hbl' hcap' hw' hle⊢
  have hle:g.num.length - k'<=g.num.length - k:=hle
  refine⟨1,rfl,by omega,fun ad' hsl=>⟨⟨k'+1,ad',c' - 1,s'⟩,by dsimp only;rw[show g.num.length - k' - 1=g.num.length - (k'+1)from by omega],⟨hk',hO',hs',?_,by rw[zmo hsl,hbl'],by show g.num.length - (k'+1)<=c' - 1;omega,hw'⟩,by dsimp only;omega⟩⟩
  have:=hc'.drop (s:=1) hsl (by omega) (by rw[List.length_map,List.length_drop];omega)
  rw[<-List.map_drop,List.drop_drop]at this
  exact this
end

section
open Go Go.RowKit Vc Ut Tb Cl
theorem ziq{n:Int}{m:Nat}:(if 0>(if(m:Int)<n then(m:Int)else n) - 1 then(0:Int)else(if(m:Int)<n then(m:Int)else n) - 1)=((qS n m:Nat):Int):=by
  unfold qS
  have e:min n (m:Int)=if(m:Int)<n then(m:Int)else n:=by split<;>omega
  rw[e]
  generalize (if(m:Int)<n then(m:Int)else n)=k
  split<;>omega
theorem zw5{g:Gs}(hF:fitG g)(i:Nat): -1<=zS g.num i/\zS g.num i<=9999:=by
  by_cases h:i<g.num.length
  ·exact hF.num _ (zet h)
  ·unfold zS;rw[List.getD_eq_getElem?_getD,List.getElem?_eq_none (by omega)];exact⟨by decide,by decide⟩
set_option maxRecDepth 2000 in
theorem ztm:zji.Ok Tryz.prog 60:=by
  refine ztl ⟨zvk,zlI,zqM,trivial⟩ ?_
  rintro⟨A,g,r⟩ w ⟨hG,hF⟩
  dsimp only at hG hF⊢
  have hw:=hF.w;have hh:=hF.h
  refine⟨A.na,g.num.length,A.nc,(za hG.box 11).trans rfl,fun b w1 hn=>⟨rfl,(zjw hn).1,(zjw hn).2.1,fun w11 hs=> ?_⟩⟩
  have hG1:=hG.ext hn.ext
  have hO1:=GlOut.ext hG hn.ext
  have z1:=hn.size
  have hlt:=hG.lt
  have hbA:b≠A.p:=fun h=>by have:=hlt A.p (.inl rfl);omega
  obtain⟨hx2,hbox, -, -⟩:=(zjw hn).2.2 hs
  have hG2:=hG.ext hx2
  have hO2:=GlOut.ext hG hx2
  have hbn:zV A.na≠some b:=fun h=>by have:=hlt b (.inr (.inr h));omega
  have hbc:zV A.ca≠some b:=fun h=>by have:=hlt b (.inr (.inl h));omega
  refine⟨g.void,(za hG2.box 13).trans rfl,zb (fun h=>⟨A,rfl,?_⟩) (fun hv=>⟨g.asked,(za hG2.box 12).trans rfl,zb (fun ha=> ?_) (fun ha=> ?_)⟩)⟩
  ·have e:zH g r=g:=by unfold zH;rw[if_pos h]
   rw[e];exact hO2
  ·refine⟨⟨b,A.na,A.nc,g.num,0⟩,rfl,⟨hbox,hG2.num.cells⟩,?_⟩
   rintro x w' ⟨rfl,rfl⟩
   have e:zH g r=if zS g.num 0=25/\(r=104\/r=108)then {g with hid:=r==108}else g:=by
     unfold zH;rw[if_neg (by rw[hv];decide),if_pos ha]
   rw[e]
   refine zb (fun h25=> ?_) (fun h25=>⟨A,rfl,?_⟩)
   ·have h25:=beq_iff_eq.1 h25
    have put:(r=104\/r=108)->true=true/\(∃old,w'.cell? ⟨A.p,6,none⟩=some old)/\w'.frozen? ⟨A.p,6,none⟩=false/\∀w12,Stored w' ⟨A.p,6,none⟩ (.bool (r==108)) w12->∃x1:GlP,Value.tuple #[]=Value.tuple #[]/\GlOut w w12 A x1 (if zS g.num 0=25/\(r=104\/r=108)then {g with hid:=r==108}else g):=fun hr=>
      ⟨rfl,hG2.old (k:=6) (by decide),hG2.free 6,fun w12 hs12=>⟨A,rfl,by rw[if_pos ⟨h25,hr⟩];exact hO2.trans (qG hG2 hs12 rfl rfl rfl)⟩⟩
    refine zb (fun h1=>put (.inl (beq_iff_eq.1 h1))) (fun h1=>zb (fun h2=>put (.inr (beq_iff_eq.1 h2))) (fun h2=>⟨A,rfl,?_⟩))
    rw[if_neg (fun hh=>hh.2.elim (beq_eq_false_iff_ne.1 h1) (beq_eq_false_iff_ne.1 h2))]
    exact hO2
   ·rw[if_neg (fun hh=>beq_eq_false_iff_ne.1 h25 hh.1)]
    exact hO2
  have e:zH g r=if r=72 then {g with y:=qS (zS g.num 0) g.h,x:=qS (zS g.num 1) g.w}
   else if r=74/\zS g.num 0=2 then qq {g with cs:=List.replicate g.cs.length (zr 0)}
   else if r=109 then {g with sty:=Zl g.num g.sty}else g:=by
    unfold zH;rw[if_neg (by rw[hv];decide),if_neg (by rw[ha];decide)]
  rw[e]
  have wr:∀{W:World},W=w11->r=109->∃(a4:Option Addr) (n1 c1:Nat),W.cell? ⟨b,0,none⟩=some (.slice a4 n1 c1)/\∃g1:GGl, #[Value.pointer (some ⟨A.p,0,none⟩),Value.slice a4 n1 c1]= #[Value.pointer (some ⟨g1.A.p,0,none⟩),Value.slice g1.A.na g1.g.num.length g1.A.nc]/\
   (GlIn W g1.A g1.g/\fitG g1.g)/\∀(x:GlP) (w':World),GlOut W w' g1.A x (zaW g1.g (Zl g1.g.num g1.g.sty))->∃x1:GlP,Value.tuple #[]=Value.tuple #[]/\GlOut w w' A x1 (if r=72 then {g with y:=qS (zS g.num 0) g.h,x:=qS (zS g.num 1) g.w}
   else if r=74/\zS g.num 0=2 then qq {g with cs:=List.replicate g.cs.length (zr 0)}
   else if r=109 then {g with sty:=Zl g.num g.sty}else g):=by
    rintro W rfl hr
    refine⟨_,_,_,Zv hbox,⟨A,g⟩,rfl,⟨hG2,hF⟩,fun x w' hO=>⟨x,rfl,?_⟩⟩
    rw[if_neg (by omega),if_neg (by omega),if_pos hr]
    exact hO2.trans hO
  refine zb (fun h72=> ?_) (fun h72=>zb (fun h74=> ?_) (fun h74=>zb (fun h109=>wr rfl (beq_iff_eq.1 h109)) (fun h109=>⟨A,rfl,?_⟩)))
  ·rw[if_pos (beq_iff_eq.1 h72)]
   intro w12 hd
   have hG3:=hG2.ext hd.ext
   have hO3:=hO2.trans (GlOut.ext hG2 hd.ext)
   have hbox3:=Ext.heap hd.ext hbox
   refine⟨g.h,(za hG2.box 1).trans rfl,⟨b,A.na,A.nc,g.num,0⟩,rfl,⟨hbox3,hG3.num.cells⟩,?_⟩
   rintro x w' ⟨rfl,hW⟩
   replace hW:=hW.symm;subst hW
   have n0:=zw5 hF 0
   have n1:=zw5 hF 1
   dsimp only
   refine⟨Ext.refl _,zd (by split<;>omega) (by split<;>omega),rfl,hG3.old (k:=5) (by decide),hG3.free 5,fun w13 hs13 w14 hd14=> ?_⟩
   rw[ziq]at hs13
   have hO4:=qG (g':={g with y:=qS (zS g.num 0) g.h}) hG3 hs13 rfl rfl rfl
   have hbox4:w13.heap[b]? =some (.cells #[.slice A.na g.num.length A.nc] 61):=(hs13.other hbA).trans hbox3
   have hG4:=hO4.is
   have hG5:=hG4.ext hd14.ext
   have hO5:=hO4.trans (GlOut.ext hG4 hd14.ext)
   have hbox5:=Ext.heap hd14.ext hbox4
   refine⟨g.w,(za hG4.box 0).trans rfl,⟨b,A.na,A.nc,g.num,1⟩,rfl,⟨hbox5,hG5.num.cells⟩,?_⟩
   rintro x w' ⟨rfl,hW⟩
   replace hW:=hW.symm;subst hW
   dsimp only
   refine⟨Ext.refl _,zd (by split<;>omega) (by split<;>omega),rfl,hG5.old (k:=4) (by decide),hG5.free 4,fun w15 hs15=>⟨A,rfl,?_⟩⟩
   rw[ziq]at hs15
   exact hO3.trans (hO5.trans (qG hG5 hs15 rfl rfl rfl))
  ·have h74:=beq_iff_eq.1 h74
   refine⟨⟨b,A.na,A.nc,g.num,0⟩,rfl,⟨hbox,hG2.num.cells⟩,?_⟩
   rintro x w' ⟨rfl,rfl⟩
   dsimp only
   refine zb (fun h2=> ?_) (fun h2=>zb (fun h109=>wr rfl (beq_iff_eq.1 h109)) (fun h109=>⟨A,rfl,?_⟩))
   ·have h2:=beq_iff_eq.1 h2
    rw[if_neg (by omega),if_pos ⟨h74,h2⟩]
    have hF':fitG {g with cs:=List.replicate g.cs.length (zr 0)}:=⟨hF.w,hF.h,by rw[List.length_replicate];exact hF.len,hF.x,hF.y,hF.sty,fun c hc=>by rw[(List.mem_replicate.1 hc).2];decide,hF.num,hF.numl,by rw[List.length_replicate];exact hF.last⟩
    refine⟨A.ca,g.cs.length,A.cc,(za hG2.box 3).trans rfl,?_⟩
    by_cases h0:g.cs.length=0
    ·have hcs:g.cs=[]:=List.eq_nil_of_length_eq_zero h0
     have e2:({g with cs:=List.replicate g.cs.length (zr 0)}:Gs)=g:=by rw[h0,List.replicate_zero,<-hcs]
     refine⟨_,zdg _ _ _ h0,KOE.refl _ _,⟨A,g⟩,rfl,⟨hG2,hF⟩,fun x w' hO=>⟨x,rfl,?_⟩⟩
     rw[e2];exact hO2.trans hO
    ·obtain⟨q,hq⟩:=QX hG2.row (by omega)
     have hrow:=hG2.row
     rw[hq]at hrow
     obtain⟨w3,hc,hk,hr,hf⟩:=zio (k:=0) (m:=g.cs.length) (cx:=A.cc) (ty:=0) (t:=22) Qw.und zlW rfl hrow (Nat.zero_add _)
     rw[Nat.zero_mul,<-hq]at hc
     rw[List.take_zero,List.nil_append,<-hq]at hr
     have hO3:=zce hG2 hr (hf.mono fun y _ hy=>by rw[hq,hy];rfl)
     refine⟨w3,hc,hk,⟨A,{g with cs:=List.replicate g.cs.length (zr 0)}⟩,rfl,⟨hO3.is,hF'⟩,fun x w' hO=>⟨x,rfl,hO2.trans (hO3.trans hO)⟩⟩
   ·have h2:=beq_eq_false_iff_ne.1 h2
    have h109:=beq_eq_false_iff_ne.1 h109
    rw[if_neg (by omega),if_neg (fun hh=>h2 hh.2),if_neg h109]
    exact hO2
  ·have h72:=beq_eq_false_iff_ne.1 h72
   have h74:=beq_eq_false_iff_ne.1 h74
   have h109:=beq_eq_false_iff_ne.1 h109
   rw[if_neg h72,if_neg (fun hh=>h74 hh.1),if_neg h109]
   exact hO2
end

section
open Go Go.RowKit Vc Ut Tb Cl
def Q7(g:Gs)(s:Nat):Gs:={g with stt:=s}
structure GTak where
  A:GlP
  g:Gs
  r:Int
  m:Nat
def zfR(w:World)(A:GlP)(g:Gs)(m:Nat):Prop:=GlIn w A g/\okG g m/\m<=549755813888
def ziW:List (Nat×CallSpec):=[(26,Q8),(25,zbp),(89,zkp)]
def zje:CallSpec where
  G:=GTak
  args:=fun g=> #[.pointer (some ⟨g.A.p,0,none⟩), .int .i32 g.r]
  pre:=fun g w=>zfR w g.A g.g g.m
  X:=GlP×Bool
  res:=fun x=> .bool x.2
  post:=fun g w x w'=>x.2=(zX g.g g.r).isSome/\GlOut w w' g.A x.1 ((zX g.g g.r).getD g.g)
def zl9:List (Nat×CallSpec):=[(88,zje),(45,zaO),(25,zbp),(64,zgv),(89,zkp)]
def znH:CallSpec where
  G:=GTak
  args:=fun g=> #[.pointer (some ⟨g.A.p,0,none⟩), .int .i32 g.r]
  pre:=fun g w=>zfR w g.A g.g g.m/\g.g.stt=0
  X:=GlP
  res:=fun _=> .tuple #[]
  post:=fun g w x w'=>GlOut w w' g.A x (qD g.g g.r)
def Zi(g:Gs)(n:Nat):Gs:=if g.w<g.x+n then zZ {g with last:=0,x:=0}else {g with last:=0}
def Qg(g:Gs)(r:Int):ByteArray:=(Zb (Zo r) 0 (lkW g.wd)).1
structure ptI(g:GTak)(w00:World)(x:GlP)(w:World)(s n:Value):Prop where
  out:GlOut w00 w g.A x (Zi g.g (plN (Qg g.g g.r) g.g.wd))
  s:s= .string (Qg g.g g.r)
  n:n= .int .i64 (plN (Qg g.g g.r) g.g.wd:Int)
  put:qD g.g g.r=Qc (Zi g.g (plN (Qg g.g g.r) g.g.wd)) (Qg g.g g.r) (plN (Qg g.g g.r) g.g.wd)
  has:¬(plN (Qg g.g g.r) g.g.wd=0\/g.g.w<plN (Qg g.g g.r) g.g.wd\/g.g.h=0)
def zwx(g:GTak)(w00:World):Ann where
  sp:=zl9
  cuts:=[(5,7,{X:=GlP,sh:=fun _ _=>[],inv:=fun e _ x w=>ptI g w00 x w (gv e 4) (gv e 6)})]
def ziK:List (Nat×CallSpec):=[(59,zjf),(60,zji),(61,zbW .i8 zl),(62,znH),(63,zgw),(64,zgv)]
def zi6:CallSpec where
  G:=GTak
  args:=fun g=> #[.pointer (some ⟨g.A.p,0,none⟩), .int .i32 g.r]
  pre:=fun g w=>zfR w g.A g.g g.m
  X:=GlP
  res:=fun _=> .tuple #[]
  post:=fun g w x w'=>GlOut w w' g.A x (zi g.g g.r)
def ztQ(g:GTak)(w00:World):Ann where
  sp:=ziK
  jumps:=[(0,{
    X:=GlP
    sh:=fun _ _=>[]
    inv:=fun _ _ x w=>GlOut w00 w g.A x (Q7 (zk g.g) 0)/\zi g.g g.r=qy (Q7 (zk g.g) 0) g.r/\okG (Q7 (zk g.g) 0) g.m
    mu:=fun _ _ _ _=>0})]
end
end Go.Proofs.YtjdohhididpomaaGreatDoor
