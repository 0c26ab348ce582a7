/-
  Texts joined by program: Gg, WkO, WkSb, WkSc, VgRd, Ga, WkRd, VgI.
-/
import Derived.Test.YtjdohhididpomaaGreatDoorWg10
import Derived.Test.YtjdohhididpomaaGreatDoorWg06
import Derived.Test.YtjdohhididpomaaGreatDoorWg12
import Derived.Test.YtjdohhididpomaaGreatDoorWg13
import Derived.Test.YtjdohhididpomaaGreatDoorWg05
import Derived.Test.YtjdohhididpomaaGreatDoorProg
import Derived.KernelRfl
set_option linter.unusedVariables false
set_option linter.unusedSimpArgs false

namespace Go.Proofs.YtjdohhididpomaaGreatDoor
section
namespace Vc
open Go Go.RowKit
theorem zjN{w w1:World}{u:Value}{t:TypeId}{b:Nat}(h:New w (.cells #[u] t) b w1):
    (∃old,w1.cell? ⟨b,0,none⟩=some old)/\w1.frozen? ⟨b,0,none⟩=false/\∀{v:Value} {w2:World},Stored w1 ⟨b,0,none⟩ v w2->Ext w w2/\w2.heap[b]? =some (.cells #[v] t)/\b=w.heap.size/\w2.heap.size=b+1:=by
  refine⟨zfU h.heap,zea h.heap,fun{v w2} hs=> ?_⟩
  have:=h.size
  refine⟨h.ext.stored hs (by show _<=b;omega),hs.box h.heap,this.1,by rw[hs.size];omega⟩
theorem _root_.Go.Proofs.YtjdohhididpomaaGreatDoor.Grow.keep{W W':World}{box:Nat}{t e:TypeId}{a:Option Addr}{c:Nat}{vs:List Value}(h:Grow W box t e a c vs)(hk:∀q,q=box\/qi a=some q->W'.heap[q]? =W.heap[q]?):Grow W' box t e a c vs:=
  ⟨(hk box (.inl rfl)).trans h.hb,h.row.keep fun g hg=>hk g (.inr hg)⟩
theorem _root_.Go.Proofs.YtjdohhididpomaaGreatDoor.Grow.kept{W W':World}{box q:Nat}{t e:TypeId}{a:Option Addr}{c n:Nat}{vs:List Value}(h:Grow W box t e a c vs)(hq:q=box\/qi a=some q)(hk:∀o,W.heap[q]? =some o->(zdY o=false\/q<n)->W'.heap[q]? =some o):W'.heap[q]? =W.heap[q]? :=by
  rcases hq with rfl|hq
  ·rw[h.hb];exact hk _ h.hb (.inl rfl)
  ·rcases h.row.2 with⟨rfl,_⟩|⟨g,cur,rfl,h1,_⟩
   ·cases hq
   ·cases hq
    rw[h1];exact hk _ h1 (.inl rfl)
theorem Row.off{W:World}{e t:TypeId}{n c q:Nat}{a:Option Addr}{vs:List Value}{cs:Array Value}(h:Row W e 1 a n vs c)(hq:W.heap[q]? =some (.cells cs t))(hne:t≠e):qi a≠some q:=by
  intro he
  rcases h.2 with⟨rfl,_⟩|⟨g,cur,rfl,h1,_⟩
  ·cases he
  ·cases he
   rw[hq]at h1
   simp only[Option.some.injEq,Obj.cells.injEq]at h1
   exact hne h1.2.1
theorem _root_.Go.Proofs.YtjdohhididpomaaGreatDoor.Grow.push{P:Program}{W w1:World}{box b:Nat}{t tt ty e:TypeId}{bytes c:Nat}{a:Option Addr}{vs:List Value}{v:Value}(hE:ElemOk P tt e 1 bytes)(h:Grow W box t e a c vs)(hne:t≠e)(hn:New W (.cells #[v] e) b w1)
    (hv:v.oneCell'=true) (h63:vs.length+1<=maxLen) (hb:(vs.length+1)*bytes<=140737488355328):
    ∃a' c' w2,zA P #[tt,tt] ty (.slice a vs.length c) (.slice (some ⟨b,0,none⟩) 1 1) w1 a' (vs.length+1) c' w2/\KO w1 w2/\(∃old,w2.cell? ⟨box,0,none⟩=some old)/\w2.frozen? ⟨box,0,none⟩=false/\
     ∀{w3:World},Stored w2 ⟨box,0,none⟩ (.slice a' (vs.length+1) c') w3->Grow w3 box t e a' c' (vs++[v])/\Fr (fun q=>q=box\/qi a=some q) W w3/\(∀q,qi a'=some q->qi a=some q\/W.heap.size<=q):=by
  obtain⟨a',c',w2,hr,hko,hrow,hg,hor,_⟩:=h.row.pushN (P:=P) (ty:=ty) hE (by decide) (m:=1) (news:=[v]) hn rfl (by simp[hv]) h63 (.inr hb)
  have hb1:=hn.ext.heap h.hb
  have hoff:=h.row.off h.hb hne
  have hb2:w2.heap[box]? =some (.cells #[.slice a vs.length c] t):=(hg.block box (zv hb1) (fun e=>hoff e.symm)).trans hb1
  refine⟨a',c',w2,hr,hko,zfU hb2,zea hb2,fun{w3} hs=> ?_⟩
  have hoff':∀q,qi a'=some q->qi a=some q\/W.heap.size<=q:=by
    intro q hq
    rcases hor with rfl|⟨rfl,_⟩
    ·exact .inl hq
    ·simp[qi]at hq;subst hq;exact .inr hn.ext.size
  have hne':qi a'≠some box:=fun he=>by
    rcases hoff' box he with h1|h1
    ·exact hoff h1
    ·have:=zv h.hb;omega
  refine⟨⟨?_,?_⟩,?_,hoff'⟩
  ·have:=hs.box hb2;simpa using this
  ·have hl:(vs++[v]).length=vs.length+1:=by simp
   rw[hl]
   exact hrow.keep fun g hg'=>hs.other (by show g≠box;rintro rfl;exact hne' hg')
  ·refine((Fr.of_ext (S:=fun q=>q=box\/qi a=some q) hn.ext).trans (Fr.grown hg) (fun x _ hx=> .inr hx)).trans (Fr.stored hs) (fun x _ hx=> .inl hx)
theorem zpk{α β:Type}{f:α->β}{xs:List α}{k:Nat}{p:α}(h:xs[k]? =some p):(xs.take (k+1)).map f=(xs.take k).map f++[f p]:=by
  rw[List.take_add_one,h];simp
end Vc
end

section
open Go Go.RowKit Vc Ut Tb Cl Orb
theorem ztw:ElemOk Tryz.prog 102 134 3 24:=Q4 (.agg #[.int .i32 0, .int .i64 0, .bool false]) (by kernel_rfl) (by kernel_rfl) rfl
theorem zqn:ElemOk Tryz.prog 104 142 2 24:=Q4 (.agg #[.int .i64 0, .string ⟨#[]⟩]) (by kernel_rfl) (by kernel_rfl) rfl
theorem zyU{s:ByteArray}{k i:Nat}(h:k+i<cnt s):((List.range (cnt s)).drop k)[i]? =some (k+i):=by
  rw[List.getElem?_drop,List.getElem?_range h]
theorem zrE{s:ByteArray}{k i j:Nat}(h:k+i<cnt s)(hj:j<3):(((List.range (cnt s)).drop k).flatMap (ZV s))[i*3+j]? =(ZV s (k+i))[j]? :=zcL (f:=ZV s) (s:=3) (fun _=>rfl) (zyU h) hj
theorem zuP(s:ByteArray)(n:Nat):∀u∈ZV s n,u.oneCell'=true:=by
  intro u hu
  simp only[ZV,List.mem_cons,List.not_mem_nil,or_false]at hu
  rcases hu with rfl|rfl|rfl<;>rfl
theorem zve(s:ByteArray)(n:Nat):∀u∈pcV s n,u.oneCell'=true:=by
  intro u hu
  simp only[pcV,List.mem_cons,List.not_mem_nil,or_false]at hu
  rcases hu with rfl|rfl<;>rfl
theorem zix{α:Type}{f:α->List Value}{s:Nat}(hf:∀x,(f x).length=s):∀(l:List α) (n:Nat),(l.flatMap f).drop (n*s)=(l.drop n).flatMap f
  |l,0=>by simp
  |[],n+1=>by simp
  |x::l,n+1=>by
   rw[List.flatMap_cons,List.drop_succ_cons,<-zix hf l n,show(n+1)*s=(f x).length+n*s from by rw[hf x,Nat.succ_mul];omega,<-List.drop_drop,List.drop_left]
set_option maxRecDepth 10000 in
theorem zgD:zer.Ok Tryz.prog 71:=by
  refine zrC ⟨zgS,trivial⟩ ?_
  rintro(s:ByteArray) w ⟨hU,hsm⟩
  have hcs:=Z3 s
  refine⟨⟨(0,none,0),rfl,rfl,Nat.zero_le _,Made.nil _ _ _⟩,?_⟩
  rintro _ ⟨n,a,c⟩ w1 ⟨hn,hm⟩
  dsimp only at hn hm⊢
  refine zb (fun h=> ?_) (fun h=> ?_)
  ·have hp:pos s n<s.size:=by simpa using h
   have hlt:=qK.2 hp
   obtain⟨e1,e2⟩:=zbK hp
   refine⟨pos s n,rfl,by omega,Nat.le_refl _,_,rfl,⟨hU.ext hm.ext,zbo hsm⟩,?_⟩
   rintro⟨r,k⟩ w2 ⟨hr,hk,hw2⟩
   dsimp only at hr hk⊢
   rw[e1]at hr;rw[e2]at hk
   subst hr hk
   have key:∀(b:Nat) (w3:World) (v:Bool),v=zz s n->New w2 (.cells #[.int .i32 (dcR s (pos s n)), .int .i64 (pos s n), .bool v] 134) b w3->
    ∃a' c' w4,zA Tryz.prog #[102,102] 102 (.slice a n c) (.slice (some ⟨b,0,none⟩) 1 1) w3 a' (n+1) c' w4/\KO w3 w4/\InR .i64 ((pos s n:Int)+(Qh s (pos s n):Int))/\
    ∃y:Nat×Option Addr×Nat,Value.int .i64 ((pos s n:Int)+(Qh s (pos s n):Int))=Value.int .i64 (pos s y.1:Int)/\Value.slice a' (n+1) c'=Value.slice y.2.1 y.1 y.2.2/\
    (y.1<=cnt s/\Made w w4 134 3 y.2.1 y.1 ((List.range y.1).flatMap (ZV s)) y.2.2)/\cnt s - y.1<cnt s - n:=by
     intro b w3 v hv hnw
     obtain⟨a',c',w4,hrun,hko,hm4,_⟩:=(hm.later hw2).pushN (P:=Tryz.prog) (ty:=102) ztw (by decide) (m:=1) (news:=ZV s n) (by unfold ZV sg;rw[<-hv];exact hnw) rfl (zuP s n) (by unfold maxLen;omega) (.inr (by omega))
     have hle:=za8 hp
     refine⟨a',c',w4,hrun,hko,zd (by omega) (by omega),(n+1,a',c'),?_,rfl,⟨by dsimp only;omega,?_⟩,by dsimp only;omega⟩
     ·dsimp only;rw[qn hp];simp
     ·dsimp only;rw[List.range_succ,List.flatMap_append];simpa using hm4
   refine zb (fun h=> ?_) (fun h=> ?_)
   ·intro b w3 hnw
    refine key b w3 _ ?_ hnw
    have h5:dcR s (pos s n)=65533:=by simpa using h
    unfold zz
    rw[Bool.eq_iff_iff,beq_iff_eq,decide_eq_true_eq]
    omega
   ·intro b w3 hnw
    refine key b w3 _ ?_ hnw
    have h5:dcR s (pos s n)≠65533:=by simpa using h
    unfold zz
    simp[h5]
  ·have hn2:=zfN (s:=s) (by simpa using h) hn
   subst hn2
   exact⟨(a,cnt s,c),rfl,rfl,hm⟩
set_option maxRecDepth 10000 in
theorem zlz:zgI.Ok Tryz.prog 102:=by
  refine ztp ⟨zpM,zrl,trivial⟩ ?_
  rintro⟨s,k,a,c⟩ w ⟨hk,hsm,hc⟩
  dsimp only at hk hsm hc⊢
  have hcs:=Z3 s
  have rd:∀{w':World} {i j:Nat} {v:Value} {K:Nat->Nat->Prop},Ext w w'->k+i<cnt s->j<3->(ZV s (k+i))[j]? =some v->(∀b o,w'.cell? ⟨b,o+i*3+j,none⟩=some v->K b o)->zr a K:=fun e hi hj hv hK=>
    (hc.ext e).fld (by rw[zrE hi hj];exact hv) hK
  have E0:=Ext.refl w
  refine⟨0,rfl,by omega,rd E0 (i:=0) (j:=2) hk (by decide) rfl fun b o hb=>⟨_,hb,?_⟩⟩
  change zc (zz s k) _ _
  refine zb (fun hbad=>⟨1,rfl,by unfold zy;rw[if_pos hbad],E0⟩) (fun hbad=> ?_)
  have hcr:∀n1:Int,n1=sg s (k+1)->1<cnt s - k->(sg s k==13)=true->(n1==10)=crB s k:=by
    rintro n1 rfl h1 h2
    unfold crB
    rw[h2,decide_eq_true (show k+1<cnt s by omega)];rfl
  refine⟨?_,?_⟩
  ·refine⟨0,rfl,by omega,rd E0 (i:=0) (j:=0) hk (by decide) rfl fun b o hb=>⟨_,hb,?_⟩⟩
   change zc (sg s k==13) _ _
   refine zb (fun h1=> ?_) (fun h1=>⟨(),?_,E0⟩)
   ·refine zb (fun h2=> ?_) (fun h2=>⟨(),?_,E0⟩)
    ·have h2:1<cnt s - k:=by have:=of_decide_eq_true h2;omega
     refine⟨1,rfl,h2,rd E0 (i:=1) (j:=0) (by omega) (by decide) rfl fun b o hb=>⟨_,hb,(),?_,E0⟩⟩
     rw[hcr _ rfl h2 h1]
    ·have h2:¬1<cnt s - k:=by have:=of_decide_eq_false h2;omega
     congr 1
     unfold crB
     rw[decide_eq_false (show ¬k+1<cnt s by omega)];simp
   ·congr 1
    have h1:(sg s k==13)=false:=h1
    unfold crB;rw[h1];rfl
  rintro _ _ w1 e1
  refine zb (fun hC=>⟨2,rfl,by unfold zy;rw[if_neg (by rw[hbad];decide),if_pos hC],e1⟩) (fun hC=> ?_)
  refine⟨0,rfl,by omega,rd e1 (i:=0) (j:=0) hk (by decide) rfl fun b o hb=>⟨_,hb,sg s k,rfl,trivial,?_⟩⟩
  rintro _ w2 ⟨rfl,e2⟩
  have E2:=e1.trans e2
  refine zb (fun hA=>⟨1,rfl,by unfold zy;rw[if_neg (by rw[hbad];decide),if_neg (by rw[hC];decide),if_pos hA],E2⟩) (fun hA=> ?_)
  have hF:zy s k=goN s k 32 1:=by unfold zy;rw[if_neg (by rw[hbad];decide),if_neg (by rw[hC];decide),if_neg (by rw[hA];decide)]
  refine⟨⟨1,rfl,Nat.le_refl _,by omega,by decide,by rw[hF],Ext.refl _⟩,?_⟩
  rintro _ n w3 ⟨n1,n2,n3,n4,e3⟩ w4 hd
  have E3:=E2.trans e3
  have E4:=E3.trans hd.ext
  have stop:qR s k n=false->n=zy s k:=fun h=>by rw[<-n4,zlu h]
  refine zb (fun h1=> ?_) (fun h1=>⟨n,rfl,stop ?_,E4⟩)
  ·have h1:k+n<cnt s:=by have:=of_decide_eq_true h1;omega
   refine zb (fun h2=> ?_) (fun h2=>⟨n,rfl,stop ?_,E4⟩)
   ·have h2:n<32:=by have:=of_decide_eq_true h2;omega
    have hg:∀{b:Bool},zz s (k+n)=b->qR s k n=(!b&&qg (sg s k) (sg s (k+n - 1)) (sg s (k+n)) n):=fun hb=>by
      unfold qR;rw[decide_eq_true h1,decide_eq_true h2,hb];simp
    refine⟨n,rfl,by omega,rd E3 (j:=2) h1 (by decide) rfl fun b o hb=>⟨_,hb,?_⟩⟩
    refine zb (fun h3=> ?_) (fun h3=>⟨n,rfl,stop ?_,E4⟩)
    ·have h3:zz s (k+n)=false:=by simpa using h3
     refine⟨0,rfl,by omega,rd E3 (i:=0) (j:=0) hk (by decide) rfl fun b o hb=>⟨_,hb,zd (by omega) (by omega),n - 1,by omega,by omega,rd E3 (i:=n - 1) (j:=0) (by omega) (by decide) rfl fun b o hb=>⟨_,hb,n,rfl,by omega,rd E3 (i:=n) (j:=0) h1 (by decide) rfl fun b o hb=>⟨_,hb,?_⟩⟩⟩⟩
     refine⟨⟨sg s k,sg s (k+(n - 1)),sg s (k+n),n⟩,rfl,trivial,?_⟩
     rintro _ w5 ⟨rfl,e5⟩
     dsimp only
     rw[show k+(n - 1)=k+n - 1 from by omega]
     have hg:=hg h3
     refine zb (fun h4=> ?_) (fun h4=>⟨n,rfl,stop (by rw[hg,h4];rfl),E4.trans e5⟩)
     have hG:qR s k n=true:=by rw[hg,h4];rfl
     refine⟨zd (by omega) (by omega),n+1,by simp,⟨by omega,by omega,by omega,?_,(e3.trans hd.ext).trans e5⟩,by omega⟩
     rw[<-(zlv hG).2,n4]
    ·have h3:zz s (k+n)=true:=by simpa using h3
     rw[hg h3];rfl
   ·have h2:¬n<32:=by have:=of_decide_eq_false h2;omega
    unfold qR;rw[decide_eq_false h2];simp
  ·have h1:¬k+n<cnt s:=by have:=of_decide_eq_false h1;omega
   unfold qR;rw[decide_eq_false h1];rfl
set_option maxRecDepth 10000 in
theorem zsa:zju.Ok Tryz.prog 73:=by
  refine zr9 ⟨zgD,zlz,trivial⟩ ?_
  rintro(s:ByteArray) w ⟨hU,hsm⟩
  have hcs:=Z3 s
  have hncl:=zsD s
  refine⟨s,rfl,⟨hU,hsm⟩,?_⟩
  rintro⟨a,n,c⟩ w1 ⟨hn,hm0⟩
  dsimp only at hn hm0⊢
  subst hn
  have hle:=hm0.row.le
  have hb0:bk s 0=0:=rfl
  refine⟨⟨⟨0,a,c,none,0⟩,by rw[hb0,Nat.sub_zero],rfl,Nat.zero_le _,by dsimp only;rw[hb0];omega,by dsimp only;rw[hb0,List.drop_zero];exact hm0.row.cells,Made.nil _ _ _⟩,?_⟩
  rintro _ ⟨i,la,lc,oa,oc⟩ w2 ⟨hi,hlc,hcl,hm⟩
  dsimp only at hi hlc hcl hm⊢
  refine zb (fun h=> ?_) (fun h=> ?_)
  ·have hbk:bk s i<cnt s:=by have:=of_decide_eq_true h;omega
   have hlt:=zda.2 hbk
   have hsu:=zfV hlt
   have hle1:=ziK s (i+1)
   have hc2:=hcl.ext hm.ext
   have hfit:=qX s _ hbk
   refine⟨⟨s,bk s i,la,lc⟩,rfl,⟨hbk,hsm,hc2⟩,?_⟩
   rintro _ w3 ⟨rfl,e3⟩
   dsimp only
   have hc3:=hc2.ext e3
   have rd:∀{j:Nat} {K:Nat->Nat->Prop},bk s i+j<cnt s->(∀b o,w3.cell? ⟨b,o+j*3+1,none⟩=some (.int .i64 (pos s (bk s i+j)))->K b o)->zr la K:=fun hj hK=>
     hc3.fld (s:=3) (j:=1) (by rw[zrE hj (by decide)];rfl) hK
   have e01:∀{w4:World},Ext w3 w4->Ext w1 w4:=fun e=>(hm.ext.trans e3).trans e
   have fin:∀{w4 w5:World} {b q:Nat},Drew w3 w4->q=bp s (i+1)->New w4 (.cells #[.int .i64 (pos s (bk s i):Int), .string (s.extract (pos s (bk s i)) q)] 142) b w5->Below w4.heap.size w4 w5/\∃a' c' w6,zA Tryz.prog #[104,104] 104 (.slice oa i oc) (.slice (some ⟨b,0,none⟩) 1 1) w5 a' (i+1) c' w6/\KO w5 w6/\
    ∃ln:Nat,((zy s (bk s i):Nat):Int)=(ln:Int)/\ln<=cnt s - bk s i/\∀ad':Option Addr,SlAt la ad' lc ln 3->∃y:GAl,Value.slice ad' (cnt s - bk s i - ln) (lc - ln)= .slice y.la (cnt s - bk s y.i) y.lc/\Value.slice a' (i+1) c'= .slice y.oa y.i y.oc/\
     (y.i<=Zc s/\cnt s - bk s y.i<=y.lc/\CellsAt w1 y.la (((List.range (cnt s)).drop (bk s y.i)).flatMap (ZV s))/\Made w1 w6 142 2 y.oa y.i ((List.range y.i).flatMap (pcV s)) y.oc)/\Zc s - y.i<Zc s - i:=by
     rintro w4 w5 b q hd rfl hnw
     obtain⟨a',c',w6,hrun,hko,hm6,_⟩:=(hm.later (e3.trans hd.ext)).pushN (P:=Tryz.prog) (ty:=104) zqn (by decide) (m:=1) (news:=pcV s i) hnw rfl (zve s i) (by unfold maxLen;omega) (.inr (by omega))
     refine⟨hnw.ext,a',c',w6,hrun,hko,zy s (bk s i),rfl,by omega,fun ad' hsl=> ?_⟩
     refine⟨⟨i+1,ad',lc - zy s (bk s i),a',c'⟩,?_,rfl,⟨hlt,by dsimp only;omega,?_,?_⟩,by dsimp only;omega⟩
     ·dsimp only;rw[hsu];congr 1;omega
     ·dsimp only
      have:=hcl.drop hsl (by omega) (by rw[ziw (s:=3) (fun _=>rfl),List.length_drop,List.length_range];exact Nat.mul_le_mul_right _ hlc)
      rw[zix (f:=ZV s) (s:=3) (fun _=>rfl),List.drop_drop,<-hsu]at this
      exact this
     ·dsimp only;rw[List.range_succ,List.flatMap_append];simpa using hm6
   refine zb (fun h1=> ?_) (fun h1=> ?_)
   ·have h1:bk s i+zy s (bk s i)<cnt s:=by have:=of_decide_eq_true h1;omega
    refine⟨_,rfl,by omega,rd h1 fun b o hb=>⟨_,hb,fun w4 hd=>⟨0,rfl,by omega,rd (j:=0) (by omega) fun b1 o1 hb1=>⟨_,hb1,0,rfl,by omega,rd (j:=0) (by omega) fun b2 o2 hb2=>⟨_,hb2,pos s (bk s i),rfl,pos s (bk s i+zy s (bk s i)),rfl,?_,Zs s _,fun b3 w5 hnw=> ?_⟩⟩⟩⟩⟩
    ·exact zcf s (by omega)
    ·exact fin hd (by unfold bp;rw[hsu]) hnw
   ·have h1:bk s i+zy s (bk s i)=cnt s:=by have:=of_decide_eq_false h1;omega
    intro w4 hd
    refine⟨0,rfl,by omega,rd (j:=0) (by omega) fun b1 o1 hb1=>⟨_,hb1,0,rfl,by omega,rd (j:=0) (by omega) fun b2 o2 hb2=>⟨_,hb2,pos s (bk s i),rfl,s.size,rfl,Zs s _,Nat.le_refl _,fun b3 w5 hnw=> ?_⟩⟩⟩
    exact fin hd (by unfold bp;rw[hsu,h1,ZJ]) hnw
  ·have hbk:¬bk s i<cnt s:=by have:=of_decide_eq_false h;omega
   have hie:i=Zc s:=by
     by_cases hc:i<Zc s
     ·exact absurd (zda.1 hc) hbk
     ·omega
   subst hie
   exact⟨(oa,Zc s,oc),rfl,rfl,hm.earlier hm0.ext⟩
set_option maxRecDepth 10000 in
theorem zpB:(sSN zD).Ok Tryz.prog 69:=by
  refine zpA ⟨zgD,zlz,trivial⟩ ?_
  rintro(s:ByteArray) w ⟨hU,hsm⟩
  refine⟨s,rfl,⟨hU,hsm⟩,?_⟩
  rintro⟨a,n,c⟩ w1 ⟨hn,hm⟩
  dsimp only at hn hm⊢
  subst hn
  refine zb (fun h=>⟨0,rfl,?_,hm.ext⟩) (fun h=> ?_)
  ·have h:cnt s=0:=by simp only[beq_iff_eq]at h;omega
   rw[zij (zd6.1 h)]
  have h0:0<cnt s:=by simp only[beq_eq_false_iff_ne,ne_eq]at h;omega
  have hz:0<s.size:=Nat.pos_of_ne_zero (fun e=>by have:=zd6.2 e;omega)
  refine⟨⟨s,0,a,c⟩,by dsimp only;rw[Nat.sub_zero],⟨h0,hsm,by dsimp only;rw[List.drop_zero];exact hm.row.cells⟩,?_⟩
  rintro _ w2 ⟨rfl,e2⟩
  dsimp only
  have hfit:=qX s 0 h0
  refine zb (fun h1=>⟨s.size,rfl,?_,hm.ext.trans e2⟩) (fun h1=> ?_)
  ·have h1:zy s 0=cnt s:=by simp only[beq_iff_eq]at h1;omega
   rw[zaN hz,h1,ZJ]
  ·have h1:zy s 0<cnt s:=by simp only[beq_eq_false_iff_ne,ne_eq]at h1;omega
   refine⟨zy s 0,rfl,h1,(hm.row.cells.ext e2).fld (s:=3) (j:=1) (v:= .int .i64 (pos s (zy s 0))) ?_ fun b o hb=>⟨_,hb,_,rfl,(zaN hz).symm,hm.ext.trans e2⟩⟩
   rw[zcL (f:=ZV s) (s:=3) (fun _=>rfl) (List.getElem?_range h1) (by decide)];rfl
theorem zyi{s:ByteArray}{a b:Nat}(h:b<=s.size)(h2:a<=b):((s.extract a b).size:Int)=(b:Int) - a:=by rw[zS h];omega
end

section
open Go Go.RowKit Vc Ut Tb Cl
theorem znM{w w1:World}{b x y:Nat}{t:TypeId}(hx:x<16)(hy:y<16)
    (hn:New w (.cells #[.int .u8 ↑([(48:UInt8),49,50,51,52,53,54,55,56,57,97,98,99,100,101,102].getD x 0).toNat, .int .u8 ↑([(48:UInt8),49,50,51,52,53,54,55,56,57,97,98,99,100,101,102].getD y 0).toNat] t) b w1):
    Zz w1 (some ⟨b,0,none⟩) 2 (qA [zdZ x,zdZ y]):=by
  rw[znr x hx,znr y hy]at hn
  refine Qn rfl (.inr ⟨b,0,rfl,fun j v hv=> ?_⟩)
  rw[za hn.heap,Nat.zero_add]
  rw[show(#[.int .u8 ((zdZ x).toNat:Int), .int .u8 ((zdZ y).toNat:Int)]:Array Value)=[Value.int .u8 ((zdZ x).toNat:Int), .int .u8 ((zdZ y).toNat:Int)].toArray from rfl,List.getElem?_toArray]
  exact hv
theorem ztZ(b:Nat):(ByteArray.mk #[60]++qA [zdZ (b / 16),zdZ (b%16)])++ByteArray.mk #[62]=zqE b:=by
  show(qA [60]++qA _)++qA [62]=_
  rw[zgf,zgf];rfl
theorem zj0(x y:UInt8):(ByteArray.mk #[60]).size+(qA [x,y]).size<=9223372036854775807/\(ByteArray.mk #[60]++qA [x,y]).size+(ByteArray.mk #[62]).size<=9223372036854775807:=by
  refine⟨by rw[Zo];show(1+2:Nat)<=_;decide,?_⟩
  rw[ByteArray.size_append,Zo];show(1+2+1:Nat)<=_;decide
theorem zor:runesBytes [9676]=⟨#[226,151,140]⟩:=by decide+kernel
set_option maxRecDepth 100000 in
theorem zvj:znZ.Ok Tryz.prog 70:=by
  refine zvn ⟨zxC,zqx,zce,zdl,zvz,zrO,zdL,zkH,trivial⟩ ?_
  rintro⟨k,col,l,a,c⟩ w ⟨hsz,h1,hcap,hcells⟩ b w1 hn
  dsimp only at hsz h1 hcap hcells⊢
  obtain⟨h0,hf,_⟩:=qN h1
  obtain⟨c0,c1,c2,c3,c4⟩:=zbQ (l:=l) hn.heap
  have hE:Ext w w1:=hn.ext
  have hsg0:0<=sg k 0:=zbU k _
  have hsg1:sg k 0<=1114111:=znt k _
  have hs0:=zjI h1
  have rd:∀{w':World} {i j:Nat} {v:Value} {K:Nat->Nat->Prop},Ext w w'->i<cnt k->j<3->(ZV k i)[j]? =some v->(∀b o,w'.cell? ⟨b,o+i*3+j,none⟩=some v->K b o)->zr a K:=fun e hi hj hv hK=>
    (hcells.ext e).fld (s:=3) (by rw[zcL (f:=ZV k) (s:=3) (fun _=>rfl) (List.getElem?_range hi) hj];exact hv) hK
  refine⟨0,rfl,h0,rd (j:=0) hE h0 (by decide) rfl fun b1 o1 hc1=>⟨sg k 0,hc1,0,rfl,h0,rd (j:=2) hE h0 (by decide) rfl fun b2 o2 hc2=>⟨zz k 0,hc2,?_⟩⟩⟩
  refine zb (fun hb=> ?_) (fun hb=> ?_)
  ·intro w2 hd2
   have hbl:=QO k 0
   have hq:bt k 0 / 16<16:=by omega
   have hm:bt k 0%16<16:=by omega
   refine⟨0,rfl,hs0,Int.natCast_nonneg _,by decide,?_,bt k 0 / 16,rfl,hq,0,rfl,hs0,Int.natCast_nonneg _,by decide,bt k 0%16,rfl,hm,?_⟩
   ·show InR .u8 ((bt k 0:Int) / 16)
    exact Q0 (by omega) (by omega)
   intro b4 w3 hn3
   exact⟨_,znM hq hm hn3,(zj0 _ _).1,(zj0 _ _).2,(zqE (bt k 0),4),by rw[ztZ];rfl,(zk7 hb).symm,Ext.trans hE (Ext.trans hd2.ext hn3.ext)⟩
  refine zb (fun h9=> ?_) (fun h9=> ?_)
  ·have h9:sg k 0=9:=by simpa using h9
   refine⟨l.tab,c0,l.wide,c1,l.want,c2,l.join,c3,l.raw,c4,(col,l),rfl,trivial,?_⟩
   rintro x w3 ⟨hx,e3⟩
   dsimp only at hx
   have hst:=zdD col l.tab
   have htb:=zgc l.tab
   refine⟨qw col l.tab,by rw[hx],by omega,?_⟩
   rintro y w4 ⟨hy,e4⟩
   exact⟨(Qf (qw col l.tab),qw col l.tab),by rw[hy,hx],(zdS hb h9).symm,Ext.trans hE (Ext.trans e3 e4)⟩
  have h9:¬sg k 0=9:=by simpa using h9
  rw[zaD,zaD]
  refine zb (fun hnl=> ?_) (fun hnl=> ?_)
  ·have hnl:k=⟨#[10]⟩\/k=⟨#[13,10]⟩:=by
     rw[Bool.or_eq_true]at hnl
     exact hnl.imp of_decide_eq_true of_decide_eq_true
   exact⟨(⟨#[]⟩,0),rfl,(zfK hb h9 ((zsn h1).2 hnl)).symm,hE⟩
  have hnl:¬(sg k 0=10\/qf k=10):=fun h=>by
    rw[Bool.or_eq_false_iff]at hnl
    exact((zsn h1).1 h).elim (of_decide_eq_false hnl.1) (of_decide_eq_false hnl.2)
  refine zb (fun hct=> ?_) (fun hct=> ?_)
  ·have hct:sg k 0<32:=by simpa using hct
   have hx:=zqq ⟨(sg k 0).toNat,by omega⟩
   dsimp only at hx
   rw[Int.toNat_of_nonneg hsg0]at hx
   refine⟨Q0 (by omega) (by omega),Q0 (by omega) (by omega),fun b4 w3 hn3=>⟨qA [UInt8.ofNat ((sg k 0).toNat+64)],Qn rfl (.inr ⟨b4,0,rfl,fun j v hv=> ?_⟩),?_,(zeP (sg k 0),2),by rw[hx];rfl,(zch hb h9 hnl (.inl hct)).symm,Ext.trans hE hn3.ext⟩⟩
   ·rw[za hn3.heap,Nat.zero_add,show(#[Value.int .u8 (sg k 0+64)]:Array Value)=[Value.int .u8 (sg k 0+64)].toArray from rfl,List.getElem?_toArray]
    have e:(UInt8.ofNat ((sg k 0).toNat+64)).toNat=(sg k 0).toNat+64:=by rw[UInt8.toNat_ofNat'];exact Nat.mod_eq_of_lt (by omega)
    have hv:([Value.int .u8 ((UInt8.ofNat ((sg k 0).toNat+64)).toNat:Int)])[j]? =some v:=hv
    rw[e,show(((sg k 0).toNat+64:Nat):Int)=sg k 0+64 from by omega]at hv
    exact hv
   ·rw[Zo];show(1+1:Nat)<=_;decide
  have hct:¬sg k 0<32:=by simpa using hct
  refine zb (fun h7=> ?_) (fun h7=> ?_)
  ·have h7:sg k 0=127:=by simpa using h7
   refine⟨(zeP (sg k 0),2),by rw[h7];rfl,(zch hb h9 hnl (.inr h7)).symm,hE⟩
  have h7:¬sg k 0=127:=by simpa using h7
  have hct:¬(sg k 0<32\/sg k 0=127):=by omega
  refine⟨sg k 0,rfl,trivial,?_⟩
  rintro x w2 ⟨hx,hw2⟩
  replace hw2:=hw2.symm
  subst hw2
  have hfd:Z2 (sg k 0)=(decide (128<=sg k 0/\sg k 0<=159)||(sg k 0==8232||sg k 0==8233)||(x==1&& !qj (sg k 0))):=by rw[hx];rfl
  refine⟨?_,?_⟩
  ·have tail:¬(128<=sg k 0/\sg k 0<=159)->zc (sg k 0==8232) (∃c:Unit,Value.bool true=Value.bool (Z2 (sg k 0))/\Ext w1 w1) (zc (sg k 0==8233) (∃c:Unit,Value.bool true=Value.bool (Z2 (sg k 0))/\Ext w1 w1)
    (zc (x==1) (∃g2:Int,(#[Value.int .i32 (sg k 0)]:Array Value)= #[.int .i32 g2]/\True/\∀(x1:Bool) (w3:World),x1=qj g2/\Ext w1 w3->∃c:Unit,(Value.bool !x1)=Value.bool (Z2 (sg k 0))/\Ext w1 w3) (∃c:Unit,Value.bool false=Value.bool (Z2 (sg k 0))/\Ext w1 w1))):=by
     intro hno
     rw[hfd,decide_eq_false hno]
     refine zb (fun h=>⟨(),by rw[h];rfl,Ext.refl _⟩) (fun h=>zb (fun h'=>⟨(),by rw[h'];cases (sg k 0==8232)<;>rfl,Ext.refl _⟩) (fun h'=>zb (fun h2=>⟨sg k 0,rfl,trivial,?_⟩) (fun h2=>⟨(),by rw[h,h',h2];rfl,Ext.refl _⟩)))
     rintro y w3 ⟨hy,e3⟩
     exact⟨(),by rw[h,h',h2,hy];rfl,e3⟩
   refine zb (fun ha=>zb (fun hb2=>⟨(),?_,Ext.refl _⟩) (fun hb2=>tail ?_)) (fun ha=>tail ?_)
   ·have ha:=of_decide_eq_true ha
    have hb2:=of_decide_eq_true hb2
    rw[hfd,decide_eq_true (show 128<=sg k 0/\sg k 0<=159 from⟨ha,hb2⟩)];rfl
   ·have hb2:=of_decide_eq_false hb2;omega
   ·have ha:=of_decide_eq_false ha;omega
  rintro _ _ w3 e3
  have hnat:((sg k 0).toNat:Int)=sg k 0:=Int.toNat_of_nonneg hsg0
  refine zb (fun hfm=>⟨l.raw,e3.cell c4,zb (fun hr=> ?_) (fun hr=> ?_)⟩) (fun hfm=> ?_)
  ·exact⟨(⟨#[]⟩,0),rfl,(zdT hb h9 hnl hct hfm (by simpa using hr)).symm,Ext.trans hE e3⟩
  ·have hbig:128<=sg k 0:=by
     rcases Int.lt_or_le (sg k 0) 128 with h|h
     ·exfalso
      have hlow:∀n:Fin 128,¬(n.val<32\/n.val=127)->Z2 (n.val:Int)=false:=by decide+kernel
      have:=hlow ⟨(sg k 0).toNat,by omega⟩ (by dsimp only;omega)
      dsimp only at this
      rw[hnat,hfm]at this;cases this
     ·exact h
   refine⟨(sg k 0).toNat,by rw[hnat],⟨by omega,by omega⟩,?_⟩
   rintro y w4 ⟨hy,e4⟩
   have hj:QJ (sg k 0).toNat<=6:=by unfold QJ Qx;split<;>(try split)<;>(try split)<;>(try split)<;>(try split)<;>omega
   have hys:y.size=QJ (sg k 0).toNat:=by rw[hy,Zo,zbL]
   have hns:(ZM (sg k 0).toNat).size=y.size+2:=by
     unfold ZM
     rw[ByteArray.size_append,ByteArray.size_append,<-hy,Zo,Zo]
     show 1+y.size+1=_;omega
   have hone:(ByteArray.mk #[60]++y)++ByteArray.mk #[62]=ZM (sg k 0).toNat:=by rw[hy];rfl
   refine⟨?_,?_,zd (by omega) (by omega),(ZM (sg k 0).toNat,(ZM (sg k 0).toNat).size),?_,(zg3 hb h9 hnl hct hfm (by simpa using hr)).symm,Ext.trans hE (Ext.trans e3 e4)⟩
   ·show 1+y.size<=_;omega
   ·rw[ByteArray.size_append];show 1+y.size+1<=_;omega
   ·rw[hone,hns];rfl
  refine⟨?_,?_⟩
  ·rw[<-hx]
   refine zb (fun h=>⟨(),by rw[h];rfl,Ext.refl _⟩) (fun h=>⟨sg k 0,rfl,trivial,?_⟩)
   rintro y w4 ⟨hy,e4⟩
   exact⟨(),by rw[h,hy];rfl,e4⟩
  rintro _ _ w4 e4
  have e14:=Ext.trans e3 e4
  have hk:k.size<=67108864:=hsz
  refine zb (fun hm=> ?_) (fun hm=> ?_)
  ·have hm:zn (sg k 0)=2\/qj (sg k 0)=true:=by simpa using hm
   have ex:(ByteArray.mk #[226,151,140]++zcv k,1)=zU k col l:=(zez hb h9 hnl hct hfm hm).symm
   refine zb (fun h=> ?_) (fun h=> ?_)
   ·have h:cnt k=32:=by have:(cnt k:Int)=32:=by simpa using h
                        omega
    have hcut:zcv k=k.extract 0 (pos k 31):=by unfold zcv;rw[if_pos h]
    have hp:=Zs k 31
    refine⟨zd (by omega) (by omega),31,by omega,by omega,rd (i:=31) (j:=1) (Ext.trans hE e14) (by omega) (by decide) rfl fun b5 o5 hc5=>⟨_,hc5,pos k 31,rfl,Nat.zero_le _,hp,?_⟩⟩
    intro b6 w5 hn5
    refine⟨⟨some ⟨b6,0,none⟩,1,[9676]⟩,rfl,⟨zt4 hn5 rfl (by decide),show(1:Nat)<=_ by decide⟩,?_⟩
    rintro y w6 ⟨hy,e6⟩
    have hy:y=⟨#[226,151,140]⟩:=hy.trans zor
    refine⟨?_,(⟨#[226,151,140]⟩++zcv k,1),by rw[hy,hcut];rfl,ex,Ext.trans hE (Ext.trans e14 (Ext.trans hn5.ext e6))⟩
    rw[hy,zS hp]
    show 3+(pos k 31 - 0)<=_;omega
   ·have h:¬cnt k=32:=by
      intro e
      rw[e]at h;cases h
    have hcut:zcv k=k:=by unfold zcv;rw[if_neg h]
    intro b6 w5 hn5
    refine⟨⟨some ⟨b6,0,none⟩,1,[9676]⟩,rfl,⟨zt4 hn5 rfl (by decide),show(1:Nat)<=_ by decide⟩,?_⟩
    rintro y w6 ⟨hy,e6⟩
    have hy:y=⟨#[226,151,140]⟩:=hy.trans zor
    refine⟨?_,(⟨#[226,151,140]⟩++zcv k,1),by rw[hy,hcut];rfl,ex,Ext.trans hE (Ext.trans e14 (Ext.trans hn5.ext e6))⟩
    rw[hy]
    show 3+k.size<=_;omega
  have hm:¬(zn (sg k 0)=2\/qj (sg k 0)=true):=by simpa using hm
  have sec0:¬1<cnt k->qf k=0:=fun h=>by unfold qf;rw[if_neg h]
  have sec1:1<cnt k->qf k=sg k 1:=fun h=>by unfold qf;rw[if_pos h]
  refine⟨zb (fun h=> ?_) (fun h=> ?_),?_⟩
  ·have h:1<cnt k:=by have:=of_decide_eq_true h;omega
   refine⟨sg k 0,rfl,trivial,?_⟩
   rintro y w5 ⟨hy,e5⟩
   rw[<-hy]
   refine zb (fun h2=> ?_) (fun h2=>⟨(),by rw[h2];rfl,e5⟩)
   refine⟨1,rfl,h,rd (i:=1) (j:=0) (Ext.trans hE (Ext.trans e14 e5)) h (by decide) rfl fun b5 o5 hc5=>⟨_,hc5,sg k 1,rfl,trivial,?_⟩⟩
   rintro z w6 ⟨hz,e6⟩
   exact⟨(),by rw[h2,hz,sec1 h];rfl,Ext.trans e5 e6⟩
  ·have h:¬1<cnt k:=by have:=of_decide_eq_false h;omega
   refine⟨(),?_,Ext.refl _⟩
   rw[sec0 h,show qh 0=false from rfl,Bool.and_false]
  rintro _ _ w5 e5
  have e15:=Ext.trans e14 e5
  refine zb (fun h2=> ?_) (fun h2=> ?_)
  ·rw[Bool.and_eq_true]at h2
   exact⟨(k,2),rfl,(zdR hb h9 hnl hct hfm hm (.inl h2)).symm,Ext.trans hE e15⟩
  refine⟨l.wide,e15.cell c1,(sg k 0,l.wide),rfl,trivial,?_⟩
  rintro x1 w6 ⟨hx1,hw6⟩
  replace hw6:=hw6.symm
  subst hw6
  dsimp only at hx1
  refine⟨?_,?_⟩
  ·rw[<-hx,<-hx1]
   refine zb (fun h3=>zb (fun h4=>zb (fun h=> ?_) (fun h=> ?_)) (fun h4=>⟨(),by rw[h3,h4];rfl,Ext.refl _⟩)) (fun h3=>⟨(),by rw[h3];rfl,Ext.refl _⟩)
   ·have h:1<cnt k:=by have:=of_decide_eq_true h;omega
    refine⟨1,rfl,h,rd (i:=1) (j:=0) (Ext.trans hE e15) h (by decide) rfl fun b5 o5 hc5=>⟨_,hc5,(),?_,Ext.refl _⟩⟩
    rw[h3,h4,sec1 h];rfl
   ·have h:¬1<cnt k:=by have:=of_decide_eq_false h;omega
    refine⟨(),?_,Ext.refl _⟩
    rw[sec0 h,h3,h4];rfl
  rintro _ _ w7 e7
  have e17:=Ext.trans hE (Ext.trans e15 e7)
  refine zb (fun h3=> ?_) (fun h3=> ?_)
  ·rw[Bool.and_eq_true,Bool.and_eq_true,beq_iff_eq,beq_iff_eq,beq_iff_eq,and_assoc]at h3
   exact⟨(k,2),rfl,(zdR hb h9 hnl hct hfm hm (.inr h3)).symm,e17⟩
  have hone:=zdQ (col:=col) (l:=l) hb h9 hnl hct hfm hm (fun h=>by
    rcases h with⟨ha,hb'⟩|⟨ha,hb',hc'⟩
    ·rw[ha,hb']at h2;cases h2
    ·rw[ha,hb',hc']at h3;cases h3)
  refine zb (fun h4=>⟨(⟨#[]⟩,0),rfl,?_,e17⟩) (fun h4=>⟨(k,(zY (sg k 0) l.wide).toNat),?_,?_,e17⟩)
  ·rw[hone,if_pos (by rw[<-hx1];simpa using h4)]
  ·rw[Int.toNat_of_nonneg (zf1 _ _),hx1]
  ·rw[hone,if_neg (by rw[<-hx1];simpa using h4)]
end

section
open Go Go.RowKit Vc Ut Tb Cl
theorem zyx:∀x:Fin 256,IntKind.u8.wrap (↑(BitVec.ofInt IntKind.u8.bits (x.val:Int)&&&BitVec.ofInt IntKind.u8.bits (15:Int)).toNat:Int)=((x.val%16:Nat):Int):=by decide+kernel
theorem zyT(m:Nat):((m:Nat):Int).fdiv ((2:Int)^min (Int.toNat (4:Int)) IntKind.u8.bits)=((m / 16:Nat):Int):=by
  show(m:Int).fdiv 16=_
  rw[Int.fdiv_eq_ediv_of_nonneg _ (by decide)]
  rfl
theorem zcM{s:ByteArray}(h:0<s.size):Zc (s.extract 0 (bp s 1))=1/\(s.extract 0 (bp s 1)).size=bp s 1/\0<bp s 1/\∀col l,Zi s col l=zU (s.extract 0 (bp s 1)) col l:=by
  have h0:0<Zc s:=Nat.pos_of_ne_zero fun e=>by rw[zld]at e;omega
  refine⟨zsC h0,by rw[zS (zhJ s 1)];omega,Nat.lt_of_le_of_lt (Nat.zero_le _) (zqu (s:=s) (i:=0) (j:=1) (by decide) h0),fun col l=> ?_⟩
  unfold Zi
  rw[if_neg (by omega)];rfl
theorem ztY{k:ByteArray}(h:0<k.size):(nxR k==65533&&((QM k:Nat):Int)==1)=zz k 0:=by
  unfold nxR QM zz
  rw[if_neg (by omega),if_neg (by omega),show pos k 0=0 from rfl]
  rw[Bool.eq_iff_iff,Bool.and_eq_true,beq_iff_eq,beq_iff_eq,decide_eq_true_eq]
  omega
theorem zkj:za3.Ok Tryz.prog 45:=by
  refine zre ⟨zlN,zjM,zvk,trivial⟩ ?_
  rintro⟨s,col,l⟩ w ⟨hU,hD,hsz⟩ b w1 hn
  dsimp only at hU hD hsz⊢
  obtain⟨c0,c1,c2,c3,c4⟩:=zbQ (l:=l) hn.heap
  have hE:Ext w w1:=hn.ext
  refine⟨s,rfl,⟨hU.ext hE,hsz⟩,?_⟩
  rintro x w2 ⟨hx,e2⟩
  have hx:x=bp s 1:=hx
  subst hx
  have hle:=zhJ s 1
  refine⟨bp s 1,rfl,Nat.zero_le _,hle,?_⟩
  rw[zbA]
  refine zb (fun h=> ?_) (fun h=> ?_)
  ·have h:s.size=0:=by
     have h:=of_decide_eq_true h
     rw[zS hle]at h
     rcases Nat.eq_zero_or_pos s.size with h'|h'
     ·exact h'
     ·obtain⟨_,_,h3,_⟩:=zcM h';omega
   exact⟨(⟨#[]⟩,0),rfl,by unfold Zi;rw[if_pos h],Ext.trans hE e2⟩
  have hs:0<s.size:=by
    have h:=of_decide_eq_false h
    rw[zS hle]at h
    omega
  obtain⟨g1,g2,g3,g4⟩:=zcM hs
  rw[g4]
  have e12:=Ext.trans hE e2
  refine⟨s.extract 0 (bp s 1),rfl,⟨hU.ext e12,by omega⟩,?_⟩
  rintro⟨xr,xn⟩ w3 ⟨hr,hnn,e3⟩
  dsimp only at hr hnn⊢
  rw[hr,hnn,ztY (by omega)]
  generalize hbb:zz (s.extract 0 (bp s 1)) 0=bb
  have e13:=Ext.trans e12 e3
  refine zb (fun hb=> ?_) (fun hb=> ?_)
  ·rw[hb]at hbb
   intro w4 hd4
   have hbl:=QO (s.extract 0 (bp s 1)) 0
   have hq:bt (s.extract 0 (bp s 1)) 0 / 16<16:=by omega
   have hm:bt (s.extract 0 (bp s 1)) 0%16<16:=by omega
   refine⟨0,rfl,by omega,bt (s.extract 0 (bp s 1)) 0 / 16,?_,hq,0,rfl,by omega,bt (s.extract 0 (bp s 1)) 0%16,?_,hm,?_⟩
   ·show((bt (s.extract 0 (bp s 1)) 0:Nat):Int).fdiv _=_
    exact zyT _
   ·have e:=zyx ⟨bt (s.extract 0 (bp s 1)) 0,hbl⟩
    dsimp only at e
    rw[<-e];rfl
   intro b4 w5 hn5
   exact⟨_,znM hq hm hn5,(zj0 _ _).1,(zj0 _ _).2,(zqE (bt (s.extract 0 (bp s 1)) 0),4),by rw[ztZ];rfl,(zk7 hbb).symm,Ext.trans e13 (Ext.trans hd4.ext hn5.ext)⟩
  ·rw[hb]at hbb
   have hcl:=Z3 (s.extract 0 (bp s 1))
   refine⟨by rw[zdh];omega,fun c b4 w4 hn4=> ?_⟩
   have hm:=zhT hn4
   have e4:Ext w3 w4:=hm.ext
   have e24:=Ext.trans e2 (Ext.trans e3 e4)
   refine⟨l.tab,e24.cell c0,l.wide,e24.cell c1,l.want,e24.cell c2,l.join,e24.cell c3,l.raw,e24.cell c4,⟨s.extract 0 (bp s 1),col,l,some ⟨b4,0,none⟩,c⟩,by rw[zdh],⟨hD.ext (Ext.trans hE e24),by dsimp only;omega,g1,hbb,?_,hm.row.cells⟩,?_⟩
   ·have:=hn4.1
    rw[zdh]at this
    exact this
   ·rintro y w5 ⟨hy,e5⟩
    exact⟨y,rfl,hy,Ext.trans hE (Ext.trans e24 e5)⟩
theorem zki:za3.Ok Tryz.prog 46:=by
  refine zrd ⟨zpB,zgD,zvj,trivial⟩ ?_
  rintro⟨s,col,l⟩ w ⟨hU,hD,hsz⟩ b w1 hn
  dsimp only at hU hD hsz⊢
  obtain⟨c0,c1,c2,c3,c4⟩:=zbQ (l:=l) hn.heap
  have hE:Ext w w1:=hn.ext
  refine⟨s,rfl,⟨hU.ext hE,hsz⟩,?_⟩
  rintro x w2 ⟨hx,e2⟩
  have hx:x=bp s 1:=hx
  subst hx
  have hle:=zhJ s 1
  refine⟨bp s 1,rfl,Nat.zero_le _,hle,?_⟩
  rw[zbA]
  refine zb (fun h=> ?_) (fun h=> ?_)
  ·have h:s.size=0:=by
     have h:=of_decide_eq_true h
     rw[zS hle]at h
     rcases Nat.eq_zero_or_pos s.size with h'|h'
     ·exact h'
     ·obtain⟨_,_,h3,_⟩:=zcM h';omega
   exact⟨(⟨#[]⟩,0),rfl,by unfold Zi;rw[if_pos h],Ext.trans hE e2⟩
  have hs:0<s.size:=by
    have h:=of_decide_eq_false h
    rw[zS hle]at h
    omega
  obtain⟨g1,g2,g3,g4⟩:=zcM hs
  rw[g4]
  intro w3 hd3
  have e3:=hd3.ext
  have e13:=Ext.trans hE (Ext.trans e2 e3)
  refine⟨l.tab,e2.cell c0,l.wide,e2.cell c1,l.want,e2.cell c2,l.join,e2.cell c3,l.raw,e2.cell c4,s.extract 0 (bp s 1),rfl,⟨hU.ext e13,by omega⟩,?_⟩
  rintro⟨a,n,c⟩ w4 ⟨hnn,hm⟩
  dsimp only at hnn hm⊢
  subst hnn
  refine⟨hm.ext,⟨s.extract 0 (bp s 1),col,l,a,c⟩,rfl,⟨by dsimp only;omega,g1,hm.row.le.1,hm.row.cells⟩,?_⟩
  rintro y w5 ⟨hy,e5⟩
  exact⟨y,rfl,hy,Ext.trans e13 (Ext.trans hm.ext e5)⟩
end

section
set_option linter.unusedVariables false
open Go Go.RowKit Vc Ut Tb Cl
open Value
set_option maxRecDepth 1000000
theorem zq7(hsp:zf Tryz.prog ziX)(h:∀(g:ByteArray) (w:World),U8 w/\g.size<=67108864->∃(g1:ByteArray), #[string g]= #[string g1]/\(U8 w/\g1.size<=67108864)/\∀(x:Bool) w',x=zC g1/\Ext w w'->∃(x1:Bool),bool x=bool x1/\x1=zC g/\Ext w w'):
    ((zaV zC)).Ok Tryz.prog 43:=ze (zaV zC) (zP ziX) ziX (fun _ _=>rfl) (fun _ _=>rfl) hsp Tryz.func43 rfl (n:=1) (fun _=>rfl) (by kernel_rfl) (zl (by kernel_rfl) h)
theorem zte(hsp:zf Tryz.prog [])(h:∀(g:GBy) (w:World),U8 w/\CellsAt w g.ad (zu g.s)->zc ((g.s.size:Int)==0) (∃(x:Bool),bool false=bool x/\x=zW g.s/\Ext w w) (qd (0:Int) g.s.size fun k=>zr g.ad fun(b o:Nat)=>zX w .u8 b (o+k) fun n=>qd n 256 fun k1=>zX w .u8 (0) (0+k1) fun n1=>InR IntKind.i64 (IntKind.u8.wrap (↑(BitVec.ofInt IntKind.u8.bits n1&&&BitVec.ofInt IntKind.u8.bits (7:Int)).toNat:Int))/\zc (decide ((g.s.size:Int)>=IntKind.u8.wrap (↑(BitVec.ofInt IntKind.u8.bits n1&&&BitVec.ofInt IntKind.u8.bits (7:Int)).toNat:Int))) (∃(x:Bool),bool true=bool x/\x=zW g.s/\Ext w w) (qd (n1.fdiv ((2:Int)^min (Int.toNat (4:Int)) IntKind.u8.bits)) 16 fun k2=>zX w .u8 (1) (0+k2*2) fun n2=>zX w .u8 (1) (0+k2*2+1) fun n3=>∀b1 w1,New w (Obj.cells #[int .u8 n2,int .u8 n3] 117) b1 w1->∀w11,Drew w1 w11->zc (decide ((g.s.size:Int)>1)) (qd (1:Int) g.s.size fun k3=>zr g.ad fun(b2 o1:Nat)=>zX w1 .u8 b2 (o1+k3) fun n4=>zX w1 .u8 b1 0 fun n5=>zc (decide (n4<n5)) (∃(x:Bool),bool true=bool x/\x=zW g.s/\Ext w w11) (zX w1 .u8 b1 1 fun n6=>qd (1:Int) g.s.size fun k4=>zr g.ad fun(b3 o2:Nat)=>zX w1 .u8 b3 (o2+k4) fun n7=>zc (decide (n6<n7)) (∃(x:Bool),bool true=bool x/\x=zW g.s/\Ext w w11) (zc (decide ((g.s.size:Int)>2)) (qd (2:Int) g.s.size fun k5=>zr g.ad fun(b4 o3:Nat)=>zX w11 .u8 b4 (o3+k5) fun n8=>zc (decide (n8<128)) (∃(x:Bool),bool true=bool x/\x=zW g.s/\Ext w w11) (qd (2:Int) g.s.size fun k6=>zr g.ad fun(b5 o4:Nat)=>zX w11 .u8 b5 (o4+k6) fun n9=>zc (decide ((191:Int)<n9)) (∃(x:Bool),bool true=bool x/\x=zW g.s/\Ext w w11) (∃(x:Bool),bool false=bool x/\x=zW g.s/\Ext w w11))) (∃(x:Bool),bool false=bool x/\x=zW g.s/\Ext w w11)))) (zc (decide ((g.s.size:Int)>2)) (qd (2:Int) g.s.size fun k3=>zr g.ad fun(b2 o1:Nat)=>zX w11 .u8 b2 (o1+k3) fun n4=>zc (decide (n4<128)) (∃(x:Bool),bool true=bool x/\x=zW g.s/\Ext w w11) (qd (2:Int) g.s.size fun k4=>zr g.ad fun(b3 o2:Nat)=>zX w11 .u8 b3 (o2+k4) fun n5=>zc (decide ((191:Int)<n5)) (∃(x:Bool),bool true=bool x/\x=zW g.s/\Ext w w11) (∃(x:Bool),bool false=bool x/\x=zW g.s/\Ext w w11))) (∃(x:Bool),bool false=bool x/\x=zW g.s/\Ext w w11))))):zjA.Ok Tryz.prog 57:=ze zjA (zP []) [] (fun _ _=>rfl) (fun _ _=>rfl) hsp Tryz.func57 rfl (n:=1) (fun _=>rfl) (by kernel_rfl) (zl (by kernel_rfl) h)
theorem zwc(hsp:zf Tryz.prog zmA)(h:∀(g:GRd) (w:World),U8 w/\RdIn w g.rb g.ha g.hc g.h/\CellsAt w g.ad (zu g.b)/\g.h.size<=67108864/\g.b.size<=67108864->∀w1,Drew w w1->qL w g.rb 0 fun a2 n c=>qL w g.rb 0 fun a3 n1 c1=>qL w g.rb 0 fun a4 n2 c2=>∃(mn:Nat) (hn:Nat),(n2:Int)=(mn:Int)/\(n1:Int)=(hn:Int)/\hn<=mn/\mn<=c/\∃(a':Option Addr) (c':Nat) (w':World),zA Tryz.prog #[40,40] 40 (slice a2 hn mn) (slice g.ad g.b.size g.c) w1 a' (hn+g.b.size) c' w'/\KO w1 w'/\(∃(x:Nat×(Option Addr×Nat)×Option Addr×Nat),slice a' (hn+g.b.size) c'=slice x.snd.fst.fst ((g.h++g.b).size - pos (g.h++g.b) x.fst) x.snd.fst.snd/\slice none 0 0=slice x.snd.snd.fst x.fst x.snd.snd.snd/\x.fst<=cnt (g.h++g.b)/\(∀(j:Nat),j<x.fst->zW ((g.h++g.b).extract (pos (g.h++g.b) j) (g.h++g.b).size)=true)/\CellsAt w' x.snd.fst.fst (zu ((g.h++g.b).extract (pos (g.h++g.b) x.fst) (g.h++g.b).size))/\(g.h++g.b).size - pos (g.h++g.b) x.fst<=x.snd.fst.snd/\Made w' w' (21:TypeId) 1 x.snd.snd.fst x.fst (List.map (int IntKind.i32) (List.take x.fst (zo (g.h++g.b)))) x.snd.snd.snd)/\∀(u:Nat->Value) (x:Nat×(Option Addr×Nat)×Option Addr×Nat) w'1,x.fst<=cnt (g.h++g.b)/\(∀(j:Nat),j<x.fst->zW ((g.h++g.b).extract (pos (g.h++g.b) j) (g.h++g.b).size)=true)/\CellsAt w' x.snd.fst.fst (zu ((g.h++g.b).extract (pos (g.h++g.b) x.fst) (g.h++g.b).size))/\(g.h++g.b).size - pos (g.h++g.b) x.fst<=x.snd.fst.snd/\Made w' w'1 (21:TypeId) 1 x.snd.snd.fst x.fst (List.map (int IntKind.i32) (List.take x.fst (zo (g.h++g.b)))) x.snd.snd.snd->zc (decide ((↑((g.h++g.b).size - pos (g.h++g.b) x.fst):Int)>0)) (∃(g1:GBy), #[slice x.snd.fst.fst ((g.h++g.b).size - pos (g.h++g.b) x.fst) x.snd.fst.snd]= #[slice g1.ad g1.s.size g1.c]/\(U8 w'1/\CellsAt w'1 g1.ad (zu g1.s))/\∀(x1:Bool) w'2,x1=zW g1.s/\Ext w'1 w'2->zc x1 (∃(g2:GBy), #[slice x.snd.fst.fst ((g.h++g.b).size - pos (g.h++g.b) x.fst) x.snd.fst.snd]= #[slice g2.ad g2.s.size g2.c]/\(U8 w'2/\CellsAt w'2 g2.ad (zu g2.s)/\0<g2.s.size)/\∀(x2:Int×Nat) w'3,x2.fst=nxR g2.s/\x2.snd=QM g2.s/\Ext w'2 w'3->∀b w11,New w'3 (Obj.cells #[int .i32 x2.fst] 21) b w11->∃(a'1:Option Addr) (c'1:Nat) (w'4:World),zA Tryz.prog #[69,69] 69 (slice x.snd.snd.fst x.fst x.snd.snd.snd) (slice (some ⟨b,0,none⟩) 1 1) w11 a'1 (x.fst+1) c'1 w'4/\KO w11 w'4/\∃(ln:Nat),(x2.snd:Int)=(ln:Int)/\ln<=(g.h++g.b).size - pos (g.h++g.b) x.fst/\∀(ad':Option Addr),SlAt x.snd.fst.fst ad' x.snd.fst.snd ln 1->∃(y:Nat×(Option Addr×Nat)×Option Addr×Nat),slice ad' ((g.h++g.b).size - pos (g.h++g.b) x.fst - ln) (x.snd.fst.snd - ln)=slice y.snd.fst.fst ((g.h++g.b).size - pos (g.h++g.b) y.fst) y.snd.fst.snd/\slice a'1 (x.fst+1) c'1=slice y.snd.snd.fst y.fst y.snd.snd.snd/\
 (y.fst<=cnt (g.h++g.b)/\(∀(j:Nat),j<y.fst->zW ((g.h++g.b).extract (pos (g.h++g.b) j) (g.h++g.b).size)=true)/\CellsAt w' y.snd.fst.fst (zu ((g.h++g.b).extract (pos (g.h++g.b) y.fst) (g.h++g.b).size))/\(g.h++g.b).size - pos (g.h++g.b) y.fst<=y.snd.fst.snd/\Made w' w'4 (21:TypeId) 1 y.snd.snd.fst y.fst (List.map (int IntKind.i32) (List.take y.fst (zo (g.h++g.b)))) y.snd.snd.snd)/\cnt (g.h++g.b) - y.fst<cnt (g.h++g.b) - x.fst) (∃(a'1:Option Addr) (c'1:Nat) (w'3:World),zA Tryz.prog #[40,40] 40 (slice none 0 0) (slice x.snd.fst.fst ((g.h++g.b).size - pos (g.h++g.b) x.fst) x.snd.fst.snd) w'2 a'1 (0+((g.h++g.b).size - pos (g.h++g.b) x.fst)) c'1 w'3/\KO w'2 w'3/\zh w'3 g.rb 0 (slice a'1 (0+((g.h++g.b).size - pos (g.h++g.b) x.fst)) c'1) fun w11=>∃(x2:(Option Addr×Nat×Nat)×Option Addr×Nat),slice x.snd.snd.fst x.fst x.snd.snd.snd=slice x2.fst.fst x2.fst.snd.fst x2.fst.snd.snd/\x2.fst.snd.fst=(ZF (g.h++g.b)).length/\NewRow w w11 (21:TypeId) x2.fst.fst x2.fst.snd.fst (List.map (int IntKind.i32) (ZF (g.h++g.b))) x2.fst.snd.snd/\RdIn w11 g.rb x2.snd.fst x2.snd.snd (fdH (g.h++g.b))/\(∀(q:Nat),qi x2.snd.fst=some q->w.heap.size<=q)/\(∀(q:Nat),qi x2.fst.fst=some q->qi x2.snd.fst≠some q)/\Fr (fun(q:Nat)=>q=g.rb) w w11)) (∃(a'1:Option Addr) (c'1:Nat) (w'2:World),zA Tryz.prog #[40,40] 40 (slice none 0 0) (slice x.snd.fst.fst ((g.h++g.b).size - pos (g.h++g.b) x.fst) x.snd.fst.snd) w'1 a'1 (0+((g.h++g.b).size - pos (g.h++g.b) x.fst)) c'1 w'2/\KO w'1 w'2/\zh w'2 g.rb 0 (slice a'1 (0+((g.h++g.b).size - pos (g.h++g.b) x.fst)) c'1) fun w11=>∃(x1:(Option Addr×Nat×Nat)×Option Addr×Nat),slice x.snd.snd.fst x.fst x.snd.snd.snd=slice x1.fst.fst x1.fst.snd.fst x1.fst.snd.snd/\x1.fst.snd.fst=(ZF (g.h++g.b)).length/\NewRow w w11 (21:TypeId) x1.fst.fst x1.fst.snd.fst (List.map (int IntKind.i32) (ZF (g.h++g.b))) x1.fst.snd.snd/\RdIn w11 g.rb x1.snd.fst x1.snd.snd (fdH (g.h++g.b))/\(∀(q:Nat),qi x1.snd.fst=some q->w.heap.size<=q)/\(∀(q:Nat),qi x1.fst.fst=some q->qi x1.snd.fst≠some q)/\Fr (fun(q:Nat)=>q=g.rb) w w11)):zn7.Ok Tryz.prog 41:=ze zn7 zw3 zmA (fun _ _=>rfl) (fun _ _=>rfl) hsp Tryz.func41 rfl (n:=2) (fun _=>rfl) (by kernel_rfl) (zl (by kernel_rfl) h)
theorem zxZ(hsp:zf Tryz.prog [])(h:∀(g:Unit) (w:World),True->∀b w1,New w (Obj.cells #[slice none 0 0] 89) b w1->∃(x:Nat),pointer (some ⟨b,0,none⟩)=pointer (some ⟨x,0,none⟩)/\x=w.heap.size/\RdIn w1 x none 0 (ByteArray.mk #[])/\Ext w w1):zuT.Ok Tryz.prog 33:=ze zuT (zP []) [] (fun _ _=>rfl) (fun _ _=>rfl) hsp Tryz.func33 rfl (n:=0) (fun _=>rfl) (by kernel_rfl) (zl (by kernel_rfl) h)
theorem zr2(hsp:zf Tryz.prog zi8)(h:∀(g:GRf) (w:World),U8 w/\zl7 w g.rb g.h/\CellsAt w g.ad (zu g.b)/\(g.h++g.b).size<=67108864->∀w1,Drew w w1->LdT w g.rb 0 fun s=>∃(str:ByteArray),Zz w1 g.ad g.b.size str/\Below w1.heap.size w1 w1/\s.size+str.size<=9223372036854775807/\(∃(x:Nat×Option Addr×Nat),string (s++str)=string ((g.h++g.b).extract (pos (g.h++g.b) x.fst) (g.h++g.b).size)/\slice none 0 0=slice x.snd.fst x.fst x.snd.snd/\x.fst<=cnt (g.h++g.b)/\(∀(j:Nat),j<x.fst->zW ((g.h++g.b).extract (pos (g.h++g.b) j) (g.h++g.b).size)=true)/\Made w1 w1 (21:TypeId) 1 x.snd.fst x.fst (List.map (int IntKind.i32) (List.take x.fst (zo (g.h++g.b)))) x.snd.snd)/\∀(u:Nat->Value) (x:Nat×Option Addr×Nat) w',x.fst<=cnt (g.h++g.b)/\(∀(j:Nat),j<x.fst->zW ((g.h++g.b).extract (pos (g.h++g.b) j) (g.h++g.b).size)=true)/\Made w1 w' (21:TypeId) 1 x.snd.fst x.fst (List.map (int IntKind.i32) (List.take x.fst (zo (g.h++g.b)))) x.snd.snd->∃(g1:ByteArray), #[string ((g.h++g.b).extract (pos (g.h++g.b) x.fst) (g.h++g.b).size)]= #[string g1]/\(U8 w'/\g1.size<=67108864)/\∀(x1:Bool) w'1,x1=zW g1/\Ext w' w'1->zc x1 (∃(g2:ByteArray), #[string ((g.h++g.b).extract (pos (g.h++g.b) x.fst) (g.h++g.b).size)]= #[string g2]/\(U8 w'1/\g2.size<=67108864)/\∀(x2:Int×Nat) w'2,x2.fst=nxR g2/\x2.snd=QM g2/\Ext w'1 w'2->∀b w11,New w'2 (Obj.cells #[int .i32 x2.fst] 21) b w11->∃(a':Option Addr) (c':Nat) (w'3:World),zA Tryz.prog #[69,69] 69 (slice x.snd.fst x.fst x.snd.snd) (slice (some ⟨b,0,none⟩) 1 1) w11 a' (x.fst+1) c' w'3/\KO w11 w'3/\∃(k:Nat),(x2.snd:Int)=(k:Int)/\k<=((g.h++g.b).extract (pos (g.h++g.b) x.fst) (g.h++g.b).size).size/\((g.h++g.b).extract (pos (g.h++g.b) x.fst) (g.h++g.b).size).size<=((g.h++g.b).extract (pos (g.h++g.b) x.fst) (g.h++g.b).size).size/\∃(y:Nat×Option Addr×Nat),string (((g.h++g.b).extract (pos (g.h++g.b) x.fst) (g.h++g.b).size).extract k ((g.h++g.b).extract (pos (g.h++g.b) x.fst) (g.h++g.b).size).size)=string ((g.h++g.b).extract (pos (g.h++g.b) y.fst) (g.h++g.b).size)/\slice a' (x.fst+1) c'=slice y.snd.fst y.fst y.snd.snd/\(y.fst<=cnt (g.h++g.b)/\(∀(j:Nat),j<y.fst->zW ((g.h++g.b).extract (pos (g.h++g.b) j) (g.h++g.b).size)=true)/\Made w1 w'3 (21:TypeId) 1 y.snd.fst y.fst (List.map (int IntKind.i32) (List.take y.fst (zo (g.h++g.b)))) y.snd.snd)/\cnt (g.h++g.b) - y.fst<cnt (g.h++g.b) - x.fst) (zh w'1 g.rb 0 (string ((g.h++g.b).extract (pos (g.h++g.b) x.fst) (g.h++g.b).size)) fun w11=>∃(x2:Option Addr×Nat×Nat),slice x.snd.fst x.fst x.snd.snd=slice x2.fst x2.snd.fst x2.snd.snd/\x2.snd.fst=(ZF (g.h++g.b)).length/\NewRow w w11 (21:TypeId) x2.fst x2.snd.fst (List.map (int IntKind.i32) (ZF (g.h++g.b))) x2.snd.snd/\
 zl7 w11 g.rb (fdH (g.h++g.b))/\Fr (fun(q:Nat)=>q=g.rb) w w11)):zjs.Ok Tryz.prog 39:=ze zjs zue zi8 (fun _ _=>rfl) (fun _ _=>rfl) hsp Tryz.func39 rfl (n:=2) (fun _=>rfl) (by kernel_rfl) (zl (by kernel_rfl) h)
theorem zpw(hsp:zf Tryz.prog zgs)(h:∀(g:ByteArray) (w:World),U8 w/\g.size<=67108864->∃(g1:ByteArray), #[string g]= #[string g1]/\g1.size<=67108864/\∀(x:Nat×Nat) w',x.fst=Zy g1/\x.snd=Zu g1/\w'=w->∃(x1:Bool),bool (!g.toList==(ByteArray.mk #[]).toList&&((x.fst:Int) !=(g.size:Int)||(x.fst:Int)==(x.snd:Int)))=bool x1/\x1=zW g/\Ext w w'):
    ((zaV zW)).Ok Tryz.prog 51:=ze (zaV zW) (zP zgs) zgs (fun _ _=>rfl) (fun _ _=>rfl) hsp Tryz.func51 rfl (n:=1) (fun _=>rfl) (by kernel_rfl) (zl (by kernel_rfl) h)
theorem zyy(hsp:zf Tryz.prog zrz)(h:∀(g:ByteArray) (w:World),U8 w/\g.size<=67108864->(∃(x:Nat×Option Addr×Nat),int .i64 0=int .i64 (↑(pos g x.fst):Int)/\slice none 0 0=slice x.snd.fst x.fst x.snd.snd/\x.fst<=cnt g/\Made w w (140:TypeId) 4 x.snd.fst x.fst (List.flatMap (zcg g) (List.range x.fst)) x.snd.snd)/\∀(u:Nat->Value) (x:Nat×Option Addr×Nat) w',x.fst<=cnt g/\Made w w' (140:TypeId) 4 x.snd.fst x.fst (List.flatMap (zcg g) (List.range x.fst)) x.snd.snd->zc (decide ((↑(pos g x.fst):Int)<(g.size:Int))) (∃(k:Nat),(↑(pos g x.fst):Int)=(k:Int)/\k<=g.size/\g.size<=g.size/\∃(g1:ByteArray), #[string (g.extract k g.size)]= #[string g1]/\(U8 w'/\g1.size<=67108864)/\∀(x1:Int×Nat) w'1,x1.fst=nxR g1/\x1.snd=QM g1/\Ext w' w'1->zc ((x1.snd:Int)==1) (∀b w1,New w'1 (Obj.cells #[int .i64 (↑(pos g x.fst):Int),int .i32 x1.fst,int .i64 (x1.snd:Int),bool (x1.fst==65533)] 140) b w1->∃(a':Option Addr) (c':Nat) (w'2:World),zA Tryz.prog #[137,137] 137 (slice x.snd.fst x.fst x.snd.snd) (slice (some ⟨b,0,none⟩) 1 1) w1 a' (x.fst+1) c' w'2/\KO w1 w'2/\InR .i64 ((↑(pos g x.fst):Int)+(x1.snd:Int))/\∃(y:Nat×Option Addr×Nat),int .i64 ((↑(pos g x.fst):Int)+(x1.snd:Int))=int .i64 (↑(pos g y.fst):Int)/\slice a' (x.fst+1) c'=slice y.snd.fst y.fst y.snd.snd/\(y.fst<=cnt g/\Made w w'2 (140:TypeId) 4 y.snd.fst y.fst (List.flatMap (zcg g) (List.range y.fst)) y.snd.snd)/\cnt g - y.fst<cnt g - x.fst) (∀b w1,New w'1 (Obj.cells #[int .i64 (↑(pos g x.fst):Int),int .i32 x1.fst,int .i64 (x1.snd:Int),bool false] 140) b w1->∃(a':Option Addr) (c':Nat) (w'2:World),zA Tryz.prog #[137,137] 137 (slice x.snd.fst x.fst x.snd.snd) (slice (some ⟨b,0,none⟩) 1 1) w1 a' (x.fst+1) c' w'2/\KO w1 w'2/\InR .i64 ((↑(pos g x.fst):Int)+(x1.snd:Int))/\∃(y:Nat×Option Addr×Nat),int .i64 ((↑(pos g x.fst):Int)+(x1.snd:Int))=int .i64 (↑(pos g y.fst):Int)/\slice a' (x.fst+1) c'=slice y.snd.fst y.fst y.snd.snd/\(y.fst<=cnt g/\Made w w'2 (140:TypeId) 4 y.snd.fst y.fst (List.flatMap (zcg g) (List.range y.fst)) y.snd.snd)/\cnt g - y.fst<cnt g - x.fst)) (∃(x1:Option Addr×Nat×Nat),slice x.snd.fst x.fst x.snd.snd=slice x1.fst x1.snd.fst x1.snd.snd/\x1.snd.fst=(zfo g).length/\Made w w' (140:TypeId) 4 x1.fst x1.snd.fst (List.flatMap (zcg g) (zfo g)) x1.snd.snd)):
    ((znY zfo)).Ok Tryz.prog 110:=ze (znY zfo) zyw zrz (fun _ _=>rfl) (fun _ _=>rfl) hsp Tryz.func110 rfl (n:=1) (fun _=>rfl) (by kernel_rfl) (zl (by kernel_rfl) h)
theorem zu4(hsp:zf Tryz.prog spR)(h:∀(g:ByteArray) (w:World),U8 w/\g.size<=67108864->∃(g1:ByteArray), #[string g]= #[string g1]/\(U8 w/\g1.size<=67108864)/\∀(x:Option Addr×Nat×Nat) w',x.snd.fst=(zfo g1).length/\Made w w' (140:TypeId) 4 x.fst x.snd.fst (List.flatMap (zcg g1) (zfo g1)) x.snd.snd->(∃(x1:Nat×Option Addr×Nat),int .i64 0=int .i64 (x1.fst:Int)/\slice none 0 0=slice x1.snd.fst (zax g x1.fst).length x1.snd.snd/\x1.fst<=cnt g/\Made w' w' (3:TypeId) 1 x1.snd.fst (zax g x1.fst).length (List.map (int IntKind.i64) (zax g x1.fst)) x1.snd.snd)/\∀(u:Nat->Value) (x1:Nat×Option Addr×Nat) w'1,x1.fst<=cnt g/\Made w' w'1 (3:TypeId) 1 x1.snd.fst (zax g x1.fst).length (List.map (int IntKind.i64) (zax g x1.fst)) x1.snd.snd->zc (decide ((x1.fst:Int)<(x.snd.fst:Int))) (qd (x1.fst:Int) x.snd.fst fun k=>zr x.fst fun(b o:Nat)=>ZG w'1 b (o+k*4+3) fun b1=>zc b1 (qd (x1.fst:Int) x.snd.fst fun k1=>zr x.fst fun(b2 o1:Nat)=>zt w'1 b2 (o1+k1*4) fun n=>∀b3 w1,New w'1 (Obj.cells #[int .i64 n] 3) b3 w1->∃(a':Option Addr) (c':Nat) (w'2:World),zA Tryz.prog #[61,61] 61 (slice x1.snd.fst (zax g x1.fst).length x1.snd.snd) (slice (some ⟨b3,0,none⟩) 1 1) w1 a' ((zax g x1.fst).length+1) c' w'2/\KO w1 w'2/\InR .i64 ((x1.fst:Int)+1)/\∃(y:Nat×Option Addr×Nat),int .i64 ((x1.fst:Int)+1)=int .i64 (y.fst:Int)/\slice a' ((zax g x1.fst).length+1) c'=slice y.snd.fst (zax g y.fst).length y.snd.snd/\(y.fst<=cnt g/\Made w' w'2 (3:TypeId) 1 y.snd.fst (zax g y.fst).length (List.map (int IntKind.i64) (zax g y.fst)) y.snd.snd)/\cnt g - y.fst<cnt g - x1.fst) (InR .i64 ((x1.fst:Int)+1)/\∃(y:Nat×Option Addr×Nat),int .i64 ((x1.fst:Int)+1)=int .i64 (y.fst:Int)/\slice x1.snd.fst (zax g x1.fst).length x1.snd.snd=slice y.snd.fst (zax g y.fst).length y.snd.snd/\(y.fst<=cnt g/\Made w' w'1 (3:TypeId) 1 y.snd.fst (zax g y.fst).length (List.map (int IntKind.i64) (zax g y.fst)) y.snd.snd)/\cnt g - y.fst<cnt g - x1.fst)) (∃(x2:Option Addr×Nat×Nat),slice x1.snd.fst (zax g x1.fst).length x1.snd.snd=slice x2.fst x2.snd.fst x2.snd.snd/\x2.snd.fst=(zj1 g).length/\Made w w'1 (3:TypeId) 1 x2.fst x2.snd.fst (List.map (int IntKind.i64) (zj1 g)) x2.snd.snd)):
    ((sSL .i64 3 zj1)).Ok Tryz.prog 72:=ze (sSL .i64 3 zj1) zwT spR (fun _ _=>rfl) (fun _ _=>rfl) hsp Tryz.func72 rfl (n:=1) (fun _=>rfl) (by kernel_rfl) (zl (by kernel_rfl) h)
theorem zpy(hsp:zf Tryz.prog zgt)(h:∀(g:ByteArray) (w:World),U8 w/\g.size<=67108864->∃(g1:ByteArray), #[string g]= #[string g1]/\(U8 w/\g1.size<=67108864)/\∀(x:Option Addr×Nat×Nat) w',x.snd.fst=(zj1 g1).length/\Made w w' (3:TypeId) 1 x.fst x.snd.fst (List.map (int IntKind.i64) (zj1 g1)) x.snd.snd->∃(x1:Bool),bool ((x.snd.fst:Int)==0)=bool x1/\x1=zC g/\Ext w w'):
    ((zaV zC)).Ok Tryz.prog 47:=ze (zaV zC) (zP zgt) zgt (fun _ _=>rfl) (fun _ _=>rfl) hsp Tryz.func47 rfl (n:=1) (fun _=>rfl) (by kernel_rfl) (zl (by kernel_rfl) h)
theorem zpJ(hsp:zf Tryz.prog zgx)(h:∀(g:ByteArray) (w:World),U8 w/\g.size<=67108864->∃(g1:ByteArray), #[string g]= #[string g1]/\(U8 w/\g1.size<=67108864)/\∀(x:Option Addr×Nat×Nat) w',x.snd.fst=Zc g1/\Made w w' (142:TypeId) 2 x.fst x.snd.fst (List.flatMap (pcV g1) (List.range (Zc g1))) x.snd.snd->∃(x1:Nat),int .i64 (x.snd.fst:Int)=int .i64 (x1:Int)/\x1=Zc g/\Ext w w'):
    ((sSN Zc)).Ok Tryz.prog 48:=ze (sSN Zc) (zP zgx) zgx (fun _ _=>rfl) (fun _ _=>rfl) hsp Tryz.func48 rfl (n:=1) (fun _=>rfl) (by kernel_rfl) (zl (by kernel_rfl) h)
end

section
namespace Vc
open Go Go.RowKit
theorem zqH{P:Program}{w:World}{t ty e:TypeId}{bytes:Nat}(hE:ElemOk P t e 1 bytes){ad sa:Option Addr}{n m cx:Nat}{vs news:List Value}(h:CellsAt w ad vs)(hv:vs.length=n)(hc:CellsAt w sa news)(hl:news.length=m)
    (h1:∀u∈news,u.oneCell'=true) (h63:n+m<=maxLen) (hb:(n+m)*bytes<=140737488355328):
    ∃a' c' w2,zA P #[t,t] ty (.slice ad n n) (.slice sa m cx) w a' (n+m) c' w2/\KO w w2/\Ext w w2/\CellsAt w2 a' (vs++news)/\n+m<=c':=by
  obtain⟨i,z,hi,hz,hsize,hby,hzs⟩:=hE.info
  have ht:=hE.und
  subst hby
  by_cases hm:m=0
  ·subst hm
   have hn:news=[]:=List.eq_nil_of_length_eq_zero hl
   subst hn
   refine⟨ad,n,w,?_,KOE.refl _ _,Ext.refl _,by simpa using h,Nat.le_refl _⟩
   have hfc:(Builtin.firstCells 1 0 (.slice sa 0 cx)).run P w= .ok #[] w:=by
     cases sa with
     |none=>rfl
     |some a=>simp[Builtin.firstCells,loadCells,loadCellsFrom]
   unfold zA
   cases ad with
   |none=>simp[Builtin.append_,run_underlying ht,sizeOf,typeInfo,hi,hsize,Builtin.lenOf,hfc]
   |some a=>simp[Builtin.append_,run_underlying ht,sizeOf,typeInfo,hi,hsize,Builtin.lenOf,hfc,storeCells]
  ·obtain⟨b,o,rfl,hc2⟩:∃b o,sa=some ⟨b,o,none⟩/\∀(j:Nat) v,news[j]? =some v->w.cell? ((⟨b,o,none⟩:Addr).add j)=some v:=by
     rcases hc with hn|⟨b,o,h1,h2⟩
     ·subst hn;simp at hl;omega
     ·exact⟨b,o,h1,fun j v hv=>by rw[add_lit];exact h2 j v hv⟩
   have hsmall:n+m<=9223372036854775807:=by simp only[maxLen]at h63;omega
   have hlen:(vs++news).length=n+m:=by rw[List.length_append,hv,hl]
   have hext:∀(o:Obj),Ext w (w.drew.alloc o):=fun o=>(Below.drew (Below.refl _ w)).alloc (by simp) o
   have hko:∀(o:Obj),KO w (w.drew.alloc o):=fun o=>KO.below (hext o) (Nat.le_refl _)
   have cells:∀(zs:Array Value),CellsAt (w.drew.alloc (.cells ((vs++news).toArray++zs) e)) (some ⟨w.heap.size,0,none⟩) (vs++news):=fun zs=>
     .inr ⟨w.heap.size,0,rfl,fun j v hj=>by
       have hg:(w.drew.alloc (.cells ((vs++news).toArray++zs) e)).heap[w.heap.size]? =some (.cells ((vs++news).toArray++zs) e):=heap_alloc_new w.drew _
       rw[Nat.zero_add,za hg]
       have hlt:=(List.getElem?_eq_some_iff.1 hj).1
       rw[Array.getElem?_append_left (by simpa using hlt)]
       simpa using hj⟩
   cases ad with
   |none=>
    have hv0:vs=[]:=by
      rcases h with h|⟨b',o',h1,_⟩
      ·exact h
      ·cases h1
    subst hv0
    simp only[List.length_nil]at hv
    subst hv
    have hr:=run_append_nil (P:=P) w t ty e i z ht hi hz ⟨b,o,none⟩ m cx news (by rw[hsize];omega) hc2 (by omega) (by omega) (by simp only[Nat.zero_add]at hb;omega)
    have hge:=grownCap_ge w m 0 e
    refine⟨_,_,_,?_,hko _,hext _,cells (Builtin.zeroCells z.cells (grownCap w m 0 e - m)),by simpa using hge⟩
    unfold zA
    simpa using hr
   |some a=>
    have holds:∀(j:Nat) u,vs[j]? =some u->w.cell? (a.add j)=some u:=by
      intro j u hu
      rcases h with h0|⟨b',o',e1,e2⟩
      ·subst h0;simp at hu
      ·cases e1;rw[add_lit];exact e2 j u hu
    have hr:=run_append_grow (P:=P) w t ty e i z ht hi hz a n n vs (by rw[hsize];omega) holds ⟨b,o,none⟩ m cx news (by rw[hsize];omega) hc2 (by omega) (by omega) (growslice_fits (by omega) (by omega))
    have hge:=grownCap_ge w (n+m) n e
    have e1:vs.toArray++news.toArray=(vs++news).toArray:=by simp
    rw[e1]at hr
    exact⟨_,_,_,hr,hko _,hext _,cells _,hge⟩
end Vc
end

section
open Go Go.RowKit Vc Ut Tb Cl
theorem zpg:(zaV zC).Ok Tryz.prog 65:=by
  rintro(s:ByteArray) w ⟨hU,hsm⟩
  refine(Tryz.utf8_ValidString s w (by omega) hU).mono fun e w' ⟨he,hx⟩=>⟨zC s,?_,⟨rfl,hx⟩,KO.below hx (Nat.le_refl _)⟩
  rw[he,zpd];rfl
theorem zq8:(zaV zC).Ok Tryz.prog 43:=by
  refine zq7 ⟨zpg,trivial⟩ ?_
  rintro s w hp
  refine⟨s,rfl,hp,?_⟩
  rintro x w1 ⟨h1,h3⟩
  exact⟨x,rfl,h1,h3⟩
theorem Q5(s:ByteArray):(zu s).length=s.size:=by unfold zu;rw[List.length_map,qH]
theorem ziJ{s:ByteArray}{i:Nat}(h:i<s.size):(zu s)[i]? =some (.int .u8 (bt s i:Int)):=by
  have:=qH s
  unfold zu bt
  rw[List.getElem?_map,List.getD_eq_getElem?_getD,List.getElem?_eq_getElem (by omega)];rfl
theorem Q9(a b:ByteArray):zu (a++b)=zu a++zu b:=by
  unfold zu;rw[ByteArray.toList_data_append,List.map_append]
theorem zfc(s:ByteArray)(k:Nat):zu (s.extract k s.size)=(zu s).drop k:=by
  unfold zu
  have e:(s.extract k s.size).data.toList=s.data.toList.drop k:=by
    rw[ByteArray.data_extract,Array.toList_extract]
    show(s.data.toList.drop k).take (s.size - k)=_
    rw[List.take_of_length_le]
    rw[List.length_drop,qH];exact Nat.le_refl _
  rw[e,List.map_drop]
theorem zdv(s:ByteArray):∀u∈zu s,u.oneCell'=true:=by
  intro u hu;obtain⟨x,_,rfl⟩:=List.mem_map.1 hu;rfl
theorem zhH{w:World}{ad:Option Addr}{s:ByteArray}{i:Nat}{K:Nat->Nat->Prop}(h:CellsAt w ad (zu s))(hi:i<s.size)(hk:∀b o,w.cell? ⟨b,o+i,none⟩=some (.int .u8 (bt s i:Int))->K b o):zr ad K:=
  h.ptr (ziJ hi) hk
theorem zra{α:Type}(p:α->Bool):∀(l:List α) (n:Nat),n<=l.length->(∀j x,j<n->l[j]? =some x->p x=true)->(∀x,l[n]? =some x->p x=false)->(l.takeWhile p).length=n
  |[],n,h,_,_=>by simp at h;subst h;rfl
  |y::l,0,_,_,h2=>by
   have:=h2 y rfl
   simp[this]
  |y::l,n+1,h,h1,h2=>by
   have hy:=h1 0 y (by omega) rfl
   rw[List.takeWhile_cons,if_pos hy,List.length_cons,zra p l n (by simpa using h) (fun j x hj hx=>h1 (j+1) x (by omega) (by simpa using hx)) (fun x hx=>h2 x (by simpa using hx))]
theorem znn{t:ByteArray}{n:Nat}(hn:n<=cnt t)(h1:∀j,j<n->zW (t.extract (pos t j) t.size)=true)(h2:n=cnt t\/zW (t.extract (pos t n) t.size)=false):fdN t=n:=by
  unfold fdN
  refine zra _ _ n (by simpa using hn) (fun j x hj hx=> ?_) (fun x hx=> ?_)
  ·obtain⟨h3,h4⟩:=List.getElem?_eq_some_iff.1 hx
   rw[List.getElem_range]at h4;subst h4;exact h1 _ hj
  ·obtain⟨h3,h4⟩:=List.getElem?_eq_some_iff.1 hx
   rw[List.getElem_range]at h4;subst h4
   rw[List.length_range]at h3
   exact h2.resolve_left (by omega)
set_option maxRecDepth 20000 in
theorem ztf:zjA.Ok Tryz.prog 57:=by
  refine zte trivial ?_
  rintro⟨ad,c,s⟩ w ⟨hU,hcl⟩
  dsimp only at hcl⊢
  refine zb (fun h=> ?_) (fun h=> ?_)
  ·have h0:s.size=0:=by simp only[beq_iff_eq]at h;omega
   exact⟨false,rfl,by unfold zW;simp[h0],Ext.refl _⟩
  have h0:¬s.size=0:=by simp only[beq_eq_false_iff_ne,ne_eq]at h;omega
  have hw:=ziS s h0
  have hf:=zqi ⟨bt s 0,QO s 0⟩
  dsimp only at hf
  obtain⟨hf1,hf2,hf3,hf4⟩:=hf
  have hbd:=zjk (bt s 0)
  have hc:=hU.1 (bt s 0) (QO s 0)
  refine⟨0,rfl,by omega,zhH hcl (by omega) fun b o hbo=>⟨_,hbo,bt s 0,rfl,QO s 0,Lib.firstT (bt s 0),by rw[Nat.zero_add];exact hc,?_,?_⟩⟩
  ·rw[hf1];repeat' split
   all_goals exact zd (by omega) (by omega)
  rw[hf1]
  refine zb (fun h=>⟨true,rfl,?_,Ext.refl _⟩) (fun h=> ?_)
  ·rw[hw,if_pos]
   simp only[ge_iff_le,decide_eq_true_eq]at h
   unfold Zu;rw[if_neg h0]
   split at h
   ·rename_i h1;rw[if_pos h1];omega
   ·rename_i h1;rw[if_neg h1]
    split at h<;>omega
  simp only[ge_iff_le,decide_eq_false_iff_not]at h
  have h1:¬bt s 0<128:=fun hh=>by rw[if_pos hh]at h;omega
  rw[if_neg h1]at h
  have h2:¬(zT (bt s 0)).2.2=0:=fun hh=>by rw[if_pos hh]at h;omega
  rw[if_neg h2]at h
  have hS:Zu s=(zT (bt s 0)).2.2:=by unfold Zu;rw[if_neg h0,if_neg h1]
  rw[if_neg (by omega)]at hw
  obtain⟨hlo,hhi⟩:=hf4 h2
  have hacc:=hU.2 (Lib.firstT (bt s 0) / 16) hf3
  rw[hlo,hhi]at hacc
  have o1:1<s.size->(okB s 1 ↔ (zT (bt s 0)).1<=bt s 1/\bt s 1<=(zT (bt s 0)).2.1):=fun hh=>by unfold okB loB hiB;simp[hh]
  have o2:2<s.size->(okB s 2 ↔ 128<=bt s 2/\bt s 2<=191):=fun hh=>by unfold okB loB hiB;simp[hh]
  refine⟨Lib.firstT (bt s 0) / 16,hf2,hf3,(zT (bt s 0)).1,by rw[Nat.zero_add,Nat.mul_comm];exact hacc.1,(zT (bt s 0)).2.1,by rw[Nat.zero_add,Nat.mul_comm];exact hacc.2,?_⟩
  intro b w1 hn w2 hd
  have hx:Ext w w2:=Ext.trans hn.ext hd.ext
  have hcl1:=hcl.ext hn.ext
  have hcl2:=hcl.ext hx
  refine zb (fun h3=> ?_) (fun h3=> ?_)
  ·have h3:1<s.size:=by simp only[gt_iff_lt,decide_eq_true_eq]at h3;omega
   have o1:=o1 h3
   refine⟨1,rfl,h3,zhH hcl1 h3 fun b2 p2 hb2=>⟨_,hb2,(zT (bt s 0)).1,by rw[hn.cell];rfl,zb (fun h4=>⟨true,rfl,?_,hx⟩) (fun h4=> ?_)⟩⟩
   ·have:¬okB s 1:=fun hh=>by have:=o1.1 hh;have h4':((bt s 1:Nat):Int)<(((zT (bt s 0)).1:Nat):Int):=of_decide_eq_true h4;omega
    rw[hw,if_pos ⟨h3,this⟩]
   refine⟨(zT (bt s 0)).2.1,by rw[hn.cell];rfl,1,rfl,h3,zhH hcl1 h3 fun b3 p3 hb3=>⟨_,hb3,zb (fun h5=>⟨true,rfl,?_,hx⟩) (fun h5=> ?_)⟩⟩
   ·have:¬okB s 1:=fun hh=>by have:=o1.1 hh;have h5':(((zT (bt s 0)).2.1:Nat):Int)<((bt s 1:Nat):Int):=of_decide_eq_true h5;omega
    rw[hw,if_pos ⟨h3,this⟩]
   have k1:okB s 1:=o1.2 (by have h4':¬((bt s 1:Nat):Int)<(((zT (bt s 0)).1:Nat):Int):=of_decide_eq_false h4;have h5':¬(((zT (bt s 0)).2.1:Nat):Int)<((bt s 1:Nat):Int):=of_decide_eq_false h5;omega)
   rw[if_neg (fun hh=>hh.2 k1)]at hw
   refine zb (fun h6=> ?_) (fun h6=>⟨false,rfl,?_,hx⟩)
   ·have h6:2<s.size:=by simp only[gt_iff_lt,decide_eq_true_eq]at h6;omega
    have o2:=o2 h6
    refine⟨2,rfl,h6,zhH hcl2 h6 fun b4 p4 hb4=>⟨_,hb4,?_⟩⟩
    refine zb (fun h7=>⟨true,rfl,?_,hx⟩) (fun h7=>⟨2,rfl,h6,zhH hcl2 h6 fun b5 p5 hb5=>⟨_,hb5,?_⟩⟩)
    rotate_left
    refine zb (fun h8=>⟨true,rfl,?_,hx⟩) (fun h8=>⟨false,rfl,?_,hx⟩)
    rotate_right
    ·have:¬okB s 2:=fun hh=>by have:=o2.1 hh;have h7':((bt s 2:Nat):Int)<128:=of_decide_eq_true h7;omega
     rw[hw,if_pos ⟨h6,this⟩]
    ·have:¬okB s 2:=fun hh=>by have:=o2.1 hh;have h8':(191:Int)<((bt s 2:Nat):Int):=of_decide_eq_true h8;omega
     rw[hw,if_pos ⟨h6,this⟩]
    ·have:okB s 2:=o2.2 (by have h7':¬((bt s 2:Nat):Int)<128:=of_decide_eq_false h7;have h8':¬(191:Int)<((bt s 2:Nat):Int):=of_decide_eq_false h8;omega)
     rw[hw,if_neg (fun hh=>hh.2 this)]
   ·have h6:¬2<s.size:=by simp only[gt_iff_lt,decide_eq_false_iff_not]at h6;omega
    rw[hw,if_neg (fun hh=>h6 hh.1)]
  ·have h3:¬1<s.size:=by simp only[gt_iff_lt,decide_eq_false_iff_not]at h3;omega
   refine zb (fun h6=>by simp only[gt_iff_lt,decide_eq_true_eq]at h6;omega) (fun h6=>⟨false,rfl,?_,hx⟩)
   rw[hw,if_neg (fun hh=>h3 hh.1),if_neg (by omega)]
theorem zws:zxi.Ok Tryz.prog 58:=by
  rintro⟨ad,c,s⟩ w ⟨hU,hcl,h0⟩
  dsimp only at hcl h0
  rcases hcl with hcl|⟨b,o,rfl,hcl⟩
  ·have:=Q5 s
   rw[hcl]at this;simp at this;omega
  refine(Tryz.utf8_DecodeRune s b o c w hU (fun j hj=> ?_)).mono fun e w' ⟨he,hx⟩=>⟨(nxR s,QM s),?_,⟨rfl,rfl,hx⟩,KO.below hx (Nat.le_refl _)⟩
  ·rw[hcl j _ (ziJ hj)]
   have e:(s.get! j).toNat=bt s j:=by
     unfold bt
     have hl:=qH s
     rw[List.getD_eq_getElem?_getD,List.getElem?_eq_getElem (by omega)]
     show(s.data[j]!).toNat=_
     rw[getElem!_pos s.data j hj];rfl
   rw[e]
  ·have:=ze8 s
   rw[he,this.1,this.2];rfl
theorem zwd:zn7.Ok Tryz.prog 41:=by
  refine zwc ⟨ztf,zws,trivial⟩ ?_
  rintro⟨rb,ha,hc,h,ad,c,b⟩ w ⟨hU,hr,hb,hs1,hs2⟩ w1 hd
  dsimp only at hr hb hs1 hs2⊢
  have hle:=hr.le
  refine⟨ha,h.size,hc,ZD hr.box,ha,h.size,hc,ZD hr.box,ha,h.size,hc,ZD hr.box,h.size,h.size,rfl,rfl,Nat.le_refl _,hle,?_⟩
  obtain⟨a',c',w2,hrun,hko,e12,hcl,hlc⟩:=zqH (P:=Tryz.prog) (ty:=40) (cx:=c) zhu (hr.cells.ext hd.ext) (Q5 h) (hb.ext hd.ext) (Q5 b) (zdv b) (by unfold maxLen;omega) (by omega)
  refine⟨a',c',w2,hrun,hko,?_,?_⟩
  ·refine⟨(0,(a',c'),(none,0)),?_,rfl,Nat.zero_le _,fun j hj=>by omega,?_,?_,Made.nil _ _ _⟩
   ·show Value.slice a' (h.size+b.size) c'=Value.slice a' ((h++b).size - 0) c'
    rw[ByteArray.size_append,Nat.sub_zero]
   ·show CellsAt w2 a' (zu ((h++b).extract 0 (h++b).size))
    rw[ByteArray.extract_zero_size,Q9];exact hcl
   ·show(h++b).size - 0<=c'
    rw[ByteArray.size_append];omega
  have hts:(h++b).size=h.size+b.size:=ByteArray.size_append
  generalize h++b=t at hts⊢
  have e02:Ext w w2:=Ext.trans hd.ext e12
  have hct:=Z3 t
  have hrl:=zN t
  rintro _ ⟨n,⟨a,ac⟩,⟨o,oc⟩⟩ w3 ⟨hn,hwh,hcl0,hac,hm⟩
  dsimp only at hn hwh hcl0 hac hm⊢
  have hcl3:=hcl0.ext hm.ext
  have hpl:=Zs t n
  have hxs:(t.extract (pos t n) t.size).size=t.size - pos t n:=zS (Nat.le_refl _)
  have e03:=e02.trans hm.ext
  have fin:∀{w4:World},Ext w3 w4->fdN t=n->∃(a'1:Option Addr) (c'1:Nat) (w'3:World),zA Tryz.prog #[40,40] 40 (.slice none 0 0) (.slice a (t.size - pos t n) ac) w4 a'1 (0+(t.size - pos t n)) c'1 w'3/\KO w4 w'3/\
   true=true/\(∃old,w'3.cell? ⟨rb,0,none⟩=some old)/\w'3.frozen? ⟨rb,0,none⟩=false/\∀(w11:World),Stored w'3 ⟨rb,0,none⟩ (.slice a'1 (0+(t.size - pos t n)) c'1) w11->
   ∃(x2:(Option Addr×Nat×Nat)×Option Addr×Nat),Value.slice o n oc=Value.slice x2.1.1 x2.1.2.1 x2.1.2.2/\x2.1.2.1=(ZF t).length/\NewRow w w11 21 x2.1.1 x2.1.2.1 ((ZF t).map (Value.int .i32)) x2.1.2.2/\RdIn w11 rb x2.2.1 x2.2.2 (fdH t)/\
    (∀q,qi x2.2.1=some q->w.heap.size<=q)/\(∀q,qi x2.1.1=some q->qi x2.2.1≠some q)/\Fr (fun q=>q=rb) w w11:=by
    intro w4 e34 hfd
    have e04:=e03.trans e34
    obtain⟨a2,c2,w5,hrun2,hko2,hrow,hg,hor,_⟩:=(Row.nil w4 5 1).pushS (P:=Tryz.prog) (ty:=40) zhu (by decide) (sa:=a) (cx:=ac) (m:=t.size - pos t n) (news:=zu (t.extract (pos t n) t.size)) (by rw[Q5];omega) (hcl3.ext e34) (zdv _) (by unfold maxLen;omega) (.inr (by omega))
    have e45:Ext w4 w5:=(Fr.grown hg).ext (fun q _ h=>by cases h)
    have e05:=e04.trans e45
    have hbx:=e05.heap hr.box
    have hrb:=zv hr.box
    have nw:∀q,qi a2=some q->w4.heap.size<=q:=fun q hq=>by
      rcases hor with rfl|⟨rfl,_⟩
      ·cases hq
      ·simp[qi]at hq;omega
    refine⟨a2,c2,w5,hrun2,hko2,rfl,zfU hbx,zea hbx,fun w6 hs6=> ?_⟩
    have hfr:ZF t=(zo t).take n:=by unfold ZF;rw[hfd]
    have s02:=e02.size
    have s04:=e04.size
    refine⟨((o,n,oc),(a2,c2)),rfl,by dsimp only;rw[hfr,List.length_take];omega,⟨?_,fun q hq=>Nat.le_trans s02 (hm.new q hq)⟩,⟨?_,?_,?_⟩,fun q hq=>Nat.le_trans s04 (nw q hq),(fun q hq h=>by have:=nw q h;have:=hm.row.lt hq;have:=e34.size;omega),(Fr.of_ext e05).trans (Fr.stored hs6) (fun _ _ h=>h)⟩
    ·rw[hfr]
     exact(hm.row.ext (e34.trans e45)).keep fun q hq=>hs6.other (by show q≠rb;have:=hm.new q hq;omega)
    ·have:=hs6.box hbx
     rw[this];dsimp only
     rw[show fdH t=t.extract (pos t n) t.size from by unfold fdH;rw[hfd],hxs,Nat.zero_add]
    ·rw[show fdH t=t.extract (pos t n) t.size from by unfold fdH;rw[hfd]]
     exact hrow.cells.keep fun q hq=>hs6.other (by show q≠rb;have:=nw q hq;omega)
    ·rw[show fdH t=t.extract (pos t n) t.size from by unfold fdH;rw[hfd],hxs]
     have:=hrow.le.1
     simpa using this
  refine zb (fun hb1=> ?_) (fun hb1=> ?_)
  ·have hp:pos t n<t.size:=by simp only[gt_iff_lt,decide_eq_true_eq]at hb1;omega
   have hnc:=qK.2 hp
   refine⟨⟨a,ac,t.extract (pos t n) t.size⟩,by rw[hxs],⟨hU.ext e03,hcl3⟩,?_⟩
   rintro x w4 ⟨rfl,e34⟩
   dsimp only
   have e04:=e03.trans e34
   refine zb (fun hb2=> ?_) (fun hb2=>fin e34 (znn hn hwh (.inr hb2)))
   refine⟨⟨a,ac,t.extract (pos t n) t.size⟩,by rw[hxs],⟨hU.ext e04,hcl3.ext e34,by rw[hxs];omega⟩,?_⟩
   rintro⟨r,m⟩ w5 ⟨hr5,hm5,e45⟩
   dsimp only at hr5 hm5⊢
   rw[(zcO hnc).2]at hr5
   rw[(zcO hnc).1]at hm5
   subst hr5 hm5
   have e35:=e34.trans e45
   have d1:=za8 hp
   intro b6 w6 hn6
   obtain⟨o2,oc2,w7,hrun2,hko2,hm7,e67,_⟩:=(hm.later e35).pushN (P:=Tryz.prog) (ty:=69) znq (by decide) (m:=1) (news:=[.int .i32 (dcR t (pos t n))]) hn6 rfl (by simp[Value.oneCell']) (by unfold maxLen;omega) (.inr (by omega))
   refine⟨o2,oc2,w7,hrun2,hko2,Qh t (pos t n),rfl,by omega,fun ad' hsl=> ?_⟩
   have hps:=qn hp
   refine⟨(n+1,(ad',ac - Qh t (pos t n)),(o2,oc2)),?_,rfl,⟨hnc,fun j hj=> ?_,?_,?_,?_⟩,?_⟩
   ·dsimp only;rw[hps,show t.size - pos t n - Qh t (pos t n)=t.size - (pos t n+Qh t (pos t n))from by omega]
   ·by_cases hjn:j=n
    ·subst hjn;exact hb2
    ·exact hwh j (by dsimp only at hj;omega)
   ·dsimp only
    have:=hcl0.drop hsl (by omega) (by rw[Q5,hxs];omega)
    rw[zfc,hps]
    rw[zfc,List.drop_drop,Nat.mul_one]at this
    exact this
   ·dsimp only;omega
   ·dsimp only
    rw[zc5 (by rw[hrl];exact hnc),Zj hnc];exact hm7
   ·dsimp only;omega
  ·have hp:pos t n=t.size:=by simp only[gt_iff_lt,decide_eq_false_iff_not]at hb1;omega
   have hnc:n=cnt t:=by
     have:¬n<cnt t:=fun hh=>by have:=qK.1 hh;omega
     omega
   exact fin (Ext.refl _) (znn hn hwh (.inl hnc))
theorem zx0:zuT.Ok Tryz.prog 33:=by
  refine zxZ trivial ?_
  rintro _ w _ b w1 hn
  exact⟨b,rfl,hn.size.1,⟨hn.heap,CellsAt.nil _ _,Nat.le_refl _⟩,hn.ext⟩
theorem zwf(t:ByteArray)(p k:Nat)(hp:p<=t.size):(t.extract p t.size).extract k (t.extract p t.size).size=t.extract (p+k) t.size:=by
  rw[ByteArray.extract_extract,zS (Nat.le_refl _)]
  congr 1
  omega
theorem zwn:ElemOk Tryz.prog 137 140 4 32:=Q4 (.agg #[.int .i64 0, .int .i32 0, .int .i64 0, .bool false]) (by kernel_rfl) (by kernel_rfl) rfl
theorem zpx:(zaV zW).Ok Tryz.prog 51:=by
  refine zpw ⟨ziL,trivial⟩ ?_
  rintro s w ⟨hU,hsm⟩
  refine⟨s,rfl,hsm,?_⟩
  rintro⟨n,k⟩ w1 ⟨hn,hk,rfl⟩
  dsimp only at hn hk⊢
  refine⟨_,rfl,?_,Ext.refl _⟩
  subst hn hk
  rw[zbA,zwz,zoW]
  unfold zW
  by_cases h0:s.size=0<;>by_cases h1:Zy s=s.size<;>by_cases h2:Zy s=Zu s<;>simp_all
theorem zyz:(znY zfo).Ok Tryz.prog 110:=by
  refine zyy ⟨zgS,trivial⟩ ?_
  rintro(s:ByteArray) w ⟨hU,hsm⟩
  have hcs:=Z3 s
  refine⟨⟨(0,none,0),rfl,rfl,Nat.zero_le _,Made.nil _ _ _⟩,?_⟩
  rintro _ ⟨n,a,c⟩ w1 ⟨hn,hm⟩
  dsimp only at hn hm⊢
  refine zb (fun h=> ?_) (fun h=> ?_)
  ·have hp:pos s n<s.size:=by simpa using h
   have hlt:=qK.2 hp
   obtain⟨e1,e2⟩:=zbK hp
   refine⟨pos s n,rfl,by omega,Nat.le_refl _,_,rfl,⟨hU.ext hm.ext,zbo hsm⟩,?_⟩
   rintro⟨r,k⟩ w2 ⟨hr,hk,hw2⟩
   dsimp only at hr hk⊢
   rw[e1]at hr;rw[e2]at hk
   subst hr hk
   have key:∀(b:Nat) (w3:World) (v:Bool),v=zz s n->New w2 (.cells #[.int .i64 (pos s n), .int .i32 (dcR s (pos s n)), .int .i64 (Qh s (pos s n)), .bool v] 140) b w3->
    ∃a' c' w4,zA Tryz.prog #[137,137] 137 (.slice a n c) (.slice (some ⟨b,0,none⟩) 1 1) w3 a' (n+1) c' w4/\KO w3 w4/\InR .i64 ((pos s n:Int)+(Qh s (pos s n):Int))/\
    ∃y:Nat×Option Addr×Nat,Value.int .i64 ((pos s n:Int)+(Qh s (pos s n):Int))=Value.int .i64 (pos s y.1:Int)/\Value.slice a' (n+1) c'=Value.slice y.2.1 y.1 y.2.2/\
    (y.1<=cnt s/\Made w w4 140 4 y.2.1 y.1 ((List.range y.1).flatMap (zcg s)) y.2.2)/\cnt s - y.1<cnt s - n:=by
     intro b w3 v hv hnw
     obtain⟨a',c',w4,hrun,hko,hm4,_⟩:=(hm.later hw2).pushN (P:=Tryz.prog) (ty:=137) zwn (by decide) (m:=1) (news:=zcg s n) (by unfold zcg;rw[<-hv];exact hnw) rfl (zso s n) (by unfold maxLen;omega) (.inr (by omega))
     have hle:=za8 hp
     refine⟨a',c',w4,hrun,hko,zd (by omega) (by omega),(n+1,a',c'),?_,rfl,⟨by dsimp only;omega,?_⟩,by dsimp only;omega⟩
     ·dsimp only;rw[qn hp];simp
     ·dsimp only;rw[List.range_succ,List.flatMap_append];simpa using hm4
   refine zb (fun h=> ?_) (fun h=> ?_)
   ·have hd:Qh s (pos s n)=1:=by simp only[beq_iff_eq]at h;omega
    intro b w3 hnw
    refine key b w3 _ ?_ hnw
    unfold zz
    by_cases h5:dcR s (pos s n)=65533<;>simp[hd,h5]
   ·have hd:¬Qh s (pos s n)=1:=by simp only[beq_eq_false_iff_ne,ne_eq]at h;omega
    intro b w3 hnw
    refine key b w3 _ ?_ hnw
    unfold zz;simp[hd]
  ·have hn1:=zfN (s:=s) (by simpa using h) hn
   subst hn1
   exact⟨(a,cnt s,c),rfl,by simp[zfo],hm⟩
theorem zu5:(sSL .i64 3 zj1).Ok Tryz.prog 72:=by
  refine zu4 ⟨zyz,trivial⟩ ?_
  rintro(s:ByteArray) w ⟨hU,hsm⟩
  have hcs:=Z3 s
  refine⟨s,rfl,⟨hU,hsm⟩,?_⟩
  rintro⟨la,n,lc⟩ w1 ⟨hn,hl⟩
  dsimp only at hn hl⊢
  have hcn:n=cnt s:=by rw[hn];simp[zfo]
  subst hcn
  refine⟨⟨(0,none,0),rfl,rfl,Nat.zero_le _,Made.nil _ _ _⟩,?_⟩
  rintro _ ⟨k,a,c⟩ w2 ⟨hk,hm⟩
  dsimp only at hk hm⊢
  have hbl:=zt0 s k
  refine zb (fun h=> ?_) (fun h=> ?_)
  ·have hk1:k<cnt s:=by simpa using h
   have hat:=zyA hk1
   have hl2:=hl.row.cells.ext hm.ext
   refine⟨k,rfl,hk1,hl2.fld (zk6 (j:=3) hat rfl) fun b o hb=>⟨_,hb,?_⟩⟩
   refine zb (fun hbad=> ?_) (fun hbad=> ?_)
   ·have c0:=zk6 (s:=s) (j:=0) hat rfl
    refine⟨k,rfl,hk1,hl2.fld (j:=0) c0 fun b1 o1 hb1=>⟨_,hb1,fun b2 w3 hnw=> ?_⟩⟩
    obtain⟨a',c',w4,hrun,hko,hm4,_⟩:=hm.pushN (P:=Tryz.prog) (ty:=61) zhv (by decide) (m:=1) (news:=[.int .i64 (pos s k)]) hnw rfl (by simp[Value.oneCell']) (by unfold maxLen;omega) (.inr (by omega))
    refine⟨a',c',w4,hrun,hko,zd (by omega) (by omega),(k+1,a',c'),by simp,?_,⟨by dsimp only;omega,?_⟩,by dsimp only;omega⟩
    ·dsimp only;rw[zcT,if_pos hbad];simp
    ·dsimp only;rw[zcT,if_pos hbad];simpa using hm4
   ·refine⟨zd (by omega) (by omega),(k+1,a,c),by simp,?_,⟨by dsimp only;omega,?_⟩,by dsimp only;omega⟩
    ·dsimp only;rw[zcT,if_neg (by simp[hbad])];simp
    ·dsimp only;rw[zcT,if_neg (by simp[hbad])];simpa using hm
  ·have hk1:k=cnt s:=by simp only[decide_eq_false_iff_not]at h;omega
   subst hk1
   exact⟨(a,_,c),rfl,rfl,hm.earlier hl.ext⟩
theorem zpz:(zaV zC).Ok Tryz.prog 47:=by
  refine zpy ⟨zu5,trivial⟩ ?_
  rintro(s:ByteArray) w ⟨hU,hsm⟩
  refine⟨s,rfl,⟨hU,hsm⟩,?_⟩
  rintro⟨a,n,c⟩ w1 ⟨hn,hm⟩
  dsimp only at hn hm⊢
  refine⟨_,rfl,?_,hm.ext⟩
  rw[hn]
  unfold zC zj1
  rw[Bool.eq_iff_iff,beq_iff_eq,List.all_eq_true,List.length_map]
  constructor
  ·intro h n hn
   have h0:((List.range (cnt s)).filter (zz s))=[]:=List.eq_nil_of_length_eq_zero (by omega)
   rw[List.filter_eq_nil_iff]at h0
   have:=h0 n hn
   simpa using this
  ·intro h
   have:((List.range (cnt s)).filter (zz s))=[]:=List.filter_eq_nil_iff.2 fun n hn=>by have:=h n hn;simpa using this
   rw[this];rfl
theorem zr3:zjs.Ok Tryz.prog 39:=by
  refine zr2 ⟨zpx,zgS,trivial⟩ ?_
  rintro⟨rb,h,ad,c,b⟩ w ⟨hU,hr,hb,hs⟩ w1 hd
  dsimp only at hr hb hs⊢
  have hts:(h++b).size=h.size+b.size:=ByteArray.size_append
  refine⟨h,ZD hr,b,Qn rfl (hb.ext hd.ext),Ext.refl _,by omega,?_,?_⟩
  ·refine⟨(0,none,0),?_,rfl,Nat.zero_le _,fun j hj=>by omega,Made.nil _ _ _⟩
   show Value.string (h++b)=Value.string ((h++b).extract 0 (h++b).size)
   rw[ByteArray.extract_zero_size]
  generalize h++b=t at hts hs⊢
  have hct:=Z3 t
  have hrl:=zN t
  rintro _ ⟨n,o,oc⟩ w3 ⟨hn,hwh,hm⟩
  dsimp only at hn hwh hm⊢
  have hpl:=Zs t n
  have hxs:(t.extract (pos t n) t.size).size=t.size - pos t n:=zS (Nat.le_refl _)
  have e03:=Ext.trans hd.ext hm.ext
  refine⟨_,rfl,⟨hU.ext e03,by rw[hxs];omega⟩,?_⟩
  rintro x w4 ⟨rfl,e34⟩
  have e04:=e03.trans e34
  refine zb (fun hb2=> ?_) (fun hb2=> ?_)
  ·have hp:pos t n<t.size:=by
     rcases Nat.lt_or_ge (pos t n) t.size with h1|h1
     ·exact h1
     ·exfalso
      have h0:(t.extract (pos t n) t.size).size=0:=by omega
      unfold zW at hb2
      simp[h0]at hb2
   have hnc:=qK.2 hp
   have d1:=za8 hp
   refine⟨_,rfl,⟨hU.ext e04,by rw[hxs];omega⟩,?_⟩
   rintro⟨r,m⟩ w5 ⟨hr5,hm5,e45⟩
   dsimp only at hr5 hm5⊢
   rw[(zcO hnc).2]at hr5
   rw[(zcO hnc).1]at hm5
   subst hr5 hm5
   intro b6 w6 hn6
   obtain⟨o2,oc2,w7,hrun2,hko2,hm7,e67,_⟩:=(hm.later (e34.trans e45)).pushN (P:=Tryz.prog) (ty:=69) znq (by decide) (m:=1) (news:=[.int .i32 (dcR t (pos t n))]) hn6 rfl (by simp[Value.oneCell']) (by unfold maxLen;omega) (.inr (by omega))
   refine⟨o2,oc2,w7,hrun2,hko2,Qh t (pos t n),rfl,by rw[hxs];omega,Nat.le_refl _,(n+1,o2,oc2),?_,rfl,⟨hnc,fun j hj=> ?_,?_⟩,?_⟩
   ·dsimp only;rw[zwf t _ _ hpl,qn hp]
   ·by_cases hjn:j=n
    ·subst hjn;exact hb2
    ·exact hwh j (by dsimp only at hj;omega)
   ·dsimp only
    rw[zc5 (by rw[hrl];exact hnc),Zj hnc];exact hm7
   ·dsimp only;omega
  ·have hfd:=znn hn hwh (.inr hb2)
   have hfr:ZF t=(zo t).take n:=by unfold ZF;rw[hfd]
   have hr4:=e04.heap hr
   have hrb:=zv hr
   have hdz:=hd.ext.size
   refine⟨rfl,zfU hr4,zea hr4,fun w5 hs5=>⟨(o,n,oc),rfl,by dsimp only;rw[hfr,List.length_take];omega,⟨?_,fun q hq=>Nat.le_trans hdz (hm.new q hq)⟩,?_,(Fr.of_ext e04).trans (Fr.stored hs5) (fun _ _ h=>h)⟩⟩
   ·rw[hfr]
    exact(hm.row.ext e34).keep fun q hq=>hs5.other (by show q≠rb;have:=hm.new q hq;omega)
   ·unfold zl7 fdH
    rw[hfd];exact hs5.box hr4
theorem zpK:(sSN Zc).Ok Tryz.prog 48:=by
  refine zpJ ⟨zsa,trivial⟩ ?_
  rintro(s:ByteArray) w ⟨hU,hsm⟩
  refine⟨s,rfl,⟨hU,hsm⟩,?_⟩
  rintro⟨a,n,c⟩ w1 ⟨hn,hm⟩
  exact⟨n,rfl,hn,hm.ext⟩
end

section
set_option linter.unusedVariables false
open Go Go.RowKit Vc Ut Tb Cl
open Value
set_option maxRecDepth 1000000
theorem zvY(hsp:zf Tryz.prog zmw)(h:∀(g:ByteArray×Nat) (i:ItG) (W:World),W.heap[g.snd]? =some (Obj.cells #[string g.fst] (9:TypeId))/\U8 W/\g.fst.size<=67108864->ItPre (List.map zb2 (pcL g.fst)) (fun(q:Nat)=>q=g.snd\/q=0\/q=1) i W->(∃(x:Nat×(Nat->Prop)),int .i64 0=int .i64 (↑(bp g.fst x.fst):Int)/\x.fst<=Zc g.fst/\i.J x.fst x.snd W/\Mid W i.D0 x.snd W)/\∀(u:Nat->Value) (x:Nat×(Nat->Prop)) w',x.fst<=Zc g.fst/\i.J x.fst x.snd w'/\Mid W i.D0 x.snd w'->LdT w' g.snd 0 fun s=>zc (decide ((↑(bp g.fst x.fst):Int)<(s.size:Int))) (LdT w' g.snd 0 fun s1=>∃(k:Nat),(↑(bp g.fst x.fst):Int)=(k:Int)/\k<=s1.size/\s1.size<=s1.size/\∃(g1:ByteArray), #[string (s1.extract k s1.size)]= #[string g1]/\(U8 w'/\g1.size<=67108864)/\∀(x1:Nat) w'1,x1=zD g1/\Ext w' w'1->LdT w'1 g.snd 0 fun s2=>InR .i64 ((↑(bp g.fst x.fst):Int)+(x1:Int))/\∃(k1:Nat),(↑(bp g.fst x.fst):Int)=(k1:Int)/\∃(k2:Nat),(↑(bp g.fst x.fst):Int)+(x1:Int)=(k2:Int)/\k1<=k2/\k2<=s2.size/\i.l=i.l/\∃(q:Nat×(Nat->Prop)),[int .i64 (↑(bp g.fst x.fst):Int),string (s2.extract k1 k2)]=(List.map zb2 (pcL g.fst)).getD q.fst []/\(q.fst<(List.map zb2 (pcL g.fst)).length/\i.J q.fst q.snd w'1/\Mid W i.D0 q.snd w'1)/\∀(b:Bool) w'2,(∃(D':Nat->Prop),Step q.snd w'1 w'2 D'/\(b=true->i.J (q.fst+1) D' w'2)/\(b=false->i.Jx D' w'2))->zc (!b) (znI (List.map zb2 (pcL g.fst)) i W w'2) (InR .i64 ((↑(bp g.fst x.fst):Int)+(x1:Int))/\∃(y:Nat×(Nat->Prop)),int .i64 ((↑(bp g.fst x.fst):Int)+(x1:Int))=int .i64 (↑(bp g.fst y.fst):Int)/\(y.fst<=Zc g.fst/\i.J y.fst y.snd w'2/\Mid W i.D0 y.snd w'2)/\Zc g.fst - y.fst<Zc g.fst - x.fst)) (znI (List.map zb2 (pcL g.fst)) i W w')):zs0.Ok Tryz.prog 116:=
  zm9 zs0 zw1 zmw (fun _ _ _=>rfl) (fun _ _ _=>rfl) hsp (enters_of Tryz.func116 (by kernel_rfl) rfl) Tryz.func116 rfl (n:=1) (fun _=>rfl) (by kernel_rfl) (zl (by kernel_rfl) h)
theorem znu(hsp:zf Tryz.prog [])(h:∀(g:ByteArray) (w:World),True->∀b w1,New w (Obj.cells #[string g] 9) b w1->∃(x:Nat),Value.func (Fn.func 116) #[] #[pointer (some ⟨b,0,none⟩)]=Value.func (Fn.func 116) #[] #[pointer (some ⟨x,0,none⟩)]/\w.heap.size<=x/\w1.heap[x]? =some (Obj.cells #[string g] (9:TypeId))/\Ext w w1):
    ((zn4 116)).Ok Tryz.prog 91:=ze (zn4 116) (zP []) [] (fun _ _=>rfl) (fun _ _=>rfl) hsp Tryz.func91 rfl (n:=1) (fun _=>rfl) (by kernel_rfl) (zl (by kernel_rfl) h)
theorem zwh(hsp:zf Tryz.prog zmC)(h:∀(g:ByteArray) (w:World),U8 w/\g.size<=67108864->∀b w1,New w (Obj.cells #[slice none 0 0] 61) b w1->∃(g1:ByteArray), #[string g]= #[string g1]/\True/\∀(x:Nat) (w':World),w1.heap.size<=x/\w'.heap[x]? =some (Obj.cells #[string g1] (9:TypeId))/\Ext w1 w'->∃(xs:List (Nat×ByteArray)),∃(C:Nat->Prop) (D0:Nat->Prop),zj4 Tryz.prog (Value.func (Fn.func 116) #[] #[pointer (some ⟨x,0,none⟩)]) (List.map zb2 xs) C w'/\DomOk w' C D0/\(∃(a3:Option Addr) (c:Nat),(D0=fun(q:Nat)=>q=zev (pointer (some ⟨b,0,none⟩))\/qi a3=some q)/\Grow w' (zev (pointer (some ⟨b,0,none⟩))) (61:TypeId) (3:TypeId) a3 c (List.map (int IntKind.i64) (List.take 0 (Qw g))))/\(Stab w'.heap.size fun(k:Nat) (D:Nat->Prop) (W:World)=>∃(a:Option Addr) (c:Nat),(D=fun(q:Nat)=>q=zev (pointer (some ⟨b,0,none⟩))\/qi a=some q)/\Grow W (zev (pointer (some ⟨b,0,none⟩))) (61:TypeId) (3:TypeId) a c (List.map (int IntKind.i64) (List.take k (Qw g))))/\(∀(x1:Exit),Stab w'.heap.size fun(x:Nat) (D:Nat->Prop) (W:World)=>1=0)/\(∀(k:Nat) (x1:Nat×ByteArray) (D:Nat->Prop) W,xs[k]? =some x1->(∃(a4:Option Addr) (c:Nat),(D=fun(q:Nat)=>q=zev (pointer (some ⟨b,0,none⟩))\/qi a4=some q)/\Grow W (zev (pointer (some ⟨b,0,none⟩))) (61:TypeId) (3:TypeId) a4 c (List.map (int IntKind.i64) (List.take k (Qw g))))->Mid w' D0 D W->qL W b 0 fun a6 n c=>InR .i64 ((x1.fst:Int)+(x1.snd.size:Int))/\∀b1 w11,New W (Obj.cells #[int .i64 ((x1.fst:Int)+(x1.snd.size:Int))] 3) b1 w11->∃(a':Option Addr) (c':Nat) (w'1:World),zA Tryz.prog #[61,61] 61 (slice a6 n c) (slice (some ⟨b1,0,none⟩) 1 1) w11 a' (n+1) c' w'1/\KO w11 w'1/\zh w'1 b 0 (slice a' (n+1) c') fun w12=>∃(D':Nat->Prop),Step D W w12 D'/\∃(a9:Option Addr) (c1:Nat),(D'=fun(q:Nat)=>q=zev (pointer (some ⟨b,0,none⟩))\/qi a9=some q)/\Grow w12 (zev (pointer (some ⟨b,0,none⟩))) (61:TypeId) (3:TypeId) a9 c1 (List.map (int IntKind.i64) (List.take (k+1) (Qw g))))/\(∀(D:Nat->Prop) W,(∃(a3:Option Addr) (c:Nat),(D=fun(q:Nat)=>q=zev (pointer (some ⟨b,0,none⟩))\/qi a3=some q)/\Grow W (zev (pointer (some ⟨b,0,none⟩))) (61:TypeId) (3:TypeId) a3 c (List.map (int IntKind.i64) (List.take (zsL xs) (Qw g))))->Mid w' D0 D W->qL W b 0 fun a5 n c=>∀w2,Turn w.heap.size W w2->∃(x1:Option Addr×Nat×Nat),slice a5 n c=slice x1.fst x1.snd.fst x1.snd.snd/\x1.snd.fst=(Qw g).length/\Made w w2 (3:TypeId) 1 x1.fst x1.snd.fst (List.map (int IntKind.i64) (Qw g)) x1.snd.snd)/\True):
    ((sSL .i64 3 Qw)).Ok Tryz.prog 66:=ze (sSL .i64 3 Qw) zw4 zmC (fun _ _=>rfl) (fun _ _=>rfl) hsp Tryz.func66 rfl (n:=1) (fun _=>rfl) (by kernel_rfl) (zl (by kernel_rfl) h)
theorem zqs(hsp:zf Tryz.prog zry)(h:∀(g:ByteArray) (w:World),U8 w/\g.size<=67108864->∃(g1:ByteArray), #[string g]= #[string g1]/\(U8 w/\g1.size<=67108864)/\∀(x:Option Addr×Nat×Nat) w',x.snd.fst=(Qw g1).length/\Made w w' (3:TypeId) 1 x.fst x.snd.fst (List.map (int IntKind.i64) (Qw g1)) x.snd.snd->∃(x1:Nat),int .i64 (x.snd.fst:Int)=int .i64 (x1:Int)/\x1=Zc g/\Ext w w'):
    ((sSN Zc)).Ok Tryz.prog 44:=ze (sSN Zc) (zP zry) zry (fun _ _=>rfl) (fun _ _=>rfl) hsp Tryz.func44 rfl (n:=1) (fun _=>rfl) (by kernel_rfl) (zl (by kernel_rfl) h)
end
end Go.Proofs.YtjdohhididpomaaGreatDoor
