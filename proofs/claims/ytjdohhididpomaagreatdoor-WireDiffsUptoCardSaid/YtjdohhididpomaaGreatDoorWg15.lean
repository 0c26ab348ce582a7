/-
  Texts joined by program: WkI, Sy, Qb, Uf, Qc, Qi, Qd, Mm.
-/
import Derived.Test.YtjdohhididpomaaGreatDoorWg14
import Derived.Test.YtjdohhididpomaaGreatDoorWg13
import Derived.Test.YtjdohhididpomaaGreatDoorWg06
import Derived.Test.YtjdohhididpomaaGreatDoorWg03
import Derived.Laws.CopyRow
set_option linter.unusedVariables false
set_option linter.unusedSimpArgs false

namespace Go.Proofs.YtjdohhididpomaaGreatDoor
section
open Go Go.RowKit Vc Ut Tb Cl Orb
theorem zsh{s:ByteArray}{k:Nat}(h:k<Zc s):(pcL s)[k]? =some (pcP s k):=by
  unfold pcL;rw[List.getElem?_map,List.getElem?_range h];rfl
theorem zmV(s:ByteArray):(pcL s).length=Zc s:=by simp[pcL]
theorem zyI{l:List (Nat×ByteArray)}{k:Nat}{p:Nat×ByteArray}(h:l[k]? =some p):(l.map zb2).getD k []=zb2 p:=by
  simp only[List.getD_eq_getElem?_getD,List.getElem?_map,h];rfl
theorem zpW{s:ByteArray}{i:Nat}(hi:i<=Zc s):zD (s.extract (bp s i) s.size)+bp s i=bp s (i+1):=zwy hi 1
theorem zvZ:zs0.Ok Tryz.prog 116:=by
  refine zvY ⟨zlN,trivial⟩ ?_
  rintro⟨s,bx⟩ i W ⟨hb,hU,hsm⟩ hi
  dsimp only at hb hU hsm hi⊢
  have hlen:((pcL s).map zb2).length=Zc s:=by rw[List.length_map,zmV]
  refine⟨⟨(0,i.D0),rfl,Nat.zero_le _,hi.j0,Mid.start (Ext.refl _) hi.d0⟩,?_⟩
  rintro _ ⟨k,D⟩ w1 ⟨hk,hJ,hM⟩
  dsimp only at hk hJ hM⊢
  have hUw:U8 w1:=hU.fr hM.fr (hi.cd _ (.inr (.inl rfl))) (hi.cd _ (.inr (.inr rfl)))
  have hbw:w1.heap[bx]? =some (.cells #[.string s] 9):=(hM.old (zv hb) (hi.cd bx (.inl rfl))).trans hb
  have hle:=zhJ s k
  refine⟨s,ZD hbw,?_⟩
  refine zb (fun h=> ?_) (fun h=> ?_)
  ·have hlt:k<Zc s:=zxv.2 (by have:=of_decide_eq_true h;omega)
   refine⟨s,ZD hbw,bp s k,rfl,hle,Nat.le_refl _,_,rfl,⟨hUw,zbo (n:=bk s k) hsm⟩,?_⟩
   rintro _ w2 ⟨rfl,hw2⟩
   have hnd:=zpW hk
   have hle1:=zhJ s (k+1)
   have hbw2:=hw2.heap hbw
   have e3:(bp s k:Int)+(zD (s.extract (bp s k) s.size):Int)=(bp s (k+1):Int):=by omega
   rw[e3]
   have hJ2:=hi.stab.use hJ hw2.size (fun q hq=>hw2.block q (hq.elim (fun h=>Nat.lt_of_lt_of_le h hM.fr.size) (hM.lt q)))
   have hM2:=hM.own (Fr.of_ext (S:=fun _=>False) hw2) (fun q hq=>hq.elim)
   refine⟨s,ZD hbw2,zd (by omega) (by omega),bp s k,rfl,bp s (k+1),rfl,by omega,hle1,rfl,(k,D),?_,⟨by dsimp only;rw[hlen];exact hlt,hJ2,hM2⟩,?_⟩
   ·rw[zyI (zsh hlt)];rfl
   rintro b1 w3 ⟨D',hst,h1,h2⟩
   dsimp only at hst h1 h2
   have hM3:=hM2.step hst
   refine zb (fun hb1=> ?_) (fun hb1=> ?_)
   ·exact⟨D',hM3, .inr (h2 (by simpa using hb1))⟩
   ·exact⟨zd (by omega) (by omega),(k+1,D'),rfl,⟨hlt,h1 (by simpa using hb1),hM3⟩,by dsimp only;omega⟩
  ·have hk2:k=Zc s:=by
     by_cases hc:k<Zc s
     ·have:=zxv.1 hc;have:=of_decide_eq_false h;omega
     ·omega
   subst hk2
   exact⟨D,hM, .inl (by rw[hlen];exact hJ)⟩
theorem znv:(zn4 116).Ok Tryz.prog 91:=by
  refine znu trivial ?_
  rintro s w _ b w1 hn
  exact⟨b,rfl,by have:=hn.1;omega,hn.heap,hn.ext⟩
def cC(x:Nat):Nat->Prop:=fun q=>q=x\/q=0\/q=1
theorem zxu{x:Nat}{w:World}(hx:x<w.heap.size)(hU:U8 w):∀q,cC x q->q<w.heap.size:=by
  rintro q (rfl|rfl|rfl)
  ·exact hx
  ·exact hU.lt.1
  ·exact hU.lt.2
theorem zvd{s:ByteArray}{b:Nat}{w:World}(h:w.heap[b]? =some (.cells #[.string s] 9))(hU:U8 w)(hs:s.size<=67108864):zj4 Tryz.prog (itV 116 b) ((pcL s).map zb2) (cC b) w:=by
  refine zvZ (s,b) w ⟨h,hU,hs⟩ (zxu (zv h) hU) (fun W hW hq=>⟨(hq b (.inl rfl)).trans h,?_,hs⟩)
  have k:∀(g o:Nat) (v:Value),zs0.C (s,b) g->w.cell? ⟨g,o,none⟩=some v->W.cell? ⟨g,o,none⟩=some v:=fun g o v hg hc=>
    (World.cell?_of_block (w:=w) (hq g hg)).trans hc
  exact⟨fun c hc=>k _ _ _ (.inr (.inl rfl)) (hU.1 c hc),fun i hi=>⟨k _ _ _ (.inr (.inr rfl)) (hU.2 i hi).1,k _ _ _ (.inr (.inr rfl)) (hU.2 i hi).2⟩⟩
theorem zhs(s:ByteArray):(Qw s).length=Zc s:=by simp[Qw]
theorem zwj{s:ByteArray}{i:Nat}(h:i<Zc s):(Qw s)[i]? =some (bp s (i+1):Int):=by
  unfold Qw
  rw[List.getElem?_map,List.getElem?_range h];rfl
theorem zwi:(sSL .i64 3 Qw).Ok Tryz.prog 66:=by
  refine zwh ⟨znv,trivial⟩ ?_
  rintro(s:ByteArray) w ⟨hU,hsm⟩ b w1 hn1
  have hb1:=hn1.size
  have hncl:=zsD s
  have hut:=hU.lt
  refine⟨s,rfl,trivial,?_⟩
  rintro x w2 ⟨hx,hxs,e12⟩
  have e02:=hn1.ext.trans e12
  have hU2:=hU.ext e02
  dsimp only[zev]
  have h41:(61:TypeId)≠3:=by decide
  have hbw:=e12.heap hn1.heap
  refine⟨pcL s,cC x,(fun q=>q=b\/qi none=some q),zvd hxs hU2 hsm,⟨?_,?_⟩,⟨none,0,rfl,(⟨hbw,Row.nil _ _ _⟩:Grow w2 b _ _ none 0 [])⟩,?_,?_,?_,?_,trivial⟩
  ·rintro q (rfl|h)
   ·exact zv hbw
   ·cases h
  ·intro q hq
   refine⟨zxu (zv hxs) hU2 q hq,?_⟩
   rintro(h|h)
   ·rcases hq with h'|h'|h'<;>omega
   ·cases h
  ·rintro k D W W' ⟨a,c,rfl,hg⟩ hsz hq
   exact⟨a,c,rfl,hg.keep fun q hq'=>hg.kept hq' (hq q · (.inr hq'))⟩
  ·rintro _ k D W W' h hsz hq
   exact h
  ·rintro k p D W hp ⟨a,c,rfl,hg⟩ hM
   have hkl:k<Zc s:=by have:=(List.getElem?_eq_some_iff.1 hp).1;rwa [zmV]at this
   rw[zsh hkl]at hp
   cases hp
   have hle:=zhJ s (k+1)
   have hmo:=zwx s (show k<=k+1 by omega)
   have hsz:((pcP s k).1:Int)+((pcP s k).2.size:Int)=(bp s (k+1):Int):=by unfold pcP;dsimp only;rw[zyi hle hmo];omega
   rw[hsz]
   have hln:(((Qw s).take k).map (Value.int .i64)).length<=Zc s:=by simp[zhs];omega
   refine⟨a,_,c,ZD hg.hb,zd (by omega) (by omega),fun b1 w4 hn4=> ?_⟩
   obtain⟨a',c',w5,hr,hko,ho,hfz,hpost⟩:=hg.push (P:=Tryz.prog) (tt:=61) (ty:=61) zhv h41 hn4 rfl (by unfold maxLen;omega) (by omega)
   refine⟨a',c',w5,hr,hko,rfl,ho,hfz,fun w6 hs6=> ?_⟩
   obtain⟨hg6,hfr,hnew⟩:=hpost hs6
   refine⟨_,⟨hfr,?_⟩,a',c',rfl,?_⟩
   ·rintro q (rfl|hq)
    ·exact⟨zv hg6.hb, .inl (.inl rfl)⟩
    ·exact⟨hg6.row.lt hq,(hnew q hq).elim (fun h=> .inl (.inr h)) .inr⟩
   ·rw[zpk (zwj hkl)];exact hg6
  ·rintro D W ⟨a,c,rfl,hg⟩ hM
   rw[zjP,zmV,List.take_of_length_le (by rw[zhs];exact Nat.le_refl _)]at hg
   refine⟨a,_,c,ZD hg.hb,fun w3 ht=>⟨(a,(Qw s).length,c),by rw[List.length_map],rfl,?_⟩⟩
   have eW:Ext w W:=hM.ext e02 (fun q hq=>by rcases hq with rfl|h;omega;cases h)
   have hrow:=hg.row
   rw[List.length_map]at hrow
   refine⟨hrow.turn ht,fun q hq=> ?_,Ext.turn eW ht⟩
   have:=(hM.dom q (.inr hq)).2
   have hs2:=e02.size
   rcases this with(h|h)|h
   ·omega
   ·cases h
   ·omega
theorem ziI:(sSN Zc).Ok Tryz.prog 44:=by
  refine zqs ⟨zwi,trivial⟩ ?_
  rintro(s:ByteArray) w ⟨hU,hsm⟩
  refine⟨s,rfl,⟨hU,hsm⟩,?_⟩
  rintro⟨a,n,c⟩ w1 ⟨hn,hm⟩
  dsimp only at hn hm⊢
  exact⟨Zc s,by rw[hn,zhs],rfl,hm.ext⟩
end

section
open Go Vc Ut Tb Cl Orb
theorem zy3(x:Nat):∀j,(qT x j).length=j
  |0=>rfl
  |j+1=>by simp only[qT,List.length_cons,zy3 x j]
theorem zxG(l:List UInt8):(qA l).size=l.length:=by simp[qA,ByteArray.size]
theorem zpX(x:Nat):(ZM x).size<=8:=by
  unfold ZM
  rw[ByteArray.size_append,ByteArray.size_append,zxG,zxG,zxG,zy3]
  have hj:QJ x<=6:=by unfold QJ Qx;split<;>(try split)<;>(try split)<;>(try split)<;>(try split)<;>omega
  show 1+QJ x+1<=8
  omega
theorem zf0(r:Int)(b:Bool):(zY r b).toNat<=2:=by
  have h0:=zeV r
  unfold zY
  split
  ·omega
  ·split<;>decide
theorem znD(n:Nat):(Qf n).size=n:=by simp[Qf,ByteArray.size]
theorem ztI(k:ByteArray):(zcv k).size<=k.size:=by
  unfold zcv
  split
  ·have:=Zs k 31;rw[zS this];omega
  ·exact Nat.le_refl _
theorem zy1(k:ByteArray)(col:Int)(l:Lk):(zU k col l).2<=16/\(zU k col l).1.size<=k.size+16:=by
  have h1:=zgc l.tab
  have h2:=zdD col l.tab
  have h3:=zpX (sg k 0).toNat
  have h4:=zf0 (sg k 0) l.wide
  have h5:=ztI k
  have h6:(ByteArray.mk #[]).size=0:=rfl
  have h7:(zqE (bt k 0)).size=4:=rfl
  have h8:(zeP (sg k 0)).size=2:=rfl
  have h9:=znD (qw col l.tab)
  unfold zU
  split
  ·dsimp only;omega
  ·split
   ·dsimp only;omega
   ·split
    ·dsimp only;omega
    ·split
     ·dsimp only;omega
     ·split
      ·split
       ·dsimp only;omega
       ·dsimp only;omega
      ·split
       ·dsimp only;rw[ByteArray.size_append]
        have:(ByteArray.mk #[226,151,140]).size=3:=rfl
        omega
       ·split
        ·dsimp only;omega
        ·split
         ·dsimp only;omega
         ·dsimp only;omega
theorem zmH{k:ByteArray}(h2:bp k 1=k.size):(pcP k 0).2=k:=by
  unfold pcP
  rw[show(0:Nat)+1=1 from rfl,h2,zww];exact ByteArray.extract_zero_size
theorem zpr{k:ByteArray}(h2:bp k 1=k.size)(h3:0<k.size)(col:Int)(l:Lk):Zi k col l=zU k col l:=by
  unfold Zi
  rw[if_neg (by omega),zmH h2]
end

section
open Go Vc Ut Tb Cl Orb
theorem zls{s:ByteArray}{k j:Nat}(hk:k<=cnt s):∀f n,j+n<=k->k<=j+goN s j f n->k<=j+n+f->goN (s.extract 0 (pos s k)) j f n=k - j
  |0,n,h1,h2,h3=>by simp only[goN];omega
  |f+1,n,h1,h2,h3=>by
   simp only[goN]at h2⊢
   by_cases hn:j+n<k
   ·rw[zlx hk hn]
    by_cases hg:qR s j n=true
    ·rw[if_pos hg]at h2
     rw[if_pos hg]
     exact zls hk f (n+1) (by omega) h2 (by omega)
    ·rw[if_neg hg]at h2;omega
   ·have he:qR (s.extract 0 (pos s k)) j n=false:=by
      unfold qR
      rw[Zk hk,decide_eq_false (by omega)];rfl
    rw[if_neg (by rw[he];decide)]
    omega
theorem zvH{k:ByteArray}(h0:0<cnt k)(h:zy k 0=cnt k):Zc k=1:=by
  have hk:bk k 1=cnt k:=by
    have h1:=zfV (s:=k) (i:=0) (zda.2 (by show 0<cnt k;exact h0))
    rw[show bk k 0=0 from rfl]at h1
    simp only[Nat.zero_add]at h1
    omega
  have h1:¬1<Zc k:=fun h=>by have:=zda.1 h;omega
  have h2:0<Zc k:=zda.2 (by show 0<cnt k;exact h0)
  omega
theorem zs5{k:ByteArray}(h:Zc k=1)(hcr:crB k 0=false){j:Nat}(h1:1<=j)(hj:j<=cnt k):Zc (k.extract 0 (pos k j))=1:=by
  obtain⟨h0,hf,_⟩:=qN h
  have hc:=Zk hj
  refine zvH (by omega) ?_
  rw[hc]
  unfold zy at hf⊢
  have hb:zz (k.extract 0 (pos k j)) 0=zz k 0:=zcy (by omega) hj
  have hs:sg (k.extract 0 (pos k j)) 0=sg k 0:=Qi (by omega) hj
  have hcr2:crB (k.extract 0 (pos k j)) 0=false:=by
    unfold crB at hcr⊢
    rw[hs,hc]
    by_cases h2:1<j
    ·rw[Qi h2 hj,decide_eq_true (show 0+1<j by omega)]
     rw[decide_eq_true (show 0+1<cnt k by omega)]at hcr
     exact hcr
    ·rw[decide_eq_false (show ¬0+1<j by omega)]
     simp
  rw[hb,hs,hcr2]
  rw[hcr]at hf
  by_cases hbad:zz k 0=true
  ·rw[if_pos hbad]at hf⊢;omega
  ·rw[if_neg hbad]at hf⊢
   rw[if_neg (by decide)]at hf⊢
   by_cases ha:qe (sg k 0)=true
   ·rw[if_pos ha]at hf⊢;omega
   ·rw[if_neg ha]at hf⊢
    have:=zls (j:=0) hj 32 1 (by omega) (by omega) (by have:=one_le h;omega)
    omega
structure PlainK(k:ByteArray)(wd:Bool):Prop where
  val:zC k=true
  one:Zc k=1
  bad:zz k 0=false
  n9:¬sg k 0=9
  nl:¬(sg k 0=10\/qf k=10)
  ctl:¬(sg k 0<32\/sg k 0=127)
  fmt:Z2 (sg k 0)=false
  mark:¬(zn (sg k 0)=2\/qj (sg k 0)=true)
  wid:¬zY (sg k 0) wd=0\/(qh (sg k 0)=true/\qh (qf k)=true)
def zf4(k:ByteArray)(wd:Bool):Prop:=(qh (sg k 0)=true/\qh (qf k)=true)\/(zn (sg k 0)=7/\zY (sg k 0) wd=1/\qf k=65039)
instance (k:ByteArray) (wd:Bool):Decidable (zf4 k wd):=by unfold zf4;exact inferInstance
theorem zh1{k:ByteArray}(h:zC k=true)(h0:0<cnt k):zz k 0=false:=by
  unfold zC at h
  rw[List.all_eq_true]at h
  have:=h 0 (List.mem_range.2 h0)
  simpa using this
theorem zg2{k:ByteArray}(h:Zc k=1)(c:Int)(l:Lk):Zi k c l=zU k c l:=zpr (qN h).2.2 (zjI h) c l
theorem zgY{k:ByteArray}{wd:Bool}(h:PlainK k wd):zU k 0 (lkW wd)=(k,if zf4 k wd then 2 else(zY (sg k 0) wd).toNat):=by
  by_cases h2:zf4 k wd
  ·rw[if_pos h2]
   exact zdR h.bad h.n9 h.nl h.ctl h.fmt h.mark h2
  ·rw[if_neg h2]
   rw[zdQ (l:=lkW wd) h.bad h.n9 h.nl h.ctl h.fmt h.mark h2,if_neg]
   ·rfl
   ·rcases h.wid with hw|hw
    ·exact hw
    ·exact absurd (.inl hw) h2
end

section
namespace Ut
open Go Vc
theorem zdw{s u:ByteArray}{i:Nat}(h:i<s.size):bt (s++u) i=bt s i:=by
  have hl:=qH s
  unfold bt
  rw[ByteArray.toList_data_append,List.getD_eq_getElem?_getD,List.getD_eq_getElem?_getD,List.getElem?_append_left (by omega)]
theorem zol{s u:ByteArray}{n:Nat}(h0:0<s.size)(h:n<s.size):okB (s++u) n ↔ okB s n:=by
  have e1:loB (s++u) n=loB s n:=by unfold loB;rw[zdw h0]
  have e2:hiB (s++u) n=hiB s n:=by unfold hiB;rw[zdw h0]
  have hs:(s++u).size=s.size+u.size:=ByteArray.size_append
  unfold okB
  rw[e1,e2,zdw h]
  constructor
  ·exact fun hh=>⟨h,hh.2⟩
  ·exact fun hh=>⟨by omega,hh.2⟩
theorem zkK{s u:ByteArray}(h0:0<s.size):∀(f n:Nat),n<=s.size->(Zf s f n≠s.size\/Zf s f n=n+f)->Zf (s++u) f n=Zf s f n
  |0,n,_,_=>rfl
  |f+1,n,hn,h=>by
   unfold Zf at h⊢
   by_cases k:okB s n
   ·rw[if_pos k]at h⊢
    rw[if_pos ((zol h0 k.1).2 k)]
    exact zkK h0 f (n+1) k.1 (h.imp id (fun h=>by omega))
   ·rw[if_neg k]at h⊢
    have hlt:n<s.size:=by omega
    rw[if_neg (fun hh=>k ((zol h0 hlt).1 hh))]
theorem zlb{s u:ByteArray}(k:Nat):∀(n:Nat),n<s.size->zaq (s++u) k n=zaq s k n
  |0,h=>by unfold zaq;rw[zdw h]
  |n+1,h=>by simp only[zaq];rw[zlb k n (by omega),zdw h]
theorem zsz{s u:ByteArray}(h:zW s=true):zbl (s++u)=zbl s:=by
  unfold zW at h
  simp only[decide_eq_true_eq]at h
  obtain⟨h0,h1⟩:=h
  have hp:0<s.size:=by omega
  have hs:(s++u).size=s.size+u.size:=ByteArray.size_append
  have hle:=zfW s
  have hS:Zu (s++u)=Zu s:=by unfold Zu;rw[if_neg (by omega),if_neg h0,zdw hp]
  have hN:Zy (s++u)=Zy s:=by
    unfold Zy at h1⊢
    unfold Zu at h1
    rw[if_neg h0]at h1⊢
    rw[if_neg (by omega),zdw hp]
    rw[if_neg h0]at h1
    by_cases h2:bt s 0<128
    ·rw[if_pos h2,if_pos h2]
    ·rw[if_neg h2]at h1⊢
     rw[if_neg h2]at h1⊢
     by_cases h3:(zT (bt s 0)).2.2=0
     ·rw[if_pos h3,if_pos h3]
     ·rw[if_neg h3]at h1⊢
      rw[if_neg h3]
      exact zkK hp _ 1 (by omega) (h1.imp id (fun h=>by omega))
  unfold zbl
  rw[if_neg (by omega),if_neg h0,hS,hN]
  by_cases h4:Zy s=0\/Zy s<Zu s
  ·rw[if_pos h4,if_pos h4]
  ·rw[if_neg h4,if_neg h4]
   have:zdn (s++u) (Zu s)=zdn s (Zu s):=zlb _ _ (by omega)
   rw[this]
theorem zxX{s u:ByteArray}(h:zW s=true):QM (s++u)=QM s/\nxR (s++u)=nxR s:=by
  have h1:=zcj (s++u)
  have h2:=zcj s
  rw[zsz h]at h1
  exact⟨h1.2.symm.trans h2.2,h1.1.symm.trans h2.1⟩
theorem zgN{s:ByteArray}(h:s.size≠0):zo s=nxR s::zo (s.extract (QM s) s.size):=by
  have hc:0<cnt s:=qK.2 (by simp only[pos];omega)
  have hp:pos s 1=QM s:=by
    rw[qn (n:=0) (by simp only[pos];omega)]
    unfold QM;rw[if_neg h];simp[pos]
  have h1:=zbp (s:=s) (k:=1) (by omega)
  rw[<-hp]
  refine zh5 (by rw[List.length_cons,zN,zN];omega) fun i hi=> ?_
  rw[zN]at hi
  rw[Zj hi]
  cases i with
  |zero=>rw[List.getD_cons_zero];unfold nxR;rw[if_neg h];simp[pos]
  |succ i=>
   rw[List.getD_cons_succ,Zj (by omega)]
   unfold dcR;rw[zd5,Nat.add_comm 1 i]
theorem zkL{s:ByteArray}:∀(f n i:Nat),n<=i->i<Zf s f n->okB s i
  |0,n,i,h1,h2=>by simp only[Zf]at h2;omega
  |f+1,n,i,h1,h2=>by
   unfold Zf at h2
   split at h2
   ·rename_i k
    by_cases e:i=n
    ·subst e;exact k
    ·exact zkL f (n+1) i (by omega) h2
   ·omega
theorem zgM:∀(n:Nat) (s:ByteArray),s.size=n->(∀i,i<s.size->128<=bt s i/\bt s i<192)->zo s=List.replicate n 65533
  |0,s,h,_=>List.eq_nil_of_length_eq_zero (by rw[zN];have:=Z3 s;omega)
  |n+1,s,h,hb=>by
   have h0:s.size≠0:=by omega
   have hb0:=hb 0 (by omega)
   have hsec:(zT (bt s 0)).2.2=0:=by
     unfold zT
     rw[if_neg (by omega),if_neg (by omega),if_neg (by omega),if_neg (by omega),if_neg (by omega),if_neg (by omega),if_neg (by omega)]
   have hN:Zy s=0:=by unfold Zy;rw[if_neg h0,if_neg (by omega),if_pos hsec]
   have hx:zbl s=(65533,1):=by unfold zbl;rw[if_neg h0,if_pos (.inl hN)]
   have h1:=zcj s
   rw[hx]at h1
   have hz:(s.extract 1 s.size).size=s.size - 1:=zS (Nat.le_refl _)
   rw[zgN h0,<-h1.1,<-h1.2,zgM n (s.extract 1 s.size) (by omega) (fun i hi=>by rw[zeQ (by omega)];exact hb (1+i) (by omega)),List.replicate_succ]
   rfl
theorem zgL{s:ByteArray}(h:zW s=false):s.size<=3/\zo s=List.replicate s.size 65533:=by
  by_cases h0:s.size=0
  ·exact⟨by omega,List.eq_nil_of_length_eq_zero (by rw[zN,zd6.2 h0])|>.trans (by rw[h0];rfl)⟩
  unfold zW at h
  simp only[decide_eq_false_iff_not,not_and,not_or]at h
  obtain⟨h1,h2⟩:=h h0
  have h1:Zy s=s.size:=by omega
  have hle:=zfW s
  have hb:¬bt s 0<128:=fun hh=>h2 (by unfold Zy Zu;rw[if_neg h0,if_neg h0,if_pos hh,if_pos hh])
  have hS:Zu s=(zT (bt s 0)).2.2:=by unfold Zu;rw[if_neg h0,if_neg hb]
  have h3:¬(zT (bt s 0)).2.2=0:=fun hh=>by omega
  have hN:Zy s=Zf s ((zT (bt s 0)).2.2 - 1) 1:=by unfold Zy;rw[if_neg h0,if_neg hb,if_neg h3]
  have hx:zbl s=(65533,1):=by unfold zbl;rw[if_neg h0,if_pos (.inr (by omega))]
  have h4:=zcj s
  rw[hx]at h4
  have hz:(s.extract 1 s.size).size=s.size - 1:=zS (Nat.le_refl _)
  have hsec:128<=(zT (bt s 0)).1/\(zT (bt s 0)).2.1<=191:=by
    revert h3
    unfold zT
    repeat' split
    all_goals simp
  refine⟨by omega,?_⟩
  rw[zgN h0,<-h4.1,<-h4.2,zgM (s.size - 1) (s.extract 1 s.size) (by omega) (fun i hi=> ?_)]
  ·obtain⟨n,hn⟩:∃n,s.size=n+1:=⟨s.size - 1,by omega⟩
   rw[hn,List.replicate_succ];rfl
  ·rw[zeQ (by omega)]
   have hk:=zkL (s:=s) _ 1 (1+i) (by omega) (by rw[<-hN];omega)
   obtain⟨_,k1,k2⟩:=hk
   unfold loB at k1;unfold hiB at k2
   split at k1<;>simp_all<;>omega
end Ut
end

section
open Go Vc Ut Tb Cl Orb
theorem zr5:∀n:Fin 26,∀wd:Bool,¬zY (127462+(n.val:Int)) wd=0:=by decide+kernel
theorem zpI{x:Int}(h:qh x=true)(wd:Bool):¬zY x wd=0:=by
  unfold qh at h
  rw[Bool.and_eq_true]at h
  have h1:=of_decide_eq_true h.1
  have h2:=of_decide_eq_true h.2
  have:=zr5 ⟨(x - 127462).toNat,by omega⟩ wd
  dsimp only at this
  rwa [show(127462:Int)+((x - 127462).toNat:Int)=x from by omega]at this
theorem PlainK.w0{k:ByteArray}{wd:Bool}(h:PlainK k wd):¬zY (sg k 0) wd=0:=h.wid.elim id fun h=>zpI h.1 wd
def ZH(k:ByteArray)(wd:Bool):Nat:=if zf4 k wd then 2 else(zY (sg k 0) wd).toNat
theorem PlainK.bd{k:ByteArray}{wd:Bool}(h:PlainK k wd):1<=ZH k wd/\ZH k wd<=2:=by
  have h0:=h.w0
  have h1:=zf1 (sg k 0) wd
  have h2:=zf0 (sg k 0) wd
  unfold ZH
  split<;>omega
theorem PlainK.plN{k:ByteArray}{wd:Bool}(h:PlainK k wd):plN k wd=ZH k wd:=by
  have ho:=zgY h
  have hb:=h.bd
  have ht:=zg2 h.one 0 (lkW wd)
  have h1:(Zi k 0 (lkW wd)).1=k:=by rw[ht,ho]
  have h2:(Zi k 0 (lkW wd)).2=ZH k wd:=by rw[ht,ho];rfl
  unfold Go.Proofs.YtjdohhididpomaaGreatDoor.plN
  rw[if_pos ⟨h.val,h.one,h1,by rw[h2];exact hb.2⟩,h2]
theorem zoD{k:ByteArray}{j:Nat}(h1:1<=j)(hj:j<=cnt k):sg (k.extract 0 (pos k j)) 0=sg k 0:=Qi (by omega) hj
theorem zlq{k:ByteArray}{j:Nat}(h1:2<=j)(hj:j<=cnt k):qf (k.extract 0 (pos k j))=qf k:=by
  unfold qf
  rw[Zk hj,if_pos (by omega),if_pos (by omega),Qi (by omega) hj]
theorem zit{k:ByteArray}(hj:1<=cnt k):qf (k.extract 0 (pos k 1))=0:=by
  unfold qf
  rw[Zk hj,if_neg (by omega)]
theorem znb{k:ByteArray}(h:zC k=true){m:Nat}(hm:m<=cnt k):zC (k.extract 0 (pos k m))=true:=by
  unfold zC at h⊢
  rw[List.all_eq_true]at h⊢
  intro n hn
  rw[List.mem_range,Zk hm]at hn
  rw[zcy hn hm]
  exact h n (List.mem_range.2 (by omega))
theorem PlainK.head{k:ByteArray}{wd:Bool}(h:PlainK k wd){j:Nat}(h1:1<=j)(hj:j<=cnt k):PlainK (k.extract 0 (pos k j)) wd:=by
  have hs:=zoD h1 hj
  have hcr:crB k 0=false:=by
    unfold crB
    rw[show(sg k 0==13)=false from by
     have:=h.ctl
     simp only[beq_eq_false_iff_ne]
     omega]
    rfl
  have hv:=znb h.val hj
  refine⟨hv,zs5 h.one hcr h1 hj,?_,by rw[hs];exact h.n9,?_,by rw[hs];exact h.ctl,by rw[hs];exact h.fmt,by rw[hs];exact h.mark, .inl (by rw[hs];exact h.w0)⟩
  ·exact zh1 hv (by rw[Zk hj];omega)
  ·rw[hs]
   rintro(h'|h')
   ·exact h.nl (.inl h')
   ·rcases Nat.lt_or_ge j 2 with h2|h2
    ·have:j=1:=by omega
     subst this
     rw[zit hj]at h'
     exact absurd h' (by decide)
    ·rw[zlq h2 hj]at h'
     exact h.nl (.inr h')
theorem PlainK.head_le{k:ByteArray}{wd:Bool}(h:PlainK k wd){j:Nat}(h1:1<=j)(hj:j<=cnt k):ZH (k.extract 0 (pos k j)) wd<=ZH k wd:=by
  have hs:=zoD h1 hj
  have hle:=zf0 (sg k 0) wd
  unfold ZH
  rw[hs]
  by_cases h2:zf4 (k.extract 0 (pos k j)) wd
  ·rw[if_pos h2]
   have:zf4 k wd:=by
     rcases Nat.lt_or_ge j 2 with h3|h3
     ·have:j=1:=by omega
      subst this
      unfold zf4 at h2
      rw[zit hj]at h2
      rcases h2 with⟨_,h2⟩|⟨_,_,h2⟩
      ·exact absurd h2 (by decide)
      ·exact absurd h2 (by decide)
     ·unfold zf4 at h2⊢
      rw[hs,zlq h3 hj]at h2
      exact h2
   rw[if_pos this]
   exact Nat.le_refl _
  ·rw[if_neg h2]
   split
   ·exact hle
   ·exact Nat.le_refl _
theorem znl{s t:ByteArray}(h:s=⟨#[226,151,140]⟩++t):sg s 0=9676:=by
  have h1:=zxX (s:=⟨#[226,151,140]⟩) (u:=t) (by decide+kernel)
  have h2:nxR ⟨#[226,151,140]⟩=9676:=by decide+kernel
  rw[h2,<-h]at h1
  have hz:s.size≠0:=by
    rw[h,ByteArray.size_append]
    show 3+t.size≠0
    omega
  have:=h1.2
  unfold nxR at this
  rw[if_neg hz]at this
  exact this
theorem zkY{k:ByteArray}{wd:Bool}(h:plN k wd≠0):PlainK k wd:=by
  unfold plN at h
  split at h
  case isFalse=>exact absurd rfl h
  rename_i hc
  obtain⟨hv,h1,hs,h2⟩:=hc
  obtain⟨h0,hf,_⟩:=qN h1
  have hsz:=zjI h1
  have hb:=zh1 hv h0
  rw[zg2 h1]at hs
  have hne:¬(ByteArray.mk #[])=k:=fun e=>by rw[<-e]at hsz;exact absurd hsz (by decide)
  have hlow:sg k 0<128->(bt k 0:Int)=sg k 0:=fun h=>(zhz (s:=k) (i:=0) h).2.symm
  have g9:¬sg k 0=9:=fun h9=>by
    rw[zdS hb h9]at hs
    have hst:=zdD 0 (lkW wd).tab
    have hl:=hlow (by rw[h9];decide)
    rw[h9,<-hs]at hl
    dsimp only at hl
    have:bt (Qf (qw 0 (lkW wd).tab)) 0=32:=by
      obtain⟨m,hm⟩:∃m,qw 0 (lkW wd).tab=m+1:=⟨qw 0 (lkW wd).tab - 1,by omega⟩
      rw[hm];rfl
    omega
  have gnl:¬(sg k 0=10\/qf k=10):=fun h=>by
    rw[zfK hb g9 h]at hs
    exact hne hs
  have gct:¬(sg k 0<32\/sg k 0=127):=fun h=>by
    rw[zch hb g9 gnl h]at hs
    have hl:=hlow (by omega)
    have hk:bt (zeP (sg k 0)) 0=94:=rfl
    have hs':zeP (sg k 0)=k:=hs
    rw[hs']at hk
    omega
  have gf:Z2 (sg k 0)=false:=by
    cases hfm:Z2 (sg k 0)with
    |false=>rfl
    |true=>
     rw[zdT hb g9 gnl gct hfm rfl]at hs
     exact absurd hs hne
  have gm:¬(zn (sg k 0)=2\/qj (sg k 0)=true):=fun h=>by
    rw[zez hb g9 gnl gct gf h]at hs
    have hx:=znl hs.symm
    rw[hx]at h
    exact absurd h (by decide+kernel)
  refine⟨hv,h1,hb,g9,gnl,gct,gf,gm,?_⟩
  by_cases h2k:zf4 k wd
  ·unfold zf4 at h2k
   rcases h2k with h|h
   ·exact .inr h
   ·left;rw[h.2.1];decide
  ·rw[zdQ (l:=lkW wd) hb g9 gnl gct gf gm h2k]at hs
   left
   intro hw
   have hw:zY (sg k 0) (lkW wd).wide=0:=hw
   rw[if_pos hw]at hs
   exact hne hs
end

section
open Go Vc Ut Tb Cl
def Z0(l:List Ce)(w:Nat)(wd:Bool)(i:Nat):Prop:=
  if(zg l i).p=1 then 0<i/\(zg l (i - 1)).p=0/\plN (zM (zg l (i - 1))) wd=2
  else(zg l i).p=0/\(plN (zM (zg l i)) wd=1\/plN (zM (zg l i)) wd=2/\(i+1)%w≠0/\i+1<l.length/\(zg l (i+1)).p=1/\(zg l (i+1)).st=(zg l i).st/\(zg l (i+1)).t.size=0)
def okL(l:List Ce)(w:Nat)(wd:Bool):Prop:=∀i,i<l.length->Z0 l w wd i
structure lastOk(g:Gs):Prop where
  le:g.last<=g.cs.length
  p:(zg g.cs (g.last - 1)).p=0
  at_:g.y*g.w+g.x+1=g.last+plN (zM (zg g.cs (g.last - 1))) g.wd
def zg6(c:Ce):Prop:=c.st<65536/\c.a=0/\c.n=0/\c.r=false
structure okG(g:Gs)(m:Nat):Prop where
  w:g.w<=1024
  h:g.h<=1024
  len:g.cs.length=g.w*g.h
  ok:okL g.cs g.w g.wd
  x:g.x<=g.w
  y:g.y<g.h\/g.y=0
  sty:g.sty<65536
  st:∀c∈g.cs,zg6 c
  num:∀n∈g.num, -1<=n/\n<=9999
  numl:g.num.length<=m+1
  stt:g.stt<=2
  sl:g.stt≠0->g.last=0
  last:g.last≠0->lastOk g
def zk(g:Gs):Gs:=if g.num=[]then {g with num:=[-1]}else g
end

section
open Go Vc Ut Tb Cl Orb
theorem zbW{l:List Ce}{i:Nat}(h:i<l.length):zg l i=l[i]:=by
  unfold zg;rw[List.getD_eq_getElem?_getD,List.getElem?_eq_getElem h];rfl
theorem zd8{l:List Ce}{i:Nat}(h:l.length<=i):zg l i=zw 0:=by
  unfold zg;rw[List.getD_eq_getElem?_getD,List.getElem?_eq_none h];rfl
theorem Zd{l:List Ce}{i j:Nat}{c:Ce}(hi:i<l.length):zg (l.set i c) j=if j=i then c else zg l j:=by
  unfold zg
  rw[List.getD_eq_getElem?_getD,List.getElem?_set]
  by_cases h:i=j
  ·subst h;rw[if_pos rfl,if_pos hi,if_pos rfl];rfl
  ·rw[if_neg h,if_neg (by omega),List.getD_eq_getElem?_getD]
theorem zQ(l:List Ce)(w i:Nat)(c:Ce):(zF l w i c).length=l.length:=by
  unfold zF
  rw[List.length_set]
  split
  ·rw[List.length_set]
  ·split
   ·rw[List.length_set]
   ·rfl
theorem Zm{l:List Ce}{w i:Nat}{c:Ce}(hi:i<l.length)(h0:(zg l i).p=1->0<i)(j:Nat):
    zg (zF l w i c) j=if j=i then c else if(zg l i).p=1 then(if j=i - 1 then zw (zg l (i - 1)).st else zg l j)
     else if(i+1)%w≠0/\(zg l (i+1)).p=1/\j=i+1 then zw (zg l (i+1)).st else zg l j:=by
  unfold zF
  by_cases h1:(zg l i).p=1
  ·have:=h0 h1
   rw[if_pos h1,Zd (by rw[List.length_set];exact hi),if_pos h1]
   by_cases hj:j=i
   ·rw[if_pos hj,if_pos hj]
   ·rw[if_neg hj,if_neg hj,Zd (by omega)]
  ·rw[if_neg h1,if_neg h1]
   by_cases h2:(i+1)%w≠0/\(zg l (i+1)).p=1
   ·have h3:i+1<l.length:=by
      rcases Nat.lt_or_ge (i+1) l.length with h|h
      ·exact h
      ·have:=h2.2
       rw[zd8 h]at this
       exact absurd this (by decide)
    rw[if_pos h2,Zd (by rw[List.length_set];exact hi)]
    by_cases hj:j=i
    ·rw[if_pos hj,if_pos hj]
    ·rw[if_neg hj,if_neg hj,Zd h3]
     by_cases hj2:j=i+1
     ·rw[if_pos hj2,if_pos ⟨h2.1,h2.2,hj2⟩]
     ·rw[if_neg hj2,if_neg (fun h=>hj2 h.2.2)]
   ·rw[if_neg h2,Zd hi]
    by_cases hj:j=i
    ·rw[if_pos hj,if_pos hj]
    ·rw[if_neg hj,if_neg hj,if_neg (fun h=>h2 ⟨h.1,h.2.1⟩)]
end

section
open Go Go.RowKit Vc
theorem Qb(c:Ce):(ceV c).length=6:=rfl
theorem zfO(c:Ce):∀u∈ceV c,u.oneCell'=true:=by
  intro u hu
  simp only[ceV,List.mem_cons,List.not_mem_nil,or_false]at hu
  rcases hu with rfl|rfl|rfl|rfl|rfl|rfl<;>rfl
theorem zjV:zE []=[]:=rfl
theorem Zr(c:Ce)(l:List Ce):zE (c::l)=ceV c++zE l:=rfl
theorem zbR(a b:List Ce):zE (a++b)=zE a++zE b:=by unfold zE;rw[List.flatMap_append]
theorem zR:∀l:List Ce,(zE l).length=l.length*6
  |[]=>rfl
  |c::l=>by rw[Zr,List.length_append,zR l,List.length_cons,Qb];omega
theorem zat(l:List Ce):∀u∈zE l,u.oneCell'=true:=by
  intro u hu
  obtain⟨c,_,h⟩:=List.mem_flatMap.1 hu
  exact zfO c u h
theorem zni:∀(l:List Ce) {i k:Nat},i<l.length->k<6->(zE l)[i*6+k]? =(ceV (zg l i))[k]?
  |[],i,k,h,_=>by simp at h
  |c::l,0,k,h,hk=>by
   rw[Zr,Nat.zero_mul,Nat.zero_add,List.getElem?_append_left (by rw[Qb];exact hk)];rfl
  |c::l,i+1,k,h,hk=>by
   rw[Zr,List.getElem?_append_right (by rw[Qb];omega),Qb,show(i+1)*6+k - 6=i*6+k from by omega,zni l (by simpa using h) hk];rfl
theorem zhp:∀(l:List Ce) (k:Nat),(zE l).take (k*6)=zE (l.take k)
  |[],k=>by simp[zjV]
  |c::l,0=>by simp[zjV]
  |c::l,k+1=>by
   rw[Zr,List.take_succ_cons,Zr,show(k+1)*6=6+k*6 from by omega,List.take_append,Qb,List.take_of_length_le (by rw[Qb];omega),show 6+k*6 - 6=k*6 from by omega,zhp l k]
theorem zd1:∀(l:List Ce) (k:Nat),(zE l).drop (k*6)=zE (l.drop k)
  |[],k=>by simp[zjV]
  |c::l,0=>by simp
  |c::l,k+1=>by
   rw[Zr,List.drop_succ_cons,show(k+1)*6=6+k*6 from by omega,List.drop_append,Qb,List.drop_eq_nil_of_le (by rw[Qb];omega),show 6+k*6 - 6=k*6 from by omega,zd1 l k,List.nil_append]
def CeAt(w:World)(b o:Nat)(c:Ce):Prop:=
  w.cell? ⟨b,o,none⟩=some (.string c.t)/\w.cell? ⟨b,o+1,none⟩=some (.int .i8 c.p)/\w.cell? ⟨b,o+2,none⟩=some (.int .i64 c.a)/\w.cell? ⟨b,o+3,none⟩=some (.int .i64 c.n)/\w.cell? ⟨b,o+4,none⟩=some (.bool c.r)/\w.cell? ⟨b,o+5,none⟩=some (.int .u16 c.st)
theorem CeAt.ext{w w':World}{b o:Nat}{c:Ce}(h:CeAt w b o c)(hx:Ext w w'):CeAt w' b o c:=
  ⟨hx.cell h.1,hx.cell h.2.1,hx.cell h.2.2.1,hx.cell h.2.2.2.1,hx.cell h.2.2.2.2.1,hx.cell h.2.2.2.2.2⟩
theorem Vc.CellsAt.ce{w:World}{ad:Option Addr}{cs:List Ce}{i:Nat}{K:Nat->Nat->Prop}(h:CellsAt w ad (zE cs))(hi:i<cs.length)(hk:∀b o,CeAt w b (o+i*6) (zg cs i)->K b o):zr ad K:=by
  have at':∀{b o k:Nat} {v:Value},(∀(j:Nat) v,(zE cs)[j]? =some v->w.cell? ⟨b,o+j,none⟩=some v)->k<6->(ceV (zg cs i))[k]? =some v->w.cell? ⟨b,o+i*6+k,none⟩=some v:=by
    intro b o k v hh hk hv
    rw[show o+i*6+k=o+(i*6+k)from by omega]
    exact hh _ _ ((zni cs hi hk).trans hv)
  rcases h with h|⟨b,o,rfl,hh⟩
  ·have:=zR cs
   rw[h]at this;simp at this;omega
  ·exact hk b o ⟨at' hh (k:=0) (by decide) rfl,at' hh (k:=1) (by decide) rfl,at' hh (k:=2) (by decide) rfl,at' hh (k:=3) (by decide) rfl,at' hh (k:=4) (by decide) rfl,at' hh (k:=5) (by decide) rfl⟩
theorem CeAt.load{w:World}{b o:Nat}{c:Ce}(h:CeAt w b o c){K:ByteArray->Int->Int->Int->Bool->Int->Prop}(hk:K c.t c.p c.a c.n c.r c.st):
    ∃s,w.cell? ⟨b,o,none⟩=some (.string s)/\∃n,w.cell? ⟨b,o+1,none⟩=some (.int .i8 n)/\∃n1,w.cell? ⟨b,o+2,none⟩=some (.int .i64 n1)/\∃n2,w.cell? ⟨b,o+3,none⟩=some (.int .i64 n2)/\∃r,w.cell? ⟨b,o+4,none⟩=some (.bool r)/\∃n3,w.cell? ⟨b,o+5,none⟩=some (.int .u16 n3)/\K s n n1 n2 r n3:=
  ⟨_,h.1,_,h.2.1,_,h.2.2.1,_,h.2.2.2.1,_,h.2.2.2.2.1,_,h.2.2.2.2.2,hk⟩
theorem Z5{w:World}{b:Nat}{c:Ce}{t:TypeId}(h:w.heap[b]? =some (.cells #[.string c.t, .int .i8 c.p, .int .i64 c.a, .int .i64 c.n, .bool c.r, .int .u16 c.st] t)):CeAt w b 0 c:=by
  refine⟨?_,?_,?_,?_,?_,?_⟩<;>(rw[za h];rfl)
theorem Vc.Row.put{w w1:World}{e:TypeId}{s g n c j:Nat}{vs:List Value}{v:Value}(h:Row w e s (some ⟨g,0,none⟩) n vs c)(hs:Stored w ⟨g,j,none⟩ v w1):Row w1 e s (some ⟨g,0,none⟩) n (vs.set j v) c:=by
  refine⟨by rw[List.length_set];exact h.1,?_⟩
  rcases h.2 with⟨h1,_⟩|⟨g',cur,he,h1,h2,h3,h4,h5⟩
  ·cases h1
  ·cases he
   refine .inr ⟨g,_,rfl,hs.heap h1,h2,h3,by simpa using h4,?_⟩
   rw[Array.toList_setIfInBounds,List.take_set,h5]
theorem Vc.Row.can{w:World}{e:TypeId}{s g n c j:Nat}{vs:List Value}(h:Row w e s (some ⟨g,0,none⟩) n vs c)(hj:j<n*s):
    (∃old,w.cell? ⟨g,j,none⟩=some old)/\w.frozen? ⟨g,j,none⟩=false:=by
  rcases h.2 with⟨h1,_⟩|⟨g',cur,he,h1,h2,h3,h4,h5⟩
  ·cases h1
  ·cases he
   have h6:n*s<=c*s:=Nat.mul_le_mul_right _ h2
   refine⟨?_,zB h1 _⟩
   rw[za h1]
   exact⟨_,Array.getElem?_eq_getElem (by omega)⟩
def zdF:List Value->Nat->List Value->List Value
  |vs,_,[]=>vs
  |vs,k,u::us=>zdF (vs.set k u) (k+1) us
theorem zku(l:List Value):∀(us r:List Value) (k:Nat),zdF (l++r) (l.length+k) us=l++zdF r k us
  |[],r,k=>rfl
  |u::us,r,k=>by
   simp only[zdF]
   rw[List.set_append_right _ _ (by omega),Nat.add_sub_cancel_left,Nat.add_assoc,zku l us]
theorem zoI:∀(cs:List Ce) (i:Nat) (c:Ce),i<cs.length->zdF (zE cs) (i*6) (ceV c)=zE (cs.set i c)
  |[],i,c,h=>by simp at h
  |a::cs,0,c,h=>by
   rw[Zr,List.set_cons_zero,Zr]
   rfl
  |a::cs,i+1,c,h=>by
   rw[Zr,List.set_cons_succ,Zr,show(i+1)*6=(ceV a).length+i*6 from by rw[Qb];omega,zku,zoI cs i c (by simpa using h)]
theorem zxT{v:Value}(h:v.oneCell'=true):zvq v=true:=by cases v<;>simp_all[zvq,Value.oneCell']
theorem zbB{e:TypeId}{s g n c off:Nat}:∀(us:List Value) (i:Nat) {vs:List Value} {w:World} {K:World->Prop},Row w e s (some ⟨g,0,none⟩) n vs c->(∀u∈us,u.oneCell'=true)->off+i+us.length<=n*s->
    (∀w',Row w' e s (some ⟨g,0,none⟩) n (zdF vs (off+i) us) c->Fr (fun b=>b=g) w w'->K w')->zaU g off i us w K
  |[],i,vs,w,K,h,_,_,hk=>hk w h (Fr.refl _ _)
  |u::us,i,vs,w,K,h,h1,hl,hk=>by
   simp only[List.length_cons]at hl
   have hj:=h.can (j:=off+i) (by omega)
   refine⟨zxT (h1 u (by simp)),by rw[zed];exact hj.1,by rw[zed];exact hj.2,fun w1 hs=> ?_⟩
   rw[zed]at hs
   refine zbB us (i+1) (h.put hs) (fun x hx=>h1 x (by simp[hx])) (by omega) fun w' hr hf=>hk w' hr ((Fr.stored hs).trans hf (fun _ _ hx=>hx))
theorem Vc.Row.setCe{w:World}{e:TypeId}{g n c i:Nat}{cs:List Ce}{K:World->Prop}(h:Row w e 6 (some ⟨g,0,none⟩) n (zE cs) c)(hi:i<cs.length)(x:Ce)
    (hk:∀w',Row w' e 6 (some ⟨g,0,none⟩) n (zE (cs.set i x)) c->Fr (fun b=>b=g) w w'->K w'):zaU g (0+i*6) 0 (ceV x) w K:=by
  have hn:=h.1
  rw[zR]at hn
  refine zbB (ceV x) 0 h (zfO x) (by rw[Qb];omega) fun w' hr hf=>hk w' ?_ hf
  rw[Nat.zero_add,Nat.add_zero,zoI cs i x hi]at hr
  exact hr
theorem zhq:∀(cs:List Ce) (i k:Nat) (x:Ce) (v:Value),i<cs.length->k<6->(ceV (zg cs i)).set k v=ceV x->(zE cs).set (i*6+k) v=zE (cs.set i x)
  |[],i,k,x,v,h,_,_=>by simp at h
  |a::cs,0,k,x,v,h,hk,he=>by
   rw[Zr,List.set_cons_zero,Zr,Nat.zero_mul,Nat.zero_add,List.set_append_left _ _ (by rw[Qb];exact hk)]
   exact congrArg (· ++zE cs) he
  |a::cs,i+1,k,x,v,h,hk,he=>by
   rw[Zr,List.set_cons_succ,Zr,show(i+1)*6+k=(ceV a).length+(i*6+k)from by rw[Qb];omega,List.set_append_right _ _ (by omega),Nat.add_sub_cancel_left,zhq cs i k x v (by simpa using h) hk he]
theorem zfu:∀(us vs:List Value) (k:Nat),k+us.length<=vs.length->zdF vs k us=vs.take k++us++vs.drop (k+us.length)
  |[],vs,k,h=>by simp[zdF]
  |u::us,vs,k,h=>by
   simp only[List.length_cons]at h⊢
   have hk:k<vs.length:=by omega
   simp only[zdF]
   rw[zfu us _ (k+1) (by rw[List.length_set];omega),List.take_set,List.drop_set_of_lt (by omega)]
   rw[List.take_succ_eq_append_getElem hk,List.set_append_right _ _ (by rw[List.length_take];exact Nat.min_le_left _ _),List.length_take,Nat.min_eq_left (by omega),Nat.sub_self]
   simp only[List.set_cons_zero,List.append_assoc,List.cons_append,List.nil_append]
   rw[show k+1+us.length=k+(us.length+1)from by omega]
theorem zcd{P:Program}{e:TypeId}{s g n c off:Nat}(us:List Value){vs:List Value}{w:World}(h:Row w e s (some ⟨g,0,none⟩) n vs c)(h1:∀u∈us,u.oneCell'=true)(hl:off+us.length<=n*s):
    ∃w',(storeCells ⟨g,off,none⟩ us).run P w= .ok () w'/\Row w' e s (some ⟨g,0,none⟩) n (zdF vs off us) c/\Fr (fun b=>b=g) w w'/\KO w w':=by
  obtain⟨w',h2,⟨h3,h4⟩,h5⟩:=zdj (P:=P) us 0 w (fun w'=>Row w' e s (some ⟨g,0,none⟩) n (zdF vs off us) c/\Fr (fun b=>b=g) w w') (zbB us 0 h h1 (by omega) fun w' hr hf=>⟨hr,hf⟩)
  exact⟨w',h2,h3,h4,h5⟩
theorem zgg{w:World}{b:Nat}{t:TypeId}{cur:Array Value}(h:w.heap[b]? =some (.cells cur t))(us:List Value)(hl:us.length=cur.size)(hm:us.length<=maxLen)(h1:∀u∈us,u.oneCell'=true){K:World->Prop}
    (hk:∀w',w'.heap[b]? =some (.cells us.toArray t)->Fr (fun q=>q=b) w w'->K w'):zaU b 0 0 us w K:=by
  have hR:Row w t 1 (some ⟨b,0,none⟩) us.length cur.toList us.length:=⟨by rw[Array.length_toList];omega, .inr ⟨b,cur,rfl,h,Nat.le_refl _,hm,by omega,List.take_of_length_le (by rw[Array.length_toList];omega)⟩⟩
  refine zbB us 0 hR h1 (by omega) fun w' hr hf=>hk w' ?_ hf
  have hcl:cur.toList.length=us.length:=by rw[Array.length_toList,hl]
  have hse:zdF cur.toList (0+0) us=us:=by
    rw[zfu us cur.toList (0+0) (by rw[hcl];omega),show(0+0:Nat)=0 from rfl,Nat.zero_add,List.take_zero,List.nil_append,List.drop_eq_nil_of_le (by rw[hcl];exact Nat.le_refl _),List.append_nil]
  rw[hse]at hr
  rcases hr.2 with⟨h2,_⟩|⟨g,c2,h2,h3,h4,h5,h6,h7⟩
  ·cases h2
  ·cases h2
   rw[h3]
   have:c2=us.toArray:=by
     apply Array.toList_inj.1
     rw[<-h7,List.take_of_length_le (by rw[Array.length_toList];omega)]
   rw[this]
theorem ztJ{P:Program}{w:World}{dT sT ty e:TypeId}{i:TypeInfo}{s g n c m cx dn:Nat}{sa:Option Addr}{vs us:List Value}(hu:P.underlying dT=some (.slice e))(hi:P.info? e=some i)(hs:i.size=s)(h:Row w e s (some ⟨g,0,none⟩) n vs c)
    (hsa:CellsAt w sa us) (hl:us.length=m*s) (hm:m<=n) (h1:∀u∈us,u.oneCell'=true):
    ∃w',zcU P #[dT,sT] ty (.slice (some ⟨g,0,none⟩) n dn) (.slice sa m cx) w m w'/\KO w w'/\Row w' e s (some ⟨g,0,none⟩) n (zdF vs 0 us) c/\Fr (fun b=>b=g) w w':=by
  obtain⟨w',h2,h3,h4,h5⟩:=zcd (P:=P) (off:=0) us h h1 (by rw[hl,Nat.zero_add];exact Nat.mul_le_mul_right _ hm)
  refine⟨w',?_,h5,h3,h4⟩
  have hmin:Nat.min m n=m:=Nat.min_eq_left hm
  have hfc:(Builtin.firstCells s m (.slice sa m cx)).run P w= .ok us.toArray w:=by
    rcases hsa with hn|⟨b,o,rfl,hc⟩
    ·subst hn
     have h0:m*s=0:=by simpa using hl.symm
     cases sa with
     |none=>rfl
     |some a=>simp[Builtin.firstCells,h0,loadCells,loadCellsFrom]
    ·have:=run_loadCells_list (P:=P) w ⟨b,o,none⟩ us (fun j v hj=>by rw[add_lit];exact hc j v hj)
     rw[hl]at this
     simp[Builtin.firstCells,this]
  unfold zcU
  simp only[Builtin.copy_,run_underlying hu,Builtin.lenOf,sizeOf,typeInfo,hi,hs,Sem.run_bind,Sem.run_pure,Result.andThen,run_program,List.getElem?_toArray,List.getElem?_cons_zero,List.getElem?_cons_succ,hmin,hfc,List.toList_toArray,h2,goInt]
theorem zyr(i:Nat)(h:i<6):(ceV (zw 0)).toArray[i]! =(ceV (zw 0)).getD i .nilFunc:=by
  rcases(by omega:i=0\/i=1\/i=2\/i=3\/i=4\/i=5)with rfl|rfl|rfl|rfl|rfl|rfl<;>rfl
theorem zib(n:Nat):((Array.range (n*6)).map fun i=>(ceV (zw 0)).toArray[i%6]!).toList=zE (List.replicate n (zw 0)):=by
  apply List.ext_getElem?
  intro i
  rw[Array.getElem?_toList,Array.getElem?_map]
  by_cases h:i<n*6
  ·have h6:i%6<6:=Nat.mod_lt _ (by decide)
   have hd:i / 6<n:=by omega
   rw[Array.getElem?_range,if_pos h,show i=i / 6*6+i%6 from by omega,zni _ (by simpa using hd) h6]
   have hc:zg (List.replicate n (zw 0)) (i / 6)=zw 0:=by
     unfold zg;rw[List.getD_eq_getElem?_getD,List.getElem?_replicate,if_pos hd];rfl
   rw[hc,show i / 6*6+i%6=i from by omega]
   simp only[Option.map_some]
   rw[zyr _ h6,List.getD_eq_getElem?_getD,List.getElem?_eq_getElem (by rw[Qb];exact h6)]
   rfl
  ·rw[Array.getElem?_range,if_neg h]
   rw[List.getElem?_eq_none (by rw[zR];simp;omega)]
   rfl
theorem zcX(n:Nat):(Builtin.zeroCells (ceV (zw 0)).toArray n).toList=zE (List.replicate n (zw 0)):=zib n
theorem ZP(n:Nat):(Qu (ceV (zw 0)).toArray n).toList=zE (List.replicate n (zw 0)):=zib n
theorem ziF{P:Program}{w:World}{t ty e:TypeId}{z:Value}{g n c k m cx:Nat}{cs:List Ce}(ht:P.underlying t=some (.slice e))(hz:zal P e=some z)(hzc:z.cells=(ceV (zw 0)).toArray)
    (h:Row w e 6 (some ⟨g,0,none⟩) n (zE cs) c) (hk:k+m=n):
    ∃w',zee P #[t] ty (.slice (some ⟨g,k*6,none⟩) m cx) w w'/\KO w w'/\Row w' e 6 (some ⟨g,0,none⟩) n (zE (cs.take k++List.replicate m (zw 0))) c/\Fr (fun b=>b=g) w w':=by
  have hn:=h.1
  rw[zR]at hn
  have hlen:cs.length=n:=by omega
  by_cases hm:m=0
  ·subst hm
   refine⟨w,?_,KOE.refl _ _,?_,Fr.refl _ _⟩
   ·unfold zee
    simp[Builtin.clear_,run_underlying ht]
   ·rw[List.take_of_length_le (by omega)];simpa using h
  ·obtain⟨w',h2,h3,h4,h5⟩:=zcd (P:=P) (off:=k*6) (zE (List.replicate m (zw 0))) h (zat _) (by rw[zR,List.length_replicate];omega)
   refine⟨w',?_,h5,?_,h4⟩
   ·unfold zee
    obtain⟨m',rfl⟩:∃m',m=m'+1:=⟨m - 1,by omega⟩
    have hzr:=zbm hz
    have hzl:=zcX (m'+1)
    simp only[Builtin.clear_,Sem.run_bind,run_underlying ht,Result.andThen,hzr,hzc,hzl,h2,List.getElem?_toArray,List.getElem?_cons_zero,Sem.run_pure]
   ·rw[zfu _ _ _ (by rw[zR,zR,List.length_replicate];omega),zhp,zR,List.length_replicate,show k*6+m*6=n*6 from by omega,List.drop_eq_nil_of_le (by rw[zR];omega),List.append_nil,<-zbR]at h3
    exact h3
end
end Go.Proofs.YtjdohhididpomaaGreatDoor
