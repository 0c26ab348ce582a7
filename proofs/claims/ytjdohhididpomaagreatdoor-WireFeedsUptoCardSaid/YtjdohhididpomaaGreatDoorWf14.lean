/-
  Texts joined by program: WkI, Sy, Qb, Uf, Qc, Qi, Qd, Mm.
-/
import Derived.Test.YtjdohhididpomaaGreatDoorWf13
import Derived.Test.YtjdohhididpomaaGreatDoorWf12
import Derived.Test.YtjdohhididpomaaGreatDoorWf06
import Derived.Test.YtjdohhididpomaaGreatDoorWf03
import Derived.Laws.CopyRow
set_option linter.unusedVariables false
set_option linter.unusedSimpArgs false

namespace Go.Proofs.YtjdohhididpomaaGreatDoor
section
open Go Go.RowKit Vc Ut Tb Cl Orb
theorem zr1{s:ByteArray}{k:Nat}(h:k<qW s):(pcL s)[k]? =some (pcP s k):=by
  unfold pcL;rw[List.getElem?_map,List.getElem?_range h];rfl
theorem zmF(s:ByteArray):(pcL s).length=qW s:=by simp[pcL]
theorem zyo{l:List (Nat×ByteArray)}{k:Nat}{p:Nat×ByteArray}(h:l[k]? =some p):(l.map zbK).getD k []=zbK p:=by
  simp only[List.getD_eq_getElem?_getD,List.getElem?_map,h];rfl
theorem zpE{s:ByteArray}{i:Nat}(hi:i<=qW s):zz (s.extract (bp s i) s.size)+bp s i=bp s (i+1):=zwa hi 1
theorem zvy:zsJ.Ok Tryz.prog 116:=by
  refine zvx ⟨zly,trivial⟩ ?_
  rintro⟨s,bx⟩ i W ⟨hb,hU,hsm⟩ hi
  dsimp only at hb hU hsm hi⊢
  have hlen:((pcL s).map zbK).length=qW s:=by rw[List.length_map,zmF]
  refine⟨⟨(0,i.D0),rfl,Nat.zero_le _,hi.j0,Mid.start (Ext.refl _) hi.d0⟩,?_⟩
  rintro _ ⟨k,D⟩ w1 ⟨hk,hJ,hM⟩
  dsimp only at hk hJ hM⊢
  have hUw:U8 w1:=hU.fr hM.fr (hi.cd _ (.inr (.inl rfl))) (hi.cd _ (.inr (.inr rfl)))
  have hbw:w1.heap[bx]? =some (.cells #[.string s] 9):=(hM.old (zE hb) (hi.cd bx (.inl rfl))).trans hb
  have hle:=zhs s k
  refine⟨s,Zv hbw,?_⟩
  refine zb (fun h=> ?_) (fun h=> ?_)
  ·have hlt:k<qW s:=zxd.2 (by have:=of_decide_eq_true h;omega)
   refine⟨s,Zv hbw,bp s k,rfl,hle,Nat.le_refl _,_,rfl,⟨hUw,zbb (n:=bk s k) hsm⟩,?_⟩
   rintro _ w2 ⟨rfl,hw2⟩
   have hnd:=zpE hk
   have hle1:=zhs s (k+1)
   have hbw2:=hw2.heap hbw
   have e3:(bp s k:Int)+(zz (s.extract (bp s k) s.size):Int)=(bp s (k+1):Int):=by omega
   rw[e3]
   have hJ2:=hi.stab.use hJ hw2.size (fun q hq=>hw2.block q (hq.elim (fun h=>Nat.lt_of_lt_of_le h hM.fr.size) (hM.lt q)))
   have hM2:=hM.own (Fr.of_ext (S:=fun _=>False) hw2) (fun q hq=>hq.elim)
   refine⟨s,Zv hbw2,zd (by omega) (by omega),bp s k,rfl,bp s (k+1),rfl,by omega,hle1,rfl,(k,D),?_,⟨by dsimp only;rw[hlen];exact hlt,hJ2,hM2⟩,?_⟩
   ·rw[zyo (zr1 hlt)];rfl
   rintro b1 w3 ⟨D',hst,h1,h2⟩
   dsimp only at hst h1 h2
   have hM3:=hM2.step hst
   refine zb (fun hb1=> ?_) (fun hb1=> ?_)
   ·exact⟨D',hM3, .inr (h2 (by simpa using hb1))⟩
   ·exact⟨zd (by omega) (by omega),(k+1,D'),rfl,⟨hlt,h1 (by simpa using hb1),hM3⟩,by dsimp only;omega⟩
  ·have hk2:k=qW s:=by
     by_cases hc:k<qW s
     ·have:=zxd.1 hc;have:=of_decide_eq_false h;omega
     ·omega
   subst hk2
   exact⟨D,hM, .inl (by rw[hlen];exact hJ)⟩
theorem znf:(znM 116).Ok Tryz.prog 91:=by
  refine zne trivial ?_
  rintro s w _ b w1 hn
  exact⟨b,rfl,by have:=hn.1;omega,hn.heap,hn.ext⟩
def cC(x:Nat):Nat->Prop:=fun q=>q=x\/q=0\/q=1
theorem zxc{x:Nat}{w:World}(hx:x<w.heap.size)(hU:U8 w):∀q,cC x q->q<w.heap.size:=by
  rintro q (rfl|rfl|rfl)
  ·exact hx
  ·exact hU.lt.1
  ·exact hU.lt.2
theorem zuV{s:ByteArray}{b:Nat}{w:World}(h:w.heap[b]? =some (.cells #[.string s] 9))(hU:U8 w)(hs:s.size<=67108864):zjO Tryz.prog (itV 116 b) ((pcL s).map zbK) (cC b) w:=by
  refine zvy (s,b) w ⟨h,hU,hs⟩ (zxc (zE h) hU) (fun W hW hq=>⟨(hq b (.inl rfl)).trans h,?_,hs⟩)
  have k:∀(g o:Nat) (v:Value),zsJ.C (s,b) g->w.cell? ⟨g,o,none⟩=some v->W.cell? ⟨g,o,none⟩=some v:=fun g o v hg hc=>
    (World.cell?_of_block (w:=w) (hq g hg)).trans hc
  exact⟨fun c hc=>k _ _ _ (.inr (.inl rfl)) (hU.1 c hc),fun i hi=>⟨k _ _ _ (.inr (.inr rfl)) (hU.2 i hi).1,k _ _ _ (.inr (.inr rfl)) (hU.2 i hi).2⟩⟩
theorem zhb(s:ByteArray):(Ql s).length=qW s:=by simp[Ql]
theorem zvV{s:ByteArray}{i:Nat}(h:i<qW s):(Ql s)[i]? =some (bp s (i+1):Int):=by
  unfold Ql
  rw[List.getElem?_map,List.getElem?_range h];rfl
theorem zvU:(sSL .i64 3 Ql).Ok Tryz.prog 66:=by
  refine zvT ⟨znf,trivial⟩ ?_
  rintro(s:ByteArray) w ⟨hU,hsm⟩ b w1 hn1
  have hb1:=hn1.size
  have hncl:=zsl s
  have hut:=hU.lt
  refine⟨s,rfl,trivial,?_⟩
  rintro x w2 ⟨hx,hxs,e12⟩
  have e02:=hn1.ext.trans e12
  have hU2:=hU.ext e02
  dsimp only[zek]
  have h41:(61:TypeId)≠3:=by decide
  have hbw:=e12.heap hn1.heap
  refine⟨pcL s,cC x,(fun q=>q=b\/zV none=some q),zuV hxs hU2 hsm,⟨?_,?_⟩,⟨none,0,rfl,(⟨hbw,Row.nil _ _ _⟩:Grow w2 b _ _ none 0 [])⟩,?_,?_,?_,?_,trivial⟩
  ·rintro q (rfl|h)
   ·exact zE hbw
   ·cases h
  ·intro q hq
   refine⟨zxc (zE hxs) hU2 q hq,?_⟩
   rintro(h|h)
   ·rcases hq with h'|h'|h'<;>omega
   ·cases h
  ·rintro k D W W' ⟨a,c,rfl,hg⟩ hsz hq
   exact⟨a,c,rfl,hg.keep fun q hq'=>hg.kept hq' (hq q · (.inr hq'))⟩
  ·rintro _ k D W W' h hsz hq
   exact h
  ·rintro k p D W hp ⟨a,c,rfl,hg⟩ hM
   have hkl:k<qW s:=by have:=(List.getElem?_eq_some_iff.1 hp).1;rwa [zmF]at this
   rw[zr1 hkl]at hp
   cases hp
   have hle:=zhs s (k+1)
   have hmo:=zv9 s (show k<=k+1 by omega)
   have hsz:((pcP s k).1:Int)+((pcP s k).2.size:Int)=(bp s (k+1):Int):=by unfold pcP;dsimp only;rw[zxY hle hmo];omega
   rw[hsz]
   have hln:(((Ql s).take k).map (Value.int .i64)).length<=qW s:=by simp[zhb];omega
   refine⟨a,_,c,Zv hg.hb,zd (by omega) (by omega),fun b1 w4 hn4=> ?_⟩
   obtain⟨a',c',w5,hr,hko,ho,hfz,hpost⟩:=hg.push (P:=Tryz.prog) (tt:=61) (ty:=61) zhd h41 hn4 rfl (by unfold maxLen;omega) (by omega)
   refine⟨a',c',w5,hr,hko,rfl,ho,hfz,fun w6 hs6=> ?_⟩
   obtain⟨hg6,hfr,hnew⟩:=hpost hs6
   refine⟨_,⟨hfr,?_⟩,a',c',rfl,?_⟩
   ·rintro q (rfl|hq)
    ·exact⟨zE hg6.hb, .inl (.inl rfl)⟩
    ·exact⟨hg6.row.lt hq,(hnew q hq).elim (fun h=> .inl (.inr h)) .inr⟩
   ·rw[zo3 (zvV hkl)];exact hg6
  ·rintro D W ⟨a,c,rfl,hg⟩ hM
   rw[zjy,zmF,List.take_of_length_le (by rw[zhb];exact Nat.le_refl _)]at hg
   refine⟨a,_,c,Zv hg.hb,fun w3 ht=>⟨(a,(Ql s).length,c),by rw[List.length_map],rfl,?_⟩⟩
   have eW:Ext w W:=hM.ext e02 (fun q hq=>by rcases hq with rfl|h;omega;cases h)
   have hrow:=hg.row
   rw[List.length_map]at hrow
   refine⟨hrow.turn ht,fun q hq=> ?_,Ext.turn eW ht⟩
   have:=(hM.dom q (.inr hq)).2
   have hs2:=e02.size
   rcases this with(h|h)|h
   ·omega
   ·cases h
   ·omega
theorem zis:(sSN qW).Ok Tryz.prog 44:=by
  refine zqa ⟨zvU,trivial⟩ ?_
  rintro(s:ByteArray) w ⟨hU,hsm⟩
  refine⟨s,rfl,⟨hU,hsm⟩,?_⟩
  rintro⟨a,n,c⟩ w1 ⟨hn,hm⟩
  dsimp only at hn hm⊢
  exact⟨qW s,by rw[hn,zhb],rfl,hm.ext⟩
end

section
open Go Vc Ut Tb Cl Orb
theorem zyK(x:Nat):∀j,(qQ x j).length=j
  |0=>rfl
  |j+1=>by simp only[qQ,List.length_cons,zyK x j]
theorem zxp(l:List UInt8):(qA l).size=l.length:=by simp[qA,ByteArray.size]
theorem zpF(x:Nat):(ZF x).size<=8:=by
  unfold ZF
  rw[ByteArray.size_append,ByteArray.size_append,zxp,zxp,zxp,zyK]
  have hj:Qy x<=6:=by unfold Qy Qn;split<;>(try split)<;>(try split)<;>(try split)<;>(try split)<;>omega
  show 1+Qy x+1<=8
  omega
theorem zfM(r:Int)(b:Bool):(zU r b).toNat<=2:=by
  have h0:=zeJ r
  unfold zU
  split
  ·omega
  ·split<;>decide
theorem zno(n:Nat):(Z7 n).size=n:=by simp[Z7,ByteArray.size]
theorem ztr(k:ByteArray):(zch k).size<=k.size:=by
  unfold zch
  split
  ·have:=Zn k 31;rw[zO this];omega
  ·exact Nat.le_refl _
theorem zyI(k:ByteArray)(col:Int)(l:Lk):(zQ k col l).2<=16/\(zQ k col l).1.size<=k.size+16:=by
  have h1:=zfX l.tab
  have h2:=zdo col l.tab
  have h3:=zpF (sg k 0).toNat
  have h4:=zfM (sg k 0) l.wide
  have h5:=ztr k
  have h6:(ByteArray.mk #[]).size=0:=rfl
  have h7:(zqk (bt k 0)).size=4:=rfl
  have h8:(zeD (sg k 0)).size=2:=rfl
  have h9:=zno (qs col l.tab)
  unfold zQ
  split
  ·dsimp only;omega
  ·split
   ·dsimp only;omega
   ·split
    ·dsimp only;omega
    ·split
     ·dsimp only;omega
     ·split
      ·split
       ·dsimp only;omega
       ·dsimp only;omega
      ·split
       ·dsimp only;rw[ByteArray.size_append]
        have:(ByteArray.mk #[226,151,140]).size=3:=rfl
        omega
       ·split
        ·dsimp only;omega
        ·split
         ·dsimp only;omega
         ·dsimp only;omega
theorem zmr{k:ByteArray}(h2:bp k 1=k.size):(pcP k 0).2=k:=by
  unfold pcP
  rw[show(0:Nat)+1=1 from rfl,h2,zv8];exact ByteArray.extract_zero_size
theorem zo9{k:ByteArray}(h2:bp k 1=k.size)(h3:0<k.size)(col:Int)(l:Lk):Zb k col l=zQ k col l:=by
  unfold Zb
  rw[if_neg (by omega),zmr h2]
end

section
open Go Vc Ut Tb Cl Orb
theorem zlc{s:ByteArray}{k j:Nat}(hk:k<=cnt s):∀f n,j+n<=k->k<=j+goN s j f n->k<=j+n+f->goN (s.extract 0 (pos s k)) j f n=k - j
  |0,n,h1,h2,h3=>by simp only[goN];omega
  |f+1,n,h1,h2,h3=>by
   simp only[goN]at h2⊢
   by_cases hn:j+n<k
   ·rw[zlh hk hn]
    by_cases hg:qO s j n=true
    ·rw[if_pos hg]at h2
     rw[if_pos hg]
     exact zlc hk f (n+1) (by omega) h2 (by omega)
    ·rw[if_neg hg]at h2;omega
   ·have he:qO (s.extract 0 (pos s k)) j n=false:=by
      unfold qO
      rw[Zd hk,decide_eq_false (by omega)];rfl
    rw[if_neg (by rw[he];decide)]
    omega
theorem zvo{k:ByteArray}(h0:0<cnt k)(h:zq k 0=cnt k):qW k=1:=by
  have hk:bk k 1=cnt k:=by
    have h1:=zfH (s:=k) (i:=0) (zcU.2 (by show 0<cnt k;exact h0))
    rw[show bk k 0=0 from rfl]at h1
    simp only[Nat.zero_add]at h1
    omega
  have h1:¬1<qW k:=fun h=>by have:=zcU.1 h;omega
  have h2:0<qW k:=zcU.2 (by show 0<cnt k;exact h0)
  omega
theorem zsO{k:ByteArray}(h:qW k=1)(hcr:crB k 0=false){j:Nat}(h1:1<=j)(hj:j<=cnt k):qW (k.extract 0 (pos k j))=1:=by
  obtain⟨h0,hf,_⟩:=qL h
  have hc:=Zd hj
  refine zvo (by omega) ?_
  rw[hc]
  unfold zq at hf⊢
  have hb:zu (k.extract 0 (pos k j)) 0=zu k 0:=zck (by omega) hj
  have hs:sg (k.extract 0 (pos k j)) 0=sg k 0:=Qa (by omega) hj
  have hcr2:crB (k.extract 0 (pos k j)) 0=false:=by
    unfold crB at hcr⊢
    rw[hs,hc]
    by_cases h2:1<j
    ·rw[Qa h2 hj,decide_eq_true (show 0+1<j by omega)]
     rw[decide_eq_true (show 0+1<cnt k by omega)]at hcr
     exact hcr
    ·rw[decide_eq_false (show ¬0+1<j by omega)]
     simp
  rw[hb,hs,hcr2]
  rw[hcr]at hf
  by_cases hbad:zu k 0=true
  ·rw[if_pos hbad]at hf⊢;omega
  ·rw[if_neg hbad]at hf⊢
   rw[if_neg (by decide)]at hf⊢
   by_cases ha:z7 (sg k 0)=true
   ·rw[if_pos ha]at hf⊢;omega
   ·rw[if_neg ha]at hf⊢
    have:=zlc (j:=0) hj 32 1 (by omega) (by omega) (by have:=one_le h;omega)
    omega
structure PlainK(k:ByteArray)(wd:Bool):Prop where
  val:zw k=true
  one:qW k=1
  bad:zu k 0=false
  n9:¬sg k 0=9
  nl:¬(sg k 0=10\/qb k=10)
  ctl:¬(sg k 0<32\/sg k 0=127)
  fmt:ZT (sg k 0)=false
  mark:¬(zl (sg k 0)=2\/qe (sg k 0)=true)
  wid:¬zU (sg k 0) wd=0\/(qd (sg k 0)=true/\qd (qb k)=true)
def zfQ(k:ByteArray)(wd:Bool):Prop:=(qd (sg k 0)=true/\qd (qb k)=true)\/(zl (sg k 0)=7/\zU (sg k 0) wd=1/\qb k=65039)
instance (k:ByteArray) (wd:Bool):Decidable (zfQ k wd):=by unfold zfQ;exact inferInstance
theorem zhN{k:ByteArray}(h:zw k=true)(h0:0<cnt k):zu k 0=false:=by
  unfold zw at h
  rw[List.all_eq_true]at h
  have:=h 0 (List.mem_range.2 h0)
  simpa using this
theorem zgO{k:ByteArray}(h:qW k=1)(c:Int)(l:Lk):Zb k c l=zQ k c l:=zo9 (qL h).2.2 (zjq h) c l
theorem zgK{k:ByteArray}{wd:Bool}(h:PlainK k wd):zQ k 0 (lkW wd)=(k,if zfQ k wd then 2 else(zU (sg k 0) wd).toNat):=by
  by_cases h2:zfQ k wd
  ·rw[if_pos h2]
   exact zdE h.bad h.n9 h.nl h.ctl h.fmt h.mark h2
  ·rw[if_neg h2]
   rw[zdD (l:=lkW wd) h.bad h.n9 h.nl h.ctl h.fmt h.mark h2,if_neg]
   ·rfl
   ·rcases h.wid with hw|hw
    ·exact hw
    ·exact absurd (.inl hw) h2
end

section
namespace Ut
open Go Vc
theorem zdh{s u:ByteArray}{i:Nat}(h:i<s.size):bt (s++u) i=bt s i:=by
  have hl:=qH s
  unfold bt
  rw[ByteArray.toList_data_append,List.getD_eq_getElem?_getD,List.getD_eq_getElem?_getD,List.getElem?_append_left (by omega)]
theorem zn6{s u:ByteArray}{n:Nat}(h0:0<s.size)(h:n<s.size):okB (s++u) n ↔ okB s n:=by
  have e1:loB (s++u) n=loB s n:=by unfold loB;rw[zdh h0]
  have e2:hiB (s++u) n=hiB s n:=by unfold hiB;rw[zdh h0]
  have hs:(s++u).size=s.size+u.size:=ByteArray.size_append
  unfold okB
  rw[e1,e2,zdh h]
  constructor
  ·exact fun hh=>⟨h,hh.2⟩
  ·exact fun hh=>⟨by omega,hh.2⟩
theorem zkt{s u:ByteArray}(h0:0<s.size):∀(f n:Nat),n<=s.size->(q7 s f n≠s.size\/q7 s f n=n+f)->q7 (s++u) f n=q7 s f n
  |0,n,_,_=>rfl
  |f+1,n,hn,h=>by
   unfold q7 at h⊢
   by_cases k:okB s n
   ·rw[if_pos k]at h⊢
    rw[if_pos ((zn6 h0 k.1).2 k)]
    exact zkt h0 f (n+1) k.1 (h.imp id (fun h=>by omega))
   ·rw[if_neg k]at h⊢
    have hlt:n<s.size:=by omega
    rw[if_neg (fun hh=>k ((zn6 h0 hlt).1 hh))]
theorem zkU{s u:ByteArray}(k:Nat):∀(n:Nat),n<s.size->zac (s++u) k n=zac s k n
  |0,h=>by unfold zac;rw[zdh h]
  |n+1,h=>by simp only[zac];rw[zkU k n (by omega),zdh h]
theorem zsh{s u:ByteArray}(h:zT s=true):za8 (s++u)=za8 s:=by
  unfold zT at h
  simp only[decide_eq_true_eq]at h
  obtain⟨h0,h1⟩:=h
  have hp:0<s.size:=by omega
  have hs:(s++u).size=s.size+u.size:=ByteArray.size_append
  have hle:=zfI s
  have hS:Zp (s++u)=Zp s:=by unfold Zp;rw[if_neg (by omega),if_neg h0,zdh hp]
  have hN:Zr (s++u)=Zr s:=by
    unfold Zr at h1⊢
    unfold Zp at h1
    rw[if_neg h0]at h1⊢
    rw[if_neg (by omega),zdh hp]
    rw[if_neg h0]at h1
    by_cases h2:bt s 0<128
    ·rw[if_pos h2,if_pos h2]
    ·rw[if_neg h2]at h1⊢
     rw[if_neg h2]at h1⊢
     by_cases h3:(zP (bt s 0)).2.2=0
     ·rw[if_pos h3,if_pos h3]
     ·rw[if_neg h3]at h1⊢
      rw[if_neg h3]
      exact zkt hp _ 1 (by omega) (h1.imp id (fun h=>by omega))
  unfold za8
  rw[if_neg (by omega),if_neg h0,hS,hN]
  by_cases h4:Zr s=0\/Zr s<Zp s
  ·rw[if_pos h4,if_pos h4]
  ·rw[if_neg h4,if_neg h4]
   have:zc7 (s++u) (Zp s)=zc7 s (Zp s):=zkU _ _ (by omega)
   rw[this]
theorem zxG{s u:ByteArray}(h:zT s=true):QB (s++u)=QB s/\Q4 (s++u)=Q4 s:=by
  have h1:=zb3 (s++u)
  have h2:=zb3 s
  rw[zsh h]at h1
  exact⟨h1.2.symm.trans h2.2,h1.1.symm.trans h2.1⟩
theorem zgz{s:ByteArray}(h:s.size≠0):zo s=Q4 s::zo (s.extract (QB s) s.size):=by
  have hc:0<cnt s:=qJ.2 (by simp only[pos];omega)
  have hp:pos s 1=QB s:=by
    rw[qh (n:=0) (by simp only[pos];omega)]
    unfold QB;rw[if_neg h];simp[pos]
  have h1:=zbc (s:=s) (k:=1) (by omega)
  rw[<-hp]
  refine zhS (by rw[List.length_cons,zJ,zJ];omega) fun i hi=> ?_
  rw[zJ]at hi
  rw[Zc hi]
  cases i with
  |zero=>rw[List.getD_cons_zero];unfold Q4;rw[if_neg h];simp[pos]
  |succ i=>
   rw[List.getD_cons_succ,Zc (by omega)]
   unfold Q5;rw[zdS,Nat.add_comm 1 i]
theorem zku{s:ByteArray}:∀(f n i:Nat),n<=i->i<q7 s f n->okB s i
  |0,n,i,h1,h2=>by simp only[q7]at h2;omega
  |f+1,n,i,h1,h2=>by
   unfold q7 at h2
   split at h2
   ·rename_i k
    by_cases e:i=n
    ·subst e;exact k
    ·exact zku f (n+1) i (by omega) h2
   ·omega
theorem zgy:∀(n:Nat) (s:ByteArray),s.size=n->(∀i,i<s.size->128<=bt s i/\bt s i<192)->zo s=List.replicate n 65533
  |0,s,h,_=>List.eq_nil_of_length_eq_zero (by rw[zJ];have:=ZU s;omega)
  |n+1,s,h,hb=>by
   have h0:s.size≠0:=by omega
   have hb0:=hb 0 (by omega)
   have hsec:(zP (bt s 0)).2.2=0:=by
     unfold zP
     rw[if_neg (by omega),if_neg (by omega),if_neg (by omega),if_neg (by omega),if_neg (by omega),if_neg (by omega),if_neg (by omega)]
   have hN:Zr s=0:=by unfold Zr;rw[if_neg h0,if_neg (by omega),if_pos hsec]
   have hx:za8 s=(65533,1):=by unfold za8;rw[if_neg h0,if_pos (.inl hN)]
   have h1:=zb3 s
   rw[hx]at h1
   have hz:(s.extract 1 s.size).size=s.size - 1:=zO (Nat.le_refl _)
   rw[zgz h0,<-h1.1,<-h1.2,zgy n (s.extract 1 s.size) (by omega) (fun i hi=>by rw[zeE (by omega)];exact hb (1+i) (by omega)),List.replicate_succ]
   rfl
theorem zgx{s:ByteArray}(h:zT s=false):s.size<=3/\zo s=List.replicate s.size 65533:=by
  by_cases h0:s.size=0
  ·exact⟨by omega,List.eq_nil_of_length_eq_zero (by rw[zJ,zdT.2 h0])|>.trans (by rw[h0];rfl)⟩
  unfold zT at h
  simp only[decide_eq_false_iff_not,not_and,not_or]at h
  obtain⟨h1,h2⟩:=h h0
  have h1:Zr s=s.size:=by omega
  have hle:=zfI s
  have hb:¬bt s 0<128:=fun hh=>h2 (by unfold Zr Zp;rw[if_neg h0,if_neg h0,if_pos hh,if_pos hh])
  have hS:Zp s=(zP (bt s 0)).2.2:=by unfold Zp;rw[if_neg h0,if_neg hb]
  have h3:¬(zP (bt s 0)).2.2=0:=fun hh=>by omega
  have hN:Zr s=q7 s ((zP (bt s 0)).2.2 - 1) 1:=by unfold Zr;rw[if_neg h0,if_neg hb,if_neg h3]
  have hx:za8 s=(65533,1):=by unfold za8;rw[if_neg h0,if_pos (.inr (by omega))]
  have h4:=zb3 s
  rw[hx]at h4
  have hz:(s.extract 1 s.size).size=s.size - 1:=zO (Nat.le_refl _)
  have hsec:128<=(zP (bt s 0)).1/\(zP (bt s 0)).2.1<=191:=by
    revert h3
    unfold zP
    repeat' split
    all_goals simp
  refine⟨by omega,?_⟩
  rw[zgz h0,<-h4.1,<-h4.2,zgy (s.size - 1) (s.extract 1 s.size) (by omega) (fun i hi=> ?_)]
  ·obtain⟨n,hn⟩:∃n,s.size=n+1:=⟨s.size - 1,by omega⟩
   rw[hn,List.replicate_succ];rfl
  ·rw[zeE (by omega)]
   have hk:=zku (s:=s) _ 1 (1+i) (by omega) (by rw[<-hN];omega)
   obtain⟨_,k1,k2⟩:=hk
   unfold loB at k1;unfold hiB at k2
   split at k1<;>simp_all<;>omega
end Ut
end

section
open Go Vc Ut Tb Cl Orb
theorem zrQ:∀n:Fin 26,∀wd:Bool,¬zU (127462+(n.val:Int)) wd=0:=by decide+kernel
theorem zpq{x:Int}(h:qd x=true)(wd:Bool):¬zU x wd=0:=by
  unfold qd at h
  rw[Bool.and_eq_true]at h
  have h1:=of_decide_eq_true h.1
  have h2:=of_decide_eq_true h.2
  have:=zrQ ⟨(x - 127462).toNat,by omega⟩ wd
  dsimp only at this
  rwa [show(127462:Int)+((x - 127462).toNat:Int)=x from by omega]at this
theorem PlainK.w0{k:ByteArray}{wd:Bool}(h:PlainK k wd):¬zU (sg k 0) wd=0:=h.wid.elim id fun h=>zpq h.1 wd
def Zy(k:ByteArray)(wd:Bool):Nat:=if zfQ k wd then 2 else(zU (sg k 0) wd).toNat
theorem PlainK.bd{k:ByteArray}{wd:Bool}(h:PlainK k wd):1<=Zy k wd/\Zy k wd<=2:=by
  have h0:=h.w0
  have h1:=zfN (sg k 0) wd
  have h2:=zfM (sg k 0) wd
  unfold Zy
  split<;>omega
theorem PlainK.plN{k:ByteArray}{wd:Bool}(h:PlainK k wd):plN k wd=Zy k wd:=by
  have ho:=zgK h
  have hb:=h.bd
  have ht:=zgO h.one 0 (lkW wd)
  have h1:(Zb k 0 (lkW wd)).1=k:=by rw[ht,ho]
  have h2:(Zb k 0 (lkW wd)).2=Zy k wd:=by rw[ht,ho];rfl
  unfold Go.Proofs.YtjdohhididpomaaGreatDoor.plN
  rw[if_pos ⟨h.val,h.one,h1,by rw[h2];exact hb.2⟩,h2]
theorem zoq{k:ByteArray}{j:Nat}(h1:1<=j)(hj:j<=cnt k):sg (k.extract 0 (pos k j)) 0=sg k 0:=Qa (by omega) hj
theorem zk9{k:ByteArray}{j:Nat}(h1:2<=j)(hj:j<=cnt k):qb (k.extract 0 (pos k j))=qb k:=by
  unfold qb
  rw[Zd hj,if_pos (by omega),if_pos (by omega),Qa (by omega) hj]
theorem zid{k:ByteArray}(hj:1<=cnt k):qb (k.extract 0 (pos k 1))=0:=by
  unfold qb
  rw[Zd hj,if_neg (by omega)]
theorem zmU{k:ByteArray}(h:zw k=true){m:Nat}(hm:m<=cnt k):zw (k.extract 0 (pos k m))=true:=by
  unfold zw at h⊢
  rw[List.all_eq_true]at h⊢
  intro n hn
  rw[List.mem_range,Zd hm]at hn
  rw[zck hn hm]
  exact h n (List.mem_range.2 (by omega))
theorem PlainK.head{k:ByteArray}{wd:Bool}(h:PlainK k wd){j:Nat}(h1:1<=j)(hj:j<=cnt k):PlainK (k.extract 0 (pos k j)) wd:=by
  have hs:=zoq h1 hj
  have hcr:crB k 0=false:=by
    unfold crB
    rw[show(sg k 0==13)=false from by
     have:=h.ctl
     simp only[beq_eq_false_iff_ne]
     omega]
    rfl
  have hv:=zmU h.val hj
  refine⟨hv,zsO h.one hcr h1 hj,?_,by rw[hs];exact h.n9,?_,by rw[hs];exact h.ctl,by rw[hs];exact h.fmt,by rw[hs];exact h.mark, .inl (by rw[hs];exact h.w0)⟩
  ·exact zhN hv (by rw[Zd hj];omega)
  ·rw[hs]
   rintro(h'|h')
   ·exact h.nl (.inl h')
   ·rcases Nat.lt_or_ge j 2 with h2|h2
    ·have:j=1:=by omega
     subst this
     rw[zid hj]at h'
     exact absurd h' (by decide)
    ·rw[zk9 h2 hj]at h'
     exact h.nl (.inr h')
theorem PlainK.head_le{k:ByteArray}{wd:Bool}(h:PlainK k wd){j:Nat}(h1:1<=j)(hj:j<=cnt k):Zy (k.extract 0 (pos k j)) wd<=Zy k wd:=by
  have hs:=zoq h1 hj
  have hle:=zfM (sg k 0) wd
  unfold Zy
  rw[hs]
  by_cases h2:zfQ (k.extract 0 (pos k j)) wd
  ·rw[if_pos h2]
   have:zfQ k wd:=by
     rcases Nat.lt_or_ge j 2 with h3|h3
     ·have:j=1:=by omega
      subst this
      unfold zfQ at h2
      rw[zid hj]at h2
      rcases h2 with⟨_,h2⟩|⟨_,_,h2⟩
      ·exact absurd h2 (by decide)
      ·exact absurd h2 (by decide)
     ·unfold zfQ at h2⊢
      rw[hs,zk9 h3 hj]at h2
      exact h2
   rw[if_pos this]
   exact Nat.le_refl _
  ·rw[if_neg h2]
   split
   ·exact hle
   ·exact Nat.le_refl _
theorem zm5{s t:ByteArray}(h:s=⟨#[226,151,140]⟩++t):sg s 0=9676:=by
  have h1:=zxG (s:=⟨#[226,151,140]⟩) (u:=t) (by decide+kernel)
  have h2:Q4 ⟨#[226,151,140]⟩=9676:=by decide+kernel
  rw[h2,<-h]at h1
  have hz:s.size≠0:=by
    rw[h,ByteArray.size_append]
    show 3+t.size≠0
    omega
  have:=h1.2
  unfold Q4 at this
  rw[if_neg hz]at this
  exact this
theorem zkJ{k:ByteArray}{wd:Bool}(h:plN k wd≠0):PlainK k wd:=by
  unfold plN at h
  split at h
  case isFalse=>exact absurd rfl h
  rename_i hc
  obtain⟨hv,h1,hs,h2⟩:=hc
  obtain⟨h0,hf,_⟩:=qL h1
  have hsz:=zjq h1
  have hb:=zhN hv h0
  rw[zgO h1]at hs
  have hne:¬(ByteArray.mk #[])=k:=fun e=>by rw[<-e]at hsz;exact absurd hsz (by decide)
  have hlow:sg k 0<128->(bt k 0:Int)=sg k 0:=fun h=>(zhg (s:=k) (i:=0) h).2.symm
  have g9:¬sg k 0=9:=fun h9=>by
    rw[zdF hb h9]at hs
    have hst:=zdo 0 (lkW wd).tab
    have hl:=hlow (by rw[h9];decide)
    rw[h9,<-hs]at hl
    dsimp only at hl
    have:bt (Z7 (qs 0 (lkW wd).tab)) 0=32:=by
      obtain⟨m,hm⟩:∃m,qs 0 (lkW wd).tab=m+1:=⟨qs 0 (lkW wd).tab - 1,by omega⟩
      rw[hm];rfl
    omega
  have gnl:¬(sg k 0=10\/qb k=10):=fun h=>by
    rw[zfx hb g9 h]at hs
    exact hne hs
  have gct:¬(sg k 0<32\/sg k 0=127):=fun h=>by
    rw[zb1 hb g9 gnl h]at hs
    have hl:=hlow (by omega)
    have hk:bt (zeD (sg k 0)) 0=94:=rfl
    have hs':zeD (sg k 0)=k:=hs
    rw[hs']at hk
    omega
  have gf:ZT (sg k 0)=false:=by
    cases hfm:ZT (sg k 0)with
    |false=>rfl
    |true=>
     rw[zdG hb g9 gnl gct hfm rfl]at hs
     exact absurd hs hne
  have gm:¬(zl (sg k 0)=2\/qe (sg k 0)=true):=fun h=>by
    rw[zeo hb g9 gnl gct gf h]at hs
    have hx:=zm5 hs.symm
    rw[hx]at h
    exact absurd h (by decide+kernel)
  refine⟨hv,h1,hb,g9,gnl,gct,gf,gm,?_⟩
  by_cases h2k:zfQ k wd
  ·unfold zfQ at h2k
   rcases h2k with h|h
   ·exact .inr h
   ·left;rw[h.2.1];decide
  ·rw[zdD (l:=lkW wd) hb g9 gnl gct gf gm h2k]at hs
   left
   intro hw
   have hw:zU (sg k 0) (lkW wd).wide=0:=hw
   rw[if_pos hw]at hs
   exact hne hs
end

section
open Go Vc Ut Tb Cl
def ZR(l:List Ce)(w:Nat)(wd:Bool)(i:Nat):Prop:=
  if(zg l i).p=1 then 0<i/\(zg l (i - 1)).p=0/\plN (zL (zg l (i - 1))) wd=2
  else(zg l i).p=0/\(plN (zL (zg l i)) wd=1\/plN (zL (zg l i)) wd=2/\(i+1)%w≠0/\i+1<l.length/\(zg l (i+1)).p=1/\(zg l (i+1)).st=(zg l i).st/\(zg l (i+1)).t.size=0)
def okL(l:List Ce)(w:Nat)(wd:Bool):Prop:=∀i,i<l.length->ZR l w wd i
structure lastOk(g:Gs):Prop where
  le:g.last<=g.cs.length
  p:(zg g.cs (g.last - 1)).p=0
  at_:g.y*g.w+g.x+1=g.last+plN (zL (zg g.cs (g.last - 1))) g.wd
def ze9(c:Ce):Prop:=c.st<65536/\c.a=0/\c.n=0/\c.r=false
structure okG(g:Gs)(m:Nat):Prop where
  w:g.w<=1024
  h:g.h<=1024
  len:g.cs.length=g.w*g.h
  ok:okL g.cs g.w g.wd
  x:g.x<=g.w
  y:g.y<g.h\/g.y=0
  sty:g.sty<65536
  st:∀c∈g.cs,ze9 c
  num:∀n∈g.num, -1<=n/\n<=9999
  numl:g.num.length<=m+1
  stt:g.stt<=2
  sl:g.stt≠0->g.last=0
  last:g.last≠0->lastOk g
def zk(g:Gs):Gs:=if g.num=[]then {g with num:=[-1]}else g
end

section
open Go Vc Ut Tb Cl Orb
theorem zbE{l:List Ce}{i:Nat}(h:i<l.length):zg l i=l[i]:=by
  unfold zg;rw[List.getD_eq_getElem?_getD,List.getElem?_eq_getElem h];rfl
theorem zdV{l:List Ce}{i:Nat}(h:l.length<=i):zg l i=zr 0:=by
  unfold zg;rw[List.getD_eq_getElem?_getD,List.getElem?_eq_none h];rfl
theorem qZ{l:List Ce}{i j:Nat}{c:Ce}(hi:i<l.length):zg (l.set i c) j=if j=i then c else zg l j:=by
  unfold zg
  rw[List.getD_eq_getElem?_getD,List.getElem?_set]
  by_cases h:i=j
  ·subst h;rw[if_pos rfl,if_pos hi,if_pos rfl];rfl
  ·rw[if_neg h,if_neg (by omega),List.getD_eq_getElem?_getD]
theorem zN(l:List Ce)(w i:Nat)(c:Ce):(zC l w i c).length=l.length:=by
  unfold zC
  rw[List.length_set]
  split
  ·rw[List.length_set]
  ·split
   ·rw[List.length_set]
   ·rfl
theorem Zf{l:List Ce}{w i:Nat}{c:Ce}(hi:i<l.length)(h0:(zg l i).p=1->0<i)(j:Nat):
    zg (zC l w i c) j=if j=i then c else if(zg l i).p=1 then(if j=i - 1 then zr (zg l (i - 1)).st else zg l j)
     else if(i+1)%w≠0/\(zg l (i+1)).p=1/\j=i+1 then zr (zg l (i+1)).st else zg l j:=by
  unfold zC
  by_cases h1:(zg l i).p=1
  ·have:=h0 h1
   rw[if_pos h1,qZ (by rw[List.length_set];exact hi),if_pos h1]
   by_cases hj:j=i
   ·rw[if_pos hj,if_pos hj]
   ·rw[if_neg hj,if_neg hj,qZ (by omega)]
  ·rw[if_neg h1,if_neg h1]
   by_cases h2:(i+1)%w≠0/\(zg l (i+1)).p=1
   ·have h3:i+1<l.length:=by
      rcases Nat.lt_or_ge (i+1) l.length with h|h
      ·exact h
      ·have:=h2.2
       rw[zdV h]at this
       exact absurd this (by decide)
    rw[if_pos h2,qZ (by rw[List.length_set];exact hi)]
    by_cases hj:j=i
    ·rw[if_pos hj,if_pos hj]
    ·rw[if_neg hj,if_neg hj,qZ h3]
     by_cases hj2:j=i+1
     ·rw[if_pos hj2,if_pos ⟨h2.1,h2.2,hj2⟩]
     ·rw[if_neg hj2,if_neg (fun h=>hj2 h.2.2)]
   ·rw[if_neg h2,qZ hi]
    by_cases hj:j=i
    ·rw[if_pos hj,if_pos hj]
    ·rw[if_neg hj,if_neg hj,if_neg (fun h=>h2 ⟨h.1,h.2.1⟩)]
end

section
open Go Go.RowKit Vc
theorem Z2(c:Ce):(ceV c).length=6:=rfl
theorem zjH(c:Ce):∀u∈ceV c,u.oneCell'=true:=by
  intro u hu
  simp only[ceV,List.mem_cons,List.not_mem_nil,or_false]at hu
  rcases hu with rfl|rfl|rfl|rfl|rfl|rfl<;>rfl
theorem zjC:qn []=[]:=rfl
theorem Zm(c:Ce)(l:List Ce):qn (c::l)=ceV c++qn l:=rfl
theorem zdd(a b:List Ce):qn (a++b)=qn a++qn b:=by unfold qn;rw[List.flatMap_append]
theorem zW:∀l:List Ce,(qn l).length=l.length*6
  |[]=>rfl
  |c::l=>by rw[Zm,List.length_append,zW l,List.length_cons,Z2];omega
theorem zaf(l:List Ce):∀u∈qn l,u.oneCell'=true:=by
  intro u hu
  obtain⟨c,_,h⟩:=List.mem_flatMap.1 hu
  exact zjH c u h
theorem zm2:∀(l:List Ce) {i k:Nat},i<l.length->k<6->(qn l)[i*6+k]? =(ceV (zg l i))[k]?
  |[],i,k,h,_=>by simp at h
  |c::l,0,k,h,hk=>by
   rw[Zm,Nat.zero_mul,Nat.zero_add,List.getElem?_append_left (by rw[Z2];exact hk)];rfl
  |c::l,i+1,k,h,hk=>by
   rw[Zm,List.getElem?_append_right (by rw[Z2];omega),Z2,show(i+1)*6+k - 6=i*6+k from by omega,zm2 l (by simpa using h) hk];rfl
theorem zlj:∀(l:List Ce) (k:Nat),(qn l).take (k*6)=qn (l.take k)
  |[],k=>by simp[zjC]
  |c::l,0=>by simp[zjC]
  |c::l,k+1=>by
   rw[Zm,List.take_succ_cons,Zm,show(k+1)*6=6+k*6 from by omega,List.take_append,Z2,List.take_of_length_le (by rw[Z2];omega),show 6+k*6 - 6=k*6 from by omega,zlj l k]
theorem zdO:∀(l:List Ce) (k:Nat),(qn l).drop (k*6)=qn (l.drop k)
  |[],k=>by simp[zjC]
  |c::l,0=>by simp
  |c::l,k+1=>by
   rw[Zm,List.drop_succ_cons,show(k+1)*6=6+k*6 from by omega,List.drop_append,Z2,List.drop_eq_nil_of_le (by rw[Z2];omega),show 6+k*6 - 6=k*6 from by omega,zdO l k,List.nil_append]
def CeAt(w:World)(b o:Nat)(c:Ce):Prop:=
  w.cell? ⟨b,o,none⟩=some (.string c.t)/\w.cell? ⟨b,o+1,none⟩=some (.int .i8 c.p)/\w.cell? ⟨b,o+2,none⟩=some (.int .i64 c.a)/\w.cell? ⟨b,o+3,none⟩=some (.int .i64 c.n)/\w.cell? ⟨b,o+4,none⟩=some (.bool c.r)/\w.cell? ⟨b,o+5,none⟩=some (.int .u16 c.st)
theorem CeAt.ext{w w':World}{b o:Nat}{c:Ce}(h:CeAt w b o c)(hx:Ext w w'):CeAt w' b o c:=
  ⟨hx.cell h.1,hx.cell h.2.1,hx.cell h.2.2.1,hx.cell h.2.2.2.1,hx.cell h.2.2.2.2.1,hx.cell h.2.2.2.2.2⟩
theorem Vc.CellsAt.ce{w:World}{ad:Option Addr}{cs:List Ce}{i:Nat}{K:Nat->Nat->Prop}(h:CellsAt w ad (qn cs))(hi:i<cs.length)(hk:∀b o,CeAt w b (o+i*6) (zg cs i)->K b o):zn ad K:=by
  have at':∀{b o k:Nat} {v:Value},(∀(j:Nat) v,(qn cs)[j]? =some v->w.cell? ⟨b,o+j,none⟩=some v)->k<6->(ceV (zg cs i))[k]? =some v->w.cell? ⟨b,o+i*6+k,none⟩=some v:=by
    intro b o k v hh hk hv
    rw[show o+i*6+k=o+(i*6+k)from by omega]
    exact hh _ _ ((zm2 cs hi hk).trans hv)
  rcases h with h|⟨b,o,rfl,hh⟩
  ·have:=zW cs
   rw[h]at this;simp at this;omega
  ·exact hk b o ⟨at' hh (k:=0) (by decide) rfl,at' hh (k:=1) (by decide) rfl,at' hh (k:=2) (by decide) rfl,at' hh (k:=3) (by decide) rfl,at' hh (k:=4) (by decide) rfl,at' hh (k:=5) (by decide) rfl⟩
theorem CeAt.load{w:World}{b o:Nat}{c:Ce}(h:CeAt w b o c){K:ByteArray->Int->Int->Int->Bool->Int->Prop}(hk:K c.t c.p c.a c.n c.r c.st):
    ∃s,w.cell? ⟨b,o,none⟩=some (.string s)/\∃n,w.cell? ⟨b,o+1,none⟩=some (.int .i8 n)/\∃n1,w.cell? ⟨b,o+2,none⟩=some (.int .i64 n1)/\∃n2,w.cell? ⟨b,o+3,none⟩=some (.int .i64 n2)/\∃r,w.cell? ⟨b,o+4,none⟩=some (.bool r)/\∃n3,w.cell? ⟨b,o+5,none⟩=some (.int .u16 n3)/\K s n n1 n2 r n3:=
  ⟨_,h.1,_,h.2.1,_,h.2.2.1,_,h.2.2.2.1,_,h.2.2.2.2.1,_,h.2.2.2.2.2,hk⟩
theorem Qd{w:World}{b:Nat}{c:Ce}{t:TypeId}(h:w.heap[b]? =some (.cells #[.string c.t, .int .i8 c.p, .int .i64 c.a, .int .i64 c.n, .bool c.r, .int .u16 c.st] t)):CeAt w b 0 c:=by
  refine⟨?_,?_,?_,?_,?_,?_⟩<;>(rw[za h];rfl)
theorem Vc.Row.put{w w1:World}{e:TypeId}{s g n c j:Nat}{vs:List Value}{v:Value}(h:Row w e s (some ⟨g,0,none⟩) n vs c)(hs:Stored w ⟨g,j,none⟩ v w1):Row w1 e s (some ⟨g,0,none⟩) n (vs.set j v) c:=by
  refine⟨by rw[List.length_set];exact h.1,?_⟩
  rcases h.2 with⟨h1,_⟩|⟨g',cur,he,h1,h2,h3,h4,h5⟩
  ·cases h1
  ·cases he
   refine .inr ⟨g,_,rfl,hs.heap h1,h2,h3,by simpa using h4,?_⟩
   rw[Array.toList_setIfInBounds,List.take_set,h5]
theorem Vc.Row.can{w:World}{e:TypeId}{s g n c j:Nat}{vs:List Value}(h:Row w e s (some ⟨g,0,none⟩) n vs c)(hj:j<n*s):
    (∃old,w.cell? ⟨g,j,none⟩=some old)/\w.frozen? ⟨g,j,none⟩=false:=by
  rcases h.2 with⟨h1,_⟩|⟨g',cur,he,h1,h2,h3,h4,h5⟩
  ·cases h1
  ·cases he
   have h6:n*s<=c*s:=Nat.mul_le_mul_right _ h2
   refine⟨?_,zy h1 _⟩
   rw[za h1]
   exact⟨_,Array.getElem?_eq_getElem (by omega)⟩
def za0:List Value->Nat->List Value->List Value
  |vs,_,[]=>vs
  |vs,k,u::us=>za0 (vs.set k u) (k+1) us
theorem zkf(l:List Value):∀(us r:List Value) (k:Nat),za0 (l++r) (l.length+k) us=l++za0 r k us
  |[],r,k=>rfl
  |u::us,r,k=>by
   simp only[za0]
   rw[List.set_append_right _ _ (by omega),Nat.add_sub_cancel_left,Nat.add_assoc,zkf l us]
theorem zou:∀(cs:List Ce) (i:Nat) (c:Ce),i<cs.length->za0 (qn cs) (i*6) (ceV c)=qn (cs.set i c)
  |[],i,c,h=>by simp at h
  |a::cs,0,c,h=>by
   rw[Zm,List.set_cons_zero,Zm]
   rfl
  |a::cs,i+1,c,h=>by
   rw[Zm,List.set_cons_succ,Zm,show(i+1)*6=(ceV a).length+i*6 from by rw[Z2];omega,zkf,zou cs i c (by simpa using h)]
theorem zxC{v:Value}(h:v.oneCell'=true):zu8 v=true:=by cases v<;>simp_all[zu8,Value.oneCell']
theorem QF{e:TypeId}{s g n c off:Nat}:∀(us:List Value) (i:Nat) {vs:List Value} {w:World} {K:World->Prop},Row w e s (some ⟨g,0,none⟩) n vs c->(∀u∈us,u.oneCell'=true)->off+i+us.length<=n*s->
    (∀w',Row w' e s (some ⟨g,0,none⟩) n (za0 vs (off+i) us) c->Fr (fun b=>b=g) w w'->K w')->zaE g off i us w K
  |[],i,vs,w,K,h,_,_,hk=>hk w h (Fr.refl _ _)
  |u::us,i,vs,w,K,h,h1,hl,hk=>by
   simp only[List.length_cons]at hl
   have hj:=h.can (j:=off+i) (by omega)
   refine⟨zxC (h1 u (by simp)),by rw[zd0];exact hj.1,by rw[zd0];exact hj.2,fun w1 hs=> ?_⟩
   rw[zd0]at hs
   refine QF us (i+1) (h.put hs) (fun x hx=>h1 x (by simp[hx])) (by omega) fun w' hr hf=>hk w' hr ((Fr.stored hs).trans hf (fun _ _ hx=>hx))
theorem Vc.Row.setCe{w:World}{e:TypeId}{g n c i:Nat}{cs:List Ce}{K:World->Prop}(h:Row w e 6 (some ⟨g,0,none⟩) n (qn cs) c)(hi:i<cs.length)(x:Ce)
    (hk:∀w',Row w' e 6 (some ⟨g,0,none⟩) n (qn (cs.set i x)) c->Fr (fun b=>b=g) w w'->K w'):zaE g (0+i*6) 0 (ceV x) w K:=by
  have hn:=h.1
  rw[zW]at hn
  refine QF (ceV x) 0 h (zjH x) (by rw[Z2];omega) fun w' hr hf=>hk w' ?_ hf
  rw[Nat.zero_add,Nat.add_zero,zou cs i x hi]at hr
  exact hr
theorem zha:∀(cs:List Ce) (i k:Nat) (x:Ce) (v:Value),i<cs.length->k<6->(ceV (zg cs i)).set k v=ceV x->(qn cs).set (i*6+k) v=qn (cs.set i x)
  |[],i,k,x,v,h,_,_=>by simp at h
  |a::cs,0,k,x,v,h,hk,he=>by
   rw[Zm,List.set_cons_zero,Zm,Nat.zero_mul,Nat.zero_add,List.set_append_left _ _ (by rw[Z2];exact hk)]
   exact congrArg (· ++qn cs) he
  |a::cs,i+1,k,x,v,h,hk,he=>by
   rw[Zm,List.set_cons_succ,Zm,show(i+1)*6+k=(ceV a).length+(i*6+k)from by rw[Z2];omega,List.set_append_right _ _ (by omega),Nat.add_sub_cancel_left,zha cs i k x v (by simpa using h) hk he]
theorem zfi:∀(us vs:List Value) (k:Nat),k+us.length<=vs.length->za0 vs k us=vs.take k++us++vs.drop (k+us.length)
  |[],vs,k,h=>by simp[za0]
  |u::us,vs,k,h=>by
   simp only[List.length_cons]at h⊢
   have hk:k<vs.length:=by omega
   simp only[za0]
   rw[zfi us _ (k+1) (by rw[List.length_set];omega),List.take_set,List.drop_set_of_lt (by omega)]
   rw[List.take_succ_eq_append_getElem hk,List.set_append_right _ _ (by rw[List.length_take];exact Nat.min_le_left _ _),List.length_take,Nat.min_eq_left (by omega),Nat.sub_self]
   simp only[List.set_cons_zero,List.append_assoc,List.cons_append,List.nil_append]
   rw[show k+1+us.length=k+(us.length+1)from by omega]
theorem zbX{P:Program}{e:TypeId}{s g n c off:Nat}(us:List Value){vs:List Value}{w:World}(h:Row w e s (some ⟨g,0,none⟩) n vs c)(h1:∀u∈us,u.oneCell'=true)(hl:off+us.length<=n*s):
    ∃w',(storeCells ⟨g,off,none⟩ us).run P w= .ok () w'/\Row w' e s (some ⟨g,0,none⟩) n (za0 vs off us) c/\Fr (fun b=>b=g) w w'/\KO w w':=by
  obtain⟨w',h2,⟨h3,h4⟩,h5⟩:=zc3 (P:=P) us 0 w (fun w'=>Row w' e s (some ⟨g,0,none⟩) n (za0 vs off us) c/\Fr (fun b=>b=g) w w') (QF us 0 h h1 (by omega) fun w' hr hf=>⟨hr,hf⟩)
  exact⟨w',h2,h3,h4,h5⟩
theorem zl5{w:World}{b:Nat}{t:TypeId}{cur:Array Value}(h:w.heap[b]? =some (.cells cur t))(us:List Value)(hl:us.length=cur.size)(hm:us.length<=maxLen)(h1:∀u∈us,u.oneCell'=true){K:World->Prop}
    (hk:∀w',w'.heap[b]? =some (.cells us.toArray t)->Fr (fun q=>q=b) w w'->K w'):zaE b 0 0 us w K:=by
  have hR:Row w t 1 (some ⟨b,0,none⟩) us.length cur.toList us.length:=⟨by rw[Array.length_toList];omega, .inr ⟨b,cur,rfl,h,Nat.le_refl _,hm,by omega,List.take_of_length_le (by rw[Array.length_toList];omega)⟩⟩
  refine QF us 0 hR h1 (by omega) fun w' hr hf=>hk w' ?_ hf
  have hcl:cur.toList.length=us.length:=by rw[Array.length_toList,hl]
  have hse:za0 cur.toList (0+0) us=us:=by
    rw[zfi us cur.toList (0+0) (by rw[hcl];omega),show(0+0:Nat)=0 from rfl,Nat.zero_add,List.take_zero,List.nil_append,List.drop_eq_nil_of_le (by rw[hcl];exact Nat.le_refl _),List.append_nil]
  rw[hse]at hr
  rcases hr.2 with⟨h2,_⟩|⟨g,c2,h2,h3,h4,h5,h6,h7⟩
  ·cases h2
  ·cases h2
   rw[h3]
   have:c2=us.toArray:=by
     apply Array.toList_inj.1
     rw[<-h7,List.take_of_length_le (by rw[Array.length_toList];omega)]
   rw[this]
theorem zts{P:Program}{w:World}{dT sT ty e:TypeId}{i:TypeInfo}{s g n c m cx dn:Nat}{sa:Option Addr}{vs us:List Value}(hu:P.underlying dT=some (.slice e))(hi:P.info? e=some i)(hs:i.size=s)(h:Row w e s (some ⟨g,0,none⟩) n vs c)
    (hsa:CellsAt w sa us) (hl:us.length=m*s) (hm:m<=n) (h1:∀u∈us,u.oneCell'=true):
    ∃w',zcF P #[dT,sT] ty (.slice (some ⟨g,0,none⟩) n dn) (.slice sa m cx) w m w'/\KO w w'/\Row w' e s (some ⟨g,0,none⟩) n (za0 vs 0 us) c/\Fr (fun b=>b=g) w w':=by
  obtain⟨w',h2,h3,h4,h5⟩:=zbX (P:=P) (off:=0) us h h1 (by rw[hl,Nat.zero_add];exact Nat.mul_le_mul_right _ hm)
  refine⟨w',?_,h5,h3,h4⟩
  have hmin:Nat.min m n=m:=Nat.min_eq_left hm
  have hfc:(Builtin.firstCells s m (.slice sa m cx)).run P w= .ok us.toArray w:=by
    rcases hsa with hn|⟨b,o,rfl,hc⟩
    ·subst hn
     have h0:m*s=0:=by simpa using hl.symm
     cases sa with
     |none=>rfl
     |some a=>simp[Builtin.firstCells,h0,loadCells,loadCellsFrom]
    ·have:=run_loadCells_list (P:=P) w ⟨b,o,none⟩ us (fun j v hj=>by rw[add_lit];exact hc j v hj)
     rw[hl]at this
     simp[Builtin.firstCells,this]
  unfold zcF
  simp only[Builtin.copy_,run_underlying hu,Builtin.lenOf,sizeOf,typeInfo,hi,hs,Sem.run_bind,Sem.run_pure,Result.andThen,run_program,List.getElem?_toArray,List.getElem?_cons_zero,List.getElem?_cons_succ,hmin,hfc,List.toList_toArray,h2,goInt]
theorem zx7(i:Nat)(h:i<6):(ceV (zr 0)).toArray[i]! =(ceV (zr 0)).getD i .nilFunc:=by
  rcases(by omega:i=0\/i=1\/i=2\/i=3\/i=4\/i=5)with rfl|rfl|rfl|rfl|rfl|rfl<;>rfl
theorem zhW(n:Nat):((Array.range (n*6)).map fun i=>(ceV (zr 0)).toArray[i%6]!).toList=qn (List.replicate n (zr 0)):=by
  apply List.ext_getElem?
  intro i
  rw[Array.getElem?_toList,Array.getElem?_map]
  by_cases h:i<n*6
  ·have h6:i%6<6:=Nat.mod_lt _ (by decide)
   have hd:i / 6<n:=by omega
   rw[Array.getElem?_range,if_pos h,show i=i / 6*6+i%6 from by omega,zm2 _ (by simpa using hd) h6]
   have hc:zg (List.replicate n (zr 0)) (i / 6)=zr 0:=by
     unfold zg;rw[List.getD_eq_getElem?_getD,List.getElem?_replicate,if_pos hd];rfl
   rw[hc,show i / 6*6+i%6=i from by omega]
   simp only[Option.map_some]
   rw[zx7 _ h6,List.getD_eq_getElem?_getD,List.getElem?_eq_getElem (by rw[Z2];exact h6)]
   rfl
  ·rw[Array.getElem?_range,if_neg h]
   rw[List.getElem?_eq_none (by rw[zW];simp;omega)]
   rfl
theorem zcI(n:Nat):(Builtin.zeroCells (ceV (zr 0)).toArray n).toList=qn (List.replicate n (zr 0)):=zhW n
theorem ZZ(n:Nat):(Zx (ceV (zr 0)).toArray n).toList=qn (List.replicate n (zr 0)):=zhW n
theorem zio{P:Program}{w:World}{t ty e:TypeId}{z:Value}{g n c k m cx:Nat}{cs:List Ce}(ht:P.underlying t=some (.slice e))(hz:Q6 P e=some z)(hzc:z.cells=(ceV (zr 0)).toArray)
    (h:Row w e 6 (some ⟨g,0,none⟩) n (qn cs) c) (hk:k+m=n):
    ∃w',zd1 P #[t] ty (.slice (some ⟨g,k*6,none⟩) m cx) w w'/\KO w w'/\Row w' e 6 (some ⟨g,0,none⟩) n (qn (cs.take k++List.replicate m (zr 0))) c/\Fr (fun b=>b=g) w w':=by
  have hn:=h.1
  rw[zW]at hn
  have hlen:cs.length=n:=by omega
  by_cases hm:m=0
  ·subst hm
   refine⟨w,?_,KOE.refl _ _,?_,Fr.refl _ _⟩
   ·unfold zd1
    simp[Builtin.clear_,run_underlying ht]
   ·rw[List.take_of_length_le (by omega)];simpa using h
  ·obtain⟨w',h2,h3,h4,h5⟩:=zbX (P:=P) (off:=k*6) (qn (List.replicate m (zr 0))) h (zaf _) (by rw[zW,List.length_replicate];omega)
   refine⟨w',?_,h5,?_,h4⟩
   ·unfold zd1
    obtain⟨m',rfl⟩:∃m',m=m'+1:=⟨m - 1,by omega⟩
    have hzr:=za9 hz
    have hzl:=zcI (m'+1)
    simp only[Builtin.clear_,Sem.run_bind,run_underlying ht,Result.andThen,hzr,hzc,hzl,h2,List.getElem?_toArray,List.getElem?_cons_zero,Sem.run_pure]
   ·rw[zfi _ _ _ (by rw[zW,zW,List.length_replicate];omega),zlj,zW,List.length_replicate,show k*6+m*6=n*6 from by omega,List.drop_eq_nil_of_le (by rw[zW];omega),List.append_nil,<-zdd]at h3
    exact h3
end
end Go.Proofs.YtjdohhididpomaaGreatDoor
