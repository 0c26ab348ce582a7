/-
  Texts joined by program: Uq, Us, Sx, Sj, WkSa, SpSt, VgSt, WkSt.
-/
import Derived.Test.YtjdohhididpomaaGreatDoorWg05
import Derived.Test.YtjdohhididpomaaGreatDoorWg12
import Derived.Test.YtjdohhididpomaaGreatDoorSh
import Derived.Test.YtjdohhididpomaaGreatDoorWg09
import Derived.Test.YtjdohhididpomaaGreatDoorWg11
import Derived.Test.YtjdohhididpomaaGreatDoorProg
import Derived.KernelRfl
import Derived.Test.YtjdohhididpomaaGreatDoorWg10
set_option linter.unusedVariables false
set_option linter.unusedSimpArgs false

namespace Go.Proofs.YtjdohhididpomaaGreatDoor
section
namespace Ut
open Go Vc
def okC(c:Nat):Prop:=c<55296\/57344<=c/\c<=1114111
theorem zwm(r:Int):okC (zG r):=by unfold okC zG;split<;>omega
theorem zqm{r:Int}(h:0<=r)(hr:okC r.toNat):(zG r:Int)=r:=by
  unfold okC at hr;unfold zG;rw[if_pos (by omega)];omega
theorem zwr{s:ByteArray}{i c:Nat}(hc:okC c)(hb:∀j,j<(Za c).length->bt s (i+j)=(Za c).getD j 0)(hl:i+(Za c).length<=s.size):Utf8.decode s i=(c,(Za c).length):=by
  unfold okC at hc
  rw[zaQ]
  have hb0:=hb 0;have hb1:=hb 1;have hb2:=hb 2;have hb3:=hb 3
  rw[Nat.add_zero]at hb0
  clear hb
  unfold Lib.decodeN
  by_cases h1:c<128
  ·have e:Za c=[c]:=by unfold Za;rw[if_pos h1]
   rw[e]at hb0⊢
   have b0:=hb0 (by simp)
   simp only[List.getD_cons_zero]at b0
   rw[b0,if_pos h1];rfl
  by_cases h2:c<2048
  ·have e:Za c=[192+c / 64,128+c%64]:=by unfold Za;rw[if_neg h1,if_pos h2]
   rw[e]at hb0 hb1 hl⊢
   have b0:=hb0 (by simp);have b1:=hb1 (by simp)
   simp only[List.getD_cons_zero,List.getD_cons_succ,List.length_cons,List.length_nil]at b0 b1 hl
   rw[b0,b1,if_neg (by omega),if_pos ⟨by omega,by omega,by omega⟩,if_pos (by omega)]
   refine Prod.ext ?_ rfl
   dsimp only
   clear hb0 hb1 hb2 hb3 hl e
   omega
  by_cases h3:c<65536
  ·have e:Za c=[224+c / 4096,128+c / 64%64,128+c%64]:=by unfold Za;rw[if_neg h1,if_neg h2,if_pos h3]
   rw[e]at hb0 hb1 hb2 hl⊢
   have b0:=hb0 (by simp);have b1:=hb1 (by simp);have b2:=hb2 (by simp)
   simp only[List.getD_cons_zero,List.getD_cons_succ,List.length_cons,List.length_nil]at b0 b1 b2 hl
   rw[b0,b1,b2,if_neg (by omega),if_neg (by omega),if_pos ⟨by omega,⟨by omega,by omega⟩,by omega,by omega⟩,if_pos (by omega)]
   refine Prod.ext ?_ rfl
   dsimp only
   clear hb0 hb1 hb2 hb3 hl e
   omega
  ·have e:Za c=[240+c / 262144,128+c / 4096%64,128+c / 64%64,128+c%64]:=by unfold Za;rw[if_neg h1,if_neg h2,if_neg h3]
   rw[e]at hb0 hb1 hb2 hb3 hl⊢
   have b0:=hb0 (by simp);have b1:=hb1 (by simp);have b2:=hb2 (by simp);have b3:=hb3 (by simp)
   simp only[List.getD_cons_zero,List.getD_cons_succ,List.length_cons,List.length_nil]at b0 b1 b2 b3 hl
   rw[b0,b1,b2,b3,if_neg (by omega),if_neg (by omega),if_neg (by omega),if_pos ⟨by omega,⟨by omega,by omega⟩,⟨by omega,by omega⟩,by omega,by omega⟩]
   have k2:c / 64 / 64=c / 4096:=by omega
   have k3:c / 4096 / 64=c / 262144:=by omega
   clear hb0 hb1 hb2 hb3 hl e b0 b1 b2 b3
   have k:(240+c / 262144)%8*262144+(128+c / 4096%64)%64*4096+(128+c / 64%64)%64*64+(128+c%64)%64=c:=by omega
   rw[k,if_pos (by omega)];rfl
theorem zyn(s:ByteArray)(i:Nat):okC (dcR s i).toNat:=by
  unfold okC dcR
  rw[zaQ]
  have h0:=QO s i;have h1:=QO s (i+1);have h2:=QO s (i+2)
  unfold Lib.decodeN
  repeat' split
  all_goals simp only[Int.toNat_natCast]
  all_goals omega
def zau(xs:List Int):List Nat:=xs.flatMap fun r=>Za (zG r)
theorem zoN(xs:List Int)(j:Nat):bt (runesBytes xs) j=(zau xs).getD j 0:=by
  by_cases h:j<(xs.flatMap Zh).length
  ·have:=zc1 xs j h
   unfold bt
   rw[this,Qv]
   rw[Qv,List.length_map]at h
   simp only[zau,List.getD_eq_getElem?_getD,List.getElem?_map,List.getElem?_eq_getElem h,Option.map_some,Option.getD_some,Int.toNat_natCast]
  ·rw[znB (by rw[Qj];omega)]
   rw[Qv,List.length_map]at h
   simp only[zau,List.getD_eq_getElem?_getD,List.getElem?_eq_none (Nat.le_of_not_lt h)];rfl
theorem zcN(xs:List Int):(runesBytes xs).size=(zau xs).length:=by
  rw[Qj,Qv,List.length_map];rfl
theorem zeN{xs:List Int}{n:Nat}(h:n<xs.length):∃r,zau xs=zau (xs.take n)++(Za (zG (xs.getD n 0))++r)/\zau (xs.take (n+1))=zau (xs.take n)++Za (zG (xs.getD n 0)):=by
  have e1:xs.take (n+1)=xs.take n++[xs.getD n 0]:=by
    rw[List.take_add_one,List.getD_eq_getElem?_getD,List.getElem?_eq_getElem h];rfl
  have e2:zau (xs.take (n+1))=zau (xs.take n)++Za (zG (xs.getD n 0)):=by rw[e1];unfold zau;rw[List.flatMap_append];simp
  refine⟨zau (xs.drop (n+1)),?_,e2⟩
  rw[<-List.append_assoc,<-e2]
  unfold zau
  rw[<-List.flatMap_append,List.take_append_drop]
theorem zf8(xs:List Int):∀n,n<=xs.length->pos (runesBytes xs) n=(zau (xs.take n)).length/\(n<xs.length->Utf8.decode (runesBytes xs) (pos (runesBytes xs) n)=(zG (xs.getD n 0),(Za (zG (xs.getD n 0))).length)/\pos (runesBytes xs) n<(runesBytes xs).size):=by
  have step:∀n,n<xs.length->pos (runesBytes xs) n=(zau (xs.take n)).length->Utf8.decode (runesBytes xs) (pos (runesBytes xs) n)=(zG (xs.getD n 0),(Za (zG (xs.getD n 0))).length)/\pos (runesBytes xs) n<(runesBytes xs).size:=by
    intro n hn hp
    obtain⟨r,hr,_⟩:=zeN hn
    have hlen:=zht (zG (xs.getD n 0))
    have hsz:(zau xs).length=(zau (xs.take n)).length+((Za (zG (xs.getD n 0))).length+r.length):=by rw[hr,List.length_append,List.length_append]
    refine⟨zwr (zwm _) (fun j hj=> ?_) ?_,?_⟩
    ·rw[zoN,hp,hr,List.getD_eq_getElem?_getD,List.getElem?_append_right (by omega),Nat.add_sub_cancel_left,List.getElem?_append_left hj,<-List.getD_eq_getElem?_getD]
    ·rw[zcN,hp];omega
    ·rw[zcN,hp];omega
  intro n
  induction n with
  |zero=>intro _;exact⟨by simp[pos,zau],fun h=>step 0 h (by simp[pos,zau])⟩
  |succ n ih=>
   intro hn
   obtain⟨h1,h2⟩:=ih (by omega)
   obtain⟨h3,h4⟩:=h2 (by omega)
   obtain⟨r,_,hr⟩:=zeN (show n<xs.length by omega)
   have h5:pos (runesBytes xs) (n+1)=(zau (xs.take (n+1))).length:=by
     rw[qn h4]
     unfold Qh
     rw[h3,h1,hr,List.length_append]
   exact⟨h5,fun h=>step (n+1) h h5⟩
theorem zf9(xs:List Int):cnt (runesBytes xs)=xs.length:=by
  have h1:=(zf8 xs xs.length (Nat.le_refl _)).1
  rw[List.take_length,<-zcN]at h1
  have h2:¬xs.length<cnt (runesBytes xs):=fun h=>by have:=qK.1 h;omega
  by_cases h3:cnt (runesBytes xs)<xs.length
  ·have:=((zf8 xs _ (by omega)).2 h3).2
   rw[ZJ]at this;omega
  ·omega
theorem znO{xs:List Int}{n:Nat}(h:n<xs.length):dcR (runesBytes xs) (pos (runesBytes xs) n)=(zG (xs.getD n 0):Int)/\Qh (runesBytes xs) (pos (runesBytes xs) n)=(Za (zG (xs.getD n 0))).length:=by
  have:=((zf8 xs n (by omega)).2 h).1
  unfold dcR Qh;rw[this];exact⟨rfl,rfl⟩
theorem zbz(xs:List Int):zo (runesBytes xs)=xs.map fun r=>(zG r:Int):=by
  apply List.ext_getElem?
  intro n
  by_cases h:n<xs.length
  ·have:=znO h
   simp only[zo,List.getElem?_map,List.getElem?_range (show n<cnt (runesBytes xs) by rw[zf9];exact h),List.getElem?_eq_getElem h,Option.map_some]
   rw[this.1,List.getD_eq_getElem?_getD,List.getElem?_eq_getElem h];rfl
  ·rw[List.getElem?_eq_none (by rw[zN,zf9];omega),List.getElem?_eq_none (by rw[List.length_map];omega)]
theorem ztu{c:Nat}(h:(Za c).length=1):c<128:=by
  unfold Za at h
  by_cases h1:c<128
  ·exact h1
  ·rw[if_neg h1]at h
   repeat' split at h
   all_goals simp at h
theorem zf7(xs:List Int):zC (runesBytes xs)=true:=by
  unfold zC
  rw[List.all_eq_true]
  intro n hn
  rw[List.mem_range,zf9]at hn
  have:=znO hn
  unfold zz
  rw[this.1,this.2]
  simp only[Bool.not_eq_true',decide_eq_false_iff_not]
  rintro⟨h1,h2⟩
  have:=ztu h1;omega
theorem zwk{s:ByteArray}{i:Nat}(hi:i<s.size)(hb:¬(Qh s i=1/\dcR s i=65533)):(Za (dcR s i).toNat).length=Qh s i/\∀j,j<Qh s i->bt s (i+j)=(Za (dcR s i).toNat).getD j 0:=by
  unfold dcR Qh at*
  rw[zaQ]at*
  have h0:=QO s i;have h1:=QO s (i+1);have h2:=QO s (i+2);have h3:=QO s (i+3)
  generalize e0:bt s i=b0 at*
  generalize e1:bt s (i+1)=b1 at*
  generalize e2:bt s (i+2)=b2 at*
  generalize e3:bt s (i+3)=b3 at*
  generalize s.size - i=n at*
  unfold Lib.decodeN at*
  by_cases k1:b0<128
  ·rw[if_pos k1]at*
   simp only[Int.toNat_natCast]
   have e:Za b0=[b0]:=by unfold Za;rw[if_pos k1]
   rw[e]
   refine⟨rfl,fun j hj=> ?_⟩
   obtain rfl:j=0:=by omega
   rw[Nat.add_zero];exact e0
  rw[if_neg k1]at*
  by_cases k2:b0 / 32=6/\(1<n/\b1 / 64=2)
  ·rw[if_pos k2]at*
   by_cases k3:b0%32*64+b1%64>=128
   ·rw[if_pos k3]at*
    simp only[Int.toNat_natCast]
    have e:Za (b0%32*64+b1%64)=[b0,b1]:=by
      unfold Za;rw[if_neg (by omega),if_pos (by omega)]
      congr 1
      ·omega
      ·congr 1;omega
    rw[e]
    refine⟨rfl,fun j hj=> ?_⟩
    have:j=0\/j=1:=by omega
    rcases this with rfl|rfl
    ·rw[Nat.add_zero];exact e0
    ·exact e1
   ·rw[if_neg k3]at hb;exact absurd ⟨rfl,rfl⟩ hb
  rw[if_neg k2]at*
  by_cases k4:b0 / 16=14/\(1<n/\b1 / 64=2)/\(2<n/\b2 / 64=2)
  ·rw[if_pos k4]at*
   by_cases k5:b0%16*4096+b1%64*64+b2%64>=2048/\(b0%16*4096+b1%64*64+b2%64<55296\/(57344<=b0%16*4096+b1%64*64+b2%64/\b0%16*4096+b1%64*64+b2%64<=1114111))
   ·rw[if_pos k5]at*
    simp only[Int.toNat_natCast]
    have e:Za (b0%16*4096+b1%64*64+b2%64)=[b0,b1,b2]:=by
      unfold Za;rw[if_neg (by omega),if_neg (by omega),if_pos (by omega)]
      congr 1
      ·omega
      ·congr 1
       ·omega
       ·congr 1;omega
    rw[e]
    refine⟨rfl,fun j hj=> ?_⟩
    have:j=0\/j=1\/j=2:=by omega
    rcases this with rfl|rfl|rfl
    ·rw[Nat.add_zero];exact e0
    ·exact e1
    ·exact e2
   ·rw[if_neg k5]at hb;exact absurd ⟨rfl,rfl⟩ hb
  rw[if_neg k4]at*
  by_cases k6:b0 / 8=30/\(1<n/\b1 / 64=2)/\(2<n/\b2 / 64=2)/\(3<n/\b3 / 64=2)
  ·rw[if_pos k6]at*
   by_cases k7:b0%8*262144+b1%64*4096+b2%64*64+b3%64>=65536/\(b0%8*262144+b1%64*4096+b2%64*64+b3%64<55296\/(57344<=b0%8*262144+b1%64*4096+b2%64*64+b3%64/\b0%8*262144+b1%64*4096+b2%64*64+b3%64<=1114111))
   ·rw[if_pos k7]at*
    simp only[Int.toNat_natCast]
    have e:Za (b0%8*262144+b1%64*4096+b2%64*64+b3%64)=[b0,b1,b2,b3]:=by
      unfold Za;rw[if_neg (by omega),if_neg (by omega),if_neg (by omega)]
      congr 1
      ·omega
      ·congr 1
       ·omega
       ·congr 1
        ·omega
        ·congr 1;omega
    rw[e]
    refine⟨rfl,fun j hj=> ?_⟩
    have:j=0\/j=1\/j=2\/j=3:=by omega
    rcases this with rfl|rfl|rfl|rfl
    ·rw[Nat.add_zero];exact e0
    ·exact e1
    ·exact e2
    ·exact e3
   ·rw[if_neg k7]at hb;exact absurd ⟨rfl,rfl⟩ hb
  ·rw[if_neg k6]at hb;exact absurd ⟨rfl,rfl⟩ hb
theorem zdd{s:ByteArray}(h:zC s=true):runesBytes (zo s)=s:=by
  have hv:∀n,n<cnt s->zz s n=false:=by
    unfold zC at h
    rw[List.all_eq_true]at h
    intro n hn
    simpa using h n (by simpa using hn)
  have key:∀n,n<=cnt s->(zau ((zo s).take n)).length=pos s n/\∀j,j<pos s n->bt s j=(zau ((zo s).take n)).getD j 0:=by
    intro n
    induction n with
    |zero=>intro _;exact⟨by simp[zau,pos],fun j hj=>by simp[pos]at hj⟩
    |succ n ih=>
     intro hn
     obtain⟨h1,h2⟩:=ih (by omega)
     have hp:=qK.1 (show n<cnt s by omega)
     have hnb:=hv n (by omega)
     unfold zz at hnb
     simp only[decide_eq_false_iff_not]at hnb
     obtain⟨h3,h4⟩:=zwk hp hnb
     obtain⟨r,_,hr⟩:=zeN (xs:=zo s) (show n<(zo s).length by rw[zN];omega)
     have hc:zG ((zo s).getD n 0)=(dcR s (pos s n)).toNat:=by
       rw[Zj (by omega)]
       have:=zqm (zbU s (pos s n)) (zyn s (pos s n))
       omega
     rw[hc]at hr
     have h5:(zau ((zo s).take (n+1))).length=pos s (n+1):=by rw[hr,List.length_append,h1,h3,qn hp]
     refine⟨h5,fun j hj=> ?_⟩
     rw[hr,List.getD_eq_getElem?_getD]
     by_cases hjp:j<pos s n
     ·rw[List.getElem?_append_left (by omega),<-List.getD_eq_getElem?_getD];exact h2 j hjp
     ·rw[List.getElem?_append_right (by omega),h1,<-List.getD_eq_getElem?_getD]
      rw[qn hp]at hj
      have:=h4 (j - pos s n) (by omega)
      rwa [show pos s n+(j - pos s n)=j from by omega]at this
  obtain⟨h1,h2⟩:=key (cnt s) (Nat.le_refl _)
  rw[ZJ,List.take_of_length_le (by rw[zN];exact Nat.le_refl _)]at h1 h2
  apply ByteArray.ext
  apply Array.ext'
  apply List.ext_getElem?
  intro j
  have hs1:=qH s
  have hs2:=qH (runesBytes (zo s))
  rw[zcN]at hs2
  by_cases hj:j<s.size
  ·have:=(h2 j hj).trans (zoN (zo s) j).symm
   unfold bt at this
   rw[List.getD_eq_getElem?_getD,List.getD_eq_getElem?_getD,List.getElem?_eq_getElem (by omega),List.getElem?_eq_getElem (by omega)]at this
   simp only[Option.getD_some]at this
   rw[List.getElem?_eq_getElem (by omega),List.getElem?_eq_getElem (by omega)]
   congr 1
   exact(UInt8.toNat_inj.1 this).symm
  ·rw[List.getElem?_eq_none (by omega),List.getElem?_eq_none (by omega)]
end Ut
end

section
namespace Ut
open Go Vc
theorem zh5{xs ys:List Int}(hl:xs.length=ys.length)(h:∀i,i<xs.length->xs.getD i 0=ys.getD i 0):xs=ys:=by
  refine List.ext_getElem hl fun i h1 h2=> ?_
  have:=h i h1
  rw[List.getD_eq_getElem?_getD,List.getD_eq_getElem?_getD,List.getElem?_eq_getElem h1,List.getElem?_eq_getElem h2]at this
  exact this
theorem zkI{s:ByteArray}{k:Nat}(hk:k<=cnt s):zo (s.extract 0 (pos s k))++zo (s.extract (pos s k) s.size)=zo s:=by
  have l1:=Zk hk
  have l2:=zbp hk
  refine zh5 (by rw[List.length_append,zN,zN,zN];omega) fun i hi=> ?_
  rw[List.length_append,zN,zN]at hi
  rw[Zj (by omega)]
  by_cases h:i<k
  ·rw[List.getD_eq_getElem?_getD,List.getElem?_append_left (by rw[zN];omega),<-List.getD_eq_getElem?_getD,Zj (by omega),zbh (by omega) hk]
   unfold dcR;rw[zfM h hk]
  ·rw[List.getD_eq_getElem?_getD,List.getElem?_append_right (by rw[zN];omega),<-List.getD_eq_getElem?_getD,zN,l1,Zj (by omega)]
   unfold dcR;rw[zd5]
   rw[show k+(i - k)=i by omega]
theorem zcO{s:ByteArray}{k:Nat}(hk:k<cnt s):QM (s.extract (pos s k) s.size)=Qh s (pos s k)/\nxR (s.extract (pos s k) s.size)=dcR s (pos s k):=by
  have hp:=qK.1 hk
  have hs:=zS (s:=s) (a:=pos s k) (b:=s.size) (Nat.le_refl _)
  have hd:=zah s (Nat.le_of_lt hp) 0
  rw[Nat.add_zero]at hd
  unfold QM nxR
  rw[if_neg (by omega),if_neg (by omega)]
  unfold Qh dcR
  rw[hd];exact⟨rfl,rfl⟩
end Ut
end

section
open Go Vc Ut Tb Cl Orb
theorem qN{k:ByteArray}(h:Zc k=1):0<cnt k/\zy k 0=cnt k/\bp k 1=k.size:=by
  have h0:(0:Nat)<Zc k:=by omega
  have hc:0<cnt k:=Nat.lt_of_le_of_lt (Nat.zero_le _) (zda.1 h0)
  refine⟨hc,?_,?_⟩
  ·have h1:=zfV h0
   have h2:=ztW k
   rw[h]at h2
   rw[show bk k 0=0 from rfl]at h1
   simp only[Nat.zero_add]at h1
   omega
  ·have:=zyq k;rwa [h]at this
theorem zpS{k:ByteArray}(h:Zc k=1)(hb:zz k 0=false):zC k=true:=by
  obtain⟨h0,hf,_⟩:=qN h
  unfold zC
  rw[List.all_eq_true]
  intro n hn
  rw[List.mem_range]at hn
  cases hbn:zz k n with
  |false=>rfl
  |true=>
   have:=(zqD (s:=k) (k:=0) (m:=n) (by omega) (by rw[Nat.zero_add];exact hbn)).1
   subst this;rw[hb]at hbn;cases hbn
theorem zaC{k:ByteArray}(h:zC k=true){m:Nat}(hm:m<=cnt k):runesBytes ((zo k).take m)=k.extract 0 (pos k m):=by
  have hv:zC (k.extract 0 (pos k m))=true:=by
    unfold zC at h⊢
    rw[List.all_eq_true]at h⊢
    intro n hn
    rw[List.mem_range,Zk hm]at hn
    rw[zcy hn hm]
    exact h n (List.mem_range.2 (by omega))
  have hs:=zkI hm
  have hl:(zo (k.extract 0 (pos k m))).length=m:=by rw[zN,Zk hm]
  rw[<-hs,List.take_left' hl,zdd hv]
theorem zwg(k:ByteArray):k.extract 0 k.size=k:=by
  exact ByteArray.extract_zero_size
theorem one_le{k:ByteArray}(h:Zc k=1):cnt k<=32:=by
  obtain⟨h0,hf,_⟩:=qN h
  have:=ztq k h0;omega
theorem ztH{k:ByteArray}(h:Zc k=1)(hb:zz k 0=false){m:Nat}(hm:m=if 31<cnt k then 31 else cnt k):runesBytes ((zo k).take m)=zcv k:=by
  have h32:=one_le h
  have hv:=zpS h hb
  unfold zcv
  by_cases hc:cnt k=32
  ·rw[if_pos hc,hm,if_pos (by omega),zaC hv (by omega)]
  ·rw[if_neg hc,hm,if_neg (by omega),zaC hv (Nat.le_refl _),ZJ,zwg]
theorem zlR{a b:ByteArray}(hs:a.size=b.size)(h:∀i,i<a.size->bt a i=bt b i):a=b:=by
  apply ByteArray.ext
  apply Array.ext (h₁:=hs)
  intro i h1 h2
  have:=h i h1
  unfold bt at this
  have e1:a.data.toList.getD i 0=a.data[i]:=by rw[List.getD_eq_getElem?_getD,List.getElem?_eq_getElem (by rw[Array.length_toList];exact h1),Array.getElem_toList];rfl
  have e2:b.data.toList.getD i 0=b.data[i]:=by rw[List.getD_eq_getElem?_getD,List.getElem?_eq_getElem (by rw[Array.length_toList];exact h2),Array.getElem_toList];rfl
  rw[e1,e2]at this
  exact UInt8.toNat_inj.1 this
theorem zyR(a:Nat):zge a 0=false:=by unfold zge;split<;>rfl
theorem zuL(x z:Int)(n:Nat):qg x z 10 n=false:=by
  have h1:zn 10=0:=by decide+kernel
  have h2:qr 10=0:=by decide
  unfold qg qs qS
  rw[h1,h2,zyR]
  simp[qj,qh]
theorem zsn{k:ByteArray}(h:Zc k=1):(sg k 0=10\/qf k=10) ↔ (k=⟨#[10]⟩\/k=⟨#[13,10]⟩):=by
  obtain⟨h0,hf,_⟩:=qN h
  have hs0:0<k.size:=Nat.lt_of_lt_of_le h0 (Z3 k)
  constructor
  ·rintro(h10|h10)
   ·left
    obtain⟨e1,e2⟩:=zhz (s:=k) (i:=0) (by show sg k 0<128;rw[h10];decide)
    have e2:(bt k 0:Int)=10:=by rw[<-e2];exact h10
    have hf1:zy k 0=1:=by
      unfold zy
      split
      ·rfl
      ·rw[if_neg (by unfold crB;rw[h10];simp),if_pos (by rw[h10];decide+kernel)]
    have hsz:k.size=1:=by
      rw[<-ZJ k,<-hf,hf1,qn (n:=0) hs0,show pos k 0=0 from rfl,e1]
    exact zlR hsz fun i hi=>by
      have:i=0:=by omega
      subst this
      show bt k 0=10
      omega
   ·right
    unfold qf at h10
    by_cases hc:1<cnt k
    ·rw[if_pos hc]at h10
     have hf2:=hf
     unfold zy at hf2
     by_cases hb:zz k 0=true
     ·rw[if_pos hb]at hf2;omega
     ·rw[if_neg hb]at hf2
      by_cases hcr:crB k 0=true
      ·rw[if_pos hcr]at hf2
       have h13:sg k 0=13:=by unfold crB at hcr;rw[Bool.and_eq_true]at hcr;simpa using hcr.1
       obtain⟨p1,hi,p2⟩:=zxs hs0 h13
       obtain⟨h1,b1⟩:=hi.1 hcr
       have p2:=p2 hcr
       obtain⟨_,e2⟩:=zhz (s:=k) (i:=0) (by show sg k 0<128;rw[h13];decide)
       have e2:(bt k 0:Int)=13:=by rw[<-e2];exact h13
       have hsz:k.size=2:=by rw[<-ZJ k,<-hf2,p2]
       exact zlR hsz fun i hi=>by
         rcases(show i=0\/i=1 by omega)with rfl|rfl
         ·show bt k 0=13;omega
         ·show bt k 1=10;exact b1
      ·rw[if_neg hcr]at hf2
       split at hf2
       ·omega
       ·exfalso
        have hg:=zjT (s:=k) (k:=0) (f:=32) (n:=1) (m:=1) (Nat.le_refl _) (by omega)
        unfold qR at hg
        rw[show(0:Nat)+1=1 from rfl,h10,zuL]at hg
        simp at hg
    ·rw[if_neg hc]at h10;exact absurd h10 (by decide)
  ·rintro(rfl|rfl)
   ·left;decide+kernel
   ·right;decide+kernel
section cases
variable {k : ByteArray} {col : Int} {l : Lk}
theorem zk7(hb:zz k 0=true):zU k col l=(zqE (bt k 0),4):=by unfold zU;rw[if_pos hb]
theorem zdS(hb:zz k 0=false)(h:sg k 0=9):zU k col l=(Qf (qw col l.tab),qw col l.tab):=by
  unfold zU;rw[if_neg (by rw[hb];decide),if_pos h]
theorem zfK(hb:zz k 0=false)(h9:¬sg k 0=9)(h:sg k 0=10\/qf k=10):zU k col l=(⟨#[]⟩,0):=by
  unfold zU;rw[if_neg (by rw[hb];decide),if_neg h9,if_pos h]
theorem zch(hb:zz k 0=false)(h9:¬sg k 0=9)(hn:¬(sg k 0=10\/qf k=10))(h:sg k 0<32\/sg k 0=127):zU k col l=(zeP (sg k 0),2):=by
  unfold zU;rw[if_neg (by rw[hb];decide),if_neg h9,if_neg hn,if_pos h]
theorem zg3(hb:zz k 0=false)(h9:¬sg k 0=9)(hn:¬(sg k 0=10\/qf k=10))(hc:¬(sg k 0<32\/sg k 0=127))(h:Z2 (sg k 0)=true)(hr:l.raw=true):zU k col l=(ZM (sg k 0).toNat,(ZM (sg k 0).toNat).size):=by
  unfold zU;rw[if_neg (by rw[hb];decide),if_neg h9,if_neg hn,if_neg hc,if_pos h,if_pos hr]
theorem zdT(hb:zz k 0=false)(h9:¬sg k 0=9)(hn:¬(sg k 0=10\/qf k=10))(hc:¬(sg k 0<32\/sg k 0=127))(h:Z2 (sg k 0)=true)(hr:l.raw=false):zU k col l=(⟨#[]⟩,0):=by
  unfold zU;rw[if_neg (by rw[hb];decide),if_neg h9,if_neg hn,if_neg hc,if_pos h,if_neg (by rw[hr];decide)]
theorem zez(hb:zz k 0=false)(h9:¬sg k 0=9)(hn:¬(sg k 0=10\/qf k=10))(hc:¬(sg k 0<32\/sg k 0=127))(hf:Z2 (sg k 0)=false)(h:zn (sg k 0)=2\/qj (sg k 0)=true):zU k col l=(⟨#[226,151,140]⟩++zcv k,1):=by
  unfold zU;rw[if_neg (by rw[hb];decide),if_neg h9,if_neg hn,if_neg hc,if_neg (by rw[hf];decide),if_pos h]
theorem zdR(hb:zz k 0=false)(h9:¬sg k 0=9)(hn:¬(sg k 0=10\/qf k=10))(hc:¬(sg k 0<32\/sg k 0=127))(hf:Z2 (sg k 0)=false)(hm:¬(zn (sg k 0)=2\/qj (sg k 0)=true))
    (h:(qh (sg k 0)=true/\qh (qf k)=true)\/(zn (sg k 0)=7/\zY (sg k 0) l.wide=1/\qf k=65039)):zU k col l=(k,2):=by
  unfold zU;rw[if_neg (by rw[hb];decide),if_neg h9,if_neg hn,if_neg hc,if_neg (by rw[hf];decide),if_neg hm,if_pos h]
theorem zdQ(hb:zz k 0=false)(h9:¬sg k 0=9)(hn:¬(sg k 0=10\/qf k=10))(hc:¬(sg k 0<32\/sg k 0=127))(hf:Z2 (sg k 0)=false)(hm:¬(zn (sg k 0)=2\/qj (sg k 0)=true))
    (h2:¬((qh (sg k 0)=true/\qh (qf k)=true)\/(zn (sg k 0)=7/\zY (sg k 0) l.wide=1/\qf k=65039))):
    zU k col l=if zY (sg k 0) l.wide=0 then(⟨#[]⟩,0)else(k,(zY (sg k 0) l.wide).toNat):=by
  unfold zU;rw[if_neg (by rw[hb];decide),if_neg h9,if_neg hn,if_neg hc,if_neg (by rw[hf];decide),if_neg hm,if_neg h2]
end cases
theorem zgc(t:Int):1<=zgd t/\zgd t<=16:=by unfold zgd;split<;>omega
theorem zdD(c t:Int):1<=qw c t/\qw c t<=zgd t:=by
  have h:=zgc t
  have:=Nat.mod_lt c.toNat (show 0<zgd t by omega)
  unfold qw;omega
theorem zeV(r:Int):0<=za2 r:=by
  have h2:(zpc.all fun p=>decide (0<=p.2))=true:=by decide+kernel
  have:∀(l:List (List RC×Int)) (q:Int),l.all (fun p=>decide (0<=p.2))=true->0<=Z1 l 1 q:=by
    intro l q hl
    induction l with
    |nil=>simp[Z1]
    |cons a l ih=>
     rw[List.all_cons,Bool.and_eq_true]at hl
     obtain⟨cs,v⟩:=a
     unfold Z1
     split
     ·simpa using hl.1
     ·exact ih hl.2
  exact this _ _ h2
theorem zf1(r:Int)(b:Bool):0<=zY r b:=by
  unfold zY
  have:0<=za2 r:=zeV r
  split
  ·exact this
  ·split<;>decide
theorem zjI{k:ByteArray}(h:Zc k=1):0<k.size:=by
  obtain⟨h0,_,_⟩:=qN h
  exact Nat.lt_of_lt_of_le h0 (Z3 k)
theorem zlL:∀x:Fin 128,(x.val<32\/x.val=127)->(ByteArray.mk #[94])++runesBytes [IntKind.i32.wrap (↑(BitVec.ofInt IntKind.i32.bits (x.val:Int)^^^BitVec.ofInt IntKind.i32.bits (64:Int)).toNat:Int)]=zeP (x.val:Int):=by decide+kernel
theorem zqq:∀x:Fin 32,(ByteArray.mk #[94])++qA [UInt8.ofNat (x.val+64)]=zeP (x.val:Int):=by decide+kernel
end

section

end

section
open Go Go.RowKit Vc Ut Tb Cl
theorem zbQ{w:World}{b:Nat}{t:TypeId}{l:Lk}(h:w.heap[b]? =some (.cells #[.int .i64 l.tab, .bool l.wide, .int .i8 l.want, .bool l.join, .bool l.raw] t)):
    w.cell? ⟨b,0,none⟩=some (.int .i64 l.tab)/\w.cell? ⟨b,1,none⟩=some (.bool l.wide)/\w.cell? ⟨b,2,none⟩=some (.int .i8 l.want)/\w.cell? ⟨b,3,none⟩=some (.bool l.join)/\w.cell? ⟨b,4,none⟩=some (.bool l.raw):=
  ⟨by rw[za h];rfl,by rw[za h];rfl,by rw[za h];rfl,by rw[za h];rfl,by rw[za h];rfl⟩
theorem ziV{c t:Int}(h1:0<=c)(h:¬(t<1\/16<t)):t - c%t=(qw c t:Int)/\0<=c%t/\c%t<t:=by
  have e:zgd t=t.toNat:=by unfold zgd;rw[if_neg h]
  have h0:=Int.emod_nonneg c (show t≠0 by omega)
  have h2:=Int.emod_lt_of_pos c (show 0<t by omega)
  refine⟨?_,h0,h2⟩
  unfold qw
  rw[e]
  have hm:((c.toNat%t.toNat:Nat):Int)=c%t:=by rw[Int.natCast_emod,Int.toNat_of_nonneg h1,Int.toNat_of_nonneg (by omega)]
  have hl:c.toNat%t.toNat<t.toNat:=Nat.mod_lt _ (by omega)
  omega
theorem zgi{c t:Int}(h1:0<=c)(h:t<1\/16<t):(8:Int) - c%8=(qw c t:Int):=by
  have e:zgd t=8:=by unfold zgd;rw[if_pos h]
  unfold qw
  rw[e];omega
theorem zgh{c t:Int}(h1:c<0):qw c t=qw 0 t:=by
  unfold qw
  rw[show c.toNat=0 from by omega];rfl
theorem znT:ze0.Ok Tryz.prog 97:=by
  refine zuN trivial ?_
  rintro⟨c,l⟩ w _ b w1 hn
  dsimp only
  obtain⟨c0,_⟩:=zbQ hn.heap
  have hc:qw c l.tab=qw (if(0:Int)>c then 0 else c) l.tab:=by
    split
    ·rename_i h;exact zgh h
    ·rfl
  have hp:0<=if(0:Int)>c then 0 else c:=by split<;>omega
  refine⟨l.tab,c0,zb (fun h=> ?_) (fun h=> ?_)⟩
  ·have h:l.tab<1\/16<l.tab:=by simpa using h
   exact⟨hp,by decide,zd (by omega) (by omega),qw c l.tab,by rw[hc,zgi hp h],rfl,hn.ext⟩
  ·have h:¬(l.tab<1\/16<l.tab):=by simpa using h
   obtain⟨e,h3,h4⟩:=ziV hp h
   exact⟨hp,by omega,zd (by omega) (by omega),qw c l.tab,by rw[hc,e],rfl,hn.ext⟩
theorem zxC:ze0.Ok Tryz.prog 103:=by
  refine zxB trivial ?_
  rintro⟨c,l⟩ w _ b w1 hn
  dsimp only
  obtain⟨c0,_⟩:=zbQ hn.heap
  refine⟨l.tab,c0,zb (fun h=> ?_) (fun h=> ?_)⟩
  ·have h:l.tab<1\/16<l.tab:=by simpa using h
   refine zb (fun hc=> ?_) (fun hc=> ?_)
   ·have hc:c<0:=by simpa using hc
    exact⟨by decide,by decide,zd (by decide) (by decide),qw c l.tab,by rw[zgh hc,<-zgi (by decide) h];rfl,rfl,hn.ext⟩
   ·have hc:0<=c:=by simpa using hc
    exact⟨hc,by decide,zd (by omega) (by omega),qw c l.tab,by rw[zgi hc h],rfl,hn.ext⟩
  ·have h:¬(l.tab<1\/16<l.tab):=by simpa using h
   refine zb (fun hc=> ?_) (fun hc=> ?_)
   ·have hc:c<0:=by simpa using hc
    obtain⟨e,h3,h4⟩:=ziV (c:=0) (by decide) h
    exact⟨by decide,by omega,zd (by omega) (by omega),qw c l.tab,by rw[zgh hc,e],rfl,hn.ext⟩
   ·have hc:0<=c:=by simpa using hc
    obtain⟨e,h3,h4⟩:=ziV hc h
    exact⟨hc,by omega,zd (by omega) (by omega),qw c l.tab,by rw[e],rfl,hn.ext⟩
theorem zoK:(sRB qh).Ok Tryz.prog 101:=zwa trivial fun g w _=>⟨_,rfl,rfl,Ext.refl w⟩
theorem zr4:zyV.Ok Tryz.prog 98:=by
  rintro(n:Nat) w h
  have h:n<=16:=h
  refine(Tryz.strings_Repeat ⟨#[32]⟩ n w (by omega) (by show 1*n<=_;omega)).mono ?_
  rintro e w' ⟨he,hb⟩
  refine⟨Qf n,?_,⟨rfl,hb⟩,KO.below hb (Nat.le_refl _)⟩
  have e1:Lib.repeatL [32] n=List.replicate n 32:=by
    have:=Lib.repeatL_replicate 32 1 n
    rwa [Nat.mul_one]at this
  have e2:(Lib.repeatL (ByteArray.mk #[32]).data.toList n).toArray=(List.replicate n 32).toArray:=congrArg List.toArray e1
  rw[he,e2];rfl
theorem zvp:(zh4 false).Ok Tryz.prog 68:=by
  refine zvo ⟨znT,zr4,zbq,zle,zhA,zoK,trivial⟩ ?_
  rintro⟨k,col,l,a,c⟩ w ⟨hlate,hD,hsz,h1,hb,hcap,hcells⟩ b w1 hn
  dsimp only at hlate hD hsz h1 hb hcap hcells⊢
  obtain⟨h0,hf,_⟩:=qN h1
  obtain⟨c0,c1,c2,c3,c4⟩:=zbQ (l:=l) hn.heap
  have hE:Ext w w1:=hn.ext
  have hcell1:=hcells.ext hE
  have hlen:=zN k
  have r0:(zo k).getD 0 0=sg k 0:=Zj h0
  have hsg0:0<=sg k 0:=zbU k _
  have hsg1:sg k 0<=1114111:=znt k _
  have hkl:k.size<=67108864:=hsz
  refine⟨0,rfl,h0,hcell1.int (i:=0) (by omega) fun b1 o hc1=>⟨sg k 0,by rw[<-r0];exact hc1,?_,?_⟩⟩
  ·refine zb (fun h=> ?_) (fun h=> ?_)
   ·have h:1<cnt k:=by have:=of_decide_eq_true h;omega
    refine⟨1,rfl,h,hcell1.int (i:=1) (by omega) fun b1 o hc1=>⟨sg k 1,by rw[Zj h]at hc1;exact hc1,(),?_,rfl⟩⟩
    unfold qf;rw[if_pos h]
   ·have h:¬1<cnt k:=by have:=of_decide_eq_false h;omega
    refine⟨(),?_,rfl⟩
    unfold qf;rw[if_neg h]
  rintro _ _ w2 hw2
  replace hw2:=hw2.symm
  subst hw2
  refine zb (fun h9=> ?_) (fun h9=> ?_)
  ·have h9:sg k 0=9:=by simpa using h9
   refine⟨l.tab,c0,l.wide,c1,l.want,c2,l.join,c3,l.raw,c4,(col,l),rfl,trivial,?_⟩
   rintro x w3 ⟨hx,e3⟩
   dsimp only at hx
   have hst:=zdD col l.tab
   have htb:=zgc l.tab
   refine⟨qw col l.tab,by rw[hx],by omega,?_⟩
   rintro y w4 ⟨hy,e4⟩
   exact⟨(Qf (qw col l.tab),qw col l.tab),by rw[hy,hx],(zdS hb h9).symm,Ext.trans hE (Ext.trans e3 e4)⟩
  have h9:¬sg k 0=9:=by simpa using h9
  refine zb (fun hnl=>⟨(⟨#[]⟩,0),rfl,(zfK hb h9 (by simpa using hnl)).symm,hE⟩) (fun hnl=> ?_)
  have hnl:¬(sg k 0=10\/qf k=10):=by simpa using hnl
  refine zb (fun hct=> ?_) (fun hct=> ?_)
  ·have hct:sg k 0<32\/sg k 0=127:=by simpa using hct
   intro b2 w3 hn2
   have hx:=zlL ⟨(sg k 0).toNat,by omega⟩ (by dsimp only;omega)
   dsimp only at hx
   rw[Int.toNat_of_nonneg hsg0]at hx
   generalize IntKind.i32.wrap (↑(BitVec.ofInt IntKind.i32.bits (sg k 0)^^^BitVec.ofInt IntKind.i32.bits (64:Int)).toNat:Int)=z at hx hn2
   refine⟨[z],zdi (.inr ⟨b2,0,rfl,fun j v hv=> ?_⟩),?_,(zeP (sg k 0),2),by rw[hx];rfl,(zch hb h9 hnl hct).symm,Ext.trans hE hn2.ext⟩
   ·rw[za hn2.heap,Nat.zero_add,show(#[Value.int .i32 z]:Array Value)=[Value.int .i32 z].toArray from rfl,List.getElem?_toArray];exact hv
   ·have e:=congrArg ByteArray.size hx
    rw[ByteArray.size_append]at e
    rw[e]
    exact Nat.le_trans (Nat.le_of_eq (by unfold zeP;rw[Zo];rfl)) (show(2:Nat)<=9223372036854775807 by decide)
  have hct:¬(sg k 0<32\/sg k 0=127):=by simpa using hct
  have hnat:((sg k 0).toNat:Int)=sg k 0:=Int.toNat_of_nonneg hsg0
  have fmt:∀(w3:World),Ext w1 w3->Z2 (sg k 0)=true->∃b2:Bool,w3.cell? ⟨b,4,none⟩=some (.bool b2)/\zc (!b2) (∃x:ByteArray×Nat,Value.tuple #[.string (ByteArray.mk #[]), .int .i64 0]=Value.tuple #[.string x.1, .int .i64 x.2]/\x=zU k col l/\Ext w w3)
   (∃g1:Nat,(#[.int .i32 (sg k 0)]:Array Value)= #[.int .i32 (g1:Int)]/\(DB w3/\16<=g1/\g1<=1114111)/\∀(x:ByteArray) (w4:World),x=ZM g1/\Ext w3 w4->∃x1:ByteArray×Nat,Value.tuple #[.string x, .int .i64 x.size]=Value.tuple #[.string x1.1, .int .i64 x1.2]/\x1=zU k col l/\Ext w w4):=by
    intro w3 e3 hfm
    refine⟨l.raw,e3.cell c4,zb (fun hr=> ?_) (fun hr=> ?_)⟩
    ·exact⟨(⟨#[]⟩,0),rfl,(zdT hb h9 hnl hct hfm (by simpa using hr)).symm,Ext.trans hE e3⟩
    ·refine⟨(sg k 0).toNat,by rw[hnat],⟨hD.ext (Ext.trans hE e3),by omega,by omega⟩,?_⟩
     rintro x w4 ⟨hx,e4⟩
     exact⟨(ZM (sg k 0).toNat,(ZM (sg k 0).toNat).size),by rw[hx],(zg3 hb h9 hnl hct hfm (by simpa using hr)).symm,Ext.trans hE (Ext.trans e3 e4)⟩
  refine zb (fun hc1=>fmt w1 (Ext.refl _) (by unfold Z2;rw[Bool.or_eq_true,Bool.or_eq_true];left;left;simpa using hc1)) (fun hc1=> ?_)
  have hc1:¬(128<=sg k 0/\sg k 0<=159):=by simpa using hc1
  have hfl:Z2 (sg k 0)=QG (sg k 0):=by unfold Z2 QG;rw[decide_eq_false hc1];rfl
  have hl:=hlate
  unfold QG at hl
  rw[Bool.or_eq_false_iff,Bool.or_eq_false_iff]at hl
  obtain⟨⟨hl1,hl2⟩,hl3⟩:=hl
  rw[hlate]at hfl
  refine⟨⟨zb (fun h=>by rw[h]at hl1;cases hl1) (fun _=>zb (fun h=>by rw[h]at hl2;cases hl2) (fun _=>⟨sg k 0,rfl,trivial,?_⟩)),?_⟩,?_⟩
  ·rintro x w3 ⟨hx,e3⟩
   rw[hlate]
   refine zb (fun h=> ?_) (fun h=>⟨(),rfl,e3⟩)
   have hk:zn (sg k 0)=1:=by rw[<-hx];simpa using h
   rw[hk]at hl3
   have hj:¬sg k 0=8204->sg k 0=8205:=by unfold qj at hl3;simpa using hl3
   refine zb (fun h=>⟨(),?_,e3⟩) (fun h=>⟨(),rfl,e3⟩)
   have h:sg k 0≠8204:=by simpa using h
   have h5:sg k 0=8205:=hj h
   rw[h5];rfl
  ·rintro _ _ w3 e3
   exact zb (fun h=>by rw[hlate]at h;cases h) (fun h=>⟨(),rfl,e3⟩)
  rintro _ _ w3 e3
  refine⟨sg k 0,rfl,trivial,?_⟩
  rintro x w4 ⟨hx,e4⟩
  have e14:=Ext.trans e3 e4
  refine zb (fun h=> ?_) (fun h=> ?_)
  ·have hm:zn (sg k 0)=2\/qj (sg k 0)=true:=by rw[hx]at h;unfold qj;simpa using h
   have hcut:=ztH h1 hb rfl
   have h32:=one_le h1
   refine⟨if 31<cnt k then 31 else cnt k,by split<;>split<;>omega,by split<;>omega,(zo k).take (if 31<cnt k then 31 else cnt k),?_,?_,(⟨#[226,151,140]⟩++zcv k,1),by rw[hcut];rfl,(zez hb h9 hnl hct hfl hm).symm,Ext.trans hE e14⟩
   ·have hcl:CellsAt w4 a (((zo k).take (if 31<cnt k then 31 else cnt k)).map (Value.int .i32)):=by
      rw[List.map_take];exact(hcell1.ext e14).take _
    have:=zdi hcl
    rwa [List.length_take,hlen,Nat.min_eq_left (by split<;>omega)]at this
   ·rw[hcut]
    have:(zcv k).size<=k.size:=by
      unfold zcv;split
      ·rw[zS (Zs k 31)];have:=Zs k 31;omega
      ·exact Nat.le_refl _
    exact Nat.le_trans (Nat.add_le_add_left (Nat.le_trans this hsz) _) (show 3+67108864<=9223372036854775807 by decide)
  have hm:¬(zn (sg k 0)=2\/qj (sg k 0)=true):=by rw[hx]at h;unfold qj;simpa using h
  refine⟨l.wide,e14.cell c1,(sg k 0,l.wide),rfl,trivial,?_⟩
  rintro x1 w5 ⟨hx1,e5⟩
  dsimp only at hx1
  have e15:=Ext.trans e14 e5
  refine⟨⟨sg k 0,rfl,trivial,?_⟩,?_⟩
  ·rintro x2 w6 ⟨hx2,e6⟩
   refine zb (fun h2=>⟨qf k,rfl,trivial,?_⟩) (fun h2=>⟨sg k 0,rfl,trivial,?_⟩)
   ·rintro x3 w7 ⟨hx3,e7⟩
    refine zb (fun h3=>⟨(),?_,Ext.trans e6 e7⟩) (fun h3=>⟨sg k 0,rfl,trivial,?_⟩)
    ·unfold qM;rw[<-hx2,<-hx3,h2,h3];rfl
    ·rintro x4 w8 ⟨hx4,e8⟩
     have e:=Ext.trans e6 (Ext.trans e7 e8)
     unfold qM
     rw[<-hx2,<-hx3,<-hx4,<-hx1,h2,h3]
     refine zb (fun h4=>zb (fun h5=>⟨(),by rw[h4,h5];rfl,e⟩) (fun h5=>⟨(),by rw[h4,h5];rfl,e⟩)) (fun h4=>⟨(),by rw[h4];rfl,e⟩)
   ·rintro x3 w7 ⟨hx3,e7⟩
    have e:=Ext.trans e6 e7
    unfold qM
    rw[<-hx2,<-hx3,<-hx1,h2]
    refine zb (fun h4=>zb (fun h5=>⟨(),by rw[h4,h5];rfl,e⟩) (fun h5=>⟨(),by rw[h4,h5];rfl,e⟩)) (fun h4=>⟨(),by rw[h4];rfl,e⟩)
  rintro _ _ w6 e6
  have e16:=Ext.trans hE (Ext.trans e15 e6)
  have htw:qM k l=true ↔ (qh (sg k 0)=true/\qh (qf k)=true)\/(zn (sg k 0)=7/\zY (sg k 0) l.wide=1/\qf k=65039):=by
    unfold qM
    simp only[Bool.or_eq_true,Bool.and_eq_true,beq_iff_eq,and_assoc]
  refine zb (fun h2=>⟨(k,2),rfl,(zdR hb h9 hnl hct hfl hm (htw.1 h2)).symm,e16⟩) (fun h2=> ?_)
  have h2:¬qM k l=true:=by rw[h2];decide
  have hone:=zdQ (col:=col) (l:=l) hb h9 hnl hct hfl hm (fun h=>h2 (htw.2 h))
  refine zb (fun h3=>⟨(⟨#[]⟩,0),rfl,?_,e16⟩) (fun h3=>⟨(k,(zY (sg k 0) l.wide).toNat),?_,?_,e16⟩)
  ·rw[hone,if_pos (by rw[<-hx1];simpa using h3)]
  ·rw[Int.toNat_of_nonneg (zf1 _ _),hx1]
  ·rw[hone,if_neg (by rw[<-hx1];simpa using h3)]
theorem zvm:(zh4 true).Ok Tryz.prog 68:=by
  refine zvl ⟨znT,zr4,zbq,zle,zhA,zoK,trivial⟩ ?_
  rintro⟨k,col,l,a,c⟩ w ⟨hlate,hD,hsz,h1,hb,hcap,hcells⟩ b w1 hn
  dsimp only at hlate hD hsz h1 hb hcap hcells⊢
  obtain⟨h0,hf,_⟩:=qN h1
  obtain⟨c0,c1,c2,c3,c4⟩:=zbQ (l:=l) hn.heap
  have hE:Ext w w1:=hn.ext
  have hcell1:=hcells.ext hE
  have hlen:=zN k
  have r0:(zo k).getD 0 0=sg k 0:=Zj h0
  have hsg0:0<=sg k 0:=zbU k _
  have hsg1:sg k 0<=1114111:=znt k _
  have hkl:k.size<=67108864:=hsz
  refine⟨0,rfl,h0,hcell1.int (i:=0) (by omega) fun b1 o hc1=>⟨sg k 0,by rw[<-r0];exact hc1,?_,?_⟩⟩
  ·refine zb (fun h=> ?_) (fun h=> ?_)
   ·have h:1<cnt k:=by have:=of_decide_eq_true h;omega
    refine⟨1,rfl,h,hcell1.int (i:=1) (by omega) fun b1 o hc1=>⟨sg k 1,by rw[Zj h]at hc1;exact hc1,(),?_,rfl⟩⟩
    unfold qf;rw[if_pos h]
   ·have h:¬1<cnt k:=by have:=of_decide_eq_false h;omega
    refine⟨(),?_,rfl⟩
    unfold qf;rw[if_neg h]
  rintro _ _ w2 hw2
  replace hw2:=hw2.symm
  subst hw2
  refine zb (fun h9=> ?_) (fun h9=> ?_)
  ·have h9:sg k 0=9:=by simpa using h9
   refine⟨l.tab,c0,l.wide,c1,l.want,c2,l.join,c3,l.raw,c4,(col,l),rfl,trivial,?_⟩
   rintro x w3 ⟨hx,e3⟩
   dsimp only at hx
   have hst:=zdD col l.tab
   have htb:=zgc l.tab
   refine⟨qw col l.tab,by rw[hx],by omega,?_⟩
   rintro y w4 ⟨hy,e4⟩
   exact⟨(Qf (qw col l.tab),qw col l.tab),by rw[hy,hx],(zdS hb h9).symm,Ext.trans hE (Ext.trans e3 e4)⟩
  have h9:¬sg k 0=9:=by simpa using h9
  refine zb (fun hnl=>⟨(⟨#[]⟩,0),rfl,(zfK hb h9 (by simpa using hnl)).symm,hE⟩) (fun hnl=> ?_)
  have hnl:¬(sg k 0=10\/qf k=10):=by simpa using hnl
  refine zb (fun hct=> ?_) (fun hct=> ?_)
  ·have hct:sg k 0<32\/sg k 0=127:=by simpa using hct
   intro b2 w3 hn2
   have hx:=zlL ⟨(sg k 0).toNat,by omega⟩ (by dsimp only;omega)
   dsimp only at hx
   rw[Int.toNat_of_nonneg hsg0]at hx
   generalize IntKind.i32.wrap (↑(BitVec.ofInt IntKind.i32.bits (sg k 0)^^^BitVec.ofInt IntKind.i32.bits (64:Int)).toNat:Int)=z at hx hn2
   refine⟨[z],zdi (.inr ⟨b2,0,rfl,fun j v hv=> ?_⟩),?_,(zeP (sg k 0),2),by rw[hx];rfl,(zch hb h9 hnl hct).symm,Ext.trans hE hn2.ext⟩
   ·rw[za hn2.heap,Nat.zero_add,show(#[Value.int .i32 z]:Array Value)=[Value.int .i32 z].toArray from rfl,List.getElem?_toArray];exact hv
   ·have e:=congrArg ByteArray.size hx
    rw[ByteArray.size_append]at e
    rw[e]
    exact Nat.le_trans (Nat.le_of_eq (by unfold zeP;rw[Zo];rfl)) (show(2:Nat)<=9223372036854775807 by decide)
  have hct:¬(sg k 0<32\/sg k 0=127):=by simpa using hct
  have hnat:((sg k 0).toNat:Int)=sg k 0:=Int.toNat_of_nonneg hsg0
  have fmt:∀(w3:World),Ext w1 w3->Z2 (sg k 0)=true->∃b2:Bool,w3.cell? ⟨b,4,none⟩=some (.bool b2)/\zc (!b2) (∃x:ByteArray×Nat,Value.tuple #[.string (ByteArray.mk #[]), .int .i64 0]=Value.tuple #[.string x.1, .int .i64 x.2]/\x=zU k col l/\Ext w w3)
   (∃g1:Nat,(#[.int .i32 (sg k 0)]:Array Value)= #[.int .i32 (g1:Int)]/\(DB w3/\16<=g1/\g1<=1114111)/\∀(x:ByteArray) (w4:World),x=ZM g1/\Ext w3 w4->∃x1:ByteArray×Nat,Value.tuple #[.string x, .int .i64 x.size]=Value.tuple #[.string x1.1, .int .i64 x1.2]/\x1=zU k col l/\Ext w w4):=by
    intro w3 e3 hfm
    refine⟨l.raw,e3.cell c4,zb (fun hr=> ?_) (fun hr=> ?_)⟩
    ·exact⟨(⟨#[]⟩,0),rfl,(zdT hb h9 hnl hct hfm (by simpa using hr)).symm,Ext.trans hE e3⟩
    ·refine⟨(sg k 0).toNat,by rw[hnat],⟨hD.ext (Ext.trans hE e3),by omega,by omega⟩,?_⟩
     rintro x w4 ⟨hx,e4⟩
     exact⟨(ZM (sg k 0).toNat,(ZM (sg k 0).toNat).size),by rw[hx],(zg3 hb h9 hnl hct hfm (by simpa using hr)).symm,Ext.trans hE (Ext.trans e3 e4)⟩
  refine zb (fun hc1=>fmt w1 (Ext.refl _) (by unfold Z2;rw[Bool.or_eq_true,Bool.or_eq_true];left;left;simpa using hc1)) (fun hc1=> ?_)
  have hc1:¬(128<=sg k 0/\sg k 0<=159):=by simpa using hc1
  have hfl:Z2 (sg k 0)=QG (sg k 0):=by unfold Z2 QG;rw[decide_eq_false hc1];rfl
  have hfm:=hfl.trans hlate
  refine zb (fun h=> ?_) (fun h=> ?_)
  ·exact zb (fun _=>fmt w1 (Ext.refl _) hfm) (fun h'=>by rw[h]at h';cases h')
  refine zb (fun h'=> ?_) (fun h'=> ?_)
  ·exact zb (fun _=>fmt w1 (Ext.refl _) hfm) (fun h''=>by rw[h']at h'';cases h'')
  have hl:=hlate
  unfold QG at hl
  rw[h,h',Bool.false_or,Bool.false_or,Bool.and_eq_true]at hl
  obtain⟨hk,hj⟩:=hl
  refine⟨sg k 0,rfl,trivial,?_⟩
  rintro x w3 ⟨hx,e3⟩
  rw[<-hx]at hk
  have hj1:(sg k 0 !=8204)=true:=by unfold qj at hj;simp at hj⊢;exact hj.1
  have hj2:(sg k 0 !=8205)=true:=by unfold qj at hj;simp at hj⊢;exact hj.2
  refine zb (fun _=>zb (fun _=>zb (fun _=>fmt w3 e3 hfm) (fun h=> ?_)) (fun h=> ?_)) (fun h=> ?_)
  ·rw[hj2]at h;cases h
  ·rw[hj1]at h;cases h
  ·rw[hk]at h;cases h
theorem zvk:zrJ.Ok Tryz.prog 68:=by
  intro g w h
  cases hl:QG (sg g.k 0)with
  |true=>exact zvm g w ⟨hl,h⟩
  |false=>exact zvp g w ⟨hl,h⟩
end

section
open Go Go.RowKit Vc Ut
def zi5:List (Nat×CallSpec):=[(128,zuR)]
def zub(g:GSl)(w00:World):Ann where
  sp:=zi5
  loops:=[(3,{
    X:=Nat×Option Addr×Nat
    sh:=fun _ x=>[(4, .int .i64 x.1),(3, .slice x.2.1 ((g.xs.take x.1).flatMap Zh).length x.2.2)]
    inv:=fun _ w0 x w=>x.1<=g.xs.length/\Made w0 w 5 1 x.2.1 ((g.xs.take x.1).flatMap Zh).length (((g.xs.take x.1).flatMap Zh).map (Value.int .u8)) x.2.2
    mu:=fun _ _ x _=>g.xs.length - x.1})]
end

section
set_option linter.unusedVariables false
open Go Go.RowKit Vc Ut
open Value
set_option maxRecDepth 1000000
theorem zxO(hsp:zf Tryz.prog [])(h:∀(g:GPut) w,Made g.W w (5:TypeId) 1 g.ad g.vs.length (List.map (int IntKind.u8) g.vs) g.c/\g.vs.length<=1073741824->zc (decide (g.r<0)||(decide (g.r>1114111)||decide (g.r>=55296)&&decide (g.r<=57343))) (∃(c:Unit),int .i32 65533=int .i32 (↑(zG g.r):Int)/\w=w) (∃(c:Unit),int .i32 g.r=int .i32 (↑(zG g.r):Int)/\w=w)/\∀(u:Nat->Value) (c:Unit) w',w'=w->zc (decide ((↑(zG g.r):Int)<128)) (InR .u8 (↑(zG g.r):Int)/\∀b w1,New w' (Obj.cells #[int .u8 (↑(zG g.r):Int)] (5:Nat)) b w1->∃(a':Option Addr) (c':Nat) (w'1:World),zA Tryz.prog #[40,40] 40 (slice g.ad g.vs.length g.c) (slice (some ⟨b,0,none⟩) 1 1) w1 a' (g.vs.length+1) c' w'1/\KO w1 w'1/\∃(x:Option Addr×Nat×Nat),slice a' (g.vs.length+1) c'=slice x.fst x.snd.fst x.snd.snd/\x.snd.fst=(g.vs++Zh g.r).length/\Made g.W w'1 (5:TypeId) 1 x.fst x.snd.fst (List.map (int IntKind.u8) (g.vs++Zh g.r)) x.snd.snd) (zc (decide ((↑(zG g.r):Int)<2048)) ((0:Int)<=(↑(zG g.r):Int)/\(0:Int)<64/\InR .i32 ((↑(zG g.r):Int) / 64)/\InR .i32 ((192:Int)+(↑(zG g.r):Int) / 64)/\InR .u8 ((192:Int)+(↑(zG g.r):Int) / 64)/\(0:Int)<=(↑(zG g.r):Int)/\(0:Int)<64/\InR .i32 ((128:Int)+(↑(zG g.r):Int)%64)/\InR .u8 ((128:Int)+(↑(zG g.r):Int)%64)/\∀b w1,New w' (Obj.cells #[int .u8 ((192:Int)+(↑(zG g.r):Int) / 64),int .u8 ((128:Int)+(↑(zG g.r):Int)%64)] 5) b w1->∃(a':Option Addr) (c':Nat) (w'1:World),zA Tryz.prog #[40,40] 40 (slice g.ad g.vs.length g.c) (slice (some ⟨b,0,none⟩) 2 2) w1 a' (g.vs.length+2) c' w'1/\KO w1 w'1/\∃(x:Option Addr×Nat×Nat),slice a' (g.vs.length+2) c'=slice x.fst x.snd.fst x.snd.snd/\x.snd.fst=(g.vs++Zh g.r).length/\Made g.W w'1 (5:TypeId) 1 x.fst x.snd.fst (List.map (int IntKind.u8) (g.vs++Zh g.r)) x.snd.snd) (zc (decide ((↑(zG g.r):Int)<65536)) ((0:Int)<=(↑(zG g.r):Int)/\(0:Int)<4096/\InR .i32 ((↑(zG g.r):Int) / 4096)/\InR .i32 ((224:Int)+(↑(zG g.r):Int) / 4096)/\InR .u8 ((224:Int)+(↑(zG g.r):Int) / 4096)/\(0:Int)<=(↑(zG g.r):Int)/\(0:Int)<64/\InR .i32 ((↑(zG g.r):Int) / 64)/\(0:Int)<=(↑(zG g.r):Int) / 64/\(0:Int)<64/\InR .i32 ((128:Int)+(↑(zG g.r):Int) / 64%64)/\InR .u8 ((128:Int)+(↑(zG g.r):Int) / 64%64)/\(0:Int)<=(↑(zG g.r):Int)/\(0:Int)<64/\InR .i32 ((128:Int)+(↑(zG g.r):Int)%64)/\InR .u8 ((128:Int)+(↑(zG g.r):Int)%64)/\∀b w1,New w' (Obj.cells #[int .u8 ((224:Int)+(↑(zG g.r):Int) / 4096),int .u8 ((128:Int)+(↑(zG g.r):Int) / 64%64),int .u8 ((128:Int)+(↑(zG g.r):Int)%64)] 5) b w1->∃(a':Option Addr) (c':Nat) (w'1:World),zA Tryz.prog #[40,40] 40 (slice g.ad g.vs.length g.c)
 (slice (some ⟨b,0,none⟩) 3 3) w1 a' (g.vs.length+3) c' w'1/\KO w1 w'1/\∃(x:Option Addr×Nat×Nat),slice a' (g.vs.length+3) c'=slice x.fst x.snd.fst x.snd.snd/\x.snd.fst=(g.vs++Zh g.r).length/\Made g.W w'1 (5:TypeId) 1 x.fst x.snd.fst (List.map (int IntKind.u8) (g.vs++Zh g.r)) x.snd.snd) ((0:Int)<=(↑(zG g.r):Int)/\(0:Int)<262144/\InR .i32 ((↑(zG g.r):Int) / 262144)/\InR .i32 ((240:Int)+(↑(zG g.r):Int) / 262144)/\InR .u8 ((240:Int)+(↑(zG g.r):Int) / 262144)/\(0:Int)<=(↑(zG g.r):Int)/\(0:Int)<4096/\InR .i32 ((↑(zG g.r):Int) / 4096)/\(0:Int)<=(↑(zG g.r):Int) / 4096/\(0:Int)<64/\InR .i32 ((128:Int)+(↑(zG g.r):Int) / 4096%64)/\InR .u8 ((128:Int)+(↑(zG g.r):Int) / 4096%64)/\(0:Int)<=(↑(zG g.r):Int)/\(0:Int)<64/\InR .i32 ((↑(zG g.r):Int) / 64)/\(0:Int)<=(↑(zG g.r):Int) / 64/\(0:Int)<64/\InR .i32 ((128:Int)+(↑(zG g.r):Int) / 64%64)/\InR .u8 ((128:Int)+(↑(zG g.r):Int) / 64%64)/\(0:Int)<=(↑(zG g.r):Int)/\(0:Int)<64/\InR .i32 ((128:Int)+(↑(zG g.r):Int)%64)/\InR .u8 ((128:Int)+(↑(zG g.r):Int)%64)/\∀b w1,New w' (Obj.cells #[int .u8 ((240:Int)+(↑(zG g.r):Int) / 262144),int .u8 ((128:Int)+(↑(zG g.r):Int) / 4096%64),int .u8 ((128:Int)+(↑(zG g.r):Int) / 64%64),int .u8 ((128:Int)+(↑(zG g.r):Int)%64)] 5) b w1->∃(a':Option Addr) (c':Nat) (w'1:World),zA Tryz.prog #[40,40] 40 (slice g.ad g.vs.length g.c) (slice (some ⟨b,0,none⟩) 4 4) w1 a' (g.vs.length+4) c' w'1/\KO w1 w'1/\∃(x:Option Addr×Nat×Nat),slice a' (g.vs.length+4) c'=slice x.fst x.snd.fst x.snd.snd/\x.snd.fst=(g.vs++Zh g.r).length/\Made g.W w'1 (5:TypeId) 1 x.fst x.snd.fst (List.map (int IntKind.u8) (g.vs++Zh g.r)) x.snd.snd)))):zuR.Ok Tryz.prog 128:=ze zuR zyv [] (fun _ _=>rfl) (fun _ _=>rfl) hsp Tryz.func128 rfl (n:=2) (fun _=>rfl) (by kernel_rfl) (zl (by kernel_rfl) h)
theorem zrN(hsp:zf Tryz.prog zi5)(h:∀(g:GSl) (w:World),GSl.at IntKind.i32 g w/\g.xs.length<=67108864->(∃(x:Nat×Option Addr×Nat),int .i64 0=int .i64 (x.fst:Int)/\slice none 0 0=slice x.snd.fst (List.flatMap Zh (List.take x.fst g.xs)).length x.snd.snd/\x.fst<=g.xs.length/\Made w w (5:TypeId) 1 x.snd.fst (List.flatMap Zh (List.take x.fst g.xs)).length (List.map (int IntKind.u8) (List.flatMap Zh (List.take x.fst g.xs))) x.snd.snd)/\∀(u:Nat->Value) (x:Nat×Option Addr×Nat) w',x.fst<=g.xs.length/\Made w w' (5:TypeId) 1 x.snd.fst (List.flatMap Zh (List.take x.fst g.xs)).length (List.map (int IntKind.u8) (List.flatMap Zh (List.take x.fst g.xs))) x.snd.snd->zc (decide ((x.fst:Int)<(g.xs.length:Int))) (qd (x.fst:Int) g.xs.length fun k=>zr g.ad fun(b o:Nat)=>zX w' .i32 b (o+k) fun n=>∃(g1:GPut), #[slice x.snd.fst (List.flatMap Zh (List.take x.fst g.xs)).length x.snd.snd,int .i32 n]= #[slice g1.ad g1.vs.length g1.c,int .i32 g1.r]/\(Made g1.W w' (5:TypeId) 1 g1.ad g1.vs.length (List.map (int IntKind.u8) g1.vs) g1.c/\g1.vs.length<=1073741824)/\∀(x1:Option Addr×Nat×Nat) w'1,x1.snd.fst=(g1.vs++Zh g1.r).length/\Made g1.W w'1 (5:TypeId) 1 x1.fst x1.snd.fst (List.map (int IntKind.u8) (g1.vs++Zh g1.r)) x1.snd.snd->InR .i64 ((x.fst:Int)+1)/\∃(y:Nat×Option Addr×Nat),int .i64 ((x.fst:Int)+1)=int .i64 (y.fst:Int)/\slice x1.fst x1.snd.fst x1.snd.snd=slice y.snd.fst (List.flatMap Zh (List.take y.fst g.xs)).length y.snd.snd/\(y.fst<=g.xs.length/\Made w w'1 (5:TypeId) 1 y.snd.fst (List.flatMap Zh (List.take y.fst g.xs)).length (List.map (int IntKind.u8) (List.flatMap Zh (List.take y.fst g.xs))) y.snd.snd)/\g.xs.length - y.fst<g.xs.length - x.fst) (∃(str:ByteArray),Zz w' x.snd.fst (List.flatMap Zh (List.take x.fst g.xs)).length str/\∃(x1:ByteArray),string str=string x1/\x1=runesBytes g.xs/\Ext w w')):
    ((sLS runesBytes)).Ok Tryz.prog 107:=ze (sLS runesBytes) zub zi5 (fun _ _=>rfl) (fun _ _=>rfl) hsp Tryz.func107 rfl (n:=1) (fun _=>rfl) (by kernel_rfl) (zl (by kernel_rfl) h)
end

section
open Go Go.RowKit Vc Ut
set_option maxRecDepth 1000000 in
theorem zxP:zuR.Ok Tryz.prog 128:=by
  refine zxO trivial ?_
  rintro⟨W,ad,c,vs,r⟩ w ⟨hm,hsm⟩
  dsimp only at hm hsm⊢
  have hle:=zoO r
  refine⟨zb (fun h=>⟨(),?_,rfl⟩) (fun h=>⟨(),?_,rfl⟩),?_⟩
  ·simp only[Bool.or_eq_true,Bool.and_eq_true,decide_eq_true_eq]at h
   unfold zG;rw[if_neg (by omega)];rfl
  ·simp only[Bool.or_eq_false_iff,Bool.and_eq_false_iff,decide_eq_false_iff_not]at h
   unfold zG;rw[if_pos (by omega)];congr 1;omega
  rintro _ _ w' hw';replace hw':=hw'.symm;subst hw'
  have fin:∀(m:Nat) (b:Nat) (w1:World) (news:List Int),Zh r=news->news.length=m->m<=4->New w (.cells (news.map (Value.int .u8)).toArray 5) b w1->
   ∃a' c' w2,zA Tryz.prog #[40,40] 40 (.slice ad vs.length c) (.slice (some ⟨b,0,none⟩) m m) w1 a' (vs.length+m) c' w2/\KO w1 w2/\
   ∃x:Option Addr×Nat×Nat,Value.slice a' (vs.length+m) c'=Value.slice x.1 x.2.1 x.2.2/\x.2.1=(vs++Zh r).length/\Made W w2 5 1 x.1 x.2.1 ((vs++Zh r).map (Value.int .u8)) x.2.2:=by
    intro m b w1 news he hl hm4 hnw
    obtain⟨a',c',w2,hrun,hko,hm2,_⟩:=hm.pushN (P:=Tryz.prog) (ty:=40) zhu (by decide) (m:=m) (news:=news.map (Value.int .u8)) hnw (by rw[List.length_map,hl,Nat.mul_one]) (zk5 _ _) (by unfold maxLen;omega) (.inr (by omega))
    refine⟨a',c',w2,hrun,hko,(a',_,c'),rfl,by rw[he,List.length_append,hl],?_⟩
    rw[he,List.map_append];exact hm2
  refine zb (fun h=> ?_) (fun h=> ?_)
  ·have h1:zG r<128:=by simp only[decide_eq_true_eq]at h;omega
   refine⟨Q0 (by omega) (by omega),fun b w1 hnw=>fin 1 b w1 [(zG r:Int)] ?_ rfl (by omega) hnw⟩
   unfold Zh Za;rw[if_pos h1];rfl
  have h1:¬zG r<128:=by simp only[decide_eq_false_iff_not]at h;omega
  refine zb (fun h=> ?_) (fun h=> ?_)
  ·have h2:zG r<2048:=by simp only[decide_eq_true_eq]at h;omega
   refine⟨by omega,by omega,qF (by omega) (by omega),qF (by omega) (by omega),Q0 (by omega) (by omega),by omega,by omega,qF (by omega) (by omega),Q0 (by omega) (by omega),fun b w1 hnw=>fin 2 b w1 [192+(zG r:Int) / 64,128+(zG r:Int)%64] ?_ rfl (by omega) hnw⟩
   unfold Zh Za;rw[if_neg h1,if_pos h2];simp
  have h2:¬zG r<2048:=by simp only[decide_eq_false_iff_not]at h;omega
  refine zb (fun h=> ?_) (fun h=> ?_)
  ·have h3:zG r<65536:=by simp only[decide_eq_true_eq]at h;omega
   refine⟨by omega,by omega,qF (by omega) (by omega),qF (by omega) (by omega),Q0 (by omega) (by omega),by omega,by omega,qF (by omega) (by omega),by omega,by omega,qF (by omega) (by omega),Q0 (by omega) (by omega),by omega,by omega,qF (by omega) (by omega),Q0 (by omega) (by omega),
     fun b w1 hnw=>fin 3 b w1 [224+(zG r:Int) / 4096,128+(zG r:Int) / 64%64,128+(zG r:Int)%64] ?_ rfl (by omega) hnw⟩
   unfold Zh Za;rw[if_neg h1,if_neg h2,if_pos h3];simp
  ·have h3:¬zG r<65536:=by simp only[decide_eq_false_iff_not]at h;omega
   refine⟨by omega,by omega,qF (by omega) (by omega),qF (by omega) (by omega),Q0 (by omega) (by omega),by omega,by omega,qF (by omega) (by omega),by omega,by omega,qF (by omega) (by omega),Q0 (by omega) (by omega),by omega,by omega,qF (by omega) (by omega),by omega,by omega,qF (by omega) (by omega),Q0 (by omega) (by omega),by omega,by omega,qF (by omega) (by omega),Q0 (by omega) (by omega),
     fun b w1 hnw=>fin 4 b w1 [240+(zG r:Int) / 262144,128+(zG r:Int) / 4096%64,128+(zG r:Int) / 64%64,128+(zG r:Int)%64] ?_ rfl (by omega) hnw⟩
   unfold Zh Za;rw[if_neg h1,if_neg h2,if_neg h3];simp
theorem zrO:(sLS runesBytes).Ok Tryz.prog 107:=by
  refine zrN ⟨zxP,trivial⟩ ?_
  rintro⟨ad,c0,xs⟩ w ⟨⟨hc,hl⟩,hsm⟩
  dsimp only at hc hl hsm⊢
  refine⟨⟨(0,none,0),rfl,rfl,Nat.zero_le _,Made.nil _ _ _⟩,?_⟩
  rintro _ ⟨i,a,c⟩ w1 ⟨hi,hm⟩
  dsimp only at hi hm⊢
  have hfl:=zhV (xs.take i)
  have htl:(xs.take i).length<=xs.length:=by rw[List.length_take];omega
  refine zb (fun h=> ?_) (fun h=> ?_)
  ·have hi1:i<xs.length:=by simpa using h
   refine⟨i,rfl,hi1,(hc.ext hm.ext).int hi1 fun b o hb=>⟨_,hb,⟨w,a,c,(xs.take i).flatMap Zh,xs.getD i 0⟩,rfl,⟨hm,by dsimp only;omega⟩,?_⟩⟩
   rintro⟨pa,pn,pc⟩ w2 ⟨hpn,hp⟩
   dsimp only at hpn hp⊢
   have e:(xs.take (i+1)).flatMap Zh=(xs.take i).flatMap Zh++Zh (xs.getD i 0):=by rw[zgb hi1,List.flatMap_append];simp
   refine⟨zd (by omega) (by omega),(i+1,pa,pc),by simp,by dsimp only;rw[e,hpn],⟨hi1,?_⟩,by dsimp only;omega⟩
   dsimp only;rw[e,<-hpn];exact hp
  ·have hi1:i=xs.length:=by simp only[decide_eq_false_iff_not]at h;omega
   subst hi1
   rw[List.take_length]at hm⊢
   refine⟨runesBytes xs,Qn (Qj xs).symm ?_,_,rfl,rfl,hm.ext⟩
   rw[znA];exact hm.row.cells
end
end Go.Proofs.YtjdohhididpomaaGreatDoor
