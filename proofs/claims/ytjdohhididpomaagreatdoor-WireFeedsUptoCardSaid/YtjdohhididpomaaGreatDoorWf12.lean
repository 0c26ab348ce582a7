/-
  Texts joined by program: Uq, Us, Sx, Sj, WkSa, SpSt, VgSt, WkSt.
-/
import Derived.Test.YtjdohhididpomaaGreatDoorWf05
import Derived.Test.YtjdohhididpomaaGreatDoorWf06
import Derived.Test.YtjdohhididpomaaGreatDoorWf11
import Derived.Test.YtjdohhididpomaaGreatDoorSh
import Derived.Test.YtjdohhididpomaaGreatDoorWf08
import Derived.Test.YtjdohhididpomaaGreatDoorWf10
import Derived.Test.YtjdohhididpomaaGreatDoorProg
import Derived.KernelRfl
import Derived.Test.YtjdohhididpomaaGreatDoorWf09
set_option linter.unusedVariables false
set_option linter.unusedSimpArgs false

namespace Go.Proofs.YtjdohhididpomaaGreatDoor
section
namespace Ut
open Go Vc
def okC(c:Nat):Prop:=c<55296\/57344<=c/\c<=1114111
theorem zvY(r:Int):okC (zD r):=by unfold okC zD;split<;>omega
theorem zp4{r:Int}(h:0<=r)(hr:okC r.toNat):(zD r:Int)=r:=by
  unfold okC at hr;unfold zD;rw[if_pos (by omega)];omega
theorem zv3{s:ByteArray}{i c:Nat}(hc:okC c)(hb:∀j,j<(qX c).length->bt s (i+j)=(qX c).getD j 0)(hl:i+(qX c).length<=s.size):Utf8.decode s i=(c,(qX c).length):=by
  unfold okC at hc
  rw[zaz]
  have hb0:=hb 0;have hb1:=hb 1;have hb2:=hb 2;have hb3:=hb 3
  rw[Nat.add_zero]at hb0
  clear hb
  unfold Lib.decodeN
  by_cases h1:c<128
  ·have e:qX c=[c]:=by unfold qX;rw[if_pos h1]
   rw[e]at hb0⊢
   have b0:=hb0 (by simp)
   simp only[List.getD_cons_zero]at b0
   rw[b0,if_pos h1];rfl
  by_cases h2:c<2048
  ·have e:qX c=[192+c / 64,128+c%64]:=by unfold qX;rw[if_neg h1,if_pos h2]
   rw[e]at hb0 hb1 hl⊢
   have b0:=hb0 (by simp);have b1:=hb1 (by simp)
   simp only[List.getD_cons_zero,List.getD_cons_succ,List.length_cons,List.length_nil]at b0 b1 hl
   rw[b0,b1,if_neg (by omega),if_pos ⟨by omega,by omega,by omega⟩,if_pos (by omega)]
   refine Prod.ext ?_ rfl
   dsimp only
   clear hb0 hb1 hb2 hb3 hl e
   omega
  by_cases h3:c<65536
  ·have e:qX c=[224+c / 4096,128+c / 64%64,128+c%64]:=by unfold qX;rw[if_neg h1,if_neg h2,if_pos h3]
   rw[e]at hb0 hb1 hb2 hl⊢
   have b0:=hb0 (by simp);have b1:=hb1 (by simp);have b2:=hb2 (by simp)
   simp only[List.getD_cons_zero,List.getD_cons_succ,List.length_cons,List.length_nil]at b0 b1 b2 hl
   rw[b0,b1,b2,if_neg (by omega),if_neg (by omega),if_pos ⟨by omega,⟨by omega,by omega⟩,by omega,by omega⟩,if_pos (by omega)]
   refine Prod.ext ?_ rfl
   dsimp only
   clear hb0 hb1 hb2 hb3 hl e
   omega
  ·have e:qX c=[240+c / 262144,128+c / 4096%64,128+c / 64%64,128+c%64]:=by unfold qX;rw[if_neg h1,if_neg h2,if_neg h3]
   rw[e]at hb0 hb1 hb2 hb3 hl⊢
   have b0:=hb0 (by simp);have b1:=hb1 (by simp);have b2:=hb2 (by simp);have b3:=hb3 (by simp)
   simp only[List.getD_cons_zero,List.getD_cons_succ,List.length_cons,List.length_nil]at b0 b1 b2 b3 hl
   rw[b0,b1,b2,b3,if_neg (by omega),if_neg (by omega),if_neg (by omega),if_pos ⟨by omega,⟨by omega,by omega⟩,⟨by omega,by omega⟩,by omega,by omega⟩]
   have k2:c / 64 / 64=c / 4096:=by omega
   have k3:c / 4096 / 64=c / 262144:=by omega
   clear hb0 hb1 hb2 hb3 hl e b0 b1 b2 b3
   have k:(240+c / 262144)%8*262144+(128+c / 4096%64)%64*4096+(128+c / 64%64)%64*64+(128+c%64)%64=c:=by omega
   rw[k,if_pos (by omega)];rfl
theorem zx3(s:ByteArray)(i:Nat):okC (Q5 s i).toNat:=by
  unfold okC Q5
  rw[zaz]
  have h0:=QC s i;have h1:=QC s (i+1);have h2:=QC s (i+2)
  unfold Lib.decodeN
  repeat' split
  all_goals simp only[Int.toNat_natCast]
  all_goals omega
def zag(xs:List Int):List Nat:=xs.flatMap fun r=>qX (zD r)
theorem zoA(xs:List Int)(j:Nat):bt (runesBytes xs) j=(zag xs).getD j 0:=by
  by_cases h:j<(xs.flatMap Za).length
  ·have:=zcM xs j h
   unfold bt
   rw[this,Qk]
   rw[Qk,List.length_map]at h
   simp only[zag,List.getD_eq_getElem?_getD,List.getElem?_map,List.getElem?_eq_getElem h,Option.map_some,Option.getD_some,Int.toNat_natCast]
  ·rw[znm (by rw[Qb];omega)]
   rw[Qk,List.length_map]at h
   simp only[zag,List.getD_eq_getElem?_getD,List.getElem?_eq_none (Nat.le_of_not_lt h)];rfl
theorem zcz(xs:List Int):(runesBytes xs).size=(zag xs).length:=by
  rw[Qb,Qk,List.length_map];rfl
theorem zeB{xs:List Int}{n:Nat}(h:n<xs.length):∃r,zag xs=zag (xs.take n)++(qX (zD (xs.getD n 0))++r)/\zag (xs.take (n+1))=zag (xs.take n)++qX (zD (xs.getD n 0)):=by
  have e1:xs.take (n+1)=xs.take n++[xs.getD n 0]:=by
    rw[List.take_add_one,List.getD_eq_getElem?_getD,List.getElem?_eq_getElem h];rfl
  have e2:zag (xs.take (n+1))=zag (xs.take n)++qX (zD (xs.getD n 0)):=by rw[e1];unfold zag;rw[List.flatMap_append];simp
  refine⟨zag (xs.drop (n+1)),?_,e2⟩
  rw[<-List.append_assoc,<-e2]
  unfold zag
  rw[<-List.flatMap_append,List.take_append_drop]
theorem zfU(xs:List Int):∀n,n<=xs.length->pos (runesBytes xs) n=(zag (xs.take n)).length/\(n<xs.length->Utf8.decode (runesBytes xs) (pos (runesBytes xs) n)=(zD (xs.getD n 0),(qX (zD (xs.getD n 0))).length)/\pos (runesBytes xs) n<(runesBytes xs).size):=by
  have step:∀n,n<xs.length->pos (runesBytes xs) n=(zag (xs.take n)).length->Utf8.decode (runesBytes xs) (pos (runesBytes xs) n)=(zD (xs.getD n 0),(qX (zD (xs.getD n 0))).length)/\pos (runesBytes xs) n<(runesBytes xs).size:=by
    intro n hn hp
    obtain⟨r,hr,_⟩:=zeB hn
    have hlen:=zhc (zD (xs.getD n 0))
    have hsz:(zag xs).length=(zag (xs.take n)).length+((qX (zD (xs.getD n 0))).length+r.length):=by rw[hr,List.length_append,List.length_append]
    refine⟨zv3 (zvY _) (fun j hj=> ?_) ?_,?_⟩
    ·rw[zoA,hp,hr,List.getD_eq_getElem?_getD,List.getElem?_append_right (by omega),Nat.add_sub_cancel_left,List.getElem?_append_left hj,<-List.getD_eq_getElem?_getD]
    ·rw[zcz,hp];omega
    ·rw[zcz,hp];omega
  intro n
  induction n with
  |zero=>intro _;exact⟨by simp[pos,zag],fun h=>step 0 h (by simp[pos,zag])⟩
  |succ n ih=>
   intro hn
   obtain⟨h1,h2⟩:=ih (by omega)
   obtain⟨h3,h4⟩:=h2 (by omega)
   obtain⟨r,_,hr⟩:=zeB (show n<xs.length by omega)
   have h5:pos (runesBytes xs) (n+1)=(zag (xs.take (n+1))).length:=by
     rw[qh h4]
     unfold Z9
     rw[h3,h1,hr,List.length_append]
   exact⟨h5,fun h=>step (n+1) h h5⟩
theorem zfV(xs:List Int):cnt (runesBytes xs)=xs.length:=by
  have h1:=(zfU xs xs.length (Nat.le_refl _)).1
  rw[List.take_length,<-zcz]at h1
  have h2:¬xs.length<cnt (runesBytes xs):=fun h=>by have:=qJ.1 h;omega
  by_cases h3:cnt (runesBytes xs)<xs.length
  ·have:=((zfU xs _ (by omega)).2 h3).2
   rw[ZA]at this;omega
  ·omega
theorem znz{xs:List Int}{n:Nat}(h:n<xs.length):Q5 (runesBytes xs) (pos (runesBytes xs) n)=(zD (xs.getD n 0):Int)/\Z9 (runesBytes xs) (pos (runesBytes xs) n)=(qX (zD (xs.getD n 0))).length:=by
  have:=((zfU xs n (by omega)).2 h).1
  unfold Q5 Z9;rw[this];exact⟨rfl,rfl⟩
theorem zbk(xs:List Int):zo (runesBytes xs)=xs.map fun r=>(zD r:Int):=by
  apply List.ext_getElem?
  intro n
  by_cases h:n<xs.length
  ·have:=znz h
   simp only[zo,List.getElem?_map,List.getElem?_range (show n<cnt (runesBytes xs) by rw[zfV];exact h),List.getElem?_eq_getElem h,Option.map_some]
   rw[this.1,List.getD_eq_getElem?_getD,List.getElem?_eq_getElem h];rfl
  ·rw[List.getElem?_eq_none (by rw[zJ,zfV];omega),List.getElem?_eq_none (by rw[List.length_map];omega)]
theorem ztf{c:Nat}(h:(qX c).length=1):c<128:=by
  unfold qX at h
  by_cases h1:c<128
  ·exact h1
  ·rw[if_neg h1]at h
   repeat' split at h
   all_goals simp at h
theorem zfT(xs:List Int):zw (runesBytes xs)=true:=by
  unfold zw
  rw[List.all_eq_true]
  intro n hn
  rw[List.mem_range,zfV]at hn
  have:=znz hn
  unfold zu
  rw[this.1,this.2]
  simp only[Bool.not_eq_true',decide_eq_false_iff_not]
  rintro⟨h1,h2⟩
  have:=ztf h1;omega
theorem zvW{s:ByteArray}{i:Nat}(hi:i<s.size)(hb:¬(Z9 s i=1/\Q5 s i=65533)):(qX (Q5 s i).toNat).length=Z9 s i/\∀j,j<Z9 s i->bt s (i+j)=(qX (Q5 s i).toNat).getD j 0:=by
  unfold Q5 Z9 at*
  rw[zaz]at*
  have h0:=QC s i;have h1:=QC s (i+1);have h2:=QC s (i+2);have h3:=QC s (i+3)
  generalize e0:bt s i=b0 at*
  generalize e1:bt s (i+1)=b1 at*
  generalize e2:bt s (i+2)=b2 at*
  generalize e3:bt s (i+3)=b3 at*
  generalize s.size - i=n at*
  unfold Lib.decodeN at*
  by_cases k1:b0<128
  ·rw[if_pos k1]at*
   simp only[Int.toNat_natCast]
   have e:qX b0=[b0]:=by unfold qX;rw[if_pos k1]
   rw[e]
   refine⟨rfl,fun j hj=> ?_⟩
   obtain rfl:j=0:=by omega
   rw[Nat.add_zero];exact e0
  rw[if_neg k1]at*
  by_cases k2:b0 / 32=6/\(1<n/\b1 / 64=2)
  ·rw[if_pos k2]at*
   by_cases k3:b0%32*64+b1%64>=128
   ·rw[if_pos k3]at*
    simp only[Int.toNat_natCast]
    have e:qX (b0%32*64+b1%64)=[b0,b1]:=by
      unfold qX;rw[if_neg (by omega),if_pos (by omega)]
      congr 1
      ·omega
      ·congr 1;omega
    rw[e]
    refine⟨rfl,fun j hj=> ?_⟩
    have:j=0\/j=1:=by omega
    rcases this with rfl|rfl
    ·rw[Nat.add_zero];exact e0
    ·exact e1
   ·rw[if_neg k3]at hb;exact absurd ⟨rfl,rfl⟩ hb
  rw[if_neg k2]at*
  by_cases k4:b0 / 16=14/\(1<n/\b1 / 64=2)/\(2<n/\b2 / 64=2)
  ·rw[if_pos k4]at*
   by_cases k5:b0%16*4096+b1%64*64+b2%64>=2048/\(b0%16*4096+b1%64*64+b2%64<55296\/(57344<=b0%16*4096+b1%64*64+b2%64/\b0%16*4096+b1%64*64+b2%64<=1114111))
   ·rw[if_pos k5]at*
    simp only[Int.toNat_natCast]
    have e:qX (b0%16*4096+b1%64*64+b2%64)=[b0,b1,b2]:=by
      unfold qX;rw[if_neg (by omega),if_neg (by omega),if_pos (by omega)]
      congr 1
      ·omega
      ·congr 1
       ·omega
       ·congr 1;omega
    rw[e]
    refine⟨rfl,fun j hj=> ?_⟩
    have:j=0\/j=1\/j=2:=by omega
    rcases this with rfl|rfl|rfl
    ·rw[Nat.add_zero];exact e0
    ·exact e1
    ·exact e2
   ·rw[if_neg k5]at hb;exact absurd ⟨rfl,rfl⟩ hb
  rw[if_neg k4]at*
  by_cases k6:b0 / 8=30/\(1<n/\b1 / 64=2)/\(2<n/\b2 / 64=2)/\(3<n/\b3 / 64=2)
  ·rw[if_pos k6]at*
   by_cases k7:b0%8*262144+b1%64*4096+b2%64*64+b3%64>=65536/\(b0%8*262144+b1%64*4096+b2%64*64+b3%64<55296\/(57344<=b0%8*262144+b1%64*4096+b2%64*64+b3%64/\b0%8*262144+b1%64*4096+b2%64*64+b3%64<=1114111))
   ·rw[if_pos k7]at*
    simp only[Int.toNat_natCast]
    have e:qX (b0%8*262144+b1%64*4096+b2%64*64+b3%64)=[b0,b1,b2,b3]:=by
      unfold qX;rw[if_neg (by omega),if_neg (by omega),if_neg (by omega)]
      congr 1
      ·omega
      ·congr 1
       ·omega
       ·congr 1
        ·omega
        ·congr 1;omega
    rw[e]
    refine⟨rfl,fun j hj=> ?_⟩
    have:j=0\/j=1\/j=2\/j=3:=by omega
    rcases this with rfl|rfl|rfl|rfl
    ·rw[Nat.add_zero];exact e0
    ·exact e1
    ·exact e2
    ·exact e3
   ·rw[if_neg k7]at hb;exact absurd ⟨rfl,rfl⟩ hb
  ·rw[if_neg k6]at hb;exact absurd ⟨rfl,rfl⟩ hb
theorem zcX{s:ByteArray}(h:zw s=true):runesBytes (zo s)=s:=by
  have hv:∀n,n<cnt s->zu s n=false:=by
    unfold zw at h
    rw[List.all_eq_true]at h
    intro n hn
    simpa using h n (by simpa using hn)
  have key:∀n,n<=cnt s->(zag ((zo s).take n)).length=pos s n/\∀j,j<pos s n->bt s j=(zag ((zo s).take n)).getD j 0:=by
    intro n
    induction n with
    |zero=>intro _;exact⟨by simp[zag,pos],fun j hj=>by simp[pos]at hj⟩
    |succ n ih=>
     intro hn
     obtain⟨h1,h2⟩:=ih (by omega)
     have hp:=qJ.1 (show n<cnt s by omega)
     have hnb:=hv n (by omega)
     unfold zu at hnb
     simp only[decide_eq_false_iff_not]at hnb
     obtain⟨h3,h4⟩:=zvW hp hnb
     obtain⟨r,_,hr⟩:=zeB (xs:=zo s) (show n<(zo s).length by rw[zJ];omega)
     have hc:zD ((zo s).getD n 0)=(Q5 s (pos s n)).toNat:=by
       rw[Zc (by omega)]
       have:=zp4 (zbC s (pos s n)) (zx3 s (pos s n))
       omega
     rw[hc]at hr
     have h5:(zag ((zo s).take (n+1))).length=pos s (n+1):=by rw[hr,List.length_append,h1,h3,qh hp]
     refine⟨h5,fun j hj=> ?_⟩
     rw[hr,List.getD_eq_getElem?_getD]
     by_cases hjp:j<pos s n
     ·rw[List.getElem?_append_left (by omega),<-List.getD_eq_getElem?_getD];exact h2 j hjp
     ·rw[List.getElem?_append_right (by omega),h1,<-List.getD_eq_getElem?_getD]
      rw[qh hp]at hj
      have:=h4 (j - pos s n) (by omega)
      rwa [show pos s n+(j - pos s n)=j from by omega]at this
  obtain⟨h1,h2⟩:=key (cnt s) (Nat.le_refl _)
  rw[ZA,List.take_of_length_le (by rw[zJ];exact Nat.le_refl _)]at h1 h2
  apply ByteArray.ext
  apply Array.ext'
  apply List.ext_getElem?
  intro j
  have hs1:=qH s
  have hs2:=qH (runesBytes (zo s))
  rw[zcz]at hs2
  by_cases hj:j<s.size
  ·have:=(h2 j hj).trans (zoA (zo s) j).symm
   unfold bt at this
   rw[List.getD_eq_getElem?_getD,List.getD_eq_getElem?_getD,List.getElem?_eq_getElem (by omega),List.getElem?_eq_getElem (by omega)]at this
   simp only[Option.getD_some]at this
   rw[List.getElem?_eq_getElem (by omega),List.getElem?_eq_getElem (by omega)]
   congr 1
   exact(UInt8.toNat_inj.1 this).symm
  ·rw[List.getElem?_eq_none (by omega),List.getElem?_eq_none (by omega)]
end Ut
end

section
namespace Ut
open Go Vc
theorem zhS{xs ys:List Int}(hl:xs.length=ys.length)(h:∀i,i<xs.length->xs.getD i 0=ys.getD i 0):xs=ys:=by
  refine List.ext_getElem hl fun i h1 h2=> ?_
  have:=h i h1
  rw[List.getD_eq_getElem?_getD,List.getD_eq_getElem?_getD,List.getElem?_eq_getElem h1,List.getElem?_eq_getElem h2]at this
  exact this
theorem zkr{s:ByteArray}{k:Nat}(hk:k<=cnt s):zo (s.extract 0 (pos s k))++zo (s.extract (pos s k) s.size)=zo s:=by
  have l1:=Zd hk
  have l2:=zbc hk
  refine zhS (by rw[List.length_append,zJ,zJ,zJ];omega) fun i hi=> ?_
  rw[List.length_append,zJ,zJ]at hi
  rw[Zc (by omega)]
  by_cases h:i<k
  ·rw[List.getD_eq_getElem?_getD,List.getElem?_append_left (by rw[zJ];omega),<-List.getD_eq_getElem?_getD,Zc (by omega),zar (by omega) hk]
   unfold Q5;rw[zfz h hk]
  ·rw[List.getD_eq_getElem?_getD,List.getElem?_append_right (by rw[zJ];omega),<-List.getD_eq_getElem?_getD,zJ,l1,Zc (by omega)]
   unfold Q5;rw[zdS]
   rw[show k+(i - k)=i by omega]
theorem zcA{s:ByteArray}{k:Nat}(hk:k<cnt s):QB (s.extract (pos s k) s.size)=Z9 s (pos s k)/\Q4 (s.extract (pos s k) s.size)=Q5 s (pos s k):=by
  have hp:=qJ.1 hk
  have hs:=zO (s:=s) (a:=pos s k) (b:=s.size) (Nat.le_refl _)
  have hd:=Q3 s (Nat.le_of_lt hp) 0
  rw[Nat.add_zero]at hd
  unfold QB Q4
  rw[if_neg (by omega),if_neg (by omega)]
  unfold Z9 Q5
  rw[hd];exact⟨rfl,rfl⟩
end Ut
end

section
open Go Vc Ut Tb Cl Orb
theorem qL{k:ByteArray}(h:qW k=1):0<cnt k/\zq k 0=cnt k/\bp k 1=k.size:=by
  have h0:(0:Nat)<qW k:=by omega
  have hc:0<cnt k:=Nat.lt_of_le_of_lt (Nat.zero_le _) (zcU.1 h0)
  refine⟨hc,?_,?_⟩
  ·have h1:=zfH h0
   have h2:=ztG k
   rw[h]at h2
   rw[show bk k 0=0 from rfl]at h1
   simp only[Nat.zero_add]at h1
   omega
  ·have:=zx6 k;rwa [h]at this
theorem zpA{k:ByteArray}(h:qW k=1)(hb:zu k 0=false):zw k=true:=by
  obtain⟨h0,hf,_⟩:=qL h
  unfold zw
  rw[List.all_eq_true]
  intro n hn
  rw[List.mem_range]at hn
  cases hbn:zu k n with
  |false=>rfl
  |true=>
   have:=(zqj (s:=k) (k:=0) (m:=n) (by omega) (by rw[Nat.zero_add];exact hbn)).1
   subst this;rw[hb]at hbn;cases hbn
theorem zam{k:ByteArray}(h:zw k=true){m:Nat}(hm:m<=cnt k):runesBytes ((zo k).take m)=k.extract 0 (pos k m):=by
  have hv:zw (k.extract 0 (pos k m))=true:=by
    unfold zw at h⊢
    rw[List.all_eq_true]at h⊢
    intro n hn
    rw[List.mem_range,Zd hm]at hn
    rw[zck hn hm]
    exact h n (List.mem_range.2 (by omega))
  have hs:=zkr hm
  have hl:(zo (k.extract 0 (pos k m))).length=m:=by rw[zJ,Zd hm]
  rw[<-hs,List.take_left' hl,zcX hv]
theorem zvS(k:ByteArray):k.extract 0 k.size=k:=by
  exact ByteArray.extract_zero_size
theorem one_le{k:ByteArray}(h:qW k=1):cnt k<=32:=by
  obtain⟨h0,hf,_⟩:=qL h
  have:=zs7 k h0;omega
theorem ztq{k:ByteArray}(h:qW k=1)(hb:zu k 0=false){m:Nat}(hm:m=if 31<cnt k then 31 else cnt k):runesBytes ((zo k).take m)=zch k:=by
  have h32:=one_le h
  have hv:=zpA h hb
  unfold zch
  by_cases hc:cnt k=32
  ·rw[if_pos hc,hm,if_pos (by omega),zam hv (by omega)]
  ·rw[if_neg hc,hm,if_neg (by omega),zam hv (Nat.le_refl _),ZA,zvS]
theorem zlC{a b:ByteArray}(hs:a.size=b.size)(h:∀i,i<a.size->bt a i=bt b i):a=b:=by
  apply ByteArray.ext
  apply Array.ext (h₁:=hs)
  intro i h1 h2
  have:=h i h1
  unfold bt at this
  have e1:a.data.toList.getD i 0=a.data[i]:=by rw[List.getD_eq_getElem?_getD,List.getElem?_eq_getElem (by rw[Array.length_toList];exact h1),Array.getElem_toList];rfl
  have e2:b.data.toList.getD i 0=b.data[i]:=by rw[List.getD_eq_getElem?_getD,List.getElem?_eq_getElem (by rw[Array.length_toList];exact h2),Array.getElem_toList];rfl
  rw[e1,e2]at this
  exact UInt8.toNat_inj.1 this
theorem zyx(a:Nat):zfZ a 0=false:=by unfold zfZ;split<;>rfl
theorem zur(x z:Int)(n:Nat):qc x z 10 n=false:=by
  have h1:zl 10=0:=by decide+kernel
  have h2:ql 10=0:=by decide
  unfold qc qm qP
  rw[h1,h2,zyx]
  simp[qe,qd]
theorem zr7{k:ByteArray}(h:qW k=1):(sg k 0=10\/qb k=10) ↔ (k=⟨#[10]⟩\/k=⟨#[13,10]⟩):=by
  obtain⟨h0,hf,_⟩:=qL h
  have hs0:0<k.size:=Nat.lt_of_lt_of_le h0 (ZU k)
  constructor
  ·rintro(h10|h10)
   ·left
    obtain⟨e1,e2⟩:=zhg (s:=k) (i:=0) (by show sg k 0<128;rw[h10];decide)
    have e2:(bt k 0:Int)=10:=by rw[<-e2];exact h10
    have hf1:zq k 0=1:=by
      unfold zq
      split
      ·rfl
      ·rw[if_neg (by unfold crB;rw[h10];simp),if_pos (by rw[h10];decide+kernel)]
    have hsz:k.size=1:=by
      rw[<-ZA k,<-hf,hf1,qh (n:=0) hs0,show pos k 0=0 from rfl,e1]
    exact zlC hsz fun i hi=>by
      have:i=0:=by omega
      subst this
      show bt k 0=10
      omega
   ·right
    unfold qb at h10
    by_cases hc:1<cnt k
    ·rw[if_pos hc]at h10
     have hf2:=hf
     unfold zq at hf2
     by_cases hb:zu k 0=true
     ·rw[if_pos hb]at hf2;omega
     ·rw[if_neg hb]at hf2
      by_cases hcr:crB k 0=true
      ·rw[if_pos hcr]at hf2
       have h13:sg k 0=13:=by unfold crB at hcr;rw[Bool.and_eq_true]at hcr;simpa using hcr.1
       obtain⟨p1,hi,p2⟩:=zxa hs0 h13
       obtain⟨h1,b1⟩:=hi.1 hcr
       have p2:=p2 hcr
       obtain⟨_,e2⟩:=zhg (s:=k) (i:=0) (by show sg k 0<128;rw[h13];decide)
       have e2:(bt k 0:Int)=13:=by rw[<-e2];exact h13
       have hsz:k.size=2:=by rw[<-ZA k,<-hf2,p2]
       exact zlC hsz fun i hi=>by
         rcases(show i=0\/i=1 by omega)with rfl|rfl
         ·show bt k 0=13;omega
         ·show bt k 1=10;exact b1
      ·rw[if_neg hcr]at hf2
       split at hf2
       ·omega
       ·exfalso
        have hg:=zjA (s:=k) (k:=0) (f:=32) (n:=1) (m:=1) (Nat.le_refl _) (by omega)
        unfold qO at hg
        rw[show(0:Nat)+1=1 from rfl,h10,zur]at hg
        simp at hg
    ·rw[if_neg hc]at h10;exact absurd h10 (by decide)
  ·rintro(rfl|rfl)
   ·left;decide+kernel
   ·right;decide+kernel
section cases
variable {k : ByteArray} {col : Int} {l : Lk}
theorem zkQ(hb:zu k 0=true):zQ k col l=(zqk (bt k 0),4):=by unfold zQ;rw[if_pos hb]
theorem zdF(hb:zu k 0=false)(h:sg k 0=9):zQ k col l=(Z7 (qs col l.tab),qs col l.tab):=by
  unfold zQ;rw[if_neg (by rw[hb];decide),if_pos h]
theorem zfx(hb:zu k 0=false)(h9:¬sg k 0=9)(h:sg k 0=10\/qb k=10):zQ k col l=(⟨#[]⟩,0):=by
  unfold zQ;rw[if_neg (by rw[hb];decide),if_neg h9,if_pos h]
theorem zb1(hb:zu k 0=false)(h9:¬sg k 0=9)(hn:¬(sg k 0=10\/qb k=10))(h:sg k 0<32\/sg k 0=127):zQ k col l=(zeD (sg k 0),2):=by
  unfold zQ;rw[if_neg (by rw[hb];decide),if_neg h9,if_neg hn,if_pos h]
theorem zgP(hb:zu k 0=false)(h9:¬sg k 0=9)(hn:¬(sg k 0=10\/qb k=10))(hc:¬(sg k 0<32\/sg k 0=127))(h:ZT (sg k 0)=true)(hr:l.raw=true):zQ k col l=(ZF (sg k 0).toNat,(ZF (sg k 0).toNat).size):=by
  unfold zQ;rw[if_neg (by rw[hb];decide),if_neg h9,if_neg hn,if_neg hc,if_pos h,if_pos hr]
theorem zdG(hb:zu k 0=false)(h9:¬sg k 0=9)(hn:¬(sg k 0=10\/qb k=10))(hc:¬(sg k 0<32\/sg k 0=127))(h:ZT (sg k 0)=true)(hr:l.raw=false):zQ k col l=(⟨#[]⟩,0):=by
  unfold zQ;rw[if_neg (by rw[hb];decide),if_neg h9,if_neg hn,if_neg hc,if_pos h,if_neg (by rw[hr];decide)]
theorem zeo(hb:zu k 0=false)(h9:¬sg k 0=9)(hn:¬(sg k 0=10\/qb k=10))(hc:¬(sg k 0<32\/sg k 0=127))(hf:ZT (sg k 0)=false)(h:zl (sg k 0)=2\/qe (sg k 0)=true):zQ k col l=(⟨#[226,151,140]⟩++zch k,1):=by
  unfold zQ;rw[if_neg (by rw[hb];decide),if_neg h9,if_neg hn,if_neg hc,if_neg (by rw[hf];decide),if_pos h]
theorem zdE(hb:zu k 0=false)(h9:¬sg k 0=9)(hn:¬(sg k 0=10\/qb k=10))(hc:¬(sg k 0<32\/sg k 0=127))(hf:ZT (sg k 0)=false)(hm:¬(zl (sg k 0)=2\/qe (sg k 0)=true))
    (h:(qd (sg k 0)=true/\qd (qb k)=true)\/(zl (sg k 0)=7/\zU (sg k 0) l.wide=1/\qb k=65039)):zQ k col l=(k,2):=by
  unfold zQ;rw[if_neg (by rw[hb];decide),if_neg h9,if_neg hn,if_neg hc,if_neg (by rw[hf];decide),if_neg hm,if_pos h]
theorem zdD(hb:zu k 0=false)(h9:¬sg k 0=9)(hn:¬(sg k 0=10\/qb k=10))(hc:¬(sg k 0<32\/sg k 0=127))(hf:ZT (sg k 0)=false)(hm:¬(zl (sg k 0)=2\/qe (sg k 0)=true))
    (h2:¬((qd (sg k 0)=true/\qd (qb k)=true)\/(zl (sg k 0)=7/\zU (sg k 0) l.wide=1/\qb k=65039))):
    zQ k col l=if zU (sg k 0) l.wide=0 then(⟨#[]⟩,0)else(k,(zU (sg k 0) l.wide).toNat):=by
  unfold zQ;rw[if_neg (by rw[hb];decide),if_neg h9,if_neg hn,if_neg hc,if_neg (by rw[hf];decide),if_neg hm,if_neg h2]
end cases
theorem zfX(t:Int):1<=zfY t/\zfY t<=16:=by unfold zfY;split<;>omega
theorem zdo(c t:Int):1<=qs c t/\qs c t<=zfY t:=by
  have h:=zfX t
  have:=Nat.mod_lt c.toNat (show 0<zfY t by omega)
  unfold qs;omega
theorem zeJ(r:Int):0<=zaM r:=by
  have h2:(zoW.all fun p=>decide (0<=p.2))=true:=by decide+kernel
  have:∀(l:List (List RC×Int)) (q:Int),l.all (fun p=>decide (0<=p.2))=true->0<=ZS l 1 q:=by
    intro l q hl
    induction l with
    |nil=>simp[ZS]
    |cons a l ih=>
     rw[List.all_cons,Bool.and_eq_true]at hl
     obtain⟨cs,v⟩:=a
     unfold ZS
     split
     ·simpa using hl.1
     ·exact ih hl.2
  exact this _ _ h2
theorem zfN(r:Int)(b:Bool):0<=zU r b:=by
  unfold zU
  have:0<=zaM r:=zeJ r
  split
  ·exact this
  ·split<;>decide
theorem zjq{k:ByteArray}(h:qW k=1):0<k.size:=by
  obtain⟨h0,_,_⟩:=qL h
  exact Nat.lt_of_lt_of_le h0 (ZU k)
theorem zlw:∀x:Fin 128,(x.val<32\/x.val=127)->(ByteArray.mk #[94])++runesBytes [IntKind.i32.wrap (↑(BitVec.ofInt IntKind.i32.bits (x.val:Int)^^^BitVec.ofInt IntKind.i32.bits (64:Int)).toNat:Int)]=zeD (x.val:Int):=by decide+kernel
theorem zp8:∀x:Fin 32,(ByteArray.mk #[94])++qA [UInt8.ofNat (x.val+64)]=zeD (x.val:Int):=by decide+kernel
end

section

end

section
open Go Go.RowKit Vc Ut Tb Cl
theorem zbz{w:World}{b:Nat}{t:TypeId}{l:Lk}(h:w.heap[b]? =some (.cells #[.int .i64 l.tab, .bool l.wide, .int .i8 l.want, .bool l.join, .bool l.raw] t)):
    w.cell? ⟨b,0,none⟩=some (.int .i64 l.tab)/\w.cell? ⟨b,1,none⟩=some (.bool l.wide)/\w.cell? ⟨b,2,none⟩=some (.int .i8 l.want)/\w.cell? ⟨b,3,none⟩=some (.bool l.join)/\w.cell? ⟨b,4,none⟩=some (.bool l.raw):=
  ⟨by rw[za h];rfl,by rw[za h];rfl,by rw[za h];rfl,by rw[za h];rfl,by rw[za h];rfl⟩
theorem ziE{c t:Int}(h1:0<=c)(h:¬(t<1\/16<t)):t - c%t=(qs c t:Int)/\0<=c%t/\c%t<t:=by
  have e:zfY t=t.toNat:=by unfold zfY;rw[if_neg h]
  have h0:=Int.emod_nonneg c (show t≠0 by omega)
  have h2:=Int.emod_lt_of_pos c (show 0<t by omega)
  refine⟨?_,h0,h2⟩
  unfold qs
  rw[e]
  have hm:((c.toNat%t.toNat:Nat):Int)=c%t:=by rw[Int.natCast_emod,Int.toNat_of_nonneg h1,Int.toNat_of_nonneg (by omega)]
  have hl:c.toNat%t.toNat<t.toNat:=Nat.mod_lt _ (by omega)
  omega
theorem zf2{c t:Int}(h1:0<=c)(h:t<1\/16<t):(8:Int) - c%8=(qs c t:Int):=by
  have e:zfY t=8:=by unfold zfY;rw[if_pos h]
  unfold qs
  rw[e];omega
theorem zf1{c t:Int}(h1:c<0):qs c t=qs 0 t:=by
  unfold qs
  rw[show c.toNat=0 from by omega];rfl
theorem znE:zeO.Ok Tryz.prog 97:=by
  refine zuu trivial ?_
  rintro⟨c,l⟩ w _ b w1 hn
  dsimp only
  obtain⟨c0,_⟩:=zbz hn.heap
  have hc:qs c l.tab=qs (if(0:Int)>c then 0 else c) l.tab:=by
    split
    ·rename_i h;exact zf1 h
    ·rfl
  have hp:0<=if(0:Int)>c then 0 else c:=by split<;>omega
  refine⟨l.tab,c0,zb (fun h=> ?_) (fun h=> ?_)⟩
  ·have h:l.tab<1\/16<l.tab:=by simpa using h
   exact⟨hp,by decide,zd (by omega) (by omega),qs c l.tab,by rw[hc,zf2 hp h],rfl,hn.ext⟩
  ·have h:¬(l.tab<1\/16<l.tab):=by simpa using h
   obtain⟨e,h3,h4⟩:=ziE hp h
   exact⟨hp,by omega,zd (by omega) (by omega),qs c l.tab,by rw[hc,e],rfl,hn.ext⟩
theorem zxl:zeO.Ok Tryz.prog 103:=by
  refine zxk trivial ?_
  rintro⟨c,l⟩ w _ b w1 hn
  dsimp only
  obtain⟨c0,_⟩:=zbz hn.heap
  refine⟨l.tab,c0,zb (fun h=> ?_) (fun h=> ?_)⟩
  ·have h:l.tab<1\/16<l.tab:=by simpa using h
   refine zb (fun hc=> ?_) (fun hc=> ?_)
   ·have hc:c<0:=by simpa using hc
    exact⟨by decide,by decide,zd (by decide) (by decide),qs c l.tab,by rw[zf1 hc,<-zf2 (by decide) h];rfl,rfl,hn.ext⟩
   ·have hc:0<=c:=by simpa using hc
    exact⟨hc,by decide,zd (by omega) (by omega),qs c l.tab,by rw[zf2 hc h],rfl,hn.ext⟩
  ·have h:¬(l.tab<1\/16<l.tab):=by simpa using h
   refine zb (fun hc=> ?_) (fun hc=> ?_)
   ·have hc:c<0:=by simpa using hc
    obtain⟨e,h3,h4⟩:=ziE (c:=0) (by decide) h
    exact⟨by decide,by omega,zd (by omega) (by omega),qs c l.tab,by rw[zf1 hc,e],rfl,hn.ext⟩
   ·have hc:0<=c:=by simpa using hc
    obtain⟨e,h3,h4⟩:=ziE hc h
    exact⟨hc,by omega,zd (by omega) (by omega),qs c l.tab,by rw[e],rfl,hn.ext⟩
theorem zov:(sRB qd).Ok Tryz.prog 101:=zvJ trivial fun g w _=>⟨_,rfl,rfl,Ext.refl w⟩
theorem zrP:zyB.Ok Tryz.prog 98:=by
  rintro(n:Nat) w h
  have h:n<=16:=h
  refine(Tryz.strings_Repeat ⟨#[32]⟩ n w (by omega) (by show 1*n<=_;omega)).mono ?_
  rintro e w' ⟨he,hb⟩
  refine⟨Z7 n,?_,⟨rfl,hb⟩,KO.below hb (Nat.le_refl _)⟩
  have e1:Lib.repeatL [32] n=List.replicate n 32:=by
    have:=Lib.repeatL_replicate 32 1 n
    rwa [Nat.mul_one]at this
  have e2:(Lib.repeatL (ByteArray.mk #[32]).data.toList n).toArray=(List.replicate n 32).toArray:=congrArg List.toArray e1
  rw[he,e2];rfl
theorem zu7:(zhR false).Ok Tryz.prog 68:=by
  refine zu6 ⟨znE,zrP,zbd,zkX,zhh,zov,trivial⟩ ?_
  rintro⟨k,col,l,a,c⟩ w ⟨hlate,hD,hsz,h1,hb,hcap,hcells⟩ b w1 hn
  dsimp only at hlate hD hsz h1 hb hcap hcells⊢
  obtain⟨h0,hf,_⟩:=qL h1
  obtain⟨c0,c1,c2,c3,c4⟩:=zbz (l:=l) hn.heap
  have hE:Ext w w1:=hn.ext
  have hcell1:=hcells.ext hE
  have hlen:=zJ k
  have r0:(zo k).getD 0 0=sg k 0:=Zc h0
  have hsg0:0<=sg k 0:=zbC k _
  have hsg1:sg k 0<=1114111:=znd k _
  have hkl:k.size<=67108864:=hsz
  refine⟨0,rfl,h0,hcell1.int (i:=0) (by omega) fun b1 o hc1=>⟨sg k 0,by rw[<-r0];exact hc1,?_,?_⟩⟩
  ·refine zb (fun h=> ?_) (fun h=> ?_)
   ·have h:1<cnt k:=by have:=of_decide_eq_true h;omega
    refine⟨1,rfl,h,hcell1.int (i:=1) (by omega) fun b1 o hc1=>⟨sg k 1,by rw[Zc h]at hc1;exact hc1,(),?_,rfl⟩⟩
    unfold qb;rw[if_pos h]
   ·have h:¬1<cnt k:=by have:=of_decide_eq_false h;omega
    refine⟨(),?_,rfl⟩
    unfold qb;rw[if_neg h]
  rintro _ _ w2 hw2
  replace hw2:=hw2.symm
  subst hw2
  refine zb (fun h9=> ?_) (fun h9=> ?_)
  ·have h9:sg k 0=9:=by simpa using h9
   refine⟨l.tab,c0,l.wide,c1,l.want,c2,l.join,c3,l.raw,c4,(col,l),rfl,trivial,?_⟩
   rintro x w3 ⟨hx,e3⟩
   dsimp only at hx
   have hst:=zdo col l.tab
   have htb:=zfX l.tab
   refine⟨qs col l.tab,by rw[hx],by omega,?_⟩
   rintro y w4 ⟨hy,e4⟩
   exact⟨(Z7 (qs col l.tab),qs col l.tab),by rw[hy,hx],(zdF hb h9).symm,Ext.trans hE (Ext.trans e3 e4)⟩
  have h9:¬sg k 0=9:=by simpa using h9
  refine zb (fun hnl=>⟨(⟨#[]⟩,0),rfl,(zfx hb h9 (by simpa using hnl)).symm,hE⟩) (fun hnl=> ?_)
  have hnl:¬(sg k 0=10\/qb k=10):=by simpa using hnl
  refine zb (fun hct=> ?_) (fun hct=> ?_)
  ·have hct:sg k 0<32\/sg k 0=127:=by simpa using hct
   intro b2 w3 hn2
   have hx:=zlw ⟨(sg k 0).toNat,by omega⟩ (by dsimp only;omega)
   dsimp only at hx
   rw[Int.toNat_of_nonneg hsg0]at hx
   generalize IntKind.i32.wrap (↑(BitVec.ofInt IntKind.i32.bits (sg k 0)^^^BitVec.ofInt IntKind.i32.bits (64:Int)).toNat:Int)=z at hx hn2
   refine⟨[z],zc2 (.inr ⟨b2,0,rfl,fun j v hv=> ?_⟩),?_,(zeD (sg k 0),2),by rw[hx];rfl,(zb1 hb h9 hnl hct).symm,Ext.trans hE hn2.ext⟩
   ·rw[za hn2.heap,Nat.zero_add,show(#[Value.int .i32 z]:Array Value)=[Value.int .i32 z].toArray from rfl,List.getElem?_toArray];exact hv
   ·have e:=congrArg ByteArray.size hx
    rw[ByteArray.size_append]at e
    rw[e]
    exact Nat.le_trans (Nat.le_of_eq (by unfold zeD;rw[Zj];rfl)) (show(2:Nat)<=9223372036854775807 by decide)
  have hct:¬(sg k 0<32\/sg k 0=127):=by simpa using hct
  have hnat:((sg k 0).toNat:Int)=sg k 0:=Int.toNat_of_nonneg hsg0
  have fmt:∀(w3:World),Ext w1 w3->ZT (sg k 0)=true->∃b2:Bool,w3.cell? ⟨b,4,none⟩=some (.bool b2)/\zc (!b2) (∃x:ByteArray×Nat,Value.tuple #[.string (ByteArray.mk #[]), .int .i64 0]=Value.tuple #[.string x.1, .int .i64 x.2]/\x=zQ k col l/\Ext w w3)
   (∃g1:Nat,(#[.int .i32 (sg k 0)]:Array Value)= #[.int .i32 (g1:Int)]/\(DB w3/\16<=g1/\g1<=1114111)/\∀(x:ByteArray) (w4:World),x=ZF g1/\Ext w3 w4->∃x1:ByteArray×Nat,Value.tuple #[.string x, .int .i64 x.size]=Value.tuple #[.string x1.1, .int .i64 x1.2]/\x1=zQ k col l/\Ext w w4):=by
    intro w3 e3 hfm
    refine⟨l.raw,e3.cell c4,zb (fun hr=> ?_) (fun hr=> ?_)⟩
    ·exact⟨(⟨#[]⟩,0),rfl,(zdG hb h9 hnl hct hfm (by simpa using hr)).symm,Ext.trans hE e3⟩
    ·refine⟨(sg k 0).toNat,by rw[hnat],⟨hD.ext (Ext.trans hE e3),by omega,by omega⟩,?_⟩
     rintro x w4 ⟨hx,e4⟩
     exact⟨(ZF (sg k 0).toNat,(ZF (sg k 0).toNat).size),by rw[hx],(zgP hb h9 hnl hct hfm (by simpa using hr)).symm,Ext.trans hE (Ext.trans e3 e4)⟩
  refine zb (fun hc1=>fmt w1 (Ext.refl _) (by unfold ZT;rw[Bool.or_eq_true,Bool.or_eq_true];left;left;simpa using hc1)) (fun hc1=> ?_)
  have hc1:¬(128<=sg k 0/\sg k 0<=159):=by simpa using hc1
  have hfl:ZT (sg k 0)=Qu (sg k 0):=by unfold ZT Qu;rw[decide_eq_false hc1];rfl
  have hl:=hlate
  unfold Qu at hl
  rw[Bool.or_eq_false_iff,Bool.or_eq_false_iff]at hl
  obtain⟨⟨hl1,hl2⟩,hl3⟩:=hl
  rw[hlate]at hfl
  refine⟨⟨zb (fun h=>by rw[h]at hl1;cases hl1) (fun _=>zb (fun h=>by rw[h]at hl2;cases hl2) (fun _=>⟨sg k 0,rfl,trivial,?_⟩)),?_⟩,?_⟩
  ·rintro x w3 ⟨hx,e3⟩
   rw[hlate]
   refine zb (fun h=> ?_) (fun h=>⟨(),rfl,e3⟩)
   have hk:zl (sg k 0)=1:=by rw[<-hx];simpa using h
   rw[hk]at hl3
   have hj:¬sg k 0=8204->sg k 0=8205:=by unfold qe at hl3;simpa using hl3
   refine zb (fun h=>⟨(),?_,e3⟩) (fun h=>⟨(),rfl,e3⟩)
   have h:sg k 0≠8204:=by simpa using h
   have h5:sg k 0=8205:=hj h
   rw[h5];rfl
  ·rintro _ _ w3 e3
   exact zb (fun h=>by rw[hlate]at h;cases h) (fun h=>⟨(),rfl,e3⟩)
  rintro _ _ w3 e3
  refine⟨sg k 0,rfl,trivial,?_⟩
  rintro x w4 ⟨hx,e4⟩
  have e14:=Ext.trans e3 e4
  refine zb (fun h=> ?_) (fun h=> ?_)
  ·have hm:zl (sg k 0)=2\/qe (sg k 0)=true:=by rw[hx]at h;unfold qe;simpa using h
   have hcut:=ztq h1 hb rfl
   have h32:=one_le h1
   refine⟨if 31<cnt k then 31 else cnt k,by split<;>split<;>omega,by split<;>omega,(zo k).take (if 31<cnt k then 31 else cnt k),?_,?_,(⟨#[226,151,140]⟩++zch k,1),by rw[hcut];rfl,(zeo hb h9 hnl hct hfl hm).symm,Ext.trans hE e14⟩
   ·have hcl:CellsAt w4 a (((zo k).take (if 31<cnt k then 31 else cnt k)).map (Value.int .i32)):=by
      rw[List.map_take];exact(hcell1.ext e14).take _
    have:=zc2 hcl
    rwa [List.length_take,hlen,Nat.min_eq_left (by split<;>omega)]at this
   ·rw[hcut]
    have:(zch k).size<=k.size:=by
      unfold zch;split
      ·rw[zO (Zn k 31)];have:=Zn k 31;omega
      ·exact Nat.le_refl _
    exact Nat.le_trans (Nat.add_le_add_left (Nat.le_trans this hsz) _) (show 3+67108864<=9223372036854775807 by decide)
  have hm:¬(zl (sg k 0)=2\/qe (sg k 0)=true):=by rw[hx]at h;unfold qe;simpa using h
  refine⟨l.wide,e14.cell c1,(sg k 0,l.wide),rfl,trivial,?_⟩
  rintro x1 w5 ⟨hx1,e5⟩
  dsimp only at hx1
  have e15:=Ext.trans e14 e5
  refine⟨⟨sg k 0,rfl,trivial,?_⟩,?_⟩
  ·rintro x2 w6 ⟨hx2,e6⟩
   refine zb (fun h2=>⟨qb k,rfl,trivial,?_⟩) (fun h2=>⟨sg k 0,rfl,trivial,?_⟩)
   ·rintro x3 w7 ⟨hx3,e7⟩
    refine zb (fun h3=>⟨(),?_,Ext.trans e6 e7⟩) (fun h3=>⟨sg k 0,rfl,trivial,?_⟩)
    ·unfold qK;rw[<-hx2,<-hx3,h2,h3];rfl
    ·rintro x4 w8 ⟨hx4,e8⟩
     have e:=Ext.trans e6 (Ext.trans e7 e8)
     unfold qK
     rw[<-hx2,<-hx3,<-hx4,<-hx1,h2,h3]
     refine zb (fun h4=>zb (fun h5=>⟨(),by rw[h4,h5];rfl,e⟩) (fun h5=>⟨(),by rw[h4,h5];rfl,e⟩)) (fun h4=>⟨(),by rw[h4];rfl,e⟩)
   ·rintro x3 w7 ⟨hx3,e7⟩
    have e:=Ext.trans e6 e7
    unfold qK
    rw[<-hx2,<-hx3,<-hx1,h2]
    refine zb (fun h4=>zb (fun h5=>⟨(),by rw[h4,h5];rfl,e⟩) (fun h5=>⟨(),by rw[h4,h5];rfl,e⟩)) (fun h4=>⟨(),by rw[h4];rfl,e⟩)
  rintro _ _ w6 e6
  have e16:=Ext.trans hE (Ext.trans e15 e6)
  have htw:qK k l=true ↔ (qd (sg k 0)=true/\qd (qb k)=true)\/(zl (sg k 0)=7/\zU (sg k 0) l.wide=1/\qb k=65039):=by
    unfold qK
    simp only[Bool.or_eq_true,Bool.and_eq_true,beq_iff_eq,and_assoc]
  refine zb (fun h2=>⟨(k,2),rfl,(zdE hb h9 hnl hct hfl hm (htw.1 h2)).symm,e16⟩) (fun h2=> ?_)
  have h2:¬qK k l=true:=by rw[h2];decide
  have hone:=zdD (col:=col) (l:=l) hb h9 hnl hct hfl hm (fun h=>h2 (htw.2 h))
  refine zb (fun h3=>⟨(⟨#[]⟩,0),rfl,?_,e16⟩) (fun h3=>⟨(k,(zU (sg k 0) l.wide).toNat),?_,?_,e16⟩)
  ·rw[hone,if_pos (by rw[<-hx1];simpa using h3)]
  ·rw[Int.toNat_of_nonneg (zfN _ _),hx1]
  ·rw[hone,if_neg (by rw[<-hx1];simpa using h3)]
theorem zu4:(zhR true).Ok Tryz.prog 68:=by
  refine zu3 ⟨znE,zrP,zbd,zkX,zhh,zov,trivial⟩ ?_
  rintro⟨k,col,l,a,c⟩ w ⟨hlate,hD,hsz,h1,hb,hcap,hcells⟩ b w1 hn
  dsimp only at hlate hD hsz h1 hb hcap hcells⊢
  obtain⟨h0,hf,_⟩:=qL h1
  obtain⟨c0,c1,c2,c3,c4⟩:=zbz (l:=l) hn.heap
  have hE:Ext w w1:=hn.ext
  have hcell1:=hcells.ext hE
  have hlen:=zJ k
  have r0:(zo k).getD 0 0=sg k 0:=Zc h0
  have hsg0:0<=sg k 0:=zbC k _
  have hsg1:sg k 0<=1114111:=znd k _
  have hkl:k.size<=67108864:=hsz
  refine⟨0,rfl,h0,hcell1.int (i:=0) (by omega) fun b1 o hc1=>⟨sg k 0,by rw[<-r0];exact hc1,?_,?_⟩⟩
  ·refine zb (fun h=> ?_) (fun h=> ?_)
   ·have h:1<cnt k:=by have:=of_decide_eq_true h;omega
    refine⟨1,rfl,h,hcell1.int (i:=1) (by omega) fun b1 o hc1=>⟨sg k 1,by rw[Zc h]at hc1;exact hc1,(),?_,rfl⟩⟩
    unfold qb;rw[if_pos h]
   ·have h:¬1<cnt k:=by have:=of_decide_eq_false h;omega
    refine⟨(),?_,rfl⟩
    unfold qb;rw[if_neg h]
  rintro _ _ w2 hw2
  replace hw2:=hw2.symm
  subst hw2
  refine zb (fun h9=> ?_) (fun h9=> ?_)
  ·have h9:sg k 0=9:=by simpa using h9
   refine⟨l.tab,c0,l.wide,c1,l.want,c2,l.join,c3,l.raw,c4,(col,l),rfl,trivial,?_⟩
   rintro x w3 ⟨hx,e3⟩
   dsimp only at hx
   have hst:=zdo col l.tab
   have htb:=zfX l.tab
   refine⟨qs col l.tab,by rw[hx],by omega,?_⟩
   rintro y w4 ⟨hy,e4⟩
   exact⟨(Z7 (qs col l.tab),qs col l.tab),by rw[hy,hx],(zdF hb h9).symm,Ext.trans hE (Ext.trans e3 e4)⟩
  have h9:¬sg k 0=9:=by simpa using h9
  refine zb (fun hnl=>⟨(⟨#[]⟩,0),rfl,(zfx hb h9 (by simpa using hnl)).symm,hE⟩) (fun hnl=> ?_)
  have hnl:¬(sg k 0=10\/qb k=10):=by simpa using hnl
  refine zb (fun hct=> ?_) (fun hct=> ?_)
  ·have hct:sg k 0<32\/sg k 0=127:=by simpa using hct
   intro b2 w3 hn2
   have hx:=zlw ⟨(sg k 0).toNat,by omega⟩ (by dsimp only;omega)
   dsimp only at hx
   rw[Int.toNat_of_nonneg hsg0]at hx
   generalize IntKind.i32.wrap (↑(BitVec.ofInt IntKind.i32.bits (sg k 0)^^^BitVec.ofInt IntKind.i32.bits (64:Int)).toNat:Int)=z at hx hn2
   refine⟨[z],zc2 (.inr ⟨b2,0,rfl,fun j v hv=> ?_⟩),?_,(zeD (sg k 0),2),by rw[hx];rfl,(zb1 hb h9 hnl hct).symm,Ext.trans hE hn2.ext⟩
   ·rw[za hn2.heap,Nat.zero_add,show(#[Value.int .i32 z]:Array Value)=[Value.int .i32 z].toArray from rfl,List.getElem?_toArray];exact hv
   ·have e:=congrArg ByteArray.size hx
    rw[ByteArray.size_append]at e
    rw[e]
    exact Nat.le_trans (Nat.le_of_eq (by unfold zeD;rw[Zj];rfl)) (show(2:Nat)<=9223372036854775807 by decide)
  have hct:¬(sg k 0<32\/sg k 0=127):=by simpa using hct
  have hnat:((sg k 0).toNat:Int)=sg k 0:=Int.toNat_of_nonneg hsg0
  have fmt:∀(w3:World),Ext w1 w3->ZT (sg k 0)=true->∃b2:Bool,w3.cell? ⟨b,4,none⟩=some (.bool b2)/\zc (!b2) (∃x:ByteArray×Nat,Value.tuple #[.string (ByteArray.mk #[]), .int .i64 0]=Value.tuple #[.string x.1, .int .i64 x.2]/\x=zQ k col l/\Ext w w3)
   (∃g1:Nat,(#[.int .i32 (sg k 0)]:Array Value)= #[.int .i32 (g1:Int)]/\(DB w3/\16<=g1/\g1<=1114111)/\∀(x:ByteArray) (w4:World),x=ZF g1/\Ext w3 w4->∃x1:ByteArray×Nat,Value.tuple #[.string x, .int .i64 x.size]=Value.tuple #[.string x1.1, .int .i64 x1.2]/\x1=zQ k col l/\Ext w w4):=by
    intro w3 e3 hfm
    refine⟨l.raw,e3.cell c4,zb (fun hr=> ?_) (fun hr=> ?_)⟩
    ·exact⟨(⟨#[]⟩,0),rfl,(zdG hb h9 hnl hct hfm (by simpa using hr)).symm,Ext.trans hE e3⟩
    ·refine⟨(sg k 0).toNat,by rw[hnat],⟨hD.ext (Ext.trans hE e3),by omega,by omega⟩,?_⟩
     rintro x w4 ⟨hx,e4⟩
     exact⟨(ZF (sg k 0).toNat,(ZF (sg k 0).toNat).size),by rw[hx],(zgP hb h9 hnl hct hfm (by simpa using hr)).symm,Ext.trans hE (Ext.trans e3 e4)⟩
  refine zb (fun hc1=>fmt w1 (Ext.refl _) (by unfold ZT;rw[Bool.or_eq_true,Bool.or_eq_true];left;left;simpa using hc1)) (fun hc1=> ?_)
  have hc1:¬(128<=sg k 0/\sg k 0<=159):=by simpa using hc1
  have hfl:ZT (sg k 0)=Qu (sg k 0):=by unfold ZT Qu;rw[decide_eq_false hc1];rfl
  have hfm:=hfl.trans hlate
  refine zb (fun h=> ?_) (fun h=> ?_)
  ·exact zb (fun _=>fmt w1 (Ext.refl _) hfm) (fun h'=>by rw[h]at h';cases h')
  refine zb (fun h'=> ?_) (fun h'=> ?_)
  ·exact zb (fun _=>fmt w1 (Ext.refl _) hfm) (fun h''=>by rw[h']at h'';cases h'')
  have hl:=hlate
  unfold Qu at hl
  rw[h,h',Bool.false_or,Bool.false_or,Bool.and_eq_true]at hl
  obtain⟨hk,hj⟩:=hl
  refine⟨sg k 0,rfl,trivial,?_⟩
  rintro x w3 ⟨hx,e3⟩
  rw[<-hx]at hk
  have hj1:(sg k 0 !=8204)=true:=by unfold qe at hj;simp at hj⊢;exact hj.1
  have hj2:(sg k 0 !=8205)=true:=by unfold qe at hj;simp at hj⊢;exact hj.2
  refine zb (fun _=>zb (fun _=>zb (fun _=>fmt w3 e3 hfm) (fun h=> ?_)) (fun h=> ?_)) (fun h=> ?_)
  ·rw[hj2]at h;cases h
  ·rw[hj1]at h;cases h
  ·rw[hk]at h;cases h
theorem zu2:zrq.Ok Tryz.prog 68:=by
  intro g w h
  cases hl:Qu (sg g.k 0)with
  |true=>exact zu4 g w ⟨hl,h⟩
  |false=>exact zu7 g w ⟨hl,h⟩
end

section
open Go Go.RowKit Vc Ut
def ziP:List (Nat×CallSpec):=[(128,zuy)]
def ztV(g:GSl)(w00:World):Ann where
  sp:=ziP
  loops:=[(3,{
    X:=Nat×Option Addr×Nat
    sh:=fun _ x=>[(4, .int .i64 x.1),(3, .slice x.2.1 ((g.xs.take x.1).flatMap Za).length x.2.2)]
    inv:=fun _ w0 x w=>x.1<=g.xs.length/\Made w0 w 5 1 x.2.1 ((g.xs.take x.1).flatMap Za).length (((g.xs.take x.1).flatMap Za).map (Value.int .u8)) x.2.2
    mu:=fun _ _ x _=>g.xs.length - x.1})]
end

section
set_option linter.unusedVariables false
open Go Go.RowKit Vc Ut
open Value
set_option maxRecDepth 1000000
theorem zxx(hsp:zf Tryz.prog [])(h:∀(g:GPut) w,Made g.W w (5:TypeId) 1 g.ad g.vs.length (List.map (int IntKind.u8) g.vs) g.c/\g.vs.length<=1073741824->zc (decide (g.r<0)||(decide (g.r>1114111)||decide (g.r>=55296)&&decide (g.r<=57343))) (∃(c:Unit),int .i32 65533=int .i32 (↑(zD g.r):Int)/\w=w) (∃(c:Unit),int .i32 g.r=int .i32 (↑(zD g.r):Int)/\w=w)/\∀(u:Nat->Value) (c:Unit) w',w'=w->zc (decide ((↑(zD g.r):Int)<128)) (InR .u8 (↑(zD g.r):Int)/\∀b w1,New w' (Obj.cells #[int .u8 (↑(zD g.r):Int)] (5:Nat)) b w1->∃(a':Option Addr) (c':Nat) (w'1:World),zt Tryz.prog #[40,40] 40 (slice g.ad g.vs.length g.c) (slice (some ⟨b,0,none⟩) 1 1) w1 a' (g.vs.length+1) c' w'1/\KO w1 w'1/\∃(x:Option Addr×Nat×Nat),slice a' (g.vs.length+1) c'=slice x.fst x.snd.fst x.snd.snd/\x.snd.fst=(g.vs++Za g.r).length/\Made g.W w'1 (5:TypeId) 1 x.fst x.snd.fst (List.map (int IntKind.u8) (g.vs++Za g.r)) x.snd.snd) (zc (decide ((↑(zD g.r):Int)<2048)) ((0:Int)<=(↑(zD g.r):Int)/\(0:Int)<64/\InR .i32 ((↑(zD g.r):Int) / 64)/\InR .i32 ((192:Int)+(↑(zD g.r):Int) / 64)/\InR .u8 ((192:Int)+(↑(zD g.r):Int) / 64)/\(0:Int)<=(↑(zD g.r):Int)/\(0:Int)<64/\InR .i32 ((128:Int)+(↑(zD g.r):Int)%64)/\InR .u8 ((128:Int)+(↑(zD g.r):Int)%64)/\∀b w1,New w' (Obj.cells #[int .u8 ((192:Int)+(↑(zD g.r):Int) / 64),int .u8 ((128:Int)+(↑(zD g.r):Int)%64)] 5) b w1->∃(a':Option Addr) (c':Nat) (w'1:World),zt Tryz.prog #[40,40] 40 (slice g.ad g.vs.length g.c) (slice (some ⟨b,0,none⟩) 2 2) w1 a' (g.vs.length+2) c' w'1/\KO w1 w'1/\∃(x:Option Addr×Nat×Nat),slice a' (g.vs.length+2) c'=slice x.fst x.snd.fst x.snd.snd/\x.snd.fst=(g.vs++Za g.r).length/\Made g.W w'1 (5:TypeId) 1 x.fst x.snd.fst (List.map (int IntKind.u8) (g.vs++Za g.r)) x.snd.snd) (zc (decide ((↑(zD g.r):Int)<65536)) ((0:Int)<=(↑(zD g.r):Int)/\(0:Int)<4096/\InR .i32 ((↑(zD g.r):Int) / 4096)/\InR .i32 ((224:Int)+(↑(zD g.r):Int) / 4096)/\InR .u8 ((224:Int)+(↑(zD g.r):Int) / 4096)/\(0:Int)<=(↑(zD g.r):Int)/\(0:Int)<64/\InR .i32 ((↑(zD g.r):Int) / 64)/\(0:Int)<=(↑(zD g.r):Int) / 64/\(0:Int)<64/\InR .i32 ((128:Int)+(↑(zD g.r):Int) / 64%64)/\InR .u8 ((128:Int)+(↑(zD g.r):Int) / 64%64)/\(0:Int)<=(↑(zD g.r):Int)/\(0:Int)<64/\InR .i32 ((128:Int)+(↑(zD g.r):Int)%64)/\InR .u8 ((128:Int)+(↑(zD g.r):Int)%64)/\∀b w1,New w' (Obj.cells #[int .u8 ((224:Int)+(↑(zD g.r):Int) / 4096),int .u8 ((128:Int)+(↑(zD g.r):Int) / 64%64),int .u8 ((128:Int)+(↑(zD g.r):Int)%64)] 5) b w1->∃(a':Option Addr) (c':Nat) (w'1:World),zt Tryz.prog #[40,40] 40 (slice g.ad g.vs.length g.c)
 (slice (some ⟨b,0,none⟩) 3 3) w1 a' (g.vs.length+3) c' w'1/\KO w1 w'1/\∃(x:Option Addr×Nat×Nat),slice a' (g.vs.length+3) c'=slice x.fst x.snd.fst x.snd.snd/\x.snd.fst=(g.vs++Za g.r).length/\Made g.W w'1 (5:TypeId) 1 x.fst x.snd.fst (List.map (int IntKind.u8) (g.vs++Za g.r)) x.snd.snd) ((0:Int)<=(↑(zD g.r):Int)/\(0:Int)<262144/\InR .i32 ((↑(zD g.r):Int) / 262144)/\InR .i32 ((240:Int)+(↑(zD g.r):Int) / 262144)/\InR .u8 ((240:Int)+(↑(zD g.r):Int) / 262144)/\(0:Int)<=(↑(zD g.r):Int)/\(0:Int)<4096/\InR .i32 ((↑(zD g.r):Int) / 4096)/\(0:Int)<=(↑(zD g.r):Int) / 4096/\(0:Int)<64/\InR .i32 ((128:Int)+(↑(zD g.r):Int) / 4096%64)/\InR .u8 ((128:Int)+(↑(zD g.r):Int) / 4096%64)/\(0:Int)<=(↑(zD g.r):Int)/\(0:Int)<64/\InR .i32 ((↑(zD g.r):Int) / 64)/\(0:Int)<=(↑(zD g.r):Int) / 64/\(0:Int)<64/\InR .i32 ((128:Int)+(↑(zD g.r):Int) / 64%64)/\InR .u8 ((128:Int)+(↑(zD g.r):Int) / 64%64)/\(0:Int)<=(↑(zD g.r):Int)/\(0:Int)<64/\InR .i32 ((128:Int)+(↑(zD g.r):Int)%64)/\InR .u8 ((128:Int)+(↑(zD g.r):Int)%64)/\∀b w1,New w' (Obj.cells #[int .u8 ((240:Int)+(↑(zD g.r):Int) / 262144),int .u8 ((128:Int)+(↑(zD g.r):Int) / 4096%64),int .u8 ((128:Int)+(↑(zD g.r):Int) / 64%64),int .u8 ((128:Int)+(↑(zD g.r):Int)%64)] 5) b w1->∃(a':Option Addr) (c':Nat) (w'1:World),zt Tryz.prog #[40,40] 40 (slice g.ad g.vs.length g.c) (slice (some ⟨b,0,none⟩) 4 4) w1 a' (g.vs.length+4) c' w'1/\KO w1 w'1/\∃(x:Option Addr×Nat×Nat),slice a' (g.vs.length+4) c'=slice x.fst x.snd.fst x.snd.snd/\x.snd.fst=(g.vs++Za g.r).length/\Made g.W w'1 (5:TypeId) 1 x.fst x.snd.fst (List.map (int IntKind.u8) (g.vs++Za g.r)) x.snd.snd)))):zuy.Ok Tryz.prog 128:=ze zuy zyb [] (fun _ _=>rfl) (fun _ _=>rfl) hsp Tryz.func128 rfl (n:=2) (fun _=>rfl) (by kernel_rfl) (zj (by kernel_rfl) h)
theorem zrw(hsp:zf Tryz.prog ziP)(h:∀(g:GSl) (w:World),GSl.at IntKind.i32 g w/\g.xs.length<=67108864->(∃(x:Nat×Option Addr×Nat),int .i64 0=int .i64 (x.fst:Int)/\slice none 0 0=slice x.snd.fst (List.flatMap Za (List.take x.fst g.xs)).length x.snd.snd/\x.fst<=g.xs.length/\Made w w (5:TypeId) 1 x.snd.fst (List.flatMap Za (List.take x.fst g.xs)).length (List.map (int IntKind.u8) (List.flatMap Za (List.take x.fst g.xs))) x.snd.snd)/\∀(u:Nat->Value) (x:Nat×Option Addr×Nat) w',x.fst<=g.xs.length/\Made w w' (5:TypeId) 1 x.snd.fst (List.flatMap Za (List.take x.fst g.xs)).length (List.map (int IntKind.u8) (List.flatMap Za (List.take x.fst g.xs))) x.snd.snd->zc (decide ((x.fst:Int)<(g.xs.length:Int))) (qa (x.fst:Int) g.xs.length fun k=>zn g.ad fun(b o:Nat)=>zY w' .i32 b (o+k) fun n=>∃(g1:GPut), #[slice x.snd.fst (List.flatMap Za (List.take x.fst g.xs)).length x.snd.snd,int .i32 n]= #[slice g1.ad g1.vs.length g1.c,int .i32 g1.r]/\(Made g1.W w' (5:TypeId) 1 g1.ad g1.vs.length (List.map (int IntKind.u8) g1.vs) g1.c/\g1.vs.length<=1073741824)/\∀(x1:Option Addr×Nat×Nat) w'1,x1.snd.fst=(g1.vs++Za g1.r).length/\Made g1.W w'1 (5:TypeId) 1 x1.fst x1.snd.fst (List.map (int IntKind.u8) (g1.vs++Za g1.r)) x1.snd.snd->InR .i64 ((x.fst:Int)+1)/\∃(y:Nat×Option Addr×Nat),int .i64 ((x.fst:Int)+1)=int .i64 (y.fst:Int)/\slice x1.fst x1.snd.fst x1.snd.snd=slice y.snd.fst (List.flatMap Za (List.take y.fst g.xs)).length y.snd.snd/\(y.fst<=g.xs.length/\Made w w'1 (5:TypeId) 1 y.snd.fst (List.flatMap Za (List.take y.fst g.xs)).length (List.map (int IntKind.u8) (List.flatMap Za (List.take y.fst g.xs))) y.snd.snd)/\g.xs.length - y.fst<g.xs.length - x.fst) (∃(str:ByteArray),qC w' x.snd.fst (List.flatMap Za (List.take x.fst g.xs)).length str/\∃(x1:ByteArray),string str=string x1/\x1=runesBytes g.xs/\Ext w w')):
    ((sLS runesBytes)).Ok Tryz.prog 107:=ze (sLS runesBytes) ztV ziP (fun _ _=>rfl) (fun _ _=>rfl) hsp Tryz.func107 rfl (n:=1) (fun _=>rfl) (by kernel_rfl) (zj (by kernel_rfl) h)
end

section
open Go Go.RowKit Vc Ut
set_option maxRecDepth 1000000 in
theorem zxy:zuy.Ok Tryz.prog 128:=by
  refine zxx trivial ?_
  rintro⟨W,ad,c,vs,r⟩ w ⟨hm,hsm⟩
  dsimp only at hm hsm⊢
  have hle:=zoB r
  refine⟨zb (fun h=>⟨(),?_,rfl⟩) (fun h=>⟨(),?_,rfl⟩),?_⟩
  ·simp only[Bool.or_eq_true,Bool.and_eq_true,decide_eq_true_eq]at h
   unfold zD;rw[if_neg (by omega)];rfl
  ·simp only[Bool.or_eq_false_iff,Bool.and_eq_false_iff,decide_eq_false_iff_not]at h
   unfold zD;rw[if_pos (by omega)];congr 1;omega
  rintro _ _ w' hw';replace hw':=hw'.symm;subst hw'
  have fin:∀(m:Nat) (b:Nat) (w1:World) (news:List Int),Za r=news->news.length=m->m<=4->New w (.cells (news.map (Value.int .u8)).toArray 5) b w1->
   ∃a' c' w2,zt Tryz.prog #[40,40] 40 (.slice ad vs.length c) (.slice (some ⟨b,0,none⟩) m m) w1 a' (vs.length+m) c' w2/\KO w1 w2/\
   ∃x:Option Addr×Nat×Nat,Value.slice a' (vs.length+m) c'=Value.slice x.1 x.2.1 x.2.2/\x.2.1=(vs++Za r).length/\Made W w2 5 1 x.1 x.2.1 ((vs++Za r).map (Value.int .u8)) x.2.2:=by
    intro m b w1 news he hl hm4 hnw
    obtain⟨a',c',w2,hrun,hko,hm2,_⟩:=hm.pushN (P:=Tryz.prog) (ty:=40) zcg (by decide) (m:=m) (news:=news.map (Value.int .u8)) hnw (by rw[List.length_map,hl,Nat.mul_one]) (zkO _ _) (by unfold maxLen;omega) (.inr (by omega))
    refine⟨a',c',w2,hrun,hko,(a',_,c'),rfl,by rw[he,List.length_append,hl],?_⟩
    rw[he,List.map_append];exact hm2
  refine zb (fun h=> ?_) (fun h=> ?_)
  ·have h1:zD r<128:=by simp only[decide_eq_true_eq]at h;omega
   refine⟨QM (by omega) (by omega),fun b w1 hnw=>fin 1 b w1 [(zD r:Int)] ?_ rfl (by omega) hnw⟩
   unfold Za qX;rw[if_pos h1];rfl
  have h1:¬zD r<128:=by simp only[decide_eq_false_iff_not]at h;omega
  refine zb (fun h=> ?_) (fun h=> ?_)
  ·have h2:zD r<2048:=by simp only[decide_eq_true_eq]at h;omega
   refine⟨by omega,by omega,qF (by omega) (by omega),qF (by omega) (by omega),QM (by omega) (by omega),by omega,by omega,qF (by omega) (by omega),QM (by omega) (by omega),fun b w1 hnw=>fin 2 b w1 [192+(zD r:Int) / 64,128+(zD r:Int)%64] ?_ rfl (by omega) hnw⟩
   unfold Za qX;rw[if_neg h1,if_pos h2];simp
  have h2:¬zD r<2048:=by simp only[decide_eq_false_iff_not]at h;omega
  refine zb (fun h=> ?_) (fun h=> ?_)
  ·have h3:zD r<65536:=by simp only[decide_eq_true_eq]at h;omega
   refine⟨by omega,by omega,qF (by omega) (by omega),qF (by omega) (by omega),QM (by omega) (by omega),by omega,by omega,qF (by omega) (by omega),by omega,by omega,qF (by omega) (by omega),QM (by omega) (by omega),by omega,by omega,qF (by omega) (by omega),QM (by omega) (by omega),
     fun b w1 hnw=>fin 3 b w1 [224+(zD r:Int) / 4096,128+(zD r:Int) / 64%64,128+(zD r:Int)%64] ?_ rfl (by omega) hnw⟩
   unfold Za qX;rw[if_neg h1,if_neg h2,if_pos h3];simp
  ·have h3:¬zD r<65536:=by simp only[decide_eq_false_iff_not]at h;omega
   refine⟨by omega,by omega,qF (by omega) (by omega),qF (by omega) (by omega),QM (by omega) (by omega),by omega,by omega,qF (by omega) (by omega),by omega,by omega,qF (by omega) (by omega),QM (by omega) (by omega),by omega,by omega,qF (by omega) (by omega),by omega,by omega,qF (by omega) (by omega),QM (by omega) (by omega),by omega,by omega,qF (by omega) (by omega),QM (by omega) (by omega),
     fun b w1 hnw=>fin 4 b w1 [240+(zD r:Int) / 262144,128+(zD r:Int) / 4096%64,128+(zD r:Int) / 64%64,128+(zD r:Int)%64] ?_ rfl (by omega) hnw⟩
   unfold Za qX;rw[if_neg h1,if_neg h2,if_neg h3];simp
theorem zrx:(sLS runesBytes).Ok Tryz.prog 107:=by
  refine zrw ⟨zxy,trivial⟩ ?_
  rintro⟨ad,c0,xs⟩ w ⟨⟨hc,hl⟩,hsm⟩
  dsimp only at hc hl hsm⊢
  refine⟨⟨(0,none,0),rfl,rfl,Nat.zero_le _,Made.nil _ _ _⟩,?_⟩
  rintro _ ⟨i,a,c⟩ w1 ⟨hi,hm⟩
  dsimp only at hi hm⊢
  have hfl:=zhG (xs.take i)
  have htl:(xs.take i).length<=xs.length:=by rw[List.length_take];omega
  refine zb (fun h=> ?_) (fun h=> ?_)
  ·have hi1:i<xs.length:=by simpa using h
   refine⟨i,rfl,hi1,(hc.ext hm.ext).int hi1 fun b o hb=>⟨_,hb,⟨w,a,c,(xs.take i).flatMap Za,xs.getD i 0⟩,rfl,⟨hm,by dsimp only;omega⟩,?_⟩⟩
   rintro⟨pa,pn,pc⟩ w2 ⟨hpn,hp⟩
   dsimp only at hpn hp⊢
   have e:(xs.take (i+1)).flatMap Za=(xs.take i).flatMap Za++Za (xs.getD i 0):=by rw[zfW hi1,List.flatMap_append];simp
   refine⟨zd (by omega) (by omega),(i+1,pa,pc),by simp,by dsimp only;rw[e,hpn],⟨hi1,?_⟩,by dsimp only;omega⟩
   dsimp only;rw[e,<-hpn];exact hp
  ·have hi1:i=xs.length:=by simp only[decide_eq_false_iff_not]at h;omega
   subst hi1
   rw[List.take_length]at hm⊢
   refine⟨runesBytes xs,qz (Qb xs).symm ?_,_,rfl,rfl,hm.ext⟩
   rw[znk];exact hm.row.cells
end
end Go.Proofs.YtjdohhididpomaaGreatDoor
