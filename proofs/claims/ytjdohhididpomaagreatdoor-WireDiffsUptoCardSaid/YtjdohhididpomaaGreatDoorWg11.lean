/-
  Texts joined by program: WkSf, VgK, WkK.
-/
import Derived.Test.YtjdohhididpomaaGreatDoorWg10
import Derived.Test.YtjdohhididpomaaGreatDoorWg04
import Derived.Test.YtjdohhididpomaaGreatDoorProg
import Derived.KernelRfl
set_option linter.unusedVariables false
set_option linter.unusedSimpArgs false

namespace Go.Proofs.YtjdohhididpomaaGreatDoor
section
open Go Go.RowKit Vc Ut Tb Cl
theorem DB.ext{w w':World}(h:DB w)(e:Ext w w'):DB w':=e.cell h
theorem qv{n:Int}(h1:0<=n)(h2:n<=18446744073709551615):InR .u64 n:=⟨h1,h2⟩
theorem zuG:(sTz .u64).Ok Tryz.prog 151:=by
  refine zuF trivial ?_
  rintro _ w hD
  exact⟨⟨by decide+kernel,by decide+kernel⟩,15,rfl,by decide,4,hD,zd (by decide) (by decide),(),rfl,rfl⟩
theorem zkf:(sTz .u64).Ok Tryz.prog 146:=by
  refine zyP ⟨zuG,trivial⟩ ?_
  rintro _ w hD
  exact⟨(),rfl,hD,fun _ w' h=>⟨(),rfl,h⟩⟩
theorem zgV:zuS.Ok Tryz.prog 145:=by
  refine zxQ trivial ?_
  rintro _ w _
  exact⟨zd (by decide) (by decide),(),rfl,rfl⟩
theorem znr:∀k,k<16->[(48:UInt8),49,50,51,52,53,54,55,56,57,97,98,99,100,101,102].getD k 0=zdZ k:=by decide
theorem za7:∀k,k<16->[(48:UInt8),49,50,51,52,53,54,55,56,57,97,98,99,100,101,102,103,104,105,106,107,108,109,110,111,112,113,114,115,116,117,118,119,120,121,122].getD k 0=zdZ k:=by decide
theorem zl5{m:Nat}(h:m<18446744073709551616):IntKind.u64.wrap (((BitVec.ofInt IntKind.u64.bits (m:Int)&&&BitVec.ofInt IntKind.u64.bits ((16:Int) - 1)).toNat:Nat):Int)=((m%16:Nat):Int):=by
  have h1:(BitVec.ofInt IntKind.u64.bits (m:Int)&&&BitVec.ofInt IntKind.u64.bits ((16:Int) - 1)).toNat=m%16:=by
    rw[BitVec.toNat_and,BitVec.toNat_ofInt,BitVec.toNat_ofInt]
    show((m:Int)%(2^64:Nat)).toNat&&&15=m%16
    rw[show((m:Int)%((2^64:Nat):Int)).toNat=m from by omega]
    exact Nat.and_two_pow_sub_one_eq_mod m 4
  rw[h1]
  exact(qv (by omega) (by omega)).wrap
theorem zrD(m:Nat):((m:Nat):Int).fdiv ((2:Int)^min (Int.toNat (4:Int)) IntKind.u64.bits)=((m / 16:Nat):Int):=by
  show(m:Int).fdiv 16=_
  rw[Int.fdiv_eq_ediv_of_nonneg _ (by decide)]
  rfl
theorem zcP(u j:Nat):u / 16^j / 16=u / 16^(j+1):=by rw[Nat.div_div_eq_div_mul,Nat.pow_succ]
theorem zb8{u j d:Nat}(h2:u<16^d)(hj:j+1<=d)(h:16<=u / 16^j):j+2<=d:=by
  rcases Nat.lt_or_ge (j+1) d with h1|h1
  ·exact h1
  ·have e:d=j+1:=by omega
   subst e
   rw[Nat.pow_succ]at h2
   have:=Nat.div_lt_of_lt_mul h2
   omega
theorem zcn{u j d:Nat}(h1:16^(d - 1)<=u)(hj:j+1<=d)(h:u / 16^j<16):j+1=d:=by
  rcases Nat.lt_or_ge (j+1) d with h2|h2
  ·exfalso
   have h3:16^(j+1)<=16^(d - 1):=Nat.pow_le_pow_right (by decide) (by omega)
   have h4:16<=u / 16^j:=(Nat.le_div_iff_mul_le (Nat.pow_pos (by decide))).2 (by rw[Nat.mul_comm,<-Nat.pow_succ];exact Nat.le_trans h3 h1)
   omega
  ·omega
theorem zbL(x:Nat):∀j,(qT x j).length=j
  |0=>rfl
  |j+1=>by simp only[qT,List.length_cons,zbL x j]
theorem Zo(l:List UInt8):(qA l).size=l.length:=by simp[qA,ByteArray.size]
theorem znL(l:List UInt8):(u8L l).length=l.length:=by simp[u8L]
theorem zab{u j:Nat}(h:j<=65):(ZE u j).length=65:=by
  unfold ZE
  rw[List.length_append,List.length_replicate,znL,zbL];omega
theorem zaa{u j:Nat}(h:j<65):(ZE u j).toArray.setIfInBounds (64 - j) (.int .u8 ((zdZ (u / 16^j%16)).toNat:Nat))=(ZE u (j+1)).toArray:=by
  have e:ZE u j=List.replicate (64 - j) (.int .u8 0)++([.int .u8 0]++u8L (qT u j)):=by
    unfold ZE
    rw[show 65 - j=(64 - j)+1 from by omega,List.replicate_succ',List.append_assoc]
  rw[e,List.setIfInBounds_toArray,List.set_append_right _ _ (by rw[List.length_replicate];exact Nat.le_refl _),List.length_replicate,Nat.sub_self]
  unfold ZE
  rw[show 65 - (j+1)=64 - j from by omega]
  rfl
theorem zbr{w:World}{b u d:Nat}(hd:d<=65)(h:w.heap[b]? =some (.cells (ZE u d).toArray 184)):Zz w (some ⟨b,65 - d,none⟩) d (qA (qT u d)):=by
  refine Qn (by rw[Zo,zbL]) (.inr ⟨b,65 - d,rfl,fun t v hv=> ?_⟩)
  have hv:(u8L (qT u d))[t]? =some v:=hv
  rw[za h,List.getElem?_toArray]
  unfold ZE
  rw[List.getElem?_append_right (by rw[List.length_replicate];omega),List.length_replicate,Nat.add_sub_cancel_left]
  exact hv
theorem zwL:(zaF 2).Ok Tryz.prog 133:=by
  refine zwK ⟨zgV,zkf,trivial⟩ ?_
  rintro(u:Nat) w ⟨hD,h1,h2⟩ b w1 hn1
  have z1:=hn1.size
  have h16:u<16777216:=Nat.lt_of_lt_of_le h2 (by decide)
  refine⟨(),rfl,trivial,?_⟩
  rintro _ w2 hw2
  replace hw2:=hw2.symm
  subst hw2
  refine⟨qv (by decide) (by decide),(),rfl,hD.ext hn1.ext,?_⟩
  rintro _ w3 hw3
  replace hw3:=hw3.symm
  subst hw3
  refine⟨qv (by decide) (by decide),qv (by decide) (by decide),qv (by decide) (by decide),qv (by decide) (by decide),⟨⟨0,rfl,by simp,by omega,⟨b,rfl,by omega,hn1.heap⟩,hn1.ext⟩,?_⟩,?_⟩
  ·rintro _ j w4 ⟨hj,⟨b',hb',hge,hh⟩,e4⟩
   cases hb'
   have hle:u / 16^j<=u:=Nat.div_le_self _ _
   refine zb (fun h=> ?_) (fun h=> ?_)
   ·have h:=of_decide_eq_true h
    have hj2:=zb8 h2 hj (by omega)
    have hm:u / 16^j%16<16:=Nat.mod_lt _ (by decide)
    have ho:((64 - j:Nat):Int)=(65:Int) - (j:Int) - 1:=by omega
    refine⟨zd (by omega) (by omega),u / 16^j%16,zl5 (by omega),by show _<36;omega,64 - j,ho.symm,by omega,rfl,⟨_,by rw[za hh,Array.getElem?_eq_getElem (by rw[List.size_toArray,zab (by omega)];omega)]⟩,zB hh _,fun w5 hs5=> ?_⟩
    have hh5:=hs5.heap hh
    rw[za7 _ hm,Nat.zero_add,zaa (by omega)]at hh5
    exact⟨j+1,by congr 1;omega,by rw[zrD,zcP],⟨by omega,⟨b,rfl,hge,hh5⟩,e4.stored hs5 (by show _<=b;omega)⟩,by omega⟩
   ·have h:=of_decide_eq_false h
    have hjd:=zcn h1 hj (by omega)
    have hj:j=2 - 1:=by omega
    subst hj
    exact⟨(),rfl,rfl,⟨b,_,rfl,hge,rfl,hh⟩,e4⟩
  ·rintro _ _ w4 ⟨⟨b',j,hb',hge,hjd,hh⟩,e4⟩
   cases hb'
   have hj:j=2 - 1:=by omega
   subst hj
   have hm:u / 16^(2 - 1)<16:=Nat.div_lt_of_lt_mul h2
   refine⟨zd (by decide) (by decide),_,rfl,by show _<36;omega,64 - 1,rfl,by decide,rfl,⟨_,by rw[za hh,Array.getElem?_eq_getElem (by rw[List.size_toArray,zab (by decide)];decide)]⟩,zB hh _,fun w5 hs5=> ?_⟩
   have hh5:=hs5.heap hh
   rw[za7 _ hm]at hh5
   have hs:=zaa (u:=u) (j:=2 - 1) (by decide)
   rw[Nat.mod_eq_of_lt hm]at hs
   have hh6:w5.heap[b]? =some (.cells (ZE u 2).toArray 184):=hh5.trans (congrArg (fun c=>some (Obj.cells c 184)) hs)
   exact⟨qA (qT u 2),zbr (by decide) hh6,((),qA (qT u 2)),rfl,rfl,e4.stored hs5 (by show _<=b;omega)⟩
theorem zwJ:(zaF 3).Ok Tryz.prog 133:=by
  refine zwI ⟨zgV,zkf,trivial⟩ ?_
  rintro(u:Nat) w ⟨hD,h1,h2⟩ b w1 hn1
  have z1:=hn1.size
  have h16:u<16777216:=Nat.lt_of_lt_of_le h2 (by decide)
  refine⟨(),rfl,trivial,?_⟩
  rintro _ w2 hw2
  replace hw2:=hw2.symm
  subst hw2
  refine⟨qv (by decide) (by decide),(),rfl,hD.ext hn1.ext,?_⟩
  rintro _ w3 hw3
  replace hw3:=hw3.symm
  subst hw3
  refine⟨qv (by decide) (by decide),qv (by decide) (by decide),qv (by decide) (by decide),qv (by decide) (by decide),⟨⟨0,rfl,by simp,by omega,⟨b,rfl,by omega,hn1.heap⟩,hn1.ext⟩,?_⟩,?_⟩
  ·rintro _ j w4 ⟨hj,⟨b',hb',hge,hh⟩,e4⟩
   cases hb'
   have hle:u / 16^j<=u:=Nat.div_le_self _ _
   refine zb (fun h=> ?_) (fun h=> ?_)
   ·have h:=of_decide_eq_true h
    have hj2:=zb8 h2 hj (by omega)
    have hm:u / 16^j%16<16:=Nat.mod_lt _ (by decide)
    have ho:((64 - j:Nat):Int)=(65:Int) - (j:Int) - 1:=by omega
    refine⟨zd (by omega) (by omega),u / 16^j%16,zl5 (by omega),by show _<36;omega,64 - j,ho.symm,by omega,rfl,⟨_,by rw[za hh,Array.getElem?_eq_getElem (by rw[List.size_toArray,zab (by omega)];omega)]⟩,zB hh _,fun w5 hs5=> ?_⟩
    have hh5:=hs5.heap hh
    rw[za7 _ hm,Nat.zero_add,zaa (by omega)]at hh5
    exact⟨j+1,by congr 1;omega,by rw[zrD,zcP],⟨by omega,⟨b,rfl,hge,hh5⟩,e4.stored hs5 (by show _<=b;omega)⟩,by omega⟩
   ·have h:=of_decide_eq_false h
    have hjd:=zcn h1 hj (by omega)
    have hj:j=3 - 1:=by omega
    subst hj
    exact⟨(),rfl,rfl,⟨b,_,rfl,hge,rfl,hh⟩,e4⟩
  ·rintro _ _ w4 ⟨⟨b',j,hb',hge,hjd,hh⟩,e4⟩
   cases hb'
   have hj:j=3 - 1:=by omega
   subst hj
   have hm:u / 16^(3 - 1)<16:=Nat.div_lt_of_lt_mul h2
   refine⟨zd (by decide) (by decide),_,rfl,by show _<36;omega,63 - 1,rfl,by decide,rfl,⟨_,by rw[za hh,Array.getElem?_eq_getElem (by rw[List.size_toArray,zab (by decide)];decide)]⟩,zB hh _,fun w5 hs5=> ?_⟩
   have hh5:=hs5.heap hh
   rw[za7 _ hm]at hh5
   have hs:=zaa (u:=u) (j:=3 - 1) (by decide)
   rw[Nat.mod_eq_of_lt hm]at hs
   have hh6:w5.heap[b]? =some (.cells (ZE u 3).toArray 184):=hh5.trans (congrArg (fun c=>some (Obj.cells c 184)) hs)
   exact⟨qA (qT u 3),zbr (by decide) hh6,((),qA (qT u 3)),rfl,rfl,e4.stored hs5 (by show _<=b;omega)⟩
theorem zwH:(zaF 4).Ok Tryz.prog 133:=by
  refine zwG ⟨zgV,zkf,trivial⟩ ?_
  rintro(u:Nat) w ⟨hD,h1,h2⟩ b w1 hn1
  have z1:=hn1.size
  have h16:u<16777216:=Nat.lt_of_lt_of_le h2 (by decide)
  refine⟨(),rfl,trivial,?_⟩
  rintro _ w2 hw2
  replace hw2:=hw2.symm
  subst hw2
  refine⟨qv (by decide) (by decide),(),rfl,hD.ext hn1.ext,?_⟩
  rintro _ w3 hw3
  replace hw3:=hw3.symm
  subst hw3
  refine⟨qv (by decide) (by decide),qv (by decide) (by decide),qv (by decide) (by decide),qv (by decide) (by decide),⟨⟨0,rfl,by simp,by omega,⟨b,rfl,by omega,hn1.heap⟩,hn1.ext⟩,?_⟩,?_⟩
  ·rintro _ j w4 ⟨hj,⟨b',hb',hge,hh⟩,e4⟩
   cases hb'
   have hle:u / 16^j<=u:=Nat.div_le_self _ _
   refine zb (fun h=> ?_) (fun h=> ?_)
   ·have h:=of_decide_eq_true h
    have hj2:=zb8 h2 hj (by omega)
    have hm:u / 16^j%16<16:=Nat.mod_lt _ (by decide)
    have ho:((64 - j:Nat):Int)=(65:Int) - (j:Int) - 1:=by omega
    refine⟨zd (by omega) (by omega),u / 16^j%16,zl5 (by omega),by show _<36;omega,64 - j,ho.symm,by omega,rfl,⟨_,by rw[za hh,Array.getElem?_eq_getElem (by rw[List.size_toArray,zab (by omega)];omega)]⟩,zB hh _,fun w5 hs5=> ?_⟩
    have hh5:=hs5.heap hh
    rw[za7 _ hm,Nat.zero_add,zaa (by omega)]at hh5
    exact⟨j+1,by congr 1;omega,by rw[zrD,zcP],⟨by omega,⟨b,rfl,hge,hh5⟩,e4.stored hs5 (by show _<=b;omega)⟩,by omega⟩
   ·have h:=of_decide_eq_false h
    have hjd:=zcn h1 hj (by omega)
    have hj:j=4 - 1:=by omega
    subst hj
    exact⟨(),rfl,rfl,⟨b,_,rfl,hge,rfl,hh⟩,e4⟩
  ·rintro _ _ w4 ⟨⟨b',j,hb',hge,hjd,hh⟩,e4⟩
   cases hb'
   have hj:j=4 - 1:=by omega
   subst hj
   have hm:u / 16^(4 - 1)<16:=Nat.div_lt_of_lt_mul h2
   refine⟨zd (by decide) (by decide),_,rfl,by show _<36;omega,62 - 1,rfl,by decide,rfl,⟨_,by rw[za hh,Array.getElem?_eq_getElem (by rw[List.size_toArray,zab (by decide)];decide)]⟩,zB hh _,fun w5 hs5=> ?_⟩
   have hh5:=hs5.heap hh
   rw[za7 _ hm]at hh5
   have hs:=zaa (u:=u) (j:=4 - 1) (by decide)
   rw[Nat.mod_eq_of_lt hm]at hs
   have hh6:w5.heap[b]? =some (.cells (ZE u 4).toArray 184):=hh5.trans (congrArg (fun c=>some (Obj.cells c 184)) hs)
   exact⟨qA (qT u 4),zbr (by decide) hh6,((),qA (qT u 4)),rfl,rfl,e4.stored hs5 (by show _<=b;omega)⟩
theorem zwF:(zaF 5).Ok Tryz.prog 133:=by
  refine zwE ⟨zgV,zkf,trivial⟩ ?_
  rintro(u:Nat) w ⟨hD,h1,h2⟩ b w1 hn1
  have z1:=hn1.size
  have h16:u<16777216:=Nat.lt_of_lt_of_le h2 (by decide)
  refine⟨(),rfl,trivial,?_⟩
  rintro _ w2 hw2
  replace hw2:=hw2.symm
  subst hw2
  refine⟨qv (by decide) (by decide),(),rfl,hD.ext hn1.ext,?_⟩
  rintro _ w3 hw3
  replace hw3:=hw3.symm
  subst hw3
  refine⟨qv (by decide) (by decide),qv (by decide) (by decide),qv (by decide) (by decide),qv (by decide) (by decide),⟨⟨0,rfl,by simp,by omega,⟨b,rfl,by omega,hn1.heap⟩,hn1.ext⟩,?_⟩,?_⟩
  ·rintro _ j w4 ⟨hj,⟨b',hb',hge,hh⟩,e4⟩
   cases hb'
   have hle:u / 16^j<=u:=Nat.div_le_self _ _
   refine zb (fun h=> ?_) (fun h=> ?_)
   ·have h:=of_decide_eq_true h
    have hj2:=zb8 h2 hj (by omega)
    have hm:u / 16^j%16<16:=Nat.mod_lt _ (by decide)
    have ho:((64 - j:Nat):Int)=(65:Int) - (j:Int) - 1:=by omega
    refine⟨zd (by omega) (by omega),u / 16^j%16,zl5 (by omega),by show _<36;omega,64 - j,ho.symm,by omega,rfl,⟨_,by rw[za hh,Array.getElem?_eq_getElem (by rw[List.size_toArray,zab (by omega)];omega)]⟩,zB hh _,fun w5 hs5=> ?_⟩
    have hh5:=hs5.heap hh
    rw[za7 _ hm,Nat.zero_add,zaa (by omega)]at hh5
    exact⟨j+1,by congr 1;omega,by rw[zrD,zcP],⟨by omega,⟨b,rfl,hge,hh5⟩,e4.stored hs5 (by show _<=b;omega)⟩,by omega⟩
   ·have h:=of_decide_eq_false h
    have hjd:=zcn h1 hj (by omega)
    have hj:j=5 - 1:=by omega
    subst hj
    exact⟨(),rfl,rfl,⟨b,_,rfl,hge,rfl,hh⟩,e4⟩
  ·rintro _ _ w4 ⟨⟨b',j,hb',hge,hjd,hh⟩,e4⟩
   cases hb'
   have hj:j=5 - 1:=by omega
   subst hj
   have hm:u / 16^(5 - 1)<16:=Nat.div_lt_of_lt_mul h2
   refine⟨zd (by decide) (by decide),_,rfl,by show _<36;omega,61 - 1,rfl,by decide,rfl,⟨_,by rw[za hh,Array.getElem?_eq_getElem (by rw[List.size_toArray,zab (by decide)];decide)]⟩,zB hh _,fun w5 hs5=> ?_⟩
   have hh5:=hs5.heap hh
   rw[za7 _ hm]at hh5
   have hs:=zaa (u:=u) (j:=5 - 1) (by decide)
   rw[Nat.mod_eq_of_lt hm]at hs
   have hh6:w5.heap[b]? =some (.cells (ZE u 5).toArray 184):=hh5.trans (congrArg (fun c=>some (Obj.cells c 184)) hs)
   exact⟨qA (qT u 5),zbr (by decide) hh6,((),qA (qT u 5)),rfl,rfl,e4.stored hs5 (by show _<=b;omega)⟩
theorem zwD:(zaF 6).Ok Tryz.prog 133:=by
  refine zwC ⟨zgV,zkf,trivial⟩ ?_
  rintro(u:Nat) w ⟨hD,h1,h2⟩ b w1 hn1
  have z1:=hn1.size
  have h16:u<16777216:=Nat.lt_of_lt_of_le h2 (by decide)
  refine⟨(),rfl,trivial,?_⟩
  rintro _ w2 hw2
  replace hw2:=hw2.symm
  subst hw2
  refine⟨qv (by decide) (by decide),(),rfl,hD.ext hn1.ext,?_⟩
  rintro _ w3 hw3
  replace hw3:=hw3.symm
  subst hw3
  refine⟨qv (by decide) (by decide),qv (by decide) (by decide),qv (by decide) (by decide),qv (by decide) (by decide),⟨⟨0,rfl,by simp,by omega,⟨b,rfl,by omega,hn1.heap⟩,hn1.ext⟩,?_⟩,?_⟩
  ·rintro _ j w4 ⟨hj,⟨b',hb',hge,hh⟩,e4⟩
   cases hb'
   have hle:u / 16^j<=u:=Nat.div_le_self _ _
   refine zb (fun h=> ?_) (fun h=> ?_)
   ·have h:=of_decide_eq_true h
    have hj2:=zb8 h2 hj (by omega)
    have hm:u / 16^j%16<16:=Nat.mod_lt _ (by decide)
    have ho:((64 - j:Nat):Int)=(65:Int) - (j:Int) - 1:=by omega
    refine⟨zd (by omega) (by omega),u / 16^j%16,zl5 (by omega),by show _<36;omega,64 - j,ho.symm,by omega,rfl,⟨_,by rw[za hh,Array.getElem?_eq_getElem (by rw[List.size_toArray,zab (by omega)];omega)]⟩,zB hh _,fun w5 hs5=> ?_⟩
    have hh5:=hs5.heap hh
    rw[za7 _ hm,Nat.zero_add,zaa (by omega)]at hh5
    exact⟨j+1,by congr 1;omega,by rw[zrD,zcP],⟨by omega,⟨b,rfl,hge,hh5⟩,e4.stored hs5 (by show _<=b;omega)⟩,by omega⟩
   ·have h:=of_decide_eq_false h
    have hjd:=zcn h1 hj (by omega)
    have hj:j=6 - 1:=by omega
    subst hj
    exact⟨(),rfl,rfl,⟨b,_,rfl,hge,rfl,hh⟩,e4⟩
  ·rintro _ _ w4 ⟨⟨b',j,hb',hge,hjd,hh⟩,e4⟩
   cases hb'
   have hj:j=6 - 1:=by omega
   subst hj
   have hm:u / 16^(6 - 1)<16:=Nat.div_lt_of_lt_mul h2
   refine⟨zd (by decide) (by decide),_,rfl,by show _<36;omega,60 - 1,rfl,by decide,rfl,⟨_,by rw[za hh,Array.getElem?_eq_getElem (by rw[List.size_toArray,zab (by decide)];decide)]⟩,zB hh _,fun w5 hs5=> ?_⟩
   have hh5:=hs5.heap hh
   rw[za7 _ hm]at hh5
   have hs:=zaa (u:=u) (j:=6 - 1) (by decide)
   rw[Nat.mod_eq_of_lt hm]at hs
   have hh6:w5.heap[b]? =some (.cells (ZE u 6).toArray 184):=hh5.trans (congrArg (fun c=>some (Obj.cells c 184)) hs)
   exact⟨qA (qT u 6),zbr (by decide) hh6,((),qA (qT u 6)),rfl,rfl,e4.stored hs5 (by show _<=b;omega)⟩
theorem zcQ(u:Nat):Qx u=2/\u<256\/Qx u=3/\256<=u/\u<4096\/Qx u=4/\4096<=u/\u<65536\/Qx u=5/\65536<=u/\u<1048576\/Qx u=6/\1048576<=u:=by
  unfold Qx
  split
  ·omega
  ·split
   ·omega
   ·split
    ·omega
    ·split<;>omega
theorem zwB:zxj.Ok Tryz.prog 133:=by
  rintro(u:Nat) w ⟨hD,h1,h2⟩
  rcases zcQ u with⟨e,h3⟩|⟨e,h3,h4⟩|⟨e,h3,h4⟩|⟨e,h3,h4⟩|⟨e,h3⟩
  ·exact(zwL u w ⟨hD,h1,h3⟩).mono fun e' w' ⟨x,he,⟨hx,hxt⟩,hko⟩=>⟨x,he,⟨by rw[hx,e],hxt⟩,hko⟩
  ·exact(zwJ u w ⟨hD,h3,h4⟩).mono fun e' w' ⟨x,he,⟨hx,hxt⟩,hko⟩=>⟨x,he,⟨by rw[hx,e],hxt⟩,hko⟩
  ·exact(zwH u w ⟨hD,h3,h4⟩).mono fun e' w' ⟨x,he,⟨hx,hxt⟩,hko⟩=>⟨x,he,⟨by rw[hx,e],hxt⟩,hko⟩
  ·exact(zwF u w ⟨hD,h3,h4⟩).mono fun e' w' ⟨x,he,⟨hx,hxt⟩,hko⟩=>⟨x,he,⟨by rw[hx,e],hxt⟩,hko⟩
  ·exact(zwD u w ⟨hD,h3,h2⟩).mono fun e' w' ⟨x,he,⟨hx,hxt⟩,hko⟩=>⟨x,he,⟨by rw[hx,e],hxt⟩,hko⟩
theorem zv9:ze1.Ok Tryz.prog 139:=by
  refine zv8 ⟨zwB,trivial⟩ ?_
  rintro(u:Nat) w ⟨hD,h1,h2⟩
  refine⟨qv (by omega) (by omega),u,rfl,⟨hD,h1,h2⟩,?_⟩
  rintro⟨_,x⟩ w1 ⟨hx,e1⟩
  exact⟨x,rfl,hx,e1⟩
theorem zyh:ze1.Ok Tryz.prog 124:=by
  refine zyg ⟨zv9,trivial⟩ ?_
  rintro(u:Nat) w h
  refine⟨u,rfl,h,?_⟩
  rintro x w1 ⟨hx,e1⟩
  exact⟨x,rfl,hx,e1⟩
theorem zxm(u:Nat):Qx u<=QJ u/\4<=QJ u/\QJ u<=6/\(QJ u=4\/QJ u=Qx u):=by
  unfold QJ
  rcases zcQ u with⟨e,h3⟩|⟨e,h3,h4⟩|⟨e,h3,h4⟩|⟨e,h3,h4⟩|⟨e,h3⟩<;>rw[e]<;>decide
theorem zlG{u j:Nat}(h:u<16777216)(hj:Qx u<=j):u / 16^j=0:=by
  refine Nat.div_eq_of_lt (Nat.lt_of_lt_of_le ?_ (Nat.pow_le_pow_right (by decide) hj))
  rcases zcQ u with⟨e,h3⟩|⟨e,h3,h4⟩|⟨e,h3,h4⟩|⟨e,h3,h4⟩|⟨e,h3⟩<;>rw[e]
  ·exact h3
  ·exact h4
  ·exact h4
  ·exact h4
  ·exact h
theorem zwo{u j:Nat}(h:16<=u)(hj:j<Qx u):0<u / 16^j:=by
  refine Nat.div_pos (Nat.le_trans (Nat.pow_le_pow_right (by decide) (show j<=Qx u - 1 by omega)) ?_) (Nat.pow_pos (by decide))
  rcases zcQ u with⟨e,h3⟩|⟨e,h3,h4⟩|⟨e,h3,h4⟩|⟨e,h3,h4⟩|⟨e,h3⟩<;>rw[e]
  ·exact h
  ·exact h3
  ·exact h3
  ·exact h3
  ·exact h3
theorem zgf(l m:List UInt8):qA l++qA m=qA (l++m):=by
  apply ByteArray.ext
  simp[qA,ByteArray.data_append]
theorem zle:zjv.Ok Tryz.prog 99:=by
  refine zsE ⟨zyh,trivial⟩ ?_
  rintro(u:Nat) w ⟨hD,h1,h2⟩
  have hj:=zxm u
  refine⟨zd (by omega) (by omega),u,rfl,⟨hD,h1,by omega⟩,?_⟩
  rintro x w1 ⟨rfl,e1⟩
  refine⟨⟨Qx u,rfl,Nat.le_refl _,hj.1,rfl⟩,?_⟩
  rintro _ j w2 ⟨hj1,hj2,hw⟩
  replace hw:=hw.symm
  subst hw
  have hz:(qA (qT u j)).size=j:=by rw[Zo,zbL]
  have s48:(ByteArray.mk #[48]).size=1:=rfl
  have s60:(ByteArray.mk #[60]).size=1:=rfl
  have s62:(ByteArray.mk #[62]).size=1:=rfl
  refine zb (fun h=> ?_) (fun h=> ?_)
  ·have h:=of_decide_eq_true h
   rw[hz]at h
   refine⟨by rw[hz,s48];omega,j+1,?_,⟨by omega,by omega,rfl⟩,by omega⟩
   congr 1
   show qA [48]++qA (qT u j)=_
   rw[zgf]
   simp only[qT]
   rw[zlG (by omega) hj1]
   rfl
  ·have h:=of_decide_eq_false h
   rw[hz]at h
   have e:j=QJ u:=by omega
   subst e
   refine⟨by rw[hz,s60];omega,by rw[ByteArray.size_append,hz,s60,s62];omega,_,rfl,rfl,e1⟩
theorem zvz:zn0.Ok Tryz.prog 106:=by
  refine zvy trivial ?_
  rintro(u:Nat) w ⟨h1,h2⟩
  have hj:=zxm u
  refine⟨zd (by omega) (by omega),⟨⟨0,none,0⟩,by simp,rfl,Nat.zero_le _,Made.nil _ _ _⟩,?_⟩
  rintro _ ⟨j,a,c⟩ w1 ⟨hj2,hm⟩
  dsimp only at hj2 hm⊢
  have hle:u / 16^j<=u:=Nat.div_le_self _ _
  refine zb (fun h=> ?_) (fun h=> ?_)
  ·have hjl:j<QJ u:=by
     simp only[Bool.or_eq_true,decide_eq_true_eq]at h
     rcases h with h|h
     ·rcases Nat.lt_or_ge j (Qx u)with h3|h3
      ·omega
      ·have:=zlG (u:=u) (j:=j) (by omega) h3;omega
     ·omega
   have hmod:u / 16^j%16<16:=Nat.mod_lt _ (by decide)
   have hq0:(0:Int)<=((u / 16^j:Nat):Int):=Int.natCast_nonneg _
   have hqi:InR .i64 (((u / 16^j:Nat):Int) / 16):=by
     generalize u / 16^j=q at hle
     exact zd (by omega) (by omega)
   refine⟨hq0,by decide,u / 16^j%16,rfl,by show _<16;omega,fun b w2 hn2=> ?_⟩
   rw[znr _ hmod]at hn2
   have hb:=Made.box (w0:=w) (s:=1) (n:=1) hn2 hm.ext rfl (by decide)
   obtain⟨a',c',w3,hrun,hko,hm3,_⟩:=hb.pushS (P:=Tryz.prog) (ty:=40) (sa:=a) (cx:=c) zhu (by decide) (m:=j) (news:=u8L (qT u j)) (by rw[znL,zbL,Nat.mul_one]) (hm.row.cells.ext hn2.ext) (by
     intro v hv
     obtain⟨x,_,rfl⟩:=List.mem_map.1 hv
     rfl) (by unfold maxLen;omega) (.inr (by omega))
   refine⟨a',c',w3,hrun,hko,hq0,by decide,hqi,⟨j+1,a',c'⟩,?_,by dsimp only;rw[Nat.add_comm],⟨hjl,?_⟩,by dsimp only;omega⟩
   ·dsimp only;rw[<-zcP];rfl
   ·rw[Nat.add_comm 1 j]at hm3
    exact hm3
  ·simp only[Bool.or_eq_false_iff,decide_eq_false_iff_not]at h
   have hjd:Qx u<=j:=by
     rcases Nat.lt_or_ge j (Qx u)with h3|h3
     ·have:=zwo h1 h3;omega
     ·exact h3
   have e:j=QJ u:=by omega
   subst e
   exact⟨_,Qn (s:=qA (qT u (QJ u))) (by rw[Zo,zbL]) hm.row.cells,_,rfl,rfl,hm.ext⟩
theorem zqx:zfD.Ok Tryz.prog 104:=by
  refine zqw trivial ?_
  rintro(n:Nat) w hn
  refine⟨⟨⟨0,none,0⟩,rfl,rfl,Nat.zero_le _,Made.nil _ _ _⟩,?_⟩
  rintro _ ⟨j,a,c⟩ w1 ⟨hj,hm⟩
  dsimp only at hj hm⊢
  refine zb (fun h=> ?_) (fun h=> ?_)
  ·have hl:j<n:=by have:=of_decide_eq_true h;omega
   intro b w2 hn2
   obtain⟨a',c',w3,hrun,hko,hm3,_⟩:=hm.pushN (P:=Tryz.prog) (ty:=40) zhu (by decide) (m:=1) (news:=[.int .u8 32]) hn2 rfl (by simp[Value.oneCell']) (by unfold maxLen;omega) (.inr (by omega))
   refine⟨a',c',w3,hrun,hko,zd (by omega) (by omega),⟨j+1,a',c'⟩,by simp,rfl,⟨hl,?_⟩,by dsimp only;omega⟩
   dsimp only
   have e:u8L (List.replicate (j+1) 32)=u8L (List.replicate j 32)++[.int .u8 32]:=by
     unfold u8L;rw[List.replicate_succ',List.map_append];rfl
   rw[e];exact hm3
  ·have e:j=n:=by have:=of_decide_eq_false h;omega
   subst e
   exact⟨Qf j,Qn (by show j=(qA (List.replicate j 32)).size;rw[Zo,List.length_replicate]) hm.row.cells,_,rfl,rfl,hm.ext⟩
end

section
set_option linter.unusedVariables false
open Go Go.RowKit Vc Tb Cl
open Value
set_option maxRecDepth 1000000
theorem zsR(hsp:zf Tryz.prog [])(h:∀(g:Int) (w:World),True->zc (decide (g<0)||(decide (g>1114111)||decide (g>=55296)&&decide (g<=57343))) (∃(x:Int),int .i32 65533=int .i32 x/\x=zJ g/\w=w) (∃(x:Int),int .i32 g=int .i32 x/\x=zJ g/\w=w)):
    ((zas .i32 zJ)).Ok Tryz.prog 81:=ze (zas .i32 zJ) (zP []) [] (fun _ _=>rfl) (fun _ _=>rfl) hsp Tryz.func81 rfl (n:=1) (fun _=>rfl) (by kernel_rfl) (zl (by kernel_rfl) h)
theorem zwb(hsp:zf Tryz.prog [])(h:∀(g:GFind) (w:World),zhP w g.b g.T/\0<g.T.length/\g.T.length<=1000/\zaR g.T=true/\(g.T.getD 0 ((0:Int),(0:Int))).fst=(0:Int)->zc (decide (g.r<0)||(decide (g.r>1114111)||decide (g.r>=55296)&&decide (g.r<=57343))) (∃(c:Unit),int .i32 65533=int .i32 (zJ g.r)/\w=w) (∃(c:Unit),int .i32 g.r=int .i32 (zJ g.r)/\w=w)/\∀(u:Nat->Value) (c:Unit) w',w'=w->(∃(x:Nat×Nat),int .i64 0=int .i64 (x.fst:Int)/\int .i64 (g.T.length:Int)=int .i64 (x.snd:Int)/\x.fst<x.snd/\x.snd<=g.T.length/\(g.T.getD x.fst ((0:Int),(0:Int))).fst<=zJ g.r/\(x.snd=g.T.length\/zJ g.r<(g.T.getD x.snd ((0:Int),(0:Int))).fst)/\w'=w')/\∀(u1:Nat->Value) (x:Nat×Nat) w'1,x.fst<x.snd/\x.snd<=g.T.length/\(g.T.getD x.fst ((0:Int),(0:Int))).fst<=zJ g.r/\(x.snd=g.T.length\/zJ g.r<(g.T.getD x.snd ((0:Int),(0:Int))).fst)/\w'1=w'->InR .i64 ((x.snd:Int) - (x.fst:Int))/\zc (decide ((x.snd:Int) - (x.fst:Int)>1)) (InR .i64 ((x.fst:Int)+(x.snd:Int))/\(0:Int)<=(x.fst:Int)+(x.snd:Int)/\(0:Int)<2/\InR .i64 (((x.fst:Int)+(x.snd:Int)) / 2)/\qd (((x.fst:Int)+(x.snd:Int)) / 2) g.T.length fun k=>zX w'1 .i32 g.b (0+k*2) fun n=>zc (decide (n>zJ g.r)) (∃(y:Nat×Nat),int .i64 (x.fst:Int)=int .i64 (y.fst:Int)/\int .i64 (((x.fst:Int)+(x.snd:Int)) / 2)=int .i64 (y.snd:Int)/\(y.fst<y.snd/\y.snd<=g.T.length/\(g.T.getD y.fst ((0:Int),(0:Int))).fst<=zJ g.r/\(y.snd=g.T.length\/zJ g.r<(g.T.getD y.snd ((0:Int),(0:Int))).fst)/\w'1=w')/\y.snd - y.fst<x.snd - x.fst) (∃(y:Nat×Nat),int .i64 (((x.fst:Int)+(x.snd:Int)) / 2)=int .i64 (y.fst:Int)/\int .i64 (x.snd:Int)=int .i64 (y.snd:Int)/\(y.fst<y.snd/\y.snd<=g.T.length/\(g.T.getD y.fst ((0:Int),(0:Int))).fst<=zJ g.r/\(y.snd=g.T.length\/zJ g.r<(g.T.getD y.snd ((0:Int),(0:Int))).fst)/\w'1=w')/\y.snd - y.fst<x.snd - x.fst)) (zc (decide ((x.snd:Int)<(g.T.length:Int))) (∀w1,Drew w'1 w1->qd (x.fst:Int) g.T.length fun k=>zX w'1 .u8 g.b (0+k*2+1) fun n=>qd (x.snd:Int) g.T.length fun k1=>zX w'1 .i32 g.b (0+k1*2) fun n1=>InR .i32 (n1 - 1)/\∃(x1:Int×Int),tuple #[int .u8 n,int .i32 (n1 - 1)]=tuple #[int .u8 x1.fst,int .i32 x1.snd]/\FindOk g.T (zJ g.r) x1.fst x1.snd/\Ext w w1) (qd (x.fst:Int) g.T.length fun k=>zX w'1 .u8 g.b (0+k*2+1) fun n=>∃(x1:Int×Int),tuple #[int .u8 n,int .i32 1114111]=tuple #[int .u8 x1.fst,int .i32 x1.snd]/\FindOk g.T (zJ g.r) x1.fst x1.snd/\Ext w w'1))):zn6.Ok Tryz.prog 115:=ze zn6 (fun g _=>zw2 g) [] (fun _ _=>rfl) (fun _ _=>rfl) hsp Tryz.func115 rfl (n:=2) (fun _=>rfl) (by kernel_rfl) (zl (by kernel_rfl) h)
theorem zrZ(hsp:zf Tryz.prog zcB)(h:∀(g:Int) (w:World),True->∃(g1:Int), #[int .i32 g]= #[int .i32 g1]/\True/\∀(x:Int) w',x=zJ g1/\w'=w->zc (decide (x<=31)||decide (x>=127)&&decide (x<=159)) (∃(x1:Int),int .i8 0=int .i8 x1/\x1=zn g/\w'=w) (zc (x==173||(x==1564||(decide (x>=8203)&&decide (x<=8207)||(decide (x>=8234)&&decide (x<=8238)||(decide (x>=8288)&&decide (x<=8297)||x==65279))))) (∃(x1:Int),int .i8 1=int .i8 x1/\x1=zn g/\w'=w) (zc (decide (x>=768)&&decide (x<=879)||(decide (x>=1155)&&decide (x<=1161)||(decide (x>=1425)&&decide (x<=1469)||(x==1471||(decide (x>=1473)&&decide (x<=1474)||(decide (x>=1476)&&decide (x<=1477)||(x==1479||(decide (x>=1552)&&decide (x<=1562)||(decide (x>=1611)&&decide (x<=1631)||(x==1648||(decide (x>=1750)&&decide (x<=1756)||(decide (x>=1759)&&decide (x<=1764)||(decide (x>=1767)&&decide (x<=1768)||(decide (x>=1770)&&decide (x<=1773)||(x==3633||(decide (x>=3636)&&decide (x<=3642)||(decide (x>=3655)&&decide (x<=3662)||(decide (x>=6832)&&decide (x<=6911)||(decide (x>=7616)&&decide (x<=7679)||(decide (x>=8400)&&decide (x<=8447)||(decide (x>=12330)&&decide (x<=12333)||(decide (x>=12441)&&decide (x<=12442)||(decide (x>=65024)&&decide (x<=65039)||decide (x>=65056)&&decide (x<=65071)))))))))))))))))))))))) (∃(x1:Int),int .i8 2=int .i8 x1/\x1=zn g/\w'=w) (zc (decide (x>=48)&&decide (x<=57)||(decide (x>=1632)&&decide (x<=1641)||(decide (x>=1776)&&decide (x<=1785)||decide (x>=65296)&&decide (x<=65305)))) (∃(x1:Int),int .i8 4=int .i8 x1/\x1=zn g/\w'=w) (zc (x==32||(x==160||(x==5760||(decide (x>=8192)&&decide (x<=8202)||(decide (x>=8232)&&decide (x<=8233)||(x==8239||(x==8287||x==12288))))))) (∃(x1:Int),int .i8 5=int .i8 x1/\x1=zn g/\w'=w) (zc (x==36||(x==43||(decide (x>=60)&&decide (x<=62)||(x==94||(x==96||(x==124||(x==126||(decide (x>=162)&&decide (x<=166)||(decide (x>=168)&&decide (x<=169)||(x==172||(decide (x>=174)&&decide (x<=177)||(x==180||(x==184||(x==215||(x==247||(decide (x>=8352)&&decide (x<=8399)||(decide (x>=8448)&&decide (x<=9675)||(decide (x>=9677)&&decide (x<=11263)||(decide (x>=65532)&&decide (x<=65533)||decide (x>=126976)&&decide (x<=129791)))))))))))))))))))) (∃(x1:Int),int .i8 7=int .i8 x1/\x1=zn g/\w'=w) (zc (decide (x>=65)&&decide (x<=90)||(decide (x>=97)&&decide (x<=122)||(x==170||(x==181||(x==186||(decide (x>=192)&&decide (x<=767)||(decide (x>=880)&&decide (x<=883)||(decide (x>=886)&&decide (x<=893)||(x==895||(x==902||(decide (x>=904)&&decide (x<=1153)||
 (decide (x>=1162)&&decide (x<=1366)||(decide (x>=1377)&&decide (x<=1415)||(decide (x>=1488)&&decide (x<=1522)||(decide (x>=1568)&&decide (x<=1610)||(decide (x>=1646)&&decide (x<=1747)||(decide (x>=1749)&&decide (x<=1788)||(decide (x>=3585)&&decide (x<=3654)||(decide (x>=4256)&&decide (x<=4607)||(decide (x>=7680)&&decide (x<=8191)||(decide (x>=11264)&&decide (x<=11743)||(decide (x>=12293)&&decide (x<=12295)||(decide (x>=12353)&&decide (x<=12543)||(decide (x>=12549)&&decide (x<=12686)||(decide (x>=13312)&&decide (x<=19903)||(decide (x>=19968)&&decide (x<=40959)||(decide (x>=44032)&&decide (x<=55203)||(decide (x>=63744)&&decide (x<=64255)||(decide (x>=64285)&&decide (x<=65019)||(decide (x>=65136)&&decide (x<=65276)||(decide (x>=65313)&&decide (x<=65338)||(decide (x>=65345)&&decide (x<=65370)||(decide (x>=65382)&&decide (x<=65500)||decide (x>=131072)&&decide (x<=262141)))))))))))))))))))))))))))))))))) (∃(x1:Int),int .i8 3=int .i8 x1/\x1=zn g/\w'=w) (zc (decide (x>=33)&&decide (x<=64)||(decide (x>=91)&&decide (x<=96)||(decide (x>=123)&&decide (x<=126)||(decide (x>=161)&&decide (x<=191)||(x==894||(x==903||(decide (x>=1417)&&decide (x<=1418)||(decide (x>=1470)&&decide (x<=1478)||(decide (x>=1523)&&decide (x<=1524)||(decide (x>=1548)&&decide (x<=1549)||(decide (x>=1563)&&decide (x<=1567)||(decide (x>=1642)&&decide (x<=1645)||(x==1748||(decide (x>=8208)&&decide (x<=8286)||(x==9676||(decide (x>=12289)&&decide (x<=12291)||(decide (x>=12296)&&decide (x<=12319)||(decide (x>=65281)&&decide (x<=65312)||(decide (x>=65339)&&decide (x<=65344)||decide (x>=65371)&&decide (x<=65381)))))))))))))))))))) (∃(x1:Int),int .i8 6=int .i8 x1/\x1=zn g/\w'=w) (∃(x1:Int),int .i8 8=int .i8 x1/\x1=zn g/\w'=w))))))))):
    ((zas .i8 zn)).Ok Tryz.prog 54:=ze (zas .i8 zn) (zP zcB) zcB (fun _ _=>rfl) (fun _ _=>rfl) hsp Tryz.func54 rfl (n:=1) (fun _=>rfl) (by kernel_rfl) (zl (by kernel_rfl) h)
theorem zsS(hsp:zf Tryz.prog zeq)(h:∀(g:Int) (w:World),True->∀b w1,New w (Obj.cells #[int .i32 0,int .u8 0,int .i32 32,int .u8 5,int .i32 33,int .u8 6,int .i32 36,int .u8 7,int .i32 37,int .u8 6,int .i32 43,int .u8 7,int .i32 44,int .u8 6,int .i32 48,int .u8 4,int .i32 58,int .u8 6,int .i32 60,int .u8 7,int .i32 63,int .u8 6,int .i32 65,int .u8 3,int .i32 91,int .u8 6,int .i32 94,int .u8 7,int .i32 95,int .u8 6,int .i32 96,int .u8 7,int .i32 97,int .u8 3,int .i32 123,int .u8 6,int .i32 124,int .u8 7,int .i32 125,int .u8 6,int .i32 126,int .u8 7,int .i32 127,int .u8 0,int .i32 160,int .u8 5,int .i32 161,int .u8 6,int .i32 162,int .u8 7,int .i32 167,int .u8 6,int .i32 168,int .u8 7,int .i32 170,int .u8 3,int .i32 171,int .u8 6,int .i32 172,int .u8 7,int .i32 173,int .u8 1,int .i32 174,int .u8 7,int .i32 178,int .u8 6,int .i32 180,int .u8 7,int .i32 181,int .u8 3,int .i32 182,int .u8 6,int .i32 184,int .u8 7,int .i32 185,int .u8 6,int .i32 186,int .u8 3,int .i32 187,int .u8 6,int .i32 192,int .u8 3,int .i32 215,int .u8 7,int .i32 216,int .u8 3,int .i32 247,int .u8 7,int .i32 248,int .u8 3,int .i32 768,int .u8 2,int .i32 880,int .u8 3,int .i32 884,int .u8 8,int .i32 886,int .u8 3,int .i32 894,int .u8 6,int .i32 895,int .u8 3,int .i32 896,int .u8 8,int .i32 902,int .u8 3,int .i32 903,int .u8 6,int .i32 904,int .u8 3,int .i32 1154,int .u8 8,int .i32 1155,int .u8 2,int .i32 1162,int .u8 3,int .i32 1367,int .u8 8,int .i32 1377,int .u8 3,int .i32 1416,int .u8 8,int .i32 1417,int .u8 6,int .i32 1419,int .u8 8,int .i32 1425,int .u8 2,int .i32 1470,int .u8 6,int .i32 1471,int .u8 2,int .i32 1472,int .u8 6,int .i32 1473,int .u8 2,int .i32 1475,int .u8 6,int .i32 1476,int .u8 2,int .i32 1478,int .u8 6,int .i32 1479,int .u8 2,int .i32 1480,int .u8 8,int .i32 1488,int .u8 3,int .i32 1523,int .u8 6,int .i32 1525,int .u8 8,int .i32 1548,int .u8 6,int .i32 1550,int .u8 8,int .i32 1552,int .u8 2,int .i32 1563,int .u8 6,int .i32 1564,int .u8 1,int .i32 1565,int .u8 6,int .i32 1568,int .u8 3,int .i32 1611,int .u8 2,int .i32 1632,int .u8 4,int .i32 1642,int .u8 6,int .i32 1646,int .u8 3,int .i32 1648,int .u8 2,int .i32 1649,int .u8 3,int .i32 1748,int .u8 6,int .i32 1749,int .u8 3,int .i32 1750,int .u8 2,int .i32 1757,int .u8 3,int .i32 1759,int .u8 2,int .i32 1765,int .u8 3,int .i32 1767,int .u8 2,int .i32 1769,int .u8 3,int .i32 1770,int .u8 2,int .i32 1774,int .u8 3,int .i32 1776,int .u8 4,int .i32 1786,int .u8 3,int .i32 1789,int .u8 8,int .i32 3585,int .u8 3,int .i32 3633,int .u8 2,int .i32 3634,int .u8 3,int .i32 3636,int .u8 2,int .i32 3643,int .u8 3,int .i32 3655,int .u8 2,int .i32 3663,int .u8 8,int .i32 4256,int .u8 3,int .i32 4608,int .u8 8,int .i32 5760,int .u8 5,int .i32 5761,
 int .u8 8,int .i32 6832,int .u8 2,int .i32 6912,int .u8 8,int .i32 7616,int .u8 2,int .i32 7680,int .u8 3,int .i32 8192,int .u8 5,int .i32 8203,int .u8 1,int .i32 8208,int .u8 6,int .i32 8232,int .u8 5,int .i32 8234,int .u8 1,int .i32 8239,int .u8 5,int .i32 8240,int .u8 6,int .i32 8287,int .u8 5,int .i32 8288,int .u8 1,int .i32 8298,int .u8 8,int .i32 8352,int .u8 7,int .i32 8400,int .u8 2,int .i32 8448,int .u8 7,int .i32 9676,int .u8 6,int .i32 9677,int .u8 7,int .i32 11264,int .u8 3,int .i32 11744,int .u8 8,int .i32 12288,int .u8 5,int .i32 12289,int .u8 6,int .i32 12292,int .u8 8,int .i32 12293,int .u8 3,int .i32 12296,int .u8 6,int .i32 12320,int .u8 8,int .i32 12330,int .u8 2,int .i32 12334,int .u8 8,int .i32 12353,int .u8 3,int .i32 12441,int .u8 2,int .i32 12443,int .u8 3,int .i32 12544,int .u8 8,int .i32 12549,int .u8 3,int .i32 12687,int .u8 8,int .i32 13312,int .u8 3,int .i32 19904,int .u8 8,int .i32 19968,int .u8 3,int .i32 40960,int .u8 8,int .i32 44032,int .u8 3,int .i32 55204,int .u8 8,int .i32 63744,int .u8 3,int .i32 64256,int .u8 8,int .i32 64285,int .u8 3,int .i32 65020,int .u8 8,int .i32 65024,int .u8 2,int .i32 65040,int .u8 8,int .i32 65056,int .u8 2,int .i32 65072,int .u8 8,int .i32 65136,int .u8 3,int .i32 65277,int .u8 8,int .i32 65279,int .u8 1,int .i32 65280,int .u8 8,int .i32 65281,int .u8 6,int .i32 65296,int .u8 4,int .i32 65306,int .u8 6,int .i32 65313,int .u8 3,int .i32 65339,int .u8 6,int .i32 65345,int .u8 3,int .i32 65371,int .u8 6,int .i32 65382,int .u8 3,int .i32 65501,int .u8 8,int .i32 65532,int .u8 7,int .i32 65534,int .u8 8,int .i32 126976,int .u8 7,int .i32 129792,int .u8 8,int .i32 131072,int .u8 3,int .i32 262142,int .u8 8] 150) b w1->∃(g1:GFind), #[slice (some ⟨b,0,none⟩) 181 181,int .i32 g]= #[slice (some ⟨g1.b,0,none⟩) g1.T.length g1.T.length,int .i32 g1.r]/\(zhP w1 g1.b g1.T/\0<g1.T.length/\g1.T.length<=1000/\zaR g1.T=true/\(g1.T.getD 0 ((0:Int),(0:Int))).fst=(0:Int))/\∀(x:Int×Int) w',FindOk g1.T (zJ g1.r) x.fst x.snd/\Ext w1 w'->∃(x1:Int×Int),tuple #[int .u8 x.fst,int .i32 x.snd]=tuple #[int .u8 x1.fst,int .i32 x1.snd]/\FindOk zcp (zJ g) x1.fst x1.snd/\Ext w w'):
  ((zkB zcp)).Ok Tryz.prog 87:=ze (zkB zcp) (zP zeq) zeq (fun _ _=>rfl) (fun _ _=>rfl) hsp Tryz.func87 rfl (n:=1) (fun _=>rfl) (by kernel_rfl) (zl (by kernel_rfl) h)
theorem ztN(hsp:zf Tryz.prog zmu)(h:∀(g:Int) (w:World),True->∃(g1:Int), #[int .i32 g]= #[int .i32 g1]/\True/\∀(x:Int×Int) w',FindOk zcp (zJ g1) x.fst x.snd/\Ext w w'->InR .i8 x.fst/\∃(x1:Int),int .i8 x.fst=int .i8 x1/\x1=zn g/\Ext w w'):
    ((zcc .i8 zn)).Ok Tryz.prog 61:=ze (zcc .i8 zn) (zP zmu) zmu (fun _ _=>rfl) (fun _ _=>rfl) hsp Tryz.func61 rfl (n:=1) (fun _=>rfl) (by kernel_rfl) (zl (by kernel_rfl) h)
theorem zuU(hsp:zf Tryz.prog zcB)(h:∀(g:Int) (w:World),True->∃(g1:Int), #[int .i32 g]= #[int .i32 g1]/\True/\∀(x:Int) w',x=zJ g1/\w'=w->zc (decide (x<=31)||(decide (x>=127)&&decide (x<=159)||(x==173||(x==1564||(decide (x>=8203)&&decide (x<=8207)||(decide (x>=8234)&&decide (x<=8238)||(decide (x>=8288)&&decide (x<=8297)||(x==65279||(decide (x>=768)&&decide (x<=879)||(decide (x>=1155)&&decide (x<=1161)||(decide (x>=1425)&&decide (x<=1469)||(x==1471||(decide (x>=1473)&&decide (x<=1474)||(decide (x>=1476)&&decide (x<=1477)||(x==1479||(decide (x>=1552)&&decide (x<=1562)||(decide (x>=1611)&&decide (x<=1631)||(x==1648||(decide (x>=1750)&&decide (x<=1756)||(decide (x>=1759)&&decide (x<=1764)||(decide (x>=1767)&&decide (x<=1768)||(decide (x>=1770)&&decide (x<=1773)||(x==3633||(decide (x>=3636)&&decide (x<=3642)||(decide (x>=3655)&&decide (x<=3662)||(decide (x>=6832)&&decide (x<=6911)||(decide (x>=7616)&&decide (x<=7679)||(decide (x>=8400)&&decide (x<=8447)||(decide (x>=12330)&&decide (x<=12333)||(decide (x>=12441)&&decide (x<=12442)||(decide (x>=65024)&&decide (x<=65039)||(decide (x>=65056)&&decide (x<=65071)||decide (x>=4448)&&decide (x<=4607))))))))))))))))))))))))))))))))) (∃(x1:Int),int .i64 0=int .i64 x1/\x1=za2 g/\w'=w) (zc (decide (x>=4352)&&decide (x<=4447)||(decide (x>=8986)&&decide (x<=8987)||(decide (x>=9001)&&decide (x<=9002)||(decide (x>=9193)&&decide (x<=9203)||(decide (x>=9748)&&decide (x<=9749)||(decide (x>=9800)&&decide (x<=9811)||(decide (x>=9917)&&decide (x<=9918)||(x==9989||(x==10060||(decide (x>=10067)&&decide (x<=10071)||(decide (x>=10133)&&decide (x<=10135)||(x==11088||(decide (x>=11904)&&decide (x<=12350)||(decide (x>=12353)&&decide (x<=19903)||(decide (x>=19968)&&decide (x<=42191)||(decide (x>=44032)&&decide (x<=55203)||(decide (x>=63744)&&decide (x<=64255)||(decide (x>=65072)&&decide (x<=65135)||(decide (x>=65281)&&decide (x<=65376)||(decide (x>=65504)&&decide (x<=65510)||(decide (x>=127744)&&decide (x<=128591)||(decide (x>=128640)&&decide (x<=128767)||(decide (x>=129280)&&decide (x<=129791)||decide (x>=131072)&&decide (x<=262141)))))))))))))))))))))))) (∃(x1:Int),int .i64 2=int .i64 x1/\x1=za2 g/\w'=w) (zc (x==161||(x==164||(decide (x>=167)&&decide (x<=168)||(x==174||(decide (x>=176)&&decide (x<=180)||(decide (x>=182)&&decide (x<=186)||(decide (x>=188)&&decide (x<=191)||(x==215||(x==247||(decide (x>=913)&&decide (x<=937)||(decide (x>=945)&&decide (x<=969)||(decide (x>=1040)&&decide (x<=1103)||(decide (x>=8208)&&decide (x<=8214)||(decide (x>=8216)&&decide (x<=8221)||
 (decide (x>=8224)&&decide (x<=8231)||(decide (x>=8240)&&decide (x<=8251)||(decide (x>=8592)&&decide (x<=8601)||(decide (x>=8704)&&decide (x<=8959)||(decide (x>=9312)&&decide (x<=9450)||(decide (x>=9472)&&decide (x<=9675)||(decide (x>=9677)&&decide (x<=9681)||(decide (x>=9733)&&decide (x<=9734)||(decide (x>=9824)&&decide (x<=9831)||decide (x>=57344)&&decide (x<=63743)))))))))))))))))))))))) (∃(x1:Int),int .i64 3=int .i64 x1/\x1=za2 g/\w'=w) (∃(x1:Int),int .i64 1=int .i64 x1/\x1=za2 g/\w'=w)))):
    ((zas .i64 za2)).Ok Tryz.prog 129:=ze (zas .i64 za2) (zP zcB) zcB (fun _ _=>rfl) (fun _ _=>rfl) hsp Tryz.func129 rfl (n:=1) (fun _=>rfl) (by kernel_rfl) (zl (by kernel_rfl) h)
theorem zuB(hsp:zf Tryz.prog zeq)(h:∀(g:Int) (w:World),True->∀b w1,New w (Obj.cells #[int .i32 0,int .u8 0,int .i32 32,int .u8 1,int .i32 127,int .u8 0,int .i32 160,int .u8 1,int .i32 161,int .u8 3,int .i32 162,int .u8 1,int .i32 164,int .u8 3,int .i32 165,int .u8 1,int .i32 167,int .u8 3,int .i32 169,int .u8 1,int .i32 173,int .u8 0,int .i32 174,int .u8 3,int .i32 175,int .u8 1,int .i32 176,int .u8 3,int .i32 181,int .u8 1,int .i32 182,int .u8 3,int .i32 187,int .u8 1,int .i32 188,int .u8 3,int .i32 192,int .u8 1,int .i32 215,int .u8 3,int .i32 216,int .u8 1,int .i32 247,int .u8 3,int .i32 248,int .u8 1,int .i32 768,int .u8 0,int .i32 880,int .u8 1,int .i32 913,int .u8 3,int .i32 938,int .u8 1,int .i32 945,int .u8 3,int .i32 970,int .u8 1,int .i32 1040,int .u8 3,int .i32 1104,int .u8 1,int .i32 1155,int .u8 0,int .i32 1162,int .u8 1,int .i32 1425,int .u8 0,int .i32 1470,int .u8 1,int .i32 1471,int .u8 0,int .i32 1472,int .u8 1,int .i32 1473,int .u8 0,int .i32 1475,int .u8 1,int .i32 1476,int .u8 0,int .i32 1478,int .u8 1,int .i32 1479,int .u8 0,int .i32 1480,int .u8 1,int .i32 1552,int .u8 0,int .i32 1563,int .u8 1,int .i32 1564,int .u8 0,int .i32 1565,int .u8 1,int .i32 1611,int .u8 0,int .i32 1632,int .u8 1,int .i32 1648,int .u8 0,int .i32 1649,int .u8 1,int .i32 1750,int .u8 0,int .i32 1757,int .u8 1,int .i32 1759,int .u8 0,int .i32 1765,int .u8 1,int .i32 1767,int .u8 0,int .i32 1769,int .u8 1,int .i32 1770,int .u8 0,int .i32 1774,int .u8 1,int .i32 3633,int .u8 0,int .i32 3634,int .u8 1,int .i32 3636,int .u8 0,int .i32 3643,int .u8 1,int .i32 3655,int .u8 0,int .i32 3663,int .u8 1,int .i32 4352,int .u8 2,int .i32 4448,int .u8 0,int .i32 4608,int .u8 1,int .i32 6832,int .u8 0,int .i32 6912,int .u8 1,int .i32 7616,int .u8 0,int .i32 7680,int .u8 1,int .i32 8203,int .u8 0,int .i32 8208,int .u8 3,int .i32 8215,int .u8 1,int .i32 8216,int .u8 3,int .i32 8222,int .u8 1,int .i32 8224,int .u8 3,int .i32 8232,int .u8 1,int .i32 8234,int .u8 0,int .i32 8239,int .u8 1,int .i32 8240,int .u8 3,int .i32 8252,int .u8 1,int .i32 8288,int .u8 0,int .i32 8298,int .u8 1,int .i32 8400,int .u8 0,int .i32 8448,int .u8 1,int .i32 8592,int .u8 3,int .i32 8602,int .u8 1,int .i32 8704,int .u8 3,int .i32 8960,int .u8 1,int .i32 8986,int .u8 2,int .i32 8988,int .u8 1,int .i32 9001,int .u8 2,int .i32 9003,int .u8 1,int .i32 9193,int .u8 2,int .i32 9204,int .u8 1,int .i32 9312,int .u8 3,int .i32 9451,int .u8 1,int .i32 9472,int .u8 3,int .i32 9676,int .u8 1,int .i32 9677,int .u8 3,int .i32 9682,int .u8 1,int .i32 9733,int .u8 3,int .i32 9735,int .u8 1,int .i32 9748,int .u8 2,int .i32 9750,int .u8 1,int .i32 9800,int .u8 2,int .i32 9812,int .u8 1,int .i32 9824,int .u8 3,int .i32 9832,int .u8 1,
 int .i32 9917,int .u8 2,int .i32 9919,int .u8 1,int .i32 9989,int .u8 2,int .i32 9990,int .u8 1,int .i32 10060,int .u8 2,int .i32 10061,int .u8 1,int .i32 10067,int .u8 2,int .i32 10072,int .u8 1,int .i32 10133,int .u8 2,int .i32 10136,int .u8 1,int .i32 11088,int .u8 2,int .i32 11089,int .u8 1,int .i32 11904,int .u8 2,int .i32 12330,int .u8 0,int .i32 12334,int .u8 2,int .i32 12351,int .u8 1,int .i32 12353,int .u8 2,int .i32 12441,int .u8 0,int .i32 12443,int .u8 2,int .i32 19904,int .u8 1,int .i32 19968,int .u8 2,int .i32 42192,int .u8 1,int .i32 44032,int .u8 2,int .i32 55204,int .u8 1,int .i32 57344,int .u8 3,int .i32 63744,int .u8 2,int .i32 64256,int .u8 1,int .i32 65024,int .u8 0,int .i32 65040,int .u8 1,int .i32 65056,int .u8 0,int .i32 65072,int .u8 2,int .i32 65136,int .u8 1,int .i32 65279,int .u8 0,int .i32 65280,int .u8 1,int .i32 65281,int .u8 2,int .i32 65377,int .u8 1,int .i32 65504,int .u8 2,int .i32 65511,int .u8 1,int .i32 127744,int .u8 2,int .i32 128592,int .u8 1,int .i32 128640,int .u8 2,int .i32 128768,int .u8 1,int .i32 129280,int .u8 2,int .i32 129792,int .u8 1,int .i32 131072,int .u8 2,int .i32 262142,int .u8 1] 181) b w1->∃(g1:GFind), #[slice (some ⟨b,0,none⟩) 157 157,int .i32 g]= #[slice (some ⟨g1.b,0,none⟩) g1.T.length g1.T.length,int .i32 g1.r]/\(zhP w1 g1.b g1.T/\0<g1.T.length/\g1.T.length<=1000/\zaR g1.T=true/\(g1.T.getD 0 ((0:Int),(0:Int))).fst=(0:Int))/\∀(x:Int×Int) w',FindOk g1.T (zJ g1.r) x.fst x.snd/\Ext w1 w'->∃(x1:Int×Int),tuple #[int .u8 x.fst,int .i32 x.snd]=tuple #[int .u8 x1.fst,int .i32 x1.snd]/\FindOk zdz (zJ g) x1.fst x1.snd/\Ext w w'):
  ((zkB zdz)).Ok Tryz.prog 125:=ze (zkB zdz) (zP zeq) zeq (fun _ _=>rfl) (fun _ _=>rfl) hsp Tryz.func125 rfl (n:=1) (fun _=>rfl) (by kernel_rfl) (zl (by kernel_rfl) h)
theorem zrL(hsp:zf Tryz.prog zrx)(h:∀(g:Int×Bool) (w:World),True->∃(g1:Int), #[int .i32 g.fst]= #[int .i32 g1]/\True/\∀(x:Int) w',x=za2 g1/\w'=w->zc (x==3) (zc g.snd (∃(x1:Int),int .i64 2=int .i64 x1/\x1=zY g.fst g.snd/\w'=w) (∃(x1:Int),int .i64 1=int .i64 x1/\x1=zY g.fst g.snd/\w'=w)) (∃(x1:Int),int .i64 x=int .i64 x1/\x1=zY g.fst g.snd/\w'=w)):
    ((zcZ (fun w w'=>w'=w))).Ok Tryz.prog 109:=ze (zcZ (fun w w'=>w'=w)) (zP zrx) zrx (fun _ _=>rfl) (fun _ _=>rfl) hsp Tryz.func109 rfl (n:=2) (fun _=>rfl) (by kernel_rfl) (zl (by kernel_rfl) h)
theorem ztG(hsp:zf Tryz.prog zrs)(h:∀(g:Int×Bool) (w:World),True->∃(g1:Int), #[int .i32 g.fst]= #[int .i32 g1]/\True/\∀(x:Int×Int) w',FindOk zdz (zJ g1) x.fst x.snd/\Ext w w'->zc (decide (x.fst<3)) (InR .i64 x.fst/\∃(x1:Int),int .i64 x.fst=int .i64 x1/\x1=zY g.fst g.snd/\Ext w w') (zc g.snd (∃(x1:Int),int .i64 2=int .i64 x1/\x1=zY g.fst g.snd/\Ext w w') (∃(x1:Int),int .i64 1=int .i64 x1/\x1=zY g.fst g.snd/\Ext w w'))):
    ((zcZ (fun w w'=>Ext w w'))).Ok Tryz.prog 100:=ze (zcZ (fun w w'=>Ext w w')) (zP zrs) zrs (fun _ _=>rfl) (fun _ _=>rfl) hsp Tryz.func100 rfl (n:=2) (fun _=>rfl) (by kernel_rfl) (zl (by kernel_rfl) h)
end

section
open Go Go.RowKit Vc Tb Cl
theorem zlm:(zas .i32 zJ).Ok Tryz.prog 81:=by
  refine zsR trivial ?_
  intro g w _
  refine zb (fun h=>⟨_,rfl,?_,rfl⟩) (fun h=>⟨_,rfl,?_,rfl⟩)
  ·unfold zJ;rw[h]
  ·unfold zJ;rw[h]
def znx(L:List (List RC×Int))(K:Int->Prop)(d x:Int):Prop:=match L with
  |[]=>K d
  |(c,v)::l=>zc (zhX c x) (K v) (znx l K d x)
theorem ziH{L:List (List RC×Int)}{K:Int->Prop}{d x:Int}(h:K (Z1 L d x)):znx L K d x:=by
  induction L with
  |nil=>exact h
  |cons p l ih=>
   obtain⟨c,v⟩:=p
   simp only[Z1]at h
   simp only[znx]
   cases hb:zhX c x with
   |true=>rw[hb]at h;exact h
   |false=>rw[hb]at h;exact ih h
theorem zqv{T:List (Int×Int)}(h:zaR T=true)(j:Nat):0<=(T.getD j (0,0)).1/\(T.getD j (0,0)).1<=1114111/\0<=(T.getD j (0,0)).2/\(T.getD j (0,0)).2<=255:=by
  by_cases hj:j<T.length
  ·have h1:=List.all_eq_true.1 h T[j] (List.getElem_mem hj)
   simp only[Bool.and_eq_true,decide_eq_true_eq]at h1
   rw[List.getD_eq_getElem?_getD,List.getElem?_eq_getElem hj]
   exact⟨h1.1.1.1,h1.1.1.2,h1.1.2,h1.2⟩
  ·rw[List.getD_eq_getElem?_getD,List.getElem?_eq_none (by omega)]
   simp
theorem zoL:zn6.Ok Tryz.prog 115:=by
  refine zwb trivial ?_
  rintro⟨b,T,r⟩ w ⟨hc,hpos,hlen,hbd,h0⟩
  have hk:=ziq r
  dsimp only at hc hpos hlen hbd h0⊢
  refine⟨zb (fun h=>⟨(),?_,rfl⟩) (fun h=>⟨(),?_,rfl⟩),?_⟩
  ·unfold zJ;rw[h]
  ·unfold zJ;rw[h]
  generalize zJ r=q at hk⊢
  rintro _ _ w' rfl
  refine⟨⟨(0,T.length),rfl,rfl,hpos,Nat.le_refl _,by rw[h0];exact hk.1, .inl rfl,rfl⟩,?_⟩
  rintro _ ⟨lo,hi⟩ w2 ⟨h1,h2,h3,h4,rfl⟩
  dsimp only at h1 h2 h3 h4⊢
  refine⟨zd (by omega) (by omega),zb (fun h=> ?_) (fun h=> ?_)⟩
  ·simp only[gt_iff_lt,decide_eq_true_eq]at h
   refine⟨zd (by omega) (by omega),by omega,by omega,zd (by omega) (by omega),(lo+hi) / 2,by omega,by omega,?_⟩
   have hm:(lo+hi) / 2<T.length:=by omega
   refine⟨_,(hc _ hm).1,zb (fun h=> ?_) (fun h=> ?_)⟩
   ·simp only[gt_iff_lt,decide_eq_true_eq]at h
    exact⟨(lo,(lo+hi) / 2),rfl,by simp,⟨by dsimp only;omega,by dsimp only;omega,h3, .inr h,rfl⟩,by dsimp only;omega⟩
   ·simp only[gt_iff_lt,decide_eq_false_iff_not]at h
    exact⟨((lo+hi) / 2,hi),by simp,rfl,⟨by dsimp only;omega,by dsimp only;omega,Int.not_lt.1 h,h4,rfl⟩,by dsimp only;omega⟩
  ·simp only[gt_iff_lt,decide_eq_false_iff_not]at h
   have hlo:lo<T.length:=by omega
   have hhi:hi=lo+1:=by omega
   subst hhi
   refine zb (fun h=> ?_) (fun h=> ?_)
   ·simp only[decide_eq_true_eq]at h
    have hh:lo+1<T.length:=by omega
    have hb:=zqv hbd (lo+1)
    refine fun w3 hw3=>⟨lo,rfl,hlo,_,(hc _ hlo).2,lo+1,rfl,hh,_,(hc _ hh).1,qF (by omega) (by omega),(_,_),rfl,⟨lo,hlo,h3,rfl, .inr ⟨hh,?_,rfl⟩⟩,hw3.ext⟩
    rcases h4 with h4|h4
    ·omega
    ·exact h4
   ·simp only[decide_eq_false_iff_not]at h
    refine⟨lo,rfl,hlo,_,(hc _ hlo).2,(_,_),rfl,⟨lo,hlo,h3,rfl, .inl ⟨by omega,rfl⟩⟩,Ext.refl _⟩
def zba(T:List (Int×Int)):List Value:=match T with
  |[]=>[]
  |(a,v)::r=> .int .i32 a:: .int .u8 v::zba r
theorem zkl{T:List (Int×Int)}{j:Nat}(hj:j<T.length):(zba T)[j*2]? =some (.int .i32 (T.getD j (0,0)).1)/\(zba T)[j*2+1]? =some (.int .u8 (T.getD j (0,0)).2):=by
  induction T generalizing j with
  |nil=>simp at hj
  |cons p r ih=>
   obtain⟨a,v⟩:=p
   cases j with
   |zero=>simp[zba]
   |succ j=>
    have:=ih (j:=j) (by simpa using hj)
    rw[show(j+1)*2=j*2+1+1 from by omega]
    simpa[zba]using this
theorem znS{w w1:World}{T:List (Int×Int)}{e:TypeId}{b:Nat}{cs:Array Value}(h:New w (.cells cs e) b w1)(hcs:cs.toList=zba T):zhP w1 b T:=by
  intro j hj
  have:=zkl hj
  rw[<-hcs]at this
  constructor
  ·rw[h.cell,Nat.zero_add,<-Array.getElem?_toList];exact this.1
  ·rw[h.cell,Nat.zero_add,<-Array.getElem?_toList];exact this.2
theorem zpo{T:List (Int×Int)}{r u t:Int}(hs:zuO T=true)(h:FindOk T r u t):0<=u/\u<=127:=by
  obtain⟨j,h1,_,rfl,_⟩:=h
  have h2:=List.all_eq_true.1 hs T[j] (List.getElem_mem h1)
  simp only[Bool.and_eq_true,decide_eq_true_eq]at h2
  rw[List.getD_eq_getElem?_getD,List.getElem?_eq_getElem h1]
  exact h2
set_option maxRecDepth 20000 in
theorem zce:(zas .i8 zn).Ok Tryz.prog 54:=by
  refine zrZ ⟨zlm,trivial⟩ ?_
  intro g w _
  refine⟨g,rfl,trivial,?_⟩
  rintro x w' ⟨rfl,rfl⟩
  exact ziH (L:=zir) (d:=zsU) (K:=fun v=>∃x1:Int,Value.int .i8 v=Value.int .i8 x1/\x1=zn g/\w'=w') ⟨_,rfl,rfl,rfl⟩
set_option maxRecDepth 20000 in
theorem zsT:(zkB zcp).Ok Tryz.prog 87:=by
  refine zsS ⟨zoL,trivial⟩ ?_
  intro g w _ b w1 hn
  refine⟨⟨b,zcp,g⟩,rfl,⟨znS hn rfl,(by decide+kernel:0<zcp.length),(by decide+kernel:zcp.length<=1000),(by decide+kernel:zaR zcp=true),rfl⟩,?_⟩
  rintro⟨u,t⟩ w2 ⟨h1,h2⟩
  exact⟨(u,t),rfl,h1,hn.ext.trans h2⟩
set_option maxRecDepth 20000 in
theorem zuV:(zas .i64 za2).Ok Tryz.prog 129:=by
  refine zuU ⟨zlm,trivial⟩ ?_
  intro g w _
  refine⟨g,rfl,trivial,?_⟩
  rintro x w' ⟨rfl,rfl⟩
  exact ziH (L:=zpc) (d:=zxx) (K:=fun v=>∃x1:Int,Value.int .i64 v=Value.int .i64 x1/\x1=za2 g/\w'=w') ⟨_,rfl,rfl,rfl⟩
set_option maxRecDepth 20000 in
theorem zuC:(zkB zdz).Ok Tryz.prog 125:=by
  refine zuB ⟨zoL,trivial⟩ ?_
  intro g w _ b w1 hn
  refine⟨⟨b,zdz,g⟩,rfl,⟨znS hn rfl,(by decide+kernel:0<zdz.length),(by decide+kernel:zdz.length<=1000),(by decide+kernel:zaR zdz=true),rfl⟩,?_⟩
  rintro⟨u,t⟩ w2 ⟨h1,h2⟩
  exact⟨(u,t),rfl,h1,hn.ext.trans h2⟩
theorem zbq:(zcc .i8 zn).Ok Tryz.prog 61:=by
  refine ztN ⟨zsT,trivial⟩ ?_
  intro g w _
  refine⟨g,rfl,trivial,?_⟩
  rintro⟨u,t⟩ w' ⟨h1,h2⟩
  have hs:=zpo (by decide+kernel) h1
  exact⟨zx9 (by dsimp only at hs⊢;omega) (by dsimp only at hs⊢;omega),u,rfl,h1.val zm7,h2⟩
theorem zpa{r u t:Int}(h:FindOk zdz (zJ r) u t):0<=u/\u<=3:=by
  obtain⟨j,h1,_,rfl,_⟩:=h
  have h2:zdz.all (fun p=>decide (0<=p.2)&&decide (p.2<=3))=true:=by decide+kernel
  have h3:=List.all_eq_true.1 h2 zdz[j] (List.getElem_mem h1)
  simp only[Bool.and_eq_true,decide_eq_true_eq]at h3
  rw[List.getD_eq_getElem?_getD,List.getElem?_eq_getElem h1]
  exact h3
theorem zkH:(zcZ (fun w w'=>w'=w)).Ok Tryz.prog 109:=by
  refine zrL ⟨zuV,trivial⟩ ?_
  rintro⟨r,b⟩ w _
  refine⟨r,rfl,trivial,?_⟩
  rintro x w' ⟨rfl,rfl⟩
  have hd:za2 r=0\/za2 r=1\/za2 r=2\/za2 r=3:=by
    have h2:(zpc.all (fun p=>decide (p.2=0\/p.2=1\/p.2=2\/p.2=3)))=true:=by decide+kernel
    have:∀(l:List (List RC×Int)) (q:Int),l.all (fun p=>decide (p.2=0\/p.2=1\/p.2=2\/p.2=3))=true->Z1 l 1 q=0\/Z1 l 1 q=1\/Z1 l 1 q=2\/Z1 l 1 q=3:=by
      intro l q hl
      induction l with
      |nil=>simp[Z1]
      |cons p l ih=>
       obtain⟨c,v⟩:=p
       simp only[List.all_cons,Bool.and_eq_true,decide_eq_true_eq]at hl
       simp only[Z1]
       split
       ·exact hl.1
       ·exact ih hl.2
    exact this zpc (zJ r) h2
  refine zb (fun h=> ?_) (fun h=>⟨_,rfl,?_,rfl⟩)
  ·have h3:za2 r=3:=by simpa using h
   refine zb (fun hb=>⟨_,rfl,?_,rfl⟩) (fun hb=>⟨_,rfl,?_,rfl⟩)
   ·have hb:b=true:=hb
    show _=zY r b
    unfold zY;rw[h3,hb];rfl
   ·have hb:b=false:=hb
    show _=zY r b
    unfold zY;rw[h3,hb];rfl
  ·have h3:za2 r≠3:=by simpa using h
   show _=zY r b
   unfold zY;rw[if_pos (by omega)]
theorem zhA:(zcZ (fun w w'=>Ext w w')).Ok Tryz.prog 100:=by
  refine ztG ⟨zuC,trivial⟩ ?_
  rintro⟨r,b⟩ w _
  refine⟨r,rfl,trivial,?_⟩
  rintro⟨u,t⟩ w' ⟨h1,h2⟩
  have hs:=zpa h1
  have hv:u=za2 r:=h1.val zpb
  dsimp only at hs⊢
  refine zb (fun h=> ?_) (fun h=> ?_)
  ·have h:u<3:=by simpa using h
   exact⟨zd (by omega) (by omega),_,rfl,by show _=zY r b;unfold zY;rw[<-hv,if_pos h],h2⟩
  ·have h:¬u<3:=by simpa using h
   refine zb (fun hb=>⟨_,rfl,?_,h2⟩) (fun hb=>⟨_,rfl,?_,h2⟩)
   ·have hb:b=true:=hb
    show _=zY r b
    unfold zY;rw[<-hv,if_neg h,hb];rfl
   ·have hb:b=false:=hb
    show _=zY r b
    unfold zY;rw[<-hv,if_neg h,hb];rfl
end
end Go.Proofs.YtjdohhididpomaaGreatDoor
