/-
  Texts joined by program: Bulk, Lg, SpXr, Lz, U8, U9, Ua.
-/
import Derived.Test.YtjdohhididpomaaGreatDoorRows
import Derived.Test.YtjdohhididpomaaGreatDoorWf24
import Derived.Test.YtjdohhididpomaaGreatDoorWf23
import Derived.Test.YtjdohhididpomaaGreatDoorWf09
import Derived.Deep.Slices
import Derived.ChangeSame
import Derived.Test.YtjdohhididpomaaGreatDoorWf21
import Derived.Lib.LaidIn
import Derived.Lib.LaidU8
import Derived.Test.YtjdohhididpomaaGreatDoorWf10
import Derived.Lib.LaidTab
set_option linter.unusedVariables false
set_option linter.unusedSimpArgs false

namespace Go.Proofs.YtjdohhididpomaaGreatDoor
section
namespace Bulk
open Go
theorem one_le{H:Type}(d:DataW H):1<=Rows.uptoBulk d:=by
  cases d with
  |lit l=>cases l<;>simp[Rows.uptoBulk]
  |_=>simp only[Rows.uptoBulk];omega
theorem part_le{H:Type}{d:DataW H}{l:List (DataW H)}(h:d∈l):Rows.uptoBulk d<=Rows.uptoBulkAll l:=by
  induction l with
  |nil=>cases h
  |cons x r ih=>
   simp only[Rows.uptoBulkAll]
   rcases List.mem_cons.1 h with rfl|h
   ·omega
   ·have:=ih h;omega
theorem length_le{H:Type}(l:List (DataW H)):l.length<=Rows.uptoBulkAll l:=by
  induction l with
  |nil=>simp
  |cons x r ih=>have:=one_le x;simp only[Rows.uptoBulkAll,List.length_cons];omega
theorem small{H:Type}{l:List (DataW H)}(hk:Rows.uptoSmall H l=true):Rows.uptoBulkAll l<=1048576:=of_decide_eq_true hk
end Bulk
end

section
namespace Lg
open Go Go.RowKit Go.ChangeShapes Go.WideShapes Go.ChangeAt Vc Lw
theorem list_choose{α:Type}{R:Nat->α->Prop}:∀(n:Nat),(∀i,i<n->∃q,R i q)->∃l:List α,l.length=n/\∀i q,l[i]? =some q->R i q
  |0,_=>⟨[],rfl,by simp⟩
  |n+1,h=>by
   obtain⟨l,h1,h2⟩:=list_choose n (fun i hi=>h i (by omega))
   obtain⟨q,hq⟩:=h n (by omega)
   refine⟨l++[q],by simp[h1],fun i x hx=> ?_⟩
   by_cases hi:i<n
   ·rw[List.getElem?_append_left (by omega)]at hx;exact h2 i x hx
   ·rw[List.getElem?_append_right (by omega),h1]at hx
    have hz:i - n=0:=by
      cases hk:i - n with
      |zero=>rfl
      |succ k=>rw[hk]at hx;simp at hx
    rw[hz]at hx
    simp only[List.getElem?_cons_zero,Option.some.injEq]at hx
    subst hx
    rw[show i=n from by omega];exact hq
section
variable {H : Type} {enc : TypeId × Value → H} {P : Program} {W : World} {base : Nat}
theorem spot_none{W:World}{b o:Nat}{sp:Option Nat}{v:Value}(h:W.cell? ⟨b,o,sp⟩=some v):sp=none:=by
  cases sp with
  |none=>rfl
  |some q=>
   simp only[World.cell?]at h
   split at h<;>simp at h
theorem bulk_list{α:Type}(f:Nat->DataW H)(g:α->Nat):∀(l:List α),(∀i (x:α),l[i]? =some x->g x<=Rows.uptoBulk (f i))->(l.map g).sum<=Rows.uptoBulkAll ((List.range l.length).map f):=by
  intro l
  induction l generalizing f with
  |nil=>intro _;exact Nat.zero_le _
  |cons x l ih=>
   intro h
   have h1:=ih (fun i=>f (i+1)) (fun i y hy=>h (i+1) y (by simpa using hy))
   have h0:=h 0 x rfl
   rw[List.length_cons,List.range_succ_eq_map,List.map_cons,List.map_cons,List.map_map,List.sum_cons]
   show g x+_<=Rows.uptoBulk (f 0)+Rows.uptoBulkAll ((List.range l.length).map (f∘Nat.succ))
   exact Nat.add_le_add h0 h1
theorem val_slice{b0:Nat}{t e:TypeId}{v:Value}(ht:P.underlying t=some (.slice e))(hval:Value.okWide P W .any b0 t v):∀(a:Option Addr) (n c:Nat),v.cells.toList=[.slice a n c]->v= .slice a n c:=by
  intro a n c hu
  cases v<;>simp_all[Value.cells]
  rename_i cs
  simp only[Value.okWide,ht]at hval
  simp[Cell.okWide,Cell.ok,ht]at hval
theorem rows_in{α:Type}{f:α->List Value}{s:Nat}{Good:α->Prop}{g:α->Nat}{fuel:Nat}{t e:TypeId}{vs:List Value}{x:DataW H×List MemPlace}(ht:P.underlying t=some (.slice e))(ce:P.cellsOf e=s)(hs:0<s)(hf:∀q,(f q).length=s)
    (elem:∀n cs y,DataW.trod enc P W base (fun _=>true) true n e cs=some y->∃q,cs=f q/\Good q/\g q<=Rows.uptoBulk y.1)
    (h:DataW.trod enc P W base (fun _=>true) true fuel t vs=some x):∃(ad:Option Addr) (c:Nat) (l:List α),vs=[.slice ad l.length c]/\CellsAt W ad (l.flatMap f)/\(∀q∈l,Good q)/\(l.map g).sum<=Rows.uptoBulk x.1:=by
  rcases Go.Deep.open_slice ht h with⟨h1,h2⟩|⟨a,len,cap,m,n,D,Pl,h1,h2,h3,h4,h5,h6,h7⟩
  ·exact⟨none,0,[],h1,CellsAt.nil _ _,fun q hq=>(by cases hq),Nat.zero_le _⟩
  ·simp only[if_true]at h5
   obtain⟨l,hl,hR⟩:=list_choose (R:=fun i (q:α)=>(∀j,j<s->W.cell? (a.add (i*s+j))=(f q)[j]?)/\Good q/\g q<=Rows.uptoBulk (D i)) len (fun i hi=>by
     obtain⟨cs',k1,k2⟩:=h7 i (by omega)
     rw[ce]at k1
     obtain⟨_,_,hcell⟩:=World.cells?_some k1
     obtain⟨q,e1,e2,e3⟩:=elem _ _ _ k2
     subst e1
     exact⟨q,fun j hj=>by rw[<-Go.Deep.add_add];exact hcell j hj,e2,e3⟩)
   refine⟨some a,cap,l,by rw[h1,hl],?_,fun x hx=> ?_,?_⟩
   ·by_cases hz:len=0
    ·left
     have:l=[]:=List.eq_nil_of_length_eq_zero (by omega)
     rw[this];rfl
    ·have hq0:l[0]? =some (l[0]'(by omega)):=List.getElem?_eq_getElem (by omega)
     have h0:=(hR 0 _ hq0).1 0 hs
     obtain⟨b,o,sp⟩:=a
     have hsome:∃v,(f (l[0]'(by omega)))[0]? =some v:=⟨_,List.getElem?_eq_getElem (by rw[hf];exact hs)⟩
     obtain⟨v,hv⟩:=hsome
     rw[hv]at h0
     have hsp:sp=none:=spot_none (b:=b) (o:=o+(0*s+0)) (by rw[<-h0];congr 1;unfold Addr.add;simp)
     subst hsp
     refine .inr ⟨b,o,rfl,fun j u hj=> ?_⟩
     have hj1:=(List.getElem?_eq_some_iff.1 hj).1
     rw[zig hf,hl]at hj1
     have hdm:=Nat.div_add_mod j s
     have hlt:j / s<l.length:=by rw[hl];exact Nat.div_lt_of_lt_mul (by rw[Nat.mul_comm];exact hj1)
     have hq:l[j / s]? =some (l[j / s]'hlt):=List.getElem?_eq_getElem hlt
     have hat:=zcx (j:=j%s) hf hq (Nat.mod_lt _ hs)
     have he:j / s*s+j%s=j:=by rw[Nat.mul_comm];exact hdm
     rw[he,hj]at hat
     have:=(hR _ _ hq).1 (j%s) (Nat.mod_lt _ hs)
     rw[he,<-hat,add_lit]at this
     exact this
   ·obtain⟨i,hi⟩:=List.mem_iff_getElem?.1 hx
    exact(hR i x hi).2.1
   ·rw[h6]
    simp only[Rows.uptoBulk]
    have:=bulk_list D g l (fun i x hx=>(hR i x hx).2.2)
    rw[hl]at this
    omega
theorem bulk_len(l:List Ce):(l.map fun c=>2+c.t.size).sum=zm l+l.length:=by
  induction l with
  |nil=>rfl
  |cons c l ih=>
   unfold zm at ih⊢
   simp only[List.map_cons,List.sum_cons,List.length_cons,ih]
   omega
end
end Lg
end

section
open Go Go.RowKit Vc Ut Tb Cl
end

section
namespace Lw
open Go Go.RowKit Go.ChangeShapes Go.WideShapes Go.ChangeAt Vc
theorem list_choose{α:Type}{R:Nat->α->Prop}:∀(n:Nat),(∀i,i<n->∃q,R i q)->∃l:List α,l.length=n/\∀i q,l[i]? =some q->R i q
  |0,_=>⟨[],rfl,by simp⟩
  |n+1,h=>by
   obtain⟨l,h1,h2⟩:=list_choose n (fun i hi=>h i (by omega))
   obtain⟨q,hq⟩:=h n (by omega)
   refine⟨l++[q],by simp[h1],fun i x hx=> ?_⟩
   by_cases hi:i<n
   ·rw[List.getElem?_append_left (by omega)]at hx;exact h2 i x hx
   ·rw[List.getElem?_append_right (by omega),h1]at hx
    have hz:i - n=0:=by
      cases hk:i - n with
      |zero=>rfl
      |succ k=>rw[hk]at hx;simp at hx
    rw[hz]at hx
    simp only[List.getElem?_cons_zero,Option.some.injEq]at hx
    subst hx
    rw[show i=n from by omega];exact hq
section
variable {H : Type} {enc : TypeId × Value → H} {P : Program}
theorem spot_none{W:World}{b o:Nat}{sp:Option Nat}{v:Value}(h:W.cell? ⟨b,o,sp⟩=some v):sp=none:=by
  cases sp with
  |none=>rfl
  |some q=>
   simp only[World.cell?]at h
   split at h<;>simp at h
theorem znl{W:World}{base:Nat}{t e:TypeId}{fuel:Nat}{v:Value}{x:DataW H×List MemPlace}(ht:P.underlying t=some (.slice e))(he:P.underlying e=some (.int .u8))(hc:P.cellsOf e=1)
    (h:DataW.trod enc P W base (fun _=>true) true fuel t [v]=some x):∃(ad:Option Addr) (c:Nat) (s:ByteArray),v= .slice ad s.size c/\CellsAt W ad (s.data.toList.map fun b=>Value.int .u8 (b.toNat:Int))/\1+s.size<=Rows.uptoBulk x.1:=by
  rcases open_ints ht he hc h with⟨h1,h2⟩|⟨a,len,cap,zs,h1,h2,h3,h4,h5,h6,h7,h8⟩
  ·refine⟨none,0,⟨#[]⟩,?_,CellsAt.nil _ _,?_⟩
   ·injection h1
   ·rw[h2];exact Nat.le_refl 1
  ·injection h1 with h1 _
   subst h1
   simp only[if_true]at h5
   have hlen:(zs.take len).length=len:=by rw[List.length_take];omega
   have hs:(⟨((zs.take len).map fun x=>UInt8.ofNat x.toNat).toArray⟩:ByteArray).size=len:=by
     show(((zs.take len).map fun x=>UInt8.ofNat x.toNat).toArray).size=_
     simp;omega
   refine⟨some a,cap,⟨((zs.take len).map fun x=>UInt8.ofNat x.toNat).toArray⟩,by rw[hs],?_,?_⟩
   ·have e1:((⟨((zs.take len).map fun x=>UInt8.ofNat x.toNat).toArray⟩:ByteArray).data.toList.map fun b=>Value.int .u8 (b.toNat:Int))=(zs.take len).map (Value.int .u8):=by
      show(((zs.take len).map fun x=>UInt8.ofNat x.toNat).toArray.toList.map fun b=>Value.int .u8 (b.toNat:Int))=_
      rw[List.toList_toArray,List.map_map]
      refine List.map_congr_left fun x hx=> ?_
      have hw:=h8 x (List.mem_of_mem_take hx)
      simp only[Lit.wf,IntKind.min,IntKind.max,IntKind.signed,IntKind.bits,Bool.and_eq_true,decide_eq_true_eq]at hw
      have h0:0<=x/\x<256:=by
        revert hw
        simp
        omega
      show Value.int .u8 ((UInt8.ofNat x.toNat).toNat:Int)=_
      rw[UInt8.toNat_ofNat_of_lt' (by show x.toNat<256;omega),Int.toNat_of_nonneg h0.1]
    rw[e1]
    by_cases hz:zs.length=0
    ·left
     have:zs=[]:=List.eq_nil_of_length_eq_zero hz
     simp[this]
    ·have h0:=h7 0 (by omega)
     obtain⟨b,o,sp⟩:=a
     have hsp:sp=none:=spot_none (b:=b) (o:=o+0) h0
     subst hsp
     refine .inr ⟨b,o,rfl,fun j u hj=> ?_⟩
     rw[List.getElem?_map]at hj
     obtain⟨x,hx,rfl⟩:=Option.map_eq_some_iff.1 hj
     rw[List.getElem?_take]at hx
     split at hx
     ·have hj2:j<zs.length:=(List.getElem?_eq_some_iff.1 hx).1
      have:=h7 j hj2
      rw[add_lit]at this
      rw[this,List.getD_eq_getElem?_getD,hx]
      rfl
     ·cases hx
   ·rw[hs,h6]
    simp only[Rows.uptoBulk]
    have:=Bulk.length_le (lits (H:=H) .u8 (zs.take len))
    rw[show(lits (H:=H) .u8 (zs.take len)).length=len from by simp[lits];omega]at this
    omega
theorem val_slice{W:World}{b0:Nat}{t e:TypeId}{v:Value}(ht:P.underlying t=some (.slice e))(hval:Value.okWide P W .any b0 t v):∀(a:Option Addr) (n c:Nat),v.cells.toList=[.slice a n c]->v= .slice a n c:=by
  intro a n c hu
  cases v<;>simp_all[Value.cells]
  rename_i cs
  simp only[Value.okWide,ht]at hval
  simp[Cell.okWide,Cell.ok,ht]at hval
theorem bulk_list{α:Type}(f:Nat->DataW H)(g:α->Nat):∀(l:List α),(∀i (x:α),l[i]? =some x->g x<=Rows.uptoBulk (f i))->(l.map g).sum<=Rows.uptoBulkAll ((List.range l.length).map f):=by
  intro l
  induction l generalizing f with
  |nil=>intro _;exact Nat.zero_le _
  |cons x l ih=>
   intro h
   have h1:=ih (fun i=>f (i+1)) (fun i y hy=>h (i+1) y (by simpa using hy))
   have h0:=h 0 x rfl
   rw[List.length_cons,List.range_succ_eq_map,List.map_cons,List.map_cons,List.map_map,List.sum_cons]
   show g x+_<=Rows.uptoBulk (f 0)+Rows.uptoBulkAll ((List.range l.length).map (f∘Nat.succ))
   exact Nat.add_le_add h0 h1
theorem zh0{W:World}{base b0:Nat}{t e eb:TypeId}{v:Value}{d:DataW H}{p:List MemPlace}(ht:P.underlying t=some (.slice e))(he:P.underlying e=some (.slice eb))(ce:P.cellsOf e=1)(heb:P.underlying eb=some (.int .u8))(ceb:P.cellsOf eb=1)
    (hval:Value.okWide P W .any b0 t v) (h:DataW.Trod enc P W base (fun _=>true) true t v d p):
    ∃(ad:Option Addr) (c:Nat) (l:List PcE),v= .slice ad l.length c/\CellsAt W ad (l.map peV)/\(∀x∈l,CellsAt W x.ad (zh x.b))/\ZG l<=Rows.uptoBulk d:=by
  obtain⟨fuel,hf⟩:=h
  rcases Go.Deep.open_slice1 ht ce hf with⟨h1,h2⟩|⟨a,len,cap,m,n,V,D,Pl,h1,h2,h3,h4,h5,h6,h7⟩
  ·exact⟨none,0,[],val_slice ht hval _ _ _ h1,CellsAt.nil _ _,fun x hx=>(by cases hx),Nat.zero_le _⟩
  ·have hvv:=val_slice ht hval _ _ _ h1
   simp only[if_true]at h5
   have hd:d= .slice ((List.range len).map D) ((List.range (m - len)).map fun j=>D (len+j)):=congrArg (fun x=>x.1) h6
   obtain⟨l,hl,hR⟩:=list_choose (R:=fun i (q:PcE)=>V i=peV q/\CellsAt W q.ad (zh q.b)/\1+q.b.size<=Rows.uptoBulk (D i)) len (fun i hi=>by
     obtain⟨k1,k2⟩:=h7 i (by omega)
     obtain⟨ad,c,s,e1,e2,e3⟩:=znl he heb ceb k2
     exact⟨⟨ad,c,s⟩,e1,e2,e3⟩)
   refine⟨some a,cap,l,by rw[hvv,hl],?_,fun x hx=> ?_,?_⟩
   ·by_cases hz:len=0
    ·left
     have:l=[]:=List.eq_nil_of_length_eq_zero (by omega)
     rw[this];rfl
    ·have h0:=(h7 0 (by omega)).1
     obtain⟨b,o,sp⟩:=a
     have hsp:sp=none:=spot_none (b:=b) (o:=o+0) h0
     subst hsp
     refine .inr ⟨b,o,rfl,fun j u hj=> ?_⟩
     rw[List.getElem?_map]at hj
     obtain⟨q,hq,rfl⟩:=Option.map_eq_some_iff.1 hj
     have hjl:=(List.getElem?_eq_some_iff.1 hq).1
     have:=(h7 j (by omega)).1
     rw[add_lit]at this
     rw[this,(hR j q hq).1]
   ·obtain⟨i,hi⟩:=List.mem_iff_getElem?.1 hx
    exact(hR i x hi).2.1
   ·rw[hd]
    simp only[Rows.uptoBulk]
    have:=bulk_list D (fun e:PcE=>1+e.b.size) l (fun i x hx=>(hR i x hx).2.2)
    rw[hl]at this
    unfold ZG
    omega
end
end Lw
end

section
open Go Go.Shelf Go.RowKit Go.Lib
theorem zs8:Rows.laid_unicode_utf8_first=Lib.firstData:=by kernel_rfl
theorem zqE:(Rows.laid_unicode_utf8_acceptRanges:DataW Unit)=Lib.acceptData:=by kernel_rfl
noncomputable def zpM (os:Os):World:=
  let w0:=World.holding Tryz.prog os ⟨#[], #[],[]⟩
  let put (h:Array Obj) (g:Nat) (cs:Array Value):Array Obj:=h.modify g fun
    | .cells _ t frozen=> .cells cs t frozen
    |o=>o
  let h1:=put w0.heap 0 (Lib.firstTab.map fun z=>Value.int .u8 z).toArray
  let h2:=put h1 1 ((List.range 16).flatMap fun i=>[Value.int .u8 (Lib.accLo i),Value.int .u8 (Lib.accHi i)]).toArray
  {w0 with heap:=h2}
end

section
open Go Go.Shelf Go.RowKit Go.Lib
def zgn:List (String×DataW Unit):=[("math/bits.deBruijn32tab",Rows.laid_math_bits_deBruijn32tab),("math/bits.deBruijn64tab",Rows.laid_math_bits_deBruijn64tab),("internal/strconv.uint64pow10",Rows.laid_internal_strconv_uint64pow10),("unicode/utf8.acceptRanges",Rows.laid_unicode_utf8_acceptRanges),("unicode/utf8.first",Rows.laid_unicode_utf8_first)]
set_option maxRecDepth 100000 in
theorem zyR{W:World}(h:VarReads Tryz.prog W "math/bits.deBruijn64tab" Rows.laid_math_bits_deBruijn64tab):DB W:=by
  obtain⟨g,t,cs,fuel,p,hg,hty,hvar,hd⟩:=h
  obtain rfl:=Option.some.inj ((show Tryz.prog.globalNamed "math/bits.deBruijn64tab" =some 5 by kernel_rfl).symm.trans hg)
  obtain rfl:=Option.some.inj ((show(Tryz.prog.globals[5]?).map (·.type)=some 192 by kernel_rfl).symm.trans hty)
  obtain⟨fuel',d,q,hdi,he⟩:=array_elem (n:=64) (e:=5) (by kernel_rfl) hd 15 (by decide)
  obtain⟨z,hz,hx,_⟩:=DataW.trod_int (k:= .u8) (by kernel_rfl) he
  have hd4:d= .lit (.int .u8 4):=by
    have:(some d:Option (DataW Unit))=some (.lit (.int .u8 4)):=hdi.symm.trans (by kernel_rfl)
    exact Option.some.inj this
  have hz4:z=4:=by
    have:=congrArg (fun x=>x.1) hx
    rw[hd4]at this
    injection this with h1
    injection h1 with _ h2
    exact h2.symm
  subst hz4
  show W.cell? _=_
  rw[World.var?_cell hg hvar 15,<-Array.getElem?_toList]
  have:=congrArg (·[0]?) hz
  rw[show Tryz.prog.cellsOf 5=1 from by kernel_rfl]at this
  simpa[List.getElem?_take,List.getElem?_drop]using this
theorem zyu{W:World}(hL:laidMet Tryz.prog zgn W):U8 W/\DB W:=by
  have h3:=Lib.laidMet.reads hL (n:= "unicode/utf8.first") (d:=Lib.firstData) (by rw[<-zs8];exact .tail _ (.tail _ (.tail _ (.tail _ (.head _)))))
  have h4:=Lib.laidMet.reads hL (n:= "unicode/utf8.acceptRanges") (d:=Lib.acceptData) (by rw[<-zqE];exact .tail _ (.tail _ (.tail _ (.head _))))
  have h5:=Lib.laidMet.reads hL (n:= "math/bits.deBruijn64tab") (d:=Rows.laid_math_bits_deBruijn64tab) (.tail _ (.head _))
  exact⟨utf8Tabs_of_reads Tryz.lays260 ⟨by kernel_rfl,by kernel_rfl,by kernel_rfl,by kernel_rfl,by kernel_rfl,by kernel_rfl,by kernel_rfl⟩ h3 h4,zyR h5⟩
def zs3:DataW Unit->List Value
  | .agg l=>l.filterMap fun
    | .lit (.int k n)=>some (.int k n)
    |_=>none
  |_=>[]
noncomputable def zfh (os:Os):World:=
  let w0:=zpM os
  let put (h:Array Obj) (g:Nat) (cs:Array Value):Array Obj:=h.modify g fun
    | .cells _ t frozen=> .cells cs t frozen
    |o=>o
  let h1:=put w0.heap 4 (zs3 Rows.laid_math_bits_deBruijn32tab).toArray
  let h2:=put h1 5 (zs3 Rows.laid_math_bits_deBruijn64tab).toArray
  let h3:=put h2 2 (zs3 Rows.laid_internal_strconv_uint64pow10).toArray
  {w0 with heap:=h3}
theorem zxs(os:Os)(args:Array Value):laidMet Tryz.prog zgn ((zfh os).forCall (fun _ _=>0) ⟨#[],args,[]⟩).memory:=
  (LaidIn.of_run (l:=zgn) [4,5,2,1,0] 8 (by kernel_rfl) (by kernel_rfl) (by kernel_rfl) (by kernel_rfl)).met
end

section
open Go Go.Shelf Go.RowKit Go.Lib
theorem zxA:(Rows.laid_internal_strconv_uint64pow10:DataW Unit)=Lib.tabData .u64 Lib.pow10Tab:=by kernel_rfl
set_option maxRecDepth 100000 in
theorem zxm{W:World}(h:VarReads Tryz.prog W "internal/strconv.uint64pow10" Rows.laid_internal_strconv_uint64pow10):Lib.TabIs Tryz.prog W "internal/strconv.uint64pow10" .u64 Lib.pow10Tab:=by
  obtain⟨g,t,cs,fuel,p,hg,hty,hvar,hd⟩:=h
  obtain rfl:=Option.some.inj ((show Tryz.prog.globalNamed "internal/strconv.uint64pow10" =some 2 by kernel_rfl).symm.trans hg)
  obtain rfl:=Option.some.inj ((show(Tryz.prog.globals[2]?).map (·.type)=some 183 by kernel_rfl).symm.trans hty)
  rw[zxA]at hd
  have:=Lib.cells_of_tab (n:=20) (e:=143) (k:= .u64) (zs:=Lib.pow10Tab) (by kernel_rfl) (by kernel_rfl) (by kernel_rfl) (by kernel_rfl) hd
  unfold Lib.TabIs
  rw[hvar,<-this]
theorem zyt{W:World}(hL:laidMet Tryz.prog zgn W):UP W:=by
  have hud:UD W:=zyu hL
  have h6:=Lib.laidMet.reads hL (n:= "internal/strconv.uint64pow10") (d:=Rows.laid_internal_strconv_uint64pow10) (.tail _ (.tail _ (.head _)))
  exact⟨fun w' h'=>UD.ext hud h',Lib.tabBelow_of_tabIs (zxm h6)⟩
end
end Go.Proofs.YtjdohhididpomaaGreatDoor
