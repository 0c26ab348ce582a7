/-
  Texts joined by program: Dc, Vc.
-/
import Derived.WalkKit
import Derived.Deep.Quiet
import Derived.RangeFuncNested
import Derived.Laws.IdiomStrings
import Derived.Laws.Cover4
import Derived.ChangeKeysEq
set_option linter.unusedVariables false
set_option linter.unusedSimpArgs false

namespace Go.Proofs.YtjdohhididpomaaGreatDoor
section
namespace Vc
open Go
def ZI(s:ByteArray):List Value:=(Conv.runesFrom s s.size 0 #[]).toList
def dcR(s:ByteArray)(i:Nat):Int:=((Utf8.decode s i).1:Int)
def Qh(s:ByteArray)(i:Nat):Nat:=(Utf8.decode s i).2
end Vc
end

section
set_option linter.unusedVariables false
namespace Vc
open Go Go.RowKit
def zdY:Obj->Bool
  | .loop _=>true
  | .deferred _=>true
  |_=>false
structure KOE(E:Nat->Prop)(w w':World):Prop where
  size:w.heap.size<=w'.heap.size
  same:∀k o,¬E k->w.heap[k]? =some o->zdY o=true->w'.heap[k]? =some o
abbrev KO(w w':World):Prop:=KOE (fun _=>False) w w'
theorem KOE.refl(E:Nat->Prop)(w:World):KOE E w w:=⟨Nat.le_refl _,fun _ _ _ h _=>h⟩
theorem KOE.trans{E:Nat->Prop}{a b c:World}(h:KOE E a b)(k:KOE E b c):KOE E a c:=
  ⟨Nat.le_trans h.size k.size,fun i o hE hi ho=>k.same i o hE (h.same i o hE hi ho) ho⟩
theorem KOE.mono{E E':Nat->Prop}{a b:World}(h:KOE E a b)(hE:∀k,E k->E' k):KOE E' a b:=
  ⟨h.size,fun i o hi=>h.same i o (fun h=>hi (hE i h))⟩
theorem KO.to{E:Nat->Prop}{a b:World}(h:KO a b):KOE E a b:=h.mono (fun _ h=>h.elim)
theorem KO.below{B:Nat}{w w':World}(h:Below B w w')(hB:w.heap.size<=B):KO w w':=
  ⟨h.size,fun k o _ hk _=>(h.block k (Nat.lt_of_lt_of_le (Array.getElem?_eq_some_iff.1 hk).1 hB)).trans hk⟩
theorem KO.alloc(w:World)(o:Obj):KO w (w.alloc o):=KO.below ((Below.refl w.heap.size w).alloc (Nat.le_refl _) o) (Nat.le_refl _)
theorem KO.setCell(w:World)(a:Addr)(v:Value):KO w (w.setCell a v):=
  ⟨by show w.heap.size<=(w.heap.modify _ _).size;rw[Array.size_modify];exact Nat.le_refl _,fun k o _ hk ho=>by
    by_cases e:k=a.block
    ·subst e
     obtain⟨hlt,hk'⟩:=Array.getElem?_eq_some_iff.1 hk
     show(w.heap.modify a.block _)[a.block]? =some o
     rw[Array.getElem?_eq_getElem (by rw[Array.size_modify];exact hlt),Array.getElem_modify_self,hk']
     cases o<;>first|rfl|(simp[zdY]at ho)
    ·exact(Below.heap_setCell w a v k e).trans hk⟩
theorem KO.grown{w w':World}{row:Option Nat}(hg:w.grownBy w' row)(hrow:∀(j:Nat) (o:Obj),row=some j->w.heap[j]? =some o->zdY o=false):KO w w':=
  ⟨hg.size,fun k o _ hk ho=>by
    refine(hg.block k (Array.getElem?_eq_some_iff.1 hk).1 ?_).trans hk
    intro e
    rw[hrow k o e.symm hk]at ho;cases ho⟩
def zaI{α:Type}(P:Program):Sem α->Option α
  | .pure a=>some a
  | .program k=>zaI P (k P)
  | .mark _ k=>zaI P k
  |_=>none
theorem zbi{α:Type}{P:Program}:∀(s:Sem α) {v:α},zaI P s=some v->∀w,s.run P w= .ok v w:=by
  intro s
  induction s with
  |pure a=>intro v h w;simp only[zaI,Option.some.injEq]at h;subst h;rfl
  |program k ih=>intro v h w;exact ih P h w
  |mark m k ih=>intro v h w;exact ih h w
  |_=>intro v h;simp[zaI]at h
@[reducible] def ZW (p:Prop):Prop:=p
def zc(b:Bool)(A B:Prop):Prop:=match b with|true=>A|false=>B
theorem zb{b:Bool}{A B:Prop}(h1:b=true->A)(h2:b=false->B):zc b A B:=by cases b<;>simp_all[zc]
def InR(k:IntKind)(n:Int):Prop:=k.min<=n/\n<=k.max
theorem InR.wrap{k:IntKind}{n:Int}(h:InR k n):k.wrap n=n:=by
  obtain⟨h1,h2⟩:=h
  cases k<;>simp[IntKind.wrap,IntKind.min,IntKind.max,IntKind.signed,IntKind.bits]at* <;>omega
inductive Leaf where
  |int (k:IntKind)|bool|str|slc|ptr|fn|yld|other
def zm6:TypeDesc->Leaf
  | .int k=> .int k
  | .bool=> .bool
  | .string=> .str
  | .slice _=> .slc
  | .pointer _=> .ptr
  | .func .. => .fn
  |_=> .other
def zny(w:World)(p:Addr):Leaf->(Value->Prop)->Prop
  | .int k,K=>∃n:Int,w.cell? p=some (.int k n)/\K (.int k n)
  | .bool,K=>∃b:Bool,w.cell? p=some (.bool b)/\K (.bool b)
  | .str,K=>∃s:ByteArray,w.cell? p=some (.string s)/\K (.string s)
  | .slc,K=>∃(a:Option Addr) (n c:Nat),w.cell? p=some (.slice a n c)/\K (.slice a n c)
  | .ptr,K=>∃a:Option Addr,w.cell? p=some (.pointer a)/\K (.pointer a)
  | .fn,K=>∃(gf:FuncId) (caps:Array Value),w.cell? p=some (.func (.func gf) #[] caps)/\K (.func (.func gf) #[] caps)
  | .yld,K=>∃l:Nat,w.cell? p=some (.func (.yield l) #[] #[])/\K (.func (.yield l) #[] #[])
  | .other,K=>∃v:Value,w.cell? p=some v/\K v
theorem zfb{w:World}{p:Addr}{l:Leaf}{K:Value->Prop}(h:zny w p l K):∃v,w.cell? p=some v/\K v:=by
  cases l with
  |int k=>obtain⟨n,h1,h2⟩:=h;exact⟨_,h1,h2⟩
  |bool=>obtain⟨n,h1,h2⟩:=h;exact⟨_,h1,h2⟩
  |str=>obtain⟨n,h1,h2⟩:=h;exact⟨_,h1,h2⟩
  |slc=>obtain⟨a,n,c,h1,h2⟩:=h;exact⟨_,h1,h2⟩
  |ptr=>obtain⟨a,h1,h2⟩:=h;exact⟨_,h1,h2⟩
  |fn=>obtain⟨gf,cp,h1,h2⟩:=h;exact⟨_,h1,h2⟩
  |yld=>obtain⟨l,h1,h2⟩:=h;exact⟨_,h1,h2⟩
  |other=>obtain⟨v,h1,h2⟩:=h;exact⟨_,h1,h2⟩
def zdW(P:Program):Nat->TypeId->List Leaf
  |0,_=>[]
  |f+1,t=>match P.underlying t with
   |some (.struct fs)=>fs.toList.flatMap fun fd=>zdW P f fd.type
   |some (.array n e)=>(List.replicate n ()).flatMap fun _=>zdW P f e
   |some d=>[zm6 d]
   |none=>[]
def zuu(o:Nat):Nat->Nat
  |0=>o
  |i+1=>o+(i+1)
theorem zed(o i:Nat):zuu o i=o+i:=by cases i<;>rfl
theorem add_lit(b o i:Nat):(⟨b,o,none⟩:Addr).add i=⟨b,o+i,none⟩:=by unfold Addr.add;split<;>simp_all
def zjY(w:World)(b o:Nat):Nat->List Leaf->(List Value->Prop)->Prop
  |_,[],K=>K []
  |i,l::ls,K=>zny w ⟨b,zuu o i,none⟩ l fun v=>zjY w b o (i+1) ls fun vs=>K (v::vs)
theorem zd7{w:World}{b o:Nat}:∀{ls:List Leaf} {i:Nat} {K:List Value->Prop},zjY w b o i ls K->
    ∃vs:List Value,vs.length=ls.length/\(∀(j:Nat) v,vs[j]? =some v->w.cell? ⟨b,o+(i+j),none⟩=some v)/\K vs
  |[],i,K,h=>⟨[],rfl,by simp,h⟩
  |l::ls,i,K,h=>by
   obtain⟨v,h1,h2⟩:=zfb h
   obtain⟨vs,h3,h4,h5⟩:=zd7 h2
   refine⟨v::vs,by simp[h3],?_,h5⟩
   intro j u hj
   cases j with
   |zero=>simp at hj;subst hj;rw[zed]at h1;exact h1
   |succ j=>simp at hj;have:=h4 j u hj;rw[show i+(j+1)=i+1+j from by omega];exact this
def Sees(w w':World):Prop:=∀p v,w.cell? p=some v->w'.cell? p=some v
def zcq(P:Program)(t:TypeId):Option Bool:=match P.underlying t with
  |some (.struct _)=>some true
  |some (.array ..)=>some true
  |some _=>some false
  |none=>none
theorem zfj{P:Program}{w:World}{t:TypeId}{p:Addr}{v:Value}(ht:zcq P t=some false)(h:w.cell? p=some v):(loadVar t p).run P w= .ok v w:=by
  unfold zcq at ht
  cases hu:P.underlying t with
  |none=>simp[hu]at ht
  |some d=>cases d<;>simp[hu]at ht<;>simp[loadVar,isAgg,run_underlying hu,h]
theorem zfk{P:Program}{w:World}{t:TypeId}{b o:Nat}{vs:List Value}(ht:zcq P t=some true)(hl:vs.length=P.cellsOf t)
    (hi:(P.info? t).isSome=true) (h:∀(j:Nat) v,vs[j]? =some v->w.cell? ⟨b,o+j,none⟩=some v):(loadVar t ⟨b,o,none⟩).run P w= .ok (.agg vs.toArray) w:=by
  obtain⟨i,hi⟩:=Option.isSome_iff_exists.1 hi
  have hsz:(sizeOf t).run P w= .ok vs.length w:=by
    simp[sizeOf,typeInfo,hi,hl,Program.cellsOf]
  have hlc:=run_loadCells_list (P:=P) w ⟨b,o,none⟩ vs (fun j v hj=>by rw[add_lit];exact h j v hj)
  unfold zcq at ht
  cases hu:P.underlying t with
  |none=>simp[hu]at ht
  |some d=>cases d<;>simp[hu]at ht<;>simp[loadVar,isAgg,run_underlying hu,hsz,hlc]
def zr(p:Option Addr)(K:Nat->Nat->Prop):Prop:=match p with
  |some ⟨b,o,none⟩=>K b o
  |_=>False
theorem zaz{p:Option Addr}{K:Nat->Nat->Prop}(h:zr p K):∃b o,p=some ⟨b,o,none⟩/\K b o:=by
  unfold zr at h
  split at h
  ·exact⟨_,_,rfl,h⟩
  ·exact h.elim
def zf6(k:Nat):Nat->Nat
  |1=>k
  |n=>k*n
theorem zh2(k n:Nat):zf6 k n=k*n:=by
  unfold zf6;split<;>simp
def SlAt(ad ad':Option Addr)(m l size:Nat):Prop:=ad'=if m=l then ad else ad.map (·.add (l*size))
theorem SlAt.lt{b o m l size:Nat}{ad':Option Addr}(h:SlAt (some ⟨b,o,none⟩) ad' m l size)(hl:l<m):ad'=some ⟨b,o+l*size,none⟩:=by
  unfold SlAt at h;rw[h,if_neg (by omega)];simp[add_lit]
def zmk(t:TypeId):List TypeInfo->Bool
  |[]=>false
  |i::r=>match i.desc with
   | .func ⟨[u]⟩ ⟨[]⟩ _=>Nat.beq u t||zmk t r
   |_=>zmk t r
def zx4(P:Program)(t:TypeId):Leaf:=match P.underlying t with
  |some (.func ..)=>(match zmk t P.types.toList with|true=> .yld|false=> .fn)
  |some d=>zm6 d
  |none=> .other
def zou(P:Program)(t:TypeId)(x:Value)(w:World)(K:Value->Prop):Prop:=
  match x with
  | .pointer p=>zr p fun b o=>match zcq P t with
    |some true=>if(P.info? t).isSome&&(zdW P 30 t).length==P.cellsOf t then zjY w b o 0 (zdW P 30 t) fun vs=>K (.agg vs.toArray)else False
    |some false=>zny w ⟨b,o,none⟩ (zx4 P t) K
    |none=>False
  |_=>False
def zds(P:Program)(t:TypeId)(x i:Value)(K:Value->Prop):Prop:=
  match i with
  | .int _ iv=>match P.underlying t with
    |some (.slice e)=>match x with
     | .slice ad n _=>if(P.info? e).isSome then ∃k:Nat,iv=(k:Int)/\k<n/\zr ad fun b o=>K (.pointer (some ⟨b,o+zf6 k (P.cellsOf e),none⟩))else False
     |_=>False
    |some (.array n e)=>match x with
     | .pointer ad=>if(P.info? e).isSome then ∃k:Nat,iv=(k:Int)/\k<n/\zr ad fun b o=>K (.pointer (some ⟨b,o+zf6 k (P.cellsOf e),none⟩))else False
     |_=>False
    |_=>False
  |_=>False
def zsN(v:Option Value):Leaf->(Value->Prop)->Prop
  | .int k,K=>∃n:Int,v=some (.int k n)/\K (.int k n)
  | .bool,K=>∃b:Bool,v=some (.bool b)/\K (.bool b)
  | .str,K=>∃s:ByteArray,v=some (.string s)/\K (.string s)
  |_,K=>∃u:Value,v=some u/\K u
theorem zll{v:Option Value}{l:Leaf}{K:Value->Prop}(h:zsN v l K):∃u,v=some u/\K u:=by
  cases l with
  |int k=>obtain⟨n,h1,h2⟩:=h;exact⟨_,h1,h2⟩
  |bool=>obtain⟨n,h1,h2⟩:=h;exact⟨_,h1,h2⟩
  |str=>obtain⟨n,h1,h2⟩:=h;exact⟨_,h1,h2⟩
  |slc=>exact h
  |ptr=>exact h
  |fn=>exact h
  |yld=>exact h
  |other=>exact h
def zna(P:Program)(t:TypeId)(x i:Value)(K:Value->Prop):Prop:=
  match i with
  | .int _ iv=>match P.underlying t with
    |some (.array n e)=>match x with
     | .agg cs=>match zcq P e with
       |some false=>if(P.info? e).isSome&&P.cellsOf e==1 then ∃k:Nat,iv=(k:Int)/\k<n/\zsN cs[k]? (match P.underlying e with|some d=>zm6 d|none=> .other) K else False
       |_=>False
     |_=>False
    |some .string=>match x with
     | .string s=>∃k:Nat,iv=(k:Int)/\k<s.size/\K (.int .u8 ((s.data.toList.getD k 0).toNat:Int))
     |_=>False
    |_=>False
  |_=>False
def QX:Option Value->Option (Option Int)
  |none=>some none
  |some (.int _ n)=>some (some n)
  |_=>none
def ztV:Option Int->Nat->(Nat->Prop)->Prop
  |none,d,K=>K d
  |some v,_,K=>∃k:Nat,v=(k:Int)/\K k
def zmD(P:Program)(t:TypeId)(x:Value)(lo hi mx:Option Value)(K:Value->Prop):Prop:=
  match P.underlying t with
  |some (.slice e)=>match x with
   | .slice ad n c=>if(P.info? e).isSome then(match QX mx with
     |some none=>match QX lo,QX hi with
      |some none,some none=>K (.slice ad n c)
      |some none,some (some h)=>∃hn:Nat,h=(hn:Int)/\hn<=c/\K (.slice ad hn c)
      |some (some l),some none=>∃ln:Nat,l=(ln:Int)/\ln<=n/\∀ad',SlAt ad ad' c ln (P.cellsOf e)->K (.slice ad' (n - ln) (c - ln))
      |some (some l),some (some h)=>∃ln hn:Nat,l=(ln:Int)/\h=(hn:Int)/\ln<=hn/\hn<=c/\∀ad',SlAt ad ad' c ln (P.cellsOf e)->K (.slice ad' (hn - ln) (c - ln))
      |_,_=>False
     |some (some m)=>match QX lo,QX hi with
      |some none,some (some h)=>∃mn hn:Nat,m=(mn:Int)/\h=(hn:Int)/\hn<=mn/\mn<=c/\K (.slice ad hn mn)
      |some (some l),some (some h)=>∃mn ln hn:Nat,m=(mn:Int)/\l=(ln:Int)/\h=(hn:Int)/\ln<=hn/\hn<=mn/\mn<=c/\∀ad',SlAt ad ad' mn ln (P.cellsOf e)->K (.slice ad' (hn - ln) (mn - ln))
      |_,_=>False
     |none=>False)else False
   |_=>False
  |some .string=>match x with
   | .string s=>match QX lo,QX hi,QX mx with
     |some l,some h,some none=>ztV l 0 fun ln=>ztV h s.size fun hn=>ln<=hn/\hn<=s.size/\K (.string (s.extract ln hn))
     |_,_,_=>False
   |_=>False
  |_=>False
def zho(v:Value)(K:Value->Prop):Prop:=match v with
  | .bool b=>K (.bool b)
  | .int k n=>K (.int k n)
  | .float k b=>K (.float k b)
  | .complex k x y=>K (.complex k x y)
  | .string s=>K (.string s)
  | .pointer a=>K (.pointer a)
  | .slice a n c=>K (.slice a n c)
  | .map r=>K (.map r)
  | .chan r=>K (.chan r)
  | .func f x y=>K (.func f x y)
  | .nilFunc=>K .nilFunc
  | .iface t x=>K (.iface t x)
  | .nilIface=>K .nilIface
  | .agg cs=>K (.agg cs)
  | .tuple vs=>K (.tuple vs)
theorem zcJ(v:Value)(K:Value->Prop):zho v K=K v:=by cases v<;>rfl
def ze2(P:Program)(o:Oper)(ρ:Operand->Value)(K:Value->Prop):Prop:=
  match zaI P (execOp ρ o)with
  |some (.value v)=>zho v K
  |_=>False
def zhK(wr:Bool)(k:IntKind)(n:Int)(K:Value->Prop):Prop:=match wr with
  |true=>K (.int k (k.wrap n))
  |false=>InR k n/\K (.int k n)
def zyt(P:Program)(wr:Bool)(o:Oper)(ρ:Operand->Value)(op:BinOp)(x y:Value)(K:Value->Prop):Prop:=
  match op,x,y with
  | .add, .int k m, .int k' n=>if k=k' then zhK wr k (m+n) K else False
  | .sub, .int k m, .int k' n=>if k=k' then zhK wr k (m - n) K else False
  | .mul, .int k m, .int k' n=>if k=k' then zhK wr k (m*n) K else False
  | .quo, .int k m, .int k' n=>if k=k' then(match wr with|true=>ze2 P o ρ K|false=>0<=m/\0<n/\InR k (m / n)/\K (.int k (m / n)))else False
  | .rem, .int k m, .int k' n=>if k=k' then(match wr with|true=>ZW (n≠0)/\K (.int k (m.tmod n))|false=>0<=m/\0<n/\K (.int k (m%n)))else False
  | .add, .string a, .string b=>ZW (a.size+b.size<=9223372036854775807)/\K (.string (a++b))
  |_,_,_=>ze2 P o ρ K
def ztK(P:Program)(wr:Bool)(o:Oper)(ρ:Operand->Value)(dst:TypeId)(x:Value)(K:Value->Prop):Prop:=
  match P.underlying dst,x with
  |some (.int k), .int _ n=>zhK wr k n K
  |_,_=>ze2 P o ρ K
def znp(d:TypeDesc)(x y:Value):Option Bool:=match d,x,y with
  | .int _, .int k a, .int k' b=>if k=k' then some (a==b)else none
  | .string, .string a, .string b=>some (a.toList==b.toList)
  | .bool, .bool a, .bool b=>some (a==b)
  |_,_,_=>none
def Q3(P:Program):Nat->List Field->List Value->List Value->Option Bool
  |_,[],[],[]=>some true
  |i,f::fs,x::xs,y::ys=>match(f.name != "_")&&Nat.beq f.offset i&&P.plainKey f.type with
   |true=>(match P.underlying f.type with
    |some d=>(match znp d x y with
     |some a=>(match Q3 P (i+1) fs xs ys with|some b=>some (a&&b)|none=>none)
     |none=>none)
    |none=>none)
   |false=>none
  |_,_,_,_=>none
def zoZ(P:Program)(t:TypeId):Bool:=(match P.underlying t with|some (.struct _)=>true|_=>false)&& !(P.stoodInHeld t)&& !(P.eqGuardType P.depth t)
def zut(P:Program)(op:BinOp)(t:TypeId)(x y:Value):Option Bool:=match op,x,y with
  | .eql, .agg xs, .agg ys=>(match zoZ P t with|true=>Q3 P 0 (P.fieldsOf t).toList xs.toList ys.toList|false=>none)
  | .neq, .agg xs, .agg ys=>(match zoZ P t with|true=>(match Q3 P 0 (P.fieldsOf t).toList xs.toList ys.toList with|some b=>some (!b)|none=>none)|false=>none)
  | .eql, .slice a _ _, .slice none 0 0=>(match P.underlying t with|some (.slice _)=>some a.isNone|_=>none)
  | .neq, .slice a _ _, .slice none 0 0=>(match P.underlying t with|some (.slice _)=>some (!a.isNone)|_=>none)
  | .eql, .pointer p, .pointer none=>(match P.underlying t with|some (.pointer _)=>some p.isNone|_=>none)
  | .neq, .pointer p, .pointer none=>(match P.underlying t with|some (.pointer _)=>some (!p.isNone)|_=>none)
  |_,_,_=>none
def zpf(P:Program)(wr:Bool)(o:Oper)(ρ:Operand->Value)(w:World)(K:Value->Prop):Prop:=
  match o.op with
  | .load t x=>zou P t (ρ x) w K
  | .indexAddr t x i=>zds P t (ρ x) (ρ i) K
  | .index t x i=>zna P t (ρ x) (ρ i) K
  | .slice t x lo hi mx=>match P.underlying t with
    |some (.array ..)=>ze2 P o ρ K
    |_=>zmD P t (ρ x) (lo.map ρ) (hi.map ρ) (mx.map ρ) K
  | .binOp op t x y _=>match zut P op t (ρ x) (ρ y)with
    |some b=>K (.bool b)
    |none=>zyt P wr o ρ op (ρ x) (ρ y) K
  | .convert s d x=>match P.underlying s with
    |some _=>ztK P wr o ρ d (ρ x) K
    |none=>False
  |_=>ze2 P o ρ K
def vB:Value->Option Nat
  | .pointer (some ⟨b,_,none⟩)=>some b
  |_=>none
def ldB(ρ:Operand->Value)(o:Oper):Option Nat:=match o.op with
  | .load _ x=>vB (ρ x)
  |_=>none
def SeesB(q:Option Nat)(w w':World):Prop:=∀b,q=some b->∀p v,p.block=b->w.cell? p=some v->w'.cell? p=some v
theorem SeesB.refl(q:Option Nat)(w:World):SeesB q w w:=fun _ _ _ _ _ h=>h
theorem Sees.b{w w':World}(h:Sees w w')(q:Option Nat):SeesB q w w':=fun _ _ p v _ hv=>h p v hv
def Gives(P:Program)(o:Oper)(ρ:Operand->Value)(w:World)(v:Value):Prop:=∀w',SeesB (ldB ρ o) w w'->(execOp ρ o).run P w'= .ok (.value v) w'
theorem QU{P:Program}{o:Oper}{ρ:Operand->Value}{K:Value->Prop}(w:World)(h:ze2 P o ρ K):∃v,Gives P o ρ w v/\K v:=by
  unfold ze2 at h
  split at h
  ·rename_i v hv;rw[zcJ]at h;exact⟨v,fun w' _=>zbi _ hv w',h⟩
  ·exact h.elim
theorem Sees.refl(w:World):Sees w w:=fun _ _ h=>h
theorem ze3{P:Program}{w:World}{t e:TypeId}{x:Value}{k:IntKind}{ad:Option Addr}{n i b o:Nat}(hx:(∃c,P.underlying t=some (.slice e)/\x= .slice ad n c)\/(P.underlying t=some (.array n e)/\x= .pointer ad))
    (hi:(P.info? e).isSome=true) (had:ad=some ⟨b,o,none⟩) (hlt:i<n):
    (Instr.indexAt t x (.int k (i:Int))).run P w= .ok (.pointer (some ⟨b,o+zf6 i (P.cellsOf e),none⟩)) w:=by
  obtain⟨inf,hinf⟩:=Option.isSome_iff_exists.1 hi
  subst had
  have hsz:∀w,(sizeOf e).run P w= .ok (P.cellsOf e) w:=fun w=>by simp[sizeOf,typeInfo,hinf,Program.cellsOf]
  rcases hx with⟨c,hu,rfl⟩|⟨hu,rfl⟩
  ·simp[Instr.indexAt,asIntOf,run_underlying hu,hlt,hsz,add_lit,zh2]
  ·simp[Instr.indexAt,asIntOf,run_underlying hu,hlt,hsz,add_lit,zh2,Instr.sureAddr]
theorem Gives.of{P:Program}{o:Oper}{ρ:Operand->Value}{w:World}{v:Value}{s:Sem Value}(he:execOp ρ o=(do pure (.value (<-s))))(h:∀w',SeesB (ldB ρ o) w w'->s.run P w'= .ok v w'):Gives P o ρ w v:=by
  intro w' hw
  rw[he]
  simp[h w' hw]
theorem zhj{P:Program}{t:TypeId}{x:Value}{w:World}{K:Value->Prop}(h:zou P t x w K):∃v,(∀w',SeesB (vB x) w w'->(Instr.loadAt t x).run P w'= .ok v w')/\K v:=by
  unfold zou at h
  split at h
  case h_2=>exact h.elim
  rename_i p
  obtain⟨b,o,rfl,h⟩:=zaz h
  split at h
  ·rename_i hag
   split at h
   ·rename_i hc
    simp only[Bool.and_eq_true,beq_iff_eq]at hc
    obtain⟨vs,h1,h2,h3⟩:=zd7 h
    refine⟨_,fun w' hw=> ?_,h3⟩
    simp only[Instr.loadAt,Instr.sureAddr,Sem.run_bind,Sem.run_pure,Result.andThen]
    exact zfk hag (by omega) hc.1 (fun j v hj=>hw b rfl _ _ rfl (by have:=h2 j v hj;rw[Nat.zero_add]at this;exact this))
   ·exact h.elim
  ·rename_i hag
   obtain⟨v,h1,h2⟩:=zfb h
   refine⟨v,fun w' hw=> ?_,h2⟩
   simp only[Instr.loadAt,Instr.sureAddr,Sem.run_bind,Sem.run_pure,Result.andThen]
   exact zfj hag (hw b rfl _ _ rfl h1)
  ·exact h.elim
theorem zfn{P:Program}{t:TypeId}{x i:Value}{w:World}{K:Value->Prop}(h:zds P t x i K):∃v,(∀w',(Instr.indexAt t x i).run P w'= .ok v w')/\K v:=by
  unfold zds at h
  split at h
  case h_2=>exact h.elim
  split at h
  case h_3=>exact h.elim
  ·rename_i e hu
   split at h
   case h_2=>exact h.elim
   split at h
   case isFalse=>exact h.elim
   rename_i hinf
   obtain⟨k,rfl,hlt,hp⟩:=h
   obtain⟨b,o,rfl,hK⟩:=zaz hp
   exact⟨_,fun w'=>ze3 (.inl ⟨_,hu,rfl⟩) hinf rfl hlt,hK⟩
  ·rename_i n e hu
   split at h
   case h_2=>exact h.elim
   split at h
   case isFalse=>exact h.elim
   rename_i hinf
   obtain⟨k,rfl,hlt,hp⟩:=h
   obtain⟨b,o,rfl,hK⟩:=zaz hp
   exact⟨_,fun w'=>ze3 (.inr ⟨hu,rfl⟩) hinf rfl hlt,hK⟩
theorem zlp{P:Program}{t:TypeId}{x i:Value}{w:World}{K:Value->Prop}(h:zna P t x i K):∃v,(∀w',(Instr.index t x i).run P w'= .ok v w')/\K v:=by
  unfold zna at h
  split at h
  case h_2=>exact h.elim
  split at h
  case h_3=>exact h.elim
  ·rename_i n e hu
   split at h
   case h_2=>exact h.elim
   rename_i cs
   split at h
   case h_2=>exact h.elim
   rename_i hag
   split at h
   case isFalse=>exact h.elim
   rename_i hc
   simp only[Bool.and_eq_true,beq_iff_eq]at hc
   obtain⟨inf,hinf⟩:=Option.isSome_iff_exists.1 hc.1
   obtain⟨k,rfl,hlt,hl⟩:=h
   obtain⟨u,hu1,hK⟩:=zll hl
   refine⟨u,fun w'=> ?_,hK⟩
   have hsz:∀w,(sizeOf e).run P w= .ok 1 w:=fun w=>by rw[<-hc.2];simp[sizeOf,typeInfo,hinf,Program.cellsOf]
   have hia:∀w,(isAgg e).run P w= .ok false w:=fun w=>by
     unfold zcq at hag
     cases hue:P.underlying e with
     |none=>simp[hue]at hag
     |some d=>cases d<;>simp[hue]at hag<;>simp[isAgg,run_underlying hue]
   simp[Instr.index,asIntOf,run_underlying hu,hlt,hsz,part,hia,hu1]
  ·rename_i hu
   split at h
   case h_2=>exact h.elim
   rename_i s
   obtain⟨k,rfl,hlt,hK⟩:=h
   refine⟨_,fun w'=> ?_,hK⟩
   have h1:s.data.toList.getD k 0=s[k]:=by
     rw[List.getD_eq_getElem?_getD,List.getElem?_eq_getElem (by simpa using hlt)];rfl
   simp[Instr.index,asIntOf,run_underlying hu,hlt]
   rfl
theorem qq{P:Program}{w:World}{k:IntKind}{i y:Nat}(c:BoundsCode)(h:i<=y):(Instr.sliceBound (.int k (i:Int)) y c).run P w= .ok i w:=by
  simp[Instr.sliceBound,asIntOf,h]
theorem qy{v:Option Value}(hv:QX v=some none):v=none:=by
  cases v with
  |none=>rfl
  |some u=>cases u<;>simp[QX]at hv
theorem qJ{v:Option Value}{n:Int}(hv:QX v=some (some n)):∃k,v=some (.int k n):=by
  cases v with
  |none=>simp[QX]at hv
  |some u=>cases u<;>simp[QX]at hv;subst hv;exact⟨_,rfl⟩
theorem add_zero(a:Addr):a.add 0=a:=rfl
theorem zkq{P:Program}{t:TypeId}{x:Value}{lo hi mx:Option Value}{w:World}{K:Value->Prop}(h:zmD P t x lo hi mx K):∃v,(∀w',(Instr.slice t x lo hi mx).run P w'= .ok v w')/\K v:=by
  unfold zmD at h
  split at h
  case h_3=>exact h.elim
  ·rename_i e hu
   split at h
   case h_2=>exact h.elim
   rename_i ad n c
   split at h
   case isFalse=>exact h.elim
   rename_i hinf
   obtain⟨inf,hinf⟩:=Option.isSome_iff_exists.1 hinf
   have hsz:∀w,(sizeOf e).run P w= .ok (P.cellsOf e) w:=fun w=>by simp[sizeOf,typeInfo,hinf,Program.cellsOf]
   split at h
   case h_3=>exact h.elim
   ·rename_i hm
    split at h
    case h_5=>exact h.elim
    ·rename_i hl hh
     rw[qy hl,qy hh,qy hm]
     refine⟨_,fun w'=> ?_,h⟩
     simp[Instr.slice,run_underlying hu,Instr.sliceBounds,hsz]
     intro _;cases ad<;>simp[add_zero]
    ·rename_i h' hl hh
     obtain⟨hk,eh⟩:=qJ hh
     obtain⟨hn,e1,h2,h3⟩:=h
     rw[qy hl,eh,qy hm,e1]
     refine⟨_,fun w'=> ?_,h3⟩
     simp[Instr.slice,run_underlying hu,Instr.sliceBounds,hsz,qq _ h2]
     intro _;cases ad<;>simp[add_zero]
    ·rename_i l hl hh
     obtain⟨lk,el⟩:=qJ hl
     obtain⟨ln,e1,h2,h3⟩:=h
     rw[el,qy hh,qy hm,e1]
     refine⟨_,fun w'=> ?_,h3 _ rfl⟩
     simp[Instr.slice,run_underlying hu,Instr.sliceBounds,hsz,qq _ h2]
    ·rename_i l h' hl hh
     obtain⟨lk,el⟩:=qJ hl
     obtain⟨hk,eh⟩:=qJ hh
     obtain⟨ln,hn,e1,e2,h2,h3,h4⟩:=h
     rw[el,eh,qy hm,e1,e2]
     refine⟨_,fun w'=> ?_,h4 _ rfl⟩
     simp[Instr.slice,run_underlying hu,Instr.sliceBounds,hsz,qq _ h2,qq _ h3]
   ·rename_i m hm
    obtain⟨mk,em⟩:=qJ hm
    split at h
    case h_3=>exact h.elim
    ·rename_i h' hl hh
     obtain⟨hk,eh⟩:=qJ hh
     obtain⟨mn,hn,e1,e2,h2,h3,h4⟩:=h
     rw[qy hl,eh,em,e1,e2]
     refine⟨_,fun w'=> ?_,h4⟩
     simp[Instr.slice,run_underlying hu,Instr.sliceBounds,hsz,qq _ h2,qq _ h3]
     intro _;cases ad<;>simp[add_zero]
    ·rename_i l h' hl hh
     obtain⟨hk,eh⟩:=qJ hh
     obtain⟨lk,el⟩:=qJ hl
     obtain⟨mn,ln,hn,e1,e2,e3,h2,h3,h4,h5⟩:=h
     rw[el,eh,em,e1,e2,e3]
     refine⟨_,fun w'=> ?_,h5 _ rfl⟩
     simp[Instr.slice,run_underlying hu,Instr.sliceBounds,hsz,qq _ h2,qq _ h3,qq _ h4]
  ·rename_i hu
   split at h
   case h_2=>exact h.elim
   rename_i s
   split at h
   case h_2=>exact h.elim
   rename_i l h' hl hh hm
   rw[qy hm]
   have key:∀(ln hn:Nat),ln<=hn->hn<=s.size->(lo=none/\ln=0\/∃k,lo=some (.int k (ln:Int)))->(hi=none/\hn=s.size\/∃k,hi=some (.int k (hn:Int)))->
    ∀w',(Instr.slice t (.string s) lo hi none).run P w'= .ok (.string (s.extract ln hn)) w':=by
     intro ln hn h1 h2 h3 h4 w'
     rcases h3 with⟨rfl,rfl⟩|⟨k,rfl⟩<;>rcases h4 with⟨rfl,rfl⟩|⟨k',rfl⟩<;>
       simp[Instr.slice,run_underlying hu,Instr.sliceBounds,qq _ h1,qq _ h2]
   cases l with
   |none=>
    cases h' with
    |none=>obtain⟨h1,h2,h3⟩:=h;exact⟨_,fun w'=>key _ _ h1 h2 (.inl ⟨qy hl,rfl⟩) (.inl ⟨qy hh,rfl⟩) w',h3⟩
    |some hv=>
     obtain⟨hn,e1,h1,h2,h3⟩:=h
     obtain⟨k,ek⟩:=qJ hh
     exact⟨_,fun w'=>key _ _ h1 h2 (.inl ⟨qy hl,rfl⟩) (.inr ⟨k,by rw[ek,e1]⟩) w',h3⟩
   |some lv=>
    cases h' with
    |none=>
     obtain⟨ln,e1,h1,h2,h3⟩:=h
     obtain⟨k,ek⟩:=qJ hl
     exact⟨_,fun w'=>key _ _ h1 h2 (.inr ⟨k,by rw[ek,e1]⟩) (.inl ⟨qy hh,rfl⟩) w',h3⟩
    |some hv=>
     obtain⟨ln,e1,hn,e2,h1,h2,h3⟩:=h
     obtain⟨k,ek⟩:=qJ hl
     obtain⟨k2,ek2⟩:=qJ hh
     exact⟨_,fun w'=>key _ _ h1 h2 (.inr ⟨k,by rw[ek,e1]⟩) (.inr ⟨k2,by rw[ek2,e2]⟩) w',h3⟩
theorem za0{wr:Bool}{k:IntKind}{n:Int}{K:Value->Prop}(h:zhK wr k n K):K (.int k (k.wrap n)):=by
  cases wr with
  |true=>exact h
  |false=>obtain⟨h1,h2⟩:=h;rw[h1.wrap];exact h2
theorem zqz{P:Program}{wr:Bool}{o:Oper}{ρ:Operand->Value}{op:BinOp}{t t':TypeId}{x y:Operand}{K:Value->Prop}(w:World)(ho:o.op= .binOp op t x y t')
    (h:zyt P wr o ρ op (ρ x) (ρ y) K):∃v,Gives P o ρ w v/\K v:=by
  have g:∀{k:IntKind} {m n:Int} {v:Value},ρ x= .int k m->ρ y= .int k n->(∀w,(binOp op t (.int k m) (.int k n)).run P w= .ok v w)->Gives P o ρ w v:=by
    intro k m n v hx hy hr
    refine Gives.of (s:=do eqGuard op t x y (ρ x) (ρ y);binOp op t (ρ x) (ρ y)) (by simp[execOp,ho]) (fun w' _=> ?_)
    rw[hx,hy]
    have:(eqGuard op t x y (.int k m) (.int k n)).run P w'= .ok () w':=by unfold eqGuard;split<;>rfl
    simp[this,hr]
  unfold zyt at h
  split at h
  case h_7=>exact QU w h
  ·rename_i k m k' n hx hy
   split at h
   case isFalse=>exact h.elim
   rename_i hk;subst hk
   exact⟨_,g hx hy (fun w=>by simp[binOp,Op.intArith]),za0 h⟩
  ·rename_i k m k' n hx hy
   split at h
   case isFalse=>exact h.elim
   rename_i hk;subst hk
   exact⟨_,g hx hy (fun w=>by simp[binOp,Op.intArith]),za0 h⟩
  ·rename_i k m k' n hx hy
   split at h
   case isFalse=>exact h.elim
   rename_i hk;subst hk
   exact⟨_,g hx hy (fun w=>by simp[binOp,Op.intArith]),za0 h⟩
  ·rename_i k m k' n hx hy
   split at h
   case isFalse=>exact h.elim
   rename_i hk;subst hk
   split at h
   ·exact QU w h
   ·obtain⟨h1,h2,h3,h4⟩:=h
    refine⟨_,g hx hy (fun w=> ?_),h4⟩
    rw[<-h3.wrap]
    simp[binOp,Op.intDiv,show n≠0 from by omega,Int.tdiv_eq_ediv_of_nonneg h1,h3.wrap]
  ·rename_i k m k' n hx hy
   split at h
   case isFalse=>exact h.elim
   rename_i hk;subst hk
   split at h
   ·obtain⟨h1,h4⟩:=h
    have h1:n≠0:=h1
    refine⟨_,g hx hy (fun w=> ?_),h4⟩
    simp[binOp,Op.intDiv,h1]
   ·obtain⟨h1,h2,h4⟩:=h
    refine⟨_,g hx hy (fun w=> ?_),h4⟩
    simp[binOp,Op.intDiv,show n≠0 from by omega,Int.tmod_eq_emod_of_nonneg h1]
  ·rename_i a b hx hy
   obtain⟨h1,h4⟩:=h
   have h1:a.size+b.size<=9223372036854775807:=h1
   refine⟨_,Gives.of (s:=do eqGuard .add t x y (ρ x) (ρ y);binOp .add t (ρ x) (ρ y)) (by simp[execOp,ho]) (fun w' _=> ?_),h4⟩
   rw[hx,hy]
   have hg:(eqGuard .add t x y (.string a) (.string b)).run P w'= .ok () w':=by unfold eqGuard;rfl
   simp[hg,binOp,Op.stringOp]
   omega
theorem zno{P:Program}{w:World}{t:TypeId}{d:TypeDesc}{x y:Value}{a:Bool}{n:Nat}(ht:P.underlying t=some d)(h:znp d x y=some a):(Op.equalIn (n+1) t x y).run P w= .ok a w:=by
  unfold znp at h
  split at h
  ·split at h
   ·rename_i hk;subst hk;injection h with h;subst h;exact run_equalIn_int w n t _ _ _ _ ht
   ·cases h
  ·injection h with h;subst h;exact run_equalIn_string w n t _ _ ht
  ·injection h with h;subst h;exact run_equalIn_bool' w n t _ _ ht
  ·cases h
theorem zd4{P:Program}{n:Nat}:∀(fs:List Field) (i:Nat) (xs ys:Array Value) (l m:List Value) (b:Bool) (w:World),xs.toList.drop i=l->ys.toList.drop i=m->Q3 P i fs l m=some b->(Op.eqFields (n+1) xs ys fs).run P w= .ok b w
  |[],i,xs,ys,l,m,b,w,h1,h2,h=>by
   match l,m,h with
   |[],[],h=>simp only[Q3,Option.some.injEq]at h;subst h;simp[Op.eqFields]
  |f::fs,i,xs,ys,l,m,b,w,h1,h2,h=>by
   match l,m,h with
   |x::l,y::m,h=>
    simp only[Q3]at h
    split at h
    case h_2=>cases h
    rename_i hc
    simp only[Bool.and_eq_true,bne_iff_ne,ne_eq]at hc
    obtain⟨⟨hn,ho⟩,hp⟩:=hc
    have ho:=Nat.eq_of_beq_eq_true ho
    split at h
    case h_2=>cases h
    rename_i d hd
    split at h
    case h_2=>cases h
    rename_i a ha
    split at h
    case h_2=>cases h
    rename_i b' hb'
    simp only[Option.some.injEq]at h
    subst h
    have hx:xs[i]? =some x:=by
      rw[<-Array.getElem?_toList]
      have:=List.getElem?_drop (xs:=xs.toList) (i:=i) (j:=0)
      rw[h1,Nat.add_zero]at this
      simpa using this.symm
    have hy:ys[i]? =some y:=by
      rw[<-Array.getElem?_toList]
      have:=List.getElem?_drop (xs:=ys.toList) (i:=i) (j:=0)
      rw[h2,Nat.add_zero]at this
      simpa using this.symm
    have h1':xs.toList.drop (i+1)=l:=by rw[<-List.drop_drop,h1];rfl
    have h2':ys.toList.drop (i+1)=m:=by rw[<-List.drop_drop,h2];rfl
    have ih:=zd4 (n:=n) fs (i+1) xs ys l m b' w h1' h2' hb'
    simp only[Op.eqFields]
    rw[if_pos hn,ho]
    simp only[Sem.run_bind,run_part_plain w hp hx,run_part_plain w hp hy,zno hd ha,Result.andThen_ok]
    cases a
    ·simp
    ·simp[ih]
theorem zhR{P:Program}(w:World)(d:Nat)(t e:TypeId)(a:Option Addr)(l c:Nat)(h:P.underlying t=some (.slice e)):(Op.equalIn (d+1) t (.slice a l c) (.slice none 0 0)).run P w= .ok a.isNone w:=by
  cases a<;>simp[Op.equalIn,run_underlying h]
theorem zeY{P:Program}(w:World)(t e:TypeId)(a:Option Addr)(l c:Nat)(h:P.underlying t=some (.slice e)):(Op.equal t (.slice a l c) (.slice none 0 0)).run P w= .ok a.isNone w:=zhR w 9999 t e a l c h
theorem zgX{P:Program}{t e:TypeId}(h:P.underlying t=some (.pointer e)):P.pointee t=e:=by
  unfold Program.pointee;rw[h]
theorem znH{P:Program}{o:Oper}{ρ:Operand->Value}{op:BinOp}{t t':TypeId}{x y:Operand}{b:Bool}(w:World)(ho:o.op= .binOp op t x y t')(h:zut P op t (ρ x) (ρ y)=some b):Gives P o ρ w (.bool b):=by
  have key:∀{xs ys:Array Value} {c:Bool},zoZ P t=true->Q3 P 0 (P.fieldsOf t).toList xs.toList ys.toList=some c->(∀w,(Op.equalIn 10000 t (.agg xs) (.agg ys)).run P w= .ok c w)/\P.eqGuardType P.depth t=false:=by
    intro xs ys c hk hc
    unfold zoZ at hk
    simp only[Bool.and_eq_true,Bool.not_eq_true']at hk
    obtain⟨⟨h1,h2⟩,h3⟩:=hk
    have ht:P.underlying t=some (.struct (P.fieldsOf t)):=by
      unfold Program.fieldsOf
      cases hu:P.underlying t with
      |none=>rw[hu]at h1;cases h1
      |some d=>rw[hu]at h1;cases d<;>first|rfl|cases h1
    exact⟨fun w=>(run_equalIn_agg w 9999 t xs ys ht h2).trans (zd4 (n:=9998) _ 0 xs ys _ _ c w rfl rfl hc),h3⟩
  unfold zut at h
  split at h
  ·rename_i xs ys hx hy
   split at h
   case h_2=>cases h
   rename_i hk
   obtain⟨k1,k2⟩:=key hk h
   refine Gives.of (s:=do eqGuard .eql t x y (ρ x) (ρ y);binOp .eql t (ρ x) (ρ y)) (by simp[execOp,ho]) (fun w' _=> ?_)
   rw[hx,hy]
   simp only[Sem.run_bind,run_eqGuard_agg w' .eql t x y xs ys k2,Result.andThen_ok,run_eql_struct,k1 w']
  ·rename_i xs ys hx hy
   split at h
   case h_2=>cases h
   rename_i hk
   split at h
   case h_2=>cases h
   rename_i c hc
   obtain⟨k1,k2⟩:=key hk hc
   injection h with h
   subst h
   refine Gives.of (s:=do eqGuard .neq t x y (ρ x) (ρ y);binOp .neq t (ρ x) (ρ y)) (by simp[execOp,ho]) (fun w' _=> ?_)
   rw[hx,hy]
   simp only[Sem.run_bind,run_eqGuard_agg w' .neq t x y xs ys k2,Result.andThen_ok,run_neq_struct,k1 w']
  ·rename_i a l c hx hy
   split at h
   case h_2=>cases h
   rename_i e hu
   injection h with h;subst h
   refine Gives.of (s:=do eqGuard .eql t x y (ρ x) (ρ y);binOp .eql t (ρ x) (ρ y)) (by simp[execOp,ho]) (fun w' _=> ?_)
   rw[hx,hy]
   simp[eqGuard,binOp,zeY w' t e a l c hu]
  ·rename_i a l c hx hy
   split at h
   case h_2=>cases h
   rename_i e hu
   injection h with h;subst h
   refine Gives.of (s:=do eqGuard .neq t x y (ρ x) (ρ y);binOp .neq t (ρ x) (ρ y)) (by simp[execOp,ho]) (fun w' _=> ?_)
   rw[hx,hy]
   simp[eqGuard,binOp,zeY w' t e a l c hu]
  ·rename_i q hx hy
   split at h
   case h_2=>cases h
   rename_i e hu
   injection h with h;subst h
   have hu':P.underlying t=some (.pointer (P.pointee t)):=by rw[hu,zgX hu]
   refine Gives.of (s:=do eqGuard .eql t x y (ρ x) (ρ y);binOp .eql t (ρ x) (ρ y)) (by simp[execOp,ho]) (fun w' _=> ?_)
   rw[hx,hy]
   simp[eqGuard,binOp,run_equal_pointer_nil w' t q hu']
  ·rename_i q hx hy
   split at h
   case h_2=>cases h
   rename_i e hu
   injection h with h;subst h
   have hu':P.underlying t=some (.pointer (P.pointee t)):=by rw[hu,zgX hu]
   refine Gives.of (s:=do eqGuard .neq t x y (ρ x) (ρ y);binOp .neq t (ρ x) (ρ y)) (by simp[execOp,ho]) (fun w' _=> ?_)
   rw[hx,hy]
   simp[eqGuard,binOp,run_equal_pointer_nil w' t q hu']
  ·cases h
theorem znw{P:Program}{wr:Bool}{o:Oper}{ρ:Operand->Value}{s d:TypeId}{x:Operand}{K:Value->Prop}(w:World)(ho:o.op= .convert s d x)(hs:(P.underlying s).isSome=true)
    (h:ztK P wr o ρ d (ρ x) K):∃v,Gives P o ρ w v/\K v:=by
  obtain⟨sd,hs⟩:=Option.isSome_iff_exists.1 hs
  unfold ztK at h
  split at h
  case h_2=>exact QU w h
  rename_i k k' n hd hx
  refine⟨_,Gives.of (s:=convert s d (ρ x)) (by simp[execOp,ho]) (fun w' _=> ?_),za0 h⟩
  rw[hx]
  simp[convert,run_underlying hs,run_underlying hd,Conv.intToInt]
theorem zcA{P:Program}{wr:Bool}{o:Oper}{ρ:Operand->Value}{w:World}{K:Value->Prop}(h:zpf P wr o ρ w K):∃v,Gives P o ρ w v/\K v:=by
  unfold zpf at h
  split at h
  case h_7=>exact QU w h
  ·rename_i t x ho
   obtain⟨v,h1,h2⟩:=zhj h
   exact⟨v,Gives.of (s:=Instr.loadAt t (ρ x)) (by simp[execOp,ho]) (fun w' hw=>h1 w' (by simpa only[ldB,ho]using hw)),h2⟩
  ·rename_i t x i ho
   obtain⟨v,h1,h2⟩:=zfn (w:=w) h
   exact⟨v,Gives.of (s:=Instr.indexAt t (ρ x) (ρ i)) (by simp[execOp,ho]) (fun w' _=>h1 w'),h2⟩
  ·rename_i t x i ho
   obtain⟨v,h1,h2⟩:=zlp (w:=w) h
   exact⟨v,Gives.of (s:=Instr.index t (ρ x) (ρ i)) (by simp[execOp,ho]) (fun w' _=>h1 w'),h2⟩
  ·rename_i t x lo hi mx ho
   split at h
   ·exact QU w h
   ·rename_i hna
    obtain⟨v,h1,h2⟩:=zkq (w:=w) h
    refine⟨v,Gives.of (s:=Instr.sliceAt t (ρ x) (lo.map ρ) (hi.map ρ) (mx.map ρ)) (by simp[execOp,ho]) (fun w' hw=> ?_),h2⟩
    rw[<-h1 w']
    cases hu:P.underlying t with
    |none=>
     simp[Instr.sliceAt,Instr.slice,underlying,hu]
    |some d=>
     simp only[Instr.sliceAt,Sem.run_bind,run_underlying hu,Result.andThen]
     cases d with
     |array n e=>exact(hna n e hu).elim
     |_=>rfl
  ·rename_i op t x y t' ho
   split at h
   ·rename_i b hb
    exact⟨_,znH w ho hb,h⟩
   ·exact zqz w ho h
  ·rename_i s d x ho
   split at h
   case h_2=>exact h.elim
   rename_i sd hs
   exact znw w ho (by simp[hs]) h
def New(w:World)(o:Obj)(b:Nat)(w1:World):Prop:=b=w.heap.size/\w1=w.alloc o
def Stored(w:World)(p:Addr)(v:Value)(w1:World):Prop:=w1=w.setCell p v
def zal(P:Program)(t:TypeId):Option Value:=(P.info? t).bind (·.zero)
def zvq:Value->Bool
  | .agg _=>false
  | .tuple _=>false
  |_=>true
def zaU(b o:Nat):Nat->List Value->World->(World->Prop)->Prop
  |_,[],w,K=>K w
  |i,v::vs,w,K=>zvq v=true/\(∃old,w.cell? ⟨b,zuu o i,none⟩=some old)/\w.frozen? ⟨b,zuu o i,none⟩=false/\
   ∀w1,Stored w ⟨b,zuu o i,none⟩ v w1->zaU b o (i+1) vs w1 K
structure CallSpec where
  G:Type
  args:G->Array Value
  pre:G->World->Prop
  X:Type
  res:X->Value
  post:G->World->X->World->Prop
def CallSpec.Ok(P:Program)(f:FuncId)(s:CallSpec):Prop:=
  ∀g w,s.pre g w->Calls P f (s.args g) w fun e w'=>∃x,e= .returned (s.res x)/\s.post g w x w'/\KO w w'
def QB(sp:List (Nat×CallSpec))(f:Nat):Option CallSpec:=match sp with
  |[]=>none
  |(g,s)::rest=>match Nat.beq g f with
   |true=>some s
   |false=>QB rest f
def ztR(sp:List (Nat×CallSpec))(f:FuncId)(args:Array Value)(w:World)(K:Value->World->Prop):Prop:=
  match QB sp f with
  |some s=>∃g:s.G,args=s.args g/\ZW (s.pre g w)/\∀(x:s.X) (w':World),ZW (s.post g w x w')->K (s.res x) w'
  |none=>False
def zj5(P:Program)(gf:FuncId):Prop:=∀(xs:Array Value) (w:World),(callFunc gf xs).run P w= .ok (.enter gf xs) w
def zzx(P:Program)(gf:FuncId)(args:Array Value)(w:World)(R:Bool->World->Prop):Prop:=
  zj5 P gf/\Calls P gf args w fun e w'=>∃b,e= .returned (.bool b)/\R b w'/\KO w w'
def zzw(P:Program)(gf:FuncId)(args:Array Value)(w:World)(R:World->Prop):Prop:=
  zj5 P gf/\Calls P gf args w fun e w'=>e= .returned (.tuple #[])/\R w'/\KO w w'
def zza(P:Program)(t:TypeId)(f:Value)(args:Array Value)(w:World)(K:Value->World->Prop):Prop:=
  match f with
  | .func (.func gf) ⟨[]⟩ caps=>match P.underlying t with
    |some .bool=>∃R:Bool->World->Prop,ZW (zzx P gf (args++caps) w R)/\∀(b:Bool) (w':World),ZW (R b w')->K (.bool b) w'
    |some (.tuple ⟨[]⟩)=>∃R:World->Prop,ZW (zzw P gf (args++caps) w R)/\∀(w':World),ZW (R w')->K (.tuple #[]) w'
    |_=>False
  |_=>False
def zy9(sp:List (Nat×CallSpec)):Bool:=match QB sp 999999 with
  |some _=>true
  |none=>false
def zy8(sp:List (Nat×CallSpec))(ρ:Operand->Value):Callee->Option Value
  | .value (.tmp d)=>(match zy9 sp with|true=>some (ρ (.tmp d))|false=>none)
  |_=>none
def Qu(z:Array Value)(n:Nat):Array Value:=(Array.range (n*z.size)).map fun i=>z[i%z.size]!
def zhg(P:Program)(t:TypeId)(l c:Value)(w:World)(K:Value->World->Prop):Prop:=
  match P.underlying t with
  |some (.slice e)=>match P.info? e with
   |some inf=>match inf.zero with
    |some z=>match l,c with
     | .int _ lv, .int _ cv=>if inf.size=z.cells.size/\0<inf.size then ∃n m:Nat,lv=(n:Int)/\cv=(m:Int)/\n<=m/\inf.bytes*m<=281474976710656/\m<=9223372036854775807/\
         ∀b w1,New w (.cells (Qu z.cells m) e) b w1->K (.slice (some ⟨b,0,none⟩) n m) w1 else False
     |_,_=>False
    |none=>False
   |none=>False
  |_=>False
def zA(P:Program)(ts:Array TypeId)(t:TypeId)(s x:Value)(w:World)(a':Option Addr)(n' c':Nat)(w':World):Prop:=
  (Builtin.append_ ts t #[s,x]).run P w= .ok (.slice a' n' c') w'
def zp4:Value->Nat
  | .slice _ n _=>n
  | .string s=>s.size
  | .int _ n=>n.toNat
  |_=>0
def zwN(P:Program)(ts:Array TypeId)(t:TypeId)(s x:Value)(w:World)(K:Value->World->Prop):Prop:=
  ∃(a':Option Addr) (c':Nat) (w':World),zA P ts t s x w a' (zp4 s+zp4 x) c' w'/\ZW (KO w w')/\K (.slice a' (zp4 s+zp4 x) c') w'
def zcU(P:Program)(ts:Array TypeId)(t:TypeId)(s x:Value)(w:World)(n:Nat)(w':World):Prop:=
  (Builtin.copy_ ts t #[s,x]).run P w= .ok (.int .i64 (n:Int)) w'
def zzc(P:Program)(ts:Array TypeId)(t:TypeId)(s x:Value)(w:World)(K:Value->World->Prop):Prop:=
  ∃(n:Nat) (w':World),zcU P ts t s x w n w'/\ZW (KO w w')/\K (.int .i64 (n:Int)) w'
def zee(P:Program)(ts:Array TypeId)(t:TypeId)(s:Value)(w w':World):Prop:=
  (Builtin.clear_ ts t #[s]).run P w= .ok (.tuple #[]) w'
def zyo(P:Program)(ts:Array TypeId)(t:TypeId)(s:Value)(w:World)(K:Value->World->Prop):Prop:=
  ∃(w':World),zee P ts t s w w'/\ZW (KO w w')/\K (.tuple #[]) w'
def zhI(P:Program)(t:TypeId)(len:Nat)(parts:Array (Nat×Value)):Option (TypeId×Array Value):=
  match P.underlying t with
  |some (.slice e)=>match P.info? e with
   |some inf=>match inf.zero with
    |some z=>if len*inf.size<=16777216 then(match Instr.fill (fun i=>some (i*inf.size,inf.size)) ((Array.range (len*inf.size)).map fun i=>z.cells[i%z.cells.size]!) parts.toList with
     |some cs=>some (e,cs)
     |none=>none)else none
    |none=>none
   |none=>none
  |_=>none
def Zz(w:World)(ad:Option Addr)(n:Nat)(s:ByteArray):Prop:=
  s.size=n/\(n=0\/∃b o,ad=some ⟨b,o,none⟩/\∀j,j<n->w.cell? ⟨b,o+j,none⟩=some (.int .u8 ((s.data.toList.getD j 0).toNat:Int)))
def zac(w:World)(ad:Option Addr)(n:Nat)(zs:List Int):Prop:=
  zs.length=n/\(n=0\/∃b o,ad=some ⟨b,o,none⟩/\∀j,j<n->w.cell? ⟨b,o+j,none⟩=some (.int .i32 (zs.getD j 0)))
def zhO(w:World)(s:ByteArray)(e:TypeId)(c b:Nat)(w1:World):Prop:=
  (ZI s).length<=c/\c<=maxLen/\b=w.heap.size/\w1=w.drew.alloc (.cells (ZI s++List.replicate (c - (ZI s).length) (Value.int .i32 0)).toArray e)
def zuv(w:World)(s:ByteArray)(c b:Nat)(w1:World):Prop:=
  s.size<=c/\c<=maxLen/\b=w.heap.size/\w1.heap.size=w.heap.size+1/\Below w.heap.size w w1/\∀j,j<s.size->w1.cell? ⟨b,j,none⟩=some (.int .u8 ((s.data.toList.getD j 0).toNat:Int))
structure Marked(w:World)(b:Nat)(w1:World):Prop where
  size:w1.heap.size=w.heap.size
  other:∀k,k≠b->w1.heap[k]? =w.heap[k]?
  at_:∀cs t m,w.heap[b]? =some (.cells cs t m)->∃m',w1.heap[b]? =some (.cells cs t m')
  below:∀B,B<=b->Below B w w1
def zhe(w:World)(b:Nat):World:=match w.shape? b with
  |some (_,n)=>w.freeze ⟨b,n,none⟩ 1
  |none=>w
theorem zd0(w:World)(b n k:Nat)(h:k≠b):(w.freeze ⟨b,n,none⟩ 1).heap[k]? =w.heap[k]? :=by
  unfold World.freeze
  rw[if_neg (by decide)]
  show(w.heap.modify b _)[k]? =_
  rw[Array.getElem?_modify,if_neg (fun e=>h e.symm)]
theorem ze6(w:World)(b n:Nat):(w.freeze ⟨b,n,none⟩ 1).heap.size=w.heap.size:=by
  unfold World.freeze
  rw[if_neg (by decide)]
  show(w.heap.modify b _).size=_
  rw[Array.size_modify]
theorem zqg(w:World)(b n:Nat){cs:Array Value}{t:TypeId}{m:Nat×Nat}(h:w.heap[b]? =some (.cells cs t m)):∃m',(w.freeze ⟨b,n,none⟩ 1).heap[b]? =some (.cells cs t m'):=by
  unfold World.freeze
  rw[if_neg (by decide)]
  show ∃m',(w.heap.modify b _)[b]? =_
  rw[Array.getElem?_modify,if_pos rfl,h]
  exact⟨_,rfl⟩
theorem zhd(w:World)(b:Nat):Marked w b (zhe w b):=by
  unfold zhe
  split
  ·rename_i e n _
   refine⟨ze6 w b n,fun k hk=>zd0 w b n k hk,fun cs t m h=>zqg w b n h,fun B hB=>⟨?_,?_,?_,Nat.le_of_eq (ze6 w b n).symm,fun k hk=>zd0 w b n k (by omega)⟩⟩<;>
     (unfold World.freeze;rw[if_neg (by decide)])
  ·exact⟨rfl,fun _ _=>rfl,fun cs t m h=>⟨m,h⟩,fun B _=>Below.refl B w⟩
theorem zsJ(w:World)(b:Nat):KO w (zhe w b):=
  ⟨Nat.le_of_eq (zhd w b).size.symm,fun k o _ hk ho=>by
    by_cases e:k=b
    ·subst e
     have:w.shape? k=none:=by
       unfold World.shape?
       rw[hk]
       cases o<;>first|rfl|(simp[zdY]at ho)
     unfold zhe
     rw[this];exact hk
    ·rw[(zhd w b).other k e];exact hk⟩
theorem zrM{P:Program}(w:World)(a:Addr):(markStringish a).run P w= .ok () (zhe w a.block):=by
  unfold zhe
  cases h:w.shape? a.block with
  |none=>simp[markStringish,h]
  |some p=>simp[markStringish,h]
def zrf(P:Program)(wr:Bool)(o:Oper)(ρ:Operand->Value)(s d:TypeId)(x:Value)(w:World)(K:Value->World->Prop):Prop:=
  match P.underlying s,P.underlying d with
  |some .string,some (.slice e)=>match P.underlying e,x with
   |some (.int .i32), .string str=>ZW ((ZI str).length<=70368744177664)/\∀c b w1,ZW (zhO w str e c b w1)->K (.slice (some ⟨b,0,none⟩) (ZI str).length c) w1
   |some (.int .u8), .string str=>ZW (str.size<=70368744177664)/\∀c b w1,ZW (zuv w str c b w1)->K (.slice (some ⟨b,0,none⟩) str.size c) w1
   |_,_=>False
  |some (.slice e),some .string=>match P.underlying e,x with
   |some (.int .u8), .slice ad n c=>∃str:ByteArray,ZW (Zz w ad n str)/\K (.string str) w
   |some (.int .i32), .slice ad n c=>∃zs:List Int,ZW (zac w ad n zs)/\K (.string (runesBytes zs)) w
   |_,_=>False
  |some (.slice _),some (.slice e)=>match Nat.beq s d,P.underlying e,x with
   |true,some (.int .u8), .slice (some a) n c=>∀w1,ZW (Marked w a.block w1)->K (.slice (some a) n c) w1
   |_,_,_=>False
  |_,_=>zpf P wr o ρ w fun v=>K v w
def zyC(w:World)(r:Nat)(s:ByteArray)(i:Nat)(w1:World):Prop:=w1=w.putObj r (.stringIter s (i+Qh s i))
def zsB(it:Value)(str:Bool)(w:World)(K:Value->World->Prop):Prop:=match str with
  |true=>match it with
   | .pointer p=>zr p fun r o=>match o with
     |0=>∃(s:ByteArray) (i:Nat),ZW (w.heap[r]? =some (.stringIter s i))/\zc (decide (i<s.size)) (∀w1,ZW (zyC w r s i w1)->K (.tuple #[.bool true, .int .i64 (i:Int), .int .i32 (dcR s i)]) w1) (K (.tuple #[.bool false]) w)
     |_+1=>False
   |_=>False
  |false=>False
def zic(P:Program)(t:TypeId)(x:Value)(w:World)(K:Value->World->Prop):Prop:=match P.underlying t with
  |some .string=>match x with
   | .string s=>∀b w1,New w (.stringIter s 0) b w1->K (.pointer (some ⟨b,0,none⟩)) w1
   |_=>False
  |_=>False
theorem zmh{P:Program}{wr:Bool}{o:Oper}{ρ:Operand->Value}{s d:TypeId}{x:Operand}{w:World}{K:Value->World->Prop}(ho:o.op= .convert s d x)(h:zrf P wr o ρ s d (ρ x) w K):
    (∃v w1,(convert s d (ρ x)).run P w= .ok v w1/\K v w1/\KO w w1)\/∃v,Gives P o ρ w v/\K v w:=by
  unfold zrf at h
  split at h
  case h_4=>exact .inr (zcA h)
  case h_3=>
    rename_i e0 e hs hd
    left
    split at h
    case h_2=>exact h.elim
    rename_i a n c hsd he hx
    have hsd:s=d:=Nat.eq_of_beq_eq_true hsd
    subst hsd
    refine⟨_,_,?_,h (zhe w a.block) (zhd w a.block),zsJ w a.block⟩
    rw[hx]
    have he0:e0=e:=by rw[hs]at hd;cases hd;rfl
    subst he0
    simp[convert,run_underlying hs,run_underlying he,zrM]
  ·rename_i e hs hd
   left
   split at h
   case h_3=>exact h.elim
   case h_2=>
     rename_i str he hx
     obtain⟨hlen,hk⟩:=h
     have hx2:Below w.heap.size w (w.drew.alloc (.cells (bytesRow str (grownCap w str.size 0 e)) e ((bytesRow str (grownCap w str.size 0 e)).size,(bytesRow str (grownCap w str.size 0 e)).size+1))):=((Below.refl w.heap.size w).drew).alloc (Nat.le_refl _) _
     refine⟨_,_,by rw[hx];exact run_bytes_of_string (P:=P) w s d e str hs hd he,hk _ _ _ ⟨grownCap_ge _ _ _ _,grownCap_le_maxLen _ _ _ _ (by unfold maxLen;omega),rfl,by show(w.heap.push _).size=_;simp,hx2,fun j hj=> ?_⟩,KO.below hx2 (Nat.le_refl _)⟩
     have hl:str.data.toList.length=str.size:=by rw[Array.length_toList];rfl
     have hg:=grownCap_ge w str.size 0 e
     simp only[World.cell?]
     rw[show(w.drew.alloc (.cells (bytesRow str (grownCap w str.size 0 e)) e ((bytesRow str (grownCap w str.size 0 e)).size,(bytesRow str (grownCap w str.size 0 e)).size+1))).heap[w.heap.size]? =some (.cells (bytesRow str (grownCap w str.size 0 e)) e ((bytesRow str (grownCap w str.size 0 e)).size,(bytesRow str (grownCap w str.size 0 e)).size+1))from heap_alloc_new w.drew _]
     have h1:j<str.data.size:=hj
     show(bytesRow str _)[j]? =_
     unfold bytesRow
     rw[Array.getElem?_append_left (by rw[Array.size_map];exact h1),Array.getElem?_map,Array.getElem?_eq_getElem h1,List.getD_eq_getElem?_getD,List.getElem?_eq_getElem (by rw[hl];exact hj)]
     rfl
   rename_i str he hx
   obtain⟨hlen,hk⟩:=h
   have hlen':(Conv.runesFrom str str.size 0 #[]).size<=70368744177664:=by simpa[ZI]using hlen
   have hr:=run_runes_of_string (P:=P) w s d e str hs hd he hlen'
   have hn:(ZI str).length=(Conv.runesFrom str str.size 0 #[]).size:=by simp[ZI]
   refine⟨_,_,by rw[hx];exact hr,?_,KO.below (((Below.refl w.heap.size w).drew).alloc (Nat.le_refl _) _) (Nat.le_refl _)⟩
   rw[<-hn]
   refine hk _ _ _ ⟨by rw[hn];exact grownCap_ge _ _ _ _,grownCap_le_maxLen _ _ _ _ (by rw[hn];unfold maxLen;omega),rfl,?_⟩
   congr 2
   apply Array.ext'
   simp[ZI]
  ·rename_i e hs hd
   left
   split at h
   case h_3=>exact h.elim
   ·rename_i ad n c he hx
    obtain⟨str,⟨hn,hc⟩,hk⟩:=h
    refine⟨_,w,?_,hk,KOE.refl _ _⟩
    rw[hx]
    rcases ad with _|a
    ·have hn0:n=0:=by
       rcases hc with hc|⟨_,_,hc,_⟩
       ·exact hc
       ·cases hc
     have hstr:str= .empty:=by
       have:str.size=0:=by omega
       obtain⟨⟨l⟩⟩:=str
       have hl:l.length=0:=this
       have hl:l=[]:=List.eq_nil_of_length_eq_zero hl
       subst hl;rfl
     rw[run_convert_bytes_string w s d e none n c hs he hd,hstr];rfl
    ·subst hn
     have hl:str.data.toList.length=str.size:=by rw[Array.length_toList];rfl
     have:=run_convert_bytes_back (P:=P) w s d e a c str.data.toList hs he hd (fun j hj=>by
       rcases hc with hc|⟨b,o',hc,hcc⟩
       ·omega
       ·cases hc
        have:=hcc j (by omega)
        rw[add_lit,this,List.getD_eq_getElem?_getD,List.getElem?_eq_getElem hj];rfl)
     rw[hl]at this
     rw[this]
   ·rename_i ad n c he hx
    obtain⟨zs,⟨hn,hc⟩,hk⟩:=h
    refine⟨_,w,?_,hk,KOE.refl _ _⟩
    rw[hx]
    rcases ad with _|a
    ·have hn0:n=0:=by
       rcases hc with hc|⟨_,_,hc,_⟩
       ·exact hc
       ·cases hc
     have hz:zs=[]:=List.eq_nil_of_length_eq_zero (by omega)
     rw[run_convert_runes_nil w s d e n c hs he hd,hz];rfl
    ·subst hn
     have:=run_convert_runes (P:=P) w s d e a zs.length c zs (Nat.le_refl _) hs he hd (fun j hj=>by
       rcases hc with hc|⟨b,o',hc,hcc⟩
       ·omega
       ·cases hc
        rw[add_lit,hcc j (by omega)])
     rw[this,List.take_length]
theorem KO.putObj{w:World}{r:Nat}{o o':Obj}(ho:w.heap[r]? =some o)(hr:zdY o=false):KO w (w.putObj r o'):=
  ⟨by simp,fun k x _ hk hx=>by
    by_cases e:k=r
    ·subst e;rw[ho]at hk;cases hk;rw[hr]at hx;cases hx
    ·exact(World.putObj_heap_other e).trans hk⟩
theorem zm1{P:Program}{t:TypeId}{it:Value}{str:Bool}{w:World}{K:Value->World->Prop}(h:zsB it str w K):∃v w1,(Instr.next it str t).run P w= .ok v w1/\K v w1/\KO w w1:=by
  unfold zsB at h
  split at h
  case h_2=>exact h.elim
  split at h
  case h_2=>exact h.elim
  obtain⟨r,o,rfl,h1⟩:=zaz h
  clear h
  split at h1
  case h_2=>exact h1.elim
  obtain⟨s,i,ho,h⟩:=h1
  by_cases hi:i<s.size
  ·rw[decide_eq_true hi]at h
   refine⟨_,_,?_,h _ rfl,KO.putObj ho rfl⟩
   simp[Instr.next,getObj,setObj,Sem.run,ho,hi,goInt,World.putObj,Qh,dcR]
  ·rw[decide_eq_false hi]at h
   refine⟨_,_,?_,h,KOE.refl _ _⟩
   simp[Instr.next,getObj,Sem.run,ho,hi]
def opE(P:Program)(sp:List (Nat×CallSpec))(wr:Bool)(o:Oper)(ρ:Operand->Value)(w:World)(K:Value->World->Prop):Prop:=
  match o.op with
  | .defer _=>False
  | .alloc t=>match zal P t with
    |some z=>∀b w1,New w (.cells z.cells t) b w1->K (.pointer (some ⟨b,0,none⟩)) w1
    |none=>False
  | .box t x=>∀b w1,New w (.cells (ρ x).cells t) b w1->K (.pointer (some ⟨b,0,none⟩)) w1
  | .buildSlice t len parts=>match zhI P t len (parts.map fun(i,x)=>(i,ρ x))with
    |some (e,cs)=>∀b w1,New w (.cells cs e) b w1->K (.slice (some ⟨b,0,none⟩) len len) w1
    |none=>False
  | .makeSlice t l c=>zhg P t (ρ l) (ρ c) w K
  | .store t x v=>match ρ x with
    | .pointer p=>if(ρ v).cells.size=P.cellsOf t/\(P.info? t).isSome then zr p fun b off=>zaU b off 0 (ρ v).cells.toList w fun w1=>K undef w1 else False
    |_=>False
  | .call c=>match c.callee with
    | .builtin .append=>match c.args.map ρ with
      |⟨[s,x]⟩=>zwN P c.argTypes o.type s x w K
      |_=>False
    | .builtin .copy=>match c.args.map ρ with
      |⟨[s,x]⟩=>zzc P c.argTypes o.type s x w K
      |_=>False
    | .builtin .clear=>match c.args.map ρ with
      |⟨[s]⟩=>zyo P c.argTypes o.type s w K
      |_=>False
    |_=>match zy8 sp ρ c.callee with
     |some f=>zza P o.type f (c.args.map ρ) w K
     |none=>match zaI P (execOp ρ o)with
      |some (.value v)=>zho v fun v=>K v w
      |some (.enter f args)=>ztR sp f args w K
      |_=>False
  | .convert s d x=>zrf P wr o ρ s d (ρ x) w K
  | .range t x=>zic P t (ρ x) w K
  | .next it str=>zsB (ρ it) str w K
  |_=>zpf P wr o ρ w fun v=>K v w
theorem zbm{P:Program}{t:TypeId}{z:Value}(h:zal P t=some z)(w:World):(zeroValue t).run P w= .ok z w:=by
  unfold zal at h
  cases hi:P.info? t with
  |none=>simp[hi]at h
  |some i=>simp[hi]at h;simp[zeroValue,typeInfo,hi,h]
theorem zdj{P:Program}{b o:Nat}:∀(vs:List Value) (i:Nat) (w:World) (K:World->Prop),zaU b o i vs w K->∃w',(storeCells ⟨b,o,none⟩ vs i).run P w= .ok () w'/\K w'/\KO w w'
  |[],i,w,K,h=>⟨w,rfl,h,KOE.refl _ _⟩
  |v::vs,i,w,K,h=>by
   obtain⟨h1,⟨old,h2⟩,h3,h4⟩:=h
   rw[zed]at h2 h3 h4
   obtain⟨w',h5,h6,h7⟩:=zdj (P:=P) vs (i+1) _ K (h4 _ rfl)
   refine⟨w',?_,h6,(KO.setCell _ _ _).trans h7⟩
   have hone:v.oneCell'=true:=by cases v<;>simp_all[zvq,Value.oneCell']
   simp[storeCells,add_lit,run_store P w _ v _ hone,h2,h3,h5]
theorem znz{P:Program}{sp:List (Nat×CallSpec)}(hsp:∀f s,QB sp f=some s->s.Ok P f){f:FuncId}{args:Array Value}{w:World}{K:Value->World->Prop}(h:ztR sp f args w K):
    Calls P f args w fun e w'=>∃v,e= .returned v/\K v w'/\KO w w':=by
  unfold ztR at h
  split at h
  case h_2=>exact h.elim
  rename_i s hs
  obtain⟨g,e1,hp,hk⟩:=h
  rw[e1]
  exact(hsp f s hs g w hp).mono fun e w' ⟨x,hx,hq,ho⟩=>⟨_,hx,hk x w' hq,ho⟩
theorem zd{n:Int}(h1: -9223372036854775808<=n)(h2:n<=9223372036854775807):InR .i64 n:=⟨h1,h2⟩
theorem qF{n:Int}(h1: -2147483648<=n)(h2:n<=2147483647):InR .i32 n:=⟨h1,h2⟩
theorem zx9{n:Int}(h1: -128<=n)(h2:n<=127):InR .i8 n:=⟨h1,h2⟩
theorem Q0{n:Int}(h1:0<=n)(h2:n<=255):InR .u8 n:=⟨h1,h2⟩
theorem zsm{P:Program}{sp:List (Nat×CallSpec)}(hsp:∀f s,QB sp f=some s->s.Ok P f){wr:Bool}{o:Oper}{ρ:Operand->Value}{a:Act}(ha:a.eval=ρ){w:World}{K:Value->World->Prop}{K2:Act->World->Prop}{Q:Exit->Act->World->Prop}
    (hK:∀v w',K v w'->KO w w'->K2 (a.put o.dst v) w') (h:opE P sp wr o ρ w K):o.wp P a w K2 Q:=by
  have gv:∀{K':Value->Prop},(∀v,K' v->K v w)->(∃v,Gives P o ρ w v/\K' v)->o.wp P a w K2 Q:=by
    rintro K' hK' ⟨v,h1,h2⟩
    unfold Oper.wp
    rw[ha,h1 w (SeesB.refl _ w)]
    exact hK _ _ (hK' v h2) (KOE.refl _ _)
  have run1:∀{s:Sem Value} {v:Value} {w1:World},execOp ρ o=(do pure (.value (<-s)))->s.run P w= .ok v w1->K v w1->KO w w1->o.wp P a w K2 Q:=by
    intro s v w1 he hr hk hko
    unfold Oper.wp
    rw[ha,he]
    simp only[Sem.run_bind,hr,Result.andThen,Sem.run_pure]
    exact hK _ _ hk hko
  unfold opE at h
  split at h
  case h_11=>exact gv (fun v hv=>hv) (zcA h)
  case h_8=>
    rename_i s d x ho
    rcases zmh ho h with⟨v,w1,hr,hk,hko⟩|hg
    ·exact run1 (s:=convert s d (ρ x)) (by simp[execOp,ho]) hr hk hko
    ·exact gv (fun v hv=>hv) hg
  case h_9=>
    rename_i t x ho
    unfold zic at h
    split at h
    case h_2=>exact h.elim
    rename_i hu
    split at h
    case h_2=>exact h.elim
    rename_i s hx
    refine run1 (s:=Instr.range t (ρ x)) (by simp[execOp,ho]) ?_ (h _ _ ⟨rfl,rfl⟩) (KO.alloc _ _)
    rw[hx]
    simp[Instr.range,run_underlying hu]
  case h_10=>
    rename_i it str ho
    obtain⟨v,w1,hr,hk,hko⟩:=zm1 (P:=P) (t:=o.type) h
    exact run1 (s:=Instr.next (ρ it) str o.type) (by simp[execOp,ho]) hr hk hko
  ·exact h.elim
  ·rename_i t ho
   split at h
   case h_2=>exact h.elim
   rename_i z hz
   refine run1 (s:=Instr.alloc t true (.tuple #[])) (by simp[execOp,ho]) ?_ (h _ _ ⟨rfl,rfl⟩) (KO.alloc _ _)
   simp[Instr.alloc,zbm hz,newVar,newRow]
  ·rename_i t x ho
   refine run1 (s:=Instr.box t (ρ x)) (by simp[execOp,ho]) ?_ (h _ _ ⟨rfl,rfl⟩) (KO.alloc _ _)
   simp[Instr.box,newVar,newRow]
  ·rename_i t len parts ho
   split at h
   case h_2=>exact h.elim
   rename_i e cs hb
   refine run1 (s:=Instr.buildSlice t len (parts.map fun(i,x)=>(i,ρ x))) (by simp[execOp,ho]) ?_ (h _ _ ⟨rfl,rfl⟩) (KO.alloc _ _)
   unfold zhI at hb
   split at hb<;>try contradiction
   rename_i e' hu
   split at hb<;>try contradiction
   rename_i inf hinf
   split at hb<;>try contradiction
   rename_i z hz
   split at hb<;>try contradiction
   rename_i hle
   split at hb<;>try contradiction
   rename_i cs' hf
   simp only[Option.some.injEq,Prod.mk.injEq]at hb
   obtain⟨rfl,rfl⟩:=hb
   have hz':zal P e'=some z:=by simp[zal,hinf,hz]
   have hsz:∀w,(sizeOf e').run P w= .ok inf.size w:=fun w=>by simp[sizeOf,typeInfo,hinf]
   have hg:¬(len*inf.size>2^24):=by omega
   simp only[Instr.buildSlice,Sem.run_bind,run_underlying hu,Result.andThen,hsz]
   rw[if_neg hg]
   by_cases hne:len*inf.size=0
   ·have e1:∀f:Nat->Value,(Array.range (len*inf.size)).map f= #[]:=fun f=>by rw[hne,show Array.range 0= #[]from Array.eq_empty_of_size_eq_zero (by simp),Array.map_empty]
    rw[e1]at hf
    simp only[Sem.run_pure,Result.andThen,if_pos hne,Sem.run_bind,e1,hf]
    simp[newRow]
   ·simp only[Sem.run_pure,Result.andThen,if_neg hne,Sem.run_bind,zbm hz',hf]
    simp[newRow]
  ·rename_i t l c ho
   unfold zhg at h
   split at h
   case h_2=>exact h.elim
   rename_i e hu
   split at h
   case h_2=>exact h.elim
   rename_i inf hinf
   split at h
   case h_2=>exact h.elim
   rename_i z hz
   split at h
   case h_2=>exact h.elim
   rename_i k1 lv k2 cv hl hc
   split at h
   case isFalse=>exact h.elim
   rename_i hsz0
   obtain⟨n,m,rfl,rfl,h1,h2,h3,h4⟩:=h
   refine run1 (s:=Instr.makeSlice t (ρ l) (ρ c)) (by simp[execOp,ho]) ?_ (h4 _ _ ⟨rfl,rfl⟩) (KO.alloc _ _)
   rw[hl,hc]
   have hz':zal P e=some z:=by simp[zal,hinf,hz]
   have hwn:IntKind.i64.wrap (n:Int)=n:=InR.wrap (zd (by omega) (by omega))
   have hwm:IntKind.i64.wrap (m:Int)=m:=InR.wrap (zd (by omega) (by omega))
   have hb:¬((inf.bytes:Int)*(m:Int)>2^48):=by
     have:((inf.bytes*m:Nat):Int)<=281474976710656:=by omega
     rw[Int.natCast_mul]at this
     omega
   have hneg:¬((m:Int)<0):=by omega
   have hneg':¬((n:Int)<0):=by omega
   have hgt:¬((n:Int)>(m:Int)):=by omega
   simp only[Instr.makeSlice,Sem.run_bind,run_underlying hu,Result.andThen,asInt,asIntOf,Sem.run_pure,typeInfo,run_program,hinf,hwn,hwm]
   simp only[hb,hneg,hneg',hgt,decide_false,Bool.or_self,Bool.false_eq_true,if_false]
   by_cases hm0:m*inf.size=0
   ·simp[sizeOf,typeInfo,hinf,hm0,newRow,Qu]
    have:m=0:=by rcases Nat.mul_eq_zero.1 hm0 with h|h<;>omega
    subst this;rw[Nat.zero_mul,show Array.range 0= #[]from Array.eq_empty_of_size_eq_zero (by simp),Array.map_empty,Array.map_empty]
   ·simp[sizeOf,typeInfo,hinf,newRow,Qu,zbm hz',hsz0.1]
    intro hh
    exact absurd (by rw[hsz0.1];exact hh) hm0
  ·rename_i t x v ho
   split at h
   case h_2=>exact h.elim
   rename_i p hx
   split at h
   case isFalse=>exact h.elim
   rename_i hc
   obtain⟨b,off,rfl,h⟩:=zaz h
   obtain⟨w',h5,h6,h7⟩:=zdj (P:=P) _ _ _ _ h
   obtain⟨inf,hinf⟩:=Option.isSome_iff_exists.1 hc.2
   have hsz:∀w,(sizeOf t).run P w= .ok (P.cellsOf t) w:=fun w=>by simp[sizeOf,typeInfo,hinf,Program.cellsOf]
   unfold Oper.wp
   rw[ha]
   have:(execOp ρ o).run P w= .ok .skip w':=by
     simp[execOp,ho,Instr.storeAt,hx,Instr.sureAddr,storeVar,hsz,hc.1,h5]
   rw[this]
   exact hK _ _ h6 h7
  ·rename_i c ho
   split at h
   ·rename_i hcal
    split at h
    case h_2=>exact h.elim
    rename_i s x hargs
    obtain⟨a',c',w',h1,ho',h2⟩:=h
    refine run1 (s:=Builtin.append_ c.argTypes o.type #[s,x]) ?_ h1 h2 ho'
    simp[execOp,ho,resolve,hcal,invoke,builtin,hargs]
   ·rename_i hcal
    split at h
    case h_2=>exact h.elim
    rename_i s x hargs
    obtain⟨n,w',h1,ho',h2⟩:=h
    refine run1 (s:=Builtin.copy_ c.argTypes o.type #[s,x]) ?_ h1 h2 ho'
    simp[execOp,ho,resolve,hcal,invoke,builtin,hargs]
   ·rename_i hcal
    split at h
    case h_2=>exact h.elim
    rename_i s hargs
    obtain⟨w',h1,ho',h2⟩:=h
    refine run1 (s:=Builtin.clear_ c.argTypes o.type #[s]) ?_ h1 h2 ho'
    simp[execOp,ho,resolve,hcal,invoke,builtin,hargs]
   ·split at h
    ·rename_i f hf
     unfold zy8 at hf
     split at hf
     case h_2=>cases hf
     rename_i d hcal
     split at hf
     case h_2=>cases hf
     simp only[Option.some.injEq]at hf
     unfold zza at h
     split at h
     case h_2=>exact h.elim
     rename_i gf caps
     have hen:zj5 P gf->(execOp ρ o).run P w= .ok (.enter gf (c.args.map ρ++caps)) w:=fun hc=>by
       simp[execOp,ho,resolve,hcal,hf,Deferred.ofValue,invoke,hc _ w]
     split at h
     case h_3=>exact h.elim
     ·obtain⟨R,⟨hc,hcall⟩,hk⟩:=h
      unfold Oper.wp
      rw[ha,hen hc]
      exact hcall.mono fun e w' ⟨b,he,hr,hko⟩=>by subst he;exact hK _ _ (hk b w' hr) hko
     ·obtain⟨R,⟨hc,hcall⟩,hk⟩:=h
      unfold Oper.wp
      rw[ha,hen hc]
      exact hcall.mono fun e w' ⟨he,hr,hko⟩=>by subst he;exact hK _ _ (hk w' hr) hko
    split at h
    case h_3=>exact h.elim
    ·rename_i v hv
     unfold Oper.wp
     rw[ha,zbi _ hv w]
     rw[zcJ]at h
     exact hK _ _ h (KOE.refl _ _)
    ·rename_i f args hv
     unfold Oper.wp
     rw[ha,zbi _ hv w]
     exact(znz hsp h).mono fun e w' ⟨v,he,hk,hko⟩=>by subst he;exact hK _ _ hk hko
abbrev zt(w:World)(b o:Nat)(K:Int->Prop):Prop:=∃n:Int,w.cell? ⟨b,o,none⟩=some (.int .i64 n)/\K n
abbrev zX(w:World)(k:IntKind)(b o:Nat)(K:Int->Prop):Prop:=∃n:Int,w.cell? ⟨b,o,none⟩=some (.int k n)/\K n
abbrev LdT(w:World)(b o:Nat)(K:ByteArray->Prop):Prop:=∃n:ByteArray,w.cell? ⟨b,o,none⟩=some (.string n)/\K n
abbrev ZG(w:World)(b o:Nat)(K:Bool->Prop):Prop:=∃n:Bool,w.cell? ⟨b,o,none⟩=some (.bool n)/\K n
abbrev qL(w:World)(b o:Nat)(K:Option Addr->Nat->Nat->Prop):Prop:=∃(a:Option Addr) (n c:Nat),w.cell? ⟨b,o,none⟩=some (.slice a n c)/\K a n c
abbrev qd(i:Int)(n:Nat)(K:Nat->Prop):Prop:=∃k:Nat,i=(k:Int)/\k<n/\K k
abbrev LdG(w:World)(b:Nat)(K:Int->Int->Option Addr->Nat->Nat->Int->Int->Prop):Prop:=zt w b 0 fun n=>zt w b 1 fun m=>qL w b 2 fun a k c=>zt w b 3 fun x=>zt w b 4 fun y=>K n m a k c x y
abbrev zh(w:World)(b o:Nat)(v:Value)(K:World->Prop):Prop:=true=true/\(∃old,w.cell? ⟨b,o,none⟩=some old)/\w.frozen? ⟨b,o,none⟩=false/\∀w1,Stored w ⟨b,o,none⟩ v w1->K w1
end Vc
end
end Go.Proofs.YtjdohhididpomaaGreatDoor
