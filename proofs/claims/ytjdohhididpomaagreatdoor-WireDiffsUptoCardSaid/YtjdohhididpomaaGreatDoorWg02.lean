/-
  Texts joined by program: Vr.
-/
import Derived.Test.YtjdohhididpomaaGreatDoorWg01
import Derived.Deep.LoopGhost
import Derived.OrdersIn
set_option linter.unusedVariables false
set_option linter.unusedSimpArgs false

namespace Go.Proofs.YtjdohhididpomaaGreatDoor
section
set_option linter.unusedVariables false
namespace Vc
open Go Go.RowKit
structure Fr(S:Nat->Prop)(w w':World):Prop where
  os:w'.os=w.os
  tape:w'.tape=w.tape
  output:w'.output=w.output
  size:w.heap.size<=w'.heap.size
  block:∀b,b<w.heap.size->¬S b->w'.heap[b]? =w.heap[b]?
theorem Fr.refl(S:Nat->Prop)(w:World):Fr S w w:=⟨rfl,rfl,rfl,Nat.le_refl _,fun _ _ _=>rfl⟩
theorem Fr.trans{S T:Nat->Prop}{a b c:World}(h:Fr S a b)(k:Fr T b c)(hT:∀x,x<a.heap.size->T x->S x):Fr S a c:=
  ⟨k.os.trans h.os,k.tape.trans h.tape,k.output.trans h.output,Nat.le_trans h.size k.size,fun i hi hs=>(k.block i (Nat.lt_of_lt_of_le hi h.size) (fun ht=>hs (hT i hi ht))).trans (h.block i hi hs)⟩
theorem Fr.mono{S T:Nat->Prop}{a b:World}(h:Fr S a b)(hT:∀x,x<a.heap.size->S x->T x):Fr T a b:=⟨h.os,h.tape,h.output,h.size,fun i hi hs=>h.block i hi (fun hx=>hs (hT i hi hx))⟩
theorem Fr.of_ext{S:Nat->Prop}{w w':World}(h:Below w.heap.size w w'):Fr S w w':=⟨h.os,h.tape,h.output,h.size,fun b hb _=>h.block b hb⟩
theorem Fr.ext{S:Nat->Prop}{w w':World}(h:Fr S w w')(hS:∀b,b<w.heap.size->¬S b):Below w.heap.size w w':=⟨h.os,h.tape,h.output,h.size,fun b hb=>h.block b hb (hS b hb)⟩
theorem Fr.below{S:Nat->Prop}{B:Nat}{w w':World}(h:Fr S w w')(hB:B<=w.heap.size)(hS:∀b,b<B->¬S b):Below B w w':=⟨h.os,h.tape,h.output,h.size,fun b hb=>h.block b (Nat.lt_of_lt_of_le hb hB) (hS b hb)⟩
theorem Fr.sees{N:Nat->Prop}{w w':World}{q:Option Nat}(h:Fr N w w')(hq:∀b,q=some b->¬N b):SeesB q w w':=fun b hb p v hp hv=>by
  have hlt:p.block<w.heap.size:=World.block_lt_of_cell? w p hv
  exact(World.cell?_of_block (w:=w) (h.block p.block hlt (by rw[hp];exact hq b hb))).trans hv
def nOf:Option (Nat->Prop)->Nat->Prop
  |none=>fun _=>False
  |some N=>N
structure Agree(ds:List Tmp)(a a':Act):Prop where
  size:a'.tmps.size=a.tmps.size
  defers:a'.defers=a.defers
  slot:∀i,i ∉ ds->a'.tmps[i]? =a.tmps[i]?
theorem Agree.refl(ds:List Tmp)(a:Act):Agree ds a a:=⟨rfl,rfl,fun _ _=>rfl⟩
theorem Agree.trans{d1 d2:List Tmp}{a b c:Act}(h:Agree d1 a b)(k:Agree d2 b c):Agree (d1++d2) a c:=
  ⟨k.size.trans h.size,k.defers.trans h.defers,fun i hi=>by
    simp only[List.mem_append,not_or]at hi
    exact(k.slot i hi.2).trans (h.slot i hi.1)⟩
theorem Agree.mono{d1 d2:List Tmp}{a b:Act}(h:Agree d1 a b)(hs:∀i,i∈d1->i∈d2):Agree d2 a b:=
  ⟨h.size,h.defers,fun i hi=>h.slot i fun h1=>hi (hs i h1)⟩
theorem Agree.put{a:Act}{dst:Option Tmp}{v:Value}:Agree dst.toList a (a.put dst v):=by
  cases dst with
  |none=>exact Agree.refl _ _
  |some d=>
   refine⟨by simp[Act.put],rfl,fun i hi=> ?_⟩
   simp only[Option.toList_some,List.mem_singleton]at hi
   simp only[Act.put]
   rw[Array.getElem?_setIfInBounds_ne (fun h=>hi h.symm)]
def ZU(l:List Oper):List Tmp:=match l with
  |[]=>[]
  |o::r=>(match o.dst with|none=>ZU r|some d=>d::ZU r)
abbrev qk:=List (Nat×Value)
def qx(e:qk)(t:Nat):Value:=match e with
  |[]=>undef
  |(d,v)::r=>match Nat.beq d t with|true=>v|false=>qx r t
def Zw(e:qk):Operand->Value
  | .tmp t=>qx e t
  | .const v=>v
  | .global g=> .pointer (some ⟨g,0,none⟩)
  | .func f=> .func (.func f) #[] #[]
def zao(e:qk)(dst:Option Tmp)(v:Value)(K:qk->Prop):Prop:=match dst with
  |none=>K e
  |some d=>K ((d,v)::e)
def zsw:List Oper->Nat->Option Oper
  |[],_=>none
  |o::_,0=>some o
  |_::r,n+1=>zsw r n
def ZK(l:List Oper)(j:Nat):Option Tmp:=match zsw l j with
  |some o=>o.dst
  |none=>none
def zc4(l:List Oper)(j:Nat)(b:Bool)(e:qk):qk:=match ZK l j with
  |none=>e
  |some d=>(d, .bool b)::e
def zbx(l:List Oper)(e:qk)(j:Nat):Option Bool:=match ZK l j with
  |none=>none
  |some d=>match qx e d with
   | .bool b=>some b
   |_=>none
def Rep(e:qk)(a:Act):Prop:=a.eval=Zw e
theorem zeT{i j:Nat}:(i=j/\Nat.beq i j=true)\/(i≠j/\Nat.beq i j=false):=by
  by_cases h:i=j
  ·exact .inl ⟨h,by subst h;exact Nat.beq_refl i⟩
  ·right
   refine⟨h,?_⟩
   cases hb:Nat.beq i j with
   |false=>rfl
   |true=>exact absurd (Nat.eq_of_beq_eq_true hb) h
theorem zc9{a:Act}{d:Tmp}{v:Value}(h:d<a.tmps.size):(a.put (some d) v).eval (.tmp d)=v:=by
  simp[Act.eval,Act.put,h]
theorem zcu{a:Act}{d i:Tmp}{v:Value}(h:i≠d):(a.put (some d) v).eval (.tmp i)=a.eval (.tmp i):=by
  simp only[Act.eval,Act.put,Array.getD_eq_getD_getElem?]
  rw[Array.getElem?_setIfInBounds_ne (fun e=>h e.symm)]
theorem Rep.put{e:qk}{a:Act}(h:Rep e a){d:Tmp}(hd:d<a.tmps.size)(v:Value):Rep ((d,v)::e) (a.put (some d) v):=by
  funext x
  cases x with
  |tmp t=>
   simp only[Zw,qx]
   rcases @zeT d t with⟨h1,h2⟩|⟨h1,h2⟩
   ·subst h1;simp only[h2];exact zc9 hd
   ·simp only[h2];rw[zcu (fun x=>h1 x.symm)];exact congrFun h (.tmp t)
  |_=>rfl
theorem zjK(l:List Oper)(j:Nat):zsw l j=l[j]? :=by
  induction l generalizing j with
  |nil=>rfl
  |cons o r ih=>cases j with
   |zero=>rfl
   |succ n=>simpa[zsw]using ih n
theorem zcz{ops:Array Oper}{e:qk}{a:Act}(h:Rep e a)(j:Nat):yielded ops a.tmps j=zbx ops.toList e j:=by
  unfold yielded zbx ZK
  rw[zjK,Array.getElem?_toList]
  cases ho:ops[j]? with
  |none=>simp
  |some o=>
   cases hd:o.dst with
   |none=>simp[hd]
   |some d=>
    simp only[hd,Option.bind_some]
    have hv:qx e d=a.eval (.tmp d):=(congrFun h (.tmp d)).symm
    rw[hv]
    simp only[Act.eval,Array.getD_eq_getD_getElem?]
    cases ht:a.tmps[d]? with
    |none=>rfl
    |some v=>cases v<;>rfl
theorem zeH{e:qk}{a:Act}(h:Rep e a){l:List Oper}{j:Nat}{b:Bool}(hy:zbx l e j=some b):Rep (zc4 l j b e) a:=by
  unfold zbx at hy
  unfold zc4
  cases hg:ZK l j with
  |none=>rw[hg]at hy;cases hy
  |some d=>
   rw[hg]at hy
   dsimp only at hy⊢
   have hv:qx e d= .bool b:=by
     split at hy
     ·rename_i b' hb;simp only[Option.some.injEq]at hy;rw[hb,hy]
     ·cases hy
   funext x
   rw[h]
   cases x with
   |tmp t=>
    simp only[Zw,qx]
    rcases @zeT d t with⟨h1,h2⟩|⟨h1,h2⟩
    ·subst h1;simp only[h2];exact hv
    ·simp only[h2]
   |_=>rfl
theorem zid{e:qk}{a:Act}(h:Rep e a){dst:Option Tmp}(hd:∀d,dst=some d->d<a.tmps.size){v:Value}{K:qk->Prop}(hk:zao e dst v K):∃e',Rep e' (a.put dst v)/\K e':=by
  cases dst with
  |none=>exact⟨e,h,hk⟩
  |some d=>exact⟨_,h.put (hd d rfl) v,hk⟩
abbrev WF(r:Option Nat):Fence:={Fence.wide with round:=r}
def QN(R:Act->World->Prop):Exit->Act->World->Prop:=fun x a w=>match x with| .normal=>R a w|_=>False
def zaM:Op->Bool| .defer _=>false|_=>true
theorem zlQ{r:Option Nat}{P:Program}{f:FuncId}{args:Array Value}{w:World}{R:Ending->World->Prop}(h:Calls P f args w R):CallsIn (WF r) 0 P f args w R:=
  (callsIn_wide (n:=0)).2 h
theorem rows_in{r:Option Nat}{P:Program}{row:String}{args:Array Value}{w:World}{R:Value->World->Prop}(h:Rows P row args w R):RowsIn (WF r) 0 P row args w R:=
  fun c cs _=>let⟨v,w',h1,h2⟩:=h c cs;⟨v,w',h1,stepsIn_wide.2 h2⟩
theorem zk3{r:Option Nat}{P:Program}{o:Oper}{a:Act}{w:World}{K:Act->World->Prop}{Q:Exit->Act->World->Prop}(hd:zaM o.op=true)(h:o.wp P a w K Q):o.wpIn (WF r) 0 P a w K Q:=by
  have hd':∀c,o.op≠ .defer c:=by intro c e;rw[e]at hd;cases hd
  refine⟨fun _ _=>trivial,?_⟩
  rw[Oper.semAt_eq _ _ _ hd']
  unfold Oper.wp at h
  generalize (execOp a.eval o).run P w=x at h⊢
  cases x with
  |ok n w'=>
   cases n<;>simp only[Oper.upon]at h<;>simp only[Oper.uponIn]<;>first
     |exact h
     |exact⟨(fun hh=>by cases hh),zlQ h⟩
     |exact⟨(fun hh=>by cases hh),rows_in h⟩
  |halt y w'=>cases y<;>simp only[Oper.upon]at h<;>simp only[Oper.uponIn]<;>exact h
structure YieldAnn where
  l:Nat
  Q:Type
  args:Q->List Value
  pre:Q->World->Prop
  post:Q->Bool->World->World->Prop
def zbX(P:Program)(E:Nat->Prop)(Y:YieldAnn):Prop:=
  ∀q w,Y.pre q w->YieldAt (WF none) 0 P Y.l (Y.args q).toArray w fun e w'=>∃b,e= .returned (.bool b)/\Y.post q b w w'/\KOE E w w'
def zsK(ρ:Operand->Value):List Operand->List Value
  |[]=>[]
  |x::r=>ρ x::zsK ρ r
theorem zvM(ρ:Operand->Value)(l:List Operand):zsK ρ l=l.map ρ:=by induction l with|nil=>rfl|cons x r ih=>simp[zsK,ih]
def zfq(ρ:Operand->Value)(o:Oper):Option (Nat×List Value):=match o.op with
  | .call c=>match c.callee with
    | .value f=>match ρ f with
      | .func (.yield l) ⟨[]⟩ ⟨[]⟩=>some (l,zsK ρ c.args.toList)
      |_=>none
    |_=>none
  |_=>none
def zme(Y:Option YieldAnn)(l:Nat)(args:List Value)(w:World)(K:Value->World->Prop):Prop:=match Y with
  |none=>False
  |some y=>l=y.l/\∃q:y.Q,args=y.args q/\ZW (y.pre q w)/\∀(b:Bool) (w':World),ZW (y.post q b w w')->K (.bool b) w'
theorem zo1{P:Program}{ρ:Operand->Value}{o:Oper}{l:Nat}{args:List Value}(h:zfq ρ o=some (l,args)){w:World}:zaM o.op=true/\(execOp ρ o).run P w=(Instr.yield l args.toArray).run P w:=by
  unfold zfq at h
  split at h
  case h_2=>cases h
  rename_i c ho
  split at h
  case h_2=>cases h
  rename_i f hc
  split at h
  case h_2=>cases h
  rename_i l' hf
  simp only[Option.some.injEq,Prod.mk.injEq]at h
  obtain⟨rfl,rfl⟩:=h
  refine⟨by rw[ho];rfl,?_⟩
  have e1:(zsK ρ c.args.toList).toArray=c.args.map ρ:=by apply Array.ext';simp[zvM]
  rw[e1]
  simp[execOp,ho,resolve,hc,hf,Deferred.ofValue,invoke]
theorem zmd{P:Program}{E:Nat->Prop}{Y:Option YieldAnn}(hY:∀y,Y=some y->zbX P E y){r:Option Nat}{o:Oper}{ρ:Operand->Value}{a:Act}(ha:a.eval=ρ){l:Nat}{args:List Value}{w:World}{K:Value->World->Prop}
    {K2:Act->World->Prop} {Q:Exit->Act->World->Prop} (hy:zfq ρ o=some (l,args)) (hK:∀v w',K v w'->KOE E w w'->K2 (a.put o.dst v) w') (h:zme Y l args w K):o.wpIn (WF r) 0 P a w K2 Q:=by
  unfold zme at h
  split at h
  case h_1=>exact h.elim
  rename_i y
  obtain⟨e1,q,e2,hp,hk⟩:=h
  obtain⟨fn,tmps,assign,body,hrun,hround⟩:=hY y rfl q w hp
  obtain⟨hd,hr⟩:=zo1 (P:=P) (w:=w) hy
  have hd':∀c,o.op≠ .defer c:=by intro c e;rw[e]at hd;cases hd
  refine⟨fun _ _=>trivial,?_⟩
  rw[Oper.semAt_eq _ _ _ hd',ha,hr,e2,e1,hrun]
  refine⟨(fun hh=>by cases hh),?_⟩
  refine RoundIn.mono (F:=WF r) hround ?_
  rintro e w' ⟨b,rfl,hpost,hko⟩
  exact hK _ _ (hk b w' hpost) hko
def zfp(P:Program)(sp:List (Nat×CallSpec))(Y:Option YieldAnn)(wr:Bool)(o:Oper)(ρ:Operand->Value)(w:World)(K:Value->World->Prop):Prop:=match zfq ρ o with
  |some (l,args)=>zme Y l args w K
  |none=>opE P sp wr o ρ w K
theorem zjH{P:Program}{sp:List (Nat×CallSpec)}{wr:Bool}{o:Oper}{ρ:Operand->Value}{w:World}{K:Value->World->Prop}(h:opE P sp wr o ρ w K):zaM o.op=true:=by
  unfold opE at h
  split at h
  case h_1=>exact h.elim
  all_goals simp_all[zaM]
theorem ziQ{P:Program}{sp:List (Nat×CallSpec)}(hsp:∀f s,QB sp f=some s->s.Ok P f){E:Nat->Prop}{Y:Option YieldAnn}(hY:∀y,Y=some y->zbX P E y){r:Option Nat}{wr:Bool}{o:Oper}{ρ:Operand->Value}{a:Act}(ha:a.eval=ρ){w:World}
    {K:Value->World->Prop} {K2:Act->World->Prop} {Q:Exit->Act->World->Prop} (hK:∀v w',K v w'->KOE E w w'->K2 (a.put o.dst v) w') (h:zfp P sp Y wr o ρ w K):o.wpIn (WF r) 0 P a w K2 Q:=by
  unfold zfp at h
  split at h
  ·rename_i l args hy
   exact zmd hY ha hy hK h
  ·exact zk3 (zjH h) (zsm hsp ha (fun v w' hv hko=>hK v w' hv hko.to) h)
theorem Zp{r:Option Nat}{P:Program}{ops:Array Oper}{Q:Exit->Act->World->Prop}{o:Oper}{rest:List Oper}{a:Act}{w:World}(hw:Region.wanted o (yielded ops a.tmps)=true)(h:o.wpIn (WF r) 0 P a w (wpListIn (WF r) 0 P ops Q rest) Q):
    wpListIn (WF r) 0 P ops Q (o::rest) a w:=by
  simp only[wpListIn];rw[if_pos hw];exact h
theorem ZX{r:Option Nat}{P:Program}{ops:Array Oper}{Q:Exit->Act->World->Prop}{o:Oper}{rest:List Oper}{a:Act}{w:World}(hw:Region.wanted o (yielded ops a.tmps)=false)(h:wpListIn (WF r) 0 P ops Q rest (a.put o.dst undef) w):
    wpListIn (WF r) 0 P ops Q (o::rest) a w:=by
  simp only[wpListIn];rw[if_neg (by simp[hw])];exact⟨fun _ _=>trivial,h⟩
def zxw(P:Program)(e:qk)(o:Oper)(rest:List Oper):Option (TypeId×Array Value):=
  match o.op with
  | .alloc t=>match o.dst,o.guard,rest with
    |some d,none,⟨none, .store t' (.tmp d') (.tmp v),_,_,_,none⟩::_=>
     (match Nat.beq t t'&&Nat.beq d d'&& !(Nat.beq v d)with
     |true=>(match zal P t with
      |some z=>(match(P.info? t).map (·.size),qx e v,zcq P t with
       |some n, .agg cs,some true=>(match Nat.beq z.cells.size n&&Nat.beq cs.size n&&cs.toList.all (·.oneCell')with|true=>some (t,cs)|false=>none)
       |_,_,_=>none)
      |none=>none)
     |false=>none)
    |_,_,_=>none
  |_=>none
def zdf(P:Program)(sp:List (Nat×CallSpec))(Y:Option YieldAnn)(wr:Bool)(ops:List Oper):List Oper->Bool->qk->World->(qk->World->Prop)->Prop
  |[],_,e,w,K=>K e w
  |_::rest,true,e,w,K=>zdf P sp Y wr ops rest false e w K
  |o::rest,false,e,w,K=>
   match zxw P e o rest with
   |some (t,cs)=>∀b w1,New w (.cells cs t) b w1->zao e o.dst (.pointer (some ⟨b,0,none⟩)) fun e'=>zdf P sp Y wr ops rest true e' w1 K
   |none=>
   match o.guard with
   |none=>zfp P sp Y wr o (Zw e) w fun v w'=>zao e o.dst v fun e'=>zdf P sp Y wr ops rest false e' w' K
   |some (j,want)=>match zbx ops e j with
    |some b=>zc b
       (match want with|true=>zfp P sp Y wr o (Zw e) w fun v w'=>zao (zc4 ops j true e) o.dst v fun e'=>zdf P sp Y wr ops rest false e' w' K|false=>zao (zc4 ops j true e) o.dst undef fun e'=>zdf P sp Y wr ops rest false e' w K)
       (match want with|false=>zfp P sp Y wr o (Zw e) w fun v w'=>zao (zc4 ops j false e) o.dst v fun e'=>zdf P sp Y wr ops rest false e' w' K|true=>zao (zc4 ops j false e) o.dst undef fun e'=>zdf P sp Y wr ops rest false e' w K)
    |none=>zao e o.dst undef fun e'=>zdf P sp Y wr ops rest false e' w K
theorem Qp{o:Oper}{y:Nat->Option Bool}(h:o.guard=none):Region.wanted o y=true:=by simp[Region.wanted,h]
theorem zK{o:Oper}{y:Nat->Option Bool}{j:Nat}{want:Bool}(h:o.guard=some (j,want)):Region.wanted o y=(y j==some want):=by simp[Region.wanted,h]
theorem zj2(w:World)(z cs:Array Value)(t:TypeId):(w.alloc (.cells z t)).setRow w.heap.size cs=w.alloc (.cells cs t):=by
  have hs:w.heap.size<(w.alloc (.cells z t)).heap.size:=by simp
  have hh:(w.alloc (.cells z t)).setRow w.heap.size cs={(w.alloc (.cells z t))with heap:=((w.alloc (.cells z t)).setRow w.heap.size cs).heap}:=rfl
  rw[hh]
  have:((w.alloc (.cells z t)).setRow w.heap.size cs).heap=(w.alloc (.cells cs t)).heap:=by
    apply Array.ext_getElem?
    intro k
    by_cases hk:k=w.heap.size
    ·subst hk
     rw[setRow_heap _ _ _ _ _ _ (heap_alloc_new w _),heap_alloc_new]
    ·rw[setRow_other _ _ _ _ hk]
     show(w.heap.push _)[k]? =(w.heap.push _)[k]?
     rw[Array.getElem?_push,Array.getElem?_push,if_neg hk,if_neg hk]
  rw[this]
  rfl
theorem zb4{P:Program}{o:Oper}{a:Act}{w w1:World}{v:Value}{K:Act->World->Prop}{Q:Exit->Act->World->Prop}(hr:(execOp a.eval o).run P w= .ok (.value v) w1)(hk:K (a.put o.dst v) w1):o.wp P a w K Q:=by
  unfold Oper.wp;rw[hr];exact hk
theorem zmf{P:Program}{o:Oper}{a:Act}{w w1:World}{K:Act->World->Prop}{Q:Exit->Act->World->Prop}(hr:(execOp a.eval o).run P w= .ok .skip w1)(hk:K (a.put o.dst undef) w1):o.wp P a w K Q:=by
  unfold Oper.wp;rw[hr];exact hk
theorem q7{o:Oper}{l:List Oper}:ZU (o::l)=o.dst.toList++ZU l:=by
  simp only[ZU];cases o.dst<;>rfl
theorem zbc{a:Act}{dst:Option Tmp}{v:Value}:(a.put dst v).tmps.size=a.tmps.size:=Agree.put.size
theorem zmG{P:Program}{sp:List (Nat×CallSpec)}(hsp:∀f s,QB sp f=some s->s.Ok P f){E:Nat->Prop}{Y:Option YieldAnn}(hY:∀y,Y=some y->zbX P E y){r:Option Nat}{wr:Bool}{ops:Array Oper}{R:Act->World->Prop}{K:qk->World->Prop}:
    ∀(l:List Oper) (e:qk) (a:Act) (w:World),Rep e a->(∀d,d∈ZU l->d<a.tmps.size)->(∀e' a' w',Rep e' a'->Agree (ZU l) a a'->KOE E w w'->K e' w'->R a' w')->
     zdf P sp Y wr ops.toList l false e w K->wpListIn (WF r) 0 P ops (QN R) l a w:=by
  have main:∀(n:Nat) (l:List Oper),l.length=n->∀(e:qk) (a:Act) (w:World),Rep e a->(∀d,d∈ZU l->d<a.tmps.size)->(∀e' a' w',Rep e' a'->Agree (ZU l) a a'->KOE E w w'->K e' w'->R a' w')->
   zdf P sp Y wr ops.toList l false e w K->wpListIn (WF r) 0 P ops (QN R) l a w:=by
    intro n
    induction n using Nat.strongRecOn with
    |_ n ih=>
     intro l hn e a w hr hd hQ h
     cases l with
     |nil=>exact hQ e a w hr (Agree.refl _ _) (KOE.refl _ _) h
     |cons o rest=>
      have hdo:∀d,o.dst=some d->d<a.tmps.size:=fun d h=>hd d (by rw[q7,h];simp)
      have next:∀{e0:qk} {v:Value} {w':World},Rep e0 a->KOE E w w'->(zao e0 o.dst v fun e'=>zdf P sp Y wr ops.toList rest false e' w' K)->wpListIn (WF r) 0 P ops (QN R) rest (a.put o.dst v) w':=by
        intro e0 v w' hr0 hko hk
        obtain⟨e',hr',hk'⟩:=zid hr0 hdo hk
        exact ih rest.length (by simp at hn;omega) rest rfl _ _ _ hr' (fun d hd'=>by rw[zbc];exact hd d (by rw[q7];simp[hd']))
          (fun e2 a2 w2 hr2 hag hko2 hk2=>hQ e2 a2 w2 hr2 ((Agree.trans Agree.put hag).mono (by rw[q7];simp)) (hko.trans hko2) hk2) hk'
      have run:∀{e0:qk},Rep e0 a->(zfp P sp Y wr o (Zw e) w fun v w'=>zao e0 o.dst v fun e'=>zdf P sp Y wr ops.toList rest false e' w' K)->o.wpIn (WF r) 0 P a w (wpListIn (WF r) 0 P ops (QN R) rest) (QN R):=
        fun hr0 h=>ziQ hsp hY hr (K2:=wpListIn (WF r) 0 P ops (QN R) rest) (fun v w' hv hko=>next hr0 hko hv) h
      simp only[zdf]at h
      split at h
      ·rename_i t cs hb
       unfold zxw at hb
       split at hb
       case h_2=>cases hb
       rename_i t1 hop
       split at hb
       case h_2=>cases hb
       rename_i d1 t' d' v _ _ _ rest2 hdst hguard
       split at hb
       case h_2=>cases hb
       rename_i hcond
       simp only[Bool.and_eq_true,Bool.not_eq_true']at hcond
       obtain⟨⟨e1,e2⟩,e3⟩:=hcond
       have e1:=Nat.eq_of_beq_eq_true e1
       have e2:=Nat.eq_of_beq_eq_true e2
       subst e1 e2
       split at hb
       case h_2=>cases hb
       rename_i z hz
       split at hb
       case h_2=>cases hb
       rename_i sz cs' hinfo hev hagg
       split at hb
       case h_2=>cases hb
       rename_i hc2
       simp only[Option.some.injEq,Prod.mk.injEq]at hb
       obtain⟨rfl,rfl⟩:=hb
       simp only[Bool.and_eq_true]at hc2
       obtain⟨⟨c1,c2⟩,c3⟩:=hc2
       have c1:=Nat.eq_of_beq_eq_true c1
       have c2:=Nat.eq_of_beq_eq_true c2
       have c3':cs'.all (·.oneCell')=true:=by simpa using c3
       have e4:d1<a.tmps.size:=hdo d1 hdst
       have h':=h _ _ ⟨rfl,rfl⟩
       simp only[zdf,hdst,zao]at h'
       have hvd:v≠d1:=by intro e;subst e;simp at e3
       have hev':a.eval (.tmp v)= .agg cs':=(congrFun hr (.tmp v)).trans hev
       have hrun:(execOp a.eval o).run P w= .ok (.value (.pointer (some ⟨w.heap.size,0,none⟩))) (w.alloc (.cells z.cells t1)):=by
         simp[execOp,hop,Instr.alloc,zbm hz,newVar,newRow]
       refine Zp (Qp hguard) (zk3 (by rw[hop];rfl) (zb4 hrun (Zp (Qp rfl) (zk3 rfl ?_))))
       rw[hdst]
       refine zmf (w1:=w.alloc (.cells cs' t1)) ?_ ?_
       ·have hst:=run_storeVar_row (P:=P) (w.alloc (.cells z.cells t1)) w.heap.size t1 t1 z.cells cs' (heap_alloc_new w _) (by rw[hinfo,c2]) (by omega) c3'
        rw[zj2]at hst
        simp only[execOp,zc9 e4,zcu hvd,hev',Instr.storeAt,Instr.sureAddr,Sem.run_bind,Sem.run_pure,Result.andThen,hst]
       have hput:∀x:Act,x.put none undef=x:=fun x=>rfl
       rw[hput]
       refine ih rest2.length (by simp at hn;omega) rest2 rfl _ _ _ (hr.put e4 _) (fun d hd'=> ?_) (fun e2 a2 w2 hr2 hag hko2 hk2=>hQ e2 a2 w2 hr2 ((Agree.trans (Agree.put (dst:=some d1)) hag).mono ?_) ((KO.alloc _ _).to.trans hko2) hk2) h'
       ·rw[zbc];exact hd d (by rw[q7,q7];simp[hd'])
       ·intro i hi
        rw[q7,q7]
        simp[hdst]at hi⊢
        exact hi
      ·split at h
       ·rename_i hg
        exact Zp (Qp hg) (run hr h)
       ·rename_i j want hg
        have hye:=zcz (ops:=ops) hr j
        split at h
        ·rename_i b hy
         rw[hy]at hye
         have hr0:=zeH hr hy
         cases b<;>cases want<;>simp only[zc]at h
         ·exact Zp (by rw[zK hg,hye];rfl) (run hr0 h)
         ·exact ZX (by rw[zK hg,hye];rfl) (next hr0 (KOE.refl _ _) h)
         ·exact ZX (by rw[zK hg,hye];rfl) (next hr0 (KOE.refl _ _) h)
         ·exact Zp (by rw[zK hg,hye];rfl) (run hr0 h)
        ·rename_i hy
         rw[hy]at hye
         exact ZX (by rw[zK hg,hye];rfl) (next hr (KOE.refl _ _) h)
  exact fun l=>main l.length l rfl
def zgT:Op->Bool
  | .move _=>true
  | .assign _=>true
  | .pick .. =>true
  | .extract .. =>true
  | .unOp .not _ _=>true
  | .binOp .eql .. =>true
  | .binOp .neq .. =>true
  | .binOp .lss .. =>true
  | .binOp .leq .. =>true
  | .binOp .gtr .. =>true
  | .binOp .geq .. =>true
  | .call {callee:= .builtin .len, ..}=>true
  |_=>false
def zzr(b:Bool)(u v:Value):Value:=match b with|true=>u|false=>v
def zbO(b:Bool)(u v:Value):Value:=match u,v with
  | .bool x, .bool y=> .bool (cond b x y)
  |_,_=>zzr b u v
theorem zck(u v:Value):zbO true u v=u:=by unfold zbO;split<;>rfl
theorem zbN(u v:Value):zbO false u v=v:=by unfold zbO;split<;>rfl
def zdq(b:Bool)(x y:qk):List Tmp->qk->qk
  |[],e=>e
  |d::ds,e=>zdq b x y ds ((d,zbO b (qx x d) (qx y d))::e)
def okM(b x y:Bool):Bool:=match x,y with
  |true,true=>true
  |x,y=>cond b x y
theorem zg5{x y:Bool}(h:okM true x y=true):x=true:=by cases x<;>cases y<;>simp_all[okM]
theorem zeB{x y:Bool}(h:okM false x y=true):y=true:=by cases x<;>cases y<;>simp_all[okM]
def zcl(b:Bool)(ds:List Tmp)(e:qk)(x y:qk×Bool):qk×Bool:=(zdq b x.1 y.1 ds e,okM b x.2 y.2)
def Z7(e:qk)(dst:Option Tmp)(v:Value):qk:=match dst with
  |none=>e
  |some d=>(d,v)::e
def zdX(kv:List (Tmp×Bool))(d:Tmp):Option Bool:=match kv with
  |[]=>none
  |(e,c)::r=>match Nat.beq e d with|true=>some c|false=>zdX r d
def zco(kv:List (Tmp×Bool))(d:Tmp):List (Tmp×Bool):=match kv with
  |[]=>[]
  |(e,c)::r=>match Nat.beq e d with|true=>zco r d|false=>(e,c)::zco r d
def QY(kv:List (Tmp×Bool)):Operand->Option Bool
  | .tmp t=>zdX kv t
  | .const (.bool c)=>some c
  |_=>none
def zsQ(kv:List (Tmp×Bool)):Op->Option Bool
  | .move x=>QY kv x
  | .assign x=>QY kv x
  | .pick c x y=>match QY kv c with
    |some true=>QY kv x
    |some false=>QY kv y
    |none=>none
  |_=>none
def QH(kv:List (Tmp×Bool))(dst:Option Tmp)(c:Option Bool):List (Tmp×Bool):=match dst with
  |none=>kv
  |some d=>match c with|some b=>(d,b)::zco kv d|none=>zco kv d
def zbf(P:Program)(ops:List Oper):List Oper->List (Tmp×Bool)->qk->qk×Bool
  |[],_,e=>(e,true)
  |o::rest,kv,e=>match zgT o.op with
   |false=>(e,false)
   |true=>match o.guard with
    |none=>(match zaI P (execOp (Zw e) o)with
     |some (.value v)=>zbf P ops rest (QH kv o.dst (zsQ kv o.op)) (Z7 e o.dst v)
     |_=>(e,false))
    |some (j,want)=>match zbx ops e j with
     |none=>zbf P ops rest (QH kv o.dst none) (Z7 e o.dst undef)
     |some b=>match(ZK ops j).bind (zdX kv)with
      |some c=>(match c==want with
       |true=>(match zaI P (execOp (Zw e) o)with|some (.value v)=>zbf P ops rest (QH kv o.dst (zsQ kv o.op)) (Z7 e o.dst v)|_=>(e,false))
       |false=>zbf P ops rest (QH kv o.dst none) (Z7 e o.dst undef))
      |none=>zcl b (ZU (o::rest)) e
       (match want with
         |true=>(match zaI P (execOp (Zw (Z7 e (ZK ops j) (.bool true))) o)with
          |some (.value v)=>zbf P ops rest (QH (QH kv (ZK ops j) (some true)) o.dst none) (Z7 (Z7 e (ZK ops j) (.bool true)) o.dst v)|_=>(e,false))
         |false=>zbf P ops rest (QH (QH kv (ZK ops j) (some true)) o.dst none) (Z7 (Z7 e (ZK ops j) (.bool true)) o.dst undef))
       (match want with
         |false=>(match zaI P (execOp (Zw (Z7 e (ZK ops j) (.bool false))) o)with
          |some (.value v)=>zbf P ops rest (QH (QH kv (ZK ops j) (some false)) o.dst none) (Z7 (Z7 e (ZK ops j) (.bool false)) o.dst v)|_=>(e,false))
         |true=>zbf P ops rest (QH (QH kv (ZK ops j) (some false)) o.dst none) (Z7 (Z7 e (ZK ops j) (.bool false)) o.dst undef))
def KvOk(kv:List (Tmp×Bool))(e:qk):Prop:=∀d c,zdX kv d=some c->∀b,qx e d= .bool b->b=c
theorem zp8{kv:List (Tmp×Bool)}{d e:Tmp}{c:Bool}(h:zdX (zco kv d) e=some c):e≠d/\zdX kv e=some c:=by
  induction kv with
  |nil=>simp[zco,zdX]at h
  |cons p r ih=>
   obtain⟨f,b⟩:=p
   simp only[zco]at h
   rcases @zeT f d with⟨h1,h2⟩|⟨h1,h2⟩
   ·simp only[h2]at h
    obtain⟨h3,h4⟩:=ih h
    refine⟨h3,?_⟩
    simp only[zdX]
    rcases @zeT f e with⟨h5,_⟩|⟨_,h6⟩
    ·exact absurd (h5.symm.trans h1) h3
    ·simp only[h6];exact h4
   ·simp only[h2,zdX]at h
    simp only[zdX]
    rcases @zeT f e with⟨h5,h6⟩|⟨h5,h6⟩
    ·simp only[h6]at h⊢
     exact⟨fun he=>h1 (h5.trans he),h⟩
    ·simp only[h6]at h⊢
     exact ih h
theorem ZQ{e:qk}{d:Tmp}{v:Value}:qx (Z7 e (some d) v) d=v:=by
  simp only[Z7,qx]
  rcases @zeT d d with⟨_,h⟩|⟨h,_⟩
  ·simp only[h]
  ·exact absurd rfl h
theorem Zl{e:qk}{d i:Tmp}{v:Value}(h:i≠d):qx (Z7 e (some d) v) i=qx e i:=by
  simp only[Z7,qx]
  rcases @zeT d i with⟨h1,_⟩|⟨_,h2⟩
  ·exact absurd h1.symm h
  ·simp only[h2]
theorem KvOk.put{kv:List (Tmp×Bool)}{e:qk}(h:KvOk kv e)(dst:Option Tmp)(c:Option Bool)(v:Value)(hc:∀b,c=some b->∀b',v= .bool b'->b'=b):KvOk (QH kv dst c) (Z7 e dst v):=by
  cases dst with
  |none=>exact h
  |some d=>
   have old:∀f c',zdX (zco kv d) f=some c'->∀b,qx (Z7 e (some d) v) f= .bool b->b=c':=by
     intro f c' he b hb
     obtain⟨h1,h2⟩:=zp8 he
     rw[Zl h1]at hb
     exact h f c' h2 b hb
   intro f c' he b hb
   cases c with
   |none=>exact old f c' he b hb
   |some b0=>
    simp only[QH,zdX]at he
    rcases @zeT d f with⟨h5,h6⟩|⟨h5,h6⟩
    ·simp only[h6,Option.some.injEq]at he
     subst h5 he
     rw[ZQ]at hb
     exact hc _ rfl b hb
    ·simp only[h6]at he
     exact old f c' he b hb
theorem Z9{kv:List (Tmp×Bool)}{e:qk}(h:KvOk kv e){x:Operand}{c b:Bool}(hx:QY kv x=some c)(hv:Zw e x= .bool b):b=c:=by
  unfold QY at hx
  split at hx
  ·rename_i t
   exact h t c hx b hv
  ·simp only[Zw,Value.bool.injEq]at hv;simp only[Option.some.injEq]at hx;rw[<-hx,hv]
  ·cases hx
theorem zvT{P:Program}{kv:List (Tmp×Bool)}{e:qk}(h:KvOk kv e){o:Oper}{v:Value}(hv:zaI P (execOp (Zw e) o)=some (.value v)):∀c,zsQ kv o.op=some c->∀b,v= .bool b->b=c:=by
  intro c hc b hb
  subst hb
  have hrun:=zbi _ hv default
  unfold zsQ at hc
  split at hc
  ·rename_i x ho
   simp only[execOp,ho,Sem.run_pure,Result.ok.injEq,Next.value.injEq,and_true]at hrun
   exact Z9 h hc hrun
  ·rename_i x ho
   simp only[execOp,ho,Sem.run_pure,Result.ok.injEq,Next.value.injEq,and_true]at hrun
   exact Z9 h hc hrun
  ·rename_i q x y ho
   simp only[execOp,ho]at hrun
   cases hq:Zw e q with
   |bool t=>
    simp only[hq,asBool,pure_bind,Sem.run_pure,Result.ok.injEq,Next.value.injEq,and_true]at hrun
    split at hc
    ·rename_i hk
     have:=Z9 h hk hq
     subst this
     exact Z9 h hc (by simpa using hrun)
    ·rename_i hk
     have:=Z9 h hk hq
     subst this
     exact Z9 h hc (by simpa using hrun)
    ·cases hc
   |_=>simp[hq,asBool]at hrun
  ·cases hc
theorem Rep.of_agree{e e':qk}{a a':Act}{ds:List Tmp}(hr:Rep e a)(hag:Agree ds a a')(h1:∀t,t∈ds->qx e' t=a'.eval (.tmp t))(h2:∀t,t ∉ ds->qx e' t=qx e t):Rep e' a':=by
  funext x
  cases x with
  |tmp t=>
   by_cases ht:t∈ds
   ·exact(h1 t ht).symm
   ·show a'.eval (.tmp t)=qx e' t
    rw[h2 t ht,<-show a.eval (.tmp t)=qx e t from congrFun hr (.tmp t)]
    simp only[Act.eval,Array.getD_eq_getD_getElem?,hag.slot t ht]
  |_=>rfl
theorem zhb{b:Bool}{x y:qk}{t:Nat}:∀(ds:List Tmp) (e:qk),qx (zdq b x y ds e) t=zbO b (qx x t) (qx y t)\/(t ∉ ds/\qx (zdq b x y ds e) t=qx e t)
  |[],e=> .inr ⟨by simp,rfl⟩
  |d::ds,e=>by
   simp only[zdq]
   rcases zhb (b:=b) (x:=x) (y:=y) (t:=t) ds ((d,zbO b (qx x d) (qx y d))::e)with h|⟨h1,h2⟩
   ·exact .inl h
   ·rw[h2]
    by_cases hd:t=d
    ·subst hd;left;exact ZQ
    ·right;exact⟨by simp[hd,h1],Zl hd⟩
theorem zaA{b:Bool}{x y z e:qk}{a a':Act}{ds:List Tmp}(hz:∀u v,zbO b u v=match b with|true=>u|false=>v)(hzz:z=match b with|true=>x|false=>y)
    (hr:Rep e a) (hag:Agree ds a a') (hrz:Rep z a'):Rep (zdq b x y ds e) a':=by
  have hm:∀t,zbO b (qx x t) (qx y t)=qx z t:=by intro t;rw[hz,hzz];cases b<;>rfl
  have he:∀t,qx z t=a'.eval (.tmp t):=fun t=>(congrFun hrz (.tmp t)).symm
  funext q
  cases q with
  |tmp t=>
   show a'.eval (.tmp t)=qx (zdq b x y ds e) t
   rcases zhb (b:=b) (x:=x) (y:=y) (t:=t) ds e with h|⟨h1,h2⟩
   ·rw[h,hm,he]
   ·rw[h2,<-show a.eval (.tmp t)=qx e t from congrFun hr (.tmp t)]
    simp only[Act.eval,Array.getD_eq_getD_getElem?,hag.slot t h1]
  |_=>rfl
theorem Rep.putD{e:qk}{a:Act}(h:Rep e a){dst:Option Tmp}(hd:∀d,dst=some d->d<a.tmps.size)(v:Value):Rep (Z7 e dst v) (a.put dst v):=by
  cases dst with
  |none=>exact h
  |some d=>exact h.put (hd d rfl) v
theorem zj9{ops:List Oper}{e:qk}{j:Nat}{b:Bool}(h:zbx ops e j=some b):∃d,ZK ops j=some d/\qx e d= .bool b:=by
  unfold zbx at h
  split at h
  ·cases h
  ·rename_i d hd
   split at h
   ·rename_i b' hb
    simp only[Option.some.injEq]at h
    subst h
    exact⟨d,hd,hb⟩
   ·cases h
theorem Rep.same{e:qk}{a:Act}(h:Rep e a){d:Tmp}{v:Value}(hv:qx e d=v):Rep (Z7 e (some d) v) a:=by
  funext x
  cases x with
  |tmp t=>
   show a.eval (.tmp t)=qx (Z7 e (some d) v) t
   by_cases ht:t=d
   ·subst ht;rw[ZQ,<-hv];exact congrFun h (.tmp t)
   ·rw[Zl ht];exact congrFun h (.tmp t)
  |_=>rfl
theorem zfl{o:Op}(h:zgT o=true):zaM o=true:=by cases o<;>first|rfl|simp[zgT]at h
theorem zbH{P:Program}{r:Option Nat}{ops:Array Oper}:∀(l:List Oper) (kv:List (Tmp×Bool)) (e:qk) (a:Act),KvOk kv e->Rep e a->(∀d,d∈ZU l->d<a.tmps.size)->(zbf P ops.toList l kv e).2=true->
    ∃a',Rep (zbf P ops.toList l kv e).1 a'/\Agree (ZU l) a a'/\∀(Q:Exit->Act->World->Prop) w,Q .normal a' w->wpListIn (WF r) 0 P ops Q l a w
  |[],_,e,a,_,hr,_,_=>⟨a,hr,Agree.refl _ _,fun Q w hq=>hq⟩
  |o::rest,kv,e,a,hkv,hr,hd,h=>by
   have hdo:∀d,o.dst=some d->d<a.tmps.size:=fun d h=>hd d (by rw[q7,h];simp)
   have hdr:∀{v:Value},∀d,d∈ZU rest->d<(a.put o.dst v).tmps.size:=fun d hd'=>by rw[zbc];exact hd d (by rw[q7];simp[hd'])
   have run:zgT o.op=true->∀{e0:qk} {kv':List (Tmp×Bool)} {z:qk×Bool},Rep e0 a->(∀v,zaI P (execOp (Zw e0) o)=some (.value v)->KvOk kv' (Z7 e0 o.dst v))->∀{f:qk},
    (match zaI P (execOp (Zw e0) o)with|some (.value v)=>zbf P ops.toList rest kv' (Z7 e0 o.dst v)|_=>(f,false))=z->z.2=true->
    ∃a',Rep z.1 a'/\Agree (ZU (o::rest)) a a'/\∀(Q:Exit->Act->World->Prop) w,Q .normal a' w->o.wpIn (WF r) 0 P a w (wpListIn (WF r) 0 P ops Q rest) Q:=by
     intro hpu e0 kv' z hr0 hk f hz h
     split at hz
     case h_2=>subst hz;cases h
     rename_i v hv
     subst hz
     obtain⟨a',h0,h1,h2⟩:=zbH rest _ _ _ (hk v hv) (hr0.putD hdo v) hdr h
     refine⟨a',h0,(Agree.trans Agree.put h1).mono (by rw[q7];simp),fun Q w hq=>zk3 (zfl hpu) (zb4 ?_ (h2 Q w hq))⟩
     rw[hr0]
     exact zbi _ hv w
   have skip:∀{e0:qk} {kv':List (Tmp×Bool)} {z:qk×Bool},Rep e0 a->KvOk kv' (Z7 e0 o.dst undef)->zbf P ops.toList rest kv' (Z7 e0 o.dst undef)=z->z.2=true->
    ∃a',Rep z.1 a'/\Agree (ZU (o::rest)) a a'/\∀(Q:Exit->Act->World->Prop) w,Q .normal a' w->wpListIn (WF r) 0 P ops Q rest (a.put o.dst undef) w:=by
     intro e0 kv' z hr0 hk hz h
     subst hz
     obtain⟨a',h0,h1,h2⟩:=zbH rest _ _ _ hk (hr0.putD hdo undef) hdr h
     exact⟨a',h0,(Agree.trans Agree.put h1).mono (by rw[q7];simp),h2⟩
   have k1:∀v,zaI P (execOp (Zw e) o)=some (.value v)->KvOk (QH kv o.dst (zsQ kv o.op)) (Z7 e o.dst v):=fun v hv=>hkv.put _ _ _ (zvT hkv hv)
   have k2:KvOk (QH kv o.dst none) (Z7 e o.dst undef):=hkv.put _ _ _ (by simp)
   generalize hz:zbf P ops.toList (o::rest) kv e=z at h⊢
   simp only[zbf]at hz
   split at hz
   case h_1=>subst hz;cases h
   rename_i hpu
   split at hz
   ·rename_i hg
    obtain⟨a',h0,h1,h2⟩:=run hpu hr k1 hz h
    exact⟨a',h0,h1,fun Q w hq=>Zp (Qp hg) (h2 Q w hq)⟩
   ·rename_i j want hg
    have hye:=zcz (ops:=ops) hr j
    split at hz
    ·rename_i hy
     rw[hy]at hye
     obtain⟨a',h0,h1,h2⟩:=skip hr k2 hz h
     exact⟨a',h0,h1,fun Q w hq=>ZX (by rw[zK hg,hye];rfl) (h2 Q w hq)⟩
    ·rename_i b hy
     rw[hy]at hye
     obtain⟨d,hd',hs⟩:=zj9 hy
     rw[hd']at hz
     split at hz
     ·rename_i c hc
      have hbc:b=c:=hkv d c hc b hs
      subst hbc
      split at hz
      ·rename_i hcw
       obtain⟨a',h0,h1,h2⟩:=run hpu hr k1 hz h
       exact⟨a',h0,h1,fun Q w hq=>Zp (by rw[zK hg,hye];exact hcw) (h2 Q w hq)⟩
      ·rename_i hcw
       obtain⟨a',h0,h1,h2⟩:=skip hr k2 hz h
       exact⟨a',h0,h1,fun Q w hq=>ZX (by rw[zK hg,hye];exact hcw) (h2 Q w hq)⟩
     ·have k3:KvOk (QH kv (some d) (some b)) (Z7 e (some d) (.bool b)):=hkv.put (some d) (some b) (.bool b) (by intro b1 e1 b2 e2;cases e1;cases e2;rfl)
      have k4:∀v,KvOk (QH (QH kv (some d) (some b)) o.dst none) (Z7 (Z7 e (some d) (.bool b)) o.dst v):=fun v=>k3.put _ _ _ (by simp)
      have hr':Rep (Z7 e (some d) (.bool b)) a:=hr.same hs
      cases b with
      |true=>
       cases want with
       |true=>
        subst hz
        simp only[zcl]at h⊢
        obtain⟨a',h0,h1,h2⟩:=run hpu hr' (fun v _=>k4 v) rfl (zg5 h)
        exact⟨a',zaA (b:=true) (fun u v=>zck u v) rfl hr h1 h0,h1,fun Q w hq=>Zp (by rw[zK hg,hye];rfl) (h2 Q w hq)⟩
       |false=>
        subst hz
        simp only[zcl]at h⊢
        obtain⟨a',h0,h1,h2⟩:=skip hr' (k4 _) rfl (zg5 h)
        exact⟨a',zaA (b:=true) (fun u v=>zck u v) rfl hr h1 h0,h1,fun Q w hq=>ZX (by rw[zK hg,hye];rfl) (h2 Q w hq)⟩
      |false=>
       cases want with
       |false=>
        subst hz
        simp only[zcl]at h⊢
        obtain⟨a',h0,h1,h2⟩:=run hpu hr' (fun v _=>k4 v) rfl (zeB h)
        exact⟨a',zaA (b:=false) (fun u v=>zbN u v) rfl hr h1 h0,h1,fun Q w hq=>Zp (by rw[zK hg,hye];rfl) (h2 Q w hq)⟩
       |true=>
        subst hz
        simp only[zcl]at h⊢
        obtain⟨a',h0,h1,h2⟩:=skip hr' (k4 _) rfl (zeB h)
        exact⟨a',zaA (b:=false) (fun u v=>zbN u v) rfl hr h1 h0,h1,fun Q w hq=>ZX (by rw[zK hg,hye];rfl) (h2 Q w hq)⟩
def zlM(x:qk):List Tmp->qk->(qk->Prop)->Prop
  |[],e,K=>K e
  |d::ds,e,K=>zlM x ds ((d,qx x d)::e) K
theorem zdt{x:qk}{K:qk->Prop}{ds:List Tmp}{e:qk}(h:zlM x ds e K):∃e',K e'/\∀t,qx e' t=qx x t\/(t ∉ ds/\qx e' t=qx e t):=by
  induction ds generalizing e with
  |nil=>exact⟨e,h,fun t=> .inr ⟨by simp,rfl⟩⟩
  |cons d ds ih=>
   obtain⟨e',h1,h2⟩:=ih h
   refine⟨e',h1,fun t=> ?_⟩
   rcases h2 t with h3|⟨h3,h4⟩
   ·exact .inl h3
   ·by_cases hd:t=d
    ·left
     rw[h4,hd]
     exact ZQ (e:=e) (d:=d)
    ·right
     refine⟨by simp[hd,h3],?_⟩
     rw[h4]
     exact Zl (e:=e) hd
def zsP:List Oper->Option Tmp
  |[]=>none
  |o::r=>match zsP r with
   |none=>o.dst
   |some d=>some d
def zcK(x:qk)(d:Option Tmp)(e:qk)(K:qk->Prop):Prop:=match d with
  |none=>K e
  |some d=>zho (qx x d) fun v=>K ((d,v)::e)
def zaZ:List Bool->Nat->Bool
  |[],_=>false
  |b::_,0=>b
  |_::r,n+1=>zaZ r n
def Qr:List Bool->Nat->List Bool
  |[],_=>[]
  |_::r,0=>true::r
  |b::r,n+1=>b::Qr r n
def za6:List Oper->List Bool
  |[]=>[]
  |_::r=>false::za6 r
theorem zcx(l:List Bool)(n:Nat):zaZ l n=l.getD n false:=by
  induction l generalizing n with
  |nil=>rfl
  |cons b r ih=>cases n with
   |zero=>rfl
   |succ n=>simpa[zaZ]using ih n
theorem zgF(l:List Bool)(n:Nat):Qr l n=l.set n true:=by
  induction l generalizing n with
  |nil=>rfl
  |cons b r ih=>cases n with
   |zero=>rfl
   |succ n=>simp[Qr,ih n]
theorem zeD(l:List Oper):za6 l=List.replicate l.length false:=by induction l with|nil=>rfl|cons o r ih=>simp[za6,ih,List.replicate_succ]
def zeS(e:Edge):Bool:=match e.ground with
  | .textOnly _=>false
  | .gcOnly _=>false
  |_=>true
theorem zeR(e:Edge):zeS e=Region.binds .any e:=by unfold zeS Region.binds;cases e.ground<;>rfl
def QI(m:List Bool):List Edge->Bool
  |[]=>true
  |e::r=>match zeS e with
   |false=>QI m r
   |true=>match zaZ m e.on with|true=>QI m r|false=>false
theorem ze7{m:List Bool}{l:List Edge}:QI m l=true ↔ ∀e∈l,Region.binds .any e=true->m.getD e.on false=true:=by
  induction l with
  |nil=>simp[QI]
  |cons e r ih=>
   simp only[QI,List.mem_cons,forall_eq_or_imp]
   rw[<-zeR,<-zcx]
   cases zeS e<;>cases zaZ m e.on<;>simp[ih]
def QW(m:List Bool):List Oper->List Bool->Nat->List (Nat×Oper)
  |o::r,b::bs,k=>match b with
   |true=>QW m r bs (k+1)
   |false=>match QI m o.after.toList with
    |true=>(k,o)::QW m r bs (k+1)
    |false=>QW m r bs (k+1)
  |_,_,_=>[]
theorem zbP{m:List Bool}{i:Nat}{o:Oper}:∀{l:List Oper} {bs:List Bool} {k:Nat},l.length=bs.length->((i,o)∈QW m l bs k ↔ ∃j,i=k+j/\l[j]? =some o/\bs[j]? =some false/\QI m o.after.toList=true)
  |[],bs,k,hl=>by simp[QW]
  |x::r,[],k,hl=>by simp at hl
  |x::r,b::bs,k,hl=>by
   have ih:=zbP (m:=m) (i:=i) (o:=o) (l:=r) (bs:=bs) (k:=k+1) (by simpa using hl)
   have shift:(∃j,i=k+j/\(x::r)[j]? =some o/\(b::bs)[j]? =some false/\QI m o.after.toList=true) ↔
    ((i=k/\x=o/\b=false/\QI m o.after.toList=true)\/∃j,i=k+1+j/\r[j]? =some o/\bs[j]? =some false/\QI m o.after.toList=true):=by
     constructor
     ·rintro⟨j,h1,h2,h3,h4⟩
      cases j with
      |zero=>simp at h2 h3;exact .inl ⟨h1,h2,h3,h4⟩
      |succ j=>exact .inr ⟨j,by omega,by simpa using h2,by simpa using h3,h4⟩
     ·rintro(⟨h1,h2,h3,h4⟩|⟨j,h1,h2,h3,h4⟩)
      ·exact⟨0,by omega,by simp[h2],by simp[h3],h4⟩
      ·exact⟨j+1,by omega,by simpa using h2,by simpa using h3,h4⟩
   rw[shift]
   simp only[QW]
   cases b with
   |true=>simp[ih]
   |false=>
    cases he:QI m x.after.toList with
    |true=>
     simp only[List.mem_cons,Prod.mk.injEq,ih]
     constructor
     ·rintro(⟨h1,h2⟩|h)
      ·exact .inl ⟨h1,h2.symm,trivial,by rw[h2];exact he⟩
      ·exact .inr h
     ·rintro(⟨h1,h2,_⟩|h)
      ·exact .inl ⟨h1,h2.symm⟩
      ·exact .inr h
    |false=>
     simp only[ih]
     constructor
     ·exact .inr
     ·rintro(⟨h1,h2,_,h4⟩|h)
      ·rw[<-h2,he]at h4;cases h4
      ·exact h
theorem zbe{ops:Array Oper}{m:List Bool}(hl:m.length=ops.size){i:Nat}:i∈Region.ready .any ops m.toArray ↔ ∃o,(i,o)∈QW m ops.toList m 0:=by
  have hs:ops.toList.length=m.length:=by simp[hl]
  rw[mem_ready]
  constructor
  ·rintro⟨h0,o,h1,h2⟩
   refine⟨o,(zbP hs).2 ⟨i,by omega,by simpa using h1,?_,?_⟩⟩
   ·simp only[Array.getD_eq_getD_getElem?,List.getElem?_toArray]at h0
    have hi:i<m.length:=by rw[hl];exact(Array.getElem?_eq_some_iff.1 h1).1
    rw[List.getElem?_eq_getElem hi]at h0⊢
    simpa using h0
   ·refine ze7.2 fun e he hb=> ?_
    have:=h2 e (by simpa using he) hb
    simpa[Array.getD_eq_getD_getElem?,List.getD_eq_getElem?_getD]using this
  ·rintro⟨o,ho⟩
   obtain⟨j,h1,h2,h3,h4⟩:=(zbP hs).1 ho
   rw[Nat.zero_add]at h1;subst h1
   refine⟨by simp[Array.getD_eq_getD_getElem?,h3],o,by simpa using h2,fun e he hb=> ?_⟩
   have:=ze7.1 h4 e (by simpa using he) hb
   simpa[Array.getD_eq_getD_getElem?,List.getD_eq_getElem?_getD]using this
def Down(ops:Array Oper)(listed:Array Bool):Prop:=∀k o,listed.getD k false=true->ops[k]? =some o->∀e∈o.after,Region.binds .any e=true->listed.getD e.on false=true
theorem Down.set{ops:Array Oper}{listed:Array Bool}(h:Down ops listed){i:Nat}(hi:i∈Region.ready .any ops listed):Down ops (listed.setIfInBounds i true):=by
  intro k o hk ho e he hb
  by_cases hik:i=k
  ·subst hik
   obtain⟨_,o',ho',h2⟩:=mem_ready.1 hi
   rw[ho]at ho';cases ho'
   exact getD_set_true (h2 e he hb)
  ·rw[getD_set_ne false hik]at hk
   exact getD_set_true (h k o hk ho e he hb)
def za1(ops:Array Oper)(listed:Array Bool)(i:Nat):Prop:=∀L:Array Bool,L.size=listed.size->Down ops L->i∈Region.ready .any ops L->∀k,listed.getD k false=true->L.getD k false=true
def opM(r:Option Nat)(P:Program)(ops:Array Oper)(i:Nat)(K:Act->World->Prop)(a:Act)(w:World):Prop:=match ops[i]? with
  |none=>K a w
  |some o=>if Region.wanted o (yielded ops a.tmps)then o.wpIn (WF r) 0 P a w K (fun _ _ _=>False)else K (a.put o.dst undef) w
def wpM(N:Nat->Prop)(r:Option Nat)(P:Program)(ops:Array Oper)(R:Act->World->Prop):Nat->Array Bool->Act->World->Prop
  |0,listed,a,w=>Region.ready .any ops listed=[]/\R a w
  |fuel+1,listed,a,w=>(Region.ready .any ops listed=[]->R a w)/\
     ∀i∈Region.ready .any ops listed,opM r P ops i (fun a' w'=>(za1 ops listed i\/Fr N w w')/\wpM N r P ops R fuel (listed.setIfInBounds i true) a' w') a w
theorem zk4{r:Option Nat}{P:Program}{ops:Array Oper}{i:Nat}{K K':Act->World->Prop}{a:Act}{w:World}(h:∀a w,K a w->K' a w)(hh:opM r P ops i K a w):opM r P ops i K' a w:=by
  unfold opM at*
  split
  ·rename_i ho;simp only[ho]at hh;exact h _ _ hh
  ·rename_i o ho
   simp only[ho]at hh
   split
   ·rename_i hw;simp only[hw,if_true]at hh;exact Oper.wpIn_mono h hh
   ·rename_i hw;simp only[hw]at hh;exact h _ _ hh
theorem Oper.wpIn_weaken{F:Fence}{n:Nat}{P:Program}{o:Oper}{a:Act}{w:World}{K:Act->World->Prop}{Q:Exit->Act->World->Prop}(h:o.wpIn F n P a w K (fun _ _ _=>False)):o.wpIn F n P a w K Q:=by
  unfold Oper.wpIn at*
  refine⟨h.1,?_⟩
  have h:=h.2
  have nl:¬LetsOut (fun _ _ _=>False):=fun⟨_,_,h⟩=>h
  generalize (o.semAt F.round a.eval).run P w=x at*
  cases x with
  |ok y w'=>
   cases y<;>simp only[Oper.uponIn]at h⊢ <;>
     first
       |exact h
       |exact⟨h.1,CallsIn.mono h.2 (fun e w'' he=>by cases e<;>first|exact he|exact he.elim|exact(nl he).elim)⟩
       |exact⟨h.1,RoundIn.mono h.2 (fun e w'' he=>by cases e<;>first|exact he|exact he.elim|exact(nl he).elim)⟩
  |halt y w'=>cases y<;>simp only[Oper.uponIn]at h⊢
theorem zb5{N:Nat->Prop}{r:Option Nat}{P:Program}{ops:Array Oper}{R:Act->World->Prop}:∀(fuel:Nat) (listed:Array Bool) (a:Act) (w:World),wpM N r P ops R fuel listed a w->wpAnyIn (WF r) 0 P .any ops (QN R) fuel listed a w
  |0,_,_,_,h=>h
  |fuel+1,listed,a,w,h=>⟨h.1,fun i hi=>by
     have h1:=zk4 (K':=wpAnyIn (WF r) 0 P .any ops (QN R) fuel (listed.setIfInBounds i true)) (fun a' w' hk=>zb5 fuel _ a' w' hk.2) (h.2 i hi)
     unfold opM at h1
     unfold wpOpIn
     split
     ·rename_i ho;simp only[ho]at h1;exact h1
     ·rename_i o ho
      simp only[ho]at h1
      split
      ·rename_i hw;simp only[hw,if_true]at h1;exact Oper.wpIn_weaken h1
      ·rename_i hw;simp only[hw]at h1;exact⟨fun _ _=>trivial,h1⟩⟩
def YieldsC(N:Nat->Prop)(P:Program)(ops:Array Oper)(o:Oper)(v:Value)(a:Act)(w:World):Prop:=
  (Region.wanted o (yielded ops a.tmps)=true/\zaM o.op=true/\∀w',Fr N w w'->(execOp a.eval o).run P w'= .ok (.value v) w')\/
  (Region.wanted o (yielded ops a.tmps)=false/\v=undef)
theorem YieldsC.opM{N:Nat->Prop}{r:Option Nat}{P:Program}{ops:Array Oper}{i:Nat}{o:Oper}{v:Value}{a:Act}{w:World}(hi:ops[i]? =some o)(hy:YieldsC N P ops o v a w){K:Act->World->Prop}(h:K (a.put o.dst v) w):opM r P ops i K a w:=by
  unfold Vc.opM
  simp only[hi]
  rcases hy with⟨hw,hd,hv⟩|⟨hw,rfl⟩
  ·simp only[hw,if_true]
   exact zk3 hd (zb4 (hv w (Fr.refl _ _)) h)
  ·simp only[hw,Bool.false_eq_true,if_false];exact h
theorem YieldsC.of_same{N:Nat->Prop}{P:Program}{ops:Array Oper}{o:Oper}{v:Value}{a a':Act}{w:World}(hy:YieldsC N P ops o v a w)(he:execOp a'.eval o=execOp a.eval o)
    (hw:Region.wanted o (yielded ops a'.tmps)=Region.wanted o (yielded ops a.tmps)):YieldsC N P ops o v a' w:=by
  unfold YieldsC at*
  rw[he,hw]
  exact hy
theorem YieldsC.later{N:Nat->Prop}{P:Program}{ops:Array Oper}{o:Oper}{v:Value}{a:Act}{w w':World}(hy:YieldsC N P ops o v a w)(hb:Fr N w w'):YieldsC N P ops o v a w':=by
  rcases hy with⟨h1,h2,h3⟩|h
  ·exact .inl ⟨h1,h2,fun w2 hw2=>h3 w2 (hb.trans hw2 (fun _ _ h=>h))⟩
  ·exact .inr h
theorem zpq{r:Option Nat}{oj:Oper}(hsj:∀cs b,oj.op≠ .select cs b){ops:Array Oper}{a:Act}{dst:Option Tmp}{v:Value}(h1:∀d,dst=some d->d ∉ oj.looksAt ops):oj.semAt r (a.put dst v).eval=oj.semAt r a.eval:=by
  have he:=execOp_put oj hsj a dst v h1
  unfold Oper.semAt
  cases r with
  |none=>exact he
  |some l=>
   cases ho:oj.op with
   |defer c=>
    have hc:resolve (a.put dst v).eval c oj.type=resolve a.eval c oj.type:=
      resolve_congr c _ fun x hx=>Act.eval_put fun d hd hxd=>h1 d hd (by
        subst hxd
        exact List.mem_append_left _ (List.mem_filterMap.2 ⟨.tmp d,by rw[ho];simpa[Op.operands]using hx,rfl⟩))
    simp only[hc]
   |_=>exact he
theorem zvi{N:Nat->Prop}{r:Option Nat}{P:Program}{ops:Array Oper}{j:Nat}{oi oj:Oper}{v:Value}(hj:ops[j]? =some oj)(hap:oi.apart ops oj=true)
    (hsi:∀cs b,oi.op≠ .select cs b) (hsj:∀cs b,oj.op≠ .select cs b) {K:Act->World->Prop} {a:Act} {w:World}
    (hy:YieldsC N P ops oi v a w) (h:opM r P ops j K (a.put oi.dst v) w):
    opM r P ops j (fun a' w'=>YieldsC N P ops oi v a' w/\K (a'.put oi.dst v) w') a w:=by
  obtain⟨h1,h2,h3⟩:=Oper.apart_spec hap
  have keep:∀(a:Act),YieldsC N P ops oi v a w->∀u,YieldsC N P ops oi v (a.put oj.dst u) w:=fun a hy u=>
    hy.of_same (execOp_put oi hsi a oj.dst u h3) (wanted_put oi a oj.dst u h3)
  have keepD:∀d,YieldsC N P ops oi v {a with defers:=d::a.defers} w:=fun d=>hy.of_same rfl rfl
  unfold opM at*
  simp only[hj]at*
  rw[wanted_put oj a oi.dst v h1]at h
  split
  ·rename_i hw
   simp only[hw,if_true]at h
   unfold Oper.wpIn at*
   refine⟨fun _ _=>trivial,?_⟩
   have h:=h.2
   rw[zpq hsj h1]at h
   generalize (oj.semAt (WF r).round a.eval).run P w=x at*
   cases x with
   |ok n w'=>
    cases n<;>simp only[Oper.uponIn]at h⊢
    case value u=>exact⟨keep a hy u,by rw[<-Act.put_comm a v u h2];exact h⟩
    case skip=>exact⟨keep a hy _,by rw[<-Act.put_comm a v undef h2];exact h⟩
    case defer d=>
      refine⟨keep _ (keepD d) _,?_⟩
      rw[<-Act.put_comm _ v undef h2,<-Act.put_defers]
      exact h
    case enter f args=>
      refine⟨h.1,CallsIn.mono h.2 fun e w'' he=> ?_⟩
      cases e with
      |returned u=>exact⟨keep a hy u,by rw[<-Act.put_comm a v u h2];exact he⟩
      |panicked c=>exact he.elim
      |outgrown=>exact he
    case row row args=>exact⟨h.1,RowsIn.mono h.2 fun u w'' he=>⟨keep a hy u,by rw[<-Act.put_comm a v u h2];exact he⟩⟩
    case round l f tmps assign body=>
      refine⟨h.1,RoundIn.mono h.2 fun e w'' he=> ?_⟩
      cases e with
      |returned u=>exact⟨keep a hy u,by rw[<-Act.put_comm a v u h2];exact he⟩
      |panicked c=>exact he.elim
      |outgrown=>exact he
   |halt x w'=>cases x<;>simp only[Oper.uponIn]at h⊢
  ·rename_i hw
   simp only[hw]at h
   exact⟨keep a hy _,by rw[<-Act.put_comm a v undef h2];exact h⟩
theorem zo3{N:Nat->Prop}{r:Option Nat}{P:Program}{ops:Array Oper}{R:Act->World->Prop}{i:Nat}{oi:Oper}{v:Value}(hi:ops[i]? =some oi)(hsel:∀(j:Nat) (o:Oper) cs b,ops[j]? =some o->o.op≠ .select cs b):
    ∀(fuel:Nat) (listed:Array Bool) (a:Act) (w:World),Down ops listed->
     (∀j oj,ops[j]? =some oj->j≠i->listed.getD j true=false->(∀e∈oj.after,Region.binds .any e=true->e.on≠i)->oi.apart ops oj=true)->
     i∈Region.ready .any ops listed->YieldsC N P ops oi v a w->
     wpM N r P ops R fuel (listed.setIfInBounds i true) (a.put oi.dst v) w->wpM N r P ops R (fuel+1) listed a w:=by
  intro fuel
  induction fuel with
  |zero=>
   intro listed a w _ _ hr hy H
   refine⟨fun h=>(by rw[h]at hr;cases hr),fun j hj=> ?_⟩
   by_cases hji:j=i
   ·subst hji;exact hy.opM hi ⟨.inr (Fr.refl _ _),H⟩
   ·have:=ready_mono hj hji
    rw[H.1]at this
    cases this
  |succ fuel ih=>
   intro listed a w hdown hfree hr hy H
   refine⟨fun h=>(by rw[h]at hr;cases hr),fun j hj=> ?_⟩
   by_cases hji:j=i
   ·subst hji;exact hy.opM hi ⟨.inr (Fr.refl _ _),H⟩
   ·have h1:=H.2 j (ready_mono hj hji)
    obtain⟨hjun,oj,hoj,hall⟩:=mem_ready.1 hj
    have hnot:∀e∈oj.after,Region.binds .any e=true->e.on≠i:=fun e he hb heq=>by
      have h1:=hall e he hb
      have h0:=(mem_ready.1 hr).1
      rw[heq]at h1
      rcases Nat.lt_or_ge i listed.size with h'|h'
      ·simp[h']at h0 h1;rw[h0]at h1;cases h1
      ·simp[Array.getElem?_eq_none h']at h1
    have h2:=zvi hoj (hfree j oj hoj hji hjun hnot) (fun cs b=>hsel i oi cs b hi) (fun cs b=>hsel j oj cs b hoj) hy h1
    have hfree':∀k ok,ops[k]? =some ok->k≠i->(listed.setIfInBounds j true).getD k true=false->
     (∀e∈ok.after,Region.binds .any e=true->e.on≠i)->oi.apart ops ok=true:=fun k ok hk hki hun hno=>by
      refine hfree k ok hk hki ?_ hno
      by_cases hjk:j=k
      ·subst hjk;exact hjun
      ·rw[getD_set_ne true hjk]at hun;exact hun
    have isz:i<listed.size:=by
      have h0:=(mem_ready.1 hr).1
      rcases Nat.lt_or_ge i listed.size with h'|h'
      ·exact h'
      ·simp[Array.getElem?_eq_none h']at h0
    have noB:¬za1 ops (listed.setIfInBounds i true) j:=by
      intro hb
      have h3:=hb listed (by simp) hdown hj i (by simp[Array.getD_eq_getD_getElem?,isz])
      have h0:=(mem_ready.1 hr).1
      simp[isz]at h0 h3
      rw[h0]at h3;cases h3
    refine zk4 (fun a' w' h3=> ?_) h2
    obtain⟨h3,h4,h5⟩:=h3
    have hb:=h4.resolve_left noB
    refine⟨.inr hb,ih (listed.setIfInBounds j true) a' w' (hdown.set hj) hfree' (ready_mono hr (Ne.symm hji)) (h3.later hb) ?_⟩
    rw[Array.setIfInBounds_comm _ _ hji]
    exact h5
def zfs:Op->Bool
  | .alloc _=>false
  | .box .. =>false
  | .buildSlice .. =>false
  | .makeSlice .. =>false
  | .store .. =>false
  | .call c=>match c.callee with
    | .builtin .len=>true
    | .builtin .cap=>true
    | .builtin .min=>true
    | .builtin .max=>true
    |_=>false
  | .select .. =>false
  | .defer _=>false
  | .go _=>false
  | .range .. =>false
  | .next .. =>false
  | .makeMap .. =>false
  | .mapUpdate .. =>false
  | .lookup .. =>false
  | .convert .. =>false
  |_=>true
def zgj(P:Program)(wr:Bool)(o:Oper)(ρ:Operand->Value)(w:World)(K:Value->Prop):Prop:=match o.op with
  | .call _=>ze2 P o ρ K
  | .convert .. =>zpf P wr o ρ w K
  |_=>zpf P wr o ρ w K
def zhc(d:Tmp):List Operand->Bool
  |[]=>false
  | .tmp t::r=>match Nat.beq t d with|true=>true|false=>zhc d r
  |_::r=>zhc d r
def zeG(ops:List Oper)(o:Oper)(d:Tmp):Bool:=zhc d o.op.operands.toList||(match o.guard with
  |some (g,_)=>(match ZK ops g with|some t=>Nat.beq t d|none=>false)
  |none=>false)
def zxp(o:Oper)(d:Tmp):Bool:=match o.dst with|some t=>Nat.beq t d|none=>false
def znF(ops:List Oper)(x y:Oper):Bool:=
  (match x.dst with|some d=> !(zeG ops y d)&& !(zxp y d)|none=>true)&&(match y.dst with|some d=> !(zeG ops x d)|none=>true)
def zf2(i:Nat):List Edge->Bool
  |[]=>false
  |e::r=>(zeS e&&Nat.beq e.on i)||zf2 i r
def zly(ops:List Oper)(i:Nat)(oi:Oper):List Oper->List Bool->Nat->Bool
  |o::r,b::bs,k=>(Nat.beq k i||b||zf2 i o.after.toList||znF ops oi o)&&zly ops i oi r bs (k+1)
  |_,_,_=>true
def zie(ops:List Oper)(m:List Bool):List (Nat×Oper)->Option (Nat×Oper)
  |[]=>none
  |(i,o)::r=>match zfs o.op with
   |false=>zie ops m r
   |true=>match zly ops i o ops m 0 with
    |true=>some (i,o)
    |false=>zie ops m r
def zhf:List Edge->List Bool->List Bool
  |[],m=>m
  |e::r,m=>match zeS e with|true=>zhf r (Qr m e.on)|false=>zhf r m
def zqT(ops:List Oper):Nat->List Bool->List Bool
  |0,m=>m
  |k+1,m=>match zaZ m k with
   |true=>(match zsw ops k with|some o=>zqT ops k (zhf o.after.toList m)|none=>zqT ops k m)
   |false=>zqT ops k m
def zpm:List Bool->List Bool->Bool
  |[],_=>true
  |b::r,c::s=>(match b with|true=>c|false=>true)&&zpm r s
  |b::r,[]=>(match b with|true=>false|false=>true)&&zpm r []
def zlW(ops:List Oper)(m:List Bool)(i:Nat)(o:Oper):Bool:=zpm m (zqT ops i (zhf o.after.toList (za6 ops)))
def zdo:List Oper->Bool
  |[]=>true
  |o::r=>match o.op with| .select .. =>false|_=>zdo r
def zeK(ops:List Oper)(e:qk)(o:Oper)(run skip:qk->Prop):Prop:=match o.guard with
  |none=>run e
  |some (j,want)=>match zbx ops e j with
   |some b=>zc b (match want with|true=>run (zc4 ops j true e)|false=>skip (zc4 ops j true e)) (match want with|false=>run (zc4 ops j false e)|true=>skip (zc4 ops j false e))
   |none=>skip e
def zus(F:Nat->Oper->Prop):List (Nat×Oper)->Prop
  |[]=>True
  |[(i,o)]=>F i o
  |(i,o)::r=>F i o/\zus F r
def ziW(N:Option (Nat->Prop))(P:Program)(wr:Bool)(o:Oper)(ρ:Operand->Value)(w:World)(K:Value->Prop):Prop:=match N with
  |none=>zgj P wr o ρ w K
  |some N=>match ldB ρ o with
   |none=>zgj P wr o ρ w K
   |some b=>ZW (¬N b)/\zgj P wr o ρ w K
def zoB(N:Option (Nat->Prop))(w w':World):Prop:=match N with
  |none=>ZW (Below w.heap.size w w')
  |some N=>ZW (Fr N w w')
def zbM(P:Program)(N:Option (Nat->Prop))(sp:List (Nat×CallSpec))(Y:Option YieldAnn)(wr:Bool)(ops:List Oper):Nat->List Bool->qk->World->World->(qk->World->Prop)->Prop
  |0,m,e,_,w,K=>match QW m ops m 0 with|[]=>K e w|_=>False
  |fuel+1,m,e,wb,w,K=>match zie ops m (QW m ops m 0)with
   |some (i,o)=>zeK ops e o (fun e1=>ziW N P wr o (Zw e1) wb fun v=>zao e1 o.dst v fun e'=>zbM P N sp Y wr ops fuel (Qr m i) e' wb w K) (fun e1=>zao e1 o.dst undef fun e'=>zbM P N sp Y wr ops fuel (Qr m i) e' wb w K)
   |none=>match QW m ops m 0 with
    |[]=>K e w
    |x::l=>zus (fun i o=>match zlW ops m i o with
      |true=>zeK ops e o (fun e1=>zfp P sp Y wr o (Zw e1) w fun v w'=>zao e1 o.dst v fun e'=>zbM P N sp Y wr ops fuel (Qr m i) e' w' w' K) (fun e1=>zao e1 o.dst undef fun e'=>zbM P N sp Y wr ops fuel (Qr m i) e' wb w K)
      |false=>zeK ops e o (fun e1=>zfp P sp Y wr o (Zw e1) w fun v w'=>zoB N w w'/\zao e1 o.dst v fun e'=>zbM P N sp Y wr ops fuel (Qr m i) e' w' w' K) (fun e1=>zao e1 o.dst undef fun e'=>zbM P N sp Y wr ops fuel (Qr m i) e' wb w K)) (x::l)
structure Drew(w w1:World):Prop where
  ext:Below w.heap.size w w1
  heap:w1.heap=w.heap
theorem zqW{P:Program}{sp:List (Nat×CallSpec)}{Y:Option YieldAnn}{wr:Bool}{o:Oper}{ρ:Operand->Value}{w:World}{K K':Value->World->Prop}(h:zfp P sp Y wr o ρ w K)(hk:K=K'):zfp P sp Y wr o ρ w K':=hk▸h
theorem zpZ{d:Tmp}{l:List Operand}:zhc d l=true ↔ d∈l.filterMap (fun| .tmp t=>some t|_=>none):=by
  induction l with
  |nil=>simp[zhc]
  |cons x r ih=>
   cases x with
   |tmp t=>
    simp only[zhc,List.filterMap_cons,List.mem_cons]
    rcases @zeT t d with⟨h1,h2⟩|⟨h1,h2⟩
    ·simp[h1]
    ·simp only[h2,ih]
     constructor
     ·exact .inr
     ·rintro(h|h)
      ·exact absurd h.symm h1
      ·exact h
   |_=>simp only[zhc,List.filterMap_cons];exact ih
theorem zqe{ops:Array Oper}{g:Nat}:ZK ops.toList g=(ops[g]?).bind (·.dst):=by
  unfold ZK
  rw[zjK,Array.getElem?_toList]
  cases ops[g]? <;>rfl
theorem zm4{ops:Array Oper}{o:Oper}{d:Tmp}:zeG ops.toList o d=true ↔ d∈o.looksAt ops:=by
  unfold zeG Oper.looksAt
  rw[Bool.or_eq_true,zpZ,List.mem_append]
  refine or_congr Iff.rfl ?_
  cases hg:o.guard with
  |none=>simp
  |some p=>
   obtain⟨g,b⟩:=p
   simp only[zqe]
   cases (ops[g]?).bind (·.dst)with
   |none=>simp
   |some t=>
    simp only[Option.toList_some,List.mem_singleton]
    constructor
    ·intro h;exact(Nat.eq_of_beq_eq_true h).symm
    ·intro h;subst h;exact Nat.beq_refl _
theorem zl2{ops:Array Oper}{x y:Oper}(h:znF ops.toList x y=true):x.apart ops y=true:=by
  unfold znF at h
  unfold Oper.apart
  rw[Bool.and_eq_true]at h⊢
  obtain⟨h1,h2⟩:=h
  have nl:∀{o:Oper} {d:Tmp},zeG ops.toList o d=false->(o.looksAt ops).contains d=false:=by
    intro o d h
    rw[Bool.eq_false_iff]
    intro hc
    have:zeG ops.toList o d=true:=zm4.2 (by simpa using hc)
    rw[this]at h;cases h
  constructor
  ·cases hx:x.dst with
   |none=>rfl
   |some d=>
    simp only[hx,Bool.and_eq_true,Bool.not_eq_true']at h1
    simp only[Bool.and_eq_true,Bool.not_eq_true',nl h1.1,true_and]
    unfold zxp at h1
    cases hy:y.dst with
    |none=>rfl
    |some t=>
     simp only[hy]at h1
     have:t≠d:=by intro e;subst e;simp at h1
     simp[this]
  ·cases hy:y.dst with
   |none=>rfl
   |some d=>
    simp only[hy,Bool.not_eq_true']at h2
    simp only[Bool.not_eq_true',nl h2]
theorem zkd{i:Nat}{l:List Edge}(h:zf2 i l=true):∃e∈l,Region.binds .any e=true/\e.on=i:=by
  induction l with
  |nil=>simp[zf2]at h
  |cons e r ih=>
   simp only[zf2,Bool.or_eq_true,Bool.and_eq_true]at h
   rcases h with⟨h1,h2⟩|h
   ·exact⟨e,by simp,by rw[<-zeR];exact h1,Nat.eq_of_beq_eq_true h2⟩
   ·obtain⟨e',h1,h2⟩:=ih h
    exact⟨e',by simp[h1],h2⟩
theorem zhm{ops:Array Oper}{i:Nat}{oi:Oper}:∀{l:List Oper} {bs:List Bool} {k:Nat},zly ops.toList i oi l bs k=true->∀(j:Nat) (oj:Oper),l[j]? =some oj->bs[j]? =some false->k+j≠i->
    (∀e∈oj.after,Region.binds .any e=true->e.on≠i)->oi.apart ops oj=true
  |[],bs,k,h,j,oj,h1,h2,h3,h4=>by simp at h1
  |o::r,[],k,h,j,oj,h1,h2,h3,h4=>by simp at h2
  |o::r,b::bs,k,h,j,oj,h1,h2,h3,h4=>by
   simp only[zly,Bool.and_eq_true]at h
   obtain⟨h,hr⟩:=h
   cases j with
   |zero=>
    simp at h1 h2
    subst h1 h2
    simp only[Bool.or_false,Bool.or_eq_true]at h
    rcases h with(h|h)|h
    ·exact absurd (Nat.eq_of_beq_eq_true h) (by simpa using h3)
    ·obtain⟨e,he,hb,hi⟩:=zkd h
     exact absurd hi (h4 e (by simpa using he) hb)
    ·exact zl2 h
   |succ j=>exact zhm hr j oj (by simpa using h1) (by simpa using h2) (by omega) h4
theorem zdm{ops:List Oper}{m:List Bool}{i:Nat}{o:Oper}:∀{l:List (Nat×Oper)},zie ops m l=some (i,o)->(i,o)∈l/\zfs o.op=true/\zly ops i o ops m 0=true
  |[],h=>by simp[zie]at h
  |(j,p)::r,h=>by
   simp only[zie]at h
   split at h
   ·obtain⟨h1,h2⟩:=zdm h;exact⟨by simp[h1],h2⟩
   ·rename_i hs
    split at h
    ·rename_i hf
     simp only[Option.some.injEq,Prod.mk.injEq]at h
     obtain⟨rfl,rfl⟩:=h
     exact⟨by simp,hs,hf⟩
    ·obtain⟨h1,h2⟩:=zdm h;exact⟨by simp[h1],h2⟩
theorem zqy{m:List Bool}{n k:Nat}(h:zaZ (Qr m n) k=true):k=n\/zaZ m k=true:=by
  by_cases hk:k=n
  ·exact .inl hk
  ·right
   rw[zcx,zgF,List.getD_eq_getElem?_getD,List.getElem?_set_ne (fun e=>hk e.symm)]at h
   rw[zcx,List.getD_eq_getElem?_getD]
   exact h
theorem zcI{L:Array Bool}:∀{l:List Edge} {m:List Bool},(∀e∈l,Region.binds .any e=true->L.getD e.on false=true)->(∀k,zaZ m k=true->L.getD k false=true)->∀k,zaZ (zhf l m) k=true->L.getD k false=true
  |[],m,_,hm,k,h=>hm k h
  |e::r,m,hl,hm,k,h=>by
   simp only[zhf]at h
   split at h
   ·rename_i hb
    refine zcI (fun e' he=>hl e' (by simp[he])) (fun k hk=> ?_) k h
    rcases zqy hk with rfl|hk
    ·exact hl e (by simp) (by rw[<-zeR];exact hb)
    ·exact hm k hk
   ·exact zcI (fun e' he=>hl e' (by simp[he])) hm k h
theorem zec{ops:Array Oper}{L:Array Bool}(hd:Down ops L):∀{n:Nat} {m:List Bool},(∀k,zaZ m k=true->L.getD k false=true)->∀k,zaZ (zqT ops.toList n m) k=true->L.getD k false=true
  |0,m,hm,k,h=>hm k h
  |n+1,m,hm,k,h=>by
   simp only[zqT]at h
   split at h
   ·rename_i hb
    split at h
    ·rename_i o ho
     rw[zjK,Array.getElem?_toList]at ho
     exact zec hd (zcI (fun e he hbe=>hd n o (hm n hb) ho e (by simpa using he) hbe) hm) k h
    ·exact zec hd hm k h
   ·exact zec hd hm k h
theorem zel:∀{a b:List Bool},zpm a b=true->∀k,a.getD k false=true->b.getD k false=true
  |[],b,h,k,hk=>by simp at hk
  |x::r,[],h,k,hk=>by
   simp only[zpm,Bool.and_eq_true]at h
   cases k with
   |zero=>simp at hk;rw[hk]at h;simp at h
   |succ k=>exact absurd (zel h.2 k (by simpa using hk)) (by simp)
  |x::r,y::s,h,k,hk=>by
   simp only[zpm,Bool.and_eq_true]at h
   cases k with
   |zero=>simp at hk;rw[hk]at h;simpa using h.1
   |succ k=>simpa using zel h.2 k (by simpa using hk)
theorem zhW{ops:Array Oper}{m:List Bool}{i:Nat}{o:Oper}(ho:ops[i]? =some o)(h:zlW ops.toList m i o=true):za1 ops m.toArray i:=by
  intro L _ hd hi k hk
  obtain⟨_,o',ho',h2⟩:=mem_ready.1 hi
  rw[ho]at ho';cases ho'
  have h0:∀k,zaZ (za6 ops.toList) k=true->L.getD k false=true:=fun k hk=>by
    rw[zcx,zeD]at hk
    simp[List.getD_eq_getElem?_getD,List.getElem?_replicate]at hk
    split at hk<;>simp at hk
  have h1:∀k,zaZ (zhf o.after.toList (za6 ops.toList)) k=true->L.getD k false=true:=zcI (fun e he hb=>h2 e (by simpa using he) hb) h0
  refine zec hd (n:=i) h1 k ?_
  rw[zcx]
  exact zel h k (by simpa[Array.getD_eq_getD_getElem?,List.getD_eq_getElem?_getD]using hk)
theorem zlc{ops:Array Oper}(h:zdo ops.toList=true)(j:Nat)(o:Oper)(cs:Array SelectCase)(b:Bool)(ho:ops[j]? =some o):o.op≠ .select cs b:=by
  have main:∀l:List Oper,zdo l=true->∀o∈l,o.op≠ .select cs b:=by
    intro l
    induction l with
    |nil=>simp
    |cons x r ih=>
     intro h o ho e
     simp only[zdo]at h
     split at h
     ·cases h
     ·rename_i hx
      rcases List.mem_cons.1 ho with h1|h1
      ·subst h1;exact hx _ _ e
      ·exact ih h o h1 e
  exact main _ h o (by rw[<-Array.getElem?_toList]at ho;exact List.mem_of_getElem? ho)
theorem zhL{F:Nat->Oper->Prop}:∀{l:List (Nat×Oper)},zus F l->∀p∈l,F p.1 p.2
  |[],_,p,hp=>by simp at hp
  |[(i,o)],h,p,hp=>by simp at hp;subst hp;exact h
  |(i,o)::q::r,h,p,hp=>by
   rcases List.mem_cons.1 hp with h1|h1
   ·subst h1;exact h.1
   ·exact zhL h.2 p h1
theorem zmI{w w':World}(h:Below w.heap.size w w'):Sees w w':=fun p v hv=>by
  have hb:p.block<w.heap.size:=World.block_lt_of_cell? w p hv
  exact(h.cell hb).trans hv
theorem zb7{P:Program}{wr:Bool}{o:Oper}{ρ:Operand->Value}{w:World}{K:Value->Prop}(h:zgj P wr o ρ w K):∃v,Gives P o ρ w v/\K v:=by
  unfold zgj at h
  split at h
  ·exact QU w h
  ·exact zcA h
  ·exact zcA h
theorem zkn{N:Option (Nat->Prop)}{P:Program}{wr:Bool}{o:Oper}{ρ:Operand->Value}{w:World}{K:Value->Prop}(h:ziW N P wr o ρ w K):∃v,(∀w',Fr (nOf N) w w'->(execOp ρ o).run P w'= .ok (.value v) w')/\K v:=by
  unfold ziW at h
  split at h
  ·obtain⟨v,h1,h2⟩:=zb7 h
   exact⟨v,fun w' hf=>h1 w' (hf.sees (fun _ _ hn=>hn)),h2⟩
  ·split at h
   ·rename_i hl
    obtain⟨v,h1,h2⟩:=zb7 h
    exact⟨v,fun w' hf=>h1 w' (by rw[hl];intro b hb;cases hb),h2⟩
   ·rename_i b hl
    obtain⟨hn,h⟩:=h
    obtain⟨v,h1,h2⟩:=zb7 h
    exact⟨v,fun w' hf=>h1 w' (hf.sees (fun c hc=>by rw[hl]at hc;cases hc;exact hn)),h2⟩
theorem zm8{N:Option (Nat->Prop)}{w w':World}(h:zoB N w w'):Fr (nOf N) w w':=by
  unfold zoB at h
  split at h
  ·exact Fr.of_ext h
  ·exact h
theorem zem{o:Op}(h:zfs o=true):zaM o=true:=by cases o<;>first|rfl|simp[zfs]at h
theorem zlg{l:List Oper}{o:Oper}(ho:o∈l){d:Tmp}(hd:o.dst=some d):d∈ZU l:=by
  induction l with
  |nil=>simp at ho
  |cons x r ih=>
   rw[q7]
   rcases List.mem_cons.1 ho with h|h
   ·subst h;simp[hd]
   ·simp[ih h]
theorem zm3{N:Option (Nat->Prop)}{P:Program}{sp:List (Nat×CallSpec)}(hsp:∀f s,QB sp f=some s->s.Ok P f){E:Nat->Prop}{Y:Option YieldAnn}(hY:∀y,Y=some y->zbX P E y){r:Option Nat}{wr:Bool}{ops:Array Oper}(hsel:zdo ops.toList=true)
    {R:Act->World->Prop} {K:qk->World->Prop}:
    ∀(fuel:Nat) (m:List Bool) (e:qk) (a:Act) (wb w:World),Fr (nOf N) wb w->m.length=ops.size->Down ops m.toArray->Rep e a->(∀d,d∈ZU ops.toList->d<a.tmps.size)->
     (∀e' a' w',Rep e' a'->Agree (ZU ops.toList) a a'->KOE E w w'->K e' w'->R a' w')->zbM P N sp Y wr ops.toList fuel m e wb w K->wpM (nOf N) r P ops R fuel m.toArray a w:=by
  have hset:∀(m:List Bool) (i:Nat),m.toArray.setIfInBounds i true=(Qr m i).toArray:=fun m i=>by rw[zgF];simp
  have hnil:∀{m:List Bool},m.length=ops.size->QW m ops.toList m 0=[]->Region.ready .any ops m.toArray=[]:=by
    intro m hl h
    refine List.eq_nil_iff_forall_not_mem.2 fun i hi=> ?_
    obtain⟨o,ho⟩:=(zbe hl).1 hi
    rw[h]at ho;simp at ho
  have hop:∀{m:List Bool} {i:Nat} {o:Oper},m.length=ops.size->(i,o)∈QW m ops.toList m 0->ops[i]? =some o:=by
    intro m i o hl h
    obtain⟨j,h1,h2,_⟩:=(zbP (by simp[hl])).1 h
    rw[Nat.zero_add]at h1;subst h1
    simpa using h2
  intro fuel
  induction fuel with
  |zero=>
   intro m e a wb w hwb hl hdn hr hd hQ h
   simp only[zbM]at h
   split at h
   ·rename_i hn;exact⟨hnil hl hn,hQ e a w hr (Agree.refl _ _) (KOE.refl _ _) h⟩
   ·exact h.elim
  |succ fuel ih=>
   intro m e a wb w hwb hl hdn hr hd hQ h
   have next:∀{i:Nat} {o:Oper} {e0:qk} {v:Value} {wb' w':World},Fr (nOf N) wb' w'->(i,o)∈QW m ops.toList m 0->Rep e0 a->KOE E w w'->(zao e0 o.dst v fun e'=>zbM P N sp Y wr ops.toList fuel (Qr m i) e' wb' w' K)->
    wpM (nOf N) r P ops R fuel (m.toArray.setIfInBounds i true) (a.put o.dst v) w':=by
     intro i o e0 v wb' w' hb' hi hr0 hko hk
     have hmem:o∈ops.toList:=by have:=hop hl hi;rw[<-Array.getElem?_toList]at this;exact List.mem_of_getElem? this
     obtain⟨e',hr',hk'⟩:=zid hr0 (fun d hd'=>hd d (zlg hmem hd')) hk
     rw[hset]
     refine ih _ e' _ wb' w' hb' (by rw[zgF];simp[hl]) ?_ hr' (fun d hd'=>by rw[zbc];exact hd d hd')
       (fun e2 a2 w2 hr2 hag hko2 hk2=>hQ e2 a2 w2 hr2 ((Agree.trans Agree.put hag).mono (fun d hd'=> ?_)) (hko.trans hko2) hk2) hk'
     ·rw[<-hset];exact hdn.set ((zbe hl).2 ⟨o,hi⟩)
     ·rcases List.mem_append.1 hd' with h1|h1
      ·exact zlg hmem (by simpa using h1)
      ·exact h1
   simp only[zbM]at h
   split at h
   ·rename_i i o hp
    obtain⟨hi,hst,hfr⟩:=zdm hp
    have ho:=hop hl hi
    have hready:i∈Region.ready .any ops m.toArray:=(zbe hl).2 ⟨o,hi⟩
    have fin:∀{v:Value},YieldsC (nOf N) P ops o v a w->wpM (nOf N) r P ops R fuel (m.toArray.setIfInBounds i true) (a.put o.dst v) w->wpM (nOf N) r P ops R (fuel+1) m.toArray a w:=by
      intro v hy hk
      refine zo3 ho (zlc hsel) fuel m.toArray a w hdn (fun j oj hj hji hun hno=> ?_) hready hy hk
      refine zhm hfr j oj (by simpa using hj) ?_ (by omega) hno
      have hjl:j<m.length:=by rw[hl];exact(Array.getElem?_eq_some_iff.1 hj).1
      simp only[Array.getD_eq_getD_getElem?,List.getElem?_toArray,List.getElem?_eq_getElem hjl,Option.getD_some]at hun
      rw[List.getElem?_eq_getElem hjl,hun]
    have run:∀{e0:qk},Region.wanted o (yielded ops a.tmps)=true->Rep e0 a->(ziW N P wr o (Zw e0) wb fun v=>zao e0 o.dst v fun e'=>zbM P N sp Y wr ops.toList fuel (Qr m i) e' wb w K)->wpM (nOf N) r P ops R (fuel+1) m.toArray a w:=by
      intro e0 hw hr0 hs
      obtain⟨v,hv,hk⟩:=zkn hs
      exact fin (.inl ⟨hw,zem hst,fun w' hb=>by rw[hr0];exact hv w' (hwb.trans hb (fun _ _ h=>h))⟩) (next hwb hi hr0 (KOE.refl _ _) hk)
    have skip:∀{e0:qk},Region.wanted o (yielded ops a.tmps)=false->Rep e0 a->(zao e0 o.dst undef fun e'=>zbM P N sp Y wr ops.toList fuel (Qr m i) e' wb w K)->wpM (nOf N) r P ops R (fuel+1) m.toArray a w:=
      fun hw hr0 hk=>fin (.inr ⟨hw,rfl⟩) (next hwb hi hr0 (KOE.refl _ _) hk)
    unfold zeK at h
    split at h
    ·rename_i hg;exact run (Qp hg) hr h
    ·rename_i j want hg
     have hye:=zcz (ops:=ops) hr j
     split at h
     ·rename_i b hy
      rw[hy]at hye
      have hr0:=zeH hr hy
      cases b<;>cases want<;>simp only[zc]at h
      ·exact run (by rw[zK hg,hye];rfl) hr0 h
      ·exact skip (by rw[zK hg,hye];rfl) hr0 h
      ·exact skip (by rw[zK hg,hye];rfl) hr0 h
      ·exact run (by rw[zK hg,hye];rfl) hr0 h
     ·rename_i hy
      rw[hy]at hye
      exact skip (by rw[zK hg,hye];rfl) hr h
   ·split at h
    ·rename_i hn
     have:=hnil hl hn
     exact⟨fun _=>hQ e a w hr (Agree.refl _ _) (KOE.refl _ _) h,fun i hi=>by rw[this]at hi;cases hi⟩
    ·rename_i x l hn
     refine⟨fun h0=> ?_,fun i hi=> ?_⟩
     ·have:x.1∈Region.ready .any ops m.toArray:=(zbe hl).2 ⟨x.2,by rw[hn];simp⟩
      rw[h0]at this;cases this
     ·obtain⟨o,hio⟩:=(zbe hl).1 hi
      have ho:=hop hl hio
      have hF:=zhL h (i,o) (by rw[<-hn];exact hio)
      dsimp only at hF
      have run:∀{e0:qk} {X:World->Prop},Region.wanted o (yielded ops a.tmps)=true->Rep e0 a->(∀w',X w'->za1 ops m.toArray i\/Fr (nOf N) w w')->
       (zfp P sp Y wr o (Zw e0) w fun v w'=>X w'/\zao e0 o.dst v fun e'=>zbM P N sp Y wr ops.toList fuel (Qr m i) e' w' w' K)->
       opM r P ops i (fun a' w'=>(za1 ops m.toArray i\/Fr (nOf N) w w')/\wpM (nOf N) r P ops R fuel (m.toArray.setIfInBounds i true) a' w') a w:=by
        intro e0 X hw hr0 hX hs
        unfold opM
        simp only[ho,hw,if_true]
        exact ziQ hsp hY hr0 (K:=fun v w'=>X w'/\zao e0 o.dst v fun e'=>zbM P N sp Y wr ops.toList fuel (Qr m i) e' w' w' K) (fun v w' hv hko=>⟨hX w' hv.1,next (Fr.refl _ _) hio hr0 hko hv.2⟩) hs
      have skip:∀{e0:qk},Region.wanted o (yielded ops a.tmps)=false->Rep e0 a->(zao e0 o.dst undef fun e'=>zbM P N sp Y wr ops.toList fuel (Qr m i) e' wb w K)->
       opM r P ops i (fun a' w'=>(za1 ops m.toArray i\/Fr (nOf N) w w')/\wpM (nOf N) r P ops R fuel (m.toArray.setIfInBounds i true) a' w') a w:=by
        intro e0 hw hr0 hk
        unfold opM
        simp only[ho,hw,Bool.false_eq_true,if_false]
        exact⟨.inr (Fr.refl _ _),next hwb hio hr0 (KOE.refl _ _) hk⟩
      have both:∀{X:World->Prop} {run':qk->Prop},(∀w',X w'->za1 ops m.toArray i\/Fr (nOf N) w w')->(∀e0,run' e0->zfp P sp Y wr o (Zw e0) w fun v w'=>X w'/\zao e0 o.dst v fun e'=>zbM P N sp Y wr ops.toList fuel (Qr m i) e' w' w' K)->
       zeK ops.toList e o run' (fun e1=>zao e1 o.dst undef fun e'=>zbM P N sp Y wr ops.toList fuel (Qr m i) e' wb w K)->
       opM r P ops i (fun a' w'=>(za1 ops m.toArray i\/Fr (nOf N) w w')/\wpM (nOf N) r P ops R fuel (m.toArray.setIfInBounds i true) a' w') a w:=by
        intro X run' hX hrun h
        unfold zeK at h
        split at h
        ·rename_i hg;exact run (Qp hg) hr hX (hrun _ h)
        ·rename_i j want hg
         have hye:=zcz (ops:=ops) hr j
         split at h
         ·rename_i b hy
          rw[hy]at hye
          have hr0:=zeH hr hy
          cases b<;>cases want<;>simp only[zc]at h
          ·exact run (by rw[zK hg,hye];rfl) hr0 hX (hrun _ h)
          ·exact skip (by rw[zK hg,hye];rfl) hr0 h
          ·exact skip (by rw[zK hg,hye];rfl) hr0 h
          ·exact run (by rw[zK hg,hye];rfl) hr0 hX (hrun _ h)
         ·rename_i hy
          rw[hy]at hye
          exact skip (by rw[zK hg,hye];rfl) hr h
      split at hF
      ·rename_i hb
       exact both (X:=fun _=>True) (fun _ _=> .inl (zhW ho hb)) (fun e0 h0=>zqW h0 (by funext v w';simp)) hF
      ·exact both (X:=fun w'=>zoB N w w') (fun _ h=> .inr (zm8 h)) (fun e0 h0=>h0) hF
def zsM:List Oper->Nat
  |[]=>0
  |_::r=>zsM r+1
theorem zov:∀l,zsM l=l.length
  |[]=>rfl
  |_::r=>by simp[zsM,zov r]
theorem zm2{N:Option (Nat->Prop)}{P:Program}{sp:List (Nat×CallSpec)}(hsp:∀f s,QB sp f=some s->s.Ok P f){E:Nat->Prop}{Y:Option YieldAnn}(hY:∀y,Y=some y->zbX P E y){r:Option Nat}{wr:Bool}{ops:Array Oper}{id:Nat}{K:qk->World->Prop}{R:Act->World->Prop}
    (hm:P.follows .mixedOrders=true) (hsel:zdo ops.toList=true) {e:qk} {a:Act} {w:World} (hr:Rep e a) (hd:∀d,d∈ZU ops.toList->d<a.tmps.size)
    (hQ:∀e' a' w',Rep e' a'->Agree (ZU ops.toList) a a'->KOE E w w'->K e' w'->R a' w') (h:∀w1,ZW (Drew w w1)->zbM P N sp Y wr ops.toList (zsM ops.toList) (za6 ops.toList) e w w1 K):
    (Code.region id ops true).wpIn (WF r) 0 P (QN R) a w:=by
  refine wpIn_region_any hm (zb5 (N:=nOf N) _ _ _ _ ?_)
  have hn:(za6 ops.toList).toArray=Array.replicate ops.size false:=by rw[zeD];simp
  rw[<-hn]
  have h1:=h {w with drawn:=w.drawn+1} ⟨Below.drew (Below.refl _ w),rfl⟩
  rw[zov]at h1
  have hko:KOE E w {w with drawn:=w.drawn+1}:=⟨Nat.le_refl _,fun _ _ _ h _=>h⟩
  have:=zm3 (N:=N) hsp hY (r:=r) (wr:=wr) (R:=R) hsel ops.toList.length (za6 ops.toList) e a w _ (Fr.of_ext (Below.drew (Below.refl _ w))) (by rw[zeD];simp) (fun k o hk _=>by rw[hn]at hk;simp[Array.getD_eq_getD_getElem?,Array.getElem?_replicate]at hk;split at hk<;>simp at hk) hr hd
    (fun e' a' w' hr' hag hko' hk=>hQ e' a' w' hr' hag (hko.trans hko') hk) h1
  rwa [Array.length_toList]at this
end Vc
end
end Go.Proofs.YtjdohhididpomaaGreatDoor
