/-
  Texts joined by program: Qn, Qo, Qp, Qs, Qt, Qu, Qv, Qw.
-/
import Derived.Test.YtjdohhididpomaaGreatDoorWf18
import Derived.Test.YtjdohhididpomaaGreatDoorWf15
import Derived.Test.YtjdohhididpomaaGreatDoorWf21
import Derived.Test.YtjdohhididpomaaGreatDoorWf17
set_option linter.unusedVariables false
set_option linter.unusedSimpArgs false

namespace Go.Proofs.YtjdohhididpomaaGreatDoor
section
open Go Vc Ut Tb Cl Orb
theorem ziC(f s:Nat):zK f [] s=s:=by cases f<;>simp only[zK]
theorem zy6(f:Nat)(l:List Int)(s:Nat):zK (f+1) (0::l) s=zK f l 0:=by
  simp only[zK];rw[if_pos (by decide)]
theorem zy5(f:Nat)(l:List Int)(s:Nat):zK (f+1) (1::l) s=zK f l (s|||256):=by
  simp only[zK];rw[if_neg (by decide),if_pos trivial]
theorem zy4(f:Nat)(l:List Int)(s:Nat):zK (f+1) (3::l) s=zK f l (s|||512):=by
  simp only[zK];rw[if_neg (by decide),if_neg (by decide),if_pos trivial]
theorem zy3(f:Nat)(l:List Int)(s:Nat):zK (f+1) (4::l) s=zK f l (s|||1024):=by
  simp only[zK];rw[if_neg (by decide),if_neg (by decide),if_neg (by decide),if_pos trivial]
theorem zy2(f:Nat)(l:List Int)(s:Nat):zK (f+1) (7::l) s=zK f l (s|||2048):=by
  simp only[zK];rw[if_neg (by decide),if_neg (by decide),if_neg (by decide),if_neg (by decide),if_pos trivial]
theorem zwM(f:Nat)(l:List Int)(s k:Nat)(hk:k<=255):zK (f+1) (38::5::(k:Int)::l) s=zK f l ((s / 256*256)|||k):=by
  simp only[zK]
  rw[if_neg (by decide),if_neg (by decide),if_neg (by decide),if_neg (by decide),if_neg (by decide),if_pos ⟨trivial,trivial,by omega,by omega⟩,Int.toNat_natCast]
theorem zwL(f:Nat)(l:List Int)(s k:Nat)(hk:k<=15):zK (f+1) (48::5::(k:Int)::l) s=zK f l ((s%4096)|||(k*4096)):=by
  simp only[zK]
  rw[if_neg (by decide),if_neg (by decide),if_neg (by decide),if_neg (by decide),if_neg (by decide),if_neg (fun h=>absurd h.1 (by decide)),if_pos ⟨trivial,trivial,by omega,by omega⟩,Int.toNat_natCast]
def zbJ(s:Nat):List Int:=(if s / 256%2=1 then [1]else [])++(if s / 512%2=1 then [3]else [])++(if s / 1024%2=1 then [4]else [])++(if s / 2048%2=1 then [7]else [])
theorem zcW(s:Nat):qN s 4=zbJ s:=by
  unfold qN zbJ
  rw[show List.range 4=[0,1,2,3]from by decide]
  by_cases h0:s / 256%2=1<;>by_cases h1:s / 512%2=1<;>by_cases h2:s / 1024%2=1<;>by_cases h3:s / 2048%2=1<;>
    simp[List.filter,h0,h1,h2,h3]
theorem zpW{s:Nat}(f:Nat)(T:List Int):zK (f+(zbJ s).length) (zbJ s++T) 0=zK f T (s / 256%16*256):=by
  unfold zbJ
  by_cases h0:s / 256%2=1<;>by_cases h1:s / 512%2=1<;>by_cases h2:s / 1024%2=1<;>by_cases h3:s / 2048%2=1<;>
    simp only[h0,h1,h2,h3,if_true,if_false,List.nil_append,List.append_nil,List.cons_append,List.length_cons,List.length_nil,<-Nat.add_assoc,Nat.add_zero,Nat.zero_add]<;>
    first
    |(simp only[zy5,zy4,zy3,zy2];congr 1;first|omega|(simp only[Nat.zero_or];omega)|(simp;omega))
    |(congr 1;omega)
theorem zr5{a b k:Nat}(h:a<2^k):(2^k*b)|||a=2^k*b+a:=(Nat.two_pow_add_eq_or_of_lt h b).symm
theorem zqJ{s:Nat}(h:s<65536)(s0:Nat):Zl (qR s) s0=s:=by
  unfold Zl qR
  rw[zcW]
  have e1:([0]++zbJ s++(if s%256≠0 then [38,5,((s%256:Nat):Int)]else [])++(if s / 4096≠0 then [48,5,((s / 4096:Nat):Int)]else []))=0::(zbJ s++((if s%256≠0 then [38,5,((s%256:Nat):Int)]else [])++(if s / 4096≠0 then [48,5,((s / 4096:Nat):Int)]else []))):=by simp
  rw[e1]
  generalize hT:((if s%256≠0 then [38,5,((s%256:Nat):Int)]else [])++(if s / 4096≠0 then [48,5,((s / 4096:Nat):Int)]else []))=T
  rw[List.length_cons,List.length_append,zy6,Nat.add_comm (zbJ s).length,zpW,<-hT]
  have c1:s / 256%16*256 / 256*256|||s%256=s%4096:=by
    rw[show s / 256%16*256 / 256*256=2^8*(s / 256%16) by omega,zr5 (show s%256<2^8 by omega)];omega
  have c2:∀a,a=s%4096->a%4096|||s / 4096*4096=s:=by
    intro a ha
    rw[Nat.or_comm,show s / 4096*4096=2^12*(s / 4096) by omega,zr5 (show a%4096<2^12 by omega)];omega
  by_cases h1:s%256=0<;>by_cases h2:s / 4096=0
  ·rw[if_neg (by omega),if_neg (by omega)]
   show zK 0 [] _=_
   rw[ziC];omega
  ·rw[if_neg (by omega),if_pos (by omega)]
   show zK 3 (48::5::((s / 4096:Nat):Int)::[]) _=_
   rw[zwL _ _ _ _ (by omega),ziC]
   exact c2 _ (by omega)
  ·rw[if_pos (by omega),if_neg (by omega)]
   show zK 3 (38::5::((s%256:Nat):Int)::[]) _=_
   rw[zwM _ _ _ _ (by omega),ziC,c1];omega
  ·rw[if_pos (by omega),if_pos (by omega)]
   show zK 6 (38::5::((s%256:Nat):Int)::48::5::((s / 4096:Nat):Int)::[]) _=_
   rw[zwM _ _ _ _ (by omega),zwL _ _ _ _ (by omega),ziC,c1]
   exact c2 _ rfl
theorem zd5{s:Nat}(h:s<65536):digsN (qR s):=by
  intro n hn
  unfold qR at hn
  rw[zcW]at hn
  unfold zbJ at hn
  simp only[List.mem_append]at hn
  rcases hn with((hn|hn)|hn)|hn
  ·rw[List.mem_singleton.1 hn];omega
  ·rcases hn with((hn|hn)|hn)|hn<;>split at hn<;>simp at hn<;>omega
  ·split at hn<;>simp at hn;omega
  ·split at hn<;>simp at hn;omega
theorem zqK(s:Nat):qR s≠[]:=by unfold qR;simp
def zc9(g:Gs)(i:Nat):Gs:={zmp g [((i / g.w+1:Nat):Int),((i%g.w+1:Nat):Int)]with y:=i / g.w,x:=i%g.w}
def zhA(g:Gs)(s:Nat):Gs:={zmp g (qR s)with sty:=s}
def zhl(g:Gs):Gs:=qq {zmp g [2]with cs:=List.replicate g.cs.length (zr 0)}
def zvB(g:Gs)(b:Bool):Gs:={g with last:=0,stt:=0,num:=[25],asked:=true,void:=false,hid:=b}
theorem zso{g:Gs}{i:Nat}(hs:g.stt=0)(hw:g.w<=1024)(hh:g.h<=1024)(hi:i<g.w*g.h):digsN [((i / g.w+1:Nat):Int),((i%g.w+1:Nat):Int)]/\zB g (zo (za1 72 [((i / g.w+1:Nat):Int),((i%g.w+1:Nat):Int)]))=zc9 g i:=by
  have hw0:0<g.w:=by
    rcases Nat.eq_zero_or_pos g.w with e|e
    ·rw[e,Nat.zero_mul]at hi;omega
    ·exact e
  have h1:i / g.w<g.h:=Nat.div_lt_of_lt_mul hi
  have h2:i%g.w<g.w:=Nat.mod_lt _ hw0
  generalize hq:i / g.w=q at h1⊢
  generalize hr:i%g.w=r at h2⊢
  have hd:digsN [((q+1:Nat):Int),((r+1:Nat):Int)]:=by
    intro n hn
    rcases List.mem_cons.1 hn with hn|hn
    ·omega
    ·rw[List.mem_singleton.1 hn];omega
  refine⟨hd,?_⟩
  rw[zgp hs (by simp) hd (by decide) (by decide)]
  show zH _ 72=_
  unfold zH
  rw[if_neg (by show ¬false=true;decide),if_neg (by show ¬false=true;decide),if_pos rfl]
  have e1:qS ((q+1:Nat):Int) g.h=q:=by unfold qS;omega
  have e2:qS ((r+1:Nat):Int) g.w=r:=by unfold qS;omega
  unfold zc9
  rw[hq,hr]
  show({zmp g _ with y:=qS ((q+1:Nat):Int) g.h,x:=qS ((r+1:Nat):Int) g.w}:Gs)=_
  rw[e1,e2]
theorem zjU{g:Gs}{s:Nat}(hs:g.stt=0)(h:s<65536):zB g (zo (za1 109 (qR s)))=zhA g s:=by
  rw[zgp hs (zqK s) (zd5 h) (by decide) (by decide)]
  show zH _ 109=_
  unfold zH
  rw[if_neg (by show ¬false=true;decide),if_neg (by show ¬false=true;decide),if_neg (by decide),if_neg (fun hh=>absurd hh.1 (by decide)),if_pos rfl]
  show({zmp g _ with sty:=Zl (qR s) g.sty}:Gs)=_
  rw[zqJ h];rfl
theorem ztv{g:Gs}(hs:g.stt=0):zB g (zo (za1 74 [2]))=zhl g:=by
  rw[zgp hs (by simp) (fun n hn=>by rw[List.mem_singleton.1 hn];decide) (by decide) (by decide)]
  show zH _ 74=_
  unfold zH
  rw[if_neg (by show ¬false=true;decide),if_neg (by show ¬false=true;decide),if_neg (by decide),if_pos ⟨rfl,rfl⟩]
  rfl
theorem zi1(b:Bool):zw ⟨#[27,91,63,50,53,if b then 108 else 104]⟩=true/\zo ⟨#[27,91,63,50,53,if b then 108 else 104]⟩=[27,91]++[63,50,53,if b then 108 else 104]:=by
  cases b
  ·exact QR (l:=[27,91,63,50,53,104]) (by decide)
  ·exact QR (l:=[27,91,63,50,53,108]) (by decide)
theorem zq4{g:Gs}(hs:g.stt=2)(hn:g.num=[]):zi g 63={g with num:=[-1],asked:=true}:=by
  unfold zi
  rw[if_neg (by omega),if_pos hs]
  dsimp only
  rw[if_pos (by decide),if_pos hn]
  unfold qp
  rw[if_pos ⟨rfl,decide_eq_true hn⟩]
theorem zkd{g:Gs}(hs:g.stt=0)(b:Bool):zB g (zo ⟨#[27,91,63,50,53,if b then 108 else 104]⟩)=zvB g b:=by
  rw[(zi1 b).2,zlo hs,Zt,zq4 rfl rfl,Zt]
  rw[zdn (pre:=[]) (v:= -1) rfl rfl (by decide) (by decide),Zt]
  rw[zdn (pre:=[]) (v:=2) rfl rfl (by decide) (by decide),Zt]
  rw[zhP rfl (by simp) (by cases b<;>decide) (by cases b<;>decide)]
  unfold zH
  rw[if_neg (by show ¬false=true;decide),if_pos rfl,if_pos ⟨rfl,by cases b<;>decide⟩]
  cases b<;>rfl
end

section
open Go Vc Ut Tb Cl Orb
theorem zof{v d:Int}{r:Int}:∀{l:List (List RC×Int)},(∀p∈l,p.2≠v)->d≠v->ZS l d r≠v
  |[],_,hd=>hd
  |(c,u)::l,h,hd=>by
   unfold ZS
   split
   ·exact h (c,u) (by simp)
   ·exact zof (fun p hp=>h p (List.mem_cons_of_mem _ hp)) hd
theorem zpP:∀p∈zib.tail,p.2≠0:=by decide+kernel
theorem zk6{r:Int}(h:zl r=0):r<=31\/127<=r/\r<=159:=by
  unfold zl at h
  rw[show zib=([.le 31, .rg 127 159],0)::zib.tail from rfl]at h
  unfold ZS at h
  cases hc:zhI [.le 31, .rg 127 159] (zF r)with
  |true=>
   have hc:(decide (zF r<=31)||(decide (zF r>=127)&&decide (zF r<=159)))=true:=hc
   simp only[Bool.or_eq_true,Bool.and_eq_true,decide_eq_true_eq]at hc
   unfold zF at hc
   split at hc
   ·omega
   ·omega
  |false=>
   rw[hc]at h
   exact absurd h (zof zpP (by decide))
theorem zo2{x z y:Int}{n:Nat}(h:zl y=0):qc x z y n=false:=by
  have hb:=zk6 h
  have h1:qe y=false:=by
    unfold qe
    rw[Bool.or_eq_false_iff]
    exact⟨beq_eq_false_iff_ne.2 (by omega),beq_eq_false_iff_ne.2 (by omega)⟩
  have h2:qd y=false:=by
    unfold qd
    rw[decide_eq_false (show ¬127462<=y by omega)];rfl
  have h3:ql y=0:=by
    unfold ql
    rw[if_neg (by omega),if_neg (by omega),if_neg (by omega),if_neg (by omega)]
  unfold qc qm qP
  rw[h,h1,h2,h3,zyx]
  simp
theorem zor{s:ByteArray}{k:Nat}:∀(f n m:Nat),n<=m->m<goN s k f n->qO s k m=true
  |0,n,m,h1,h2=>by simp only[goN]at h2;omega
  |f+1,n,m,h1,h2=>by
   simp only[goN]at h2
   split at h2
   ·rename_i hg
    rcases Nat.lt_or_ge n m with h|h
    ·exact zor f (n+1) m h h2
    ·rw[show m=n by omega];exact hg
   ·omega
theorem PlainK.kind{s:ByteArray}{wd:Bool}(h:PlainK s wd){n:Nat}(hn:n<cnt s):zl (sg s n)≠0:=by
  intro hk
  rcases Nat.eq_zero_or_pos n with e|e
  ·subst e
   have hb:=zk6 hk
   have h1:=h.ctl
   have h2:=h.fmt
   unfold ZT at h2
   rw[Bool.or_eq_false_iff,Bool.or_eq_false_iff]at h2
   have h3:=of_decide_eq_false h2.1.1
   omega
  ·obtain⟨h0,hf, -⟩:=qL h.one
   unfold zq at hf
   rw[if_neg (by rw[h.bad];decide)]at hf
   split at hf
   ·rename_i hcr
    unfold crB at hcr
    rw[Bool.and_eq_true]at hcr
    have h1:=beq_iff_eq.1 hcr.1
    have:=h.ctl
    omega
   split at hf
   ·omega
   ·have hg:=zor (s:=s) (k:=0) 32 1 n e (by rw[hf];exact hn)
    unfold qO at hg
    simp only[Bool.and_eq_true,Nat.zero_add]at hg
    have:=hg.2.2.2
    rw[zo2 hk]at this
    cases this
def QA(s:ByteArray)(k:Nat):ByteArray:=s.extract 0 (pos s k)
theorem zmV(s:ByteArray):QA s (cnt s)=s:=by unfold QA;rw[ZA,ByteArray.extract_zero_size]
theorem zgA(r:Int):runesBytes [r]=Zo r:=by
  rw[zbG]
  show Utf8.encode r++ByteArray.empty=_
  rw[ByteArray.append_empty];rfl
theorem zsP{s:ByteArray}(h:zw s=true)(h0:0<cnt s):QA s 1=Zo ((zo s).getD 0 0):=by
  have hl:=zJ s
  unfold QA
  rw[<-zam h (show 1<=cnt s by omega)]
  cases hr:zo s with
  |nil=>rw[hr]at hl;simp at hl;omega
  |cons r l=>exact zgA r
theorem zvC{s:ByteArray}(h:zw s=true){k:Nat}(hk:k<cnt s):QA s k++Zo ((zo s).getD k 0)=QA s (k+1):=by
  have hl:=zJ s
  unfold QA
  rw[<-zam h (show k<=cnt s by omega),<-zam h (show k+1<=cnt s by omega),<-zgA,<-zap]
  congr 1
  rw[List.take_add_one,List.getElem?_eq_getElem (by omega),List.getD_eq_getElem?_getD,List.getElem?_eq_getElem (by omega)]
  rfl
theorem PlainK.hd{s:ByteArray}{wd:Bool}(h:PlainK s wd){j:Nat}(h1:1<=j)(hj:j<=cnt s):PlainK (QA s j) wd:=h.head h1 hj
theorem PlainK.hd_mono{s:ByteArray}{wd:Bool}(h:PlainK s wd){j k:Nat}(h1:1<=j)(hj:j<=k)(hk:k<=cnt s):Zy (QA s j) wd<=Zy (QA s k) wd:=by
  have hp:=h.hd (show 1<=k by omega) hk
  have hc:cnt (QA s k)=k:=Zd hk
  have:=hp.head_le h1 (show j<=cnt (QA s k) by omega)
  have e:(QA s k).extract 0 (pos (QA s k) j)=QA s j:=by
    unfold QA
    have hm:=zbZ s hj
    rw[zar hj hk,ByteArray.extract_extract]
    congr 1
    omega
  rw[e]at this
  exact this
theorem PlainK.hd_le{s:ByteArray}{wd:Bool}(h:PlainK s wd){j:Nat}(h1:1<=j)(hj:j<=cnt s):Zy (QA s j) wd<=Zy s wd:=h.head_le h1 hj
structure PutS(g:Gs)(i:Nat)(s:ByteArray)(k:Nat)(g':Gs):Prop where
  stt:g'.stt=0
  w:g'.w=g.w
  h:g'.h=g.h
  wd:g'.wd=g.wd
  sty:g'.sty=g.sty
  hid:g'.hid=g.hid
  y:g'.y=g.y
  x:g'.x=g.x+Zy (QA s k) g.wd
  last:g'.last=i+1
  len:g'.cs.length=g.cs.length
  p:(zg g'.cs i).p=0
  t:zL (zg g'.cs i)=QA s k
  st:(zg g'.cs i).st=g.sty
  two:Zy (QA s k) g.wd=2->(zg g'.cs (i+1)).p=1/\(zg g'.cs (i+1)).st=g.sty/\(zg g'.cs (i+1)).t.size=0
  low:∀j,j<i->zg g'.cs j=zg g.cs j
  high:∀j,i<j->(Zy (QA s k) g.wd=2->j≠i+1)->(zg g.cs j).p=0->zg g'.cs j=zg g.cs j
theorem zvs{g:Gs}{i n:Nat}{s:ByteArray}(hi:i<g.cs.length)(hxy:g.y*g.w+g.x=i)(hp:(zg g.cs i).p=0)(hn:n=1\/n=2)(h2:n=2->(i+1)%g.w≠0/\i+1<g.cs.length):
    (Qc g s n).cs.length=g.cs.length/\zg (Qc g s n).cs i=⟨s,0,0,0,false,g.sty⟩/\(n=2->zg (Qc g s n).cs (i+1)=Zs g.sty)/\(∀j,j<i->zg (Qc g s n).cs j=zg g.cs j)/\(∀j,i<j->(n=2->j≠i+1)->(zg g.cs j).p=0->zg (Qc g s n).cs j=zg g.cs j):=by
  unfold Qc
  dsimp only
  rw[hxy]
  rcases hn with hn|hn
  ·subst hn
   rw[if_neg (by decide),if_neg (by decide)]
   have hc:=Zf (w:=g.w) (c:=(⟨s,0,0,0,false,g.sty⟩:Ce)) hi (fun h=>by rw[hp]at h;cases h)
   refine⟨zN _ _ _ _,by rw[hc,if_pos rfl],fun h=>absurd h (by decide),fun j hj=> ?_,fun j hj _ hpj=> ?_⟩
   ·rw[hc,if_neg (by omega),if_neg (by rw[hp];decide),if_neg (fun h=>by have:=h.2.2;omega)]
   ·rw[hc,if_neg (by omega),if_neg (by rw[hp];decide),if_neg (fun h=> ?_)]
    have e:=h.2.2
    rw[e]at hpj
    rw[hpj]at h
    exact absurd h.2.1 (by decide)
  ·subst hn
   obtain⟨hm,hi1⟩:=h2 rfl
   rw[if_pos rfl,if_pos rfl]
   have hc1:=Zf (l:=g.cs) (w:=g.w) (c:=zr g.sty) hi1 (fun _=>Nat.succ_pos i)
   simp only[Nat.add_sub_cancel]at hc1
   have hl1:=zN g.cs g.w (i+1) (zr g.sty)
   generalize zC g.cs g.w (i+1) (zr g.sty)=c1 at hc1 hl1⊢
   have p1:(zg c1 i).p=0:=by
     rw[hc1,if_neg (by omega)]
     split
     ·rw[if_pos rfl];rfl
     ·rw[if_neg (fun h=>by have:=h.2.2;omega)];exact hp
   have q1:zg c1 (i+1)=zr g.sty:=by rw[hc1,if_pos rfl]
   have hc2:=Zf (l:=c1) (i:=i) (w:=g.w) (c:=(⟨s,0,0,0,false,g.sty⟩:Ce)) (by omega) (fun h=>by rw[p1]at h;cases h)
   have hl2:=zN c1 g.w i (⟨s,0,0,0,false,g.sty⟩:Ce)
   generalize zC c1 g.w i (⟨s,0,0,0,false,g.sty⟩:Ce)=c2 at hc2 hl2⊢
   have hc2':∀j,zg c2 j=if j=i then(⟨s,0,0,0,false,g.sty⟩:Ce)else zg c1 j:=fun j=>by
     rw[hc2]
     by_cases hj:j=i
     ·rw[if_pos hj,if_pos hj]
     ·rw[if_neg hj,if_neg hj,if_neg (by rw[p1];decide),if_neg (fun h=>by rw[q1]at h;exact absurd (show(0:Int)=1 from h.2.1) (by decide))]
   have q2:zg c2 (i+1)=zr g.sty:=by rw[hc2',if_neg (by omega),q1]
   have hs:∀j,zg (c2.set (i+1) {zg c2 (i+1)with p:=1}) j=if j=i+1 then {zg c2 (i+1)with p:=1}else zg c2 j:=fun j=>qZ (by omega)
   refine⟨by rw[List.length_set,hl2,hl1],?_,fun _=> ?_,fun j hj=> ?_,fun j hj hn2 hpj=> ?_⟩
   ·rw[hs,if_neg (by omega),hc2',if_pos rfl]
   ·rw[hs,if_pos rfl,q2];rfl
   ·rw[hs,if_neg (by omega),hc2',if_neg (by omega),hc1,if_neg (by omega)]
    split
    ·rw[if_neg (by omega)]
    ·rw[if_neg (fun h=>by have:=h.2.2;omega)]
   ·have hne:=hn2 rfl
    rw[hs,if_neg hne,hc2',if_neg (by omega),hc1,if_neg hne]
    split
    ·rw[if_neg (by omega)]
    ·rw[if_neg (fun h=> ?_)]
     have e:=h.2.2
     rw[e]at hpj
     rw[hpj]at h
     exact absurd h.2.1 (by decide)
theorem zvt(g:Gs)(s:ByteArray)(n:Nat):(Qc g s n).stt=g.stt/\(Qc g s n).w=g.w/\(Qc g s n).h=g.h/\(Qc g s n).wd=g.wd/\(Qc g s n).sty=g.sty/\(Qc g s n).hid=g.hid/\(Qc g s n).y=g.y/\(Qc g s n).x=g.x+n/\(Qc g s n).last=g.y*g.w+g.x+1:=
  ⟨rfl,rfl,rfl,rfl,rfl,rfl,rfl,rfl,rfl⟩
theorem zuP{g:Gs}{i:Nat}{s:ByteArray}{r:Int}(hs:g.stt=0)(hp:PlainK s g.wd)(hr:r=(zo s).getD 0 0)(hi:i<g.cs.length)(hl:g.cs.length=g.w*g.h)(hxy:g.y*g.w+g.x=i)(hx:g.x<g.w)
    (h2:Zy s g.wd=2->(i+1)%g.w≠0) (hp0:(zg g.cs i).p=0) (hj:zX g r=none):PutS g i s 1 (zi g r):=by
  obtain⟨h0, -, -⟩:=qL hp.one
  have hk:zl r≠0:=by
    rw[hr,Zc h0]
    exact hp.kind h0
  have h1:=hp.hd (Nat.le_refl 1) h0
  have hd1:=zsP hp.val h0
  rw[<-hr]at hd1
  have hbd:=h1.bd
  have hle:=hp.hd_le (Nat.le_refl 1) h0
  have hpl:=h1.plN
  have hpo:=zgK h1
  have htx:(Zb (Zo r) 0 (lkW g.wd)).1=QA s 1:=by rw[<-hd1,zgO h1.one,hpo]
  have e0:zi g r=qD g r:=by
    unfold zi
    rw[if_neg (by omega),if_neg (by omega)]
    unfold qy
    rw[if_pos hk]
  have hw0:0<g.w:=by omega
  have hh0:g.h≠0:=by
    intro e
    rw[e,Nat.mul_zero]at hl;omega
  have two:Zy (QA s 1) g.wd=2->(i+1)%g.w≠0/\i+1<g.cs.length/\g.x+2<=g.w:=by
    intro e
    have hm:=h2 (by have:=hp.bd;omega)
    have hxw:g.x+1≠g.w:=by
      intro e2
      apply hm
      rw[show i+1=g.w+g.y*g.w by omega,Nat.add_mul_mod_self_right,Nat.mod_self]
    refine⟨hm,?_,by omega⟩
    rcases Nat.lt_or_ge (i+1) g.cs.length with h|h
    ·exact h
    ·exfalso;apply hm
     rw[show i+1=g.w*g.h by omega,Nat.mul_mod_right]
  have e1:qD g r=Qc {g with last:=0} (QA s 1) (Zy (QA s 1) g.wd):=by
    unfold qD
    rw[hj]
    dsimp only
    rw[htx,hpl]
    generalize Zy (QA s 1) g.wd=n at hbd two
    have hb:n≠0/\n<=g.w/\g.x+n<=g.w:=by
      by_cases e:n=2
      ·have:=two e;omega
      ·omega
    rw[if_neg (by omega),if_neg (by omega)]
  rw[e0,e1]
  have hlp:=zvs (g:={g with last:=0}) (s:=QA s 1) (n:=Zy (QA s 1) g.wd) hi hxy hp0 (by omega) (fun e=>⟨(two e).1,(two e).2.1⟩)
  obtain⟨l1,l2,l3,l4,l5⟩:=hlp
  obtain⟨f1,f2,f3,f4,f5,f6,f7,f8,f9⟩:=zvt {g with last:=0} (QA s 1) (Zy (QA s 1) g.wd)
  generalize Qc {g with last:=0} (QA s 1) (Zy (QA s 1) g.wd)=G at l1 l2 l3 l4 l5 f1 f2 f3 f4 f5 f6 f7 f8 f9⊢
  refine⟨f1.trans hs,f2,f3,f4,f5,f6,f7,f8,?_,l1,by rw[l2],?_,by rw[l2],fun e=> ?_,l4,l5⟩
  ·rw[f9,<-hxy]
  ·rw[l2]
   exact zfP (wd:=g.wd) (c:=⟨QA s 1,0,0,0,false,g.sty⟩) rfl (by show plN (QA s 1) g.wd≠0;rw[hpl];omega)
  ·rw[l3 e];exact⟨rfl,rfl,rfl⟩
theorem zrW{g g':Gs}{i k:Nat}{s:ByteArray}{r:Int}(hp:PlainK s g.wd)(hk1:1<=k)(hk:k<cnt s)(hr:r=(zo s).getD k 0)(hi:i<g.cs.length)(hl:g.cs.length=g.w*g.h)
    (h2:Zy s g.wd=2->(i+1)%g.w≠0) (h:PutS g i s k g'):PutS g i s (k+1) (zi g' r):=by
  have hkd:zl r≠0:=by
    rw[hr,Zc hk]
    exact hp.kind hk
  have hst:=zvC hp.val hk
  rw[<-hr]at hst
  have pa:=hp.hd hk1 (Nat.le_of_lt hk)
  have pb:=hp.hd (j:=k+1) (by omega) hk
  have hmono:=hp.hd_mono (k:=k+1) hk1 (by omega) hk
  have hle:=hp.hd_le (j:=k+1) (by omega) hk
  have ba:=pa.bd;have bb:=pb.bd;have bs:=hp.bd
  have hs':=h.stt
  have e0:zi g' r=qD g' r:=by
    unfold zi
    rw[if_neg (by omega),if_neg (by omega)]
    unfold qy
    rw[if_pos hkd]
  have hlast:=h.last
  have hn1:plN (zL (zg g'.cs i)) g'.wd=Zy (QA s k) g.wd:=by rw[h.t,h.wd,pa.plN]
  have hn2:plN (zL (zg g'.cs i)++Zo r) g'.wd=Zy (QA s (k+1)) g.wd:=by rw[h.t,hst,h.wd,pb.plN]
  have htn:zL (zg g'.cs i)++Zo r=QA s (k+1):=by rw[h.t,hst]
  have hi':i<g'.cs.length:=by rw[h.len];exact hi
  have tx:∀c:Ce,c.p=0->zL {c with t:=QA s (k+1)}=QA s (k+1):=fun c hc=>zfP (wd:=g.wd) hc (by show plN (QA s (k+1)) g.wd≠0;rw[pb.plN];omega)
  rw[e0]
  by_cases hgr:Zy (QA s k) g.wd<Zy (QA s (k+1)) g.wd
  ·have hm:(i+1)%g.w≠0:=h2 (by omega)
   have hi1:i+1<g'.cs.length:=by
     rw[h.len]
     rcases Nat.lt_or_ge (i+1) g.cs.length with hh|hh
     ·exact hh
     ·exfalso;apply hm
      rw[show i+1=g.w*g.h by omega,Nat.mul_mod_right]
   have ej:zX g' r=some {g' with cs:=(zC g'.cs g'.w (i+1) (Zs (zg g'.cs i).st)).set i {zg (zC g'.cs g'.w (i+1) (Zs (zg g'.cs i).st)) i with t:=QA s (k+1)},x:=g'.x+1}:=by
     unfold zX
     simp only[hlast,Nat.add_sub_cancel]
     rw[if_neg (Nat.succ_ne_zero i),hn1,hn2,if_neg (by omega),if_pos hgr,h.w,if_neg hm,htn]
   have ep:qD g' r={g' with cs:=(zC g'.cs g'.w (i+1) (Zs (zg g'.cs i).st)).set i {zg (zC g'.cs g'.w (i+1) (Zs (zg g'.cs i).st)) i with t:=QA s (k+1)},x:=g'.x+1}:=by
     unfold qD;rw[ej]
   rw[ep]
   have hc:=Zf (l:=g'.cs) (w:=g'.w) (c:=Zs (zg g'.cs i).st) hi1 (fun _=>Nat.succ_pos i)
   simp only[Nat.add_sub_cancel]at hc
   have hll:=zN g'.cs g'.w (i+1) (Zs (zg g'.cs i).st)
   rw[h.st]at hc hll⊢
   generalize zC g'.cs g'.w (i+1) (Zs g.sty)=c1 at hc hll⊢
   have c1i:(zg c1 i).p=0/\(zg c1 i).st=g.sty:=by
     rw[hc,if_neg (by omega)]
     split
     ·rw[if_pos rfl];exact⟨rfl,rfl⟩
     ·rw[if_neg (fun hh=>by have:=hh.2.2;omega)];exact⟨h.p,h.st⟩
   have hset:∀j,zg (c1.set i {zg c1 i with t:=QA s (k+1)}) j=if j=i then {zg c1 i with t:=QA s (k+1)}else zg c1 j:=fun j=>qZ (by omega)
   have w1:Zy (QA s k) g.wd=1:=by omega
   have w2:Zy (QA s (k+1)) g.wd=2:=by omega
   refine⟨hs',h.w,h.h,h.wd,h.sty,h.hid,h.y,?_,hlast,?_,?_,?_,?_,fun _=> ?_,fun j hj=> ?_,fun j hj hn hpj=> ?_⟩
   ·show g'.x+1=_
    rw[h.x,w1,w2]
   ·show(c1.set i _).length=_
    rw[List.length_set,hll,h.len]
   ·show(zg (c1.set i _) i).p=0
    rw[hset,if_pos rfl];exact c1i.1
   ·show zL (zg (c1.set i _) i)=_
    rw[hset,if_pos rfl];exact tx _ c1i.1
   ·show(zg (c1.set i _) i).st=_
    rw[hset,if_pos rfl];exact c1i.2
   ·show(zg (c1.set i _) (i+1)).p=1/\(zg (c1.set i _) (i+1)).st=_/\(zg (c1.set i _) (i+1)).t.size=0
    rw[hset,if_neg (by omega),hc,if_pos rfl]
    exact⟨rfl,rfl,rfl⟩
   ·show zg (c1.set i _) j=_
    rw[hset,if_neg (by omega),hc,if_neg (by omega),<-h.low j hj]
    split
    ·rw[if_neg (by omega)]
    ·rw[if_neg (fun hh=>by have:=hh.2.2;omega)]
   ·show zg (c1.set i _) j=_
    have hne:=hn w2
    have hhi:=h.high j hj (fun e=>by omega) hpj
    rw[hset,if_neg (by omega),hc,if_neg hne]
    split
    ·rw[if_neg (by omega)];exact hhi
    ·rw[if_neg (fun hh=> ?_)]
     ·exact hhi
     ·have e:=hh.2.2
      have h5:=hh.2.1
      rw[<-e,hhi,hpj]at h5
      exact absurd h5 (by decide)
  ·have ej:zX g' r=some {g' with cs:=g'.cs.set i {zg g'.cs i with t:=QA s (k+1)}}:=by
     unfold zX
     simp only[hlast,Nat.add_sub_cancel]
     rw[if_neg (Nat.succ_ne_zero i),hn1,hn2,if_neg (by omega),if_neg hgr,htn]
   have ep:qD g' r={g' with cs:=g'.cs.set i {zg g'.cs i with t:=QA s (k+1)}}:=by
     unfold qD;rw[ej]
   rw[ep]
   have hset:∀j,zg (g'.cs.set i {zg g'.cs i with t:=QA s (k+1)}) j=if j=i then {zg g'.cs i with t:=QA s (k+1)}else zg g'.cs j:=fun j=>qZ hi'
   have ww:Zy (QA s (k+1)) g.wd=Zy (QA s k) g.wd:=by omega
   refine⟨hs',h.w,h.h,h.wd,h.sty,h.hid,h.y,?_,hlast,?_,?_,?_,?_,fun e=> ?_,fun j hj=> ?_,fun j hj hn hpj=> ?_⟩
   ·show g'.x=_
    rw[h.x,ww]
   ·show(g'.cs.set i _).length=_
    rw[List.length_set,h.len]
   ·show(zg (g'.cs.set i _) i).p=0
    rw[hset,if_pos rfl];exact h.p
   ·show zL (zg (g'.cs.set i _) i)=_
    rw[hset,if_pos rfl];exact tx _ h.p
   ·show(zg (g'.cs.set i _) i).st=_
    rw[hset,if_pos rfl];exact h.st
   ·show(zg (g'.cs.set i _) (i+1)).p=1/\(zg (g'.cs.set i _) (i+1)).st=_/\(zg (g'.cs.set i _) (i+1)).t.size=0
    rw[hset,if_neg (by omega)]
    exact h.two (by omega)
   ·show zg (g'.cs.set i _) j=_
    rw[hset,if_neg (by omega)]
    exact h.low j hj
   ·show zg (g'.cs.set i _) j=_
    rw[hset,if_neg (by omega)]
    exact h.high j hj (fun e=>hn (by omega)) hpj
theorem zij(g:Gs)(l:List Int){k:Nat}(hk:k<l.length):zB g (l.take (k+1))=zi (zB g (l.take k)) (l.getD k 0):=by
  unfold zB
  rw[List.take_add_one,List.getElem?_eq_getElem hk,Option.toList_some,List.foldl_append,List.getD_eq_getElem?_getD,List.getElem?_eq_getElem hk]
  rfl
theorem zuQ{g:Gs}{i:Nat}{s:ByteArray}(hs:g.stt=0)(hp:PlainK s g.wd)(hi:i<g.cs.length)(hl:g.cs.length=g.w*g.h)(hxy:g.y*g.w+g.x=i)(hx:g.x<g.w)
    (h2:Zy s g.wd=2->(i+1)%g.w≠0) (hp0:(zg g.cs i).p=0) (hj:zX g ((zo s).getD 0 0)=none):PutS g i s (cnt s) (zB g (zo s)):=by
  obtain⟨h0, -, -⟩:=qL hp.one
  have hrl:=zJ s
  have key:∀k,k+1<=cnt s->PutS g i s (k+1) (zB g ((zo s).take (k+1))):=by
    intro k
    induction k with
    |zero=>
     intro _
     rw[zij g _ (by omega)]
     exact zuP hs hp rfl hi hl hxy hx h2 hp0 hj
    |succ k ih=>
     intro hk
     rw[zij g _ (by omega)]
     exact zrW hp (by omega) (by omega) rfl hi hl h2 (ih (by omega))
  obtain⟨k,hk⟩:∃k,cnt s=k+1:=⟨cnt s - 1,by omega⟩
  have:=key k (by omega)
  rw[<-hk,List.take_of_length_le (by omega)]at this
  exact this
end

section
open Go Vc Ut Tb Cl Orb
structure Lnk(t:Te)(g:Gs):Prop where
  stt:g.stt=0
  st:g.sty=t.st
  w:t.w=g.w
  wd:t.wd=g.wd
  ps:t.ps≠ -1->t.ps=((g.y*g.w+g.x:Nat):Int)/\g.x<g.w
  l0:t.last.size=0->g.last=0
  l1:t.last.size≠0->g.last≠0/\zL (zg g.cs (g.last - 1))=t.last
structure Fed(g0:Gs)(t:Te)(g:Gs):Prop where
  val:zw t.b=true
  fed:g=zB g0 (zo t.b)
  lnk:Lnk t g
theorem Fed.ok{g0 g:Gs}{t:Te}{m:Nat}(h:Fed g0 t g)(h0:okG g0 m):okG g (m+(zo t.b).length):=by rw[h.fed];exact zdH _ h0
theorem zay{g0 g:Gs}{a b:ByteArray}(h:zw a=true)(hf:g=zB g0 (zo a))(hb:zw b=true):zw (a++b)=true/\zB g0 (zo (a++b))=zB g (zo b):=by
  have:=QD h hb
  exact⟨this.1,by rw[this.2,Q0,<-hf]⟩
theorem zlm{g0 g:Gs}{t:Te}{i:Nat}(hv:zw t.b=true)(hf:g=zB g0 (zo t.b))(hs:g.stt=0)(hw:t.w=g.w)(h1:g.w<=1024)(h2:g.h<=1024)(hi:i<g.w*g.h):
    zw (Qj t (i:Int)).b=true/\zc9 g i=zB g0 (zo (Qj t (i:Int)).b):=by
  obtain⟨m1,m2⟩:=zso hs h1 h2 hi
  have e:[(i:Int) / t.w+1,(i:Int)%t.w+1]=[((i / g.w+1:Nat):Int),((i%g.w+1:Nat):Int)]:=by
    rw[hw,Int.natCast_add,Int.natCast_add,Int.natCast_ediv,Int.natCast_emod];rfl
  have hb:(Qj t (i:Int)).b=t.b++za1 72 [((i / g.w+1:Nat):Int),((i%g.w+1:Nat):Int)]:=by
    unfold Qj zhC;rw[e]
  rw[hb]
  have:=zay hv hf (zdq (c:=72) (by decide) m1).1
  exact⟨this.1,by rw[this.2,m2]⟩
theorem zxK{g:Gs}{i:Nat}(hw:0<g.w):(zc9 g i).y*(zc9 g i).w+(zc9 g i).x=i/\(zc9 g i).x<(zc9 g i).w:=
  ⟨by show i / g.w*g.w+i%g.w=i;rw[Nat.mul_comm];exact Nat.div_add_mod i g.w,Nat.mod_lt _ hw⟩
theorem zkG{w h i:Nat}(hi:i<w*h):0<w:=by
  rcases Nat.eq_zero_or_pos w with e|e
  ·rw[e,Nat.zero_mul]at hi;omega
  ·exact e
theorem Fed.move{g0 g:Gs}{t:Te}{i:Nat}(h:Fed g0 t g)(h1:g.w<=1024)(h2:g.h<=1024)(hi:i<g.w*g.h):Fed g0 (Qj t (i:Int)) (zc9 g i):=by
  obtain⟨v,f⟩:=zlm h.val h.fed h.lnk.stt h.lnk.w h1 h2 hi
  have ha:=zxK (g:=g) (i:=i) (zkG hi)
  exact⟨v,f,⟨rfl,h.lnk.st,h.lnk.w,h.lnk.wd,fun _=>⟨by rw[ha.1];rfl,ha.2⟩,fun _=>rfl,fun hh=>absurd rfl hh⟩⟩
theorem Fed.wear{g0 g:Gs}{t:Te}{s:Nat}(h:Fed g0 t g)(hs:s<65536):Fed g0 (Qe t s) (zhA g s):=by
  have:=zay h.val h.fed (zdq (c:=109) (by decide) (zd5 hs)).1
  exact⟨this.1,by rw[<-zjU h.lnk.stt hs,<-this.2];rfl,⟨rfl,rfl,h.lnk.w,h.lnk.wd,h.lnk.ps,fun _=>rfl,fun hh=>absurd rfl hh⟩⟩
theorem Fed.clear{g0 g:Gs}{t:Te}(h:Fed g0 t g)(hp:t.ps= -1):Fed g0 (zhC t 74 [2]) (zhl g):=by
  have:=zay h.val h.fed (zdq (c:=74) (l:=[2]) (by decide) (fun n hn=>by rw[List.mem_singleton.1 hn];decide)).1
  have hb:∀g:Gs,(qq g).stt=g.stt/\(qq g).sty=g.sty/\(qq g).w=g.w/\(qq g).wd=g.wd/\(qq g).last=g.last:=fun g=>by
    unfold qq;split<;>exact⟨rfl,rfl,rfl,rfl,rfl⟩
  have hc:=hb {zmp g [2]with cs:=List.replicate g.cs.length (zr 0)}
  exact⟨this.1,by rw[<-ztv h.lnk.stt,<-this.2];rfl,⟨hc.1,hc.2.1.trans h.lnk.st,by rw[show(zhl g).w=g.w from hc.2.2.1];exact h.lnk.w,by rw[show(zhl g).wd=g.wd from hc.2.2.2.1];exact h.lnk.wd,fun hh=>absurd hp hh,fun _=>hc.2.2.2.2,fun hh=>absurd rfl hh⟩⟩
structure Stay(g g':Gs):Prop where
  cs:g'.cs=g.cs
  w:g'.w=g.w
  h:g'.h=g.h
  wd:g'.wd=g.wd
  hid:g'.hid=g.hid
theorem Stay.refl(g:Gs):Stay g g:=⟨rfl,rfl,rfl,rfl,rfl⟩
theorem Stay.trans{a b c:Gs}(h:Stay a b)(k:Stay b c):Stay a c:=⟨k.cs.trans h.cs,k.w.trans h.w,k.h.trans h.h,k.wd.trans h.wd,k.hid.trans h.hid⟩
theorem zj8(g:Gs)(i:Nat):Stay g (zc9 g i):=⟨rfl,rfl,rfl,rfl,rfl⟩
theorem zq6(g:Gs)(s:Nat):Stay g (zhA g s):=⟨rfl,rfl,rfl,rfl,rfl⟩
theorem zvf{s:ByteArray}(h0:0<cnt s):s.extract 0 (QB s)=QA s 1:=by
  have hp:=qJ.1 h0
  have h1:=qh hp
  have e0:pos s 0=0:=rfl
  unfold QA QB
  rw[if_neg (by omega),h1,e0,Nat.zero_add]
structure Told(g:Gs)(i:Nat)(c:Ce)(g':Gs):Prop where
  len:g'.cs.length=g.cs.length
  w:g'.w=g.w
  h:g'.h=g.h
  wd:g'.wd=g.wd
  hid:g'.hid=g.hid
  p:(zg g'.cs i).p=0
  t:zL (zg g'.cs i)=zL c
  st:(zg g'.cs i).st=c.st
  low:∀j,j<i->zg g'.cs j=zg g.cs j
  high:∀j,i<j->(plN (zL c) g.wd=2->j≠i+1)->(zg g.cs j).p=0->zg g'.cs j=zg g.cs j
theorem Fed.tell{g0 g:Gs}{t:Te}{m i:Nat}{c:Ce}(h:Fed g0 t g)(h0:okG g0 m)(hi:i<g.cs.length)(hst:c.st<65536)(hp:PlainK (zL c) g.wd)(h2:plN (zL c) g.wd=2->(i+1)%g.w≠0)(hp0:(zg g.cs i).p=0):
    ∃g',Fed g0 (Qq t (i:Int) c) g'/\Told g i c g':=by
  unfold Qq
  have hok:=h.ok h0
  have hw:=hok.w;have hh:=hok.h;have hlen:=hok.len
  have hi':i<g.w*g.h:=by omega
  have hw0:=zkG hi'
  rw[hp.plN]at h2
  obtain⟨g1,f1,s1,p1⟩:∃g1,Fed g0 (te1 t i) g1/\Stay g g1/\(te1 t i).ps=i:=by
    unfold te1
    by_cases e:t.ps≠i
    ·rw[if_pos e]
     exact⟨zc9 g i,h.move hw hh hi',zj8 g i,rfl⟩
    ·rw[if_neg e]
     exact⟨g,h,Stay.refl g,Decidable.not_not.1 e⟩
  obtain⟨g2,f2,s2,p2,q2⟩:∃g2,Fed g0 (te2 (te1 t i) c.st) g2/\Stay g g2/\(te2 (te1 t i) c.st).ps=i/\g2.sty=c.st:=by
    unfold te2
    by_cases e:(te1 t i).st≠c.st
    ·rw[if_pos e]
     exact⟨zhA g1 c.st,f1.wear hst,s1.trans (zq6 g1 c.st),p1,rfl⟩
    ·rw[if_neg e]
     exact⟨g1,f1,s1,p1,f1.lnk.st.trans (Decidable.not_not.1 e)⟩
  generalize te2 (te1 t i) c.st=t2 at f2 p2⊢
  obtain⟨hc0, -, -⟩:=qL hp.one
  obtain⟨g3,f3,s3,p3,q3,j3⟩:∃g3,Fed g0 (te3 t2 i (zL c)) g3/\Stay g g3/\(te3 t2 i (zL c)).ps=i/\g3.sty=c.st/\zX g3 ((zo (zL c)).getD 0 0)=none:=by
    unfold te3
    by_cases e:zew t2 (zL c)=true
    ·rw[if_pos e]
     refine⟨zc9 g2 i,f2.move (by rw[s2.w];exact hw) (by rw[s2.h];exact hh) (by rw[s2.w,s2.h];exact hi'),s2.trans (zj8 g2 i),rfl,q2,?_⟩
     unfold zX
     rw[if_pos (show(zc9 g2 i).last=0 from rfl)]
    ·rw[if_neg e]
     refine⟨g2,f2,s2,p2,q2,?_⟩
     by_cases hl:g2.last=0
     ·unfold zX;rw[if_pos hl]
     ·have hsz:t2.last.size≠0:=fun hh=>hl (f2.lnk.l0 hh)
      obtain⟨-,htx⟩:=f2.lnk.l1 hsz
      have hok2:=f2.ok h0
      have hlo:=hok2.last hl
      have h12:=ZQ (i:=g2.last - 1) hok2.ok (by have:=hlo.le;omega) hlo.p
      have hn1:1<=plN (zL (zg g2.cs (g2.last - 1))) g2.wd:=by rcases h12 with h12|h12<;>omega
      have hnc:¬qW (t2.last++Zo ((zo (zL c)).getD 0 0))=1:=by
        intro hh
        apply e
        unfold zew
        rw[zvf hc0,zsP hp.val hc0,hh,decide_eq_true hsz]
        rfl
      have hz:plN (zL (zg g2.cs (g2.last - 1))++Zo ((zo (zL c)).getD 0 0)) g2.wd=0:=by
        rw[htx]
        unfold plN
        rw[if_neg (fun hh=>hnc hh.2.1)]
      unfold zX
      rw[if_neg hl,hz,if_pos (by omega)]
  generalize te3 t2 i (zL c)=t3 at f3 p3⊢
  have hps:=f3.lnk.ps (by rw[p3];omega)
  have hxy:g3.y*g3.w+g3.x=i:=by have:=hps.1;rw[p3]at this;omega
  have hx:=hps.2
  have hput:=zuQ (i:=i) (s:=zL c) f3.lnk.stt (by rw[s3.wd];exact hp) (by rw[s3.cs];exact hi) (by rw[s3.cs,s3.w,s3.h];exact hlen) hxy hx (by rw[s3.wd,s3.w];exact h2) (by rw[s3.cs];exact hp0) j3
  have hmore:=zay f3.val f3.fed hp.val
  have hwid:Zy (QA (zL c) (cnt (zL c))) g3.wd=Zy (zL c) g.wd:=by rw[zmV,s3.wd]
  refine⟨zB g3 (zo (zL c)),⟨hmore.1,hmore.2.symm,?_⟩,?_⟩
  ·have hsz:=zjq hp.one
   have hbd:=hp.bd
   refine⟨hput.stt,?_,?_,?_,?_,fun hh=> ?_,fun _=>⟨?_,?_⟩⟩
   ·rw[hput.sty];exact f3.lnk.st
   ·rw[hput.w];exact f3.lnk.w
   ·rw[hput.wd];exact f3.lnk.wd
   ·show(if((i:Int)+plN (zL c) t3.wd)%t3.w=0 then(-1:Int)else(i:Int)+plN (zL c) t3.wd)≠ -1->(if((i:Int)+plN (zL c) t3.wd)%t3.w=0 then(-1:Int)else(i:Int)+plN (zL c) t3.wd)=_/\_
    have ew:t3.w=g3.w:=f3.lnk.w
    have ed:t3.wd=g.wd:=f3.lnk.wd.trans s3.wd
    rw[ew,ed,hp.plN,hput.x,hput.y,hput.w,hwid,<-Int.natCast_add,<-Int.natCast_emod]
    have hxn:g3.x+Zy (zL c) g.wd<=g3.w:=by
      by_cases e2:Zy (zL c) g.wd=2
      ·have:=h2 e2
       rw[<-s3.w]at this
       have hne:g3.x+1≠g3.w:=by
         intro e3
         apply this
         rw[show i+1=g3.w+g3.y*g3.w by omega,Nat.add_mul_mod_self_right,Nat.mod_self]
       omega
      ·omega
    by_cases e:(((i+Zy (zL c) g.wd)%g3.w:Nat):Int)=0
    ·rw[if_pos e];intro hh;exact absurd rfl hh
    ·rw[if_neg e]
     intro _
     refine⟨by omega,?_⟩
     rcases Nat.lt_or_ge (g3.x+Zy (zL c) g.wd) g3.w with h5|h5
     ·exact h5
     ·exfalso;apply e
      rw[show i+Zy (zL c) g.wd=g3.w+g3.y*g3.w by omega,Nat.add_mul_mod_self_right,Nat.mod_self];rfl
   ·exact absurd hh (by show ¬(zL c).size=0;omega)
   ·rw[hput.last];exact Nat.succ_ne_zero i
   ·rw[hput.last,Nat.add_sub_cancel,hput.t,zmV];rfl
  ·refine⟨by rw[hput.len,s3.cs],by rw[hput.w,s3.w],by rw[hput.h,s3.h],by rw[hput.wd,s3.wd],by rw[hput.hid,s3.hid],hput.p,by rw[hput.t,zmV],by rw[hput.st,q3],fun j hj=>by rw[hput.low j hj,s3.cs],fun j hj hn hpj=> ?_⟩
   rw[hput.high j hj (fun e=>hn (by rw[hp.plN,<-hwid];exact e)) (by rw[s3.cs];exact hpj),s3.cs]
end

section
open Go Vc Ut Tb Cl Orb
structure LoopI(b:List Ce)(g0 g1:Gs)(t:Te)(g:Gs)(i:Nat):Prop where
  fed:Fed g0 t g
  w:g.w=g1.w
  h:g.h=g1.h
  wd:g.wd=g1.wd
  len:g.cs.length=b.length
  pre:∀j,j<i->qv (zg g.cs j) (zg b j)=true
  post:∀j,i<=j->(zg b j).p=0->(zg g1.cs j).p=0->zg g.cs j=zg g1.cs j
theorem zpJ{kn:Bool}{a b:List Ce}{g0 g1 g:Gs}{t0:Te}{m i:Nat}(h0:okG g0 m)(hb:okL b g1.w g1.wd)(hst:∀c∈b,c.st<65536)
    (hk:kn=true->∀j,j<b.length->qv (zg g1.cs j) (zg a j)=true) (hi:i<b.length) (h:LoopI b g0 g1 (qB kn a b t0 i) g i):∃g',LoopI b g0 g1 (qB kn a b t0 (i+1)) g' (i+1):=by
  have hok:=h.fed.ok h0
  have hg:=hok.ok
  have hlen:=h.len
  have hbi:=hb i hi
  simp only[qB]
  by_cases hT:QE kn a b i=true
  ·rw[if_pos hT]
   have hp:(zg b i).p=0:=by
     unfold QE at hT
     rw[Bool.and_eq_true]at hT
     exact beq_iff_eq.1 hT.1
   have h2:=ZQ hb hi hp
   have hpl:plN (zL (zg b i)) g.wd≠0:=by rw[h.wd];rcases h2 with h2|h2<;>omega
   have hp0:(zg g.cs i).p=0:=by
     have hgi:=hg i (by omega)
     unfold ZR at hgi
     split at hgi
     ·exfalso
      obtain⟨k1,k2,k3⟩:=hgi
      obtain⟨e1, -,e3⟩:=ZJ.1 (h.pre (i - 1) (by omega))
      have hb1:=ZQ (i:=i - 1) hb (by omega) (by rw[<-e1];exact k2)
      rw[<-e3,<-h.wd,k3]at hb1
      rcases hb1 with hb1|hb1
      ·omega
      ·have:=hb1.2.2.2.1
       rw[show i - 1+1=i by omega,hp]at this
       exact absurd this (by decide)
     ·exact hgi.1
   obtain⟨g',f',d'⟩:=h.fed.tell (i:=i) (c:=zg b i) h0 (by omega) (hst _ (zdW hi)) (zkJ hpl) (fun e=>by
     rw[h.wd]at e
     rw[h.w]
     rcases h2 with h2|h2
     ·omega
     ·exact h2.2.1) hp0
   refine⟨g',f',d'.w.trans h.w,d'.h.trans h.h,d'.wd.trans h.wd,d'.len.trans h.len,fun j hj=> ?_,fun j hj hbj hgj=> ?_⟩
   ·by_cases e:j=i
    ·rw[e]
     exact ZJ.2 ⟨by rw[d'.p,hp],d'.st,d'.t⟩
    ·rw[d'.low j (by omega)]
     exact h.pre j (by omega)
   ·have hs:=h.post j (by omega) hbj hgj
    rw[d'.high j (by omega) (fun e he=> ?_) (by rw[hs];exact hgj),hs]
    rw[h.wd]at e
    rcases h2 with h2|h2
    ·omega
    ·rw[he,h2.2.2.2.1]at hbj
     exact absurd hbj (by decide)
  ·rw[if_neg hT]
   refine⟨g,h.fed,h.w,h.h,h.wd,h.len,fun j hj=> ?_,fun j hj=>h.post j (by omega)⟩
   by_cases e:j=i
   rotate_left
   ·exact h.pre j (by omega)
   rw[e]
   unfold ZR at hbi
   split at hbi
   ·rename_i hp1
    obtain⟨k1,k2,k3⟩:=hbi
    have hb1:=ZQ (i:=i - 1) hb (by omega) k2
    obtain⟨e1,e2,e3⟩:=ZJ.1 (h.pre (i - 1) (by omega))
    have hg1:=ZQ (i:=i - 1) hg (by omega) (by rw[e1];exact k2)
    rw[show i - 1+1=i by omega]at hb1 hg1
    rw[e3,h.wd,k3]at hg1
    rcases hg1 with hg1|hg1
    ·omega
    rcases hb1 with hb1|hb1
    ·omega
    have tx1:∀c:Ce,c.p=1->c.t.size=0->zL c=⟨#[]⟩:=fun c hp hs=>by
      unfold zL
      rw[if_neg (fun hh=>by have:=hh.1;rw[hp]at this;exact absurd this (by decide)),zaj hs]
    refine ZJ.2 ⟨by rw[hg1.2.2.2.1,hp1],?_,?_⟩
    ·rw[hg1.2.2.2.2.1,hb1.2.2.2.2.1,e2]
    ·rw[tx1 _ hg1.2.2.2.1 hg1.2.2.2.2.2,tx1 _ hp1 hb1.2.2.2.2.2]
   ·have hp:=hbi.1
    unfold QE at hT
    rw[hp]at hT
    simp only[beq_self_eq_true,Bool.true_and,Bool.or_eq_true,Bool.not_eq_true',not_or,Bool.not_eq_true,Bool.not_eq_false]at hT
    obtain⟨t1,t2, -⟩:=hT
    obtain⟨a1,a2,a3⟩:=ZJ.1 t2
    obtain⟨c1,c2,c3⟩:=ZJ.1 (hk t1 i hi)
    rw[h.post i (Nat.le_refl _) hp (by rw[c1,a1,hp])]
    exact ZJ.2 ⟨c1.trans a1,c2.trans a2,c3.trans a3⟩
theorem zk0{kn:Bool}{a b:List Ce}{g0 g1:Gs}{t0:Te}{m:Nat}(h0:okG g0 m)(hb:okL b g1.w g1.wd)(hst:∀c∈b,c.st<65536)
    (hk:kn=true->∀j,j<b.length->qv (zg g1.cs j) (zg a j)=true) (hl:g1.cs.length=b.length) (hf:Fed g0 t0 g1):∀i,i<=b.length->∃g,LoopI b g0 g1 (qB kn a b t0 i) g i
  |0,_=>⟨g1,hf,rfl,rfl,rfl,hl,fun j hj=>by omega,fun _ _ _ _=>rfl⟩
  |i+1,hi=>by
   obtain⟨g,hg⟩:=zk0 h0 hb hst hk hl hf i (by omega)
   exact zpJ h0 hb hst hk (by omega) hg
theorem zvM{g0:Gs}{b:Gr}{wd kn:Bool}(hs:g0.stt=0)(hw:b.w=g0.w)(hd:wd=g0.wd):Fed g0 (Qo kn b wd) (if kn then zhA g0 0 else zhl (zhA g0 0)):=by
  have h1:Fed g0 (Qe ⟨⟨#[]⟩, -1,⟨#[]⟩,0,b.w,wd⟩ 0) (zhA g0 0):=by
    have:=zay (g0:=g0) (g:=g0) (a:=⟨#[]⟩) (b:=za1 109 (qR 0)) za7.1 (by rw[za7.2];rfl) (zdq (c:=109) (by decide) (zd5 (by decide))).1
    exact⟨this.1,by rw[<-zjU hs (by decide),<-this.2];rfl,⟨rfl,rfl,hw,hd,fun hh=>absurd rfl hh,fun _=>rfl,fun hh=>absurd rfl hh⟩⟩
  unfold Qo
  cases kn
  ·exact h1.clear rfl
  ·exact h1
theorem zyT(g:Gs):(zhl g).w=g.w/\(zhl g).h=g.h/\(zhl g).wd=g.wd/\(zhl g).cs=List.replicate g.cs.length (zr 0):=by
  unfold zhl qq;split<;>exact⟨rfl,rfl,rfl,rfl⟩
theorem zmX(g:Gs):(zR g).x=if g.hid=false/\g.cs≠[]then(min (g.x:Int) ((g.w:Int) - 1))else -1:=rfl
theorem zmW(g:Gs):(zR g).y=if g.hid=false/\g.cs≠[]then(g.y:Int)else -1:=rfl
theorem znb{g0:Gs}{m:Nat}{a b:Gr}{wd:Bool}{s:ByteArray}(hg:okG g0 m)(hs:g0.stt=0)(hd:wd=g0.wd)(hw:b.w=g0.w)(hh:b.h=g0.h)(hb:zA b wd=true)(hst:∀c∈b.cs,c.st<65536)
    (hk:zM a b wd=true->ZW g0.cs a.cs=true) (hD:Z5 a b wd=some s):
    zw s=true/\qw (zR (zB g0 (zo s))) b=true/\(zB g0 (zo s)).stt=0:=by
  obtain⟨b1,b2,b3,b4,b5,b6,b7⟩:=QY hb
  have hlen:g0.cs.length=b.cs.length:=by
    have h1:=hg.len
    rw[hw,hh,<-Int.natCast_mul]at b5
    omega
  have hokb:okL b.cs g0.w g0.wd:=by
    rw[hw,Int.toNat_natCast,hd]at b7
    exact zfv.1 b7
  unfold Z5 at hD
  split at hD
  ·cases hD
  have hD:=Option.some.inj hD
  have hf:=zvM (kn:=zM a b wd) hs hw hd
  have hc:=zyT (zhA g0 0)
  generalize hkn:zM a b wd=kn at hD hf hk
  generalize hg1:(if kn=true then zhA g0 0 else zhl (zhA g0 0))=g1 at hf
  have f1:g1.w=g0.w/\g1.h=g0.h/\g1.wd=g0.wd/\g1.cs.length=g0.cs.length/\(kn=true->g1.cs=g0.cs):=by
    cases kn
    ·rw[if_neg (by decide)]at hg1
     rw[<-hg1,hc.1,hc.2.1,hc.2.2.1,hc.2.2.2,List.length_replicate]
     exact⟨rfl,rfl,rfl,rfl,fun h=>by cases h⟩
    ·rw[if_pos rfl]at hg1
     rw[<-hg1];exact⟨rfl,rfl,rfl,rfl,fun _=>rfl⟩
  obtain⟨e1,e2,e3,e4,e5⟩:=f1
  obtain⟨g,hL⟩:=zk0 (kn:=kn) (a:=a.cs) (b:=b.cs) (t0:=Qo kn b wd) hg (by rw[e1,e3];exact hokb) hst (fun h j hj=>by
    have h1:=(zfm.1 (hk h)).2 j (by omega)
    rw[e5 h];exact h1) (by omega) hf b.cs.length (Nat.le_refl _)
  generalize qB kn a.cs b.cs (Qo kn b wd) b.cs.length=t at hD hL
  have hF:=hL.fed
  have hok:=hF.ok hg
  have hgl:=hL.len
  have hsam:ZW g.cs b.cs=true:=zfm.2 ⟨hgl,fun j hj=>hL.pre j (by omega)⟩
  have gw:(g.w:Int)=b.w:=by rw[hL.w,e1,hw]
  have gh:(g.h:Int)=b.h:=by rw[hL.h,e2,hh]
  have cur:((b.x= -1/\b.y= -1)\/(0<=b.x/\b.x<b.w/\0<=b.y/\b.y<b.h)):=by
    unfold zde at b6
    simpa only[Bool.or_eq_true,Bool.and_eq_true,beq_iff_eq,decide_eq_true_eq]using b6
  have same:∀g':Gs,g'.w=g.w->g'.h=g.h->g'.cs=g.cs->(zR g').x=b.x->(zR g').y=b.y->qw (zR g') b=true:=fun g' k1 k2 k3 k4 k5=>by
    rw[zfj (by show(g'.w:Int)=b.w;rw[k1,gw]) (by show(g'.h:Int)=b.h;rw[k2,gh]) k4 k5]
    show ZW g'.cs b.cs=true
    rw[k3];exact hsam
  unfold zlp at hD
  by_cases hx:b.x<0
  ·rw[if_pos hx]at hD
   have hD:t.b++⟨#[27,91,63,50,53,if true then 108 else 104]⟩=s:=hD
   have hm:=zay hF.val hF.fed (zi1 true).1
   rw[hD,zkd hF.lnk.stt]at hm
   refine⟨hm.1,?_,by rw[hm.2];rfl⟩
   rw[hm.2]
   have hcur:b.x= -1/\b.y= -1:=by
     rcases cur with c|c
     ·exact c
     ·omega
   refine same _ rfl rfl rfl ?_ ?_
   ·rw[hcur.1,zmX]
    rw[if_neg (fun hh=>by have:=hh.1;cases this)]
   ·rw[hcur.2,zmW]
    rw[if_neg (fun hh=>by have:=hh.1;cases this)]
  ·rw[if_neg hx]at hD
   have hcur:0<=b.x/\b.x<b.w/\0<=b.y/\b.y<b.h:=by
     rcases cur with c|c
     ·omega
     ·exact c
   obtain⟨x,hxe⟩:∃x:Nat,b.x=x:=⟨b.x.toNat,by omega⟩
   obtain⟨y,hye⟩:∃y:Nat,b.y=y:=⟨b.y.toNat,by omega⟩
   have hxw:x<g.w:=by omega
   have hyh:y<g.h:=by omega
   have hlt:y*g.w+x<g.w*g.h:=by
     have:(y+1)*g.w<=g.h*g.w:=Nat.mul_le_mul_right _ hyh
     rw[Nat.add_mul,Nat.one_mul,Nat.mul_comm g.h]at this
     omega
   have hi:b.y*t.w+b.x=((y*g.w+x:Nat):Int):=by
     rw[hF.lnk.w,hxe,hye,Int.natCast_add,Int.natCast_mul]
   have hm:=zay hF.val hF.fed (zi1 false).1
   rw[zkd hF.lnk.stt]at hm
   have hmv:=zlm (t:={t with b:=t.b++⟨#[27,91,63,50,53,if false then 108 else 104]⟩}) (g:=zvB g false) (i:=y*g.w+x) hm.1 hm.2.symm rfl hF.lnk.w hok.w hok.h hlt
   have hD:(Qj {t with b:=t.b++⟨#[27,91,63,50,53,if false then 108 else 104]⟩} (b.y*t.w+b.x)).b=s:=hD
   rw[hi]at hD
   rw[hD]at hmv
   refine⟨hmv.1,?_,by rw[<-hmv.2];rfl⟩
   rw[<-hmv.2]
   have hcs:g.cs≠[]:=by
     intro hh
     have:=hok.len
     rw[hh,List.length_nil]at this
     omega
   have hw0:0<g.w:=by omega
   have m1:(zc9 (zvB g false) (y*g.w+x)).x=x:=by
     show(y*g.w+x)%g.w=x
     rw[Nat.add_comm,Nat.add_mul_mod_self_right,Nat.mod_eq_of_lt hxw]
   have m2:(zc9 (zvB g false) (y*g.w+x)).y=y:=by
     show(y*g.w+x) / g.w=y
     rw[Nat.add_comm,Nat.add_mul_div_right _ _ hw0,Nat.div_eq_of_lt hxw,Nat.zero_add]
   refine same _ rfl rfl rfl ?_ ?_
   ·rw[zmX,if_pos ⟨rfl,hcs⟩,m1,hxe]
    show min (x:Int) ((g.w:Int) - 1)=x
    omega
   ·rw[zmW,if_pos ⟨rfl,hcs⟩,m2,hye]
theorem zmY{g:Gs}{m:Nat}(h:okG g m):zA (zR g) g.wd=true:=by
  have hw:=h.w;have hh:=h.h;have hl:=h.len
  unfold zA
  simp only[Bool.and_eq_true,beq_iff_eq]
  refine⟨decide_eq_true (show(0:Int)<=(g.w:Int)/\(g.w:Int)<=1024/\(0:Int)<=(g.h:Int)/\(g.h:Int)<=1024 by omega),?_,?_,?_⟩
  ·show(g.cs.length:Int)=g.w*g.h
   rw[hl,Int.natCast_mul]
  ·unfold zde zR
   dsimp only
   by_cases hc:g.hid=false/\g.cs≠[]
   ·rw[if_pos hc,if_pos hc]
    have h0:0<g.w*g.h:=by rw[<-hl];exact List.length_pos_iff.2 hc.2
    have hw0:=zkG h0
    have hh0:0<g.h:=by
      rcases Nat.eq_zero_or_pos g.h with e|e
      ·rw[e,Nat.mul_zero]at h0;omega
      ·exact e
    have hx:=h.x
    have hy:g.y<g.h:=by
      rcases h.y with e|e
      ·exact e
      ·omega
    rw[Bool.or_eq_true]
    right
    exact decide_eq_true (by omega)
   ·rw[if_neg hc,if_neg hc];rfl
  ·show Qm (g.w:Int).toNat g.wd g.cs 0=true
   rw[Int.toNat_natCast]
   exact zfv.2 h.ok
end

section
open Go Vc Ut Tb Cl Orb
theorem zoC:∀(k u:Nat),u<10^(k+1)->(Lib.decDigits u).length<=k+1
  |k,u,h=>by
   rw[Lib.decDigits]
   by_cases h1:u<10
   ·rw[dif_pos h1];show 1<=k+1;omega
   ·rw[dif_neg h1,List.length_append]
    cases k with
    |zero=>omega
    |succ k=>
     have:=zoC k (u / 10) (by rw[Nat.pow_succ]at h;omega)
     show(Lib.decDigits (u / 10)).length+1<=_
     omega
theorem zeS{n:Int}(k:Nat)(h0:0<=n)(h:n<((10^(k+1):Nat):Int)):(qE n).size<=k+1:=by
  unfold qE Lib.itoa
  rw[if_neg (by omega)]
  show(Lib.decDigits n.toNat).toArray.size<=_
  rw[List.size_toArray]
  exact zoC k n.toNat (by omega)
theorem ZI(f:Bool)(n:Int)(l:List Int):(qT f (n::l)).size=(if f then 0 else 1)+(qE n).size+(qT false l).size:=by
  show((if f then⟨#[]⟩else⟨#[59]⟩)++qE n++qT false l).size=_
  rw[ByteArray.size_append,ByteArray.size_append]
  cases f<;>rfl
theorem za6:∀(l m:List Int),(qT false (l++m)).size=(qT false l).size+(qT false m).size
  |[],m=>by
   show _=0+_
   rw[Nat.zero_add];rfl
  |n::l,m=>by rw[List.cons_append,ZI,ZI,za6 l m];simp only[Nat.add_assoc]
theorem zxu(c:UInt8)(l:List Int):(za1 c l).size=(qT true l).size+3:=by
  unfold za1
  rw[ByteArray.size_append,ByteArray.size_append]
  show 2+_+1=_
  omega
theorem zsn{t:Te}{i w h:Nat}(hw:t.w=w)(h1:w<=1024)(h2:h<=1024)(hi:i<w*h):(Qj t (i:Int)).b.size<=t.b.size+12:=by
  show(t.b++za1 72 [(i:Int) / t.w+1,(i:Int)%t.w+1]).size<=_
  have hw0:=zkG hi
  have e1:(i:Int) / t.w=((i / w:Nat):Int):=by rw[hw,Int.natCast_ediv]
  have e2:(i:Int)%t.w=((i%w:Nat):Int):=by rw[hw,Int.natCast_emod]
  have q1:i / w<h:=Nat.div_lt_of_lt_mul hi
  have q2:i%w<w:=Nat.mod_lt _ hw0
  rw[e1,e2,ByteArray.size_append,zxu,ZI,ZI]
  generalize i / w=q at q1⊢
  generalize i%w=r at q2⊢
  have l1:=zeS (n:=(q:Int)+1) 3 (by omega) (by show _<(10000:Int);omega)
  have l2:=zeS (n:=(r:Int)+1) 3 (by omega) (by show _<(10000:Int);omega)
  have l3:(qT false []).size=0:=rfl
  rw[if_pos rfl,if_neg (by decide)]
  omega
theorem zs4(s:Nat):(qT false (zbJ s)).size<=8:=by
  have one:∀(c:Prop) [Decidable c] (n:Int),0<=n->n<10->(qT false (if c then [n]else [])).size<=2:=fun c _ n h0 h=>by
    split
    ·rw[ZI,if_neg (by decide)]
     have:=zeS (n:=n) 0 h0 (by show _<(10:Int);omega)
     have l3:(qT false []).size=0:=rfl
     omega
    ·exact Nat.zero_le _
  unfold zbJ
  rw[za6,za6,za6]
  have h1:=one (s / 256%2=1) 1 (by decide) (by decide)
  have h2:=one (s / 512%2=1) 3 (by decide) (by decide)
  have h3:=one (s / 1024%2=1) 4 (by decide) (by decide)
  have h4:=one (s / 2048%2=1) 7 (by decide) (by decide)
  omega
theorem zwN{t:Te}{s:Nat}(h:s<65536):(Qe t s).b.size<=t.b.size+29:=by
  show(t.b++za1 109 (qR s)).size<=_
  have e:qR s=0::(zbJ s++((if s%256≠0 then [38,5,((s%256:Nat):Int)]else [])++(if s / 4096≠0 then [48,5,((s / 4096:Nat):Int)]else []))):=by
    unfold qR;rw[zcW];simp
  rw[ByteArray.size_append,zxu,e,ZI,za6,za6,if_pos rfl]
  have h0:=zeS (n:=0) 0 (by decide) (by decide)
  have h1:=zs4 s
  have three:∀(c:Prop) [Decidable c] (a n:Int) (k:Nat),0<=a->a<100->0<=n->n<((10^(k+1):Nat):Int)->(qT false (if c then [a,5,n]else [])).size<=k+7:=fun c _ a n k ha ha2 hn hn2=>by
    split
    ·rw[ZI,ZI,ZI,if_neg (by decide)]
     have q1:=zeS (n:=a) 1 ha (by show _<(100:Int);omega)
     have q2:=zeS (n:=5) 0 (by decide) (by decide)
     have q3:=zeS (n:=n) k hn hn2
     have l3:(qT false []).size=0:=rfl
     omega
    ·exact Nat.zero_le _
  have h2:=three (s%256≠0) 38 ((s%256:Nat):Int) 2 (by decide) (by decide) (by omega) (by show _<(1000:Int);omega)
  have h3:=three (s / 4096≠0) 48 ((s / 4096:Nat):Int) 1 (by decide) (by decide) (by omega) (by show _<(100:Int);omega)
  omega
theorem zo0{t:Te}{i w h:Nat}{c:Ce}(hw:t.w=w)(h1:w<=1024)(h2:h<=1024)(hi:i<w*h)(hs:c.st<65536):(Qq t (i:Int) c).b.size<=t.b.size+(60+c.t.size)/\(Qq t (i:Int) c).w=t.w:=by
  have a1:(te1 t i).b.size<=t.b.size+12/\(te1 t i).w=t.w:=by
    unfold te1;split
    ·exact⟨zsn hw h1 h2 hi,rfl⟩
    ·exact⟨by omega,rfl⟩
  have a2:(te2 (te1 t i) c.st).b.size<=(te1 t i).b.size+29/\(te2 (te1 t i) c.st).w=t.w:=by
    unfold te2;split
    ·exact⟨zwN hs,a1.2⟩
    ·exact⟨by omega,a1.2⟩
  have a3:(te3 (te2 (te1 t i) c.st) i (zL c)).b.size<=(te2 (te1 t i) c.st).b.size+12/\(te3 (te2 (te1 t i) c.st) i (zL c)).w=t.w:=by
    unfold te3;split
    ·exact⟨zsn (a2.2.trans hw) h1 h2 hi,a2.2⟩
    ·exact⟨by omega,a2.2⟩
  have ht:=zcn c
  refine⟨?_,a3.2⟩
  show((te3 (te2 (te1 t i) c.st) i (zL c)).b++zL c).size<=_
  rw[ByteArray.size_append]
  omega
def zin(kn:Bool)(a b:List Ce):Nat->Nat
  |0=>0
  |i+1=>zin kn a b i+if kn&&(decide (i<a.length)&&qv (zg a i) (zg b i))then 0 else 60+(zg b i).t.size
theorem zvG{a b:List Ce}{w i:Nat}{wd:Bool}(ha:okL a w wd)(hb:okL b w wd)(hl:a.length=b.length)(hi:i<b.length)(h:qv (zg a i) (zg b i)=true):zcc a b i=false:=by
  unfold zcc
  by_cases h1:i+1<b.length
  rotate_left
  ·rw[decide_eq_false h1];rfl
  by_cases hp:(zg b (i+1)).p=1
  rotate_left
  ·rw[beq_eq_false_iff_ne.2 hp,Bool.false_and,Bool.and_false]
  obtain⟨e1,e2,e3⟩:=ZJ.1 h
  have hb1:=hb (i+1) h1
  unfold ZR at hb1
  rw[if_pos hp,Nat.add_sub_cancel]at hb1
  obtain⟨-,k1,k2⟩:=hb1
  have b2:=ZQ (i:=i) hb hi k1
  have a2:=ZQ (i:=i) ha (by omega) (e1.trans k1)
  rw[e3]at a2
  rcases b2 with b2|b2
  ·omega
  rcases a2 with a2|a2
  ·omega
  have tx1:∀c:Ce,c.p=1->c.t.size=0->zL c=⟨#[]⟩:=fun c hp hs=>by
    unfold zL
    rw[if_neg (fun hh=>by have:=hh.1;rw[hp]at this;exact absurd this (by decide)),zaj hs]
  rw[ZJ.2 ⟨a2.2.2.2.1.trans b2.2.2.2.1.symm,by rw[a2.2.2.2.2.1,b2.2.2.2.2.1,e2],by rw[tx1 _ a2.2.2.2.1 a2.2.2.2.2.2,tx1 _ b2.2.2.2.1 b2.2.2.2.2.2]⟩]
  simp
theorem zh9{kn:Bool}{a b:List Ce}{t0:Te}{w h:Nat}{wd:Bool}(hw:t0.w=w)(h1:w<=1024)(h2:h<=1024)(hbl:b.length=w*h)(hb:okL b w wd)(hst:∀c∈b,c.st<65536)(hk:kn=true->okL a w wd/\a.length=b.length):
    ∀i,i<=b.length->(qB kn a b t0 i).b.size<=t0.b.size+zin kn a b i/\(qB kn a b t0 i).w=w
  |0,_=>⟨Nat.le_refl _,hw⟩
  |i+1,hi=>by
   obtain⟨k1,k2⟩:=zh9 hw h1 h2 hbl hb hst hk i (by omega)
   simp only[qB,zin]
   by_cases hT:QE kn a b i=true
   ·rw[if_pos hT]
    have hno:¬(kn&&(decide (i<a.length)&&qv (zg a i) (zg b i)))=true:=by
      intro hh
      simp only[Bool.and_eq_true,decide_eq_true_eq]at hh
      obtain⟨q1,q2,q3⟩:=hh
      obtain⟨oa,hl⟩:=hk q1
      unfold QE at hT
      rw[q1,q3,zvG oa hb hl (by omega) q3]at hT
      simp at hT
    rw[if_neg hno]
    have:=zo0 (t:=qB kn a b t0 i) (i:=i) (c:=zg b i) k2 h1 h2 (by omega) (hst _ (zdW (by omega)))
    exact⟨by omega,this.2.trans k2⟩
   ·rw[if_neg hT]
    exact⟨by omega,k2⟩
theorem ztH(kn:Bool)(b:Gr)(wd:Bool):(Qo kn b wd).b.size<=60/\(Qo kn b wd).w=b.w:=by
  have h1:=zwN (t:=⟨⟨#[]⟩, -1,⟨#[]⟩,0,b.w,wd⟩) (s:=0) (by decide)
  have h2:(Qe ⟨⟨#[]⟩, -1,⟨#[]⟩,0,b.w,wd⟩ 0).b.size<=29:=by
    have:(ByteArray.mk #[]).size=0:=rfl
    dsimp only at h1
    omega
  unfold Qo
  cases kn
  ·refine⟨?_,rfl⟩
   show((Qe ⟨⟨#[]⟩, -1,⟨#[]⟩,0,b.w,wd⟩ 0).b++za1 74 [2]).size<=60
   rw[ByteArray.size_append,zxu,ZI,if_pos rfl]
   have q:=zeS (n:=2) 0 (by decide) (by decide)
   have l3:(qT false []).size=0:=rfl
   omega
  ·exact⟨by show(Qe ⟨⟨#[]⟩, -1,⟨#[]⟩,0,b.w,wd⟩ 0).b.size<=60;omega,rfl⟩
theorem zp7{a b:Gr}{wd:Bool}{s:ByteArray}(hst:∀c∈b.cs,c.st<65536)(hD:Z5 a b wd=some s):s.size<=100+zin (zM a b wd) a.cs b.cs b.cs.length:=by
  unfold Z5 at hD
  split at hD
  ·cases hD
  rename_i hno
  have hb:zA b wd=true:=by
    cases h:zA b wd
    ·exact absurd (.inl h) hno
    ·rfl
  have hD:=Option.some.inj hD
  obtain⟨b1,b2,b3,b4,b5,b6,b7⟩:=QY hb
  obtain⟨w,hw⟩:∃w:Nat,b.w=w:=⟨b.w.toNat,by omega⟩
  obtain⟨h,hh⟩:∃h:Nat,b.h=h:=⟨b.h.toNat,by omega⟩
  have hbl:b.cs.length=w*h:=by
    rw[hw,hh,<-Int.natCast_mul]at b5
    omega
  have hokb:okL b.cs w wd:=by
    rw[hw,Int.toNat_natCast]at b7
    exact zfv.1 b7
  have hbeg:=ztH (zM a b wd) b wd
  have hka:zM a b wd=true->okL a.cs w wd/\a.cs.length=b.cs.length:=fun hk=>by
    unfold zM at hk
    simp only[Bool.and_eq_true,beq_iff_eq]at hk
    obtain⟨k1,k2,k3⟩:=hk
    obtain⟨-, -, -, -,a5, -,a7⟩:=QY k1
    rw[k2,hw,Int.toNat_natCast]at a7
    rw[k2,k3,<-b5]at a5
    exact⟨zfv.1 a7,by omega⟩
  have hL:=zh9 (kn:=zM a b wd) (a:=a.cs) (b:=b.cs) (t0:=Qo (zM a b wd) b wd) (hbeg.2.trans hw) (by omega) (by omega) hbl hokb hst hka b.cs.length (Nat.le_refl _)
  generalize qB (zM a b wd) a.cs b.cs (Qo (zM a b wd) b wd) b.cs.length=t at hD hL
  obtain⟨l1,l2⟩:=hL
  unfold zlp at hD
  by_cases hx:b.x<0
  ·rw[if_pos hx]at hD
   have hD:t.b++⟨#[27,91,63,50,53,108]⟩=s:=hD
   rw[<-hD,ByteArray.size_append]
   have:(ByteArray.mk #[27,91,63,50,53,108]).size=6:=rfl
   omega
  ·rw[if_neg hx]at hD
   have hcur:0<=b.x/\b.x<b.w/\0<=b.y/\b.y<b.h:=by
     unfold zde at b6
     have b6:(b.x= -1/\b.y= -1)\/(0<=b.x/\b.x<b.w/\0<=b.y/\b.y<b.h):=by
       simpa only[Bool.or_eq_true,Bool.and_eq_true,beq_iff_eq,decide_eq_true_eq]using b6
     rcases b6 with c|c
     ·omega
     ·exact c
   obtain⟨x,hxe⟩:∃x:Nat,b.x=x:=⟨b.x.toNat,by omega⟩
   obtain⟨y,hye⟩:∃y:Nat,b.y=y:=⟨b.y.toNat,by omega⟩
   have hlt:y*w+x<w*h:=by
     have:(y+1)*w<=h*w:=Nat.mul_le_mul_right _ (by omega)
     rw[Nat.add_mul,Nat.one_mul,Nat.mul_comm h]at this
     omega
   have hi:b.y*t.w+b.x=((y*w+x:Nat):Int):=by
     rw[l2,hxe,hye,Int.natCast_add,Int.natCast_mul]
   have hm:=zsn (t:={t with b:=t.b++⟨#[27,91,63,50,53,104]⟩}) (i:=y*w+x) (h:=h) l2 (by omega) (by omega) hlt
   have hD:(Qj {t with b:=t.b++⟨#[27,91,63,50,53,104]⟩} (b.y*t.w+b.x)).b=s:=hD
   rw[hi]at hD
   rw[hD]at hm
   have hm:s.size<=(t.b++⟨#[27,91,63,50,53,104]⟩).size+12:=hm
   rw[ByteArray.size_append]at hm
   have:(ByteArray.mk #[27,91,63,50,53,104]).size=6:=rfl
   omega
end

section
open Go Vc Ut Tb Cl Orb
end

section
open Go Vc Ut Tb Cl Orb
def wkB:ByteArray:=⟨#[228,184,128,228,186,140,228,184,137]⟩
def wkG:Gs:=zB (Zg 4 2 false) (Zh (⟨#[]⟩++wkB))
def wcC(s:List UInt8)(p:Int)(st:Nat):Ce:=⟨⟨s.toArray⟩,p,0,0,false,st⟩
theorem zyr:wkG.cs=[wcC [228,184,128] 0 0,Zs 0,wcC [228,186,140] 0 0,Zs 0,wcC [228,184,137] 0 0,Zs 0,zr 0,zr 0]/\wkG.x=2/\wkG.y=1/\wkG.hid=false/\wkG.stt=0/\fdH (⟨#[]⟩++wkB)=⟨#[]⟩:=by
  decide+kernel
def wkN:Gr:=⟨4,2,[zr 0,zr 0,zr 0,zr 0,zr 0,wcC [120] 0 263,zr 0,zr 0],1,1⟩
theorem zfK:zA wkN false=true:=by decide+kernel
end

section
open Go Vc Ut Tb Cl Orb
theorem Zu(c:Ce)(l:List Ce):zm (c::l)=1+c.t.size+zm l:=by simp[zm]
theorem zfE:∀(l m:List Ce),zm (l++m)=zm l+zm m
  |[],m=>by show zm m=0+zm m;omega
  |c::l,m=>by rw[List.cons_append,Zu,Zu,zfE l m];omega
theorem zjI(n st:Nat):zm (List.replicate n (zr st))=n:=by
  induction n with
  |zero=>rfl
  |succ n ih=>rw[List.replicate_succ,Zu,ih];show 1+0+n=n+1;omega
theorem zjJ:∀l:List Ce,l.length<=zm l
  |[]=>Nat.zero_le _
  |c::l=>by have:=zjJ l;rw[Zu,List.length_cons];omega
theorem zfD:∀(l:List Ce) (i:Nat) (c:Ce),zm (l.set i c)<=zm l+c.t.size
  |[],_,_=>Nat.zero_le _
  |d::l,0,c=>by rw[List.set_cons_zero,Zu,Zu];omega
  |d::l,i+1,c=>by have:=zfD l i c;rw[List.set_cons_succ,Zu,Zu];omega
theorem zah:∀(l:List Ce) (i k:Nat) (c:Ce),c.t.size<=(zg l i).t.size+k->zm (l.set i c)<=zm l+k
  |[],_,_,_,_=>Nat.zero_le _
  |d::l,0,k,c,h=>by
   have h:c.t.size<=d.t.size+k:=h
   rw[List.set_cons_zero,Zu,Zu];omega
  |d::l,i+1,k,c,h=>by
   have:=zah l i k c h
   rw[List.set_cons_succ,Zu,Zu];omega
theorem zoG(l:List Ce)(w i:Nat)(c:Ce):zm (zC l w i c)<=zm l+c.t.size:=by
  have hb:∀(j st:Nat),zm (l.set j (zr st))<=zm l:=fun j st=>zfD l j (zr st)
  unfold zC
  refine Nat.le_trans (zfD _ _ _) (Nat.add_le_add_right ?_ _)
  split
  ·exact hb _ _
  split
  ·exact hb _ _
  ·exact Nat.le_refl _
theorem zlE(g:Gs):zm (zZ g).cs<=zm g.cs:=by
  unfold zZ
  split
  ·exact Nat.le_refl _
  ·show zm (g.cs.drop g.w++List.replicate (min g.w g.cs.length) (zr 0))<=_
   have h:=zfE (g.cs.take g.w) (g.cs.drop g.w)
   rw[List.take_append_drop]at h
   have h2:=zjJ (g.cs.take g.w)
   rw[List.length_take]at h2
   rw[zfE,zjI]
   omega
theorem zlF(g:Gs):(qq g).cs=g.cs:=by unfold qq;split<;>rfl
theorem zty{l:List Ce}{i j:Nat}{c:Ce}(h:i≠j):zg (l.set j c) i=zg l i:=by
  unfold zg
  rw[List.getD_eq_getElem?_getD,List.getElem?_set,if_neg (fun e=>h e.symm),List.getD_eq_getElem?_getD]
theorem zsx{l:List Ce}{w j i k:Nat}{c X:Ce}(hc:c.t.size=0)(hij:i≠j)(ht:X.t.size<=(zg l i).t.size+k):zm ((zC l w j c).set i X)<=zm l+k:=by
  have hs:∀(m:List Ce) (x:Nat) (d:Ce),d.t.size=0->zm (m.set x d)<=zm m:=fun m x d hd=>by have:=zfD m x d;omega
  have key:∀m:List Ce,zm m<=zm l->zg m i=zg l i->zm ((m.set j c).set i X)<=zm l+k:=fun m hm he=>by
    have h1:=zah (m.set j c) i k X (by rw[zty hij,he];exact ht)
    have h2:=hs m j c hc
    omega
  have key2:∀(x:Nat) (d:Ce),d.t.size=0->zm (((l.set x d).set j c).set i X)<=zm l+k:=fun x d hd=>by
    by_cases e:i=x
    ·subst e
     rw[List.set_comm _ _ (fun e=>hij e.symm),List.set_set,List.set_comm _ _ hij]
     exact key l (Nat.le_refl _) rfl
    ·exact key _ (hs l x d hd) (zty e)
  unfold zC
  split
  ·exact key2 _ _ rfl
  split
  ·exact key2 _ _ rfl
  ·exact key l (Nat.le_refl _) rfl
theorem ztD{g g':Gs}{r:Int}(h:zX g r=some g'):zm g'.cs<=zm g.cs+20:=by
  unfold zX at h
  have he:=Q1 r
  have ht:∀c:Ce,(zL c++Zo r).size<=c.t.size+5:=fun c=>by
    have:=zcn c
    rw[ByteArray.size_append];omega
  split at h
  ·cases h
  split at h
  ·cases h
  split at h
  ·split at h
   ·rw[<-Option.some.inj h];show zm g.cs<=_;omega
   ·rw[<-Option.some.inj h]
    show zm ((zC g.cs g.w g.last (Zs (zg g.cs (g.last - 1)).st)).set (g.last - 1) _)<=_
    exact Nat.le_trans (zsx (l:=g.cs) (w:=g.w) (j:=g.last) (i:=g.last - 1) (k:=5) rfl (by omega) (ht _)) (by omega)
  ·rw[<-Option.some.inj h]
   have:=zah g.cs (g.last - 1) 5 {zg g.cs (g.last - 1)with t:=zL (zg g.cs (g.last - 1))++Zo r} (ht _)
   show zm (g.cs.set (g.last - 1) _)<=_
   omega
theorem ztC(g:Gs)(s:ByteArray)(n:Nat):zm (Qc g s n).cs<=zm g.cs+s.size:=by
  unfold Qc
  dsimp only
  have h1:zm (if n=2 then zC g.cs g.w (g.y*g.w+g.x+1) (zr g.sty)else g.cs)<=zm g.cs:=by
    split
    ·exact zoG _ _ _ _
    ·exact Nat.le_refl _
  generalize (if n=2 then zC g.cs g.w (g.y*g.w+g.x+1) (zr g.sty)else g.cs)=c1 at h1⊢
  have h2:=zoG c1 g.w (g.y*g.w+g.x) ⟨s,0,0,0,false,g.sty⟩
  have h2:zm (zC c1 g.w (g.y*g.w+g.x) ⟨s,0,0,0,false,g.sty⟩)<=zm c1+s.size:=h2
  generalize zC c1 g.w (g.y*g.w+g.x) ⟨s,0,0,0,false,g.sty⟩=c2 at h2⊢
  split
  ·exact Nat.le_trans (zah c2 (g.y*g.w+g.x+1) 0 {zg c2 (g.y*g.w+g.x+1)with p:=1} (Nat.le_refl _)) (by omega)
  ·omega
theorem zv7(g:Gs)(r:Int):zm (qD g r).cs<=zm g.cs+20:=by
  unfold qD
  split
  ·rename_i g' hj;exact ztD hj
  dsimp only
  split
  ·show zm g.cs<=_;omega
  ·rename_i hn
   have hs:(Zb (Zo r) 0 (lkW g.wd)).1.size<=20:=by
     have:=zd6 (Zo r) 0 (lkW g.wd)
     have h4:=Q1 r
     omega
   refine Nat.le_trans (ztC _ _ _) (Nat.add_le_add ?_ hs)
   split
   ·exact zlE _
   ·exact Nat.le_refl _
theorem ztB(g:Gs)(r:Int):zm (zi g r).cs<=zm g.cs+20:=by
  have hfree:∀g:Gs,zm (qy g r).cs<=zm g.cs+20:=fun g=>by
    unfold qy
    split
    ·exact zv7 g r
    split
    ·show zm g.cs<=_;omega
    split
    ·show zm g.cs<=_;omega
    split
    ·have h1:=zlE (qq {g with last:=0})
     rw[zlF]at h1
     have h1:zm (zZ (qq {g with last:=0})).cs<=zm g.cs:=h1
     omega
    ·show zm g.cs<=_;omega
  have hh:=zg7 g
  have hcs:(zk g).cs=g.cs:=hh.2.2.2.2.2.2
  unfold zi
  split
  ·split<;>(show zm g.cs<=_;omega)
  split
  ·show zm (if 32<=r/\r<=63 then qp (zk g) r (decide (g.num=[]))else if 64<=r/\r<=126 then zH {zk g with stt:=0} r else qy {zk g with stt:=0} r).cs<=_
   split
   ·have:(qp (zk g) r (decide (g.num=[]))).cs=g.cs:=by
      rw[<-hcs]
      unfold qp
      split
      ·rfl
      split
      ·rfl
      split<;>rfl
    rw[this];omega
   split
   ·have:zm (zH {zk g with stt:=0} r).cs<=zm g.cs:=by
      rw[<-hcs]
      unfold zH
      split
      ·exact Nat.le_refl _
      split
      ·split<;>exact Nat.le_refl _
      split
      ·exact Nat.le_refl _
      split
      ·rw[zlF]
       show zm (List.replicate (zk g).cs.length (zr 0))<=_
       rw[zjI];exact zjJ _
      split<;>exact Nat.le_refl _
    omega
   ·have:=hfree {zk g with stt:=0}
    have:zm (qy {zk g with stt:=0} r).cs<=zm (zk g).cs+20:=this
    rw[hcs]at this;exact this
  ·exact hfree g
theorem zhp:∀(l:List Int) (g:Gs),zm (zB g l).cs<=zm g.cs+20*l.length
  |[],g=>Nat.le_refl _
  |r::l,g=>by
   have h1:=ztB g r
   have h2:=zhp l (zi g r)
   rw[List.length_cons,Zt]
   omega
theorem zoE(kn:Bool)(a b:List Ce):∀i,i<=b.length->zin kn a b i<=60*zm (b.take i)
  |0,_=>Nat.zero_le _
  |i+1,hi=>by
   have ih:=zoE kn a b i (by omega)
   have hb:b.take (i+1)=b.take i++[zg b i]:=by rw[List.take_add_one,List.getElem?_eq_getElem (by omega),zbE (by omega)];rfl
   rw[hb,zfE,Zu]
   show zin kn a b i+_<=_
   split<;>omega
theorem zp6{a b:Gr}{wd:Bool}{s:ByteArray}(hst:∀c∈b.cs,c.st<65536)(hD:Z5 a b wd=some s):s.size<=100+60*zm b.cs:=by
  have h1:=zp7 hst hD
  have h2:=zoE (zM a b wd) a.cs b.cs b.cs.length (Nat.le_refl _)
  rw[List.take_length]at h2
  omega
theorem zhw(c:Ce):qv c c=true:=ZJ.2 ⟨rfl,rfl,rfl⟩
theorem zhQ(g:Gr):qw g g=true:=by
  rw[zfj rfl rfl rfl rfl]
  exact zfm.2 ⟨rfl,fun j _=>zhw _⟩
end
end Go.Proofs.YtjdohhididpomaaGreatDoor
