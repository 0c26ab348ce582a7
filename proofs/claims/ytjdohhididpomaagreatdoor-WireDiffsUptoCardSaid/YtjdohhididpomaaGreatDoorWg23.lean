/-
  Texts joined by program: Qn, Qo, Qp, Qs, Qt, Qu, Qv, Qw.
-/
import Derived.Test.YtjdohhididpomaaGreatDoorWg19
import Derived.Test.YtjdohhididpomaaGreatDoorWg16
import Derived.Test.YtjdohhididpomaaGreatDoorWg22
import Derived.Test.YtjdohhididpomaaGreatDoorWg18
set_option linter.unusedVariables false
set_option linter.unusedSimpArgs false

namespace Go.Proofs.YtjdohhididpomaaGreatDoor
section
open Go Vc Ut Tb Cl Orb
theorem ziT(f s:Nat):zO f [] s=s:=by cases f<;>simp only[zO]
theorem zzq(f:Nat)(l:List Int)(s:Nat):zO (f+1) (0::l) s=zO f l 0:=by
  simp only[zO];rw[if_pos (by decide)]
theorem zzp(f:Nat)(l:List Int)(s:Nat):zO (f+1) (1::l) s=zO f l (s|||256):=by
  simp only[zO];rw[if_neg (by decide),if_pos trivial]
theorem zzo(f:Nat)(l:List Int)(s:Nat):zO (f+1) (3::l) s=zO f l (s|||512):=by
  simp only[zO];rw[if_neg (by decide),if_neg (by decide),if_pos trivial]
theorem zzn(f:Nat)(l:List Int)(s:Nat):zO (f+1) (4::l) s=zO f l (s|||1024):=by
  simp only[zO];rw[if_neg (by decide),if_neg (by decide),if_neg (by decide),if_pos trivial]
theorem zzm(f:Nat)(l:List Int)(s:Nat):zO (f+1) (7::l) s=zO f l (s|||2048):=by
  simp only[zO];rw[if_neg (by decide),if_neg (by decide),if_neg (by decide),if_neg (by decide),if_pos trivial]
theorem zw8(f:Nat)(l:List Int)(s k:Nat)(hk:k<=255):zO (f+1) (38::5::(k:Int)::l) s=zO f l ((s / 256*256)|||k):=by
  simp only[zO]
  rw[if_neg (by decide),if_neg (by decide),if_neg (by decide),if_neg (by decide),if_neg (by decide),if_pos ⟨trivial,trivial,by omega,by omega⟩,Int.toNat_natCast]
theorem zw7(f:Nat)(l:List Int)(s k:Nat)(hk:k<=15):zO (f+1) (48::5::(k:Int)::l) s=zO f l ((s%4096)|||(k*4096)):=by
  simp only[zO]
  rw[if_neg (by decide),if_neg (by decide),if_neg (by decide),if_neg (by decide),if_neg (by decide),if_neg (fun h=>absurd h.1 (by decide)),if_pos ⟨trivial,trivial,by omega,by omega⟩,Int.toNat_natCast]
def zb1(s:Nat):List Int:=(if s / 256%2=1 then [1]else [])++(if s / 512%2=1 then [3]else [])++(if s / 1024%2=1 then [4]else [])++(if s / 2048%2=1 then [7]else [])
theorem zdc(s:Nat):qO s 4=zb1 s:=by
  unfold qO zb1
  rw[show List.range 4=[0,1,2,3]from by decide]
  by_cases h0:s / 256%2=1<;>by_cases h1:s / 512%2=1<;>by_cases h2:s / 1024%2=1<;>by_cases h3:s / 2048%2=1<;>
    simp[List.filter,h0,h1,h2,h3]
theorem zqh{s:Nat}(f:Nat)(T:List Int):zO (f+(zb1 s).length) (zb1 s++T) 0=zO f T (s / 256%16*256):=by
  unfold zb1
  by_cases h0:s / 256%2=1<;>by_cases h1:s / 512%2=1<;>by_cases h2:s / 1024%2=1<;>by_cases h3:s / 2048%2=1<;>
    simp only[h0,h1,h2,h3,if_true,if_false,List.nil_append,List.append_nil,List.cons_append,List.length_cons,List.length_nil,<-Nat.add_assoc,Nat.add_zero,Nat.zero_add]<;>
    first
    |(simp only[zzp,zzo,zzn,zzm];congr 1;first|omega|(simp only[Nat.zero_or];omega)|(simp;omega))
    |(congr 1;omega)
theorem zsl{a b k:Nat}(h:a<2^k):(2^k*b)|||a=2^k*b+a:=(Nat.two_pow_add_eq_or_of_lt h b).symm
theorem zq2{s:Nat}(h:s<65536)(s0:Nat):Zq (qU s) s0=s:=by
  unfold Zq qU
  rw[zdc]
  have e1:([0]++zb1 s++(if s%256≠0 then [38,5,((s%256:Nat):Int)]else [])++(if s / 4096≠0 then [48,5,((s / 4096:Nat):Int)]else []))=0::(zb1 s++((if s%256≠0 then [38,5,((s%256:Nat):Int)]else [])++(if s / 4096≠0 then [48,5,((s / 4096:Nat):Int)]else []))):=by simp
  rw[e1]
  generalize hT:((if s%256≠0 then [38,5,((s%256:Nat):Int)]else [])++(if s / 4096≠0 then [48,5,((s / 4096:Nat):Int)]else []))=T
  rw[List.length_cons,List.length_append,zzq,Nat.add_comm (zb1 s).length,zqh,<-hT]
  have c1:s / 256%16*256 / 256*256|||s%256=s%4096:=by
    rw[show s / 256%16*256 / 256*256=2^8*(s / 256%16) by omega,zsl (show s%256<2^8 by omega)];omega
  have c2:∀a,a=s%4096->a%4096|||s / 4096*4096=s:=by
    intro a ha
    rw[Nat.or_comm,show s / 4096*4096=2^12*(s / 4096) by omega,zsl (show a%4096<2^12 by omega)];omega
  by_cases h1:s%256=0<;>by_cases h2:s / 4096=0
  ·rw[if_neg (by omega),if_neg (by omega)]
   show zO 0 [] _=_
   rw[ziT];omega
  ·rw[if_neg (by omega),if_pos (by omega)]
   show zO 3 (48::5::((s / 4096:Nat):Int)::[]) _=_
   rw[zw7 _ _ _ _ (by omega),ziT]
   exact c2 _ (by omega)
  ·rw[if_pos (by omega),if_neg (by omega)]
   show zO 3 (38::5::((s%256:Nat):Int)::[]) _=_
   rw[zw8 _ _ _ _ (by omega),ziT,c1];omega
  ·rw[if_pos (by omega),if_pos (by omega)]
   show zO 6 (38::5::((s%256:Nat):Int)::48::5::((s / 4096:Nat):Int)::[]) _=_
   rw[zw8 _ _ _ _ (by omega),zw7 _ _ _ _ (by omega),ziT,c1]
   exact c2 _ rfl
theorem zei{s:Nat}(h:s<65536):digsN (qU s):=by
  intro n hn
  unfold qU at hn
  rw[zdc]at hn
  unfold zb1 at hn
  simp only[List.mem_append]at hn
  rcases hn with((hn|hn)|hn)|hn
  ·rw[List.mem_singleton.1 hn];omega
  ·rcases hn with((hn|hn)|hn)|hn<;>split at hn<;>simp at hn<;>omega
  ·split at hn<;>simp at hn;omega
  ·split at hn<;>simp at hn;omega
theorem zq3(s:Nat):qU s≠[]:=by unfold qU;simp
def zdp(g:Gs)(i:Nat):Gs:={zmF g [((i / g.w+1:Nat):Int),((i%g.w+1:Nat):Int)]with y:=i / g.w,x:=i%g.w}
def zhQ(g:Gs)(s:Nat):Gs:={zmF g (qU s)with sty:=s}
def zhE(g:Gs):Gs:=qu {zmF g [2]with cs:=List.replicate g.cs.length (zw 0)}
def zv2(g:Gs)(b:Bool):Gs:={g with last:=0,stt:=0,num:=[25],asked:=true,void:=false,hid:=b}
theorem zsG{g:Gs}{i:Nat}(hs:g.stt=0)(hw:g.w<=1024)(hh:g.h<=1024)(hi:i<g.w*g.h):digsN [((i / g.w+1:Nat):Int),((i%g.w+1:Nat):Int)]/\zH g (zo (zbd 72 [((i / g.w+1:Nat):Int),((i%g.w+1:Nat):Int)]))=zdp g i:=by
  have hw0:0<g.w:=by
    rcases Nat.eq_zero_or_pos g.w with e|e
    ·rw[e,Nat.zero_mul]at hi;omega
    ·exact e
  have h1:i / g.w<g.h:=Nat.div_lt_of_lt_mul hi
  have h2:i%g.w<g.w:=Nat.mod_lt _ hw0
  generalize hq:i / g.w=q at h1⊢
  generalize hr:i%g.w=r at h2⊢
  have hd:digsN [((q+1:Nat):Int),((r+1:Nat):Int)]:=by
    intro n hn
    rcases List.mem_cons.1 hn with hn|hn
    ·omega
    ·rw[List.mem_singleton.1 hn];omega
  refine⟨hd,?_⟩
  rw[zgG hs (by simp) hd (by decide) (by decide)]
  show zL _ 72=_
  unfold zL
  rw[if_neg (by show ¬false=true;decide),if_neg (by show ¬false=true;decide),if_pos rfl]
  have e1:qV ((q+1:Nat):Int) g.h=q:=by unfold qV;omega
  have e2:qV ((r+1:Nat):Int) g.w=r:=by unfold qV;omega
  unfold zdp
  rw[hq,hr]
  show({zmF g _ with y:=qV ((q+1:Nat):Int) g.h,x:=qV ((r+1:Nat):Int) g.w}:Gs)=_
  rw[e1,e2]
theorem zkc{g:Gs}{s:Nat}(hs:g.stt=0)(h:s<65536):zH g (zo (zbd 109 (qU s)))=zhQ g s:=by
  rw[zgG hs (zq3 s) (zei h) (by decide) (by decide)]
  show zL _ 109=_
  unfold zL
  rw[if_neg (by show ¬false=true;decide),if_neg (by show ¬false=true;decide),if_neg (by decide),if_neg (fun hh=>absurd hh.1 (by decide)),if_pos rfl]
  show({zmF g _ with sty:=Zq (qU s) g.sty}:Gs)=_
  rw[zq2 h];rfl
theorem ztM{g:Gs}(hs:g.stt=0):zH g (zo (zbd 74 [2]))=zhE g:=by
  rw[zgG hs (by simp) (fun n hn=>by rw[List.mem_singleton.1 hn];decide) (by decide) (by decide)]
  show zL _ 74=_
  unfold zL
  rw[if_neg (by show ¬false=true;decide),if_neg (by show ¬false=true;decide),if_neg (by decide),if_pos ⟨rfl,rfl⟩]
  rfl
theorem zjj(b:Bool):zC ⟨#[27,91,63,50,53,if b then 108 else 104]⟩=true/\zo ⟨#[27,91,63,50,53,if b then 108 else 104]⟩=[27,91]++[63,50,53,if b then 108 else 104]:=by
  cases b
  ·exact Q6 (l:=[27,91,63,50,53,104]) (by decide)
  ·exact Q6 (l:=[27,91,63,50,53,108]) (by decide)
theorem zro{g:Gs}(hs:g.stt=2)(hn:g.num=[]):zj g 63={g with num:=[-1],asked:=true}:=by
  unfold zj
  rw[if_neg (by omega),if_pos hs]
  dsimp only
  rw[if_pos (by decide),if_pos hn]
  unfold qt
  rw[if_pos ⟨rfl,decide_eq_true hn⟩]
theorem zkt{g:Gs}(hs:g.stt=0)(b:Bool):zH g (zo ⟨#[27,91,63,50,53,if b then 108 else 104]⟩)=zv2 g b:=by
  rw[(zjj b).2,zlD hs,ZB,zro rfl rfl,ZB]
  rw[zdB (pre:=[]) (v:= -1) rfl rfl (by decide) (by decide),ZB]
  rw[zdB (pre:=[]) (v:=2) rfl rfl (by decide) (by decide),ZB]
  rw[zh3 rfl (by simp) (by cases b<;>decide) (by cases b<;>decide)]
  unfold zL
  rw[if_neg (by show ¬false=true;decide),if_pos rfl,if_pos ⟨rfl,by cases b<;>decide⟩]
  cases b<;>rfl
end

section
open Go Vc Ut Tb Cl Orb
theorem zot{v d:Int}{r:Int}:∀{l:List (List RC×Int)},(∀p∈l,p.2≠v)->d≠v->Z1 l d r≠v
  |[],_,hd=>hd
  |(c,u)::l,h,hd=>by
   unfold Z1
   split
   ·exact h (c,u) (by simp)
   ·exact zot (fun p hp=>h p (List.mem_cons_of_mem _ hp)) hd
theorem zp9:∀p∈zir.tail,p.2≠0:=by decide+kernel
theorem zln{r:Int}(h:zn r=0):r<=31\/127<=r/\r<=159:=by
  unfold zn at h
  rw[show zir=([.le 31, .rg 127 159],0)::zir.tail from rfl]at h
  unfold Z1 at h
  cases hc:zhX [.le 31, .rg 127 159] (zJ r)with
  |true=>
   have hc:(decide (zJ r<=31)||(decide (zJ r>=127)&&decide (zJ r<=159)))=true:=hc
   simp only[Bool.or_eq_true,Bool.and_eq_true,decide_eq_true_eq]at hc
   unfold zJ at hc
   split at hc
   ·omega
   ·omega
  |false=>
   rw[hc]at h
   exact absurd h (zot zp9 (by decide))
theorem zpj{x z y:Int}{n:Nat}(h:zn y=0):qg x z y n=false:=by
  have hb:=zln h
  have h1:qj y=false:=by
    unfold qj
    rw[Bool.or_eq_false_iff]
    exact⟨beq_eq_false_iff_ne.2 (by omega),beq_eq_false_iff_ne.2 (by omega)⟩
  have h2:qh y=false:=by
    unfold qh
    rw[decide_eq_false (show ¬127462<=y by omega)];rfl
  have h3:qr y=0:=by
    unfold qr
    rw[if_neg (by omega),if_neg (by omega),if_neg (by omega),if_neg (by omega)]
  unfold qg qs qS
  rw[h,h1,h2,h3,zyR]
  simp
theorem zoF{s:ByteArray}{k:Nat}:∀(f n m:Nat),n<=m->m<goN s k f n->qR s k m=true
  |0,n,m,h1,h2=>by simp only[goN]at h2;omega
  |f+1,n,m,h1,h2=>by
   simp only[goN]at h2
   split at h2
   ·rename_i hg
    rcases Nat.lt_or_ge n m with h|h
    ·exact zoF f (n+1) m h h2
    ·rw[show m=n by omega];exact hg
   ·omega
theorem PlainK.kind{s:ByteArray}{wd:Bool}(h:PlainK s wd){n:Nat}(hn:n<cnt s):zn (sg s n)≠0:=by
  intro hk
  rcases Nat.eq_zero_or_pos n with e|e
  ·subst e
   have hb:=zln hk
   have h1:=h.ctl
   have h2:=h.fmt
   unfold Z2 at h2
   rw[Bool.or_eq_false_iff,Bool.or_eq_false_iff]at h2
   have h3:=of_decide_eq_false h2.1.1
   omega
  ·obtain⟨h0,hf, -⟩:=qN h.one
   unfold zy at hf
   rw[if_neg (by rw[h.bad];decide)]at hf
   split at hf
   ·rename_i hcr
    unfold crB at hcr
    rw[Bool.and_eq_true]at hcr
    have h1:=beq_iff_eq.1 hcr.1
    have:=h.ctl
    omega
   split at hf
   ·omega
   ·have hg:=zoF (s:=s) (k:=0) 32 1 n e (by rw[hf];exact hn)
    unfold qR at hg
    simp only[Bool.and_eq_true,Nat.zero_add]at hg
    have:=hg.2.2.2
    rw[zpj hk]at this
    cases this
def QL(s:ByteArray)(k:Nat):ByteArray:=s.extract 0 (pos s k)
theorem znc(s:ByteArray):QL s (cnt s)=s:=by unfold QL;rw[ZJ,ByteArray.extract_zero_size]
theorem zgO(r:Int):runesBytes [r]=Zt r:=by
  rw[zbY]
  show Utf8.encode r++ByteArray.empty=_
  rw[ByteArray.append_empty];rfl
theorem zs6{s:ByteArray}(h:zC s=true)(h0:0<cnt s):QL s 1=Zt ((zo s).getD 0 0):=by
  have hl:=zN s
  unfold QL
  rw[<-zaC h (show 1<=cnt s by omega)]
  cases hr:zo s with
  |nil=>rw[hr]at hl;simp at hl;omega
  |cons r l=>exact zgO r
theorem zv3{s:ByteArray}(h:zC s=true){k:Nat}(hk:k<cnt s):QL s k++Zt ((zo s).getD k 0)=QL s (k+1):=by
  have hl:=zN s
  unfold QL
  rw[<-zaC h (show k<=cnt s by omega),<-zaC h (show k+1<=cnt s by omega),<-zgO,<-zaG]
  congr 1
  rw[List.take_add_one,List.getElem?_eq_getElem (by omega),List.getD_eq_getElem?_getD,List.getElem?_eq_getElem (by omega)]
  rfl
theorem PlainK.hd{s:ByteArray}{wd:Bool}(h:PlainK s wd){j:Nat}(h1:1<=j)(hj:j<=cnt s):PlainK (QL s j) wd:=h.head h1 hj
theorem PlainK.hd_mono{s:ByteArray}{wd:Bool}(h:PlainK s wd){j k:Nat}(h1:1<=j)(hj:j<=k)(hk:k<=cnt s):ZH (QL s j) wd<=ZH (QL s k) wd:=by
  have hp:=h.hd (show 1<=k by omega) hk
  have hc:cnt (QL s k)=k:=Zk hk
  have:=hp.head_le h1 (show j<=cnt (QL s k) by omega)
  have e:(QL s k).extract 0 (pos (QL s k) j)=QL s j:=by
    unfold QL
    have hm:=zcf s hj
    rw[zbh hj hk,ByteArray.extract_extract]
    congr 1
    omega
  rw[e]at this
  exact this
theorem PlainK.hd_le{s:ByteArray}{wd:Bool}(h:PlainK s wd){j:Nat}(h1:1<=j)(hj:j<=cnt s):ZH (QL s j) wd<=ZH s wd:=h.head_le h1 hj
structure PutS(g:Gs)(i:Nat)(s:ByteArray)(k:Nat)(g':Gs):Prop where
  stt:g'.stt=0
  w:g'.w=g.w
  h:g'.h=g.h
  wd:g'.wd=g.wd
  sty:g'.sty=g.sty
  hid:g'.hid=g.hid
  y:g'.y=g.y
  x:g'.x=g.x+ZH (QL s k) g.wd
  last:g'.last=i+1
  len:g'.cs.length=g.cs.length
  p:(zg g'.cs i).p=0
  t:zM (zg g'.cs i)=QL s k
  st:(zg g'.cs i).st=g.sty
  two:ZH (QL s k) g.wd=2->(zg g'.cs (i+1)).p=1/\(zg g'.cs (i+1)).st=g.sty/\(zg g'.cs (i+1)).t.size=0
  low:∀j,j<i->zg g'.cs j=zg g.cs j
  high:∀j,i<j->(ZH (QL s k) g.wd=2->j≠i+1)->(zg g.cs j).p=0->zg g'.cs j=zg g.cs j
theorem zvQ{g:Gs}{i n:Nat}{s:ByteArray}(hi:i<g.cs.length)(hxy:g.y*g.w+g.x=i)(hp:(zg g.cs i).p=0)(hn:n=1\/n=2)(h2:n=2->(i+1)%g.w≠0/\i+1<g.cs.length):
    (Ql g s n).cs.length=g.cs.length/\zg (Ql g s n).cs i=⟨s,0,0,0,false,g.sty⟩/\(n=2->zg (Ql g s n).cs (i+1)=ZA g.sty)/\(∀j,j<i->zg (Ql g s n).cs j=zg g.cs j)/\(∀j,i<j->(n=2->j≠i+1)->(zg g.cs j).p=0->zg (Ql g s n).cs j=zg g.cs j):=by
  unfold Ql
  dsimp only
  rw[hxy]
  rcases hn with hn|hn
  ·subst hn
   rw[if_neg (by decide),if_neg (by decide)]
   have hc:=Zm (w:=g.w) (c:=(⟨s,0,0,0,false,g.sty⟩:Ce)) hi (fun h=>by rw[hp]at h;cases h)
   refine⟨zQ _ _ _ _,by rw[hc,if_pos rfl],fun h=>absurd h (by decide),fun j hj=> ?_,fun j hj _ hpj=> ?_⟩
   ·rw[hc,if_neg (by omega),if_neg (by rw[hp];decide),if_neg (fun h=>by have:=h.2.2;omega)]
   ·rw[hc,if_neg (by omega),if_neg (by rw[hp];decide),if_neg (fun h=> ?_)]
    have e:=h.2.2
    rw[e]at hpj
    rw[hpj]at h
    exact absurd h.2.1 (by decide)
  ·subst hn
   obtain⟨hm,hi1⟩:=h2 rfl
   rw[if_pos rfl,if_pos rfl]
   have hc1:=Zm (l:=g.cs) (w:=g.w) (c:=zw g.sty) hi1 (fun _=>Nat.succ_pos i)
   simp only[Nat.add_sub_cancel]at hc1
   have hl1:=zQ g.cs g.w (i+1) (zw g.sty)
   generalize zF g.cs g.w (i+1) (zw g.sty)=c1 at hc1 hl1⊢
   have p1:(zg c1 i).p=0:=by
     rw[hc1,if_neg (by omega)]
     split
     ·rw[if_pos rfl];rfl
     ·rw[if_neg (fun h=>by have:=h.2.2;omega)];exact hp
   have q1:zg c1 (i+1)=zw g.sty:=by rw[hc1,if_pos rfl]
   have hc2:=Zm (l:=c1) (i:=i) (w:=g.w) (c:=(⟨s,0,0,0,false,g.sty⟩:Ce)) (by omega) (fun h=>by rw[p1]at h;cases h)
   have hl2:=zQ c1 g.w i (⟨s,0,0,0,false,g.sty⟩:Ce)
   generalize zF c1 g.w i (⟨s,0,0,0,false,g.sty⟩:Ce)=c2 at hc2 hl2⊢
   have hc2':∀j,zg c2 j=if j=i then(⟨s,0,0,0,false,g.sty⟩:Ce)else zg c1 j:=fun j=>by
     rw[hc2]
     by_cases hj:j=i
     ·rw[if_pos hj,if_pos hj]
     ·rw[if_neg hj,if_neg hj,if_neg (by rw[p1];decide),if_neg (fun h=>by rw[q1]at h;exact absurd (show(0:Int)=1 from h.2.1) (by decide))]
   have q2:zg c2 (i+1)=zw g.sty:=by rw[hc2',if_neg (by omega),q1]
   have hs:∀j,zg (c2.set (i+1) {zg c2 (i+1)with p:=1}) j=if j=i+1 then {zg c2 (i+1)with p:=1}else zg c2 j:=fun j=>Zd (by omega)
   refine⟨by rw[List.length_set,hl2,hl1],?_,fun _=> ?_,fun j hj=> ?_,fun j hj hn2 hpj=> ?_⟩
   ·rw[hs,if_neg (by omega),hc2',if_pos rfl]
   ·rw[hs,if_pos rfl,q2];rfl
   ·rw[hs,if_neg (by omega),hc2',if_neg (by omega),hc1,if_neg (by omega)]
    split
    ·rw[if_neg (by omega)]
    ·rw[if_neg (fun h=>by have:=h.2.2;omega)]
   ·have hne:=hn2 rfl
    rw[hs,if_neg hne,hc2',if_neg (by omega),hc1,if_neg hne]
    split
    ·rw[if_neg (by omega)]
    ·rw[if_neg (fun h=> ?_)]
     have e:=h.2.2
     rw[e]at hpj
     rw[hpj]at h
     exact absurd h.2.1 (by decide)
theorem zvR(g:Gs)(s:ByteArray)(n:Nat):(Ql g s n).stt=g.stt/\(Ql g s n).w=g.w/\(Ql g s n).h=g.h/\(Ql g s n).wd=g.wd/\(Ql g s n).sty=g.sty/\(Ql g s n).hid=g.hid/\(Ql g s n).y=g.y/\(Ql g s n).x=g.x+n/\(Ql g s n).last=g.y*g.w+g.x+1:=
  ⟨rfl,rfl,rfl,rfl,rfl,rfl,rfl,rfl,rfl⟩
theorem zu7{g:Gs}{i:Nat}{s:ByteArray}{r:Int}(hs:g.stt=0)(hp:PlainK s g.wd)(hr:r=(zo s).getD 0 0)(hi:i<g.cs.length)(hl:g.cs.length=g.w*g.h)(hxy:g.y*g.w+g.x=i)(hx:g.x<g.w)
    (h2:ZH s g.wd=2->(i+1)%g.w≠0) (hp0:(zg g.cs i).p=0) (hj:zZ g r=none):PutS g i s 1 (zj g r):=by
  obtain⟨h0, -, -⟩:=qN hp.one
  have hk:zn r≠0:=by
    rw[hr,Zj h0]
    exact hp.kind h0
  have h1:=hp.hd (Nat.le_refl 1) h0
  have hd1:=zs6 hp.val h0
  rw[<-hr]at hd1
  have hbd:=h1.bd
  have hle:=hp.hd_le (Nat.le_refl 1) h0
  have hpl:=h1.plN
  have hpo:=zgY h1
  have htx:(Zi (Zt r) 0 (lkW g.wd)).1=QL s 1:=by rw[<-hd1,zg2 h1.one,hpo]
  have e0:zj g r=qD g r:=by
    unfold zj
    rw[if_neg (by omega),if_neg (by omega)]
    unfold qz
    rw[if_pos hk]
  have hw0:0<g.w:=by omega
  have hh0:g.h≠0:=by
    intro e
    rw[e,Nat.mul_zero]at hl;omega
  have two:ZH (QL s 1) g.wd=2->(i+1)%g.w≠0/\i+1<g.cs.length/\g.x+2<=g.w:=by
    intro e
    have hm:=h2 (by have:=hp.bd;omega)
    have hxw:g.x+1≠g.w:=by
      intro e2
      apply hm
      rw[show i+1=g.w+g.y*g.w by omega,Nat.add_mul_mod_self_right,Nat.mod_self]
    refine⟨hm,?_,by omega⟩
    rcases Nat.lt_or_ge (i+1) g.cs.length with h|h
    ·exact h
    ·exfalso;apply hm
     rw[show i+1=g.w*g.h by omega,Nat.mul_mod_right]
  have e1:qD g r=Ql {g with last:=0} (QL s 1) (ZH (QL s 1) g.wd):=by
    unfold qD
    rw[hj]
    dsimp only
    rw[htx,hpl]
    generalize ZH (QL s 1) g.wd=n at hbd two
    have hb:n≠0/\n<=g.w/\g.x+n<=g.w:=by
      by_cases e:n=2
      ·have:=two e;omega
      ·omega
    rw[if_neg (by omega),if_neg (by omega)]
  rw[e0,e1]
  have hlp:=zvQ (g:={g with last:=0}) (s:=QL s 1) (n:=ZH (QL s 1) g.wd) hi hxy hp0 (by omega) (fun e=>⟨(two e).1,(two e).2.1⟩)
  obtain⟨l1,l2,l3,l4,l5⟩:=hlp
  obtain⟨f1,f2,f3,f4,f5,f6,f7,f8,f9⟩:=zvR {g with last:=0} (QL s 1) (ZH (QL s 1) g.wd)
  generalize Ql {g with last:=0} (QL s 1) (ZH (QL s 1) g.wd)=G at l1 l2 l3 l4 l5 f1 f2 f3 f4 f5 f6 f7 f8 f9⊢
  refine⟨f1.trans hs,f2,f3,f4,f5,f6,f7,f8,?_,l1,by rw[l2],?_,by rw[l2],fun e=> ?_,l4,l5⟩
  ·rw[f9,<-hxy]
  ·rw[l2]
   exact zf3 (wd:=g.wd) (c:=⟨QL s 1,0,0,0,false,g.sty⟩) rfl (by show plN (QL s 1) g.wd≠0;rw[hpl];omega)
  ·rw[l3 e];exact⟨rfl,rfl,rfl⟩
theorem zsb{g g':Gs}{i k:Nat}{s:ByteArray}{r:Int}(hp:PlainK s g.wd)(hk1:1<=k)(hk:k<cnt s)(hr:r=(zo s).getD k 0)(hi:i<g.cs.length)(hl:g.cs.length=g.w*g.h)
    (h2:ZH s g.wd=2->(i+1)%g.w≠0) (h:PutS g i s k g'):PutS g i s (k+1) (zj g' r):=by
  have hkd:zn r≠0:=by
    rw[hr,Zj hk]
    exact hp.kind hk
  have hst:=zv3 hp.val hk
  rw[<-hr]at hst
  have pa:=hp.hd hk1 (Nat.le_of_lt hk)
  have pb:=hp.hd (j:=k+1) (by omega) hk
  have hmono:=hp.hd_mono (k:=k+1) hk1 (by omega) hk
  have hle:=hp.hd_le (j:=k+1) (by omega) hk
  have ba:=pa.bd;have bb:=pb.bd;have bs:=hp.bd
  have hs':=h.stt
  have e0:zj g' r=qD g' r:=by
    unfold zj
    rw[if_neg (by omega),if_neg (by omega)]
    unfold qz
    rw[if_pos hkd]
  have hlast:=h.last
  have hn1:plN (zM (zg g'.cs i)) g'.wd=ZH (QL s k) g.wd:=by rw[h.t,h.wd,pa.plN]
  have hn2:plN (zM (zg g'.cs i)++Zt r) g'.wd=ZH (QL s (k+1)) g.wd:=by rw[h.t,hst,h.wd,pb.plN]
  have htn:zM (zg g'.cs i)++Zt r=QL s (k+1):=by rw[h.t,hst]
  have hi':i<g'.cs.length:=by rw[h.len];exact hi
  have tx:∀c:Ce,c.p=0->zM {c with t:=QL s (k+1)}=QL s (k+1):=fun c hc=>zf3 (wd:=g.wd) hc (by show plN (QL s (k+1)) g.wd≠0;rw[pb.plN];omega)
  rw[e0]
  by_cases hgr:ZH (QL s k) g.wd<ZH (QL s (k+1)) g.wd
  ·have hm:(i+1)%g.w≠0:=h2 (by omega)
   have hi1:i+1<g'.cs.length:=by
     rw[h.len]
     rcases Nat.lt_or_ge (i+1) g.cs.length with hh|hh
     ·exact hh
     ·exfalso;apply hm
      rw[show i+1=g.w*g.h by omega,Nat.mul_mod_right]
   have ej:zZ g' r=some {g' with cs:=(zF g'.cs g'.w (i+1) (ZA (zg g'.cs i).st)).set i {zg (zF g'.cs g'.w (i+1) (ZA (zg g'.cs i).st)) i with t:=QL s (k+1)},x:=g'.x+1}:=by
     unfold zZ
     simp only[hlast,Nat.add_sub_cancel]
     rw[if_neg (Nat.succ_ne_zero i),hn1,hn2,if_neg (by omega),if_pos hgr,h.w,if_neg hm,htn]
   have ep:qD g' r={g' with cs:=(zF g'.cs g'.w (i+1) (ZA (zg g'.cs i).st)).set i {zg (zF g'.cs g'.w (i+1) (ZA (zg g'.cs i).st)) i with t:=QL s (k+1)},x:=g'.x+1}:=by
     unfold qD;rw[ej]
   rw[ep]
   have hc:=Zm (l:=g'.cs) (w:=g'.w) (c:=ZA (zg g'.cs i).st) hi1 (fun _=>Nat.succ_pos i)
   simp only[Nat.add_sub_cancel]at hc
   have hll:=zQ g'.cs g'.w (i+1) (ZA (zg g'.cs i).st)
   rw[h.st]at hc hll⊢
   generalize zF g'.cs g'.w (i+1) (ZA g.sty)=c1 at hc hll⊢
   have c1i:(zg c1 i).p=0/\(zg c1 i).st=g.sty:=by
     rw[hc,if_neg (by omega)]
     split
     ·rw[if_pos rfl];exact⟨rfl,rfl⟩
     ·rw[if_neg (fun hh=>by have:=hh.2.2;omega)];exact⟨h.p,h.st⟩
   have hset:∀j,zg (c1.set i {zg c1 i with t:=QL s (k+1)}) j=if j=i then {zg c1 i with t:=QL s (k+1)}else zg c1 j:=fun j=>Zd (by omega)
   have w1:ZH (QL s k) g.wd=1:=by omega
   have w2:ZH (QL s (k+1)) g.wd=2:=by omega
   refine⟨hs',h.w,h.h,h.wd,h.sty,h.hid,h.y,?_,hlast,?_,?_,?_,?_,fun _=> ?_,fun j hj=> ?_,fun j hj hn hpj=> ?_⟩
   ·show g'.x+1=_
    rw[h.x,w1,w2]
   ·show(c1.set i _).length=_
    rw[List.length_set,hll,h.len]
   ·show(zg (c1.set i _) i).p=0
    rw[hset,if_pos rfl];exact c1i.1
   ·show zM (zg (c1.set i _) i)=_
    rw[hset,if_pos rfl];exact tx _ c1i.1
   ·show(zg (c1.set i _) i).st=_
    rw[hset,if_pos rfl];exact c1i.2
   ·show(zg (c1.set i _) (i+1)).p=1/\(zg (c1.set i _) (i+1)).st=_/\(zg (c1.set i _) (i+1)).t.size=0
    rw[hset,if_neg (by omega),hc,if_pos rfl]
    exact⟨rfl,rfl,rfl⟩
   ·show zg (c1.set i _) j=_
    rw[hset,if_neg (by omega),hc,if_neg (by omega),<-h.low j hj]
    split
    ·rw[if_neg (by omega)]
    ·rw[if_neg (fun hh=>by have:=hh.2.2;omega)]
   ·show zg (c1.set i _) j=_
    have hne:=hn w2
    have hhi:=h.high j hj (fun e=>by omega) hpj
    rw[hset,if_neg (by omega),hc,if_neg hne]
    split
    ·rw[if_neg (by omega)];exact hhi
    ·rw[if_neg (fun hh=> ?_)]
     ·exact hhi
     ·have e:=hh.2.2
      have h5:=hh.2.1
      rw[<-e,hhi,hpj]at h5
      exact absurd h5 (by decide)
  ·have ej:zZ g' r=some {g' with cs:=g'.cs.set i {zg g'.cs i with t:=QL s (k+1)}}:=by
     unfold zZ
     simp only[hlast,Nat.add_sub_cancel]
     rw[if_neg (Nat.succ_ne_zero i),hn1,hn2,if_neg (by omega),if_neg hgr,htn]
   have ep:qD g' r={g' with cs:=g'.cs.set i {zg g'.cs i with t:=QL s (k+1)}}:=by
     unfold qD;rw[ej]
   rw[ep]
   have hset:∀j,zg (g'.cs.set i {zg g'.cs i with t:=QL s (k+1)}) j=if j=i then {zg g'.cs i with t:=QL s (k+1)}else zg g'.cs j:=fun j=>Zd hi'
   have ww:ZH (QL s (k+1)) g.wd=ZH (QL s k) g.wd:=by omega
   refine⟨hs',h.w,h.h,h.wd,h.sty,h.hid,h.y,?_,hlast,?_,?_,?_,?_,fun e=> ?_,fun j hj=> ?_,fun j hj hn hpj=> ?_⟩
   ·show g'.x=_
    rw[h.x,ww]
   ·show(g'.cs.set i _).length=_
    rw[List.length_set,h.len]
   ·show(zg (g'.cs.set i _) i).p=0
    rw[hset,if_pos rfl];exact h.p
   ·show zM (zg (g'.cs.set i _) i)=_
    rw[hset,if_pos rfl];exact tx _ h.p
   ·show(zg (g'.cs.set i _) i).st=_
    rw[hset,if_pos rfl];exact h.st
   ·show(zg (g'.cs.set i _) (i+1)).p=1/\(zg (g'.cs.set i _) (i+1)).st=_/\(zg (g'.cs.set i _) (i+1)).t.size=0
    rw[hset,if_neg (by omega)]
    exact h.two (by omega)
   ·show zg (g'.cs.set i _) j=_
    rw[hset,if_neg (by omega)]
    exact h.low j hj
   ·show zg (g'.cs.set i _) j=_
    rw[hset,if_neg (by omega)]
    exact h.high j hj (fun e=>hn (by omega)) hpj
theorem ziz(g:Gs)(l:List Int){k:Nat}(hk:k<l.length):zH g (l.take (k+1))=zj (zH g (l.take k)) (l.getD k 0):=by
  unfold zH
  rw[List.take_add_one,List.getElem?_eq_getElem hk,Option.toList_some,List.foldl_append,List.getD_eq_getElem?_getD,List.getElem?_eq_getElem hk]
  rfl
theorem zu8{g:Gs}{i:Nat}{s:ByteArray}(hs:g.stt=0)(hp:PlainK s g.wd)(hi:i<g.cs.length)(hl:g.cs.length=g.w*g.h)(hxy:g.y*g.w+g.x=i)(hx:g.x<g.w)
    (h2:ZH s g.wd=2->(i+1)%g.w≠0) (hp0:(zg g.cs i).p=0) (hj:zZ g ((zo s).getD 0 0)=none):PutS g i s (cnt s) (zH g (zo s)):=by
  obtain⟨h0, -, -⟩:=qN hp.one
  have hrl:=zN s
  have key:∀k,k+1<=cnt s->PutS g i s (k+1) (zH g ((zo s).take (k+1))):=by
    intro k
    induction k with
    |zero=>
     intro _
     rw[ziz g _ (by omega)]
     exact zu7 hs hp rfl hi hl hxy hx h2 hp0 hj
    |succ k ih=>
     intro hk
     rw[ziz g _ (by omega)]
     exact zsb hp (by omega) (by omega) rfl hi hl h2 (ih (by omega))
  obtain⟨k,hk⟩:∃k,cnt s=k+1:=⟨cnt s - 1,by omega⟩
  have:=key k (by omega)
  rw[<-hk,List.take_of_length_le (by omega)]at this
  exact this
end

section
open Go Vc Ut Tb Cl Orb
structure Lnk(t:Te)(g:Gs):Prop where
  stt:g.stt=0
  st:g.sty=t.st
  w:t.w=g.w
  wd:t.wd=g.wd
  ps:t.ps≠ -1->t.ps=((g.y*g.w+g.x:Nat):Int)/\g.x<g.w
  l0:t.last.size=0->g.last=0
  l1:t.last.size≠0->g.last≠0/\zM (zg g.cs (g.last - 1))=t.last
structure Fed(g0:Gs)(t:Te)(g:Gs):Prop where
  val:zC t.b=true
  fed:g=zH g0 (zo t.b)
  lnk:Lnk t g
theorem Fed.ok{g0 g:Gs}{t:Te}{m:Nat}(h:Fed g0 t g)(h0:okG g0 m):okG g (m+(zo t.b).length):=by rw[h.fed];exact zdU _ h0
theorem zaP{g0 g:Gs}{a b:ByteArray}(h:zC a=true)(hf:g=zH g0 (zo a))(hb:zC b=true):zC (a++b)=true/\zH g0 (zo (a++b))=zH g (zo b):=by
  have:=QP h hb
  exact⟨this.1,by rw[this.2,zaf,<-hf]⟩
theorem zlA{g0 g:Gs}{t:Te}{i:Nat}(hv:zC t.b=true)(hf:g=zH g0 (zo t.b))(hs:g.stt=0)(hw:t.w=g.w)(h1:g.w<=1024)(h2:g.h<=1024)(hi:i<g.w*g.h):
    zC (Qt t (i:Int)).b=true/\zdp g i=zH g0 (zo (Qt t (i:Int)).b):=by
  obtain⟨m1,m2⟩:=zsG hs h1 h2 hi
  have e:[(i:Int) / t.w+1,(i:Int)%t.w+1]=[((i / g.w+1:Nat):Int),((i%g.w+1:Nat):Int)]:=by
    rw[hw,Int.natCast_add,Int.natCast_add,Int.natCast_ediv,Int.natCast_emod];rfl
  have hb:(Qt t (i:Int)).b=t.b++zbd 72 [((i / g.w+1:Nat):Int),((i%g.w+1:Nat):Int)]:=by
    unfold Qt zhS;rw[e]
  rw[hb]
  have:=zaP hv hf (zdG (c:=72) (by decide) m1).1
  exact⟨this.1,by rw[this.2,m2]⟩
theorem zx1{g:Gs}{i:Nat}(hw:0<g.w):(zdp g i).y*(zdp g i).w+(zdp g i).x=i/\(zdp g i).x<(zdp g i).w:=
  ⟨by show i / g.w*g.w+i%g.w=i;rw[Nat.mul_comm];exact Nat.div_add_mod i g.w,Nat.mod_lt _ hw⟩
theorem zkV{w h i:Nat}(hi:i<w*h):0<w:=by
  rcases Nat.eq_zero_or_pos w with e|e
  ·rw[e,Nat.zero_mul]at hi;omega
  ·exact e
theorem Fed.move{g0 g:Gs}{t:Te}{i:Nat}(h:Fed g0 t g)(h1:g.w<=1024)(h2:g.h<=1024)(hi:i<g.w*g.h):Fed g0 (Qt t (i:Int)) (zdp g i):=by
  obtain⟨v,f⟩:=zlA h.val h.fed h.lnk.stt h.lnk.w h1 h2 hi
  have ha:=zx1 (g:=g) (i:=i) (zkV hi)
  exact⟨v,f,⟨rfl,h.lnk.st,h.lnk.w,h.lnk.wd,fun _=>⟨by rw[ha.1];rfl,ha.2⟩,fun _=>rfl,fun hh=>absurd rfl hh⟩⟩
theorem Fed.wear{g0 g:Gs}{t:Te}{s:Nat}(h:Fed g0 t g)(hs:s<65536):Fed g0 (Qo t s) (zhQ g s):=by
  have:=zaP h.val h.fed (zdG (c:=109) (by decide) (zei hs)).1
  exact⟨this.1,by rw[<-zkc h.lnk.stt hs,<-this.2];rfl,⟨rfl,rfl,h.lnk.w,h.lnk.wd,h.lnk.ps,fun _=>rfl,fun hh=>absurd rfl hh⟩⟩
theorem Fed.clear{g0 g:Gs}{t:Te}(h:Fed g0 t g)(hp:t.ps= -1):Fed g0 (zhS t 74 [2]) (zhE g):=by
  have:=zaP h.val h.fed (zdG (c:=74) (l:=[2]) (by decide) (fun n hn=>by rw[List.mem_singleton.1 hn];decide)).1
  have hb:∀g:Gs,(qu g).stt=g.stt/\(qu g).sty=g.sty/\(qu g).w=g.w/\(qu g).wd=g.wd/\(qu g).last=g.last:=fun g=>by
    unfold qu;split<;>exact⟨rfl,rfl,rfl,rfl,rfl⟩
  have hc:=hb {zmF g [2]with cs:=List.replicate g.cs.length (zw 0)}
  exact⟨this.1,by rw[<-ztM h.lnk.stt,<-this.2];rfl,⟨hc.1,hc.2.1.trans h.lnk.st,by rw[show(zhE g).w=g.w from hc.2.2.1];exact h.lnk.w,by rw[show(zhE g).wd=g.wd from hc.2.2.2.1];exact h.lnk.wd,fun hh=>absurd hp hh,fun _=>hc.2.2.2.2,fun hh=>absurd rfl hh⟩⟩
structure Stay(g g':Gs):Prop where
  cs:g'.cs=g.cs
  w:g'.w=g.w
  h:g'.h=g.h
  wd:g'.wd=g.wd
  hid:g'.hid=g.hid
theorem Stay.refl(g:Gs):Stay g g:=⟨rfl,rfl,rfl,rfl,rfl⟩
theorem Stay.trans{a b c:Gs}(h:Stay a b)(k:Stay b c):Stay a c:=⟨k.cs.trans h.cs,k.w.trans h.w,k.h.trans h.h,k.wd.trans h.wd,k.hid.trans h.hid⟩
theorem zko(g:Gs)(i:Nat):Stay g (zdp g i):=⟨rfl,rfl,rfl,rfl,rfl⟩
theorem zrr(g:Gs)(s:Nat):Stay g (zhQ g s):=⟨rfl,rfl,rfl,rfl,rfl⟩
theorem zvx{s:ByteArray}(h0:0<cnt s):s.extract 0 (QM s)=QL s 1:=by
  have hp:=qK.1 h0
  have h1:=qn hp
  have e0:pos s 0=0:=rfl
  unfold QL QM
  rw[if_neg (by omega),h1,e0,Nat.zero_add]
structure Told(g:Gs)(i:Nat)(c:Ce)(g':Gs):Prop where
  len:g'.cs.length=g.cs.length
  w:g'.w=g.w
  h:g'.h=g.h
  wd:g'.wd=g.wd
  hid:g'.hid=g.hid
  p:(zg g'.cs i).p=0
  t:zM (zg g'.cs i)=zM c
  st:(zg g'.cs i).st=c.st
  low:∀j,j<i->zg g'.cs j=zg g.cs j
  high:∀j,i<j->(plN (zM c) g.wd=2->j≠i+1)->(zg g.cs j).p=0->zg g'.cs j=zg g.cs j
theorem Fed.tell{g0 g:Gs}{t:Te}{m i:Nat}{c:Ce}(h:Fed g0 t g)(h0:okG g0 m)(hi:i<g.cs.length)(hst:c.st<65536)(hp:PlainK (zM c) g.wd)(h2:plN (zM c) g.wd=2->(i+1)%g.w≠0)(hp0:(zg g.cs i).p=0):
    ∃g',Fed g0 (QA t (i:Int) c) g'/\Told g i c g':=by
  unfold QA
  have hok:=h.ok h0
  have hw:=hok.w;have hh:=hok.h;have hlen:=hok.len
  have hi':i<g.w*g.h:=by omega
  have hw0:=zkV hi'
  rw[hp.plN]at h2
  obtain⟨g1,f1,s1,p1⟩:∃g1,Fed g0 (te1 t i) g1/\Stay g g1/\(te1 t i).ps=i:=by
    unfold te1
    by_cases e:t.ps≠i
    ·rw[if_pos e]
     exact⟨zdp g i,h.move hw hh hi',zko g i,rfl⟩
    ·rw[if_neg e]
     exact⟨g,h,Stay.refl g,Decidable.not_not.1 e⟩
  obtain⟨g2,f2,s2,p2,q2⟩:∃g2,Fed g0 (te2 (te1 t i) c.st) g2/\Stay g g2/\(te2 (te1 t i) c.st).ps=i/\g2.sty=c.st:=by
    unfold te2
    by_cases e:(te1 t i).st≠c.st
    ·rw[if_pos e]
     exact⟨zhQ g1 c.st,f1.wear hst,s1.trans (zrr g1 c.st),p1,rfl⟩
    ·rw[if_neg e]
     exact⟨g1,f1,s1,p1,f1.lnk.st.trans (Decidable.not_not.1 e)⟩
  generalize te2 (te1 t i) c.st=t2 at f2 p2⊢
  obtain⟨hc0, -, -⟩:=qN hp.one
  obtain⟨g3,f3,s3,p3,q3,j3⟩:∃g3,Fed g0 (te3 t2 i (zM c)) g3/\Stay g g3/\(te3 t2 i (zM c)).ps=i/\g3.sty=c.st/\zZ g3 ((zo (zM c)).getD 0 0)=none:=by
    unfold te3
    by_cases e:zeJ t2 (zM c)=true
    ·rw[if_pos e]
     refine⟨zdp g2 i,f2.move (by rw[s2.w];exact hw) (by rw[s2.h];exact hh) (by rw[s2.w,s2.h];exact hi'),s2.trans (zko g2 i),rfl,q2,?_⟩
     unfold zZ
     rw[if_pos (show(zdp g2 i).last=0 from rfl)]
    ·rw[if_neg e]
     refine⟨g2,f2,s2,p2,q2,?_⟩
     by_cases hl:g2.last=0
     ·unfold zZ;rw[if_pos hl]
     ·have hsz:t2.last.size≠0:=fun hh=>hl (f2.lnk.l0 hh)
      obtain⟨-,htx⟩:=f2.lnk.l1 hsz
      have hok2:=f2.ok h0
      have hlo:=hok2.last hl
      have h12:=ZZ (i:=g2.last - 1) hok2.ok (by have:=hlo.le;omega) hlo.p
      have hn1:1<=plN (zM (zg g2.cs (g2.last - 1))) g2.wd:=by rcases h12 with h12|h12<;>omega
      have hnc:¬Zc (t2.last++Zt ((zo (zM c)).getD 0 0))=1:=by
        intro hh
        apply e
        unfold zeJ
        rw[zvx hc0,zs6 hp.val hc0,hh,decide_eq_true hsz]
        rfl
      have hz:plN (zM (zg g2.cs (g2.last - 1))++Zt ((zo (zM c)).getD 0 0)) g2.wd=0:=by
        rw[htx]
        unfold plN
        rw[if_neg (fun hh=>hnc hh.2.1)]
      unfold zZ
      rw[if_neg hl,hz,if_pos (by omega)]
  generalize te3 t2 i (zM c)=t3 at f3 p3⊢
  have hps:=f3.lnk.ps (by rw[p3];omega)
  have hxy:g3.y*g3.w+g3.x=i:=by have:=hps.1;rw[p3]at this;omega
  have hx:=hps.2
  have hput:=zu8 (i:=i) (s:=zM c) f3.lnk.stt (by rw[s3.wd];exact hp) (by rw[s3.cs];exact hi) (by rw[s3.cs,s3.w,s3.h];exact hlen) hxy hx (by rw[s3.wd,s3.w];exact h2) (by rw[s3.cs];exact hp0) j3
  have hmore:=zaP f3.val f3.fed hp.val
  have hwid:ZH (QL (zM c) (cnt (zM c))) g3.wd=ZH (zM c) g.wd:=by rw[znc,s3.wd]
  refine⟨zH g3 (zo (zM c)),⟨hmore.1,hmore.2.symm,?_⟩,?_⟩
  ·have hsz:=zjI hp.one
   have hbd:=hp.bd
   refine⟨hput.stt,?_,?_,?_,?_,fun hh=> ?_,fun _=>⟨?_,?_⟩⟩
   ·rw[hput.sty];exact f3.lnk.st
   ·rw[hput.w];exact f3.lnk.w
   ·rw[hput.wd];exact f3.lnk.wd
   ·show(if((i:Int)+plN (zM c) t3.wd)%t3.w=0 then(-1:Int)else(i:Int)+plN (zM c) t3.wd)≠ -1->(if((i:Int)+plN (zM c) t3.wd)%t3.w=0 then(-1:Int)else(i:Int)+plN (zM c) t3.wd)=_/\_
    have ew:t3.w=g3.w:=f3.lnk.w
    have ed:t3.wd=g.wd:=f3.lnk.wd.trans s3.wd
    rw[ew,ed,hp.plN,hput.x,hput.y,hput.w,hwid,<-Int.natCast_add,<-Int.natCast_emod]
    have hxn:g3.x+ZH (zM c) g.wd<=g3.w:=by
      by_cases e2:ZH (zM c) g.wd=2
      ·have:=h2 e2
       rw[<-s3.w]at this
       have hne:g3.x+1≠g3.w:=by
         intro e3
         apply this
         rw[show i+1=g3.w+g3.y*g3.w by omega,Nat.add_mul_mod_self_right,Nat.mod_self]
       omega
      ·omega
    by_cases e:(((i+ZH (zM c) g.wd)%g3.w:Nat):Int)=0
    ·rw[if_pos e];intro hh;exact absurd rfl hh
    ·rw[if_neg e]
     intro _
     refine⟨by omega,?_⟩
     rcases Nat.lt_or_ge (g3.x+ZH (zM c) g.wd) g3.w with h5|h5
     ·exact h5
     ·exfalso;apply e
      rw[show i+ZH (zM c) g.wd=g3.w+g3.y*g3.w by omega,Nat.add_mul_mod_self_right,Nat.mod_self];rfl
   ·exact absurd hh (by show ¬(zM c).size=0;omega)
   ·rw[hput.last];exact Nat.succ_ne_zero i
   ·rw[hput.last,Nat.add_sub_cancel,hput.t,znc];rfl
  ·refine⟨by rw[hput.len,s3.cs],by rw[hput.w,s3.w],by rw[hput.h,s3.h],by rw[hput.wd,s3.wd],by rw[hput.hid,s3.hid],hput.p,by rw[hput.t,znc],by rw[hput.st,q3],fun j hj=>by rw[hput.low j hj,s3.cs],fun j hj hn hpj=> ?_⟩
   rw[hput.high j hj (fun e=>hn (by rw[hp.plN,<-hwid];exact e)) (by rw[s3.cs];exact hpj),s3.cs]
end

section
open Go Vc Ut Tb Cl Orb
structure LoopI(b:List Ce)(g0 g1:Gs)(t:Te)(g:Gs)(i:Nat):Prop where
  fed:Fed g0 t g
  w:g.w=g1.w
  h:g.h=g1.h
  wd:g.wd=g1.wd
  len:g.cs.length=b.length
  pre:∀j,j<i->qm (zg g.cs j) (zg b j)=true
  post:∀j,i<=j->(zg b j).p=0->(zg g1.cs j).p=0->zg g.cs j=zg g1.cs j
theorem zp2{kn:Bool}{a b:List Ce}{g0 g1 g:Gs}{t0:Te}{m i:Nat}(h0:okG g0 m)(hb:okL b g1.w g1.wd)(hst:∀c∈b,c.st<65536)
    (hk:kn=true->∀j,j<b.length->qm (zg g1.cs j) (zg a j)=true) (hi:i<b.length) (h:LoopI b g0 g1 (qB kn a b t0 i) g i):∃g',LoopI b g0 g1 (qB kn a b t0 (i+1)) g' (i+1):=by
  have hok:=h.fed.ok h0
  have hg:=hok.ok
  have hlen:=h.len
  have hbi:=hb i hi
  simp only[qB]
  by_cases hT:QQ kn a b i=true
  ·rw[if_pos hT]
   have hp:(zg b i).p=0:=by
     unfold QQ at hT
     rw[Bool.and_eq_true]at hT
     exact beq_iff_eq.1 hT.1
   have h2:=ZZ hb hi hp
   have hpl:plN (zM (zg b i)) g.wd≠0:=by rw[h.wd];rcases h2 with h2|h2<;>omega
   have hp0:(zg g.cs i).p=0:=by
     have hgi:=hg i (by omega)
     unfold Z0 at hgi
     split at hgi
     ·exfalso
      obtain⟨k1,k2,k3⟩:=hgi
      obtain⟨e1, -,e3⟩:=qY.1 (h.pre (i - 1) (by omega))
      have hb1:=ZZ (i:=i - 1) hb (by omega) (by rw[<-e1];exact k2)
      rw[<-e3,<-h.wd,k3]at hb1
      rcases hb1 with hb1|hb1
      ·omega
      ·have:=hb1.2.2.2.1
       rw[show i - 1+1=i by omega,hp]at this
       exact absurd this (by decide)
     ·exact hgi.1
   obtain⟨g',f',d'⟩:=h.fed.tell (i:=i) (c:=zg b i) h0 (by omega) (hst _ (zfP hi)) (zkY hpl) (fun e=>by
     rw[h.wd]at e
     rw[h.w]
     rcases h2 with h2|h2
     ·omega
     ·exact h2.2.1) hp0
   refine⟨g',f',d'.w.trans h.w,d'.h.trans h.h,d'.wd.trans h.wd,d'.len.trans h.len,fun j hj=> ?_,fun j hj hbj hgj=> ?_⟩
   ·by_cases e:j=i
    ·rw[e]
     exact qY.2 ⟨by rw[d'.p,hp],d'.st,d'.t⟩
    ·rw[d'.low j (by omega)]
     exact h.pre j (by omega)
   ·have hs:=h.post j (by omega) hbj hgj
    rw[d'.high j (by omega) (fun e he=> ?_) (by rw[hs];exact hgj),hs]
    rw[h.wd]at e
    rcases h2 with h2|h2
    ·omega
    ·rw[he,h2.2.2.2.1]at hbj
     exact absurd hbj (by decide)
  ·rw[if_neg hT]
   refine⟨g,h.fed,h.w,h.h,h.wd,h.len,fun j hj=> ?_,fun j hj=>h.post j (by omega)⟩
   by_cases e:j=i
   rotate_left
   ·exact h.pre j (by omega)
   rw[e]
   unfold Z0 at hbi
   split at hbi
   ·rename_i hp1
    obtain⟨k1,k2,k3⟩:=hbi
    have hb1:=ZZ (i:=i - 1) hb (by omega) k2
    obtain⟨e1,e2,e3⟩:=qY.1 (h.pre (i - 1) (by omega))
    have hg1:=ZZ (i:=i - 1) hg (by omega) (by rw[e1];exact k2)
    rw[show i - 1+1=i by omega]at hb1 hg1
    rw[e3,h.wd,k3]at hg1
    rcases hg1 with hg1|hg1
    ·omega
    rcases hb1 with hb1|hb1
    ·omega
    have tx1:∀c:Ce,c.p=1->c.t.size=0->zM c=⟨#[]⟩:=fun c hp hs=>by
      unfold zM
      rw[if_neg (fun hh=>by have:=hh.1;rw[hp]at this;exact absurd this (by decide)),zay hs]
    refine qY.2 ⟨by rw[hg1.2.2.2.1,hp1],?_,?_⟩
    ·rw[hg1.2.2.2.2.1,hb1.2.2.2.2.1,e2]
    ·rw[tx1 _ hg1.2.2.2.1 hg1.2.2.2.2.2,tx1 _ hp1 hb1.2.2.2.2.2]
   ·have hp:=hbi.1
    unfold QQ at hT
    rw[hp]at hT
    simp only[beq_self_eq_true,Bool.true_and,Bool.or_eq_true,Bool.not_eq_true',not_or,Bool.not_eq_true,Bool.not_eq_false]at hT
    obtain⟨t1,t2, -⟩:=hT
    obtain⟨a1,a2,a3⟩:=qY.1 t2
    obtain⟨c1,c2,c3⟩:=qY.1 (hk t1 i hi)
    rw[h.post i (Nat.le_refl _) hp (by rw[c1,a1,hp])]
    exact qY.2 ⟨c1.trans a1,c2.trans a2,c3.trans a3⟩
theorem zlh{kn:Bool}{a b:List Ce}{g0 g1:Gs}{t0:Te}{m:Nat}(h0:okG g0 m)(hb:okL b g1.w g1.wd)(hst:∀c∈b,c.st<65536)
    (hk:kn=true->∀j,j<b.length->qm (zg g1.cs j) (zg a j)=true) (hl:g1.cs.length=b.length) (hf:Fed g0 t0 g1):∀i,i<=b.length->∃g,LoopI b g0 g1 (qB kn a b t0 i) g i
  |0,_=>⟨g1,hf,rfl,rfl,rfl,hl,fun j hj=>by omega,fun _ _ _ _=>rfl⟩
  |i+1,hi=>by
   obtain⟨g,hg⟩:=zlh h0 hb hst hk hl hf i (by omega)
   exact zp2 h0 hb hst hk (by omega) hg
theorem zwe{g0:Gs}{b:Gr}{wd kn:Bool}(hs:g0.stt=0)(hw:b.w=g0.w)(hd:wd=g0.wd):Fed g0 (Qy kn b wd) (if kn then zhQ g0 0 else zhE (zhQ g0 0)):=by
  have h1:Fed g0 (Qo ⟨⟨#[]⟩, -1,⟨#[]⟩,0,b.w,wd⟩ 0) (zhQ g0 0):=by
    have:=zaP (g0:=g0) (g:=g0) (a:=⟨#[]⟩) (b:=zbd 109 (qU 0)) QF.1 (by rw[QF.2];rfl) (zdG (c:=109) (by decide) (zei (by decide))).1
    exact⟨this.1,by rw[<-zkc hs (by decide),<-this.2];rfl,⟨rfl,rfl,hw,hd,fun hh=>absurd rfl hh,fun _=>rfl,fun hh=>absurd rfl hh⟩⟩
  unfold Qy
  cases kn
  ·exact h1.clear rfl
  ·exact h1
theorem zzd(g:Gs):(zhE g).w=g.w/\(zhE g).h=g.h/\(zhE g).wd=g.wd/\(zhE g).cs=List.replicate g.cs.length (zw 0):=by
  unfold zhE qu;split<;>exact⟨rfl,rfl,rfl,rfl⟩
theorem zne(g:Gs):(qQ g).x=if g.hid=false/\g.cs≠[]then(min (g.x:Int) ((g.w:Int) - 1))else -1:=rfl
theorem znd(g:Gs):(qQ g).y=if g.hid=false/\g.cs≠[]then(g.y:Int)else -1:=rfl
theorem zhx{g0:Gs}{m:Nat}{a b:Gr}{wd:Bool}{s:ByteArray}(hg:okG g0 m)(hs:g0.stt=0)(hd:wd=g0.wd)(hw:b.w=g0.w)(hh:b.h=g0.h)(hb:zm b wd=true)(hst:∀c∈b.cs,c.st<65536)
    (hk:zI a b wd=true->Zx g0.cs a.cs=true) (hD:Zb a b wd=some s):
    zC s=true/\qa (qQ (zH g0 (zo s))) b=true/\(zH g0 (zo s)).stt=0:=by
  obtain⟨b1,b2,b3,b4,b5,b6,b7⟩:=ZY hb
  have hlen:g0.cs.length=b.cs.length:=by
    have h1:=hg.len
    rw[hw,hh,<-Int.natCast_mul]at b5
    omega
  have hokb:okL b.cs g0.w g0.wd:=by
    rw[hw,Int.toNat_natCast,hd]at b7
    exact zfI.1 b7
  unfold Zb at hD
  split at hD
  ·cases hD
  have hD:=Option.some.inj hD
  have hf:=zwe (kn:=zI a b wd) hs hw hd
  have hc:=zzd (zhQ g0 0)
  generalize hkn:zI a b wd=kn at hD hf hk
  generalize hg1:(if kn=true then zhQ g0 0 else zhE (zhQ g0 0))=g1 at hf
  have f1:g1.w=g0.w/\g1.h=g0.h/\g1.wd=g0.wd/\g1.cs.length=g0.cs.length/\(kn=true->g1.cs=g0.cs):=by
    cases kn
    ·rw[if_neg (by decide)]at hg1
     rw[<-hg1,hc.1,hc.2.1,hc.2.2.1,hc.2.2.2,List.length_replicate]
     exact⟨rfl,rfl,rfl,rfl,fun h=>by cases h⟩
    ·rw[if_pos rfl]at hg1
     rw[<-hg1];exact⟨rfl,rfl,rfl,rfl,fun _=>rfl⟩
  obtain⟨e1,e2,e3,e4,e5⟩:=f1
  obtain⟨g,hL⟩:=zlh (kn:=kn) (a:=a.cs) (b:=b.cs) (t0:=Qy kn b wd) hg (by rw[e1,e3];exact hokb) hst (fun h j hj=>by
    have h1:=(zbD.1 (hk h)).2 j (by omega)
    rw[e5 h];exact h1) (by omega) hf b.cs.length (Nat.le_refl _)
  generalize qB kn a.cs b.cs (Qy kn b wd) b.cs.length=t at hD hL
  have hF:=hL.fed
  have hok:=hF.ok hg
  have hgl:=hL.len
  have hsam:Zx g.cs b.cs=true:=zbD.2 ⟨hgl,fun j hj=>hL.pre j (by omega)⟩
  have gw:(g.w:Int)=b.w:=by rw[hL.w,e1,hw]
  have gh:(g.h:Int)=b.h:=by rw[hL.h,e2,hh]
  have cur:((b.x= -1/\b.y= -1)\/(0<=b.x/\b.x<b.w/\0<=b.y/\b.y<b.h)):=by
    unfold zav at b6
    simpa only[Bool.or_eq_true,Bool.and_eq_true,beq_iff_eq,decide_eq_true_eq]using b6
  have same:∀g':Gs,g'.w=g.w->g'.h=g.h->g'.cs=g.cs->(qQ g').x=b.x->(qQ g').y=b.y->qa (qQ g') b=true:=fun g' k1 k2 k3 k4 k5=>by
    rw[zfv (by show(g'.w:Int)=b.w;rw[k1,gw]) (by show(g'.h:Int)=b.h;rw[k2,gh]) k4 k5]
    show Zx g'.cs b.cs=true
    rw[k3];exact hsam
  unfold zlE at hD
  by_cases hx:b.x<0
  ·rw[if_pos hx]at hD
   have hD:t.b++⟨#[27,91,63,50,53,if true then 108 else 104]⟩=s:=hD
   have hm:=zaP hF.val hF.fed (zjj true).1
   rw[hD,zkt hF.lnk.stt]at hm
   refine⟨hm.1,?_,by rw[hm.2];rfl⟩
   rw[hm.2]
   have hcur:b.x= -1/\b.y= -1:=by
     rcases cur with c|c
     ·exact c
     ·omega
   refine same _ rfl rfl rfl ?_ ?_
   ·rw[hcur.1,zne]
    rw[if_neg (fun hh=>by have:=hh.1;cases this)]
   ·rw[hcur.2,znd]
    rw[if_neg (fun hh=>by have:=hh.1;cases this)]
  ·rw[if_neg hx]at hD
   have hcur:0<=b.x/\b.x<b.w/\0<=b.y/\b.y<b.h:=by
     rcases cur with c|c
     ·omega
     ·exact c
   obtain⟨x,hxe⟩:∃x:Nat,b.x=x:=⟨b.x.toNat,by omega⟩
   obtain⟨y,hye⟩:∃y:Nat,b.y=y:=⟨b.y.toNat,by omega⟩
   have hxw:x<g.w:=by omega
   have hyh:y<g.h:=by omega
   have hlt:y*g.w+x<g.w*g.h:=by
     have:(y+1)*g.w<=g.h*g.w:=Nat.mul_le_mul_right _ hyh
     rw[Nat.add_mul,Nat.one_mul,Nat.mul_comm g.h]at this
     omega
   have hi:b.y*t.w+b.x=((y*g.w+x:Nat):Int):=by
     rw[hF.lnk.w,hxe,hye,Int.natCast_add,Int.natCast_mul]
   have hm:=zaP hF.val hF.fed (zjj false).1
   rw[zkt hF.lnk.stt]at hm
   have hmv:=zlA (t:={t with b:=t.b++⟨#[27,91,63,50,53,if false then 108 else 104]⟩}) (g:=zv2 g false) (i:=y*g.w+x) hm.1 hm.2.symm rfl hF.lnk.w hok.w hok.h hlt
   have hD:(Qt {t with b:=t.b++⟨#[27,91,63,50,53,if false then 108 else 104]⟩} (b.y*t.w+b.x)).b=s:=hD
   rw[hi]at hD
   rw[hD]at hmv
   refine⟨hmv.1,?_,by rw[<-hmv.2];rfl⟩
   rw[<-hmv.2]
   have hcs:g.cs≠[]:=by
     intro hh
     have:=hok.len
     rw[hh,List.length_nil]at this
     omega
   have hw0:0<g.w:=by omega
   have m1:(zdp (zv2 g false) (y*g.w+x)).x=x:=by
     show(y*g.w+x)%g.w=x
     rw[Nat.add_comm,Nat.add_mul_mod_self_right,Nat.mod_eq_of_lt hxw]
   have m2:(zdp (zv2 g false) (y*g.w+x)).y=y:=by
     show(y*g.w+x) / g.w=y
     rw[Nat.add_comm,Nat.add_mul_div_right _ _ hw0,Nat.div_eq_of_lt hxw,Nat.zero_add]
   refine same _ rfl rfl rfl ?_ ?_
   ·rw[zne,if_pos ⟨rfl,hcs⟩,m1,hxe]
    show min (x:Int) ((g.w:Int) - 1)=x
    omega
   ·rw[znd,if_pos ⟨rfl,hcs⟩,m2,hye]
theorem znf{g:Gs}{m:Nat}(h:okG g m):zm (qQ g) g.wd=true:=by
  have hw:=h.w;have hh:=h.h;have hl:=h.len
  unfold zm
  simp only[Bool.and_eq_true,beq_iff_eq]
  refine⟨decide_eq_true (show(0:Int)<=(g.w:Int)/\(g.w:Int)<=1024/\(0:Int)<=(g.h:Int)/\(g.h:Int)<=1024 by omega),?_,?_,?_⟩
  ·show(g.cs.length:Int)=g.w*g.h
   rw[hl,Int.natCast_mul]
  ·unfold zav qQ
   dsimp only
   by_cases hc:g.hid=false/\g.cs≠[]
   ·rw[if_pos hc,if_pos hc]
    have h0:0<g.w*g.h:=by rw[<-hl];exact List.length_pos_iff.2 hc.2
    have hw0:=zkV h0
    have hh0:0<g.h:=by
      rcases Nat.eq_zero_or_pos g.h with e|e
      ·rw[e,Nat.mul_zero]at h0;omega
      ·exact e
    have hx:=h.x
    have hy:g.y<g.h:=by
      rcases h.y with e|e
      ·exact e
      ·omega
    rw[Bool.or_eq_true]
    right
    exact decide_eq_true (by omega)
   ·rw[if_neg hc,if_neg hc];rfl
  ·show Zg (g.w:Int).toNat g.wd g.cs 0=true
   rw[Int.toNat_natCast]
   exact zfI.2 h.ok
end

section
open Go Vc Ut Tb Cl Orb
theorem zoQ:∀(k u:Nat),u<10^(k+1)->(Lib.decDigits u).length<=k+1
  |k,u,h=>by
   rw[Lib.decDigits]
   by_cases h1:u<10
   ·rw[dif_pos h1];show 1<=k+1;omega
   ·rw[dif_neg h1,List.length_append]
    cases k with
    |zero=>omega
    |succ k=>
     have:=zoQ k (u / 10) (by rw[Nat.pow_succ]at h;omega)
     show(Lib.decDigits (u / 10)).length+1<=_
     omega
theorem ze5{n:Int}(k:Nat)(h0:0<=n)(h:n<((10^(k+1):Nat):Int)):(qE n).size<=k+1:=by
  unfold qE Lib.itoa
  rw[if_neg (by omega)]
  show(Lib.decDigits n.toNat).toArray.size<=_
  rw[List.size_toArray]
  exact zoQ k n.toNat (by omega)
theorem ZO(f:Bool)(n:Int)(l:List Int):(qW f (n::l)).size=(if f then 0 else 1)+(qE n).size+(qW false l).size:=by
  show((if f then⟨#[]⟩else⟨#[59]⟩)++qE n++qW false l).size=_
  rw[ByteArray.size_append,ByteArray.size_append]
  cases f<;>rfl
theorem zbk:∀(l m:List Int),(qW false (l++m)).size=(qW false l).size+(qW false m).size
  |[],m=>by
   show _=0+_
   rw[Nat.zero_add];rfl
  |n::l,m=>by rw[List.cons_append,ZO,ZO,zbk l m];simp only[Nat.add_assoc]
theorem zxL(c:UInt8)(l:List Int):(zbd c l).size=(qW true l).size+3:=by
  unfold zbd
  rw[ByteArray.size_append,ByteArray.size_append]
  show 2+_+1=_
  omega
theorem zsF{t:Te}{i w h:Nat}(hw:t.w=w)(h1:w<=1024)(h2:h<=1024)(hi:i<w*h):(Qt t (i:Int)).b.size<=t.b.size+12:=by
  show(t.b++zbd 72 [(i:Int) / t.w+1,(i:Int)%t.w+1]).size<=_
  have hw0:=zkV hi
  have e1:(i:Int) / t.w=((i / w:Nat):Int):=by rw[hw,Int.natCast_ediv]
  have e2:(i:Int)%t.w=((i%w:Nat):Int):=by rw[hw,Int.natCast_emod]
  have q1:i / w<h:=Nat.div_lt_of_lt_mul hi
  have q2:i%w<w:=Nat.mod_lt _ hw0
  rw[e1,e2,ByteArray.size_append,zxL,ZO,ZO]
  generalize i / w=q at q1⊢
  generalize i%w=r at q2⊢
  have l1:=ze5 (n:=(q:Int)+1) 3 (by omega) (by show _<(10000:Int);omega)
  have l2:=ze5 (n:=(r:Int)+1) 3 (by omega) (by show _<(10000:Int);omega)
  have l3:(qW false []).size=0:=rfl
  rw[if_pos rfl,if_neg (by decide)]
  omega
theorem ztn(s:Nat):(qW false (zb1 s)).size<=8:=by
  have one:∀(c:Prop) [Decidable c] (n:Int),0<=n->n<10->(qW false (if c then [n]else [])).size<=2:=fun c _ n h0 h=>by
    split
    ·rw[ZO,if_neg (by decide)]
     have:=ze5 (n:=n) 0 h0 (by show _<(10:Int);omega)
     have l3:(qW false []).size=0:=rfl
     omega
    ·exact Nat.zero_le _
  unfold zb1
  rw[zbk,zbk,zbk]
  have h1:=one (s / 256%2=1) 1 (by decide) (by decide)
  have h2:=one (s / 512%2=1) 3 (by decide) (by decide)
  have h3:=one (s / 1024%2=1) 4 (by decide) (by decide)
  have h4:=one (s / 2048%2=1) 7 (by decide) (by decide)
  omega
theorem zw9{t:Te}{s:Nat}(h:s<65536):(Qo t s).b.size<=t.b.size+29:=by
  show(t.b++zbd 109 (qU s)).size<=_
  have e:qU s=0::(zb1 s++((if s%256≠0 then [38,5,((s%256:Nat):Int)]else [])++(if s / 4096≠0 then [48,5,((s / 4096:Nat):Int)]else []))):=by
    unfold qU;rw[zdc];simp
  rw[ByteArray.size_append,zxL,e,ZO,zbk,zbk,if_pos rfl]
  have h0:=ze5 (n:=0) 0 (by decide) (by decide)
  have h1:=ztn s
  have three:∀(c:Prop) [Decidable c] (a n:Int) (k:Nat),0<=a->a<100->0<=n->n<((10^(k+1):Nat):Int)->(qW false (if c then [a,5,n]else [])).size<=k+7:=fun c _ a n k ha ha2 hn hn2=>by
    split
    ·rw[ZO,ZO,ZO,if_neg (by decide)]
     have q1:=ze5 (n:=a) 1 ha (by show _<(100:Int);omega)
     have q2:=ze5 (n:=5) 0 (by decide) (by decide)
     have q3:=ze5 (n:=n) k hn hn2
     have l3:(qW false []).size=0:=rfl
     omega
    ·exact Nat.zero_le _
  have h2:=three (s%256≠0) 38 ((s%256:Nat):Int) 2 (by decide) (by decide) (by omega) (by show _<(1000:Int);omega)
  have h3:=three (s / 4096≠0) 48 ((s / 4096:Nat):Int) 1 (by decide) (by decide) (by omega) (by show _<(100:Int);omega)
  omega
theorem zph{t:Te}{i w h:Nat}{c:Ce}(hw:t.w=w)(h1:w<=1024)(h2:h<=1024)(hi:i<w*h)(hs:c.st<65536):(QA t (i:Int) c).b.size<=t.b.size+(60+c.t.size)/\(QA t (i:Int) c).w=t.w:=by
  have a1:(te1 t i).b.size<=t.b.size+12/\(te1 t i).w=t.w:=by
    unfold te1;split
    ·exact⟨zsF hw h1 h2 hi,rfl⟩
    ·exact⟨by omega,rfl⟩
  have a2:(te2 (te1 t i) c.st).b.size<=(te1 t i).b.size+29/\(te2 (te1 t i) c.st).w=t.w:=by
    unfold te2;split
    ·exact⟨zw9 hs,a1.2⟩
    ·exact⟨by omega,a1.2⟩
  have a3:(te3 (te2 (te1 t i) c.st) i (zM c)).b.size<=(te2 (te1 t i) c.st).b.size+12/\(te3 (te2 (te1 t i) c.st) i (zM c)).w=t.w:=by
    unfold te3;split
    ·exact⟨zsF (a2.2.trans hw) h1 h2 hi,a2.2⟩
    ·exact⟨by omega,a2.2⟩
  have ht:=zby c
  refine⟨?_,a3.2⟩
  show((te3 (te2 (te1 t i) c.st) i (zM c)).b++zM c).size<=_
  rw[ByteArray.size_append]
  omega
def ze9(kn:Bool)(a b:List Ce):Nat->Nat
  |0=>0
  |i+1=>ze9 kn a b i+if kn&&(decide (i<a.length)&&qm (zg a i) (zg b i))then 0 else 60+(zg b i).t.size
theorem zv7{a b:List Ce}{w i:Nat}{wd:Bool}(ha:okL a w wd)(hb:okL b w wd)(hl:a.length=b.length)(hi:i<b.length)(h:qm (zg a i) (zg b i)=true):zcs a b i=false:=by
  unfold zcs
  by_cases h1:i+1<b.length
  rotate_left
  ·rw[decide_eq_false h1];rfl
  by_cases hp:(zg b (i+1)).p=1
  rotate_left
  ·rw[beq_eq_false_iff_ne.2 hp,Bool.false_and,Bool.and_false]
  obtain⟨e1,e2,e3⟩:=qY.1 h
  have hb1:=hb (i+1) h1
  unfold Z0 at hb1
  rw[if_pos hp,Nat.add_sub_cancel]at hb1
  obtain⟨-,k1,k2⟩:=hb1
  have b2:=ZZ (i:=i) hb hi k1
  have a2:=ZZ (i:=i) ha (by omega) (e1.trans k1)
  rw[e3]at a2
  rcases b2 with b2|b2
  ·omega
  rcases a2 with a2|a2
  ·omega
  have tx1:∀c:Ce,c.p=1->c.t.size=0->zM c=⟨#[]⟩:=fun c hp hs=>by
    unfold zM
    rw[if_neg (fun hh=>by have:=hh.1;rw[hp]at this;exact absurd this (by decide)),zay hs]
  rw[qY.2 ⟨a2.2.2.2.1.trans b2.2.2.2.1.symm,by rw[a2.2.2.2.2.1,b2.2.2.2.2.1,e2],by rw[tx1 _ a2.2.2.2.1 a2.2.2.2.2.2,tx1 _ b2.2.2.2.1 b2.2.2.2.2.2]⟩]
  simp
theorem zio{kn:Bool}{a b:List Ce}{t0:Te}{w h:Nat}{wd:Bool}(hw:t0.w=w)(h1:w<=1024)(h2:h<=1024)(hbl:b.length=w*h)(hb:okL b w wd)(hst:∀c∈b,c.st<65536)(hk:kn=true->okL a w wd/\a.length=b.length):
    ∀i,i<=b.length->(qB kn a b t0 i).b.size<=t0.b.size+ze9 kn a b i/\(qB kn a b t0 i).w=w
  |0,_=>⟨Nat.le_refl _,hw⟩
  |i+1,hi=>by
   obtain⟨k1,k2⟩:=zio hw h1 h2 hbl hb hst hk i (by omega)
   simp only[qB,ze9]
   by_cases hT:QQ kn a b i=true
   ·rw[if_pos hT]
    have hno:¬(kn&&(decide (i<a.length)&&qm (zg a i) (zg b i)))=true:=by
      intro hh
      simp only[Bool.and_eq_true,decide_eq_true_eq]at hh
      obtain⟨q1,q2,q3⟩:=hh
      obtain⟨oa,hl⟩:=hk q1
      unfold QQ at hT
      rw[q1,q3,zv7 oa hb hl (by omega) q3]at hT
      simp at hT
    rw[if_neg hno]
    have:=zph (t:=qB kn a b t0 i) (i:=i) (c:=zg b i) k2 h1 h2 (by omega) (hst _ (zfP (by omega)))
    exact⟨by omega,this.2.trans k2⟩
   ·rw[if_neg hT]
    exact⟨by omega,k2⟩
theorem ztX(kn:Bool)(b:Gr)(wd:Bool):(Qy kn b wd).b.size<=60/\(Qy kn b wd).w=b.w:=by
  have h1:=zw9 (t:=⟨⟨#[]⟩, -1,⟨#[]⟩,0,b.w,wd⟩) (s:=0) (by decide)
  have h2:(Qo ⟨⟨#[]⟩, -1,⟨#[]⟩,0,b.w,wd⟩ 0).b.size<=29:=by
    have:(ByteArray.mk #[]).size=0:=rfl
    dsimp only at h1
    omega
  unfold Qy
  cases kn
  ·refine⟨?_,rfl⟩
   show((Qo ⟨⟨#[]⟩, -1,⟨#[]⟩,0,b.w,wd⟩ 0).b++zbd 74 [2]).size<=60
   rw[ByteArray.size_append,zxL,ZO,if_pos rfl]
   have q:=ze5 (n:=2) 0 (by decide) (by decide)
   have l3:(qW false []).size=0:=rfl
   omega
  ·exact⟨by show(Qo ⟨⟨#[]⟩, -1,⟨#[]⟩,0,b.w,wd⟩ 0).b.size<=60;omega,rfl⟩
theorem ziE{a b:Gr}{wd:Bool}{s:ByteArray}(hst:∀c∈b.cs,c.st<65536)(hD:Zb a b wd=some s):s.size<=100+ze9 (zI a b wd) a.cs b.cs b.cs.length:=by
  unfold Zb at hD
  split at hD
  ·cases hD
  rename_i hno
  have hb:zm b wd=true:=by
    cases h:zm b wd
    ·exact absurd (.inl h) hno
    ·rfl
  have hD:=Option.some.inj hD
  obtain⟨b1,b2,b3,b4,b5,b6,b7⟩:=ZY hb
  obtain⟨w,hw⟩:∃w:Nat,b.w=w:=⟨b.w.toNat,by omega⟩
  obtain⟨h,hh⟩:∃h:Nat,b.h=h:=⟨b.h.toNat,by omega⟩
  have hbl:b.cs.length=w*h:=by
    rw[hw,hh,<-Int.natCast_mul]at b5
    omega
  have hokb:okL b.cs w wd:=by
    rw[hw,Int.toNat_natCast]at b7
    exact zfI.1 b7
  have hbeg:=ztX (zI a b wd) b wd
  have hka:zI a b wd=true->okL a.cs w wd/\a.cs.length=b.cs.length:=fun hk=>by
    unfold zI at hk
    simp only[Bool.and_eq_true,beq_iff_eq]at hk
    obtain⟨k1,k2,k3⟩:=hk
    obtain⟨-, -, -, -,a5, -,a7⟩:=ZY k1
    rw[k2,hw,Int.toNat_natCast]at a7
    rw[k2,k3,<-b5]at a5
    exact⟨zfI.1 a7,by omega⟩
  have hL:=zio (kn:=zI a b wd) (a:=a.cs) (b:=b.cs) (t0:=Qy (zI a b wd) b wd) (hbeg.2.trans hw) (by omega) (by omega) hbl hokb hst hka b.cs.length (Nat.le_refl _)
  generalize qB (zI a b wd) a.cs b.cs (Qy (zI a b wd) b wd) b.cs.length=t at hD hL
  obtain⟨l1,l2⟩:=hL
  unfold zlE at hD
  by_cases hx:b.x<0
  ·rw[if_pos hx]at hD
   have hD:t.b++⟨#[27,91,63,50,53,108]⟩=s:=hD
   rw[<-hD,ByteArray.size_append]
   have:(ByteArray.mk #[27,91,63,50,53,108]).size=6:=rfl
   omega
  ·rw[if_neg hx]at hD
   have hcur:0<=b.x/\b.x<b.w/\0<=b.y/\b.y<b.h:=by
     unfold zav at b6
     have b6:(b.x= -1/\b.y= -1)\/(0<=b.x/\b.x<b.w/\0<=b.y/\b.y<b.h):=by
       simpa only[Bool.or_eq_true,Bool.and_eq_true,beq_iff_eq,decide_eq_true_eq]using b6
     rcases b6 with c|c
     ·omega
     ·exact c
   obtain⟨x,hxe⟩:∃x:Nat,b.x=x:=⟨b.x.toNat,by omega⟩
   obtain⟨y,hye⟩:∃y:Nat,b.y=y:=⟨b.y.toNat,by omega⟩
   have hlt:y*w+x<w*h:=by
     have:(y+1)*w<=h*w:=Nat.mul_le_mul_right _ (by omega)
     rw[Nat.add_mul,Nat.one_mul,Nat.mul_comm h]at this
     omega
   have hi:b.y*t.w+b.x=((y*w+x:Nat):Int):=by
     rw[l2,hxe,hye,Int.natCast_add,Int.natCast_mul]
   have hm:=zsF (t:={t with b:=t.b++⟨#[27,91,63,50,53,104]⟩}) (i:=y*w+x) (h:=h) l2 (by omega) (by omega) hlt
   have hD:(Qt {t with b:=t.b++⟨#[27,91,63,50,53,104]⟩} (b.y*t.w+b.x)).b=s:=hD
   rw[hi]at hD
   rw[hD]at hm
   have hm:s.size<=(t.b++⟨#[27,91,63,50,53,104]⟩).size+12:=hm
   rw[ByteArray.size_append]at hm
   have:(ByteArray.mk #[27,91,63,50,53,104]).size=6:=rfl
   omega
end

section
open Go Vc Ut Tb Cl Orb
end

section
open Go Vc Ut Tb Cl Orb
def wkB:ByteArray:=⟨#[228,184,128,228,186,140,228,184,137]⟩
def wkG:Gs:=zH (zaO 4 2 false) (ZF (⟨#[]⟩++wkB))
def wcC(s:List UInt8)(p:Int)(st:Nat):Ce:=⟨⟨s.toArray⟩,p,0,0,false,st⟩
theorem zyL:wkG.cs=[wcC [228,184,128] 0 0,ZA 0,wcC [228,186,140] 0 0,ZA 0,wcC [228,184,137] 0 0,ZA 0,zw 0,zw 0]/\wkG.x=2/\wkG.y=1/\wkG.hid=false/\wkG.stt=0/\fdH (⟨#[]⟩++wkB)=⟨#[]⟩:=by
  decide+kernel
def wkN:Gr:=⟨4,2,[zw 0,zw 0,zw 0,zw 0,zw 0,wcC [120] 0 263,zw 0,zw 0],1,1⟩
theorem zfY:zm wkN false=true:=by decide+kernel
end

section
open Go Vc Ut Tb Cl Orb
theorem ZC(c:Ce)(l:List Ce):zi (c::l)=1+c.t.size+zi l:=by simp[zi]
theorem zfS:∀(l m:List Ce),zi (l++m)=zi l+zi m
  |[],m=>by show zi m=0+zi m;omega
  |c::l,m=>by rw[List.cons_append,ZC,ZC,zfS l m];omega
theorem zoU(n st:Nat):zi (List.replicate n (zw st))=n:=by
  induction n with
  |zero=>rfl
  |succ n ih=>rw[List.replicate_succ,ZC,ih];show 1+0+n=n+1;omega
theorem zjZ:∀l:List Ce,l.length<=zi l
  |[]=>Nat.zero_le _
  |c::l=>by have:=zjZ l;rw[ZC,List.length_cons];omega
theorem zfR:∀(l:List Ce) (i:Nat) (c:Ce),zi (l.set i c)<=zi l+c.t.size
  |[],_,_=>Nat.zero_le _
  |d::l,0,c=>by rw[List.set_cons_zero,ZC,ZC];omega
  |d::l,i+1,c=>by have:=zfR l i c;rw[List.set_cons_succ,ZC,ZC];omega
theorem zaw:∀(l:List Ce) (i k:Nat) (c:Ce),c.t.size<=(zg l i).t.size+k->zi (l.set i c)<=zi l+k
  |[],_,_,_,_=>Nat.zero_le _
  |d::l,0,k,c,h=>by
   have h:c.t.size<=d.t.size+k:=h
   rw[List.set_cons_zero,ZC,ZC];omega
  |d::l,i+1,k,c,h=>by
   have:=zaw l i k c h
   rw[List.set_cons_succ,ZC,ZC];omega
theorem zoV(l:List Ce)(w i:Nat)(c:Ce):zi (zF l w i c)<=zi l+c.t.size:=by
  have hb:∀(j st:Nat),zi (l.set j (zw st))<=zi l:=fun j st=>zfR l j (zw st)
  unfold zF
  refine Nat.le_trans (zfR _ _ _) (Nat.add_le_add_right ?_ _)
  split
  ·exact hb _ _
  split
  ·exact hb _ _
  ·exact Nat.le_refl _
theorem zlU(g:Gs):zi (qc g).cs<=zi g.cs:=by
  unfold qc
  split
  ·exact Nat.le_refl _
  ·show zi (g.cs.drop g.w++List.replicate (min g.w g.cs.length) (zw 0))<=_
   have h:=zfS (g.cs.take g.w) (g.cs.drop g.w)
   rw[List.take_append_drop]at h
   have h2:=zjZ (g.cs.take g.w)
   rw[List.length_take]at h2
   rw[zfS,zoU]
   omega
theorem zlV(g:Gs):(qu g).cs=g.cs:=by unfold qu;split<;>rfl
theorem ztP{l:List Ce}{i j:Nat}{c:Ce}(h:i≠j):zg (l.set j c) i=zg l i:=by
  unfold zg
  rw[List.getD_eq_getElem?_getD,List.getElem?_set,if_neg (fun e=>h e.symm),List.getD_eq_getElem?_getD]
theorem zsO{l:List Ce}{w j i k:Nat}{c X:Ce}(hc:c.t.size=0)(hij:i≠j)(ht:X.t.size<=(zg l i).t.size+k):zi ((zF l w j c).set i X)<=zi l+k:=by
  have hs:∀(m:List Ce) (x:Nat) (d:Ce),d.t.size=0->zi (m.set x d)<=zi m:=fun m x d hd=>by have:=zfR m x d;omega
  have key:∀m:List Ce,zi m<=zi l->zg m i=zg l i->zi ((m.set j c).set i X)<=zi l+k:=fun m hm he=>by
    have h1:=zaw (m.set j c) i k X (by rw[ztP hij,he];exact ht)
    have h2:=hs m j c hc
    omega
  have key2:∀(x:Nat) (d:Ce),d.t.size=0->zi (((l.set x d).set j c).set i X)<=zi l+k:=fun x d hd=>by
    by_cases e:i=x
    ·subst e
     rw[List.set_comm _ _ (fun e=>hij e.symm),List.set_set,List.set_comm _ _ hij]
     exact key l (Nat.le_refl _) rfl
    ·exact key _ (hs l x d hd) (ztP e)
  unfold zF
  split
  ·exact key2 _ _ rfl
  split
  ·exact key2 _ _ rfl
  ·exact key l (Nat.le_refl _) rfl
theorem ztU{g g':Gs}{r:Int}(h:zZ g r=some g'):zi g'.cs<=zi g.cs+20:=by
  unfold zZ at h
  have he:=zag r
  have ht:∀c:Ce,(zM c++Zt r).size<=c.t.size+5:=fun c=>by
    have:=zby c
    rw[ByteArray.size_append];omega
  split at h
  ·cases h
  split at h
  ·cases h
  split at h
  ·split at h
   ·rw[<-Option.some.inj h];show zi g.cs<=_;omega
   ·rw[<-Option.some.inj h]
    show zi ((zF g.cs g.w g.last (ZA (zg g.cs (g.last - 1)).st)).set (g.last - 1) _)<=_
    exact Nat.le_trans (zsO (l:=g.cs) (w:=g.w) (j:=g.last) (i:=g.last - 1) (k:=5) rfl (by omega) (ht _)) (by omega)
  ·rw[<-Option.some.inj h]
   have:=zaw g.cs (g.last - 1) 5 {zg g.cs (g.last - 1)with t:=zM (zg g.cs (g.last - 1))++Zt r} (ht _)
   show zi (g.cs.set (g.last - 1) _)<=_
   omega
theorem ztT(g:Gs)(s:ByteArray)(n:Nat):zi (Ql g s n).cs<=zi g.cs+s.size:=by
  unfold Ql
  dsimp only
  have h1:zi (if n=2 then zF g.cs g.w (g.y*g.w+g.x+1) (zw g.sty)else g.cs)<=zi g.cs:=by
    split
    ·exact zoV _ _ _ _
    ·exact Nat.le_refl _
  generalize (if n=2 then zF g.cs g.w (g.y*g.w+g.x+1) (zw g.sty)else g.cs)=c1 at h1⊢
  have h2:=zoV c1 g.w (g.y*g.w+g.x) ⟨s,0,0,0,false,g.sty⟩
  have h2:zi (zF c1 g.w (g.y*g.w+g.x) ⟨s,0,0,0,false,g.sty⟩)<=zi c1+s.size:=h2
  generalize zF c1 g.w (g.y*g.w+g.x) ⟨s,0,0,0,false,g.sty⟩=c2 at h2⊢
  split
  ·exact Nat.le_trans (zaw c2 (g.y*g.w+g.x+1) 0 {zg c2 (g.y*g.w+g.x+1)with p:=1} (Nat.le_refl _)) (by omega)
  ·omega
theorem zwv(g:Gs)(r:Int):zi (qD g r).cs<=zi g.cs+20:=by
  unfold qD
  split
  ·rename_i g' hj;exact ztU hj
  dsimp only
  split
  ·show zi g.cs<=_;omega
  ·rename_i hn
   have hs:(Zi (Zt r) 0 (lkW g.wd)).1.size<=20:=by
     have:=zej (Zt r) 0 (lkW g.wd)
     have h4:=zag r
     omega
   refine Nat.le_trans (ztT _ _ _) (Nat.add_le_add ?_ hs)
   split
   ·exact zlU _
   ·exact Nat.le_refl _
theorem ztS(g:Gs)(r:Int):zi (zj g r).cs<=zi g.cs+20:=by
  have hfree:∀g:Gs,zi (qz g r).cs<=zi g.cs+20:=fun g=>by
    unfold qz
    split
    ·exact zwv g r
    split
    ·show zi g.cs<=_;omega
    split
    ·show zi g.cs<=_;omega
    split
    ·have h1:=zlU (qu {g with last:=0})
     rw[zlV]at h1
     have h1:zi (qc (qu {g with last:=0})).cs<=zi g.cs:=h1
     omega
    ·show zi g.cs<=_;omega
  have hh:=zhl g
  have hcs:(zk g).cs=g.cs:=hh.2.2.2.2.2.2
  unfold zj
  split
  ·split<;>(show zi g.cs<=_;omega)
  split
  ·show zi (if 32<=r/\r<=63 then qt (zk g) r (decide (g.num=[]))else if 64<=r/\r<=126 then zL {zk g with stt:=0} r else qz {zk g with stt:=0} r).cs<=_
   split
   ·have:(qt (zk g) r (decide (g.num=[]))).cs=g.cs:=by
      rw[<-hcs]
      unfold qt
      split
      ·rfl
      split
      ·rfl
      split<;>rfl
    rw[this];omega
   split
   ·have:zi (zL {zk g with stt:=0} r).cs<=zi g.cs:=by
      rw[<-hcs]
      unfold zL
      split
      ·exact Nat.le_refl _
      split
      ·split<;>exact Nat.le_refl _
      split
      ·exact Nat.le_refl _
      split
      ·rw[zlV]
       show zi (List.replicate (zk g).cs.length (zw 0))<=_
       rw[zoU];exact zjZ _
      split<;>exact Nat.le_refl _
    omega
   ·have:=hfree {zk g with stt:=0}
    have:zi (qz {zk g with stt:=0} r).cs<=zi (zk g).cs+20:=this
    rw[hcs]at this;exact this
  ·exact hfree g
theorem zlT:∀(l:List Int) (g:Gs),zi (zH g l).cs<=zi g.cs+20*l.length
  |[],g=>Nat.le_refl _
  |r::l,g=>by
   have h1:=ztS g r
   have h2:=zlT l (zj g r)
   rw[List.length_cons,ZB]
   omega
theorem zoS(kn:Bool)(a b:List Ce):∀i,i<=b.length->ze9 kn a b i<=60*zi (b.take i)
  |0,_=>Nat.zero_le _
  |i+1,hi=>by
   have ih:=zoS kn a b i (by omega)
   have hb:b.take (i+1)=b.take i++[zg b i]:=by rw[List.take_add_one,List.getElem?_eq_getElem (by omega),zbW (by omega)];rfl
   rw[hb,zfS,ZC]
   show ze9 kn a b i+_<=_
   split<;>omega
theorem ziD{a b:Gr}{wd:Bool}{s:ByteArray}(hst:∀c∈b.cs,c.st<65536)(hD:Zb a b wd=some s):s.size<=100+60*zi b.cs:=by
  have h1:=ziE hst hD
  have h2:=zoS (zI a b wd) a.cs b.cs b.cs.length (Nat.le_refl _)
  rw[List.take_length]at h2
  omega
theorem zhM(c:Ce):qm c c=true:=qY.2 ⟨rfl,rfl,rfl⟩
theorem zpu(g:Gr):qa g g=true:=by
  rw[zfv rfl rfl rfl rfl]
  exact zbD.2 ⟨rfl,fun j _=>zhM _⟩
end
end Go.Proofs.YtjdohhididpomaaGreatDoor
