/-
  Texts joined by program: Qf, Qr, WkXa, WkXb, Gs, WkXd, WkXe, SpXc.
-/
import Derived.Test.YtjdohhididpomaaGreatDoorWg15
import Derived.Test.YtjdohhididpomaaGreatDoorWg08
import Derived.Test.YtjdohhididpomaaGreatDoorWg14
import Derived.Test.YtjdohhididpomaaGreatDoorWg10
import Derived.Lib.AppendStr
import Derived.Test.YtjdohhididpomaaGreatDoorWg07
import Derived.Lib.ItoaLen
import Derived.Test.YtjdohhididpomaaGreatDoorWg06
set_option linter.unusedVariables false
set_option linter.unusedSimpArgs false

namespace Go.Proofs.YtjdohhididpomaaGreatDoor
section
open Go Vc Ut Tb Cl Orb
theorem zex(s:ByteArray)(wd:Bool):plN s wd<=2:=by
  unfold plN;split
  ·rename_i h;exact h.2.2.2
  ·exact Nat.zero_le _
theorem zsf(wd:Bool):plN ⟨#[32]⟩ wd=1:=by cases wd<;>decide+kernel
theorem zvc(wd:Bool):plN ⟨#[]⟩ wd=0:=by cases wd<;>decide+kernel
theorem zkX(s:ByteArray):∀n,pos s n<=4*n
  |0=>Nat.le_refl _
  |n+1=>by
   have ih:=zkX s n
   simp only[pos]
   split
   ·rename_i h;have:=zwt h;omega
   ·omega
theorem zvb{s:ByteArray}{wd:Bool}(h:plN s wd≠0):s.size<=128:=by
  have hp:=zkY h
  have h1:=one_le hp.one
  have h2:=(qN hp.one).2.2
  have h3:=zkX s (cnt s)
  rw[ZJ]at h3
  omega
theorem zf3{c:Ce}{wd:Bool}(hp:c.p=0)(h:plN c.t wd≠0):zM c=c.t:=by
  unfold zM
  rw[if_neg]
  rintro⟨-,hs⟩
  rw[zay hs,zvc]at h
  exact h rfl
theorem zxy(st:Nat):zM (zw st)=⟨#[32]⟩:=by unfold zM;rw[if_pos ⟨rfl,rfl⟩]
def zig(c:Ce)(wd:Bool):Prop:=c.p=0/\plN (zM c) wd=1
theorem Z8(st:Nat)(wd:Bool):zig (zw st) wd:=⟨rfl,by rw[zxy,zsf]⟩
theorem zci{l:List Ce}{w i:Nat}{wd:Bool}(h:zig (zg l i) wd):Z0 l w wd i:=by
  unfold Z0;rw[if_neg (by rw[h.1];decide)];exact⟨h.1, .inl h.2⟩
theorem zok(n w:Nat)(wd:Bool)(st:Nat):okL (List.replicate n (zw st)) w wd:=fun i hi=>zci (by
  rw[zbW hi,List.getElem_replicate];exact Z8 st wd)
theorem zcH{l:List Ce}{w i:Nat}{wd:Bool}{c:Ce}(h:okL l w wd)(hi:i<l.length)(hc:zig c wd):okL (zF l w i c) w wd:=by
  intro j hj
  rw[zQ]at hj
  have h0:(zg l i).p=1->0<i:=fun hp=>by have:=h i hi;unfold Z0 at this;rw[if_pos hp]at this;exact this.1
  have hci:=Zm (w:=w) (c:=c) hi h0
  have hoi:=h i hi
  have hoj:=h j hj
  by_cases hji:j=i
  ·exact zci (by rw[hci,if_pos hji];exact hc)
  by_cases hp:(zg l i).p=1
  ·simp only[if_pos hp]at hci
   have hi0:=h0 hp
   unfold Z0 at hoi
   rw[if_pos hp]at hoi
   by_cases hj1:j=i - 1
   ·exact zci (by rw[hci,if_neg hji,if_pos hj1];exact Z8 _ _)
   have ej:zg (zF l w i c) j=zg l j:=by rw[hci,if_neg hji,if_neg hj1]
   unfold Z0 at hoj⊢
   rw[ej,zQ]
   by_cases hpj:(zg l j).p=1
   ·rw[if_pos hpj]at hoj⊢
    have e1:zg (zF l w i c) (j - 1)=zg l (j - 1):=by
      rw[hci,if_neg (fun e=> ?_),if_neg (fun e=> ?_)]
      ·have:j=i:=by omega
       exact hji this
      ·rw[e]at hoj;rw[hoj.2.1]at hp;exact absurd hp (by decide)
    rw[e1];exact hoj
   ·rw[if_neg hpj]at hoj⊢
    refine⟨hoj.1,hoj.2.imp id fun⟨a1,a2,a3,a4,a5,a6⟩=> ?_⟩
    have e1:zg (zF l w i c) (j+1)=zg l (j+1):=by
      rw[hci,if_neg (fun e=>hj1 (by omega)),if_neg (fun e=> ?_)]
      rw[e,hoi.2.1]at a4;exact absurd a4 (by decide)
    rw[e1];exact⟨a1,a2,a3,a4,a5,a6⟩
  ·simp only[if_neg hp]at hci
   unfold Z0 at hoi
   rw[if_neg hp]at hoi
   by_cases hj1:(i+1)%w≠0/\(zg l (i+1)).p=1/\j=i+1
   ·exact zci (by rw[hci,if_neg hji,if_pos hj1];exact Z8 _ _)
   have ej:zg (zF l w i c) j=zg l j:=by rw[hci,if_neg hji,if_neg hj1]
   have two:(zg l (i+1)).p=1->i+1<l.length->(i+1)%w≠0:=fun hp1 hl=>by
     have:=h (i+1) hl
     unfold Z0 at this
     rw[if_pos hp1]at this
     have h2:=this.2.2
     rw[Nat.add_sub_cancel]at h2
     rcases hoi.2 with hh|hh
     ·omega
     ·exact hh.2.1
   unfold Z0 at hoj⊢
   rw[ej,zQ]
   by_cases hpj:(zg l j).p=1
   ·rw[if_pos hpj]at hoj⊢
    have e1:zg (zF l w i c) (j - 1)=zg l (j - 1):=by
      rw[hci,if_neg (fun e=> ?_),if_neg (fun e=> ?_)]
      ·obtain⟨a1,a2,a3⟩:=e
       rw[a3]at hoj;rw[hoj.2.1]at a2;exact absurd a2 (by decide)
      ·have e2:j=i+1:=by omega
       subst e2
       exact hj1 ⟨two hpj hj,hpj,rfl⟩
    rw[e1];exact hoj
   ·rw[if_neg hpj]at hoj⊢
    refine⟨hoj.1,hoj.2.imp id fun⟨a1,a2,a3,a4,a5,a6⟩=> ?_⟩
    have e1:zg (zF l w i c) (j+1)=zg l (j+1):=by
      rw[hci,if_neg (fun e=> ?_),if_neg (fun e=> ?_)]
      ·exact hji (by omega)
      ·rw[e]at a4;exact hp a4
    rw[e1];exact⟨a1,a2,a3,a4,a5,a6⟩
theorem zk9{l:List Ce}{w i:Nat}{wd:Bool}{c d:Ce}(h:okL l w wd)(hi:i+1<l.length)(hm:(i+1)%w≠0)(h1:zig (zg l i) wd)(h2:zig (zg l (i+1)) wd)
    (hc:c.p=0) (hc2:plN (zM c) wd=2) (hd:d.p=1) (hs:d.st=c.st) (ht:d.t.size=0):okL ((l.set i c).set (i+1) d) w wd:=by
  have hg:∀j,zg ((l.set i c).set (i+1) d) j=if j=i+1 then d else if j=i then c else zg l j:=fun j=>by
    rw[Zd (by rw[List.length_set];exact hi),Zd (by omega)]
  have hlen:((l.set i c).set (i+1) d).length=l.length:=by rw[List.length_set,List.length_set]
  intro j hj
  rw[hlen]at hj
  have hoj:=h j hj
  by_cases e1:j=i+1
  ·unfold Z0
   rw[hg,if_pos e1,if_pos hd,hg,if_neg (by omega),if_pos (by omega)]
   exact⟨by omega,hc,hc2⟩
  by_cases e2:j=i
  ·unfold Z0
   rw[hg,if_neg e1,if_pos e2,if_neg (by rw[hc];decide),hg,if_pos (by omega),hlen]
   exact⟨hc, .inr ⟨hc2,by rw[e2];exact hm,by omega,hd,hs,ht⟩⟩
  unfold Z0 at hoj⊢
  rw[hlen,hg j,if_neg e1,if_neg e2]
  by_cases hp:(zg l j).p=1
  ·rw[if_pos hp]at hoj⊢
   rw[hg,if_neg (fun e=> ?_),if_neg (fun e=> ?_)]
   ·exact hoj
   ·omega
   ·rw[e]at hoj;rw[h2.2]at hoj;have e2:(1:Nat)=2:=hoj.2.2;cases e2
  ·rw[if_neg hp]at hoj⊢
   refine⟨hoj.1,hoj.2.imp id fun⟨a1,a2,a3,a4,a5,a6⟩=> ?_⟩
   rw[hg,if_neg (by omega),if_neg (fun e=> ?_)]
   ·exact⟨a1,a2,a3,a4,a5,a6⟩
   ·rw[e,h1.1]at a4;exact absurd a4 (by decide)
theorem zoy{l:List Ce}{w i:Nat}{c c':Ce}:(zF l w i c).set i c'=zF l w i c':=by
  unfold zF;rw[List.set_set]
theorem zvw{l:List Ce}{w i:Nat}{wd:Bool}{c d:Ce}(h:okL l w wd)(hi:i+1<l.length)(hm:(i+1)%w≠0)(hc:c.p=0)(hc2:plN (zM c) wd=2)(hd:d.p=1)(hs:d.st=c.st)(ht:d.t.size=0)(st:Nat):
    okL ((zF (zF l w (i+1) (zw st)) w i c).set (i+1) d) w wd:=by
  have o1:=zcH h hi (Z8 st wd)
  have o2:=zcH (i:=i) o1 (by rw[zQ];omega) (Z8 st wd)
  rw[<-zoy (c:=zw st)]
  have hi1:i<(zF l w (i+1) (zw st)).length:=by rw[zQ];omega
  have g1:zg (zF l w (i+1) (zw st)) (i+1)=zw st:=by
    rw[Zm hi (fun _=>by omega),if_pos rfl]
  have hp0:(zg (zF l w (i+1) (zw st)) i).p=1->0<i:=fun hp=>by have:=o1 i hi1;unfold Z0 at this;rw[if_pos hp]at this;exact this.1
  refine zk9 o2 (by rw[zQ,zQ];exact hi) hm ?_ ?_ hc hc2 hd hs ht
  ·rw[Zm hi1 hp0,if_pos rfl];exact Z8 st wd
  ·rw[Zm hi1 hp0,if_neg (by omega)]
   split
   ·rw[if_neg (by omega),g1];exact Z8 st wd
   ·rw[if_neg (fun e=>by rw[g1]at e;have e2:(0:Int)=1:=e.2.1;cases e2),g1];exact Z8 st wd
theorem zfQ{l m:List Ce}{i:Nat}:zg (l++m) i=if i<l.length then zg l i else zg m (i - l.length):=by
  unfold zg
  rw[List.getD_eq_getElem?_getD,List.getElem?_append]
  split<;>rw[List.getD_eq_getElem?_getD]
theorem zhF{l:List Ce}{k i:Nat}:zg (l.drop k) i=zg l (k+i):=by
  unfold zg
  rw[List.getD_eq_getElem?_getD,List.getElem?_drop,List.getD_eq_getElem?_getD]
theorem zwu{n i:Nat}:zg (List.replicate n (zw 0)) i=zw 0:=by
  by_cases h:i<n
  ·rw[zbW (by rw[List.length_replicate];exact h),List.getElem_replicate]
  ·exact zd8 (by rw[List.length_replicate];omega)
theorem zst{l:List Ce}{w:Nat}{wd:Bool}(h:okL l w wd)(hw:w<=l.length)(n:Nat):okL (l.drop w++List.replicate n (zw 0)) w wd:=by
  intro j hj
  rw[List.length_append,List.length_drop,List.length_replicate]at hj
  by_cases hj1:j<l.length - w
  ·have e1:zg (l.drop w++List.replicate n (zw 0)) j=zg l (w+j):=by rw[zfQ,if_pos (by rw[List.length_drop];exact hj1),zhF]
   have hoj:=h (w+j) (by omega)
   unfold Z0 at hoj⊢
   rw[e1]
   by_cases hp:(zg l (w+j)).p=1
   ·rw[if_pos hp]at hoj⊢
    have hj0:0<j:=by
      rcases Nat.eq_zero_or_pos j with e|e
      ·exfalso
       subst e
       rw[Nat.add_zero]at hoj
       have hb:=h (w - 1) (by omega)
       unfold Z0 at hb
       rw[if_neg (by rw[hoj.2.1];decide)]at hb
       rcases hb.2 with hh|hh
       ·omega
       ·have:=hh.2.1
        rw[show w - 1+1=w by omega,Nat.mod_self]at this
        exact this rfl
      ·exact e
    rw[zfQ,if_pos (by rw[List.length_drop];omega),zhF,show w+(j - 1)=w+j - 1 by omega]
    exact⟨hj0,hoj.2⟩
   ·rw[if_neg hp]at hoj⊢
    refine⟨hoj.1,hoj.2.imp id fun⟨a1,a2,a3,a4,a5,a6⟩=> ?_⟩
    rw[zfQ,if_pos (by rw[List.length_drop];omega),zhF,show w+(j+1)=w+j+1 by omega,List.length_append,List.length_drop,List.length_replicate]
    exact⟨a1,by rw[show w+j+1=j+1+w by omega,Nat.add_mod_right]at a2;exact a2,by omega,a4,a5,a6⟩
  ·exact zci (by
     rw[zfQ,if_neg (by rw[List.length_drop];exact hj1),zwu]
     exact Z8 0 wd)
end

section
open Go Vc Ut Tb Cl Orb
theorem zby(c:Ce):(zM c).size<=1+c.t.size:=by
  unfold zM;split
  ·show 1<=_;omega
  ·omega
theorem zbT{l:List Ce}{i:Nat}(h:i<l.length):l.drop i=zg l i::l.drop (i+1):=by
  rw[List.drop_eq_getElem_cons h,zbW h]
theorem zdM(w:Nat)(wd:Bool)(c:Ce)(r:List Ce)(i:Nat):Zg w wd (c::r) i=(c.p==0&&(if plN (zM c) wd=0 then false else if plN (zM c) wd=2 then
      (match r with
        |[]=>false
        |d::r'=> !((i+1)%w==0)&&(d.p==1&&(d.st==c.st&&decide (d.t.size=0)))&&Zg w wd r' (i+2))
      else Zg w wd r (i+1))):=by rw[Zg.eq_def];rfl
theorem zdN{w:Nat}{wd:Bool}{l:List Ce}{i:Nat}(h:i<l.length)(hb:(zg l i).p≠0\/plN (zM (zg l i)) wd=0):Zg w wd (l.drop i) i=false:=by
  rw[zbT h,zdM]
  rcases hb with hb|hb
  ·rw[show((zg l i).p==0)=false from by simpa using hb];rfl
  ·rw[if_pos hb,Bool.and_false]
theorem zfG{w:Nat}{wd:Bool}{l:List Ce}{i:Nat}(h:i<l.length)(hp:(zg l i).p=0)(h0:plN (zM (zg l i)) wd≠0)(h2:plN (zM (zg l i)) wd≠2):Zg w wd (l.drop i) i=Zg w wd (l.drop (i+1)) (i+1):=by
  rw[zbT h,zdM,hp,if_neg h0,if_neg h2];rfl
theorem zcE{w:Nat}{wd:Bool}{l:List Ce}{i:Nat}(h:i+1<l.length)(hp:(zg l i).p=0)(h2:plN (zM (zg l i)) wd=2):
    Zg w wd (l.drop i) i=(!((i+1)%w==0)&&((zg l (i+1)).p==1&&((zg l (i+1)).st==(zg l i).st&&decide ((zg l (i+1)).t.size=0)))&&Zg w wd (l.drop (i+2)) (i+2)):=by
  rw[zbT (by omega),zdM,hp,if_neg (by omega),if_pos h2,zbT h];rfl
theorem zjF{w:Nat}{wd:Bool}{l:List Ce}{i:Nat}(h:i+1=l.length)(hp:(zg l i).p=0)(h2:plN (zM (zg l i)) wd=2):Zg w wd (l.drop i) i=false:=by
  rw[zbT (by omega),zdM,hp,if_neg (by omega),if_pos h2,List.drop_eq_nil_of_le (by omega)];rfl
theorem zfH{w:Nat}{wd:Bool}{l:List Ce}{i:Nat}(h:l.length<=i):Zg w wd (l.drop i) i=true:=by
  rw[List.drop_eq_nil_of_le h];rfl
theorem zof(s:ByteArray)(wd:Bool):plN s wd<=2:=by
  unfold plN;split
  ·rename_i h;exact h.2.2.2
  ·omega
theorem zh8{g:Gr}{wd:Bool}(h:zav g=false):zm g wd=false:=by unfold zm;rw[h];simp
theorem zkP{g:Gr}{wd:Bool}(h1:Zv g.w g.h=true)(h2:(g.cs.length:Int)=g.w*g.h)(h3:zav g=true):zm g wd=Zg g.w.toNat wd g.cs 0:=by
  unfold zm;rw[h1,h3,show((g.cs.length:Int)==g.w*g.h)=true from by simpa using h2];rfl
theorem zcb{a b:List Ce}{i:Nat}(h1:i<a.length)(h2:i<b.length):Zx (a.drop i) (b.drop i)=(qm (zg a i) (zg b i)&&Zx (a.drop (i+1)) (b.drop (i+1))):=by
  rw[zbT h1,zbT h2,Zx]
theorem zfw{a b:List Ce}{i:Nat}(h1:a.length<=i)(h2:b.length<=i):Zx (a.drop i) (b.drop i)=true:=by
  rw[List.drop_eq_nil_of_le h1,List.drop_eq_nil_of_le h2];rfl
theorem zfx:∀{a b:List Ce},Zx a b=true->a.length=b.length
  |[],[],_=>rfl
  |[],_::_,h=>by simp[Zx]at h
  |_::_,[],h=>by simp[Zx]at h
  |x::a,y::b,h=>by
   simp only[Zx,Bool.and_eq_true]at h
   rw[List.length_cons,List.length_cons,zfx h.2]
theorem zfv{a b:Gr}(h1:a.w=b.w)(h2:a.h=b.h)(h3:a.x=b.x)(h4:a.y=b.y):qa a b=Zx a.cs b.cs:=by
  unfold qa;rw[h1,h2,h3,h4];simp
theorem ZY{g:Gr}{wd:Bool}(h:zm g wd=true):0<=g.w/\g.w<=1024/\0<=g.h/\g.h<=1024/\(g.cs.length:Int)=g.w*g.h/\zav g=true/\Zg g.w.toNat wd g.cs 0=true:=by
  unfold zm at h
  simp only[Bool.and_eq_true,beq_iff_eq]at h
  obtain⟨h1,h2,h3,h4⟩:=h
  have h1:=of_decide_eq_true h1
  exact⟨h1.1,h1.2.1,h1.2.2.1,h1.2.2.2,h2,h3,h4⟩
theorem zmR{l:List Ce}{w:Nat}{wd:Bool}:∀(n i:Nat),l.length<=n+i->Zg w wd (l.drop i) i=true->∀j,i<=j->j<l.length->Z0 l w wd j
  |0,i,hn,_,j,h1,h2=>by omega
  |n+1,i,hn,h,j,h1,h2=>by
   have hi:i<l.length:=by omega
   by_cases hb:(zg l i).p≠0\/plN (zM (zg l i)) wd=0
   ·rw[zdN hi hb]at h;cases h
   have hp:(zg l i).p=0:=by
     by_cases e:(zg l i).p=0
     ·exact e
     ·exact absurd (.inl e) hb
   have h0:plN (zM (zg l i)) wd≠0:=fun e=>hb (.inr e)
   have hle:=zof (zM (zg l i)) wd
   have hne:¬(zg l i).p=1:=by rw[hp];decide
   by_cases e2:plN (zM (zg l i)) wd=2
   ·rcases Nat.lt_or_ge (i+1) l.length with hi1|hi1
    ·rw[zcE hi1 hp e2]at h
     simp only[Bool.and_eq_true,Bool.not_eq_true',beq_eq_false_iff_ne,beq_iff_eq,decide_eq_true_eq]at h
     obtain⟨⟨k1,k2,k3,k4⟩,k5⟩:=h
     by_cases ej:j=i
     ·rw[ej];unfold Z0
      rw[if_neg hne]
      exact⟨hp, .inr ⟨e2,k1,hi1,k2,k3,k4⟩⟩
     by_cases ej1:j=i+1
     ·rw[ej1];unfold Z0
      rw[if_pos k2,Nat.add_sub_cancel]
      exact⟨Nat.succ_pos i,hp,e2⟩
     exact zmR n (i+2) (by omega) k5 j (by omega) h2
    ·rw[zjF (by omega) hp e2]at h;cases h
   ·rw[zfG hi hp h0 e2]at h
    by_cases ej:j=i
    ·rw[ej];unfold Z0
     rw[if_neg hne]
     exact⟨hp, .inl (by omega)⟩
    exact zmR n (i+1) (by omega) h j (by omega) h2
theorem zmY{l:List Ce}{w:Nat}{wd:Bool}(h:okL l w wd):∀(n i:Nat),l.length<=n+i->(i<l.length->(zg l i).p=0)->Zg w wd (l.drop i) i=true
  |0,i,hn,_=>zfH (by omega)
  |n+1,i,hn,hs=>by
   rcases Nat.lt_or_ge i l.length with hi|hi
   ·have hp:=hs hi
    have ho:=h i hi
    unfold Z0 at ho
    rw[if_neg (by rw[hp];decide)]at ho
    have next:∀j,j<l.length->¬((zg l (j - 1)).p=0/\plN (zM (zg l (j - 1))) wd=2)->(zg l j).p=0:=fun j hj hno=>by
      have:=h j hj
      unfold Z0 at this
      split at this
      ·exact absurd this.2 hno
      ·exact this.1
    rcases ho.2 with e1|⟨e2,k1,hi1,k2,k3,k4⟩
    ·rw[zfG hi hp (by omega) (by omega)]
     exact zmY h n (i+1) (by omega) (fun hj=>next (i+1) hj (fun hh=>by rw[Nat.add_sub_cancel]at hh;omega))
    ·rw[zcE hi1 hp e2,zmY h n (i+2) (by omega) (fun hj=>next (i+2) hj (fun hh=>by
      rw[show i+2 - 1=i+1 by omega,k2]at hh
      exact absurd hh.1 (by decide)))]
     simp only[Bool.and_eq_true,Bool.not_eq_true',beq_eq_false_iff_ne,beq_iff_eq,decide_eq_true_eq]
     exact⟨⟨k1,k2,k3,k4⟩,trivial⟩
   ·exact zfH hi
theorem zfI{l:List Ce}{w:Nat}{wd:Bool}:Zg w wd l 0=true ↔ okL l w wd:=by
  constructor
  ·intro h j hj
   exact zmR (l:=l) l.length 0 (by omega) (by rw[List.drop_zero];exact h) j (Nat.zero_le _) hj
  ·intro h
   have:=zmY h l.length 0 (by omega) (fun h0=>by
     have:=h 0 h0
     unfold Z0 at this
     split at this
     ·exact absurd this.1 (by decide)
     ·exact this.1)
   rw[List.drop_zero]at this
   exact this
theorem zbD{a b:List Ce}:Zx a b=true ↔ a.length=b.length/\∀j,j<a.length->qm (zg a j) (zg b j)=true:=by
  have key:∀(n i:Nat),a.length=b.length->a.length<=n+i->(Zx (a.drop i) (b.drop i)=true ↔ ∀j,i<=j->j<a.length->qm (zg a j) (zg b j)=true):=by
    intro n
    induction n with
    |zero=>
     intro i hl hn
     rw[zfw (by omega) (by omega)]
     exact⟨fun _ j h1 h2=>by omega,fun _=>rfl⟩
    |succ n ih=>
     intro i hl hn
     rcases Nat.lt_or_ge i a.length with hi|hi
     ·rw[zcb hi (by omega),Bool.and_eq_true,ih (i+1) hl (by omega)]
      constructor
      ·rintro⟨h1,h2⟩ j hj1 hj2
       by_cases e:j=i
       ·rw[e];exact h1
       ·exact h2 j (by omega) hj2
      ·intro h
       exact⟨h i (Nat.le_refl _) hi,fun j h1 h2=>h j (by omega) h2⟩
     ·rw[zfw (by omega) (by omega)]
      exact⟨fun _ j h1 h2=>by omega,fun _=>rfl⟩
  constructor
  ·intro h
   have hl:=zfx h
   exact⟨hl,fun j hj=>(key a.length 0 hl (by omega)).1 h j (Nat.zero_le _) hj⟩
  ·rintro⟨hl,h⟩
   exact(key a.length 0 hl (by omega)).2 (fun j _ hj=>h j hj)
theorem qY{a b:Ce}:qm a b=true ↔ a.p=b.p/\a.st=b.st/\zM a=zM b:=by
  unfold qm
  simp only[Bool.and_eq_true,beq_iff_eq,decide_eq_true_eq]
end

section
open Go Go.RowKit Vc Ut Tb Cl
theorem UD.ext{w w':World}(h:UD w)(hx:Ext w w'):UD w':=⟨h.1.ext hx,h.2.ext hx⟩
theorem QR{a:ByteArray}:(a.toList==(ByteArray.mk #[]).toList)=decide (a.size=0):=by
  rw[zaD,Bool.eq_iff_iff,decide_eq_true_eq,decide_eq_true_eq]
  constructor
  ·rintro rfl;rfl
  ·intro h
   obtain⟨⟨l⟩⟩:=a
   have hl:l.length=0:=h
   have hl:l=[]:=List.eq_nil_of_length_eq_zero hl
   subst hl;rfl
theorem zkk{w w1:World}{c:Ce}{b:Nat}{t:TypeId}(hn:New w (.cells #[.string c.t, .int .i8 c.p, .int .i64 c.a, .int .i64 c.n, .bool c.r, .int .u16 c.st] t) b w1):
    ∃n:Int,w1.cell? ⟨b,1,none⟩=some (.int .i8 n)/\zc (n==0)
     (∃s:ByteArray,w1.cell? ⟨b,0,none⟩=some (.string s)/\zc (s.toList==(ByteArray.mk #[]).toList) (∃x:ByteArray,Value.string (ByteArray.mk #[(32:UInt8)])=Value.string x/\x=zM c/\Ext w w1)
      (∃s1:ByteArray,w1.cell? ⟨b,0,none⟩=some (.string s1)/\∃x:ByteArray,Value.string s1=Value.string x/\x=zM c/\Ext w w1))
     (∃s:ByteArray,w1.cell? ⟨b,0,none⟩=some (.string s)/\∃x:ByteArray,Value.string s=Value.string x/\x=zM c/\Ext w w1):=by
  have hc:=Z5 hn.heap
  refine⟨_,hc.2.1,zb (fun h=>⟨_,hc.1,zb (fun h1=>⟨_,rfl,?_,hn.ext⟩) (fun h1=>⟨_,hc.1,_,rfl,?_,hn.ext⟩)⟩) (fun h=>⟨_,hc.1,_,rfl,?_,hn.ext⟩)⟩
  ·rw[QR]at h1
   unfold zM;rw[if_pos ⟨by simpa using h,of_decide_eq_true h1⟩]
  ·rw[QR]at h1
   unfold zM;rw[if_neg (fun hh=>of_decide_eq_false h1 hh.2)]
  ·unfold zM;rw[if_neg (fun hh=>by simp[hh.1]at h)]
theorem zdA:QT.Ok Tryz.prog 26:=by
  refine zrc trivial ?_
  rintro c w _ b w1 hn
  exact zkk hn
theorem zeU:QC.Ok Tryz.prog 30:=by
  refine zqV ⟨zdA,trivial⟩ ?_
  rintro⟨c,d⟩ w _ b w1 hn1 b1 w2 hn2 w3 hd
  dsimp only
  have hc:=(Z5 hn1.heap).ext hn2.ext
  have hc2:=Z5 hn2.heap
  have e3:Ext w w3:=Ext.trans (Ext.trans hn1.ext hn2.ext) hd.ext
  refine⟨_,hc.2.1,_,hc2.2.1,zb (fun h1=>⟨_,hc.2.2.2.2.2,_,hc2.2.2.2.2.2,zb (fun h2=> ?_) (fun h2=>⟨_,rfl,?_,e3⟩)⟩) (fun h1=>⟨_,rfl,?_,e3⟩)⟩
  ·refine hc.load (hc2.load ⟨c,rfl,trivial,?_⟩)
   rintro x w4 ⟨rfl,e34⟩
   refine⟨e34,d,rfl,trivial,?_⟩
   rintro y w5 ⟨rfl,e45⟩
   refine⟨_,rfl,?_,Ext.trans e3 (Ext.trans e34 e45)⟩
   rw[zaD]
   have h2:(c.st==d.st)=true:=by dsimp only at h2;rw[beq_iff_eq]at h2⊢;omega
   unfold qm;rw[h1,h2];rfl
  ·have h2:(c.st==d.st)=false:=by dsimp only at h2;rw[beq_eq_false_iff_ne]at h2⊢;omega
   unfold qm;rw[h2];simp
  ·unfold qm;rw[h1];rfl
theorem zcF:zbF.Ok Tryz.prog 25:=by
  refine zpO ⟨zq8,ziI,zkj,trivial⟩ ?_
  rintro⟨s,wd⟩ w ⟨hU,hs⟩
  dsimp only at hs⊢
  refine⟨s,rfl,⟨hU.1,hs⟩,?_⟩
  rintro v w1 ⟨hv,e1⟩
  have hU1:=hU.ext e1
  refine zb (fun h=>⟨0,rfl,?_,e1⟩) (fun h=>⟨s,rfl,⟨hU1.1,hs⟩,?_⟩)
  ·unfold plN;rw[if_neg (fun hh=>by rw[hv,hh.1]at h;cases h)]
  rintro n w2 ⟨hn,e2⟩
  have hU2:=hU1.ext e2
  have e02:=Ext.trans e1 e2
  refine zb (fun h2=>⟨0,rfl,?_,e02⟩) (fun h2=>⟨⟨s,0,lkW wd⟩,rfl,⟨hU2.1,hU2.2,hs⟩,?_⟩)
  ·unfold plN;rw[if_neg (fun hh=>by rw[bne_iff_ne]at h2;rw[hn,hh.2.1]at h2;exact h2 rfl)]
  rintro x w3 ⟨hx,e3⟩
  have e03:=Ext.trans e02 e3
  dsimp only at hx
  refine zb (fun h3=>⟨0,rfl,?_,e03⟩) (fun h3=>⟨_,rfl,?_,e03⟩)
  ·unfold plN;rw[if_neg (fun hh=> ?_)]
   rw[zaD,hx,hh.2.2.1,decide_eq_true rfl]at h3
   have:=hh.2.2.2
   simp only[Bool.not_true,Bool.false_or,decide_eq_true_eq]at h3
   omega
  ·rw[Bool.or_eq_false_iff,zaD]at h3
   have h4:=of_decide_eq_false h3.2
   have h5:x.1=s:=by have:=h3.1;simpa using this
   have h6:n=1:=by rw[bne_eq_false_iff_eq]at h2;omega
   have h7:v=true:=by simpa using h
   unfold plN;rw[<-hv,<-hn,<-hx,if_pos ⟨h7,h6,h5,by omega⟩]
theorem zks:za4.Ok Tryz.prog 24:=by
  refine zrB trivial ?_
  rintro⟨a,b⟩ w _
  refine⟨_,rfl,?_,Ext.refl _⟩
  unfold Zv
  rw[Bool.eq_iff_iff]
  simp only[ge_iff_le,Bool.and_eq_true,decide_eq_true_eq]
structure GrB(w0:World)(b:Nat)(ad:Option Addr)(c:Nat)(g:Gr):Prop where
  w:w0.cell? ⟨b,0,none⟩=some (.int .i64 g.w)
  h:w0.cell? ⟨b,1,none⟩=some (.int .i64 g.h)
  cs:w0.cell? ⟨b,2,none⟩=some (.slice ad g.cs.length c)
  x:w0.cell? ⟨b,3,none⟩=some (.int .i64 g.x)
  y:w0.cell? ⟨b,4,none⟩=some (.int .i64 g.y)
theorem GrB.ext{w w':World}{b c:Nat}{ad:Option Addr}{g:Gr}(h:GrB w b ad c g)(hx:Ext w w'):GrB w' b ad c g:=⟨hx.cell h.w,hx.cell h.h,hx.cell h.cs,hx.cell h.x,hx.cell h.y⟩
theorem GrB.load{w:World}{b c:Nat}{ad:Option Addr}{g:Gr}(h:GrB w b ad c g){K:Int->Int->Option Addr->Nat->Nat->Int->Int->Prop}(hk:K g.w g.h ad g.cs.length c g.x g.y):
    ∃n,w.cell? ⟨b,0,none⟩=some (.int .i64 n)/\∃n1,w.cell? ⟨b,1,none⟩=some (.int .i64 n1)/\∃a m k,w.cell? ⟨b,2,none⟩=some (.slice a m k)/\∃n2,w.cell? ⟨b,3,none⟩=some (.int .i64 n2)/\∃n3,w.cell? ⟨b,4,none⟩=some (.int .i64 n3)/\K n n1 a m k n2 n3:=
  ⟨_,h.w,_,h.h,_,_,_,h.cs,_,h.x,_,h.y,hk⟩
theorem ZR{w:World}{b c:Nat}{ad:Option Addr}{g:Gr}{t:TypeId}(h:w.heap[b]? =some (.cells #[.int .i64 g.w, .int .i64 g.h, .slice ad g.cs.length c, .int .i64 g.x, .int .i64 g.y] t)):GrB w b ad c g:=by
  refine⟨?_,?_,?_,?_,?_⟩<;>(rw[za h];rfl)
theorem zaB(c:Ce)(l:List Ce):zi (c::l)=1+c.t.size+zi l:=by simp[zi]
theorem zcS:∀(l:List Ce) {i:Nat},i<l.length->1+(zg l i).t.size<=zi l
  |[],i,h=>by simp at h
  |c::l,0,_=>by rw[zaB];show 1+c.t.size<=_;omega
  |c::l,i+1,h=>by have:=zcS l (i:=i) (by simpa using h);rw[zaB];show 1+(zg l i).t.size<=_;omega
theorem bulk_len:∀l:List Ce,l.length<=zi l
  |[]=>Nat.zero_le _
  |c::l=>by have:=bulk_len l;rw[zaB,List.length_cons];omega
set_option maxRecDepth 4000 in
theorem zia:Q7.Ok Tryz.prog 9:=by
  refine zpF ⟨zks,zdA,zcF,trivial⟩ ?_
  rintro⟨ad,c,g,wd⟩ w ⟨hU,hc,hbk⟩ b w1 hn
  dsimp only at hU hc hbk hn⊢
  have hg1:=ZR hn.heap
  refine⟨_,hg1.w,_,hg1.h,(g.w,g.h),rfl,trivial,?_⟩
  rintro x w2 ⟨hx,e12⟩
  dsimp only at hx
  have e02:=Ext.trans hn.ext e12
  have hg2:=hg1.ext e12
  refine zb (fun h=>⟨_,rfl,?_,e02⟩) (fun h=> ?_)
  ·unfold zm;rw[<-hx];rw[show x=false by simpa using h];rfl
  have hx1:Zv g.w g.h=true:=by rw[<-hx];simpa using h
  have hsz:0<=g.w/\g.w<=1024/\0<=g.h/\g.h<=1024:=of_decide_eq_true hx1
  obtain⟨s1,s2,s3,s4⟩:=hsz
  have hwh:0<=g.w*g.h/\g.w*g.h<=1024*1024:=⟨Int.mul_nonneg s1 s3,Int.le_trans (Int.mul_le_mul_of_nonneg_right s2 s3) (Int.mul_le_mul_of_nonneg_left s4 (by omega))⟩
  refine⟨_,_,_,hg2.cs,_,hg2.w,_,hg2.h,zd (by omega) (by omega),zb (fun h=>⟨_,rfl,?_,e02⟩) (fun h=> ?_)⟩
  ·unfold zm;rw[show((g.cs.length:Int)==g.w*g.h)=false from by rw[beq_eq_false_iff_ne];exact bne_iff_ne.1 h];simp
  have hlen:(g.cs.length:Int)=g.w*g.h:=bne_eq_false_iff_eq.1 h
  clear h
  refine⟨⟨_,hg2.x,zb (fun h=>⟨_,hg2.y,(),?_,rfl⟩) (fun h=>⟨(),?_,rfl⟩)⟩,?_⟩
  ·rw[h];rfl
  ·rw[h];rfl
  intro _ _ w' hw';replace hw':=hw'.symm;subst hw'
  refine⟨?_,?_⟩
  ·refine zb (fun h0=> ?_) (fun h0=>⟨(),rfl,?_⟩)
   ·have h0:(g.x== -1&&g.y== -1)=false:=by rw[Bool.not_eq_true']at h0;exact h0
    have hf:¬(0<=g.x/\g.x<g.w/\0<=g.y/\g.y<g.h)->zm g wd=false:=fun hh=>zh8 (by unfold zav;rw[h0,decide_eq_false hh];rfl)
    refine⟨_,hg2.x,zb (fun h=>⟨_,rfl,(hf (by have:=of_decide_eq_true h;omega)).symm,e02⟩) (fun h1=>⟨_,hg2.x,_,hg2.w,zb (fun h=>⟨_,rfl,(hf (by have:=of_decide_eq_true h;omega)).symm,e02⟩) (fun h2=>⟨_,hg2.y,zb (fun h=>⟨_,rfl,(hf (by have:=of_decide_eq_true h;omega)).symm,e02⟩) (fun h3=>⟨_,hg2.y,_,hg2.h,zb (fun h=>⟨_,rfl,(hf (by have:=of_decide_eq_true h;omega)).symm,e02⟩) (fun h4=>⟨(),rfl,?_⟩)⟩)⟩)⟩)⟩
    have h1:=of_decide_eq_false h1;have h2:=of_decide_eq_false h2;have h3:=of_decide_eq_false h3;have h4:=of_decide_eq_false h4
    unfold zav;rw[decide_eq_true (by omega)];simp
   ·unfold zav;rw[show(g.x== -1&&g.y== -1)=true from by rw[Bool.not_eq_false']at h0;exact h0];rfl
  intro _ _ w' hw'
  obtain⟨hw',hcur⟩:=hw'
  replace hw':=hw'.symm;subst hw'
  have hR:=zkP (wd:=wd) hx1 hlen hcur
  refine⟨⟨0,rfl,Nat.zero_le _,by rw[List.drop_zero],Ext.refl _⟩,?_⟩
  rintro _ i w3 ⟨hi,hrg,e23⟩
  have hg3:=hg2.ext e23
  have hc3:=hc.ext (Ext.trans e02 e23)
  have e03:=Ext.trans e02 e23
  have hbl:=bulk_len g.cs
  refine⟨_,_,_,hg3.cs,zb (fun h=> ?_) (fun h=>⟨_,rfl,?_,e03⟩)⟩
  rotate_left
  ·have h:=of_decide_eq_false h
   rw[hR,<-hrg,zfH (by omega)]
  have hlt:i<g.cs.length:=by have:=of_decide_eq_true h;omega
  have hba:=zcS g.cs hlt
  have hts:=zby (zg g.cs i)
  refine⟨_,_,_,hg3.cs,i,rfl,hlt,hc3.ce hlt fun b1 o1 hce=>hce.load ?_⟩
  intro b4 w4 hn4
  have hce4:=Z5 hn4.heap
  refine hce4.load ⟨_,rfl,trivial,?_⟩
  rintro s w5 ⟨hs5,e45⟩
  have e35:=Ext.trans hn4.ext e45
  refine⟨(s,wd),rfl,⟨hU.ext (Ext.trans e03 e35),by dsimp only;rw[hs5];omega⟩,?_⟩
  rintro n w6 ⟨hn6,e56⟩
  dsimp only at hn6
  rw[hs5]at hn6
  have e36:=Ext.trans e35 e56
  have e06:=Ext.trans e03 e36
  have hce6:=hce4.ext (Ext.trans e45 e56)
  have hn2:=zof (zM (zg g.cs i)) wd
  refine⟨_,hce6.2.1,zb (fun h1=>⟨_,rfl,?_,e06⟩) (fun h1=>zb (fun h2=>⟨_,rfl,?_,e06⟩) (fun h2=> ?_))⟩
  ·rw[hR,<-hrg,zdN hlt (.inl (bne_iff_ne.1 h1))]
  ·rw[hR,<-hrg,zdN hlt (.inr (by rw[beq_iff_eq]at h2;omega))]
  have hp0:=bne_eq_false_iff_eq.1 h1
  have hn0:n≠0:=by rw[beq_eq_false_iff_ne]at h2;omega
  refine zb (fun h3=> ?_) (fun h3=> ?_)
  ·have hn22:n=2:=by rw[beq_iff_eq]at h3;omega
   refine⟨zd (by omega) (by omega),?_⟩
   intro w7 hd
   have e07:=Ext.trans e06 hd.ext
   have hg6:=hg3.ext e36
   have hw0:0<g.w:=by
     rcases Int.lt_or_eq_of_le s1 with h|h
     ·exact h
     ·exfalso;rw[<-h,Int.zero_mul]at hlen;omega
   have hmod:((i:Int)+1)%g.w=(((i+1)%g.w.toNat:Nat):Int):=by
     rw[Int.natCast_emod,Int.toNat_of_nonneg s1];rfl
   refine⟨_,hg6.w,by omega,hw0,zb (fun h4=>⟨_,rfl,?_,e07⟩) (fun h4=> ?_)⟩
   ·have h4:(i+1)%g.w.toNat=0:=by rw[hmod,beq_iff_eq]at h4;omega
    rw[hR,<-hrg]
    rcases Nat.lt_or_ge (i+1) g.cs.length with h5|h5
    ·rw[zcE h5 hp0 (by omega),h4];rfl
    ·rw[zjF (by omega) hp0 (by omega)]
   have h4:¬(i+1)%g.w.toNat=0:=by rw[hmod,beq_eq_false_iff_ne]at h4;omega
   have hi1:i+1<g.cs.length:=by
     rcases Nat.lt_or_ge (i+1) g.cs.length with h5|h5
     ·exact h5
     ·exfalso;apply h4
      have:i+1=g.w.toNat*g.h.toNat:=by
        have h6:((i+1:Nat):Int)=((g.w.toNat*g.h.toNat:Nat):Int):=by rw[Int.natCast_mul,Int.toNat_of_nonneg s1,Int.toNat_of_nonneg s3];omega
        omega
      rw[this,Nat.mul_mod_right]
   have hc6:=hc3.ext e36
   refine⟨_,_,_,hg6.cs,i+1,rfl,hi1,hc6.ce hi1 fun b2 o2 hd2=>hd2.load ⟨_,hce6.2.2.2.2.2,_,_,_,hg6.cs,i+1,rfl,hi1,hc6.ce hi1 fun b3 o3 hd3=>⟨_,hd3.2.2.1,_,_,_,hg6.cs,i+1,rfl,hi1,hc6.ce hi1 fun b4 o4 hd4=>⟨_,hd4.2.2.2.1,_,_,_,hg6.cs,i+1,rfl,hi1,hc6.ce hi1 fun b5 o5 hd5=>⟨_,hd5.2.2.2.2.1,?_⟩⟩⟩⟩⟩
   have hst:(((zg g.cs (i+1)).st:Int)==((zg g.cs i).st:Int))=((zg g.cs (i+1)).st==(zg g.cs i).st):=by rw[Bool.eq_iff_iff,beq_iff_eq,beq_iff_eq];omega
   have h2:=zcE (w:=g.w.toNat) (wd:=wd) hi1 hp0 (by omega)
   have hm0:((i+1)%g.w.toNat==0)=false:=by rw[beq_eq_false_iff_ne];exact h4
   rw[hm0]at h2
   refine zb (fun h5=>⟨_,rfl,?_,e07⟩) (fun h5=>⟨zd (by omega) (by omega),i+2,rfl,⟨by omega,?_,Ext.trans (Ext.trans e23 e36) hd.ext⟩,by omega⟩)
   ·rw[QR,hst,Bool.not_eq_true']at h5
    rw[hR,<-hrg,h2]
    cases ha:((zg g.cs (i+1)).p==1)<;>cases hb:((zg g.cs (i+1)).st==(zg g.cs i).st)<;>cases hc':decide ((zg g.cs (i+1)).t.size=0)<;>simp_all
   ·rw[QR,hst,Bool.not_eq_false']at h5
    simp only[Bool.and_eq_true,beq_self_eq_true,Bool.and_true,true_and]at h5
    rw[<-hrg,h2,h5.1,h5.2.1,h5.2.2]
    simp
  ·have hn22:n≠2:=by rw[beq_eq_false_iff_ne]at h3;omega
   exact⟨zd (by omega) (by omega),i+1,rfl,⟨by omega,by rw[<-hrg,zfG hlt hp0 (by omega) (by omega)],Ext.trans e23 e36⟩,by omega⟩
end

section
open Go Go.RowKit Vc Ut Tb Cl
theorem zky:zbE.Ok Tryz.prog 11:=by
  refine zrH ⟨zeU,trivial⟩ ?_
  rintro⟨a1,c1,g1,a2,c2,g2⟩ w ⟨⟨hc1,hb1⟩,⟨hc2,hb2⟩⟩ b w1 hn1 b2 w2 hn2
  dsimp only at hc1 hb1 hc2 hb2 hn1 hn2⊢
  have hg1:=(ZR hn1.heap).ext hn2.ext
  have hg2:=ZR hn2.heap
  have e02:=Ext.trans hn1.ext hn2.ext
  have hl1:=bulk_len g1.cs
  refine⟨_,hg1.w,_,hg2.w,zb (fun h=>⟨_,rfl,?_,e02⟩) (fun k1=>⟨_,hg1.h,_,hg2.h,zb (fun h=>⟨_,rfl,?_,e02⟩) (fun k2=>⟨_,hg1.x,_,hg2.x,zb (fun h=>⟨_,rfl,?_,e02⟩) (fun k3=>⟨_,hg1.y,_,hg2.y,zb (fun h=>⟨_,rfl,?_,e02⟩) (fun k4=> ?_)⟩)⟩)⟩)⟩
  ·unfold qa;rw[show(g1.w==g2.w)=false from by rw[beq_eq_false_iff_ne];exact bne_iff_ne.1 h];rfl
  ·unfold qa;rw[show(g1.h==g2.h)=false from by rw[beq_eq_false_iff_ne];exact bne_iff_ne.1 h];simp
  ·unfold qa;rw[show(g1.x==g2.x)=false from by rw[beq_eq_false_iff_ne];exact bne_iff_ne.1 h];simp
  ·unfold qa;rw[show(g1.y==g2.y)=false from by rw[beq_eq_false_iff_ne];exact bne_iff_ne.1 h];simp
  have hS:=zfv (bne_eq_false_iff_eq.1 k1) (bne_eq_false_iff_eq.1 k2) (bne_eq_false_iff_eq.1 k3) (bne_eq_false_iff_eq.1 k4)
  rw[hS]
  refine⟨_,_,_,hg1.cs,_,_,_,hg2.cs,zb (fun h=>⟨_,rfl,?_,e02⟩) (fun k5=> ?_)⟩
  ·have h:=bne_iff_ne.1 h
   cases hs:Zx g1.cs g2.cs with
   |false=>rfl
   |true=>have:=zfx hs;omega
  have hlen:g1.cs.length=g2.cs.length:=by have:=bne_eq_false_iff_eq.1 k5;omega
  refine⟨_,_,_,hg1.cs,⟨0,rfl,Nat.zero_le _,rfl,Ext.refl _⟩,?_⟩
  rintro _ i w3 ⟨hi,hs,e23⟩
  have e03:=Ext.trans e02 e23
  refine zb (fun h=> ?_) (fun h=>⟨_,rfl,?_,e03⟩)
  ·have hlt:i<g1.cs.length:=by have:=of_decide_eq_true h;omega
   intro w4 hd
   have hg13:=hg1.ext e23
   have hg23:=hg2.ext e23
   refine⟨_,_,_,hg13.cs,i,rfl,hlt,(hc1.ext e03).ce hlt fun b3 o3 hce=>hce.load ⟨_,_,_,hg23.cs,i,rfl,by omega,(hc2.ext e03).ce (by omega) fun b4 o4 hcd=>hcd.load ⟨(zg g1.cs i,zg g2.cs i),rfl,trivial,?_⟩⟩⟩
   rintro x w5 ⟨hx,e45⟩
   dsimp only at hx
   have e35:=Ext.trans hd.ext e45
   refine zb (fun h=>⟨_,rfl,?_,Ext.trans e03 e35⟩) (fun h=>⟨zd (by omega) (by omega),i+1,rfl,⟨by omega,?_,Ext.trans e23 e35⟩,by omega⟩)
   ·rw[<-hs,zcb hlt (by omega),<-hx,show x=false by simpa using h];rfl
   ·rw[<-hs,zcb hlt (by omega),<-hx,show x=true by simpa using h];rfl
  ·have h:=of_decide_eq_false h
   rw[<-hs,zfw (by omega) (by omega)]
theorem zga:QT.Ok Tryz.prog 29:=by
  refine zrb trivial ?_
  rintro c w _ b w1 hn
  exact zkk hn
theorem ziP:QC.Ok Tryz.prog 31:=by
  refine zqU ⟨zga,trivial⟩ ?_
  rintro⟨c,d⟩ w _ b w1 hn1 b1 w2 hn2 w3 hd
  dsimp only at hn1 hn2⊢
  have hc:=(Z5 hn1.heap).ext hn2.ext
  have hc2:=Z5 hn2.heap
  have e3:Ext w w3:=Ext.trans (Ext.trans hn1.ext hn2.ext) hd.ext
  refine⟨_,hc.2.1,_,hc2.2.1,zb (fun h1=>⟨_,hc.2.2.2.2.2,_,hc2.2.2.2.2.2,zb (fun h2=> ?_) (fun h2=>⟨_,rfl,?_,e3⟩)⟩) (fun h1=>⟨_,rfl,?_,e3⟩)⟩
  ·refine hc.load (hc2.load ⟨c,rfl,trivial,?_⟩)
   rintro x w4 ⟨rfl,e34⟩
   refine⟨e34,d,rfl,trivial,?_⟩
   rintro y w5 ⟨rfl,e45⟩
   refine⟨_,rfl,?_,Ext.trans e3 (Ext.trans e34 e45)⟩
   rw[zaD]
   have h2:(c.st==d.st)=true:=by rw[beq_iff_eq]at h2⊢;omega
   unfold qm;rw[h1,h2];rfl
  ·have h2:(c.st==d.st)=false:=by rw[beq_eq_false_iff_ne]at h2⊢;omega
   unfold qm;rw[h2];simp
  ·unfold qm;rw[h1];rfl
theorem zew:zcD.Ok Tryz.prog 28:=by
  refine zpN ⟨zki,zpz,zpK,trivial⟩ ?_
  rintro⟨s,wd⟩ w ⟨hU,hs⟩
  dsimp only at hs⊢
  refine⟨⟨s,0,lkW wd⟩,rfl,⟨hU.1,hU.2,hs⟩,?_⟩
  rintro x w1 ⟨hx,e1⟩
  dsimp only at hx
  have hU1:=hU.ext e1
  refine⟨s,rfl,⟨hU1.1,hs⟩,?_⟩
  rintro v w2 ⟨hv,e2⟩
  have hU2:=hU1.ext e2
  have e02:=Ext.trans e1 e2
  refine zb (fun h1=>⟨s,rfl,⟨hU2.1,hs⟩,?_⟩) (fun h1=>⟨(_,_),rfl,?_,fun h=>(by cases h),e02⟩)
  rotate_left
  ·symm;rw[decide_eq_false_iff_not,Decidable.not_not];unfold plN;rw[if_neg (fun hh=>by rw[hv,hh.1]at h1;cases h1)]
  rintro n w3 ⟨hn,e3⟩
  have e03:=Ext.trans e02 e3
  refine zb (fun h2=>zb (fun h3=> ?_) (fun h3=>⟨(_,_),rfl,?_,fun h=>(by cases h),e03⟩)) (fun h2=>⟨(_,_),rfl,?_,fun h=>(by cases h),e03⟩)
  ·rw[zaD]at h3
   have h3:=of_decide_eq_true h3
   have h2:n=1:=by rw[beq_iff_eq]at h2;omega
   refine zb (fun h4=>⟨(_,_),rfl,?_,fun _=> ?_,e03⟩) (fun h4=>⟨(_,_),rfl,?_,fun h=> ?_,e03⟩)
   ·have h4:x.2=1:=by rw[beq_iff_eq]at h4;omega
    symm;rw[decide_eq_true_iff];unfold plN;rw[<-hx,<-hv,<-hn,if_pos ⟨h1,h2,h3,by omega⟩];omega
   ·have h4:x.2=1:=by rw[beq_iff_eq]at h4;omega
    unfold plN;rw[<-hx,<-hv,<-hn,if_pos ⟨h1,h2,h3,by omega⟩]
   ·have h4:x.2≠1:=by rw[beq_eq_false_iff_ne]at h4;omega
    dsimp only
    rw[Bool.eq_iff_iff,beq_iff_eq,decide_eq_true_iff]
    unfold plN;rw[<-hx,<-hv,<-hn]
    split
    ·rename_i hh;have:=hh.2.2.2;omega
    ·rename_i hh
     constructor
     ·intro h5;exact absurd ⟨h1,h2,h3,by omega⟩ hh
     ·intro h5;omega
   ·dsimp only at h⊢
    have h4:x.2=2:=by rw[beq_iff_eq]at h;omega
    unfold plN;rw[<-hx,<-hv,<-hn,if_pos ⟨h1,h2,h3,by omega⟩]
  ·symm;rw[decide_eq_false_iff_not,Decidable.not_not];unfold plN;rw[if_neg (fun hh=> ?_)]
   rw[zaD]at h3
   exact of_decide_eq_false h3 (by rw[hx];exact hh.2.2.1)
  ·symm;rw[decide_eq_false_iff_not,Decidable.not_not];unfold plN;rw[if_neg (fun hh=>by rw[beq_eq_false_iff_ne]at h2;rw[hn,hh.2.1]at h2;exact h2 rfl)]
theorem zkr:za4.Ok Tryz.prog 27:=by
  refine zrA trivial ?_
  rintro⟨a,b⟩ w _
  refine⟨_,rfl,?_,Ext.refl _⟩
  unfold Zv
  rw[Bool.eq_iff_iff]
  simp only[ge_iff_le,Bool.and_eq_true,decide_eq_true_eq]
theorem zrG:zbE.Ok Tryz.prog 12:=by
  refine zrF ⟨ziP,trivial⟩ ?_
  rintro⟨a1,c1,g1,a2,c2,g2⟩ w ⟨⟨hc1,hb1⟩,⟨hc2,hb2⟩⟩ b w1 hn1 b2 w2 hn2
  dsimp only at hc1 hb1 hc2 hb2 hn1 hn2⊢
  have hg1:=(ZR hn1.heap).ext hn2.ext
  have hg2:=ZR hn2.heap
  have e02:=Ext.trans hn1.ext hn2.ext
  have hl1:=bulk_len g1.cs
  refine⟨_,hg1.w,_,hg2.w,zb (fun h=>⟨_,rfl,?_,e02⟩) (fun k1=>⟨_,hg1.h,_,hg2.h,zb (fun h=>⟨_,rfl,?_,e02⟩) (fun k2=>⟨_,hg1.x,_,hg2.x,zb (fun h=>⟨_,rfl,?_,e02⟩) (fun k3=>⟨_,hg1.y,_,hg2.y,zb (fun h=>⟨_,rfl,?_,e02⟩) (fun k4=> ?_)⟩)⟩)⟩)⟩
  ·unfold qa;rw[show(g1.w==g2.w)=false from by rw[beq_eq_false_iff_ne];exact bne_iff_ne.1 h];rfl
  ·unfold qa;rw[show(g1.h==g2.h)=false from by rw[beq_eq_false_iff_ne];exact bne_iff_ne.1 h];simp
  ·unfold qa;rw[show(g1.x==g2.x)=false from by rw[beq_eq_false_iff_ne];exact bne_iff_ne.1 h];simp
  ·unfold qa;rw[show(g1.y==g2.y)=false from by rw[beq_eq_false_iff_ne];exact bne_iff_ne.1 h];simp
  have hS:=zfv (bne_eq_false_iff_eq.1 k1) (bne_eq_false_iff_eq.1 k2) (bne_eq_false_iff_eq.1 k3) (bne_eq_false_iff_eq.1 k4)
  rw[hS]
  refine⟨_,_,_,hg1.cs,_,_,_,hg2.cs,zb (fun h=>⟨_,rfl,?_,e02⟩) (fun k5=> ?_)⟩
  ·have h:=bne_iff_ne.1 h
   cases hs:Zx g1.cs g2.cs with
   |false=>rfl
   |true=>have:=zfx hs;omega
  have hlen:g1.cs.length=g2.cs.length:=by have:=bne_eq_false_iff_eq.1 k5;omega
  refine⟨⟨0,rfl,Nat.zero_le _,rfl,Ext.refl _⟩,?_⟩
  rintro _ i w3 ⟨hi,hs,e23⟩
  have e03:=Ext.trans e02 e23
  have hg13:=hg1.ext e23
  have hg23:=hg2.ext e23
  refine⟨_,_,_,hg13.cs,zb (fun h=> ?_) (fun h=>⟨_,rfl,?_,e03⟩)⟩
  ·have hlt:i<g1.cs.length:=by have:=of_decide_eq_true h;omega
   intro w4 hd
   refine⟨_,_,_,hg13.cs,i,rfl,hlt,(hc1.ext e03).ce hlt fun b3 o3 hce=>hce.load ⟨_,_,_,hg23.cs,i,rfl,by omega,(hc2.ext e03).ce (by omega) fun b4 o4 hcd=>hcd.load ⟨(zg g1.cs i,zg g2.cs i),rfl,trivial,?_⟩⟩⟩
   rintro x w5 ⟨hx,e45⟩
   dsimp only at hx
   have e35:=Ext.trans hd.ext e45
   refine zb (fun h=>⟨_,rfl,?_,Ext.trans e03 e35⟩) (fun h=>⟨zd (by omega) (by omega),i+1,rfl,⟨by omega,?_,Ext.trans e23 e35⟩,by omega⟩)
   ·rw[<-hs,zcb hlt (by omega),<-hx,show x=false by simpa using h];rfl
   ·rw[<-hs,zcb hlt (by omega),<-hx,show x=true by simpa using h];rfl
  ·have h:=of_decide_eq_false h
   rw[<-hs,zfw (by omega) (by omega)]
theorem zt3{W H y x:Nat}(hy:y<H)(hx:x<W):y*W+x<W*H:=by
  have h1:(y+1)*W<=H*W:=Nat.mul_le_mul_right _ hy
  have h2:(y+1)*W=y*W+W:=by rw[Nat.add_mul,Nat.one_mul]
  rw[Nat.mul_comm W H];omega
theorem zoq{W y x:Nat}(hx:x<W):(y*W+x+1)%W=0 ↔ x+1=W:=by
  rw[show y*W+x+1=x+1+W*y from by rw[Nat.mul_comm];omega,Nat.add_mul_mod_self_left]
  constructor
  ·intro h
   rcases Nat.lt_or_ge (x+1) W with h1|h1
   ·rw[Nat.mod_eq_of_lt h1]at h;omega
   ·omega
  ·intro h;rw[h,Nat.mod_self]
set_option maxRecDepth 4000 in
theorem zh9:Q7.Ok Tryz.prog 10:=by
  refine zpE ⟨zkr,zga,zew,trivial⟩ ?_
  rintro⟨ad,c,g,wd⟩ w ⟨hU,hc,hbk⟩ b w1 hn
  dsimp only at hU hc hbk hn⊢
  have hg1:=ZR hn.heap
  refine⟨_,hg1.w,_,hg1.h,(g.w,g.h),rfl,trivial,?_⟩
  rintro x w2 ⟨hx,e12⟩
  dsimp only at hx
  have e02:=Ext.trans hn.ext e12
  have hg2:=hg1.ext e12
  refine zb (fun h=>⟨_,rfl,?_,e02⟩) (fun h=> ?_)
  ·unfold zm;rw[<-hx];rw[show x=false by simpa using h];rfl
  have hx1:Zv g.w g.h=true:=by rw[<-hx];simpa using h
  have hsz:0<=g.w/\g.w<=1024/\0<=g.h/\g.h<=1024:=of_decide_eq_true hx1
  obtain⟨s1,s2,s3,s4⟩:=hsz
  have hwh:0<=g.w*g.h/\g.w*g.h<=1024*1024:=⟨Int.mul_nonneg s1 s3,Int.le_trans (Int.mul_le_mul_of_nonneg_right s2 s3) (Int.mul_le_mul_of_nonneg_left s4 (by omega))⟩
  refine⟨_,_,_,hg2.cs,_,hg2.w,_,hg2.h,zd (by omega) (by omega),zb (fun h=>⟨_,rfl,?_,e02⟩) (fun h=> ?_)⟩
  ·unfold zm;rw[show((g.cs.length:Int)==g.w*g.h)=false from by rw[beq_eq_false_iff_ne];exact bne_iff_ne.1 h];simp
  have hlen:(g.cs.length:Int)=g.w*g.h:=bne_eq_false_iff_eq.1 h
  clear h
  have hf:¬(g.x= -1/\g.y= -1)->¬(0<=g.x/\g.x<g.w/\0<=g.y/\g.y<g.h)->zm g wd=false:=fun h0 hh=>zh8 (by
    unfold zav
    rw[decide_eq_false hh,Bool.or_false,Bool.and_eq_false_iff,beq_eq_false_iff_ne,beq_eq_false_iff_ne]
    by_cases h1:g.x= -1
    ·exact .inr fun h2=>h0 ⟨h1,h2⟩
    ·exact .inl h1)
  have hin:(0<=g.x/\g.x<g.w/\0<=g.y/\g.y<g.h)->zav g=true:=fun h=>by unfold zav;rw[decide_eq_true h];simp
  refine⟨⟨_,hg2.x,zb (fun h0=> ?_) (fun h0=>⟨_,hg2.y,zb (fun h1=> ?_) (fun h1=>⟨(),rfl,?_⟩)⟩)⟩,?_⟩
  ·have h0:=bne_iff_ne.1 h0
   have hf:=hf (fun h=>h0 h.1)
   refine⟨_,hg2.x,zb (fun h=>⟨_,rfl,(hf (by have:=of_decide_eq_true h;omega)).symm,e02⟩) (fun h1=>⟨_,hg2.x,_,hg2.w,zb (fun h=>⟨_,rfl,(hf (by have:=of_decide_eq_true h;omega)).symm,e02⟩) (fun h2=>⟨_,hg2.y,zb (fun h=>⟨_,rfl,(hf (by have:=of_decide_eq_true h;omega)).symm,e02⟩) (fun h3=>⟨_,hg2.y,_,hg2.h,zb (fun h=>⟨_,rfl,(hf (by have:=of_decide_eq_true h;omega)).symm,e02⟩) (fun h4=>⟨(),rfl,hin ?_⟩)⟩)⟩)⟩)⟩
   have h1:=of_decide_eq_false h1;have h2:=of_decide_eq_false h2;have h3:=of_decide_eq_false h3;have h4:=of_decide_eq_false h4
   omega
  ·have h1:=bne_iff_ne.1 h1
   have hf:=hf (fun h=>h1 h.2)
   refine⟨_,hg2.x,zb (fun h=>⟨_,rfl,(hf (by have:=of_decide_eq_true h;omega)).symm,e02⟩) (fun h1=>⟨_,hg2.x,_,hg2.w,zb (fun h=>⟨_,rfl,(hf (by have:=of_decide_eq_true h;omega)).symm,e02⟩) (fun h2=>⟨_,hg2.y,zb (fun h=>⟨_,rfl,(hf (by have:=of_decide_eq_true h;omega)).symm,e02⟩) (fun h3=>⟨_,hg2.y,_,hg2.h,zb (fun h=>⟨_,rfl,(hf (by have:=of_decide_eq_true h;omega)).symm,e02⟩) (fun h4=>⟨(),rfl,hin ?_⟩)⟩)⟩)⟩)⟩
   have h1:=of_decide_eq_false h1;have h2:=of_decide_eq_false h2;have h3:=of_decide_eq_false h3;have h4:=of_decide_eq_false h4
   omega
  ·have h0:=bne_eq_false_iff_eq.1 h0;have h1:=bne_eq_false_iff_eq.1 h1
   unfold zav;rw[h0,h1];rfl
  intro _ _ w' hw'
  obtain⟨hw',hcur⟩:=hw'
  replace hw':=hw'.symm;subst hw'
  have hR:=zkP (wd:=wd) hx1 hlen hcur
  have hWw:(g.w.toNat:Int)=g.w:=Int.toNat_of_nonneg s1
  have hHh:(g.h.toNat:Int)=g.h:=Int.toNat_of_nonneg s3
  have hln:g.cs.length=g.w.toNat*g.h.toNat:=by
    have h6:(g.cs.length:Int)=((g.w.toNat*g.h.toNat:Nat):Int):=by rw[Int.natCast_mul,hWw,hHh];exact hlen
    omega
  have hll:g.w.toNat*g.h.toNat<=1048576:=by omega
  refine⟨⟨0,rfl,by omega,by rw[Nat.zero_mul,List.drop_zero],Ext.refl _⟩,?_⟩
  rintro _ y w3 ⟨hy,hrg,e23⟩
  have hg3:=hg2.ext e23
  have e03:=Ext.trans e02 e23
  refine⟨_,hg3.h,zb (fun h=> ?_) (fun h=>⟨_,rfl,?_,e03⟩)⟩
  rotate_left
  ·have h:=of_decide_eq_false h
   have hyh:y=g.h.toNat:=by omega
   rw[hR,<-hrg,zfH (by rw[hln,hyh,Nat.mul_comm];exact Nat.le_refl _)]
  have hyh:y<g.h.toNat:=by have:=of_decide_eq_true h;omega
  refine⟨⟨0,rfl,Nat.zero_le _,⟨y,rfl,by omega,by rw[Nat.add_zero];exact hrg⟩,Ext.refl _⟩,?_⟩
  rintro _ x w4 ⟨hxw,⟨y',hy',_,hrg2⟩,e34⟩
  obtain rfl:y=y':=by have:(y:Int)=(y':Int):=by injection hy'
                      omega
  have hg4:=hg3.ext e34
  have e04:=Ext.trans e03 e34
  have hc4:=hc.ext e04
  refine⟨_,hg4.w,zb (fun h=> ?_) (fun h=> ?_)⟩
  rotate_left
  ·have h:=of_decide_eq_false h
   have hxw:x=g.w.toNat:=by omega
   refine⟨zd (by omega) (by omega),y+1,rfl,⟨by omega,?_,Ext.trans e23 e34⟩,by omega⟩
   rw[Nat.add_mul,Nat.one_mul]
   subst hxw
   exact hrg2
  have hlt':x<g.w.toNat:=by have:=of_decide_eq_true h;omega
  have hat:=zt3 hyh hlt'
  have hlt:y*g.w.toNat+x<g.cs.length:=by omega
  have hyw:(y:Int)*g.w=((y*g.w.toNat:Nat):Int):=by rw[Int.natCast_mul,hWw]
  have hba:=zcS g.cs hlt
  have hts:=zby (zg g.cs (y*g.w.toNat+x))
  refine⟨_,_,_,hg4.cs,_,hg4.w,by rw[hyw];exact zd (by omega) (by omega),by rw[hyw];exact zd (by omega) (by omega),y*g.w.toNat+x,by rw[hyw];omega,hlt,hc4.ce hlt fun b1 o1 hce=>hce.load ?_⟩
  intro b5 w5 hn5
  have hce5:=Z5 hn5.heap
  refine hce5.load ⟨_,rfl,trivial,?_⟩
  rintro s w6 ⟨hs6,e56⟩
  have e46:=Ext.trans hn5.ext e56
  refine⟨(s,wd),rfl,⟨hU.ext (Ext.trans e04 e46),by dsimp only;rw[hs6];omega⟩,?_⟩
  rintro⟨n,ok⟩ w7 ⟨hok,hnn,e67⟩
  dsimp only at hok hnn⊢
  rw[hs6]at hok hnn
  have e47:=Ext.trans e46 e67
  have e07:=Ext.trans e04 e47
  have hce7:=hce5.ext (Ext.trans e56 e67)
  have hn2:=zof (zM (zg g.cs (y*g.w.toNat+x))) wd
  refine⟨_,hce7.2.1,zb (fun h1=>⟨_,rfl,?_,e07⟩) (fun h1=>zb (fun h2=>⟨_,rfl,?_,e07⟩) (fun h2=> ?_))⟩
  ·rw[hR,<-hrg2,zdN hlt (.inl (bne_iff_ne.1 h1))]
  ·have h2:ok=false:=by simpa using h2
   rw[h2]at hok
   have:=of_decide_eq_false hok.symm
   rw[hR,<-hrg2,zdN hlt (.inr (by omega))]
  have hp0:=bne_eq_false_iff_eq.1 h1
  have h2:ok=true:=by simpa using h2
  have hnn:=hnn h2
  rw[h2]at hok
  have hn0:=of_decide_eq_true hok.symm
  refine zb (fun h3=> ?_) (fun h3=> ?_)
  ·have hn1:n=1:=by rw[beq_iff_eq]at h3;omega
   exact⟨zd (by omega) (by omega),x+1,rfl,⟨by omega,⟨y,rfl,by omega,by rw[<-hrg2,zfG hlt hp0 (by omega) (by omega)];rfl⟩,Ext.trans e34 e47⟩,by omega⟩
  have hn22:plN (zM (zg g.cs (y*g.w.toNat+x))) wd=2:=by rw[beq_eq_false_iff_ne]at h3;omega
  have hg7:=hg4.ext e47
  refine⟨zd (by omega) (by omega),_,hg7.w,zb (fun h4=>⟨_,rfl,?_,e07⟩) (fun h4=> ?_)⟩
  ·have h4:(y*g.w.toNat+x+1)%g.w.toNat=0:=(zoq hlt').2 (by rw[beq_iff_eq]at h4;omega)
   rw[hR,<-hrg2]
   rcases Nat.lt_or_ge (y*g.w.toNat+x+1) g.cs.length with h5|h5
   ·rw[zcE h5 hp0 hn22,h4];rfl
   ·rw[zjF (by omega) hp0 hn22]
  have hx1w:x+1<g.w.toNat:=by rw[beq_eq_false_iff_ne]at h4;omega
  have h4:¬(y*g.w.toNat+x+1)%g.w.toNat=0:=fun h=>by have:=(zoq hlt').1 h;omega
  have hat2:=zt3 hyh hx1w
  have hi1:y*g.w.toNat+x+1<g.cs.length:=by omega
  have hc7:=hc4.ext e47
  refine⟨_,_,_,hg7.cs,_,hg7.w,by rw[hyw];exact zd (by omega) (by omega),by rw[hyw];exact zd (by omega) (by omega),y*g.w.toNat+x+1,by rw[hyw];omega,hi1,hc7.ce hi1 fun b2 o2 hd2=>hd2.load ?_⟩
  intro b8 w8 hn8
  have hd8:=Z5 hn8.heap
  have hce8:=hce7.ext hn8.ext
  have e08:=Ext.trans e07 hn8.ext
  have h2:=zcE (w:=g.w.toNat) (wd:=wd) hi1 hp0 hn22
  have hm0:((y*g.w.toNat+x+1)%g.w.toNat==0)=false:=by rw[beq_eq_false_iff_ne];exact h4
  rw[hm0]at h2
  refine⟨_,hd8.2.1,zb (fun k1=>⟨_,rfl,?_,e08⟩) (fun k1=>⟨_,hd8.1,zb (fun k2=>⟨_,rfl,?_,e08⟩) (fun k2=>⟨_,hd8.2.2.2.2.2,_,hce8.2.2.2.2.2,zb (fun k3=>⟨_,rfl,?_,e08⟩) (fun k3=>⟨zd (by omega) (by omega),x+2,rfl,⟨by omega,⟨y,rfl,by omega,?_⟩,Ext.trans e34 (Ext.trans e47 hn8.ext)⟩,by omega⟩)⟩)⟩)⟩
  ·rw[hR,<-hrg2,h2,show((zg g.cs (y*g.w.toNat+x+1)).p==1)=false from by rw[beq_eq_false_iff_ne];exact bne_iff_ne.1 k1];simp
  ·rw[QR,Bool.not_eq_true']at k2
   rw[hR,<-hrg2,h2,k2];simp
  ·rw[hR,<-hrg2,h2,show((zg g.cs (y*g.w.toNat+x+1)).st==(zg g.cs (y*g.w.toNat+x)).st)=false from by rw[beq_eq_false_iff_ne];have:=bne_iff_ne.1 k3;omega];simp
  ·rw[QR,Bool.not_eq_false']at k2
   rw[<-hrg2,h2,k2,show((zg g.cs (y*g.w.toNat+x+1)).p==1)=true from by rw[beq_iff_eq];exact bne_eq_false_iff_eq.1 k1,show((zg g.cs (y*g.w.toNat+x+1)).st==(zg g.cs (y*g.w.toNat+x)).st)=true from by rw[beq_iff_eq];have:=bne_eq_false_iff_eq.1 k3;omega]
   simp
   rfl
end

section
namespace Vc
open Go Go.RowKit
theorem Row.pushStr{P:Program}{w:World}{t u ty e:TypeId}(hE:ElemOk P t e 1 1)(hu:P.underlying u=some .string){ad:Option Addr}{n c:Nat}{vs:List Value}(h:Row w e 1 ad n vs c)(s:ByteArray)(hb:n+s.size<=70368744177664):
    ∃ad' c' w2,zA P #[t,u] ty (.slice ad n c) (.string s) w ad' (n+s.size) c' w2/\KO w w2/\Row w2 e 1 ad' (n+s.size) (vs++Lib.strCells s) c'/\w.grownBy w2 (qi ad)/\
     (ad'=ad\/(ad'=some ⟨w.heap.size,0,none⟩/\w.heap.size<w2.heap.size/\Ext w w2)):=by
  obtain⟨i,z,hi,hz,hsize,hby,hzs⟩:=hE.info
  have ht:=hE.und
  have hlen:(vs++Lib.strCells s).length=(n+s.size)*1:=by rw[List.length_append,h.1,Lib.strCells_length];omega
  have h63:n+s.size<=maxLen:=by unfold maxLen;omega
  have hko:∀{w2:World},w.grownBy w2 (qi ad)->KO w w2:=fun hg=>KO.grown hg (fun j o hj ho=>by
    rcases h.2 with⟨h1,_⟩|⟨g,cur,h1,h2,_⟩
    ·subst h1;cases hj
    ·subst h1;cases hj;rw[h2]at ho;cases ho;rfl)
  have grown:∀(old:Nat),old<n+s.size->∀(row:Option Nat) (xs:Array Value),xs=vs.toArray++(Lib.strCells s).toArray->
   Row (w.drew.alloc (.cells (xs++Builtin.zeroCells z.cells (grownCap w (n+s.size) old e - (n+s.size))) e)) e 1 (some ⟨w.heap.size,0,none⟩) (n+s.size) (vs++Lib.strCells s) (grownCap w (n+s.size) old e)/\
   w.grownBy (w.drew.alloc (.cells (xs++Builtin.zeroCells z.cells (grownCap w (n+s.size) old e - (n+s.size))) e)) row/\w.heap.size<(w.drew.alloc (.cells (xs++Builtin.zeroCells z.cells (grownCap w (n+s.size) old e - (n+s.size))) e)).heap.size/\
   Ext w (w.drew.alloc (.cells (xs++Builtin.zeroCells z.cells (grownCap w (n+s.size) old e - (n+s.size))) e)):=by
    intro old ho row xs hxs
    subst hxs
    have hge:=grownCap_ge w (n+s.size) old e
    have hcm:grownCap w (n+s.size) old e<=maxLen:=grownCap_le_maxLen w (n+s.size) old e h63
    refine⟨⟨hlen, .inr ⟨w.heap.size,_,rfl,heap_alloc_new w.drew _,hge,hcm,?_,?_⟩⟩,⟨rfl,rfl,rfl,by simp,fun k hk _=>heap_alloc_old w.drew _ hk⟩,by simp,(Below.drew (Below.refl _ w)).alloc (by simp) _⟩
    ·have h1:=h.1
     have h2:=Lib.strCells_length s
     simp only[Array.size_append,List.size_toArray,size_zeroCells,hzs]
     omega
    ·simp only[Array.toList_append,List.append_assoc]
     rw[<-List.append_assoc,<-hlen]
     exact List.take_left
  rcases h.2 with⟨rfl,rfl,rfl⟩|⟨g,cur,rfl,hg,hnc,hcm,hcs,htake⟩
  ·have hx:vs=[]:=List.eq_nil_of_length_eq_zero (by simpa using h.1)
   subst hx
   by_cases h0:s.size=0
   ·have hs:s=ByteArray.mk #[]:=by
      cases s with|mk d=>cases d with|mk l=>cases l with
        |nil=>rfl
        |cons x l=>simp[ByteArray.size]at h0
    subst hs
    refine⟨none,0,w,?_,KOE.refl _ _,(show Row w e 1 none 0 [] 0 from h),⟨rfl,rfl,rfl,Nat.le_refl _,fun _ _ _=>rfl⟩, .inl rfl⟩
    unfold zA
    simp[Builtin.append_,run_underlying ht,run_underlying hu,sizeOf,typeInfo,hi,Builtin.lenOf,Builtin.firstCells,ByteArray.size]
   ·have hr:=run_append_nil_string (P:=P) w t u ty e i z ht hu hi hz s (by omega) (by omega) (by rw[hby];omega)
    have hgr:=grown 0 (by omega) (qi none) (s.data.map (fun b=>Value.int .u8 b.toNat)) (by
      apply Array.ext';simp[Lib.strCells])
    simp only[Nat.zero_add]at hgr⊢
    exact⟨_,_,_,hr,hko hgr.2.1,hgr.1,hgr.2.1, .inr ⟨rfl,hgr.2.2⟩⟩
  ·by_cases hroom:n+s.size<=c
   ·have hfit:n+s.size<=cur.size:=by omega
    have hr:=Lib.run_append_room_string (P:=P) w t u ty e i ht hu hi hsize g n c cur hg s hroom hfit
    have hgb:w.grownBy (w.setRow g (cur.toList.take n++Lib.strCells s++cur.toList.drop (n+s.size)).toArray) (qi (some ⟨g,0,none⟩)):=⟨rfl,rfl,rfl,by simp,fun k _ hk=>setRow_other w g k _ (fun e=>hk (by simp[qi,e]))⟩
    refine⟨_,_,_,hr,hko hgb,⟨hlen, .inr ⟨g,_,rfl,setRow_heap w g cur _ e _ hg,hroom,hcm,?_,?_⟩⟩,hgb, .inl rfl⟩
    ·simp only[List.size_toArray,List.length_append,List.length_take,List.length_drop,Array.length_toList,Lib.strCells_length]
     omega
    ·rw[Nat.mul_one]at htake
     rw[htake,<-hlen]
     exact List.take_left
   ·have holds:∀(j:Nat) v,vs[j]? =some v->w.cell? ((⟨g,0,none⟩:Addr).add j)=some v:=by
      intro j v hv
      rcases h.cells with h0|⟨b',o',e1,e2⟩
      ·subst h0;simp at hv
      ·cases e1;rw[add_lit];exact e2 j v hv
    have hr:=Lib.run_append_grow_string (P:=P) w t u ty e i z ht hu hi hz ⟨g,0,none⟩ n c vs (by rw[hsize];exact h.1) holds s (by omega) (by omega) (growslice_fits (by omega) (by rw[hby];omega))
    have hgr:=grown c (by omega) (qi (some ⟨g,0,none⟩)) _ rfl
    exact⟨_,_,_,hr,hko hgr.2.1,hgr.1,hgr.2.1, .inr ⟨rfl,hgr.2.2⟩⟩
end Vc
end

section
open Go Go.RowKit Vc Ut Tb Cl
theorem Kp.trans{B:Nat}{q:Option Nat}{a b c:World}(h:Kp B q a b)(k:Kp B q b c):Kp B q a c:=⟨Below.trans h.below k.below,h.oth.trans k.oth⟩
theorem Kp.weak{B:Nat}{q:Nat}{a b:World}(h:Kp B none a b):Kp B (some q) a b:=⟨h.below,fun k o hk _ ho=>h.oth k o hk (by simp) ho⟩
theorem Kp.ext{B:Nat}{q:Option Nat}{a b:World}(hB:B<=a.heap.size)(h:Ext a b):Kp B q a b:=⟨h.mono hB,fun k o hk _ _=>h.heap hk⟩
theorem Kp.size{B:Nat}{q:Option Nat}{a b:World}(h:Kp B q a b):a.heap.size<=b.heap.size:=h.below.size
theorem Kp.stored{B q:Nat}{w w1:World}{k:Nat}{v:Value}(h:Stored w ⟨q,k,none⟩ v w1)(hq:B<=q):Kp B (some q) w w1:=
  ⟨h.below (Below.refl _ _) hq,fun i o hi hn _=>(h.other (k:=i) (by show i≠q;rintro rfl;exact hn rfl)).trans hi⟩
theorem QV{w:World}{e:TypeId}{s n c g:Nat}{ad:Option Addr}{vs:List Value}(h:Row w e s ad n vs c)(hg:qi ad=some g):∃cur,w.heap[g]? =some (.cells cur e (0,0)):=by
  rcases h.2 with⟨rfl,_⟩|⟨g',cur,rfl,h1,_⟩
  ·cases hg
  ·cases hg;exact⟨cur,h1⟩
theorem Kp.grown{B:Nat}{w w2:World}{n c:Nat}{ad:Option Addr}{vs:List Value}(h:Row w 5 1 ad n vs c)(hg:w.grownBy w2 (qi ad))(hB:B<=w.heap.size)(hb:∀g,qi ad=some g->B<=g):Kp B none w w2:=by
  refine⟨Below.grown (Below.refl _ _) hg hB hb,fun k o hk _ ho=>(hg.block k (zv hk) fun hh=> ?_).trans hk⟩
  obtain⟨cur,h1⟩:=QV h hh.symm
  rw[hk]at h1
  exact ho _ _ (Option.some.inj h1)
theorem Vc.Row.kp{B:Nat}{q:Option Nat}{w w':World}{e:TypeId}{s n c:Nat}{ad:Option Addr}{vs:List Value}(h:Row w e s ad n vs c)(hk:Kp B q w w')(he:e≠5)(hq:∀g,q=some g->qi ad≠some g):Row w' e s ad n vs c:=by
  refine h.keep fun g hg=> ?_
  obtain⟨cur,h1⟩:=QV h hg
  rw[h1]
  exact hk.oth g _ h1 (fun hh=>hq g hh.symm hg) (fun c fz hh=>by injection hh with _ h2;exact he h2)
theorem UDB.on{B:Nat}{w w':World}(h:UDB B w)(hb:Below B w w'):UDB B w':=fun w'' h'=>h w'' (Below.trans hb h')
theorem TeIn.ext{w w':World}{p:TeP}{t:Te}(h:TeIn w p t)(hx:Ext w w'):TeIn w' p t:=
  ⟨hx.heap h.box,h.row.ext hx,h.bq,h.bad,Nat.le_trans h.bw hx.size,h.tab.on (hx.mono h.bw),h.u.on (hx.mono h.bw)⟩
theorem TeIn.ud{w:World}{p:TeP}{t:Te}(h:TeIn w p t):UD w:=h.u w (Below.refl _ _)
theorem TeIn.ne{w:World}{p:TeP}{t:Te}(h:TeIn w p t):qi p.ad≠some p.q:=fun hh=>by
  obtain⟨cur,h1⟩:=QV h.row hh
  rw[h.box]at h1
  injection h1 with h2
  injection h2 with _ h3
  exact absurd h3 (by decide)
theorem TeOut.ext{w w':World}{p:TeP}{t:Te}(h:TeIn w p t)(hx:Ext w w'):TeOut w w' p p t:=⟨h.ext hx,rfl,rfl,Kp.ext h.bw hx⟩
theorem TeOut.trans{a b c:World}{p p1 p2:TeP}{t1 t2:Te}(h:TeOut a b p p1 t1)(k:TeOut b c p1 p2 t2):TeOut a c p p2 t2:=by
  have hk:=k.kp
  rw[h.b,h.q]at hk
  exact⟨k.is,k.b.trans h.b,k.q.trans h.q,h.kp.trans hk⟩
theorem zmi{w w2 w3:World}{p:TeP}{t:Te}{a':Option Addr}{c' n':Nat}{s:ByteArray}(h:TeIn w p t)(hk:Kp p.B none w w2)(hn:n'=s.size)(hrow:Row w2 5 1 a' n' (zu s) c')(hb:∀g,qi a'=some g->p.B<=g)
    (hs:Stored w2 ⟨p.q,0,none⟩ (.slice a' n' c') w3):TeOut w w3 p ⟨p.B,p.q,a',c'⟩ (teB t s):=by
  subst hn
  have hb2:w2.heap[p.q]? =some (.cells (teV p t) 74):=hk.oth _ _ h.box (by simp) (fun c fz hh=>by injection hh with _ h2;exact absurd h2 (by decide))
  have hks:Kp p.B (some p.q) w2 w3:=Kp.stored hs h.bq
  have hne:qi a'≠some p.q:=fun hh=>by
    obtain⟨cur,h1⟩:=QV hrow hh
    rw[hb2]at h1
    injection h1 with h2
    injection h2 with _ h3
    exact absurd h3 (by decide)
  have h13:Kp p.B (some p.q) w w3:=hk.weak.trans hks
  refine⟨⟨hs.heap hb2,hrow.keep fun g hg=>hs.other (by show g≠p.q;rintro rfl;exact hne hg),h.bq,hb,Nat.le_trans h.bw h13.size,h.tab.on h13.below,h.u.on h13.below⟩,rfl,rfl,h13⟩
theorem zek{w w1:World}{p:TeP}{t t':Te}{k:Nat}{v:Value}(h:TeIn w p t)(hs:Stored w ⟨p.q,k,none⟩ v w1)(hv:(teV p t).setIfInBounds k v=teV p t')(hb:t'.b=t.b):TeOut w w1 p p t':=by
  have hk:Kp p.B (some p.q) w w1:=Kp.stored hs h.bq
  refine⟨⟨by rw[<-hv];exact hs.heap h.box,?_,h.bq,h.bad,Nat.le_trans h.bw hk.size,h.tab.on hk.below,h.u.on hk.below⟩,rfl,rfl,hk⟩
  rw[hb]
  exact h.row.keep fun g hg=>hs.other (by show g≠p.q;rintro rfl;exact h.ne hg)
theorem TeIn.old{w:World}{p:TeP}{t:Te}(h:TeIn w p t){k:Nat}(hk:k<6):∃old,w.cell? ⟨p.q,k,none⟩=some old:=by
  rw[za h.box];exact⟨_,Array.getElem?_eq_getElem (by show k<6;exact hk)⟩
theorem TeIn.free{w:World}{p:TeP}{t:Te}(h:TeIn w p t)(k:Nat):w.frozen? ⟨p.q,k,none⟩=false:=zB h.box _
theorem ziM{w w2:World}{p:TeP}{a':Option Addr}(hB:p.B<=w.heap.size)(hb:∀g,qi p.ad=some g->p.B<=g)(hor:a'=p.ad\/(a'=some ⟨w.heap.size,0,none⟩/\w.heap.size<w2.heap.size/\Ext w w2)):∀g,qi a'=some g->p.B<=g:=by
  rintro g hg
  rcases hor with rfl|⟨rfl,_⟩
  ·exact hb g hg
  ·simp[qi]at hg;omega
theorem Kp.old{B:Nat}{w w2:World}(h:Kp B none w w2){p:TeP}{t:Te}(hp:TeIn w p t)(k:Nat)(hk:k<6):(∃old,w2.cell? ⟨p.q,k,none⟩=some old)/\w2.frozen? ⟨p.q,k,none⟩=false:=by
  have hb2:w2.heap[p.q]? =some (.cells (teV p t) 74):=h.oth _ _ hp.box (by simp) (fun c fz hh=>by injection hh with _ h2;exact absurd h2 (by decide))
  refine⟨?_,zB hb2 _⟩
  rw[za hb2];exact⟨_,Array.getElem?_eq_getElem (by show k<6;exact hk)⟩
theorem zmj{w:World}{p:TeP}{t:Te}(h:TeIn w p t)(hsz:t.b.size<=1073741824)(m:ByteArray)(hm:m.size<=1073741824){b:Nat}{w1:World}(hn:New w (.cells (zu m).toArray 5) b w1){K:Option Addr->Nat->World->Prop}
    (hK:∀a' c' w2,zA Tryz.prog #[40,40] 40 (.slice p.ad t.b.size p.c) (.slice (some ⟨b,0,none⟩) m.size m.size) w1 a' (t.b.size+m.size) c' w2->KO w1 w2->(∃old,w2.cell? ⟨p.q,0,none⟩=some old)->w2.frozen? ⟨p.q,0,none⟩=false->
      (∀w3,Stored w2 ⟨p.q,0,none⟩ (.slice a' (t.b.size+m.size) c') w3->TeOut w w3 p ⟨p.B,p.q,a',c'⟩ (teB t (t.b++m)))->K a' c' w2):∃a' c' w2,K a' c' w2:=by
  obtain⟨a',c',w2,hrun,hko,hrow,hg,hor,_⟩:=(h.row.ext hn.ext).pushS (P:=Tryz.prog) (ty:=40) zhu (by decide) (sa:=some ⟨b,0,none⟩) (m:=m.size) (cx:=m.size) (news:=zu m) (by rw[Q5];omega) (.inr ⟨b,0,rfl,fun j v hv=>by rw[Nat.zero_add,hn.cell,List.getElem?_toArray];exact hv⟩) (zdv _) (by unfold maxLen;omega) (.inr (by omega))
  have hz:=hn.ext.size
  have hk1:Kp p.B none w1 w2:=Kp.grown (h.row.ext hn.ext) hg (Nat.le_trans h.bw hz) h.bad
  have hk:Kp p.B none w w2:=(Kp.ext h.bw hn.ext).trans hk1
  obtain⟨o1,o2⟩:=hk.old h 0 (by decide)
  refine⟨a',c',w2,hK a' c' w2 hrun hko o1 o2 fun w3 hs=>zmi h hk (by rw[ByteArray.size_append]) (by rw[Q9];exact hrow) (ziM (Nat.le_trans h.bw hz) h.bad hor) hs⟩
theorem zwO:zxk.Ok Tryz.prog 49:=by
  rintro⟨B,ad,c,s,i⟩ w ⟨ht,hrow,hb,hB,hs,h0,h1⟩
  dsimp only at ht hrow hb hB hs h0 h1
  have hown:w.ownsRow B 5 1 (.slice ad s.size c) s.size (zu s):=by
    refine⟨hrow.1,?_⟩
    rcases hrow.2 with⟨rfl,h2,h3⟩|⟨g,cur,rfl,h2,h3,h4,h5,h6⟩
    ·left;rw[h2,h3];exact⟨rfl,rfl⟩
    ·exact .inr ⟨g,c,cur,rfl,hb g rfl,h2,h3,h4,h5,h6⟩
  refine(Tryz.strconv_AppendInt_10 B s.size i h0 h1 (.slice ad s.size c) (zu s) w hown hB (by omega) ht).mono ?_
  rintro e w' ⟨v,he,hown',hbl,hok⟩
  have hz:(s++qE i).size=s.size+(Lib.itoa i).length:=by rw[ByteArray.size_append];rfl
  have hv:zu (s++qE i)=zu s++Lib.byteCells (Lib.itoa i):=by rw[Q9];congr 1
  have hko:KO w w':=⟨hbl.size,fun k o _ hk ho=>hok k o hk (by simp) (fun c fz h=>by subst h;cases ho)⟩
  rcases hown'.2 with⟨rfl,h2⟩|⟨g,cap,cur,rfl,h2,h3,h4,h5,h6,h7⟩
  ·refine⟨(none,0,0),he,⟨?_,⟨?_, .inl ⟨rfl,rfl,rfl⟩⟩,fun q hq=>(by cases hq),hbl,hok⟩,hko⟩
   ·show 0=(s++qE i).size;omega
   ·show(zu (s++qE i)).length=0*1
    rw[hv,hown'.1];omega
  ·refine⟨(some ⟨g,0,none⟩,(s++qE i).size,cap),by rw[he,<-hz];rfl,⟨rfl,⟨?_, .inr ⟨g,cur,rfl,h3,?_,h5,h6,?_⟩⟩,fun q hq=>(by cases hq;exact h2),hbl,hok⟩,hko⟩
   ·show(zu (s++qE i)).length=(s++qE i).size*1
    rw[hv,hz];exact hown'.1
   ·show(s++qE i).size<=cap;omega
   ·show cur.toList.take ((s++qE i).size*1)=zu (s++qE i)
    rw[hv,hz];exact h7
theorem zih:∀(l:List Int) (first:Bool) (n:Int),qW first (l++[n])=qW first l++(if(l.isEmpty&&first)=true then⟨#[]⟩else⟨#[59]⟩)++qE n
  |[],first,n=>by
   show(if first=true then _ else _)++qE n++⟨#[]⟩=⟨#[]⟩++_++qE n
   cases first
   ·show(⟨#[59]⟩:ByteArray)++qE n++ .empty= .empty++(⟨#[59]⟩:ByteArray)++qE n
    rw[ByteArray.append_empty,ByteArray.empty_append]
   ·show(.empty:ByteArray)++qE n++ .empty= .empty++ .empty++qE n
    simp only[ByteArray.append_empty,ByteArray.empty_append]
  |a::l,first,n=>by
   show _++qE a++qW false (l++[n])=(_++qE a++qW false l)++_++qE n
   rw[zih l false n]
   simp only[List.isEmpty_cons,Bool.false_and,Bool.and_false,Bool.false_eq_true,if_false,ByteArray.append_assoc]
theorem zsg{l:List Int}{i:Nat}(h:i<l.length):pfx l (i+1)=pfx l i++(if i=0 then⟨#[]⟩else⟨#[59]⟩)++qE (l.getD i 0):=by
  unfold pfx
  rw[List.take_succ_eq_append_getElem h,zih,List.getD_eq_getElem?_getD,List.getElem?_eq_getElem h]
  congr 2
  cases i with
  |zero=>rfl
  |succ k=>
   cases l with
   |nil=>simp at h
   |cons a l=>rfl
theorem zsZ{n:Int}(h0: -9223372036854775808<=n)(h1:n<=9223372036854775807):(qE n).size<=21:=by
  have:=Lib.itoa_length_le n h0 h1
  exact this
theorem zg8:∀(l:List Int) (first:Bool),(∀n∈l, -9223372036854775808<=n/\n<=9223372036854775807)->(qW first l).size<=22*l.length
  |[],_,_=>Nat.le_refl _
  |a::l,first,h=>by
   have h1:=zsZ (h a (by simp)).1 (h a (by simp)).2
   have h2:=zg8 l false (fun n hn=>h n (by simp[hn]))
   show((if first=true then _ else _)++qE a++qW false l).size<=_
   rw[ByteArray.size_append,ByteArray.size_append,List.length_cons]
   have h3:((if first=true then⟨#[]⟩else⟨#[59]⟩:ByteArray)).size<=1:=by cases first<;>decide
   omega
theorem zmK:zrI.Ok Tryz.prog 35:=by
  refine zxK ⟨zwO,trivial⟩ ?_
  rintro⟨p,t,c,la,lc,l⟩ w ⟨hT,hl,hsz,hll,hli⟩
  dsimp only at hT hl hsz hll hli⊢
  have hlq:∀g,some p.q=some g->qi la≠some g:=fun g hg hh=>by
    cases hg
    obtain⟨cur,h1⟩:=QV hl hh
    rw[hT.box]at h1
    injection h1 with h2
    injection h2 with _ h3
    exact absurd h3 (by decide)
  have hps:∀i,(pfx l i).size<=352:=fun i=>by
    have:=zg8 (l.take i) true (fun n hn=>hli n (List.mem_of_mem_take hn))
    rw[List.length_take]at this
    unfold pfx;omega
  refine⟨_,_,_,by rw[za hT.box];rfl,?_⟩
  intro b w1 hn
  refine zmj hT (by omega) ⟨#[27,91]⟩ (by decide) hn fun a' c' w2 hrun hko h1 h2 hst=>⟨hrun,hko,rfl,h1,h2,fun w3 hs=> ?_⟩
  have hO3:=hst w3 hs
  refine⟨⟨(0,⟨p.B,p.q,a',c'⟩),rfl,Nat.zero_le _,?_⟩,?_⟩
  ·have e:zdH t l 0=teB t (t.b++⟨#[27,91]⟩):=by
     unfold zdH pfx
     rw[List.take_zero]
     show teB t (_++ .empty)=_
     rw[ByteArray.append_empty]
   dsimp only
   rw[e];exact hO3
  rintro _ ⟨i,⟨B4,q4,a4,c4⟩⟩ w4 ⟨hi,hO4⟩
  obtain rfl:B4=p.B:=hO4.b
  obtain rfl:q4=p.q:=hO4.q
  dsimp only at hi hO4⊢
  have hl4:=hl.kp hO4.kp (by decide) hlq
  have hPs:∀i,(zdH t l i).b.size<=1073741000:=fun i=>by
    have:=hps i
    show(t.b++⟨#[27,91]⟩++pfx l i).size<=_
    rw[ByteArray.size_append,ByteArray.size_append]
    show t.b.size+2+_<=_
    omega
  have hP4:=hPs i
  have hcell:∀{w:World} {p':TeP} {t':Te},TeIn w p' t'->w.cell? ⟨p'.q,0,none⟩=some (.slice p'.ad t'.b.size p'.c):=fun h=>by rw[za h.box];rfl
  have hc4:=hcell hO4.is
  refine zb (fun h=> ?_) (fun h=> ?_)
  ·have hlt:i<l.length:=by have:=of_decide_eq_true h;omega
   refine⟨i,rfl,hlt,hl4.cells.int hlt fun b1 o1 hb1=>⟨_,hb1,⟨zb (fun h0=> ?_) (fun h0=> ?_),?_⟩⟩⟩
   ·have h0:0<i:=by have:=of_decide_eq_true h0;omega
    refine⟨_,_,_,hc4,?_⟩
    intro b5 w5 hn5
    refine zmj hO4.is (by omega) ⟨#[59]⟩ (by decide) hn5 fun a' c' w6 hrun hko h1 h2 hst=>⟨hrun,hko,rfl,h1,h2,fun w7 hs=>⟨⟨p.B,p.q,a',c'⟩,i,rfl,hO4.trans ?_⟩⟩
    have e:zfi t l i=teB (zdH t l i) ((zdH t l i).b++⟨#[59]⟩):=by
      unfold zfi;rw[if_neg (by omega)];rfl
    rw[e];exact hst w7 hs
   ·have h0:i=0:=by have:=of_decide_eq_false h0;omega
    refine⟨⟨p.B,p.q,a4,c4⟩,i,rfl,?_⟩
    have e:zfi t l i=zdH t l i:=by
      unfold zfi;rw[if_pos h0]
      show teB t (_++ .empty)=_
      rw[ByteArray.append_empty];rfl
    rw[e];exact hO4
   ·rintro _ ⟨B5,q5,a5,c5⟩ w5 ⟨i',hi',hO5⟩
    obtain rfl:B5=p.B:=hO5.b
    obtain rfl:q5=p.q:=hO5.q
    obtain rfl:i=i':=by have h:(i:Int)=(i':Int):=by injection hi'
                        omega
    have hQs:(zfi t l i).b.size<=1073741824:=by
      show((zdH t l i).b++_).size<=_
      rw[ByteArray.size_append]
      have:((if i=0 then⟨#[]⟩else⟨#[59]⟩:ByteArray)).size<=1:=by split<;>decide
      omega
    have hx:=hli (l.getD i 0) (by rw[List.getD_eq_getElem?_getD,List.getElem?_eq_getElem hlt];exact List.getElem_mem hlt)
    have hc5:=hcell hO5.is
    refine⟨_,_,_,hc5,⟨p.B,a5,c5,(zfi t l i).b,l.getD i 0⟩,rfl,⟨hO5.is.tab,hO5.is.row,hO5.is.bad,hO5.is.bw,hQs,hx.1,hx.2⟩,?_⟩
    rintro⟨a6,n6,c6⟩ w6 ⟨hn6,hr6,hb6,hk6⟩
    dsimp only at hn6 hr6 hb6 hk6⊢
    have hold:=hk6.old hO5.is 0 (by decide)
    refine⟨rfl,hold.1,hold.2,fun w7 hs7=>⟨zd (by omega) (by omega),(i+1,⟨p.B,p.q,a6,c6⟩),rfl,⟨hlt,hO5.trans ?_⟩,by dsimp only;omega⟩⟩
    have e:zdH t l (i+1)=teB (zfi t l i) ((zfi t l i).b++qE (l.getD i 0)):=by
      have e1:t.b++⟨#[27,91]⟩++pfx l (i+1)=t.b++⟨#[27,91]⟩++pfx l i++(if i=0 then⟨#[]⟩else⟨#[59]⟩)++qE (l.getD i 0):=by
        rw[zsg hlt]
        simp only[ByteArray.append_assoc]
      unfold zdH
      rw[e1];rfl
    dsimp only
    rw[e]
    exact zmi hO5.is hk6 hn6 hr6 hb6 hs7
  ·have hi:i=l.length:=by have:=of_decide_eq_false h;omega
   refine⟨_,_,_,hc4,?_⟩
   intro b5 w5 hn5
   refine zmj hO4.is (by omega) ⟨#[c]⟩ (by show 1<=_;decide) hn5 fun a' c' w6 hrun hko h1 h2 hst=>⟨hrun,hko,rfl,h1,h2,fun w7 hs=> ?_⟩
   have hO7:=hst w7 hs
   have e:t.b++(⟨#[27,91]⟩++qW true l++⟨#[c]⟩)=t.b++⟨#[27,91]⟩++pfx l i++⟨#[c]⟩:=by
     unfold pfx
     rw[List.take_of_length_le (by omega)]
     simp only[ByteArray.append_assoc]
   refine⟨rfl,hO7.is.old (k:=2) (by decide),hO7.is.free 2,fun w8 hs8=>⟨_,rfl,(hO4.trans hO7).trans (zek hO7.is hs8 ?_ e)⟩⟩
   show _=teV ⟨p.B,p.q,a',c'⟩ ⟨t.b++(⟨#[27,91]⟩++qW true l++⟨#[c]⟩),t.ps,⟨#[]⟩,t.st,t.w,t.wd⟩
   rw[e];rfl
end

section
open Go Go.RowKit Vc Ut Tb Cl
theorem zfX{a b:Nat}(ha:a<65536)(hb:b<65536):IntKind.u16.wrap (((BitVec.ofInt IntKind.u16.bits (a:Int)&&&BitVec.ofInt IntKind.u16.bits (b:Int)).toNat:Nat):Int)=((a&&&b:Nat):Int):=by
  have h:(BitVec.ofInt IntKind.u16.bits (a:Int)&&&BitVec.ofInt IntKind.u16.bits (b:Int)).toNat=a&&&b:=by
    rw[BitVec.toNat_and,BitVec.ofInt_natCast,BitVec.ofInt_natCast,BitVec.toNat_ofNat,BitVec.toNat_ofNat]
    show(a%65536)&&&(b%65536)=_
    rw[Nat.mod_eq_of_lt ha,Nat.mod_eq_of_lt hb]
  rw[h]
  have h2:a&&&b<=a:=Nat.and_le_left
  exact InR.wrap ⟨by show(0:Int)<=_;omega,by show _<=(65535:Int);omega⟩
theorem zw6(a k:Nat):a&&&2^k=(a / 2^k%2)*2^k:=by
  have hb:a.testBit k=decide (a / 2^k%2=1):=Nat.testBit_eq_decide_div_mod_eq
  have hm:a / 2^k%2<2:=Nat.mod_lt _ (by decide)
  apply Nat.eq_of_testBit_eq
  intro i
  rw[Nat.testBit_and,Nat.testBit_two_pow]
  by_cases h:a / 2^k%2=1
  ·rw[h,Nat.one_mul,Nat.testBit_two_pow]
   by_cases hi:k=i
   ·subst hi;rw[hb,h];rfl
   ·rw[decide_eq_false hi,Bool.and_false]
  ·rw[show a / 2^k%2=0 from by omega,Nat.zero_mul,Nat.zero_testBit]
   by_cases hi:k=i
   ·subst hi;rw[hb,decide_eq_false h];rfl
   ·rw[decide_eq_false hi,Bool.and_false]
theorem zys{st j:Nat}(hs:st<65536)(hj:j<4):(IntKind.u16.wrap (((BitVec.ofInt IntKind.u16.bits (st:Int)&&&BitVec.ofInt IntKind.u16.bits (IntKind.u16.wrap (1*2^min (8+(j:Int)).toNat IntKind.u16.bits))).toNat:Nat):Int) !=0)=decide (st / 2^(8+j)%2=1):=by
  have e:IntKind.u16.wrap (1*2^min (8+(j:Int)).toNat IntKind.u16.bits)=((2^(8+j):Nat):Int):=by
    rcases(by omega:j=0\/j=1\/j=2\/j=3)with rfl|rfl|rfl|rfl<;>rfl
  have hp:2^(8+j)<65536:=by
    rcases(by omega:j=0\/j=1\/j=2\/j=3)with rfl|rfl|rfl|rfl<;>decide
  have hp0:0<2^(8+j):=Nat.pow_pos (by decide)
  rw[e,zfX hs hp,zw6]
  have:st / 2^(8+j)%2<2:=Nat.mod_lt _ (by decide)
  rw[Bool.eq_iff_iff,bne_iff_ne,decide_eq_true_iff]
  constructor
  ·intro h
   by_cases h1:st / 2^(8+j)%2=1
   ·exact h1
   ·exfalso;apply h
    rw[show st / 2^(8+j)%2=0 from by omega,Nat.zero_mul];rfl
  ·intro h;rw[h,Nat.one_mul];omega
theorem zx3{st:Nat}(hs:st<65536):IntKind.u16.wrap (((BitVec.ofInt IntKind.u16.bits (st:Int)&&&BitVec.ofInt IntKind.u16.bits 255).toNat:Nat):Int)=((st%256:Nat):Int):=by
  rw[show(255:Int)=((255:Nat):Int)from rfl,zfX hs (by decide),show(255:Nat)=2^8 - 1 from rfl,Nat.and_two_pow_sub_one_eq_mod]
theorem zv1(st:Nat):((st:Int)).fdiv (2^min (Int.toNat 12) IntKind.u16.bits)=((st / 4096:Nat):Int):=by
  rw[show((2:Int)^min (Int.toNat 12) IntKind.u16.bits)=4096 from rfl,Int.fdiv_eq_ediv_of_nonneg _ (by decide)];rfl
theorem zmg(st i:Nat):qO st (i+1)=qO st i++(if st / 2^(8+i)%2=1 then [[1,3,4,7].getD i 0]else []):=by
  unfold qO
  rw[List.range_succ,List.filter_append,List.map_append]
  congr 1
  by_cases h:st / 2^(8+i)%2=1
  ·rw[if_pos h];simp[h]
  ·rw[if_neg h];simp[h]
theorem zh0(st i:Nat):(qO st i).length<=i:=by
  unfold qO;rw[List.length_map];have:=List.length_filter_le (fun j=>decide (st / 2^(8+j)%2=1)) (List.range i);simpa using this
theorem zq6(st:Nat){i:Nat}:∀n∈qO st i,0<=n/\n<=7:=by
  intro n hn
  unfold qO at hn
  obtain⟨j,_,rfl⟩:=List.mem_map.1 hn
  match j with
  |0=>decide
  |1=>decide
  |2=>decide
  |3=>decide
  |k+4=>exact⟨by show(0:Int)<=0;decide,by show(0:Int)<=7;decide⟩
theorem zhZ(st:Nat):(qU st).length<=11:=by
  unfold qU
  have:=zh0 st 4
  rw[List.length_append,List.length_append,List.length_append]
  have h1:(if st%256≠0 then [38,5,((st%256:Nat):Int)]else []).length<=3:=by split<;>simp
  have h2:(if st / 4096≠0 then [48,5,((st / 4096:Nat):Int)]else []).length<=3:=by split<;>simp
  have h3:([0]:List Int).length=1:=rfl
  omega
theorem zkb{st:Nat}(hs:st<65536):∀n∈qU st,0<=n/\n<=255:=by
  intro n hn
  unfold qU at hn
  simp only[List.mem_append]at hn
  rcases hn with((hn|hn)|hn)|hn
  ·simp at hn;subst hn;decide
  ·have:=zq6 st n hn;omega
  ·split at hn
   ·simp only[List.mem_cons,List.not_mem_nil,or_false]at hn
    rcases hn with rfl|rfl|rfl<;>omega
   ·cases hn
  ·split at hn
   ·simp only[List.mem_cons,List.not_mem_nil,or_false]at hn
    rcases hn with rfl|rfl|rfl<;>omega
   ·cases hn
theorem zoo:zkE.Ok Tryz.prog 38:=by
  refine zvI ⟨zmK,trivial⟩ ?_
  rintro⟨p,t,i⟩ w ⟨hT,⟨hw0,hw1,hst⟩,hi,hsz⟩ w1 hd
  dsimp only at hT hw0 hw1 hst hi hsz⊢
  have hcw:w.cell? ⟨p.q,4,none⟩=some (.int .i64 t.w):=by rw[za hT.box];rfl
  have hq:(i:Int) / t.w<=1048576:=by
    have h1:(i:Int) / t.w<=(i:Int):=Int.ediv_le_self _ (by omega)
    omega
  have hq0:0<=(i:Int) / t.w:=Int.ediv_nonneg (by omega) (by omega)
  have hr0:0<=(i:Int)%t.w:=Int.emod_nonneg _ (by omega)
  have hr1:(i:Int)%t.w<t.w:=Int.emod_lt_of_pos _ hw0
  refine⟨_,hcw,by omega,hw0,zd (by omega) (by omega),zd (by omega) (by omega),_,hcw,by omega,hw0,zd (by omega) (by omega),?_⟩
  intro b w2 hn
  have e02:=Ext.trans hd.ext hn.ext
  have hm:=Made.box (s:=1) (n:=2) hn (Ext.refl _) rfl (by unfold maxLen;decide)
  refine⟨hn.ext,⟨p,t,72,some ⟨b,0,none⟩,2,[(i:Int) / t.w+1,(i:Int)%t.w+1]⟩,rfl,⟨hT.ext e02,hm.row,hsz,by show 2<=16;decide,?_⟩,?_⟩
  ·intro n hn
   simp only[List.mem_cons,List.not_mem_nil,or_false]at hn
   rcases hn with rfl|rfl<;>omega
  rintro⟨B3,q3,a3,c3⟩ w3 hO
  obtain rfl:B3=p.B:=hO.b
  obtain rfl:q3=p.q:=hO.q
  dsimp only at hO⊢
  refine⟨rfl,hO.is.old (k:=1) (by decide),hO.is.free 1,fun w4 hs=>⟨_,rfl,((TeOut.ext hT e02).trans hO).trans (zek hO.is hs rfl rfl)⟩⟩
set_option maxRecDepth 2000 in
theorem znJ:zkA.Ok Tryz.prog 34:=by
  refine zuD ⟨zmK,trivial⟩ ?_
  rintro⟨p,t,st⟩ w ⟨hT,hst,hsz⟩ b w1 hn
  dsimp only at hT hst hsz⊢
  have hm:=Made.box (s:=1) (n:=1) hn (Ext.refl _) rfl (by unfold maxLen;decide)
  have add:∀{w2 w3:World} {a:Option Addr} {n c b:Nat} {l news:List Int},Made w w2 3 1 a n (l.map (Value.int .i64)) c->n<=16->news.length<=3->New w2 (.cells (news.map (Value.int .i64)).toArray 3) b w3->
   ∃a' c' w4,zA Tryz.prog #[61,61] 61 (.slice a n c) (.slice (some ⟨b,0,none⟩) news.length news.length) w3 a' (n+news.length) c' w4/\KO w3 w4/\Made w w4 3 1 a' (n+news.length) ((l++news).map (Value.int .i64)) c':=by
    intro w2 w3 a n c b l news hm hn16 hl3 hn
    obtain⟨a',c',w4,hrun,hko,hm4,_⟩:=hm.pushN (P:=Tryz.prog) (ty:=61) zhv (by decide) (m:=news.length) (news:=news.map (Value.int .i64)) hn (by simp) (zk5 _ _) (by unfold maxLen;omega) (.inr (by omega))
    rw[<-List.map_append]at hm4
    exact⟨a',c',w4,hrun,hko,hm4⟩
  refine⟨⟨(0,some ⟨b,0,none⟩,1),rfl,rfl,Nat.zero_le _,hm⟩,?_⟩
  rintro _ ⟨i,a,c⟩ w2 ⟨hi,hm2⟩
  dsimp only at hi hm2⊢
  have hal:=zh0 st i
  refine zb (fun h=> ?_) (fun h=> ?_)
  ·have hlt:i<4:=by have:=of_decide_eq_true h;omega
   have hA:=zmg st i
   refine⟨i,rfl,hlt,[1,3,4,7].getD i 0,?_,zd (by omega) (by omega),?_⟩
   ·rcases(by omega:i=0\/i=1\/i=2\/i=3)with rfl|rfl|rfl|rfl<;>rfl
   rw[zys hst hlt]
   refine zb (fun h1=> ?_) (fun h1=> ?_)
   ·intro b3 w3 hn3
    rw[if_pos (of_decide_eq_true h1)]at hA
    obtain⟨a',c',w4,hrun,hko,hm4⟩:=add (news:=[[1,3,4,7].getD i 0]) hm2 (by omega) (by simp) hn3
    refine⟨a',c',w4,hrun,hko,zd (by omega) (by omega),(i+1,a',c'),rfl,?_,⟨hlt,?_⟩,by dsimp only;omega⟩
    ·dsimp only;rw[hA,List.length_append];rfl
    ·dsimp only;rw[hA,List.length_append,<-List.append_assoc];exact hm4
   ·rw[if_neg (of_decide_eq_false h1),List.append_nil]at hA
    refine⟨zd (by omega) (by omega),(i+1,a,c),rfl,?_,⟨hlt,?_⟩,by dsimp only;omega⟩
    ·dsimp only;rw[hA]
    ·dsimp only;rw[hA];exact hm2
  ·have hi4:i=4:=by have:=of_decide_eq_false h;omega
   subst hi4
   rw[zx3 hst]
   have hmod:st%256<256:=Nat.mod_lt _ (by decide)
   have hB:Qg st=[0]++qO st 4++(if st%256≠0 then [38,5,((st%256:Nat):Int)]else []):=rfl
   refine⟨⟨zd (by omega) (by omega),zb (fun h1=> ?_) (fun h1=> ?_)⟩,?_⟩
   ·intro b3 w3 hn3
    have h1:st%256≠0:=by have:=bne_iff_ne.1 h1;omega
    rw[if_pos h1]at hB
    obtain⟨a',c',w4,hrun,hko,hm4⟩:=add (news:=[38,5,((st%256:Nat):Int)]) hm2 (by omega) (by simp) hn3
    have hlen:(Qg st).length=1+(qO st 4).length+3:=by rw[hB,List.length_append,List.length_append];rfl
    refine⟨a',c',w4,hrun,hko,(a',c'),by rw[hlen],?_⟩
    rw[hlen,hB];exact hm4
   ·have h1:¬st%256≠0:=by have:=bne_eq_false_iff_eq.1 h1;omega
    rw[if_neg h1,List.append_nil]at hB
    have hlen:(Qg st).length=1+(qO st 4).length:=by rw[hB,List.length_append];rfl
    refine⟨(a,c),by rw[hlen],?_⟩
    rw[hlen,hB];exact hm2
   rintro _ ⟨a3,c3⟩ w3 hm3
   dsimp only at hm3⊢
   rw[zv1]
   have hN:qU st=Qg st++(if st / 4096≠0 then [48,5,((st / 4096:Nat):Int)]else []):=rfl
   have hNl:=zhZ st
   have hBl:(Qg st).length<=11:=by rw[hN,List.length_append]at hNl;omega
   refine⟨⟨zd (by omega) (by omega),zb (fun h1=> ?_) (fun h1=> ?_)⟩,?_⟩
   ·intro b4 w4 hn4
    have h1:st / 4096≠0:=by have:=bne_iff_ne.1 h1;omega
    rw[if_pos h1]at hN
    obtain⟨a',c',w5,hrun,hko,hm5⟩:=add (news:=[48,5,((st / 4096:Nat):Int)]) hm3 (by omega) (by simp) hn4
    have hlen:(qU st).length=(Qg st).length+3:=by rw[hN,List.length_append];rfl
    refine⟨a',c',w5,hrun,hko,(a',c'),by rw[hlen],?_⟩
    rw[hlen,hN];exact hm5
   ·have h1:¬st / 4096≠0:=by have:=bne_eq_false_iff_eq.1 h1;omega
    rw[if_neg h1,List.append_nil]at hN
    refine⟨(a3,c3),by rw[hN],?_⟩
    rw[hN];exact hm3
   rintro _ ⟨a4,c4⟩ w4 hm4
   dsimp only at hm4⊢
   refine⟨⟨p,t,109,a4,c4,qU st⟩,rfl,⟨hT.ext hm4.ext,hm4.row,hsz,by dsimp only;omega,fun n hn=> ?_⟩,?_⟩
   ·have:=zkb hst n hn;omega
   rintro⟨B5,q5,a5,c5⟩ w5 hO
   obtain rfl:B5=p.B:=hO.b
   obtain rfl:q5=p.q:=hO.q
   dsimp only at hO⊢
   refine⟨rfl,hO.is.old (k:=3) (by decide),hO.is.free 3,fun w6 hs=>⟨_,rfl,((TeOut.ext hT hm4.ext).trans hO).trans (zek hO.is hs rfl rfl)⟩⟩
end

section
open Go Go.RowKit Vc Ut Tb Cl
def zae(a b:Gr):Bool:=a.w==b.w&&(a.h==b.h&&(a.x==b.x&&(a.y==b.y&&decide (a.cs=b.cs))))
structure GCs where
  ad:Option Addr
  c:Nat
  cs:List Ce
def zjw:CallSpec where
  G:=GGg
  args:=fun g=> #[ZT g.a1 g.c1 g.g1,ZT g.a2 g.c2 g.g2]
  pre:=fun g w=>qb w g.a1 g.g1.cs/\qb w g.a2 g.g2.cs
  X:=Bool
  res:=fun x=> .bool x
  post:=fun g w x w'=>x=zae g.g1 g.g2/\Ext w w'
def zuj(g:GGg)(_:World):Ann where
  sp:=[]
  loops:=[(4,{
    X:=Nat
    sh:=fun _ i=>[(44, .int .i64 i)]
    inv:=fun _ w0 i w=>i<=g.g1.cs.length/\g.g1.cs.take i=g.g2.cs.take i/\Ext w0 w
    mu:=fun _ _ i _=>g.g1.cs.length - i})]
def zfE:CallSpec where
  G:=GCs
  args:=fun g=> #[.slice g.ad g.cs.length g.c]
  pre:=fun g w=>CellsAt w g.ad (zE g.cs)/\zi g.cs<=16777216
  X:=Unit
  res:=fun _=> .bool false
  post:=fun _ w _ w'=>Ext w w'
def zqQ(g:GCs)(_:World):Ann where
  sp:=[]
  loops:=[(3,{
    X:=Nat
    sh:=fun _ i=>[(7, .int .i64 i),(3, .int .i64 (zi (g.cs.take i)))]
    inv:=fun _ w0 i w=>i<=g.cs.length/\Ext w0 w
    mu:=fun _ _ i _=>g.cs.length - i})]
def qP:Ce:=⟨⟨#[]⟩,77,0,0,false,0⟩
structure GTw where
  ad:Option Addr
  c:Nat
  g:Gr
def znU:CallSpec where
  G:=GTw
  args:=fun g=> #[ZT g.ad g.c g.g]
  pre:=fun g w=>qb w g.ad g.g.cs
  X:=GTw
  res:=fun x=>ZT x.ad x.c x.g
  post:=fun g w x w'=>x.g=g.g/\Made w w' 52 6 x.ad (g.g.cs.length+1) (zE (g.g.cs++[qP])) x.c
structure GKp where
  a1:Option Addr
  c1:Nat
  a2:Option Addr
  c2:Nat
  g:Gr
def zn3:CallSpec where
  G:=GKp
  args:=fun g=> #[ZT g.a1 g.c1 g.g,ZT g.a2 g.c2 g.g]
  pre:=fun g w=>CellsAt w g.a1 (zE (g.g.cs++[qP]))/\g.g.cs.length+1<=g.c1/\qb w g.a2 g.g.cs
  X:=Unit
  res:=fun _=> .bool true
  post:=fun _ w _ w'=>Ext w w'
def zmv:List (Nat×CallSpec):=[(32,zjw)]
def Ze(kn:Bool)(a b:List Ce)(i:Nat):Nat:=100+((List.range i).map fun j=>if kn&&(decide (j<a.length)&&qm (zg a j) (zg b j))then 0 else 60+(zg b j).t.size).sum
def qC(a b:Gr)(wd:Bool):Bool:=zm a wd&&(a.w==b.w&&a.h==b.h)
structure GGw where
  a1:Option Addr
  c1:Nat
  g1:Gr
  a2:Option Addr
  c2:Nat
  g2:Gr
  wd:Bool
def zn2:CallSpec where
  G:=GGw
  args:=fun g=> #[ZT g.a1 g.c1 g.g1,ZT g.a2 g.c2 g.g2, .bool g.wd]
  pre:=fun g w=>UD w/\qb w g.a1 g.g1.cs/\qb w g.a2 g.g2.cs
  X:=Nat
  res:=fun x=> .int .i64 x
  post:=fun g w x w'=>x=Ze (qC g.g1 g.g2 g.wd) g.g1.cs g.g2.cs g.g2.cs.length/\Ext w w'
def zmt:List (Nat×CallSpec):=[(10,Q7),(31,QC)]
def zwZ(g:GGw)(_:World):Ann where
  sp:=zmt
  cuts:=[(1,1,{X:=Unit,sh:=fun _ _=>[(7, .bool (qC g.g1 g.g2 g.wd))],inv:=fun _ w0 _ w=>Ext w0 w})]
  loops:=[(4,{
    X:=Nat
    sh:=fun _ i=>[(9, .int .i64 i),(8, .int .i64 (Ze (qC g.g1 g.g2 g.wd) g.g1.cs g.g2.cs i))]
    inv:=fun _ w0 i w=>i<=g.g2.cs.length/\Ext w0 w
    mu:=fun _ _ i _=>g.g2.cs.length - i})]
end
end Go.Proofs.YtjdohhididpomaaGreatDoor
