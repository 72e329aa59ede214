/-
  The diagrams: restrictions.
-/
import Derived.Test.YtenpmjhnhepfdaaGreatDoorEe
import Derived.Test.YtenpmjhnhepfdaaGreatDoorEa
namespace Go.Proofs.YtenpmjhnhepfdaaGreatDoor
open Go Go.Proofs.Tryz Tr
set_option maxRecDepth 10000
def iL (d:Dia):Prop:=∃t:Tr,t.ok/\d=dia t
open Classical in
noncomputable def chk (d:Dia):Int:=if 4096<d.1.length then 2 else if iL d then 0 else 20
def xx (S:List Tr) (b:Br):Prop:=∃(v:Nat) (l h:Tr),b=⟨(v:Int),(num S l:Int),(num S h:Int)⟩/\inn S l/\inn S h/\(node v l h).ok/\node v l h ∉ S
theorem za {T:List Tr} (hT:Cl T):∀k,k<T.length->Cl (T.take k)/\∃v l h,T[k]? =some (node v l h)/\inn (T.take k) l/\inn (T.take k) h/\(node v l h).ok/\node v l h ∉ T.take k:=by
 induction hT with
 |nil=>intro k hk;simp at hk
 | @snoc S v l h hS hl hh hok hn ih=>
  intro k hk;by_cases hks:k<S.length
  ·obtain ⟨h1,v',l',h',h2,h3,h4,h5,h6⟩:=ih k hks;rw [XW (by omega)];exact ⟨h1,v',l',h',by rw [X5 hks];exact h2,h3,h4,h5,h6⟩
  ·have e:k=S.length:=by simp at hk;omega
   subst e;rw [List.take_left' rfl];exact ⟨hS,v,l,h,by simp,hl,hh,hok,hn⟩
theorem lA {T:List Tr} {k:Nat} {t:Tr} (h:inn (T.take k) t):num T t=num (T.take k) t:=by have:=bT (X:=T.drop k) h;rw [X9] at this;exact this
theorem FP {T:List Tr} (hT:Cl T) (k:Nat):brs (T.take k)=(brs T).take k:=by
 by_cases hk:k<T.length
 ·have h:=rE (X:=T.drop k) (za hT k hk).1;rw [X9] at h;rw [h,List.take_left' (by rw [aQ,XL];omega)]
 ·rw [XK (by omega),XK (by rw [aQ];omega)]
theorem uZ {S0:List Tr} (h0:Cl S0):∀(t:Tr) (S:List Tr),inn S0 t->(∀x∈S,x∈S0)->∀x∈vis t S,x∈S0
 |leaf _,_,_,hs=>hs
 |node v l h,S,ht,hs=>by
  obtain ⟨hl,hh⟩:=h0.inn_kids ht;unfold vis;split
  ·exact hs
  ·intro x hx;rcases XD.1 hx with hx|hx
   ·exact uZ h0 h _ hh (uZ h0 l S hl hs) x hx
   ·rw [XC.1 hx];exact cR ht rfl
theorem JQ {S0:List Tr} (h0:Cl S0) {t:Tr} (ht:inn S0 t):(aO t).length<=S0.length:=
 dG _ _ (cT (h0.inn_ok ht)).nodup (uZ h0 t [] ht (λx hx=>by cases hx))
theorem kf {d:Dia} (hv:iL d) {S:List Tr} (hS:Cl S) {k:Nat} (hk:S.length=k) (hkd:k<d.1.length) (hb:brs S=d.1.take k):xx S d.1[k]:=by
 obtain ⟨t,ht,rfl⟩:=hv;have hT:=cT ht;have hl:k<(aO t).length:=by simpa [dia,aQ] using hkd
 obtain ⟨h1,v,l,h,h2,h3,h4,h5,h6⟩:=za hT k hl;have e:S=(aO t).take k:=pd hS h1 (by rw [hb,FP hT];rfl);subst e;refine ⟨v,l,h,?_,h3,h4,h5,h6⟩;have hg:=lW h2;have e2:(brs (aO t))[k]? =some (dia t).1[k]:=N4 (by simpa [dia] using hkd);rw [e2] at hg;rw [X2 hg];simp only [br];rw [lA h3,lA h4]
theorem ca {S:List Tr} (hS:Cl S) {b:Br} (h:xx S b):0<=b.v/\b.v<=63/\0<=b.l/\0<=b.h/\b.l<=S.length+1/\b.h<=S.length+1/\b.l≠b.h/\b ∉ brs S/\
  b.v<(tr S b.l.toNat).top/\b.v<(tr S b.h.toNat).top:=by
 obtain ⟨v,l,h,rfl,hl,hh,⟨o1,o2,o3,o4,o5,o6⟩,hn⟩:=h;have h1:=cS hl;have h2:=cS hh;refine ⟨by simp,by simp only;omega,by simp,by simp,by simp only;omega,by simp only;omega,λe=>o4 (dK hl hh (by simp only at e;omega)),λhm=>hn ((ig hS hl hh).1 hm),?_,?_⟩
 ·simp only [N5,gy hS hl];omega
 ·simp only [N5,gy hS hh];omega
theorem Bn {S:List Tr} (hS:Cl S) {b:Br} (h1:0<=b.v) (h2:b.v<=63) (h3:0<=b.l) (h4:0<=b.h) (h5:b.l<=S.length+1) (h6:b.h<=S.length+1) (h7:b.l≠b.h) (h8:b ∉ brs S)
  (h9:b.v<(tr S b.l.toNat).top) (h10:b.v<(tr S b.h.toNat).top):xx S b:=by
 have il:inn S (tr S b.l.toNat):=gx (by omega);have ih:inn S (tr S b.h.toNat):=gx (by omega);have nl:=fZ hS (n:=b.l.toNat) (by omega);have nh:=fZ hS (n:=b.h.toNat) (by omega);have e:b=⟨((b.v.toNat:Nat):Int),((num S (tr S b.l.toNat):Nat):Int),((num S (tr S b.h.toNat):Nat):Int)⟩:=by rw [nl,nh];obtain ⟨x,y,z⟩:=b;simp only [Br.mk.injEq];simp only at*;omega
 refine ⟨b.v.toNat,_,_,e,il,ih,⟨by omega,by omega,by omega,λhe=> ?_,hS.inn_ok il,hS.inn_ok ih⟩,λhm=>h8 ?_⟩
 ·rw [he] at nl;omega
 ·rw [e];exact (ig hS il ih).2 hm
def kmS (S:List Tr) (x:Br):Option Value:=if x∈brs S then some (.bool true) else none
theorem FQ {S:List Tr} {b:Br} {S':List Tr} (h:brs S'=brs S++[b]):kmS S'=λx=>if x=b then some (.bool true) else kmS S x:=by funext x;unfold kmS;rw [h];by_cases hx:x=b<;>by_cases hm:x∈brs S<;>simp [hx,hm]
section
variable {F:PH} {v:Γ} {d:Dia}
theorem qE (hd:DV F v d):ae prog 99 #[.agg v] F λr F'=>r=vi (chk d)/\F.le F':=by
 have hd':=hd;obtain ⟨s,rfl,hr⟩:=hd;have hlen:=hr.blen;refine Wu ?_;unfold R9;intro b1 hb1;refine atI ?_;have l1:=ac (.cells #[s.v,vi d.2] 33) hb1;have h1:=aq F b1 (.cells #[s.v,vi d.2] 33);generalize F.set b1 (.cells #[s.v,vi d.2] 33)=G at*;refine ⟨s,by rw [an h1];rfl,λhbig=> ?_,λhbig=> ?_⟩
 ·refine ⟨?_,l1⟩;unfold chk;rw [if_pos (by omega)]
 have hsm:d.1.length<=4096:=by omega
 intro b11 hb11;refine atI ?_;refine ⟨s,by rw [an (ac _ hb11 _ _ h1)];rfl,?_⟩;have fin:∀{F':PH},G.le F'->¬iL d->(vi 20=vi (chk d)/\F.le F'):=λ{F'} hl hn=>by refine ⟨?_,l1.trans hl⟩;unfold chk;rw [if_neg (by omega),if_neg hn]
 refine ⟨λm i F'=>∃(k:Nat) (S:List Tr),i=k/\k<=d.1.length/\m=d.1.length - k/\Cl S/\S.length=k/\brs S=d.1.take k/\G.le F'/\∃o,F' b11=some o/\gP zg (kmS S) o,d.1.length,
  ⟨0,[],rfl,by omega,rfl,.nil,rfl,rfl,ac _ hb11,_,aq _ _ _,gP.empty zg⟩,?_⟩
 rintro m i F1 ⟨k,S,rfl,hk,rfl,hS,hSk,hSb,hle,o,hm,hmo⟩;unfold GK;refine ⟨λhlt=> ?_,λhge=> ?_⟩
 ·have hkd:k<d.1.length:=by omega
  obtain ⟨a,ha,hrow,_⟩:=rdb (hr.le (l1.trans hle)) (N4 hkd);have hbad:¬xx S d.1[k]->¬iL d:=λhn hv=>hn (kf hv hS hSk hkd hSb);have hfits:=ca hS (b:=d.1[k]);have hof:=Bn hS (b:=d.1[k]);refine ⟨a,ha,by omega,hlt,aR d.1[k],rfl,by simpa using hrow,?_⟩;generalize hB:d.1[k]=B at*;intro b5 hb5;refine atI ?_;refine stW (aq _ _ _) rfl rfl (jO _) ?_;rw [aU];have l5:=ac (.cells (aR B) 103) hb5;have h5:=aq F1 b5 (.cells (aR B) 103);replace hm:=l5 _ _ hm;replace hle:=hle.trans l5;generalize F1.set b5 (.cells (aR B) 103)=F2 at*;have c0:F2.cell ⟨b5,0,none⟩=some (vi B.v):=by rw [an h5];rfl
  have c1:F2.cell ⟨b5,1,none⟩=some (vi B.l):=by rw [an h5];rfl
  have c2:F2.cell ⟨b5,2,none⟩=some (vi B.h):=by rw [an h5];rfl
  refine ⟨_,c0,λh=>fin hle (hbad λhf=> ?_),λg1=> ?_⟩
  ·have:=(hfits hf).1;omega
  refine ⟨_,c0,λh=>fin hle (hbad λhf=> ?_),λg2=> ?_⟩
  ·have:=(hfits hf).2.1;omega
  refine ⟨_,c1,λh=>fin hle (hbad λhf=> ?_),λg3=> ?_⟩
  ·have:=(hfits hf).2.2.1;omega
  refine ⟨_,c2,λh=>fin hle (hbad λhf=> ?_),λg4=> ?_⟩
  ·have:=(hfits hf).2.2.2.1;omega
  have hw:IntKind.i64.wrap ((k:Int)+1)=((k+1:Nat):Int):=fC (by omega);rw [hw];refine ⟨_,c1,λh=>fin hle (hbad λhf=> ?_),λg5=> ?_⟩
  ·have:=(hfits hf).2.2.2.2.1;omega
  refine ⟨_,c2,λh=>fin hle (hbad λhf=> ?_),λg6=> ?_⟩
  ·have:=(hfits hf).2.2.2.2.2.1;omega
  refine ⟨_,c1,_,c2,λh=>fin hle (hbad λhf=> ?_),λg7=> ?_⟩
  ·exact (hfits hf).2.2.2.2.2.2.1 h
  have hlk:=eu (F:=F2) mtK hm hmo B false;refine ⟨aR B,rfl,aj h5,decide (B∈brs S),?_,λh=>fin hle (hbad λhf=> ?_),λg8=> ?_⟩
  ·unfold kmS at hlk;by_cases hx:B∈brs S
   ·rw [if_pos hx] at hlk;simpa [hx] using hlk
   ·rw [if_neg hx] at hlk;simpa [hx] using hlk
  ·exact (hfits hf).2.2.2.2.2.2.2.1 (by simpa using h)
  have g8':B ∉ brs S:=by simpa using g8
  have hpre:brs S<+:d.1:=by rw [hSb];exact List.take_prefix _ _
  have il:inn S (tr S B.l.toNat):=gx (by omega);have ih:inn S (tr S B.h.toNat):=gx (by omega);have nl:=fZ hS (n:=B.l.toNat) (by omega);have nh:=fZ hS (n:=B.h.toNat) (by omega);have el:vi B.l=vi (num S (tr S B.l.toNat)):=by rw [nl];congr 1;omega
  have eh:vi B.h=vi (num S (tr S B.h.toNat)):=by rw [nh];congr 1;omega
  refine ⟨_,rfl,aj (hle _ _ h1),_,c1,_,c0,?_⟩;rw [el];refine (qQ (hd'.le (l1.trans hle)) hpre il (by omega)).mono ?_;rintro _ F3 ⟨rfl,l3⟩;refine ⟨_,rfl,au l3 c0,λh=>fin (hle.trans l3) (hbad λhf=> ?_),λg9=> ?_⟩
  ·have:=(hfits hf).2.2.2.2.2.2.2.2.1;omega
  refine ⟨_,rfl,aj ((hle.trans l3) _ _ h1),_,au l3 c2,_,au l3 c0,?_⟩;rw [eh];refine (qQ (hd'.le (l1.trans (hle.trans l3))) hpre ih (by omega)).mono ?_;rintro _ F4 ⟨rfl,l4⟩;refine ⟨_,rfl,au l4 (au l3 c0),au l4 (au l3 c0),λh=>fin ((hle.trans l3).trans l4) (hbad λhf=> ?_),λg10=> ?_⟩
  ·have:=(hfits hf).2.2.2.2.2.2.2.2.2;omega
  have hF:=hof (by omega) (by omega) (by omega) (by omega) (by omega) (by omega) g7 g8' (by omega) (by omega);refine ⟨aR B,rfl,aj (l4 _ _ (l3 _ _ h5)),?_⟩;refine bO mtK (l4 _ _ (l3 _ _ hm)) hmo B _ λo' ho'=> ?_;obtain ⟨v,l,h,e,hl,hh,hok,hn⟩:=hF;have e2:brs (S++[node v l h])=brs S++[B]:=by rw [eY hS hl hh,e]
  rw [<- FQ e2] at ho';have hg11:G b11=none:=hb11;refine ⟨d.1.length - (k+1),by omega,k+1,S++[node v l h],rfl,by omega,rfl,.snoc hS hl hh hok hn,by simp [hSk],?_,aA ((hle.trans l3).trans l4) hg11,o',aq _ _ _,ho'⟩;rw [e2,hSb,XR hkd,hB]
 ·unfold GJ;have hk':k=d.1.length:=by omega
  have hSd:brs S=d.1:=by rw [hSb,hk',XF]
  have cr:F1.cell ⟨b1,1,none⟩=some (vi d.2):=by rw [an (hle _ _ h1)];rfl
  have cs:F1.cell ⟨b1,0,none⟩=some s.v:=by rw [an (hle _ _ h1)];rfl
  have key:∀t,t.ok->d=dia t->S=aO t/\d.2=num S t:=λt ht e=>by subst e;have:=pd hS (cT ht) hSd;exact ⟨this,by rw [this];rfl⟩
  have hrange:iL d->0<=d.2/\d.2<=(d.1.length:Int)+1:=by
   rintro ⟨t,ht,e⟩;obtain ⟨h1,h2⟩:=key t ht e;have h3:inn S t:=by rw [h1];exact cH ht
   have:=cS h3;omega
  refine ⟨_,cr,λh=>fin hle (λhv=>by have:=(hrange hv).1;omega),λg1=> ?_⟩;have hw:IntKind.i64.wrap ((s.len:Int)+1)=((d.1.length+1:Nat):Int):=by rw [hlen];exact fC (by omega)
  refine ⟨_,cr,s,cs,?_⟩;dsimp only;rw [hw];refine ⟨λh=>fin hle (λhv=>by have:=(hrange hv).2;omega),λg2=> ?_⟩;refine ⟨s,cs,?_⟩;intro b98 hb98;refine atI ?_;have l98:=ac (.cells #[s.v,Value.map none] 228) hb98;have h98:=aq F1 b98 (.cells #[s.v,Value.map none] 228);replace hle:=hle.trans l98;generalize F1.set b98 (.cells #[s.v,Value.map none] 228)=F2 at*;refine ⟨_,au l98 cr,?_⟩;have it:inn S (tr S d.2.toNat):=gx (by omega);have nt:=fZ hS (n:=d.2.toNat) (by omega);have et:vi d.2=vi (num S (tr S d.2.toNat)):=by rw [nt];congr 1;omega
  dsimp only;rw [et];refine (lH (by rw [an h98];rfl) (by rw [hSd];exact hr.le (l1.trans hle)) hS it (by omega)).mono ?_;rintro _ F3 ⟨w,rfl,hw,l3⟩;refine ⟨_,rfl,?_⟩;intro b6 hb6;refine atI ?_;refine stW (aq _ _ _) hw.size rfl hw.st ?_;rw [aU];have l6:=ac (.cells w 33) hb6;have h6:=aq F3 b6 (.cells w 33);replace hle:=(hle.trans l3).trans l6;replace hw:=hw.le l6;generalize F3.set b6 (.cells w 33)=F4 at*;refine ⟨w,hw.size,aj h6,_,rfl,aj (hle _ _ h1),?_⟩;have hok:=hS.inn_ok it
  refine (D9 hw (hd'.le (l1.trans hle)) (by
   have:=JQ hS it;simp only [dia,aQ]
   omega)).mono ?_
  rintro _ F5 ⟨rfl,l5⟩;refine ⟨_,rfl,λh=>fin (hle.trans l5) ?_,λh=> ?_⟩
  ·rintro ⟨t,ht,e⟩;obtain ⟨k1,k2⟩:=key t ht e;have:tr S d.2.toNat=t:=by rw [k2,N5];exact gy hS (by rw [k1];exact cH ht)
   rw [this,<- e] at h;simp at h
  ·refine ⟨?_,l1.trans (hle.trans l5)⟩;have:dia (tr S d.2.toNat)=d:=by simpa using h
   unfold chk;rw [if_neg (by omega),if_pos ⟨_,hok,this.symm⟩]
end
theorem BD.weaken {F0 F1 F:PH} {b m:Nat} {S:List Tr} (h:BD F1 F b m S) (hl:F0.le F1):BD F0 F b m S:=by obtain ⟨h1,h2,h3,h4,⟨s,h5,h6,h7⟩,h8⟩:=h;exact ⟨hl.trans h1,h2,aY hl h3,aY hl h4,⟨s,h5,h6,λa ha=>aY hl (h7 a ha)⟩,h8⟩
theorem BD.upto {F0 F G:PH} {b m:Nat} {S:List Tr} (h:BD F0 F b m S) (hl:F.le G):BD F0 G b m S:=by obtain ⟨h1,h2,h3,h4,⟨s,h5,h6,h7⟩,o,h8,h9⟩:=h;exact ⟨h1.trans hl,h2,h3,h4,⟨s,hl _ _ h5,h6.upto hl,h7⟩,o,hl _ _ h8,h9⟩
theorem BD.grow {F0 G F:PH} {b m x:Nat} {o:Obj} {S:List Tr} (h:BD F0 G b m S) (hl:G.le F) (hx:G x=none) (ho:F x=some o):BD (F0.set x o) F b m S:=by
 obtain ⟨h1,h2,h3,h4,⟨s,h5,h6,h7⟩,o',h8,h9⟩:=h;refine ⟨λy oy hy=> ?_,h2,?_,?_,⟨s,hl _ _ h5,h6.upto hl,λa ha=> ?_⟩,o',hl _ _ h8,h9⟩
 ·by_cases hyx:y=x
  ·subst hyx;rw [aq] at hy;rw [ho];exact hy
  ·rw [aC _ _ hyx] at hy;exact hl _ _ (h1 _ _ hy)
 ·rw [aC _ _ (aJ hx h5)];exact h3
 ·rw [aC _ _ (aJ hx h8)];exact h4
 ·obtain ⟨cur,hcur⟩:=h6.elem ha;rw [aC _ _ (aJ hx hcur)];exact h7 a ha
structure AP where
 b3:Nat
 b6:Nat
 b2:Nat
 b7:Nat
 b5:Nat
 bb:Nat
 mm:Nat
 b9:Nat
 opv:Value
 o:Op3
 dd:Nat->Dia
 SS:Nat->List Tr
noncomputable def AP.res (p:AP) (t:Nat->Tr):Tr:=ap p.o (t 0) (t 1) (t 2)
def AP.inK (p:AP) (t:Nat->Tr):Prop:=inn (p.SS 0) (t 0)/\inn (p.SS 1) (t 1)/\inn (p.SS 2) (t 2)
structure AF (p:AP):Prop where
 cl:∀i,i<3->Cl (p.SS i)
 pre:∀i,i<3->brs (p.SS i)<+:(p.dd i).1
 fit:∀i,i<3->Fit ((p.dd i).1.length+2)
theorem i7 {F G:PH} (h:F.le G) {a:Addr} {cs:Γ} (hr:F.row a cs):G.row a cs:=λi hi=>au h (hr i hi)
theorem FR (t:Tr) (S:List Tr):S.length<=(vis t S).length:=by
 induction t generalizing S with
 |leaf b=>exact XA _
 |node v l h ihl ihh=>
  unfold vis;split
  ·exact XA _
  ·have h1:=ihl S;have h2:=ihh (vis l S);simp only [N3];omega
theorem JR (S:List Tr) (t:Tr):S.length<=(dR S t).length:=by unfold dR;split<;>simp
def szs (t:Nat->Tr):Nat:=(t 0).sz+(t 1).sz+(t 2).sz
structure Wi (p:AP) (t:Nat->Tr) (v:Nat):Prop where
 hv:v=bi (t 0) (t 1) (t 2)
 lt:v<64
 il:p.inK (λi=>lo v (t i))
 ih:p.inK (λi=>hi v (t i))
 sl:szs (λi=>lo v (t i))<szs t
 sh:szs (λi=>hi v (t i))<szs t
 tl:v<(p.res (λi=>lo v (t i))).top
 th:v<(p.res (λi=>hi v (t i))).top
 ol:(p.res (λi=>lo v (t i))).ok
 oh:(p.res (λi=>hi v (t i))).ok
 res:p.res t=mk v (p.res (λi=>lo v (t i))) (p.res (λi=>hi v (t i)))
theorem Wj {p:AP} (hf:AF p) {t:Nat->Tr} (ht:p.inK t) (hv:bi (t 0) (t 1) (t 2)<64):Wi p t (bi (t 0) (t 1) (t 2)):=by
 have h0:=(hf.cl 0 (by omega)).inn_ok ht.1;have h1:=(hf.cl 1 (by omega)).inn_ok ht.2.1;have h2:=(hf.cl 2 (by omega)).inn_ok ht.2.2;have hs:=B4 (o:=p.o) h0 h1 h2 hv;have v1:bi (t 0) (t 1) (t 2)<=(t 0).top:=by unfold bi;omega
 have v2:bi (t 0) (t 1) (t 2)<=(t 1).top:=by unfold bi;omega
 have v3:bi (t 0) (t 1) (t 2)<=(t 2).top:=by unfold bi;omega
 have hcase:bi (t 0) (t 1) (t 2)=(t 0).top\/bi (t 0) (t 1) (t 2)=(t 1).top\/bi (t 0) (t 1) (t 2)=(t 2).top:=by unfold bi;omega
 generalize hw:bi (t 0) (t 1) (t 2)=v at*;have nl:∀{t:Tr},v=t.top->t.isL=false:=λ{t} e=>by
  cases t with
  |leaf b=>simp only [top] at e;omega
  |node _ _ _=>rfl
 obtain ⟨al1,al2,al3,al4,al5⟩:=cY h0 v1;obtain ⟨bl1,bl2,bl3,bl4,bl5⟩:=cY h1 v2;obtain ⟨dl1,dl2,dl3,dl4,dl5⟩:=cY h2 v3;obtain ⟨ah1,ah2,ah3,ah4,ah5⟩:=cZ h0 v1;obtain ⟨bh1,bh2,bh3,bh4,bh5⟩:=cZ h1 v2;obtain ⟨dh1,dh2,dh3,dh4,dh5⟩:=cZ h2 v3;obtain ⟨l1,l2,l3⟩:=gQ (o:=p.o) al1 bl1 dl1;obtain ⟨g1,g2,g3⟩:=gQ (o:=p.o) ah1 bh1 dh1
 refine ⟨hw.symm,hv,⟨(hf.cl 0 (by omega)).inn_lo ht.1 v,(hf.cl 1 (by omega)).inn_lo ht.2.1 v,(hf.cl 2 (by omega)).inn_lo ht.2.2 v⟩,
  ⟨(hf.cl 0 (by omega)).inn_hi ht.1 v,(hf.cl 1 (by omega)).inn_hi ht.2.1 v,(hf.cl 2 (by omega)).inn_hi ht.2.2 v⟩,?_,?_,?_,?_,l1,g1,hs⟩
 ·simp only [szs];rcases hcase with e|e|e
  ·have:=al4 e.symm (nl e);omega
  ·have:=bl4 e.symm (nl e);omega
  ·have:=dl4 e.symm (nl e);omega
 ·simp only [szs];rcases hcase with e|e|e
  ·have:=ah4 e.symm (nl e);omega
  ·have:=bh4 e.symm (nl e);omega
  ·have:=dh4 e.symm (nl e);omega
 ·have:=al2 hv;have:=bl2 hv;have:=dl2 hv;unfold bi at l2;show v<(ap p.o (lo v (t 0)) (lo v (t 1)) (lo v (t 2))).top;omega
 ·have:=ah2 hv;have:=bh2 hv;have:=dh2 hv;unfold bi at g2;show v<(ap p.o (hi v (t 0)) (hi v (t 1)) (hi v (t 2))).top;omega
theorem lC {S:List Tr} {t:Tr}:((num S t:Int)<2)↔t.isL=true:=by
 constructor
 ·intro h;exact vG (S:=S) (by omega)
 ·intro h;cases t with
  |leaf b=>have:=dx S b;omega
  |node _ _ _=>cases h
section
end
def xy {α:Type} (a b c:α):Nat->α
 |0=>a
 |1=>b
 |_=>c
theorem gN {F:PH} {b e1:Nat} {c4:Γ} {K:Γ->Ψ} {G:PH} {d:Dia} {cs:Γ} (hd:DV G cs d) (h4:F b=some (.cells c4 e1 (0,0))) (hc4:c4.size=2) (hk:K cs (F.set b (.cells cs e1))):
  cs.size=2/\(∀v∈cs.toList,ai v)/\∃c e,F (Addr.mk b 0 none).block=some (.cells c e (0,0))/\(Addr.mk b 0 none).spot=none/\(Addr.mk b 0 none).off+2<=c.size/\
   atF (F.set (Addr.mk b 0 none).block (.cells (wr c (Addr.mk b 0 none).off cs.toList) e)) λF=>∃vres:Γ,vres.size=2/\F.row (Addr.mk b 0 none) vres/\K vres F:=
 stW h4 hd.size hc4 hd.st ⟨cs,hd.size,aj (aq _ _ _),hk⟩
def eH (F:PH) (a:Nat):PH:=λx=>if x=a then none else F x
theorem Bo (F:PH) (a:Nat):(eH F a).le F:=λx o h=>by
 unfold eH at h;split at h
 ·cases h
 ·exact h
theorem gc {F:PH} {a x:Nat} (h:x≠a):eH F a x=F x:=by simp [eH,h]
theorem zc (F:PH) (a:Nat):eH F a a=none:=by simp [eH]
theorem fL {F G:PH} {a:Nat} (h:F.le G) (ha:F a=none):F.le (eH G a):=λx o hx=>by
 have h1:x≠a:=λe=>by rw [e,ha] at hx;cases hx
 rw [gc h1];exact h _ _ hx
theorem ae.avoid {P:Program} {f:FuncId} {args:Γ} {F:PH} {x:Nat} {o:Obj} {R:Value->Ψ} (h:ae P f args (eH F x) R) (hx:F x=some o):
  ae P f args F λv F'=>∃G,R v G/\G.le F'/\F' x=some o/\G x=none:=
 (h.upon (Bo F x)).mono λv F' ⟨G,hr,hl,hb⟩=>by obtain ⟨h1,h2⟩:=hb x o (zc F x) hx;exact ⟨G,hr,hl,h1,h2⟩
theorem qF {F G F':PH} {x:Nat} {o:Obj} (h:(eH F x).le G) (hl:G.le F') (hx:F' x=some o) (hF:F x=some o):F.le F':=λb ob hb=>by
 by_cases hbx:b=x
 ·subst hbx;rw [hF] at hb;rw [hx];exact hb
 ·exact hl _ _ (h _ _ (by rw [gc hbx];exact hb))
section
end
abbrev i8:Dia:=([],0)
abbrev DR:=Dia×Int
open Classical in
noncomputable def tre (d:Dia):Tr:=if h:iL d then h.choose else leaf false
theorem u0 {t:Tr} (h:t.ok):tre (dia t)=t:=by have hv:iL (dia t):=⟨t,h,rfl⟩;unfold tre;rw [dif_pos hv];exact (KE h hv.choose_spec.1 hv.choose_spec.2).symm
theorem Ra {d:Dia} (h:chk d=0):(tre d).ok/\d=dia (tre d)/\d.1.length<=4096:=by
 unfold chk at h;split at h
 ·cases h
 ·rename_i hl;split at h
  ·rename_i hv;unfold tre;rw [dif_pos hv];exact ⟨hv.choose_spec.1,hv.choose_spec.2,by omega⟩
  ·cases h
theorem Bp {t:Tr} (h:t.ok) (hl:(aO t).length<=4096):chk (dia t)=0:=by unfold chk;rw [if_neg (by simp only [dia,aQ];omega),if_pos ⟨t,h,rfl⟩]
theorem FS {d:Dia} (h:chk d=0):(aO (tre d)).length<=4096:=by obtain ⟨_,h2,h3⟩:=Ra h;rw [h2] at h3;simpa [dia,aQ] using h3
def lim (d:Dia):DR:=if 4096<d.1.length then (i8,2) else (d,0)
abbrev Op2:=Bool->Bool->Bool
def DRV (F:PH) (v:Value) (x:DR):Prop:=∃w,v=.tuple #[.agg w,vi x.2]/\DV F w x.1
theorem DRV.le {F G:PH} {v:Value} {x:DR} (h:DRV F v x) (hl:F.le G):DRV G v x:=by obtain ⟨w,h1,h2⟩:=h;exact ⟨w,h1,h2.le hl⟩
theorem DV.none (F:PH):DV F zD i8:=⟨Sl.nil,rfl,RdS.nil F 3⟩
theorem u6 {F:PH} {v:Γ} {d:Dia} (hd:DV F v d):ae prog 160 #[.agg v] F λr F'=>DRV F' r (lim d)/\F.le F':=by
 have hd':=hd;obtain ⟨s,rfl,hr⟩:=hd;have hlen:=hr.blen;refine Sc ?_;unfold Mn;intro b1 hb1;refine atI ?_;have l1:=ac (.cells #[s.v,vi d.2] 33) hb1;have h1:=aq F b1 (.cells #[s.v,vi d.2] 33);generalize F.set b1 (.cells #[s.v,vi d.2] 33)=F1 at*;intro b2 hb2;refine atI ?_;have l2:=l1.trans (ac (.cells zD 33) hb2);have n12:b1≠b2:=aJ hb2 h1;have f2:F b2=none:=aY l1 hb2;refine ⟨s,by rw [an ((aC _ _ n12).trans h1)];rfl,λh=> ?_,λh=> ?_⟩
 ·refine gN (K:=λvres F'=>DRV F' (.tuple #[.agg vres,vi 2]) (lim d)/\F.le F') (DV.none F) (aq _ _ _) rfl ⟨?_,aA l2 f2⟩;unfold lim;rw [if_pos (by omega)];exact ⟨_,rfl,DV.none _⟩
 ·refine ⟨#[s.v,vi d.2],rfl,aj ((aC _ _ n12).trans h1),?_⟩;refine gN (K:=λvres F'=>DRV F' (.tuple #[.agg vres,vi 0]) (lim d)/\F.le F') hd' (aq _ _ _) rfl ⟨?_,aA l2 f2⟩;unfold lim;rw [if_neg (by omega)];exact ⟨_,rfl,hd'.le (aA l2 f2)⟩
section
end
theorem DV.beside {F G:PH} {x:Nat} {w:Γ} {d:Dia} (h:DV G w d) (hl:G.le F) (hx:G x=Option.none):DV (eH F x) w d:=
 h.le λy ob hy=>by rw [gc (λe=>by rw [e,hx] at hy;cases hy)];exact hl _ _ hy
theorem FT {f:FuncId} {args:Γ} {F:PH} {x:Nat} {o:Obj} {y:DR} (h:ae prog f args (eH F x) λr F'=>DRV F' r y/\(eH F x).le F') (hx:F x=some o):
  ae prog f args F λr F'=>∃w,r=.tuple #[.agg w,vi y.2]/\(∃G,DV G w y.1/\G.le F'/\G x=none)/\F.le F'/\F' x=some o:=
 (ae.avoid h hx).mono λr F' ⟨G,⟨⟨w,hr,hw⟩,lg⟩,lG,q,g⟩=>⟨w,hr,⟨G,hw,lG,g⟩,qF lg lG q hx,q⟩
theorem gf {f:FuncId} {args:Γ} {F:PH} {x:Nat} {o:Obj} {d:Dia} (h:ae prog f args (eH F x) λr F'=>∃w,r=.agg w/\DV F' w d/\(eH F x).le F') (hx:F x=some o):
  ae prog f args F λr F'=>∃w,r=.agg w/\(∃G,DV G w d/\G.le F'/\G x=none)/\F.le F'/\F' x=some o:=
 (ae.avoid h hx).mono λr F' ⟨G,⟨w,hr,hw,lg⟩,lG,q,g⟩=>⟨w,hr,⟨G,hw,lG,g⟩,qF lg lG q hx,q⟩
theorem Rb {F G F0:PH} {b e1:Nat} {c4:Γ} {y:DR} {w:Γ} (hw:DV G w y.1) (hl:G.le F) (hg:G b=none) (h4:F b=some (.cells c4 e1 (0,0))) (hc4:c4.size=2) (h0:F0.le F) (hb:F0 b=none):
  w.size=2/\(∀v∈w.toList,ai v)/\∃c e,F (Addr.mk b 0 none).block=some (.cells c e (0,0))/\(Addr.mk b 0 none).spot=none/\(Addr.mk b 0 none).off+2<=c.size/\
   atF (F.set (Addr.mk b 0 none).block (.cells (wr c (Addr.mk b 0 none).off w.toList) e)) λF=>∃vres:Γ,vres.size=2/\F.row (Addr.mk b 0 none) vres/\DRV F (.tuple #[.agg vres,vi y.2]) y/\F0.le F:=
 gN (K:=λvres F'=>DRV F' (.tuple #[.agg vres,vi y.2]) y/\F0.le F') hw h4 hc4 ⟨⟨_,rfl,hw.le (aA hl hg)⟩,aA h0 hb⟩
theorem zd {F F0:PH} {b e1:Nat} {c4:Γ} {er:Int} (h4:F b=some (.cells c4 e1 (0,0))) (hc4:c4.size=2) (h0:F0.le F) (hb:F0 b=none):
  (zD:Γ).size=2/\(∀v∈(zD:Γ).toList,ai v)/\∃c e,F (Addr.mk b 0 none).block=some (.cells c e (0,0))/\(Addr.mk b 0 none).spot=none/\(Addr.mk b 0 none).off+2<=c.size/\
   atF (F.set (Addr.mk b 0 none).block (.cells (wr c (Addr.mk b 0 none).off (zD:Γ).toList) e)) λF=>∃vres:Γ,vres.size=2/\F.row (Addr.mk b 0 none) vres/\DRV F (.tuple #[.agg vres,vi er]) (i8,er)/\F0.le F:=
 gN (K:=λvres F'=>DRV F' (.tuple #[.agg vres,vi er]) (i8,er)/\F0.le F') (DV.none F) h4 hc4 ⟨⟨_,rfl,DV.none _⟩,aA h0 hb⟩
abbrev i9:Op2:=λx y=>x && y
abbrev oOr:Op2:=λx y=>x || y
abbrev ja:Op2:=λx y=> !(x==y)
section
variable {F:PH} {v w u:Γ} {a b c:Dia}
abbrev tv (v:Nat):Tr:=node v (leaf false) (leaf true)
theorem OL (v:Nat):dia (tv v)=([⟨(v:Int),0,1⟩],2):=by
 have e:aO (tv v)=[tv v]:=by simp [aO,vis,tv]
 unfold dia;rw [e];simp [brs,br,num,tv]
theorem Rc {v:Nat} (h:v<64):(tv v).ok:=⟨h,h,h,by simp,trivial,trivial⟩
theorem sW (x:Bool):ae prog 30 #[.bool x] F λr F'=>∃w,r=.agg w/\DV F' w (dia (leaf x))/\F.le F':=by
 refine Wr ?_;unfold R7;intro b2 hb2;refine atI ?_;have l2:=ac (.cells zD 33) hb2;have q2:=aq F b2 (.cells zD 33);refine ⟨λh=> ?_,λh=> ?_⟩
 ·subst h;have hd:∀G:PH,DV G #[Value.slice none 0 0,vi 1] (dia (leaf true)):=λG=>⟨Sl.nil,rfl,RdS.nil G 3⟩;exact gN (K:=λvres F'=>∃w,Value.agg vres=.agg w/\DV F' w (dia (leaf true))/\F.le F') (hd F) q2 rfl ⟨_,rfl,hd _,aA l2 hb2⟩
 ·subst h;have hd:∀G:PH,DV G zD (dia (leaf false)):=λG=>⟨Sl.nil,rfl,RdS.nil G 3⟩;exact gN (K:=λvres F'=>∃w,Value.agg vres=.agg w/\DV F' w (dia (leaf false))/\F.le F') (hd F) q2 rfl ⟨_,rfl,hd _,aA l2 hb2⟩
def sX (v:Int):DR:=if v<0\/63<v then (i8,1) else (dia (tv v.toNat),0)
end
theorem qG (c:Cf) {v w:Nat} (h:v≠w) (b:Bool):(c.set w b) v=c v:=by simp [Cf.set,h]
theorem FU (w:Nat) (b:Bool):∀(t:Tr),t.ok->∃u:Tr,u.ok/\t.top<=u.top/\∀c,u.ev c=t.ev (c.set w b)
 |leaf x,_=>⟨leaf x,trivial,XA _,λ_=>rfl⟩
 |node v l h,⟨h0,h1,h2,h3,h4,h5⟩=>by
  obtain ⟨ul,l1,l2,l3⟩:=FU w b l h4;obtain ⟨uh,g1,g2,g3⟩:=FU w b h h5;by_cases hv:v=w
  ·subst hv;cases b with
   |true=>exact ⟨uh,g1,by show v<=uh.top;omega,λc=>by rw [g3];simp [Tr.ev,Cf.set]⟩
   |false=>exact ⟨ul,l1,by show v<=ul.top;omega,λc=>by rw [l3];simp [Tr.ev,Cf.set]⟩
  ·refine ⟨mk v ul uh,xZ h0 (by omega) (by omega) l1 g1,(show v<=(mk v ul uh).top from HE (by omega)),λc=> ?_⟩;rw [B3,l3,g3];simp only [Tr.ev,qG c hv b]
noncomputable def fx (w:Nat) (b:Bool) (t:Tr):Tr:=can λc=>t.ev (c.set w b)
theorem du (w:Nat) (b:Bool) {t:Tr} (ht:t.ok):(fx w b t).ok/\t.top<=(fx w b t).top/\∀c,(fx w b t).ev c=t.ev (c.set w b):=by obtain ⟨u,h1,h2,h3⟩:=FU w b t ht;have:fx w b t=u:=jo h1 h3;rw [this];exact ⟨h1,h2,h3⟩
theorem jH (w:Nat) (b x:Bool):fx w b (leaf x)=leaf x:=jo trivial λ_=>rfl
theorem u7 {w:Nat} {b:Bool} {v:Nat} {l h:Tr} (hk:(node v l h).ok):fx w b (node v l h)=if v=w then (if b=true then fx w b h else fx w b l) else mk v (fx w b l) (fx w b h):=by
 obtain ⟨h0,h1,h2,h3,h4,h5⟩:=hk;obtain ⟨l1,l2,l3⟩:=du w b h4;obtain ⟨g1,g2,g3⟩:=du w b h5;by_cases hv:v=w
 ·subst hv;rw [if_pos rfl];cases b with
  |true=>exact jo g1 λc=>by rw [if_pos rfl,g3];simp [Tr.ev,Cf.set]
  |false=>exact jo l1 λc=>by rw [if_neg (by simp),l3];simp [Tr.ev,Cf.set]
 ·rw [if_neg hv];refine jo (xZ h0 (by omega) (by omega) l1 g1) λc=> ?_;rw [B3,l3,g3];simp only [Tr.ev,qG c hv b]
theorem BD.pin {F0 F:PH} {b m x:Nat} {c:Γ} {e:TypeId} {fr:Nat×Nat} {S:List Tr} (h:BD F0 F b m S) (hx:F x=some (.cells c e fr)) (h1:e≠228) (h2:e≠103):BD (F0.set x (.cells c e fr)) F b m S:=by
 obtain ⟨k1,k2,k3,k4,⟨s,k5,k6,k7⟩,o',k8,k9⟩:=h;refine ⟨λy oy hy=> ?_,k2,?_,?_,⟨s,k5,k6,λa ha=> ?_⟩,o',k8,k9⟩
 ·by_cases hyx:y=x
  ·subst hyx;rw [aq] at hy;rw [hx];exact hy
  ·rw [aC _ _ hyx] at hy;exact k1 _ _ hy
 ·rw [aC _ _ (λe'=>by rw [e',hx] at k5;simp at k5;exact h1 k5.2.1)];exact k3
 ·rw [aC _ _ (λe'=>by
   obtain ⟨es,cl,L,rfl,_⟩:=k9
   rw [e',hx] at k8;simp at k8)];exact k4
 ·obtain ⟨cur,hcur⟩:=k6.elem ha;rw [aC _ _ (λe'=>by rw [e',hx] at hcur;simp at hcur;exact h2 hcur.2.1)];exact k7 a ha
theorem BD.setCells {F0 F:PH} {b m x:Nat} {c:Γ} {e:TypeId} {fr:Nat×Nat} {o:Obj} {S:List Tr} (h:BD F0 F b m S) (h0:F0 x=none) (hx:F x=some (.cells c e fr)) (h1:e≠228) (h2:e≠103):BD F0 (F.set x o) b m S:=by
 obtain ⟨k1,k2,k3,k4,⟨s,k5,k6,k7⟩,o',k8,k9⟩:=h;refine ⟨aA k1 h0,k2,k3,k4,⟨s,?_,k6.keep λa ha=>aC _ _ (λe'=> ?_),k7⟩,o',?_,k9⟩
 ·rw [aC _ _ (λe'=>by rw [e',hx] at k5;simp at k5;exact h1 k5.2.1)];exact k5
 ·obtain ⟨cur,hcur⟩:=k6.elem ha;rw [e',hx] at hcur;simp at hcur;exact h2 hcur.2.1
 ·rw [aC _ _ (λe'=>by
   obtain ⟨es,cl,L,rfl,_⟩:=k9
   rw [e',hx] at k8;simp at k8)];exact k8
noncomputable def fxA (w:Nat) (b:Bool) (T S:List Tr) (k:Nat):Ξ:=(List.range (T.length+2)).map λj=>if j<k+2 then vi (num S (fx w b (tr T j))) else vi 0
theorem u9 {w:Nat} {b:Bool} {T S:List Tr} {k j:Nat} (h:j<k+2) (hk:k<=T.length):(fxA w b T S k)[j]? =some (vi (num S (fx w b (tr T j)))):=by unfold fxA;rw [XM,Yi (by omega)];simp [h]
theorem FV (w:Nat) (b:Bool) (T:List Tr):(List.replicate (T.length+2) (vi 0)).set 1 (vi 1)=fxA w b T [] 0:=by
 apply Yd;intro j;unfold fxA;rw [XM,YL];have h0:tr T 0=leaf false:=rfl;have h1:tr T 1=leaf true:=rfl;by_cases hj:j<T.length+2
 ·rw [Yi hj];simp only [Yj,List.length_replicate,List.getElem?_replicate]
  match j,hj with
  |0,_=>simp [h0,jH,num]
  |1,_=>simp [h1,jH,num]
  |j+2,hj=>rw [if_neg (by omega),if_pos hj,if_neg (by omega)]
 ·have e2:(List.range (T.length+2))[j]? =none:=by simp;omega
  rw [e2];simp only [List.getElem?_replicate,Option.map_none];rw [if_neg (by omega),if_neg (by omega)]
theorem FW {w:Nat} {b:Bool} {T S S':List Tr} {k:Nat} (hk:k<T.length) (hn:∀j,j<k+2->num S' (fx w b (tr T j))=num S (fx w b (tr T j))):
  (fxA w b T S k).set (k+2) (vi (num S' (fx w b (tr T (k+2)))))=fxA w b T S' (k+1):=by
 apply Yd;intro j;unfold fxA;rw [YL,XM,XM];by_cases hj:j<T.length+2
 ·rw [Yi hj];simp only [Yj,XH,Ym];by_cases h1:k+2=j
  ·subst h1;simp;omega
  ·rw [if_neg h1];by_cases h2:j<k+2
   ·rw [if_pos h2,if_pos (by omega),hn j h2]
   ·rw [if_neg h2,if_neg (by omega)]
 ·have e2:(List.range (T.length+2))[j]? =none:=by simp;omega
  rw [e2];simp only [Option.map_none];rw [if_neg (by omega)]
section
variable {F:PH} {v:Γ} {t:Tr}
theorem ze (hd:DV F v (dia t)) (ht:t.ok) (hl:(aO t).length<=4096) (w:Nat) (x:Bool):ae prog 161 #[.agg v,vi w,.bool x] F λr F'=>∃u,r=.agg u/\DV F' u (dia (fx w x t))/\F.le F':=by
 have hT:=cT ht;obtain ⟨s,rfl,hr⟩:=hd;have hr':RdS F s 3 (aS (brs (aO t))):=hr;have hlen:=hr'.blen;rw [aQ] at hlen;refine Sd ?_;unfold Mo;intro b3 hb3;refine atI ?_;have l3:=ac (.cells #[s.v,vi (dia t).2] 33) hb3;have q3:=aq F b3 (.cells #[s.v,vi (dia t).2] 33);generalize F.set b3 (.cells #[s.v,vi (dia t).2] 33)=F3 at*;intro b6 hb6;refine atI ?_;have f6:F b6=none:=aY l3 hb6;have lx:=ac (.cells zD 33) hb6;have q6:=aq F3 b6 (.cells zD 33);replace q3:=lx _ _ q3;have l6:=l3.trans lx;clear lx;generalize F3.set b6 (.cells zD 33)=E at*;refine (ox E).mono ?_;rintro _ G ⟨bb,mm,rfl,hne,bd⟩;have hw2:IntKind.i64.wrap ((s.len:Int)+2)=(((aO t).length+2:Nat):Int):=by rw [hlen,aH (by omega) (by omega)];omega
 refine ⟨_,rfl,s,by rw [an (bd.le _ _ q3)];rfl,?_⟩;dsimp only;rw [hw2];refine cd underlying70 sz3 zr3 rfl (by omega) (Zc _) (by omega) (by omega) ?_;intro g hg;rw [zc1 _ rfl,N5];have Eg:E g=none:=aY bd.le hg;refine ⟨_,rfl,_,rfl,by omega,by simp only;omega,?_⟩;refine qZ (b:=g) (o:=1) (by simp) (aq _ _ _) (by simp) ?_;rw [aU,List.setIfInBounds_toArray];rw [FV w x (aO t)];have bd1:=(bd.upto (ac (.cells (fxA w x (aO t) [] 0).toArray 3) hg));have qg:=aq G g (.cells (fxA w x (aO t) [] 0).toArray 3);generalize G.set g (.cells (fxA w x (aO t) [] 0).toArray 3)=G1 at*;refine ⟨s,by rw [an (bd1.le _ _ q3)];rfl,?_⟩
 refine ⟨λm i F'=>∃(k:Nat) (S:List Tr),i=k/\k<=(aO t).length/\m=(aO t).length - k/\BD E F' bb mm S/\S.length<=k/\(∀j,j<k+2->inn S (fx w x (tr (aO t) j)))/\F' g=some (.cells (fxA w x (aO t) S k).toArray 3),(aO t).length,
  ⟨0,[],rfl,by omega,rfl,bd1,by simp,λj hj=> ?_,qg⟩,?_⟩
 ·match j,hj with
  |0,_=>show inn [] (fx w x (leaf false));rw [jH];exact eW _ _
  |1,_=>show inn [] (fx w x (leaf true));rw [jH];exact eW _ _
 rintro m i F1 ⟨k,S,rfl,hk,rfl,hbd,hSk,hin,hg1⟩;unfold BT;refine ⟨λhlt=> ?_,λhge=> ?_⟩
 ·have hkT:k<(aO t).length:=by omega
  obtain ⟨hck,vv,lo',hi',hget,hlo,hhi,hok,_⟩:=za hT k hkT;have hlo2:=cS hlo;have hhi2:=cS hhi;rw [<- lA hlo,XL] at hlo2;rw [<- lA hhi,XL] at hhi2;have inl:inn (aO t) lo':=by rw [<- X9 k (aO t)];exact bK hlo
  have inh:inn (aO t) hi':=by rw [<- X9 k (aO t)];exact bK hhi
  obtain ⟨a,ha,hrow,_⟩:=rdb (hr'.le (l6.trans hbd.le)) (lW hget);refine ⟨a,ha,by omega,hlt,aR (br (aO t) (node vv lo' hi')),rfl,by simpa using hrow,?_⟩;intro b10 hb10;refine atI ?_;refine stW (aq _ _ _) rfl rfl (jO _) ?_;rw [aU];have hE10:E b10=none:=aY hbd.le hb10;have bd2:=(hbd.grow (F:=F1.set b10 (.cells (aR (br (aO t) (node vv lo' hi'))) 103)) (ac _ hb10) hb10 (aq _ _ _));have n10:g≠b10:=aJ hb10 hg1;have qg2:(F1.set b10 (.cells (aR (br (aO t) (node vv lo' hi'))) 103)) g=some (.cells (fxA w x (aO t) S k).toArray 3):=by rw [aC _ _ n10];exact hg1
  have c10:∀G:PH,(F1.set b10 (.cells (aR (br (aO t) (node vv lo' hi'))) 103)).le G->G b10=some (.cells (aR (br (aO t) (node vv lo' hi'))) 103):=λG hG=>hG _ _ (aq _ _ _);have e10:=aq E b10 (.cells (aR (br (aO t) (node vv lo' hi'))) 103);have lE:E.le (E.set b10 (.cells (aR (br (aO t) (node vv lo' hi'))) 103)):=ac _ hE10;have Eg2:(E.set b10 (.cells (aR (br (aO t) (node vv lo' hi'))) 103)) g=none:=by rw [aC _ _ n10];exact Eg
  generalize F1.set b10 (.cells (aR (br (aO t) (node vv lo' hi'))) 103)=F2 at*;generalize E.set b10 (.cells (aR (br (aO t) (node vv lo' hi'))) 103)=E2 at*;have h10:=bd2.le _ _ e10;have trl:=gy hT inl;have trh:=gy hT inh;have hnl:(fxA w x (aO t) S k)[num (aO t) lo']? =some (vi (num S (fx w x lo'))):=by rw [u9 (by omega) (by omega),trl]
  have hnh:(fxA w x (aO t) S k)[num (aO t) hi']? =some (vi (num S (fx w x hi'))):=by rw [u9 (by omega) (by omega),trh]
  have il:inn S (fx w x lo'):=by have:=hin (num (aO t) lo') (by omega);rwa [trl] at this
  have ih:inn S (fx w x hi'):=by have:=hin (num (aO t) hi') (by omega);rwa [trh] at this
  have hk2:tr (aO t) (k+2)=node vv lo' hi':=by unfold tr;rw [if_neg (by omega),if_neg (by omega),Yf,XQ,hget];rfl
  obtain ⟨o1,o2,o3,o4,o5,o6⟩:=hok;obtain ⟨p1,p2,_⟩:=du w x o5;obtain ⟨r1,r2,_⟩:=du w x o6;have hfx:=u7 (w:=w) (b:=x) (v:=vv) (l:=lo') (h:=hi') ⟨o1,o2,o3,o4,o5,o6⟩;have rest:∀A B:Tr,inn S A->inn S B->vv<A.top->vv<B.top->fx w x (node vv lo' hi')=mk vv A B->∀{R:Value->Ψ} {N:Ω},
    (∀F',(∃S',BD E F' bb mm S'/\S'.length<=k+1/\(∀j,j<k+1+2->inn S' (fx w x (tr (aO t) j)))/\F' g=some (.cells (fxA w x (aO t) S' (k+1)).toArray 3))->N ((k+1:Nat):Int) F')->
    lO N w x b3 b6 (some ⟨bb,0,none⟩) ⟨some ⟨g,0,none⟩,(aO t).length+2,(aO t).length+2⟩ k b10 s (num S A) (num S B) R F2:=by
   intro A B hA hB tA tB hAB R N hN;unfold lO;refine ⟨_,by rw [an h10];rfl,?_⟩;have bd3:=bd2.pin qg2 (by decide) (by decide);refine (xB bd3 hA hB ⟨o1,tA,tB⟩ (by omega)).mono ?_;rintro _ F3 ⟨rfl,bd4⟩;have qg4:=bd4.le _ _ (aq E2 g (.cells (fxA w x (aO t) S k).toArray 3));have bd5:BD E2 F3 bb mm (dR S (mk vv A B)):=bd4.weaken (aA PH.le_rfl Eg2);have hw3:IntKind.i64.wrap ((k:Int)+2)=((k+2:Nat):Int):=by rw [aH (by omega) (by omega)];omega
   have hw4:IntKind.i64.wrap ((k:Int)+1)=((k+1:Nat):Int):=fC (by omega);rw [hw3,hw4];refine ⟨_,rfl,_,rfl,by omega,by simp only;omega,?_⟩;refine qZ (b:=g) (o:=k+2) (by simp;omega) qg4 (by simp [fxA];omega) ?_;rw [List.setIfInBounds_toArray];have hnum:∀{u:Tr},inn S u->inn (dR S (mk vv A B)) u/\num (dR S (mk vv A B)) u=num S u:=λ{u} hu=>by
    unfold dR;split
    ·exact ⟨hu,rfl⟩
    ·exact ⟨bK hu,bT hu⟩
   have hinT:inn (dR S (mk vv A B)) (mk vv A B):=by
    unfold dR;split
    ·assumption
    ·exact .inr (by simp)
   have hst:=FW (w:=w) (b:=x) (T:=aO t) (S:=S) (S':=dR S (mk vv A B)) hkT (λj hj=>(hnum (hin j hj)).2);rw [hk2,hfx,<- hfx,hAB] at hst;rw [hst];refine hN _ ⟨_,((bd5.weaken lE).setCells Eg qg4 (by decide) (by decide)),?_,λj hj=> ?_,aq _ _ _⟩
   ·unfold dR;split
    ·omega
    ·simp only [N3,XJ];omega
   ·by_cases hj2:j<k+2
    ·exact (hnum (hin j hj2)).1
    ·obtain rfl:j=k+2:=by omega
     rw [hk2,hAB];exact hinT
  have done:∀F':PH,(∃S',BD E F' bb mm S'/\S'.length<=k+1/\(∀j,j<k+1+2->inn S' (fx w x (tr (aO t) j)))/\F' g=some (.cells (fxA w x (aO t) S' (k+1)).toArray 3))->
    ∃m',m'<(aO t).length - k/\∃(k':Nat) (S:List Tr),((k+1:Nat):Int)=k'/\k'<=(aO t).length/\m'=(aO t).length - k'/\BD E F' bb mm S/\S.length<=k'/\(∀j,j<k'+2->inn S (fx w x (tr (aO t) j)))/\F' g=some (.cells (fxA w x (aO t) S k').toArray 3):=λF' ⟨S',h1,h2,h3,h4⟩=>
   ⟨(aO t).length - (k+1),by omega,k+1,S',rfl,by omega,rfl,h1,h2,h3,h4⟩
  refine ⟨_,by rw [an h10];rfl,_,rfl,by simp only [br];omega,by simp only [br];omega,vi (num S (fx w x lo')) |> λ_=>(num S (fx w x lo'):Int),by simp only [av];rw [an qg2];simpa [br] using hnl,
   _,by rw [an h10];rfl,_,rfl,by simp only [br];omega,by simp only [br];omega,(num S (fx w x hi'):Int),by simp only [av];rw [an qg2];simpa [br] using hnh,_,by rw [an h10];rfl,λhv=> ?_,λhv=> ?_⟩
  ·have hvw:vv=w:=by simp only [br] at hv;omega
   rw [if_pos hvw] at hfx;refine ⟨λhx=> ?_,λhx=> ?_⟩
   ·rw [if_pos hx] at hfx;exact rest (fx w x hi') (fx w x hi') ih ih (by omega) (by omega) (by rw [hfx];simp [mk]) done
   ·rw [if_neg (by simp [hx])] at hfx;exact rest (fx w x lo') (fx w x lo') il il (by omega) (by omega) (by rw [hfx];simp [mk]) done
  ·have hvw:¬vv=w:=by simp only [br] at hv;omega
   rw [if_neg hvw] at hfx;exact rest (fx w x lo') (fx w x hi') il ih (by omega) (by omega) hfx done
 ·obtain rfl:k=(aO t).length:=by omega
  unfold BS;have hni:=cH ht;have hnl:=cS hni;have hct:(fxA w x (aO t) S (aO t).length)[num (aO t) t]? =some (vi (num S (fx w x t))):=by rw [u9 (by omega) (by omega),gy hT hni]
  refine ⟨(num (aO t) t:Int),by rw [an (hbd.le _ _ q3)];rfl,_,rfl,by omega,by simp only;omega,(num S (fx w x t):Int),by simp only [av];rw [an hg1];simpa using hct,?_⟩;have hinf:=hin (num (aO t) t) (by omega);rw [gy hT hni] at hinf;obtain ⟨_,hcl,_,_,⟨sb,hbb,hob,_⟩,_⟩:=id hbd;have h16:=hbd.le _ _ q6;have nbb:bb≠b6:=λe=>by rw [e,h16] at hbb;simp at hbb
  have hob':bj (eH F1 b6) 103 3 sb (aS (brs S)):=hob.keep λa ha=>by obtain ⟨cur,hcur⟩:=hob.elem ha;refine gc (λe=> ?_);rw [e,h16] at hcur;simp at hcur
  refine (gf (lH (b:=bb) (F:=eH F1 b6) (ns:=sb) (by rw [an ((gc nbb).trans hbb)];rfl) hob'.rd hcl hinf (by omega)) h16).mono ?_;rintro _ F2 ⟨u,rfl,⟨G',hu,lG,gG⟩,l2,q2⟩;refine ⟨_,rfl,?_⟩;exact gN (K:=λvres F'=>∃w',Value.agg vres=.agg w'/\DV F' w' (dia (fx w x t))/\F.le F') hu q2 rfl ⟨_,rfl,hu.le (aA lG gG),aA (l6.trans (hbd.le.trans l2)) f6⟩
end
end Go.Proofs.YtenpmjhnhepfdaaGreatDoor
