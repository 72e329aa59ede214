/-
  The codec that writes: tokens, productions, levels, filters, grammars; Encode. Printed in part by a program (mkHr.py).
-/
import Derived.Test.YtenpmjhnhepfdaaGreatDoorHp
namespace Go.Proofs.YtenpmjhnhepfdaaGreatDoor
open Go Go.Proofs.Tryz
set_option maxRecDepth 10000
theorem gI (a:Addr) (i j:Nat):Addr.add (Addr.add a i) j=Addr.add a (i+j):=by
 unfold Addr.add;by_cases hi:i=0
 ·simp [hi]
 ·by_cases hj:j=0
  ·simp [hj]
  ·simp [hi,hj,Y4]
theorem kZ {F:PH} {a:Addr} {c d:Γ} {o:Nat} (h:F.row a c) (hd:(c.toList.drop o).take d.size=d.toList):F.row (a.add o) d:=by intro i hi;rw [gI];have:=congrArg (λl=>l[i]?) hd;simp only [YE hi,List.getElem?_drop,Array.getElem?_toList] at this;exact aF h (this.trans (by simp [hi]))
theorem cbW:aB prog 119=true/\aB prog 125=true/\aB prog 122=true/\aB prog 124=true/\aB prog 127=true/\aB prog 129=true/\
 aB prog 180=true/\aB prog 183=true/\aB prog 185=true/\aB prog 188=true:=by
 refine ⟨?_,?_,?_,?_,?_,?_,?_,?_,?_,?_⟩<;>kernel_rfl
section
variable {G:PH} {bc:Nat}
theorem gn {a:Addr} {x:Int} (h0:0<=x) (ha:G.cell a=some (vi x)):WrS G bc 125 #[pc bc,.pointer (some a)] (.tuple #[]) (eI x):=by obtain ⟨n,rfl⟩:=YU h0;exact lq ha
theorem V1:eB true=bQ 1:=(bR (by decide)).symm
theorem V2:eB false=bQ 0:=(bR (by decide)).symm
theorem jG {b:Nat} {al:List Addr} {xs:Φ} {e:TypeId} (q:G b=some (.cells (al.map λa=>Value.pointer (some a)).toArray e)) (hl:al.length=xs.length) (hll:xs.length<=100)
  (ha:∀(i:Nat) a x,al[i]? =some a->xs[i]? =some x->G.cell a=some (vi x)/\0<=x):
  WrS G bc 181 #[pc bc,Sl.v ⟨some (Addr.mk b 0 none),al.length,al.length⟩] (.tuple #[]) (xs.flatMap eI):=by
 intro G1 F s out l hb h;refine Nl ?_;unfold Ij;refine bF (ml · (some (Addr.mk bc 0 none)) ⟨some (Addr.mk b 0 none),al.length,al.length⟩ _) xs.length (λj F'=>∃G3 s3,G1.le G3/\St G3 F' (cod bc s3 (out++(xs.take j).flatMap eI))) ⟨G1,s,am _,by simpa using h⟩ ?_;rintro j F3 N hj ⟨G3,s3,l3,h⟩ next;unfold ml;have l03:=aa l l3;refine ⟨λhlt=> ?_,λhge=> ?_⟩
 ·simp only at hlt;have hlt:j<xs.length:=by omega
  have hx:=N4 hlt;have haj:=N4 (l:=al) (by omega:j<al.length);obtain ⟨h1,h2⟩:=ha j _ _ haj hx;refine ⟨_,rfl,by omega,by simp only;omega,some al[j],?_,?_⟩
  ·rw [N5,av,XS,XZ,an (h.le _ _ (l03 _ _ q))];simp [haj]
  ·have hp:=ib eI xs (j+1);have e:=kB eI hx;rw [e,N3] at hp;refine (gn h2 h1).go l03 (by rw [N3];omega) h λG4 F4 s4 l4 h=>⟨rfl,?_⟩;rw [aE hlt (by omega)];refine next _ hlt ⟨G4,s4,aa l3 l4,?_⟩;rw [e,<- Xz];exact h
 ·simp only at hge;have e:j=xs.length:=by omega
  subst e;rw [XF] at h;exact ⟨G3,s3,rfl,l3,h⟩
theorem yO {a:Addr} {b:Bool} (ha:G.cell a=some (.bool b)):WrS G bc 186 #[pc bc,.pointer (some a)] (.tuple #[]) (eB b):=by
 intro G1 F s out l hb h;refine Np ?_;unfold Im;refine h.new λb4 F2 h=> ?_;refine h.set0 (by simp) rfl λF3 h=>⟨_,rfl,_,au (aa l h.le) ha,λhbt=> ?_,λhbf=> ?_⟩
 ·subst hbt;rw [V1] at hb ⊢;refine h.set0 (w':= #[vi 1]) (by simp) rfl λF4 h=> ?_;refine h.pinb (K:=λF4=>gh (some (Addr.mk bc 0 none)) (some a) b4 _ F4) λG5 l5 q5 h=> ?_;unfold gh;exact (lq (n:=1) (ld q5 rfl)).go (am _) hb h λG6 F6 s6 l6 h=>⟨rfl,_,rfl,_,h.ld1 rfl,λh=>(by cases h),λ_=>⟨G6,s6,rfl,aa l5 l6,h⟩⟩
 ·subst hbf;rw [V2] at hb ⊢;refine h.pinb (K:=λF4=>gh (some (Addr.mk bc 0 none)) (some a) b4 _ F4) λG5 l5 q5 h=> ?_;unfold gh;exact (lq (n:=0) (ld q5 rfl)).go (am _) hb h λG6 F6 s6 l6 h=>⟨rfl,_,rfl,_,h.ld1 rfl,λh=>(by cases h),λ_=>⟨G6,s6,rfl,aa l5 l6,h⟩⟩
theorem Fq {b2:Nat} {a:Addr} {c:Γ} {x:Br} (q:G.cell (Addr.mk b2 0 none)=some (pc bc)) (hr:G.row a c) (hc:Mem.rep G x c) (h0:0<=x.v/\0<=x.l/\0<=x.h):
  WrS G bc 180 #[.pointer (some a),.pointer (some (Addr.mk b2 0 none))] (.tuple #[]) (eBr x):=by
 intro G1 F s out l hb h;rw [show c=aR x from hc] at hr;refine Nk ?_;unfold Ii;refine ⟨_,rfl,_,au (aa l h.le) q,_,rfl,?_⟩;refine h.newG λb13 G2 F2 l2 q13 _ h=> ?_;have e:[x.v,x.l,x.h].flatMap eI=eBr x:=by simp [eBr]
 rw [<- e] at hb ⊢;refine (jG (al:=[a,a.add 1,a.add 2]) (xs:=[x.v,x.l,x.h]) q13 rfl (by simp) λi a' y h1 h2=> ?_).go (am _) hb h λG3 F3 s3 l3 h=>⟨rfl,G3,s3,rfl,aa l2 l3,h⟩;have l02:=aa l l2
 match i with
 |0=>cases h1;cases h2;exact ⟨au l02 (aI hr rfl),h0.1⟩
 |1=>cases h1;cases h2;exact ⟨au l02 (aF hr rfl),h0.2.1⟩
 |2=>cases h1;cases h2;exact ⟨au l02 (aF hr rfl),h0.2.2⟩
 |i+3=>simp at h1
theorem OE {b2:Nat} {a:Addr} {c:Γ} {x:Nd} (q:G.cell (Addr.mk b2 0 none)=some (pc bc)) (hr:G.row a c) (hc:Mem.rep G x c) (h0:0<=x.k/\0<=x.lo/\0<=x.hi/\0<=x.a/\0<=x.b):
  WrS G bc 183 #[.pointer (some a),.pointer (some (Addr.mk b2 0 none))] (.tuple #[]) (eNd x):=by
 intro G1 F s out l hb h;rw [show c=x.arr from hc] at hr;refine Nm ?_;unfold Ik;refine ⟨_,rfl,_,au (aa l h.le) q,_,rfl,?_⟩;refine h.newG λb13 G2 F2 l2 q13 _ h=> ?_;have e:[x.k,x.lo,x.hi,x.a,x.b].flatMap eI=eNd x:=by simp [eNd]
 rw [<- e] at hb ⊢;refine (jG (al:=[a,a.add 1,a.add 2,a.add 3,a.add 4]) (xs:=[x.k,x.lo,x.hi,x.a,x.b]) q13 rfl (by simp) λi a' y h1 h2=> ?_).go (am _) hb h λG3 F3 s3 l3 h=>⟨rfl,G3,s3,rfl,aa l2 l3,h⟩;have l02:=aa l l2
 match i with
 |0=>cases h1;cases h2;exact ⟨au l02 (aI hr rfl),h0.1⟩
 |1=>cases h1;cases h2;exact ⟨au l02 (aF hr rfl),h0.2.1⟩
 |2=>cases h1;cases h2;exact ⟨au l02 (aF hr rfl),h0.2.2.1⟩
 |3=>cases h1;cases h2;exact ⟨au l02 (aF hr rfl),h0.2.2.2.1⟩
 |4=>cases h1;cases h2;exact ⟨au l02 (aF hr rfl),h0.2.2.2.2⟩
 |i+5=>simp at h1
theorem uT {b2:Nat} {a:Addr} {c:Γ} {x:Cn} (q:G.cell (Addr.mk b2 0 none)=some (pc bc)) (hr:G.row a c) (hc:Mem.rep G x c) (h0:0<=x.k/\0<=x.a/\0<=x.b):
  WrS G bc 188 #[.pointer (some a),.pointer (some (Addr.mk b2 0 none))] (.tuple #[]) (eCn x):=by
 intro G1 F s out l hb h;rw [show c=x.arr from hc] at hr;refine Nq ?_;unfold In;refine ⟨_,rfl,_,au (aa l h.le) q,_,rfl,?_⟩;refine h.newG λb13 G2 F2 l2 q13 _ h=> ?_;have e:[x.k,x.a,x.b].flatMap eI=eCn x:=by simp [eCn]
 rw [<- e] at hb ⊢;refine (jG (al:=[a,a.add 1,a.add 2]) (xs:=[x.k,x.a,x.b]) q13 rfl (by simp) λi a' y h1 h2=> ?_).go (am _) hb h λG3 F3 s3 l3 h=>⟨rfl,G3,s3,rfl,aa l2 l3,h⟩;have l02:=aa l l2
 match i with
 |0=>cases h1;cases h2;exact ⟨au l02 (aI hr rfl),h0.1⟩
 |1=>cases h1;cases h2;exact ⟨au l02 (aF hr rfl),h0.2.1⟩
 |2=>cases h1;cases h2;exact ⟨au l02 (aF hr rfl),h0.2.2⟩
 |i+3=>simp at h1
theorem Fs {b2:Nat} {a:Addr} {c:Γ} {x:Sy} (q:G.cell (Addr.mk b2 0 none)=some (pc bc)) (hr:G.row a c) (hc:Mem.rep G x c) (h0:0<=x.i):
  WrS G bc 185 #[.pointer (some a),.pointer (some (Addr.mk b2 0 none))] (.tuple #[]) (eSy x):=by
 intro G1 F s out l hb h;rw [show c=x.arr from hc] at hr;unfold eSy at hb ⊢;rw [N3] at hb;refine No ?_;unfold Il;refine ⟨_,rfl,_,au (aa l h.le) q,_,rfl,?_⟩;refine (yO (au l (aI hr rfl))).go (am _) (by omega) h λG3 F3 s3 l3 h=>⟨rfl,_,au (aa l (aa l3 h.le)) q,?_⟩;refine (gn h0 (au (aa l l3) (aF hr rfl))).go (am _) (by rw [N3];omega) h λG4 F4 s4 l4 h=>⟨rfl,G4,s4,rfl,aa l3 l4,?_⟩;rw [<- Xz];exact h
theorem V3:∀N c0 l1 o v R i F,∃X,mj N c0 l1 o v R i F=dn 3 X N c0 l1 o v R i F:=λ_ _ _ _ _ _ _ _=>⟨_,rfl⟩
theorem Ft {c0 l1:Θ} {o:Value} {R:VR} {F:PH} (h:iK mj c0 l1 o R F):ae prog 179 #[.pointer c0,.pointer l1,o] F R:=TX h
theorem xg {a:Addr} {n:Sl} {d:Dia} (hr:G.row a #[n.v,vi d.2]) (hn:RL G n d.1) (hl:d.1.length<=1000000000) (h0:(∀b∈d.1,0<=b.v/\0<=b.l/\0<=b.h)/\0<=d.2):
  WrS G bc 120 #[pc bc,.pointer (some a)] (.tuple #[]) (eD d):=by
 intro G1 F s out l hb h;unfold eD at hb ⊢;rw [N3] at hb;refine MZ ?_;unfold Ib;refine h.newG λb2 G2 F2 l2 q2 _ h=>⟨_,ld (h.le _ _ q2) rfl,_,rfl,?_⟩;have l02:=aa l l2
 refine (Ft (gp (L:=mj) (hn.le l02) (au l02 (aI hr rfl)) (by decide) hl cbW.2.2.2.2.2.2.1 eBr (λp=> #[p,.pointer (some (Addr.mk b2 0 none))]) (λ_=>by simp)
  (λx hx G3 a c l3 hr hc=>Fq (ld (l3 _ _ q2) rfl) hr hc (h0.1 x hx)) V3 (am _) (by omega) h)).mono ?_
 rintro _ F3 ⟨G3,s3,rfl,l3,h⟩;refine ⟨rfl,_,ld (h.le _ _ (l3 _ _ q2)) rfl,?_⟩;refine (gn h0.2 (au (aa l02 l3) (aF hr rfl))).go (am _) (by rw [N3];omega) h λG4 F4 s4 l4 h=>⟨rfl,G4,s4,rfl,aa l2 (aa l3 l4),?_⟩;rw [<- Xz];exact h
end
theorem St.pinE {G F:PH} {As:List (Ψ)} {b:Nat} {o:Obj} (h:St G F (pt b o::As)):∃G',G.le G'/\G' b=some o/\St G' F As:=by obtain ⟨G',h1,⟨H,hA,hH⟩,h2⟩:=h.pin;exact ⟨G',h1,hH _ _ hA,h2⟩
theorem St.pinO {G F:PH} {As:List (Ψ)} {e n:Nat} {s:Sl} {vs:Ξ} (h:St G F (own s e n vs::As)):∃G',G.le G'/\RdS G' s n vs/\St G' F As:=by obtain ⟨G',h1,⟨H,hA,hH⟩,h2⟩:=h.pin;exact ⟨G',h1,(bj.rd hA).le hH,h2⟩
theorem shS:∀N c0 l1 o v R i F,∃X,lY N c0 l1 o v R i F=dn 1 X N c0 l1 o v R i F:=λ_ _ _ _ _ _ _ _=>⟨_,rfl⟩
theorem LF {c0 l1:Θ} {o:Value} {R:VR} {F:PH} (h:iK lY c0 l1 o R F):ae prog 118 #[.pointer c0,.pointer l1,o] F R:=TC h
theorem V4:∀N c0 l1 o v R i F,∃X,lZ N c0 l1 o v R i F=dn 7 X N c0 l1 o v R i F:=λ_ _ _ _ _ _ _ _=>⟨_,rfl⟩
theorem Fu {c0 l1:Θ} {o:Value} {R:VR} {F:PH} (h:iK lZ c0 l1 o R F):ae prog 121 #[.pointer c0,.pointer l1,o] F R:=TE h
theorem V5:∀N c0 l1 o v R i F,∃X,ma N c0 l1 o v R i F=dn 13 X N c0 l1 o v R i F:=λ_ _ _ _ _ _ _ _=>⟨_,rfl⟩
theorem Fv {c0 l1:Θ} {o:Value} {R:VR} {F:PH} (h:iK ma c0 l1 o R F):ae prog 123 #[.pointer c0,.pointer l1,o] F R:=TG h
theorem V6:∀N c0 l1 o v R i F,∃X,me N c0 l1 o v R i F=dn 4 X N c0 l1 o v R i F:=λ_ _ _ _ _ _ _ _=>⟨_,rfl⟩
theorem Fw {c0 l1:Θ} {o:Value} {R:VR} {F:PH} (h:iK me c0 l1 o R F):ae prog 126 #[.pointer c0,.pointer l1,o] F R:=TI h
theorem V7:∀N c0 l1 o v R i F,∃X,mh N c0 l1 o v R i F=dn 9 X N c0 l1 o v R i F:=λ_ _ _ _ _ _ _ _=>⟨_,rfl⟩
theorem Fx {c0 l1:Θ} {o:Value} {R:VR} {F:PH} (h:iK mh c0 l1 o R F):ae prog 128 #[.pointer c0,.pointer l1,o] F R:=TK h
theorem V8:∀N c0 l1 o v R i F,∃X,mn N c0 l1 o v R i F=dn 5 X N c0 l1 o v R i F:=λ_ _ _ _ _ _ _ _=>⟨_,rfl⟩
theorem Fy {c0 l1:Θ} {o:Value} {R:VR} {F:PH} (h:iK mn c0 l1 o R F):ae prog 182 #[.pointer c0,.pointer l1,o] F R:=TZ h
theorem V9:∀N c0 l1 o v R i F,∃X,mo N c0 l1 o v R i F=dn 2 X N c0 l1 o v R i F:=λ_ _ _ _ _ _ _ _=>⟨_,rfl⟩
theorem Fz {c0 l1:Θ} {o:Value} {R:VR} {F:PH} (h:iK mo c0 l1 o R F):ae prog 184 #[.pointer c0,.pointer l1,o] F R:=T1 h
theorem Wa:∀N c0 l1 o v R i F,∃X,mp N c0 l1 o v R i F=dn 3 X N c0 l1 o v R i F:=λ_ _ _ _ _ _ _ _=>⟨_,rfl⟩
theorem FA {c0 l1:Θ} {o:Value} {R:VR} {F:PH} (h:iK mp c0 l1 o R F):ae prog 187 #[.pointer c0,.pointer l1,o] F R:=T3 h
theorem shI:∀N c0 l1 o v R i F,∃X,mq N c0 l1 o v R i F=dn 1 X N c0 l1 o v R i F:=λ_ _ _ _ _ _ _ _=>⟨_,rfl⟩
theorem LG {c0 l1:Θ} {o:Value} {R:VR} {F:PH} (h:iK mq c0 l1 o R F):ae prog 189 #[.pointer c0,.pointer l1,o] F R:=T5 h
section
variable {G:PH} {bc:Nat}
theorem FB {la:Addr} {sl:Sl} {l:List ByteArray} (hl:RL G sl l) (hla:G.cell la=some sl.v) (hll:l.length<=1000000000):WrS G bc 118 #[pc bc,.pointer (some la),.func (.func 119) #[pc bc] #[]] (.tuple #[]) (eL eS l):=by intro G1 F s out l1 hb h;exact LF (gp (L:=lY) hl hla (by decide) hll cbW.1 eS (λp=> #[pc bc,p]) (λ_=>by simp) (λx hx G3 a c l3 hr hc=>qt (aI hr (by rw [show c= #[.string x] from hc];rfl))) shS l1 hb h)
theorem FC {la:Addr} {sl:Sl} {l:Φ} (hl:RL G sl l) (hla:G.cell la=some sl.v) (hll:l.length<=1000000000) (h0:∀x∈l,0<=x):WrS G bc 189 #[pc bc,.pointer (some la),.func (.func 125) #[pc bc] #[]] (.tuple #[]) (eL eI l):=by intro G1 F s out l1 hb h;exact LG (gp (L:=mq) hl hla (by decide) hll cbW.2.1 eI (λp=> #[pc bc,p]) (λ_=>by simp) (λx hx G3 a c l3 hr hc=>gn (h0 x hx) (aI hr (by rw [show c= #[vi x] from hc];rfl))) shI l1 hb h)
theorem JA {la:Addr} {sl:Sl} {l:List Nd} {b2:Nat} (q:G.cell (Addr.mk b2 0 none)=some (pc bc)) (hl:RL G sl l) (hla:G.cell la=some sl.v) (hll:l.length<=1000000000) (h0:∀x∈l,0<=x.k/\0<=x.lo/\0<=x.hi/\0<=x.a/\0<=x.b):WrS G bc 182 #[pc bc,.pointer (some la),.func (.func 183) #[] #[.pointer (some (Addr.mk b2 0 none))]] (.tuple #[]) (eL eNd l):=by intro G1 F s out l1 hb h;exact Fy (gp (L:=mn) hl hla (by decide) hll cbW.2.2.2.2.2.2.2.1 eNd (λp=> #[p,.pointer (some (Addr.mk b2 0 none))]) (λ_=>by simp) (λx hx G3 a c l3 hr hc=>OE (au l3 q) hr hc (h0 x hx)) V8 l1 hb h)
theorem OF {la:Addr} {sl:Sl} {l:List Sy} {b2:Nat} (q:G.cell (Addr.mk b2 0 none)=some (pc bc)) (hl:RL G sl l) (hla:G.cell la=some sl.v) (hll:l.length<=1000000000) (h0:∀x∈l,0<=x.i):WrS G bc 184 #[pc bc,.pointer (some la),.func (.func 185) #[] #[.pointer (some (Addr.mk b2 0 none))]] (.tuple #[]) (eL eSy l):=by intro G1 F s out l1 hb h;exact Fz (gp (L:=mo) hl hla (by decide) hll cbW.2.2.2.2.2.2.2.2.1 eSy (λp=> #[p,.pointer (some (Addr.mk b2 0 none))]) (λ_=>by simp) (λx hx G3 a c l3 hr hc=>Fs (au l3 q) hr hc (h0 x hx)) V9 l1 hb h)
theorem OG {la:Addr} {sl:Sl} {l:List Cn} {b2:Nat} (q:G.cell (Addr.mk b2 0 none)=some (pc bc)) (hl:RL G sl l) (hla:G.cell la=some sl.v) (hll:l.length<=1000000000) (h0:∀x∈l,0<=x.k/\0<=x.a/\0<=x.b):WrS G bc 187 #[pc bc,.pointer (some la),.func (.func 188) #[] #[.pointer (some (Addr.mk b2 0 none))]] (.tuple #[]) (eL eCn l):=by intro G1 F s out l1 hb h;exact FA (gp (L:=mp) hl hla (by decide) hll cbW.2.2.2.2.2.2.2.2.2 eCn (λp=> #[p,.pointer (some (Addr.mk b2 0 none))]) (λ_=>by simp) (λx hx G3 a c l3 hr hc=>uT (au l3 q) hr hc (h0 x hx)) Wa l1 hb h)
theorem qq {G F:PH} {bc:Nat} {s:Sl} {o p:Δ} (h:St G F (cod bc s o)) (e:o=p):St G F (cod bc s p):=by rw [<- e];exact h
theorem JB {a:Addr} {c:Γ} {x:Tk} (hr:G.row a c) (hc:Mem.rep G x c) (hl:x.pat.length<=1000000000/\x.cond.1.length<=1000000000)
  (h0:0<=x.cls/\(∀y∈x.pat,0<=y.k/\0<=y.lo/\0<=y.hi/\0<=y.a/\0<=y.b)/\(∀b∈x.cond.1,0<=b.v/\0<=b.l/\0<=b.h)/\0<=x.cond.2):WrS G bc 122 #[pc bc,.pointer (some a)] (.tuple #[]) (eTk x):=by
 obtain ⟨pp,nn,rfl,hp,hn⟩:=hc;intro G1 F s out l hb h;unfold eTk at hb ⊢;refine M0 ?_;unfold Ic;refine h.newG λb2 G2 F2 l2 q2 _ h=>⟨_,ld (h.le _ _ q2) rfl,_,rfl,?_⟩;have l02:=aa l l2;refine (qt (au l02 (aI hr rfl))).go (am _) (by simp only [N3] at hb ⊢;omega) h λG3 F3 s3 l3 h=>⟨rfl,_,ld (h.le _ _ (l3 _ _ q2)) rfl,?_⟩;refine (gn h0.1 (au (aa l02 l3) (aF hr rfl))).go (am _) (by simp only [N3] at hb ⊢;omega) h λG4 F4 s4 l4 h=>⟨rfl,_,ld (h.le _ _ (l4 _ _ (l3 _ _ q2))) rfl,?_⟩;replace l3:=aa l3 l4;refine (qt (au (aa l02 l3) (aF hr rfl))).go (am _) (by simp only [N3] at hb ⊢;omega) h λG5 F5 s5 l5 h=>⟨rfl,_,ld (h.le _ _ (l5 _ _ (l3 _ _ q2))) rfl,?_⟩;replace l3:=aa l3 l5;refine (JA (ld (l3 _ _ q2) rfl) (hp.le (aa l02 l3)) (au (aa l02 l3) (aF hr rfl)) hl.1 h0.2.1).go (am _) (by simp only [N3] at hb ⊢;omega) h λG6 F6 s6 l6 h=>⟨rfl,_,ld (h.le _ _ (l6 _ _ (l3 _ _ q2))) rfl,?_⟩;replace l3:=aa l3 l6;refine (qt (au (aa l02 l3) (aF hr rfl))).go (am _) (by simp only [N3] at hb ⊢;omega) h λG7 F7 s7 l7 h=>⟨rfl,_,ld (h.le _ _ (l7 _ _ (l3 _ _ q2))) rfl,?_⟩;replace l3:=aa l3 l7;refine (xg (d:=x.cond) (kZ (i7 (aa l02 l3) hr) (o:=5) rfl) (hn.le (aa l02 l3)) hl.2 h0.2.2).go (am _) (by simp only [N3] at hb ⊢;omega) h λG8 F8 s8 l8 h=>⟨rfl,G8,s8,rfl,aa l2 (aa l3 l8),qq h (by simp only [Xz])⟩
theorem uU {a:Addr} {c:Γ} {x:Pr} (hr:G.row a c) (hc:Mem.rep G x c) (hl:x.right.length<=1000000000/\x.cond.1.length<=1000000000/\x.lay.length<=1000000000)
  (h0:0<=x.left/\(∀s∈x.right,0<=s.i)/\((∀b∈x.cond.1,0<=b.v/\0<=b.l/\0<=b.h)/\0<=x.cond.2)/\-1<=x.rank/\x.rank<=1/\(∀y∈x.lay,0<=y.k/\0<=y.a/\0<=y.b)/\0<=x.sco.d/\0<=x.sco.k/\0<=x.sco.u/\0<=x.sco.a):
  WrS G bc 124 #[pc bc,.pointer (some a)] (.tuple #[]) (ePr x):=by
 obtain ⟨pp,nn,mm,rfl,hp,hn,hm⟩:=hc;intro G1 F s out l hb h;unfold ePr yQ at hb ⊢;refine M1 ?_;unfold Id;refine h.newG λb2 G2 F2 l2 q2 _ h=>⟨_,ld (h.le _ _ q2) rfl,_,rfl,?_⟩;have l02:=aa l l2;refine (qt (au l02 (aI hr rfl))).go (am _) (by simp only [N3] at hb ⊢;omega) h λG3 F3 s3 l3 h=>⟨rfl,_,ld (h.le _ _ (l3 _ _ q2)) rfl,?_⟩;refine (gn h0.1 (au (aa l02 l3) (aF hr rfl))).go (am _) (by simp only [N3] at hb ⊢;omega) h λG4 F4 s4 l4 h=>⟨rfl,_,ld (h.le _ _ (l4 _ _ (l3 _ _ q2))) rfl,?_⟩;replace l3:=aa l3 l4;refine (OF (ld (l3 _ _ q2) rfl) (hp.le (aa l02 l3)) (au (aa l02 l3) (aF hr rfl)) hl.1 h0.2.1).go (am _) (by simp only [N3] at hb ⊢;omega) h λG6 F6 s6 l6 h=>⟨rfl,_,ld (h.le _ _ (l6 _ _ (l3 _ _ q2))) rfl,?_⟩;replace l3:=aa l3 l6;refine (xg (d:=x.cond) (kZ (i7 (aa l02 l3) hr) (o:=3) rfl) (hn.le (aa l02 l3)) hl.2.1 h0.2.2.1).go (am _) (by simp only [N3] at hb ⊢;omega) h λG7 F7 s7 l7 h=>⟨rfl,_,ld (h.le _ _ (l7 _ _ (l3 _ _ q2))) rfl,?_⟩;replace l3:=aa l3 l7;refine (yO (au (aa l02 l3) (aF hr rfl))).go (am _) (by simp only [N3] at hb ⊢;omega) h λG8 F8 s8 l8 h=>⟨rfl,_,au (aa (aa l02 l3) (aa l8 h.le)) (aF hr rfl),?_⟩;replace l3:=aa l3 l8;have ew:IntKind.i64.wrap (x.rank+1)=x.rank+1:=aH (by omega) (by omega);dsimp only;rw [ew];refine h.new λb4 F9 h=> ?_;refine h.set0 (w':= #[vi (x.rank+1)]) (by simp) rfl λF10 h=> ?_;obtain ⟨G11,l11,q4,h⟩:=h.pinE;refine ⟨_,ld (h.le _ _ (l11 _ _ (l3 _ _ q2))) rfl,?_⟩;replace l3:=aa l3 l11;refine (gn (by omega) (ld q4 rfl)).go (am _) (by simp only [N3] at hb ⊢;omega) h λG12 F12 s12 l12 h=>⟨rfl,_,ld (h.le _ _ (l12 _ _ (l3 _ _ q2))) rfl,_,rfl,_,h.ld1 rfl,λh=>(by cases h),λ_=> ?_⟩;replace l3:=aa l3 l12;unfold po;refine ⟨_,ld (h.le _ _ (l3 _ _ q2)) rfl,?_⟩;refine (OG (ld (l3 _ _ q2) rfl) (hm.le (aa l02 l3)) (au (aa l02 l3) (aF hr rfl)) hl.2.2 h0.2.2.2.2.2.1).go (am _) (by simp only [N3] at hb ⊢;omega) h λG13 F13 s13 l13 h=>⟨rfl,_,ld (h.le _ _ (l13 _ _ (l3 _ _ q2))) rfl,?_⟩;replace l3:=aa l3 l13;refine (yO (au (aa l02 l3) (aF hr rfl))).go (am _) (by simp only [N3] at hb ⊢;omega) h λG14 F14 s14 l14 h=>⟨rfl,_,ld (h.le _ _ (l14 _ _ (l3 _ _ q2))) rfl,?_⟩;replace l3:=aa l3 l14;refine h.newG λb15 G15 F15 l15 q15 _ h=> ?_;replace l3:=aa l3 l15;have l03:=aa l02 l3;have e:[x.sco.d,x.sco.k,x.sco.u,x.sco.a].flatMap eI=eI x.sco.d++eI x.sco.k++eI x.sco.u++eI x.sco.a:=by simp
 refine (jG (al:=[Addr.add (a.add 8) 1,Addr.add (a.add 8) 2,Addr.add (a.add 8) 3,Addr.add (a.add 8) 4]) (xs:=[x.sco.d,x.sco.k,x.sco.u,x.sco.a]) q15 rfl (by simp) λi a' y h1 h2=> ?_).go (am _) (by rw [e];simp only [N3] at hb ⊢;omega) h λG16 F16 s16 l16 h=>⟨rfl,G16,s16,rfl,aa l2 (aa l3 l16),qq h (by rw [e];simp only [Xz])⟩
 match i with
 |0=>cases h1;cases h2;exact ⟨by rw [gI];exact au l03 (aF hr rfl),h0.2.2.2.2.2.2.1⟩
 |1=>cases h1;cases h2;exact ⟨by rw [gI];exact au l03 (aF hr rfl),h0.2.2.2.2.2.2.2.1⟩
 |2=>cases h1;cases h2;exact ⟨by rw [gI];exact au l03 (aF hr rfl),h0.2.2.2.2.2.2.2.2.1⟩
 |3=>cases h1;cases h2;exact ⟨by rw [gI];exact au l03 (aF hr rfl),h0.2.2.2.2.2.2.2.2.2⟩
 |i+4=>simp at h1
theorem JC {a:Addr} {c:Γ} {x:Lv} (hr:G.row a c) (hc:Mem.rep G x c) (hl:x.ps.length<=1000000000/\x.cond.1.length<=1000000000)
  (h0:(∀y∈x.ps,0<=y)/\0<=x.assoc/\(∀b∈x.cond.1,0<=b.v/\0<=b.l/\0<=b.h)/\0<=x.cond.2):WrS G bc 127 #[pc bc,.pointer (some a)] (.tuple #[]) (eLv x):=by
 obtain ⟨pp,nn,rfl,hp,hn⟩:=hc;intro G1 F s out l hb h;unfold eLv at hb ⊢;refine M3 ?_;unfold If;refine ⟨_,rfl,?_⟩;refine (FC hp (aI hr rfl) hl.1 h0.1).go l (by simp only [N3] at hb ⊢;omega) h λG3 F3 s3 l3 h=>⟨rfl,?_⟩;refine (gn h0.2.1 (aF hr rfl)).go (aa l l3) (by simp only [N3] at hb ⊢;omega) h λG4 F4 s4 l4 h=>⟨rfl,?_⟩;refine (xg (d:=x.cond) (kZ hr (o:=2) rfl) hn hl.2 h0.2.2).go (aa l (aa l3 l4)) (by simp only [N3] at hb ⊢;omega) h λG8 F8 s8 l8 h=>⟨rfl,G8,s8,rfl,aa l3 (aa l4 l8),qq h (by simp only [Xz])⟩
theorem FD {a:Addr} {c:Γ} {x:Fi} (hr:G.row a c) (hc:Mem.rep G x c) (hl:x.toks.length<=1000000000/\x.cond.1.length<=1000000000)
  (h0:0<=x.k/\0<=x.par/\0<=x.pos/\0<=x.ch/\0<=x.left/\0<=x.tok/\(∀y∈x.toks,0<=y)/\(∀b∈x.cond.1,0<=b.v/\0<=b.l/\0<=b.h)/\0<=x.cond.2):WrS G bc 129 #[pc bc,.pointer (some a)] (.tuple #[]) (eFi x):=by
 obtain ⟨pp,nn,rfl,hp,hn⟩:=hc;intro G1 F s out l hb h;have e6:[x.k,x.par,x.pos,x.ch,x.left,x.tok].flatMap eI=eI x.k++eI x.par++eI x.pos++eI x.ch++eI x.left++eI x.tok:=by simp
 unfold eFi at hb ⊢;rw [<- e6] at hb ⊢;refine M4 ?_;unfold Ig;refine ⟨_,rfl,?_⟩;refine h.newG λb27 G2 F2 l2 q27 _ h=> ?_;have l02:=aa l l2;have key:∀(j:Nat) (y:Int),[x.k,x.par,x.pos,x.ch,x.left,x.tok][j]? =some y->0<=y/\∃a',(#[Value.pointer (some a),Value.pointer (some (Addr.add a 1)),Value.pointer (some (Addr.add a 2)),Value.pointer (some (Addr.add a 3)),Value.pointer (some (Addr.add a 4)),Value.pointer (some (Addr.add a 5))]:Γ)[j]? =some (.pointer (some a'))/\G.cell a'=some (vi y):=by
  intro j y hy
  match j with
  |0=>cases hy;exact ⟨h0.1,_,rfl,aI hr rfl⟩
  |1=>cases hy;exact ⟨h0.2.1,_,rfl,aF hr rfl⟩
  |2=>cases hy;exact ⟨h0.2.2.1,_,rfl,aF hr rfl⟩
  |3=>cases hy;exact ⟨h0.2.2.2.1,_,rfl,aF hr rfl⟩
  |4=>cases hy;exact ⟨h0.2.2.2.2.1,_,rfl,aF hr rfl⟩
  |5=>cases hy;exact ⟨h0.2.2.2.2.2.1,_,rfl,aF hr rfl⟩
  |j+6=>simp at hy
 generalize hxs:[x.k,x.par,x.pos,x.ch,x.left,x.tok]=xs at*;have hlen:xs.length=6:=by rw [<- hxs];rfl
 refine bF (mi · (some (Addr.mk bc 0 none)) a b27 _) xs.length (λj F'=>∃G3 s3,G2.le G3/\St G3 F' (cod bc s3 (out++(xs.take j).flatMap eI))) ⟨G2,s,am _,by simpa using h⟩ ?_;rintro j F3 N hj ⟨G3,s3,l3,h⟩ next;unfold mi;refine ⟨λhlt=> ?_,λhge=> ?_⟩
 ·simp only at hlt;have hlt:j<xs.length:=by omega
  have hx:=N4 hlt;obtain ⟨h1,a',h2,h3⟩:=key j _ hx;refine ⟨_,rfl,by omega,by simp only;omega,some a',?_,?_⟩
  ·rw [N5,av,XS,XZ,an (h.le _ _ (l3 _ _ q27))];exact h2
  ·have hp:=ib eI xs (j+1);have e:=kB eI hx;rw [e,N3] at hp;refine (gn h1 h3).go (aa l02 l3) (by simp only [N3] at hb ⊢;omega) h λG4 F4 s4 l4 h=>⟨rfl,?_⟩;rw [aE hlt (by omega)];refine next _ hlt ⟨G4,s4,aa l3 l4,?_⟩;rw [e,<- Xz];exact h
 ·simp only at hge;have e:j=xs.length:=by omega
  subst e;rw [XF] at h;unfold vL;refine ⟨_,rfl,?_⟩;have l03:=aa l02 l3;refine (FC hp (aF hr rfl) hl.1 h0.2.2.2.2.2.2.1).go l03 (by simp only [N3] at hb ⊢;omega) h λG4 F4 s4 l4 h=>⟨rfl,?_⟩;refine (xg (d:=x.cond) (kZ hr (o:=7) rfl) hn hl.2 h0.2.2.2.2.2.2.2).go (aa l03 l4) (by simp only [N3] at hb ⊢;omega) h λG8 F8 s8 l8 h=>⟨rfl,G8,s8,rfl,aa l2 (aa l3 (aa l4 l8)),qq h (by simp only [Xz])⟩
theorem DZ {a:Addr} {g:Gr} {c n t s p l f:Sl} (hr:G.row a (g.arr c n t s p l f)) (hs:GS G g c n t s p l f) (hm:Sm g) (h0:NN g):WrS G bc 43 #[pc bc,.pointer (some a)] (.tuple #[]) (eGr g):=by intro G1 F sl out lG hb h;unfold eGr at hb ⊢;refine To ?_;unfold PO;refine ⟨_,rfl,?_⟩;refine (FB hs.c (aI hr rfl) hm.c).go lG (by simp only [N3] at hb ⊢;omega) h λG2 F2 s2 l2 h=>⟨rfl,?_⟩;replace lG:=aa lG l2;refine (xg (d:=g.fam) (kZ hr (o:=1) rfl) hs.n hm.n h0.fam).go lG (by simp only [N3] at hb ⊢;omega) h λG3 F3 s3 l3 h=>⟨rfl,?_⟩;replace lG:=aa lG l3;refine (Fu (gp (L:=lZ) hs.t (aF hr rfl) (by decide) hm.t cbW.2.2.1 eTk (λp=> #[pc bc,p]) (λ_=>by simp) (λx hx G3 a c l3 hr hc=>JB hr hc (hm.ti x hx) (h0.toks x hx)) V4 lG (by simp only [N3] at hb ⊢;omega) h)).mono ?_;rintro _ F4 ⟨G4,s4,rfl,l4,h⟩;replace lG:=aa lG l4;refine ⟨rfl,?_⟩;refine (FB hs.s (aF hr rfl) hm.s).go lG (by simp only [N3] at hb ⊢;omega) h λG5 F5 s5 l5 h=>⟨rfl,?_⟩;replace lG:=aa lG l5;refine (Fv (gp (L:=ma) hs.p (aF hr rfl) (by decide) hm.p cbW.2.2.2.1 ePr (λp=> #[pc bc,p]) (λ_=>by simp) (λx hx G3 a c l3 hr hc=>uU hr hc (hm.pi x hx) (h0.prods x hx)) V5 lG (by simp only [N3] at hb ⊢;omega) h)).mono ?_;rintro _ F6 ⟨G6,s6,rfl,l6,h⟩;replace lG:=aa lG l6;refine ⟨rfl,?_⟩;refine (gn h0.start (aF hr rfl)).go lG (by simp only [N3] at hb ⊢;omega) h λG7 F7 s7 l7 h=>⟨rfl,?_⟩;replace lG:=aa lG l7;refine (Fw (gp (L:=me) hs.l (aF hr rfl) (by decide) hm.l cbW.2.2.2.2.1 eLv (λp=> #[pc bc,p]) (λ_=>by simp) (λx hx G3 a c l3 hr hc=>JC hr hc (hm.li x hx) (h0.lvs x hx)) V6 lG (by simp only [N3] at hb ⊢;omega) h)).mono ?_;rintro _ F8 ⟨G8,s8,rfl,l8,h⟩;replace lG:=aa lG l8;refine ⟨rfl,?_⟩;refine (Fx (gp (L:=mh) hs.f (aF hr rfl) (by decide) hm.f cbW.2.2.2.2.2.1 eFi (λp=> #[pc bc,p]) (λ_=>by simp) (λx hx G3 a c l3 hr hc=>FD hr hc (hm.fi x hx) (h0.fils x hx)) V7 lG (by simp only [N3] at hb ⊢;omega) h)).mono ?_;rintro _ F9 ⟨G9,s9,rfl,l9,h⟩;exact ⟨rfl,G9,s9,rfl,aa l2 (aa l3 (aa l4 (aa l5 (aa l6 (aa l7 (aa l8 l9)))))),qq h (by simp only [Xz])⟩
end
theorem nT {F:PH} {v:Γ} {g:Gr} (hT:Tab F) (hg:GV F v g) (hz:Sz g) (hm:Sm g) (hn:bW g=0->NN g/\(eGr g).length<=100000000000):
  ae prog 14 #[.agg v] F λr F'=>(∃s:Sl,r=.tuple #[s.v,vi (bW g)]/\RdS F' s 1 ((if bW g=0 then eGr g else []).map vB))/\F.le F':=by
 have hg0:=hg;obtain ⟨c,n,t,s,p,l,f,rfl,hs⟩:=hg;refine WQ ?_;unfold Th;refine fresh λb1 F1 l1 q1 _=>⟨_,hg0.size,aj q1,?_⟩;refine (gb (hT.le l1) (hg0.le l1) hz).mono ?_;rintro _ F2 ⟨rfl,l2⟩;have l12:=aa l1 l2;refine ⟨_,rfl,λh=>⟨⟨Sl.nil,rfl,?_⟩,l12⟩,λh0=> ?_⟩
 ·rw [if_neg h];exact RdS.nil _ _
 have h0:bW g=0:=Classical.not_not.1 h0;obtain ⟨hnn,hlen⟩:=hn h0;refine (St.start F2).new λb12 F3 h=> ?_;replace h:=h.nilOwn 5 1;refine (DZ (aj (l2 _ _ q1)) (hs.le l12) hm hnn).go (out:=[]) (am _) (by simpa using hlen) h λG4 F4 s4 l4 h=>⟨rfl,_,h.ld1 rfl,⟨s4,?_,?_⟩,aa l12 (aa l4 h.le)⟩
 ·rw [h0]
 ·rw [if_pos h0];exact (h.ownAt (i:=0) rfl).1.rd
end Go.Proofs.YtenpmjhnhepfdaaGreatDoor
