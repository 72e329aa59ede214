/-
  The codec that writes: tokens, productions, levels, filters, grammars; Encode. Printed in part by a program (mkHr.py).
-/
import Derived.Test.YtenpmjhnhepfdaaGreatDoorHp
namespace Go.Proofs.YtenpmjhnhepfdaaGreatDoor
open Go Go.Proofs.Tryz
set_option maxRecDepth 10000
theorem fj (a:Addr) (i j:Nat):Addr.add (Addr.add a i) j=Addr.add a (i+j):=by
 unfold Addr.add
 by_cases hi:i=0
 ·simp [hi]
 ·by_cases hj:j=0
  ·simp [hj]
  ·simp [hi,hj,Nat.add_assoc]
theorem jr {F:PH} {a:Addr} {c d:Array Value} {o:Nat} (h:F.row a c) (hd:(c.toList.drop o).take d.size=d.toList):F.row (a.add o) d:=by
 intro i hi
 rw [fj]
 have:=congrArg (fun l=>l[i]?) hd
 simp only [List.getElem?_take_of_lt hi,List.getElem?_drop,Array.getElem?_toList] at this
 exact aD h (this.trans (by simp [hi]))
theorem cbW:aB prog 119=true∧aB prog 125=true∧aB prog 122=true∧aB prog 124=true∧aB prog 127=true∧aB prog 129=true∧
 aB prog 180=true∧aB prog 183=true∧aB prog 185=true∧aB prog 188=true:=by
 refine ⟨?_,?_,?_,?_,?_,?_,?_,?_,?_,?_⟩<;>kernel_rfl
section
variable {G:PH} {bc:Nat}
theorem eR {a:Addr} {x:Int} (h0:0≤x) (ha:G.cell a=some (vi x)):WrS G bc 125 #[pc bc,.pointer (some a)] (.tuple #[]) (eI x):=by
 obtain ⟨n,rfl⟩:=Int.eq_ofNat_of_zero_le h0
 exact jt ha
theorem MK:eB true=fL 1:=(fM (by decide)).symm
theorem ML:eB false=fL 0:=(fM (by decide)).symm
theorem ib {b:Nat} {al:List Addr} {xs:List Int} {e:TypeId} (q:G b=some (.cells (al.map fun a=>Value.pointer (some a)).toArray e)) (hl:al.length=xs.length) (hll:xs.length≤100)
  (ha:∀(i:Nat) a x,al[i]? =some a→xs[i]? =some x→G.cell a=some (vi x)∧0≤x):
  WrS G bc 181 #[pc bc,Sl.v ⟨some (Addr.mk b 0 none),al.length,al.length⟩] (.tuple #[]) (xs.flatMap eI):=by
 intro G1 F s out l hb h
 refine LV ?_
 unfold FI
 refine cv (sk · (some (Addr.mk bc 0 none)) ⟨some (Addr.mk b 0 none),al.length,al.length⟩ _) xs.length (fun j F'=>∃G3 s3,G1.le G3∧St G3 F' (cod bc s3 (out++(xs.take j).flatMap eI))) ⟨G1,s,le_refl' _,by simpa using h⟩ ?_
 rintro j F3 N hj ⟨G3,s3,l3,h⟩ next
 unfold sk
 have l03:=aa l l3
 refine ⟨fun hlt=> ?_,fun hge=> ?_⟩
 ·simp only at hlt
  have hlt:j<xs.length:=by omega
  have hx:=List.getElem?_eq_getElem hlt
  have haj:=List.getElem?_eq_getElem (l:=al) (by omega:j<al.length)
  obtain ⟨h1,h2⟩:=ha j _ _ haj hx
  refine ⟨_,rfl,by omega,by simp only;omega,some al[j],?_,?_⟩
  ·rw [Int.toNat_natCast,aI,Nat.mul_one,Nat.zero_add,am (h.le _ _ (l03 _ _ q))]
   simp [haj]
  ·have hp:=fN eI xs (j+1)
   have e:=iW eI hx
   rw [e,List.length_append] at hp
   refine (eR h2 h1).go l03 (by rw [List.length_append];omega) h fun G4 F4 s4 l4 h=>⟨rfl,?_⟩
   rw [aT hlt (by omega)]
   refine next _ hlt ⟨G4,s4,aa l3 l4,?_⟩
   rw [e,← List.append_assoc]
   exact h
 ·simp only at hge
  have e:j=xs.length:=by omega
  subst e
  rw [List.take_length] at h
  exact ⟨G3,s3,rfl,l3,h⟩
theorem uE {a:Addr} {b:Bool} (ha:G.cell a=some (.bool b)):WrS G bc 186 #[pc bc,.pointer (some a)] (.tuple #[]) (eB b):=by
 intro G1 F s out l hb h
 refine L4 ?_
 unfold FL
 refine h.new fun b4 F2 h=> ?_
 refine h.set0 (by simp) rfl fun F3 h=>⟨_,rfl,_,aq (aa l h.le) ha,fun hbt=> ?_,fun hbf=> ?_⟩
 ·subst hbt
  rw [MK] at hb ⊢
  refine h.set0 (w':= #[vi 1]) (by simp) rfl fun F4 h=> ?_
  refine h.pinb (K:=fun F4=>iC (some (Addr.mk bc 0 none)) (some a) b4 _ F4) fun G5 l5 q5 h=> ?_
  unfold iC
  exact (jt (n:=1) (ld q5 rfl)).go (le_refl' _) hb h fun G6 F6 s6 l6 h=>⟨rfl,_,rfl,_,h.ld1 rfl,fun h=>(by cases h),fun _=>⟨G6,s6,rfl,aa l5 l6,h⟩⟩
 ·subst hbf
  rw [ML] at hb ⊢
  refine h.pinb (K:=fun F4=>iC (some (Addr.mk bc 0 none)) (some a) b4 _ F4) fun G5 l5 q5 h=> ?_
  unfold iC
  exact (jt (n:=0) (ld q5 rfl)).go (le_refl' _) hb h fun G6 F6 s6 l6 h=>⟨rfl,_,rfl,_,h.ld1 rfl,fun h=>(by cases h),fun _=>⟨G6,s6,rfl,aa l5 l6,h⟩⟩
theorem z8 {b2:Nat} {a:Addr} {c:Array Value} {x:Br} (q:G.cell (Addr.mk b2 0 none)=some (pc bc)) (hr:G.row a c) (hc:Mem.rep G x c) (h0:0≤x.v∧0≤x.l∧0≤x.h):
  WrS G bc 180 #[.pointer (some a),.pointer (some (Addr.mk b2 0 none))] (.tuple #[]) (eBr x):=by
 intro G1 F s out l hb h
 rw [show c=aO x from hc] at hr
 refine LU ?_
 unfold FH
 refine ⟨_,rfl,_,aq (aa l h.le) q,_,rfl,?_⟩
 refine h.newG fun b13 G2 F2 l2 q13 _ h=> ?_
 have e:[x.v,x.l,x.h].flatMap eI=eBr x:=by simp [eBr]
 rw [← e] at hb ⊢
 refine (ib (al:=[a,a.add 1,a.add 2]) (xs:=[x.v,x.l,x.h]) q13 rfl (by simp) fun i a' y h1 h2=> ?_).go (le_refl' _) hb h fun G3 F3 s3 l3 h=>⟨rfl,G3,s3,rfl,aa l2 l3,h⟩
 have l02:=aa l l2
 match i with
 |0=>cases h1;cases h2;exact ⟨aq l02 (aK hr rfl),h0.1⟩
 |1=>cases h1;cases h2;exact ⟨aq l02 (aD hr rfl),h0.2.1⟩
 |2=>cases h1;cases h2;exact ⟨aq l02 (aD hr rfl),h0.2.2⟩
 |i+3=>simp at h1
theorem Gz {b2:Nat} {a:Addr} {c:Array Value} {x:Nd} (q:G.cell (Addr.mk b2 0 none)=some (pc bc)) (hr:G.row a c) (hc:Mem.rep G x c) (h0:0≤x.k∧0≤x.lo∧0≤x.hi∧0≤x.a∧0≤x.b):
  WrS G bc 183 #[.pointer (some a),.pointer (some (Addr.mk b2 0 none))] (.tuple #[]) (eNd x):=by
 intro G1 F s out l hb h
 rw [show c=x.arr from hc] at hr
 refine LY ?_
 unfold FJ
 refine ⟨_,rfl,_,aq (aa l h.le) q,_,rfl,?_⟩
 refine h.newG fun b13 G2 F2 l2 q13 _ h=> ?_
 have e:[x.k,x.lo,x.hi,x.a,x.b].flatMap eI=eNd x:=by simp [eNd]
 rw [← e] at hb ⊢
 refine (ib (al:=[a,a.add 1,a.add 2,a.add 3,a.add 4]) (xs:=[x.k,x.lo,x.hi,x.a,x.b]) q13 rfl (by simp) fun i a' y h1 h2=> ?_).go (le_refl' _) hb h fun G3 F3 s3 l3 h=>⟨rfl,G3,s3,rfl,aa l2 l3,h⟩
 have l02:=aa l l2
 match i with
 |0=>cases h1;cases h2;exact ⟨aq l02 (aK hr rfl),h0.1⟩
 |1=>cases h1;cases h2;exact ⟨aq l02 (aD hr rfl),h0.2.1⟩
 |2=>cases h1;cases h2;exact ⟨aq l02 (aD hr rfl),h0.2.2.1⟩
 |3=>cases h1;cases h2;exact ⟨aq l02 (aD hr rfl),h0.2.2.2.1⟩
 |4=>cases h1;cases h2;exact ⟨aq l02 (aD hr rfl),h0.2.2.2.2⟩
 |i+5=>simp at h1
theorem rk {b2:Nat} {a:Addr} {c:Array Value} {x:Cn} (q:G.cell (Addr.mk b2 0 none)=some (pc bc)) (hr:G.row a c) (hc:Mem.rep G x c) (h0:0≤x.k∧0≤x.a∧0≤x.b):
  WrS G bc 188 #[.pointer (some a),.pointer (some (Addr.mk b2 0 none))] (.tuple #[]) (eCn x):=by
 intro G1 F s out l hb h
 rw [show c=x.arr from hc] at hr
 refine L7 ?_
 unfold FM
 refine ⟨_,rfl,_,aq (aa l h.le) q,_,rfl,?_⟩
 refine h.newG fun b13 G2 F2 l2 q13 _ h=> ?_
 have e:[x.k,x.a,x.b].flatMap eI=eCn x:=by simp [eCn]
 rw [← e] at hb ⊢
 refine (ib (al:=[a,a.add 1,a.add 2]) (xs:=[x.k,x.a,x.b]) q13 rfl (by simp) fun i a' y h1 h2=> ?_).go (le_refl' _) hb h fun G3 F3 s3 l3 h=>⟨rfl,G3,s3,rfl,aa l2 l3,h⟩
 have l02:=aa l l2
 match i with
 |0=>cases h1;cases h2;exact ⟨aq l02 (aK hr rfl),h0.1⟩
 |1=>cases h1;cases h2;exact ⟨aq l02 (aD hr rfl),h0.2.1⟩
 |2=>cases h1;cases h2;exact ⟨aq l02 (aD hr rfl),h0.2.2⟩
 |i+3=>simp at h1
theorem Aa {b2:Nat} {a:Addr} {c:Array Value} {x:Sy} (q:G.cell (Addr.mk b2 0 none)=some (pc bc)) (hr:G.row a c) (hc:Mem.rep G x c) (h0:0≤x.i):
  WrS G bc 185 #[.pointer (some a),.pointer (some (Addr.mk b2 0 none))] (.tuple #[]) (eSy x):=by
 intro G1 F s out l hb h
 rw [show c=x.arr from hc] at hr
 unfold eSy at hb ⊢
 rw [List.length_append] at hb
 refine L3 ?_
 unfold FK
 refine ⟨_,rfl,_,aq (aa l h.le) q,_,rfl,?_⟩
 refine (uE (aq l (aK hr rfl))).go (le_refl' _) (by omega) h fun G3 F3 s3 l3 h=>⟨rfl,_,aq (aa l (aa l3 h.le)) q,?_⟩
 refine (eR h0 (aq (aa l l3) (aD hr rfl))).go (le_refl' _) (by rw [List.length_append];omega) h fun G4 F4 s4 l4 h=>⟨rfl,G4,s4,rfl,aa l3 l4,?_⟩
 rw [← List.append_assoc]
 exact h
theorem MM:∀N c0 l1 o v R i F,∃X,mA N c0 l1 o v R i F=gj 3 X N c0 l1 o v R i F:=fun _ _ _ _ _ _ _ _=>⟨_,rfl⟩
theorem GA {c0 l1:Option Addr} {o:Value} {R:VR} {F:PH} (h:gA mA c0 l1 o R F):ae prog 179 #[.pointer c0,.pointer l1,o] F R:=LQ h
theorem tu {a:Addr} {n:Sl} {d:Dia} (hr:G.row a #[n.v,vi d.2]) (hn:RL G n d.1) (hl:d.1.length≤1000000000) (h0:(∀b∈d.1,0≤b.v∧0≤b.l∧0≤b.h)∧0≤d.2):
  WrS G bc 120 #[pc bc,.pointer (some a)] (.tuple #[]) (eD d):=by
 intro G1 F s out l hb h
 unfold eD at hb ⊢
 rw [List.length_append] at hb
 refine La ?_
 unfold Fo
 refine h.newG fun b2 G2 F2 l2 q2 _ h=>⟨_,ld (h.le _ _ q2) rfl,_,rfl,?_⟩
 have l02:=aa l l2
 refine (GA (eT (L:=mA) (hn.le l02) (aq l02 (aK hr rfl)) (by decide) hl cbW.2.2.2.2.2.2.1 eBr (fun p=> #[p,.pointer (some (Addr.mk b2 0 none))]) (fun _=>by simp)
  (fun x hx G3 a c l3 hr hc=>z8 (ld (l3 _ _ q2) rfl) hr hc (h0.1 x hx)) MM (le_refl' _) (by omega) h)).mono ?_
 rintro _ F3 ⟨G3,s3,rfl,l3,h⟩
 refine ⟨rfl,_,ld (h.le _ _ (l3 _ _ q2)) rfl,?_⟩
 refine (eR h0.2 (aq (aa l02 l3) (aD hr rfl))).go (le_refl' _) (by rw [List.length_append];omega) h fun G4 F4 s4 l4 h=>⟨rfl,G4,s4,rfl,aa l2 (aa l3 l4),?_⟩
 rw [← List.append_assoc]
 exact h
end
theorem St.pinE {G F:PH} {As:List (PH→Prop)} {b:Nat} {o:Obj} (h:St G F (pt b o::As)):∃G',G.le G'∧G' b=some o∧St G' F As:=by
 obtain ⟨G',h1,⟨H,hA,hH⟩,h2⟩:=h.pin
 exact ⟨G',h1,hH _ _ hA,h2⟩
theorem shS:∀N c0 l1 o v R i F,∃X,mo N c0 l1 o v R i F=gj 1 X N c0 l1 o v R i F:=fun _ _ _ _ _ _ _ _=>⟨_,rfl⟩
theorem Ip {c0 l1:Option Addr} {o:Value} {R:VR} {F:PH} (h:gA mo c0 l1 o R F):ae prog 118 #[.pointer c0,.pointer l1,o] F R:=KZ h
theorem MN:∀N c0 l1 o v R i F,∃X,mp N c0 l1 o v R i F=gj 7 X N c0 l1 o v R i F:=fun _ _ _ _ _ _ _ _=>⟨_,rfl⟩
theorem GB {c0 l1:Option Addr} {o:Value} {R:VR} {F:PH} (h:gA mp c0 l1 o R F):ae prog 121 #[.pointer c0,.pointer l1,o] F R:=Ld h
theorem MO:∀N c0 l1 o v R i F,∃X,mq N c0 l1 o v R i F=gj 13 X N c0 l1 o v R i F:=fun _ _ _ _ _ _ _ _=>⟨_,rfl⟩
theorem GC {c0 l1:Option Addr} {o:Value} {R:VR} {F:PH} (h:gA mq c0 l1 o R F):ae prog 123 #[.pointer c0,.pointer l1,o] F R:=Lh h
theorem MP:∀N c0 l1 o v R i F,∃X,mr N c0 l1 o v R i F=gj 4 X N c0 l1 o v R i F:=fun _ _ _ _ _ _ _ _=>⟨_,rfl⟩
theorem GD {c0 l1:Option Addr} {o:Value} {R:VR} {F:PH} (h:gA mr c0 l1 o R F):ae prog 126 #[.pointer c0,.pointer l1,o] F R:=Lu h
theorem MQ:∀N c0 l1 o v R i F,∃X,ms N c0 l1 o v R i F=gj 9 X N c0 l1 o v R i F:=fun _ _ _ _ _ _ _ _=>⟨_,rfl⟩
theorem GE {c0 l1:Option Addr} {o:Value} {R:VR} {F:PH} (h:gA ms c0 l1 o R F):ae prog 128 #[.pointer c0,.pointer l1,o] F R:=Lz h
theorem MR:∀N c0 l1 o v R i F,∃X,mB N c0 l1 o v R i F=gj 5 X N c0 l1 o v R i F:=fun _ _ _ _ _ _ _ _=>⟨_,rfl⟩
theorem GF {c0 l1:Option Addr} {o:Value} {R:VR} {F:PH} (h:gA mB c0 l1 o R F):ae prog 182 #[.pointer c0,.pointer l1,o] F R:=LX h
theorem MS:∀N c0 l1 o v R i F,∃X,mC N c0 l1 o v R i F=gj 2 X N c0 l1 o v R i F:=fun _ _ _ _ _ _ _ _=>⟨_,rfl⟩
theorem GG {c0 l1:Option Addr} {o:Value} {R:VR} {F:PH} (h:gA mC c0 l1 o R F):ae prog 184 #[.pointer c0,.pointer l1,o] F R:=L0 h
theorem MT:∀N c0 l1 o v R i F,∃X,mD N c0 l1 o v R i F=gj 3 X N c0 l1 o v R i F:=fun _ _ _ _ _ _ _ _=>⟨_,rfl⟩
theorem GH {c0 l1:Option Addr} {o:Value} {R:VR} {F:PH} (h:gA mD c0 l1 o R F):ae prog 187 #[.pointer c0,.pointer l1,o] F R:=L6 h
theorem shI:∀N c0 l1 o v R i F,∃X,mE N c0 l1 o v R i F=gj 1 X N c0 l1 o v R i F:=fun _ _ _ _ _ _ _ _=>⟨_,rfl⟩
theorem Iq {c0 l1:Option Addr} {o:Value} {R:VR} {F:PH} (h:gA mE c0 l1 o R F):ae prog 189 #[.pointer c0,.pointer l1,o] F R:=L9 h
section
variable {G:PH} {bc:Nat}
theorem Ab {la:Addr} {sl:Sl} {l:List ByteArray} (hl:RL G sl l) (hla:G.cell la=some sl.v) (hll:l.length≤1000000000):WrS G bc 118 #[pc bc,.pointer (some la),.func (.func 119) #[pc bc] #[]] (.tuple #[]) (eL eS l):=by
 intro G1 F s out l1 hb h
 exact Ip (eT (L:=mo) hl hla (by decide) hll cbW.1 eS (fun p=> #[pc bc,p]) (fun _=>by simp) (fun x hx G3 a c l3 hr hc=>nk (aK hr (by rw [show c= #[.string x] from hc];rfl))) shS l1 hb h)
theorem Ac {la:Addr} {sl:Sl} {l:List Int} (hl:RL G sl l) (hla:G.cell la=some sl.v) (hll:l.length≤1000000000) (h0:∀x∈l,0≤x):WrS G bc 189 #[pc bc,.pointer (some la),.func (.func 125) #[pc bc] #[]] (.tuple #[]) (eL eI l):=by
 intro G1 F s out l1 hb h
 exact Iq (eT (L:=mE) hl hla (by decide) hll cbW.2.1 eI (fun p=> #[pc bc,p]) (fun _=>by simp) (fun x hx G3 a c l3 hr hc=>eR (h0 x hx) (aK hr (by rw [show c= #[vi x] from hc];rfl))) shI l1 hb h)
theorem CL {la:Addr} {sl:Sl} {l:List Nd} {b2:Nat} (q:G.cell (Addr.mk b2 0 none)=some (pc bc)) (hl:RL G sl l) (hla:G.cell la=some sl.v) (hll:l.length≤1000000000) (h0:∀x∈l,0≤x.k∧0≤x.lo∧0≤x.hi∧0≤x.a∧0≤x.b):WrS G bc 182 #[pc bc,.pointer (some la),.func (.func 183) #[] #[.pointer (some (Addr.mk b2 0 none))]] (.tuple #[]) (eL eNd l):=by
 intro G1 F s out l1 hb h
 exact GF (eT (L:=mB) hl hla (by decide) hll cbW.2.2.2.2.2.2.2.1 eNd (fun p=> #[p,.pointer (some (Addr.mk b2 0 none))]) (fun _=>by simp) (fun x hx G3 a c l3 hr hc=>Gz (aq l3 q) hr hc (h0 x hx)) MR l1 hb h)
theorem GI {la:Addr} {sl:Sl} {l:List Sy} {b2:Nat} (q:G.cell (Addr.mk b2 0 none)=some (pc bc)) (hl:RL G sl l) (hla:G.cell la=some sl.v) (hll:l.length≤1000000000) (h0:∀x∈l,0≤x.i):WrS G bc 184 #[pc bc,.pointer (some la),.func (.func 185) #[] #[.pointer (some (Addr.mk b2 0 none))]] (.tuple #[]) (eL eSy l):=by
 intro G1 F s out l1 hb h
 exact GG (eT (L:=mC) hl hla (by decide) hll cbW.2.2.2.2.2.2.2.2.1 eSy (fun p=> #[p,.pointer (some (Addr.mk b2 0 none))]) (fun _=>by simp) (fun x hx G3 a c l3 hr hc=>Aa (aq l3 q) hr hc (h0 x hx)) MS l1 hb h)
theorem GJ {la:Addr} {sl:Sl} {l:List Cn} {b2:Nat} (q:G.cell (Addr.mk b2 0 none)=some (pc bc)) (hl:RL G sl l) (hla:G.cell la=some sl.v) (hll:l.length≤1000000000) (h0:∀x∈l,0≤x.k∧0≤x.a∧0≤x.b):WrS G bc 187 #[pc bc,.pointer (some la),.func (.func 188) #[] #[.pointer (some (Addr.mk b2 0 none))]] (.tuple #[]) (eL eCn l):=by
 intro G1 F s out l1 hb h
 exact GH (eT (L:=mD) hl hla (by decide) hll cbW.2.2.2.2.2.2.2.2.2 eCn (fun p=> #[p,.pointer (some (Addr.mk b2 0 none))]) (fun _=>by simp) (fun x hx G3 a c l3 hr hc=>rk (aq l3 q) hr hc (h0 x hx)) MT l1 hb h)
theorem nf {G F:PH} {bc:Nat} {s:Sl} {o p:List Nat} (h:St G F (cod bc s o)) (e:o=p):St G F (cod bc s p):=by rw [← e];exact h
theorem CM {a:Addr} {c:Array Value} {x:Tk} (hr:G.row a c) (hc:Mem.rep G x c) (hl:x.pat.length≤1000000000∧x.cond.1.length≤1000000000)
  (h0:0≤x.cls∧(∀y∈x.pat,0≤y.k∧0≤y.lo∧0≤y.hi∧0≤y.a∧0≤y.b)∧(∀b∈x.cond.1,0≤b.v∧0≤b.l∧0≤b.h)∧0≤x.cond.2):WrS G bc 122 #[pc bc,.pointer (some a)] (.tuple #[]) (eTk x):=by
 obtain ⟨pp,nn,rfl,hp,hn⟩:=hc
 intro G1 F s out l hb h
 unfold eTk at hb ⊢
 refine Le ?_
 unfold Fp
 refine h.newG fun b2 G2 F2 l2 q2 _ h=>⟨_,ld (h.le _ _ q2) rfl,_,rfl,?_⟩
 have l02:=aa l l2
 refine (nk (aq l02 (aK hr rfl))).go (le_refl' _) (by simp only [List.length_append] at hb ⊢;omega) h fun G3 F3 s3 l3 h=>⟨rfl,_,ld (h.le _ _ (l3 _ _ q2)) rfl,?_⟩
 refine (eR h0.1 (aq (aa l02 l3) (aD hr rfl))).go (le_refl' _) (by simp only [List.length_append] at hb ⊢;omega) h fun G4 F4 s4 l4 h=>⟨rfl,_,ld (h.le _ _ (l4 _ _ (l3 _ _ q2))) rfl,?_⟩
 replace l3:=aa l3 l4
 refine (nk (aq (aa l02 l3) (aD hr rfl))).go (le_refl' _) (by simp only [List.length_append] at hb ⊢;omega) h fun G5 F5 s5 l5 h=>⟨rfl,_,ld (h.le _ _ (l5 _ _ (l3 _ _ q2))) rfl,?_⟩
 replace l3:=aa l3 l5
 refine (CL (ld (l3 _ _ q2) rfl) (hp.le (aa l02 l3)) (aq (aa l02 l3) (aD hr rfl)) hl.1 h0.2.1).go (le_refl' _) (by simp only [List.length_append] at hb ⊢;omega) h fun G6 F6 s6 l6 h=>⟨rfl,_,ld (h.le _ _ (l6 _ _ (l3 _ _ q2))) rfl,?_⟩
 replace l3:=aa l3 l6
 refine (nk (aq (aa l02 l3) (aD hr rfl))).go (le_refl' _) (by simp only [List.length_append] at hb ⊢;omega) h fun G7 F7 s7 l7 h=>⟨rfl,_,ld (h.le _ _ (l7 _ _ (l3 _ _ q2))) rfl,?_⟩
 replace l3:=aa l3 l7
 refine (tu (d:=x.cond) (jr (kK (aa l02 l3) hr) (o:=5) rfl) (hn.le (aa l02 l3)) hl.2 h0.2.2).go (le_refl' _) (by simp only [List.length_append] at hb ⊢;omega) h fun G8 F8 s8 l8 h=>⟨rfl,G8,s8,rfl,aa l2 (aa l3 l8),nf h (by simp only [List.append_assoc])⟩
theorem rm {a:Addr} {c:Array Value} {x:Pr} (hr:G.row a c) (hc:Mem.rep G x c) (hl:x.right.length≤1000000000∧x.cond.1.length≤1000000000∧x.lay.length≤1000000000)
  (h0:0≤x.left∧(∀s∈x.right,0≤s.i)∧((∀b∈x.cond.1,0≤b.v∧0≤b.l∧0≤b.h)∧0≤x.cond.2)∧-1≤x.rank∧x.rank≤1∧(∀y∈x.lay,0≤y.k∧0≤y.a∧0≤y.b)∧0≤x.sco.d∧0≤x.sco.k∧0≤x.sco.u∧0≤x.sco.a):
  WrS G bc 124 #[pc bc,.pointer (some a)] (.tuple #[]) (ePr x):=by
 obtain ⟨pp,nn,mm,rfl,hp,hn,hm⟩:=hc
 intro G1 F s out l hb h
 unfold ePr It at hb ⊢
 refine Lj ?_
 unfold Fq
 refine h.newG fun b2 G2 F2 l2 q2 _ h=>⟨_,ld (h.le _ _ q2) rfl,_,rfl,?_⟩
 have l02:=aa l l2
 refine (nk (aq l02 (aK hr rfl))).go (le_refl' _) (by simp only [List.length_append] at hb ⊢;omega) h fun G3 F3 s3 l3 h=>⟨rfl,_,ld (h.le _ _ (l3 _ _ q2)) rfl,?_⟩
 refine (eR h0.1 (aq (aa l02 l3) (aD hr rfl))).go (le_refl' _) (by simp only [List.length_append] at hb ⊢;omega) h fun G4 F4 s4 l4 h=>⟨rfl,_,ld (h.le _ _ (l4 _ _ (l3 _ _ q2))) rfl,?_⟩
 replace l3:=aa l3 l4
 refine (GI (ld (l3 _ _ q2) rfl) (hp.le (aa l02 l3)) (aq (aa l02 l3) (aD hr rfl)) hl.1 h0.2.1).go (le_refl' _) (by simp only [List.length_append] at hb ⊢;omega) h fun G6 F6 s6 l6 h=>⟨rfl,_,ld (h.le _ _ (l6 _ _ (l3 _ _ q2))) rfl,?_⟩
 replace l3:=aa l3 l6
 refine (tu (d:=x.cond) (jr (kK (aa l02 l3) hr) (o:=3) rfl) (hn.le (aa l02 l3)) hl.2.1 h0.2.2.1).go (le_refl' _) (by simp only [List.length_append] at hb ⊢;omega) h fun G7 F7 s7 l7 h=>⟨rfl,_,ld (h.le _ _ (l7 _ _ (l3 _ _ q2))) rfl,?_⟩
 replace l3:=aa l3 l7
 refine (uE (aq (aa l02 l3) (aD hr rfl))).go (le_refl' _) (by simp only [List.length_append] at hb ⊢;omega) h fun G8 F8 s8 l8 h=>⟨rfl,_,aq (aa (aa l02 l3) (aa l8 h.le)) (aD hr rfl),?_⟩
 replace l3:=aa l3 l8
 have ew:IntKind.i64.wrap (x.rank+1)=x.rank+1:=aM (by omega) (by omega)
 dsimp only
 rw [ew]
 refine h.new fun b4 F9 h=> ?_
 refine h.set0 (w':= #[vi (x.rank+1)]) (by simp) rfl fun F10 h=> ?_
 obtain ⟨G11,l11,q4,h⟩:=h.pinE
 refine ⟨_,ld (h.le _ _ (l11 _ _ (l3 _ _ q2))) rfl,?_⟩
 replace l3:=aa l3 l11
 refine (eR (by omega) (ld q4 rfl)).go (le_refl' _) (by simp only [List.length_append] at hb ⊢;omega) h fun G12 F12 s12 l12 h=>⟨rfl,_,ld (h.le _ _ (l12 _ _ (l3 _ _ q2))) rfl,_,rfl,_,h.ld1 rfl,fun h=>(by cases h),fun _=> ?_⟩
 replace l3:=aa l3 l12
 unfold r8
 refine ⟨_,ld (h.le _ _ (l3 _ _ q2)) rfl,?_⟩
 refine (GJ (ld (l3 _ _ q2) rfl) (hm.le (aa l02 l3)) (aq (aa l02 l3) (aD hr rfl)) hl.2.2 h0.2.2.2.2.2.1).go (le_refl' _) (by simp only [List.length_append] at hb ⊢;omega) h fun G13 F13 s13 l13 h=>⟨rfl,_,ld (h.le _ _ (l13 _ _ (l3 _ _ q2))) rfl,?_⟩
 replace l3:=aa l3 l13
 refine (uE (aq (aa l02 l3) (aD hr rfl))).go (le_refl' _) (by simp only [List.length_append] at hb ⊢;omega) h fun G14 F14 s14 l14 h=>⟨rfl,_,ld (h.le _ _ (l14 _ _ (l3 _ _ q2))) rfl,?_⟩
 replace l3:=aa l3 l14
 refine h.newG fun b15 G15 F15 l15 q15 _ h=> ?_
 replace l3:=aa l3 l15
 have l03:=aa l02 l3
 have e:[x.sco.d,x.sco.k,x.sco.u,x.sco.a].flatMap eI=eI x.sco.d++eI x.sco.k++eI x.sco.u++eI x.sco.a:=by simp
 refine (ib (al:=[Addr.add (a.add 8) 1,Addr.add (a.add 8) 2,Addr.add (a.add 8) 3,Addr.add (a.add 8) 4]) (xs:=[x.sco.d,x.sco.k,x.sco.u,x.sco.a]) q15 rfl (by simp) fun i a' y h1 h2=> ?_).go (le_refl' _) (by rw [e];simp only [List.length_append] at hb ⊢;omega) h fun G16 F16 s16 l16 h=>⟨rfl,G16,s16,rfl,aa l2 (aa l3 l16),nf h (by rw [e];simp only [List.append_assoc])⟩
 match i with
 |0=>cases h1;cases h2;exact ⟨by rw [fj];exact aq l03 (aD hr rfl),h0.2.2.2.2.2.2.1⟩
 |1=>cases h1;cases h2;exact ⟨by rw [fj];exact aq l03 (aD hr rfl),h0.2.2.2.2.2.2.2.1⟩
 |2=>cases h1;cases h2;exact ⟨by rw [fj];exact aq l03 (aD hr rfl),h0.2.2.2.2.2.2.2.2.1⟩
 |3=>cases h1;cases h2;exact ⟨by rw [fj];exact aq l03 (aD hr rfl),h0.2.2.2.2.2.2.2.2.2⟩
 |i+4=>simp at h1
theorem CN {a:Addr} {c:Array Value} {x:Lv} (hr:G.row a c) (hc:Mem.rep G x c) (hl:x.ps.length≤1000000000∧x.cond.1.length≤1000000000)
  (h0:(∀y∈x.ps,0≤y)∧0≤x.assoc∧(∀b∈x.cond.1,0≤b.v∧0≤b.l∧0≤b.h)∧0≤x.cond.2):WrS G bc 127 #[pc bc,.pointer (some a)] (.tuple #[]) (eLv x):=by
 obtain ⟨pp,nn,rfl,hp,hn⟩:=hc
 intro G1 F s out l hb h
 unfold eLv at hb ⊢
 refine Lw ?_
 unfold Ft
 refine ⟨_,rfl,?_⟩
 refine (Ac hp (aK hr rfl) hl.1 h0.1).go l (by simp only [List.length_append] at hb ⊢;omega) h fun G3 F3 s3 l3 h=>⟨rfl,?_⟩
 refine (eR h0.2.1 (aD hr rfl)).go (aa l l3) (by simp only [List.length_append] at hb ⊢;omega) h fun G4 F4 s4 l4 h=>⟨rfl,?_⟩
 refine (tu (d:=x.cond) (jr hr (o:=2) rfl) hn hl.2 h0.2.2).go (aa l (aa l3 l4)) (by simp only [List.length_append] at hb ⊢;omega) h fun G8 F8 s8 l8 h=>⟨rfl,G8,s8,rfl,aa l3 (aa l4 l8),nf h (by simp only [List.append_assoc])⟩
theorem Ad {a:Addr} {c:Array Value} {x:Fi} (hr:G.row a c) (hc:Mem.rep G x c) (hl:x.toks.length≤1000000000∧x.cond.1.length≤1000000000)
  (h0:0≤x.k∧0≤x.par∧0≤x.pos∧0≤x.ch∧0≤x.left∧0≤x.tok∧(∀y∈x.toks,0≤y)∧(∀b∈x.cond.1,0≤b.v∧0≤b.l∧0≤b.h)∧0≤x.cond.2):WrS G bc 129 #[pc bc,.pointer (some a)] (.tuple #[]) (eFi x):=by
 obtain ⟨pp,nn,rfl,hp,hn⟩:=hc
 intro G1 F s out l hb h
 have e6:[x.k,x.par,x.pos,x.ch,x.left,x.tok].flatMap eI=eI x.k++eI x.par++eI x.pos++eI x.ch++eI x.left++eI x.tok:=by simp
 unfold eFi at hb ⊢
 rw [← e6] at hb ⊢
 refine LA ?_
 unfold Fu
 refine ⟨_,rfl,?_⟩
 refine h.newG fun b27 G2 F2 l2 q27 _ h=> ?_
 have l02:=aa l l2
 have key:∀(j:Nat) (y:Int),[x.k,x.par,x.pos,x.ch,x.left,x.tok][j]? =some y→0≤y∧∃a',(#[Value.pointer (some a),Value.pointer (some (Addr.add a 1)),Value.pointer (some (Addr.add a 2)),Value.pointer (some (Addr.add a 3)),Value.pointer (some (Addr.add a 4)),Value.pointer (some (Addr.add a 5))]:Array Value)[j]? =some (.pointer (some a'))∧G.cell a'=some (vi y):=by
  intro j y hy
  match j with
  |0=>cases hy;exact ⟨h0.1,_,rfl,aK hr rfl⟩
  |1=>cases hy;exact ⟨h0.2.1,_,rfl,aD hr rfl⟩
  |2=>cases hy;exact ⟨h0.2.2.1,_,rfl,aD hr rfl⟩
  |3=>cases hy;exact ⟨h0.2.2.2.1,_,rfl,aD hr rfl⟩
  |4=>cases hy;exact ⟨h0.2.2.2.2.1,_,rfl,aD hr rfl⟩
  |5=>cases hy;exact ⟨h0.2.2.2.2.2.1,_,rfl,aD hr rfl⟩
  |j+6=>simp at hy
 generalize hxs:[x.k,x.par,x.pos,x.ch,x.left,x.tok]=xs at*
 have hlen:xs.length=6:=by rw [← hxs];rfl
 refine cv (se · (some (Addr.mk bc 0 none)) a b27 _) xs.length (fun j F'=>∃G3 s3,G2.le G3∧St G3 F' (cod bc s3 (out++(xs.take j).flatMap eI))) ⟨G2,s,le_refl' _,by simpa using h⟩ ?_
 rintro j F3 N hj ⟨G3,s3,l3,h⟩ next
 unfold se
 refine ⟨fun hlt=> ?_,fun hge=> ?_⟩
 ·simp only at hlt
  have hlt:j<xs.length:=by omega
  have hx:=List.getElem?_eq_getElem hlt
  obtain ⟨h1,a',h2,h3⟩:=key j _ hx
  refine ⟨_,rfl,by omega,by simp only;omega,some a',?_,?_⟩
  ·rw [Int.toNat_natCast,aI,Nat.mul_one,Nat.zero_add,am (h.le _ _ (l3 _ _ q27))]
   exact h2
  ·have hp:=fN eI xs (j+1)
   have e:=iW eI hx
   rw [e,List.length_append] at hp
   refine (eR h1 h3).go (aa l02 l3) (by simp only [List.length_append] at hb ⊢;omega) h fun G4 F4 s4 l4 h=>⟨rfl,?_⟩
   rw [aT hlt (by omega)]
   refine next _ hlt ⟨G4,s4,aa l3 l4,?_⟩
   rw [e,← List.append_assoc]
   exact h
 ·simp only at hge
  have e:j=xs.length:=by omega
  subst e
  rw [List.take_length] at h
  unfold xL
  refine ⟨_,rfl,?_⟩
  have l03:=aa l02 l3
  refine (Ac hp (aD hr rfl) hl.1 h0.2.2.2.2.2.2.1).go l03 (by simp only [List.length_append] at hb ⊢;omega) h fun G4 F4 s4 l4 h=>⟨rfl,?_⟩
  refine (tu (d:=x.cond) (jr hr (o:=7) rfl) hn hl.2 h0.2.2.2.2.2.2.2).go (aa l03 l4) (by simp only [List.length_append] at hb ⊢;omega) h fun G8 F8 s8 l8 h=>⟨rfl,G8,s8,rfl,aa l2 (aa l3 (aa l4 l8)),nf h (by simp only [List.append_assoc])⟩
theorem yH {a:Addr} {g:Gr} {c n t s p l f:Sl} (hr:G.row a (g.arr c n t s p l f)) (hs:GS G g c n t s p l f) (hm:Sm g) (h0:NN g):WrS G bc 43 #[pc bc,.pointer (some a)] (.tuple #[]) (eGr g):=by
 intro G1 F sl out lG hb h
 unfold eGr at hb ⊢
 refine N0 ?_
 unfold KM
 refine ⟨_,rfl,?_⟩
 refine (Ab hs.c (aK hr rfl) hm.c).go lG (by simp only [List.length_append] at hb ⊢;omega) h fun G2 F2 s2 l2 h=>⟨rfl,?_⟩
 replace lG:=aa lG l2
 refine (tu (d:=g.fam) (jr hr (o:=1) rfl) hs.n hm.n h0.fam).go lG (by simp only [List.length_append] at hb ⊢;omega) h fun G3 F3 s3 l3 h=>⟨rfl,?_⟩
 replace lG:=aa lG l3
 refine (GB (eT (L:=mp) hs.t (aD hr rfl) (by decide) hm.t cbW.2.2.1 eTk (fun p=> #[pc bc,p]) (fun _=>by simp) (fun x hx G3 a c l3 hr hc=>CM hr hc (hm.ti x hx) (h0.toks x hx)) MN lG (by simp only [List.length_append] at hb ⊢;omega) h)).mono ?_
 rintro _ F4 ⟨G4,s4,rfl,l4,h⟩
 replace lG:=aa lG l4
 refine ⟨rfl,?_⟩
 refine (Ab hs.s (aD hr rfl) hm.s).go lG (by simp only [List.length_append] at hb ⊢;omega) h fun G5 F5 s5 l5 h=>⟨rfl,?_⟩
 replace lG:=aa lG l5
 refine (GC (eT (L:=mq) hs.p (aD hr rfl) (by decide) hm.p cbW.2.2.2.1 ePr (fun p=> #[pc bc,p]) (fun _=>by simp) (fun x hx G3 a c l3 hr hc=>rm hr hc (hm.pi x hx) (h0.prods x hx)) MO lG (by simp only [List.length_append] at hb ⊢;omega) h)).mono ?_
 rintro _ F6 ⟨G6,s6,rfl,l6,h⟩
 replace lG:=aa lG l6
 refine ⟨rfl,?_⟩
 refine (eR h0.start (aD hr rfl)).go lG (by simp only [List.length_append] at hb ⊢;omega) h fun G7 F7 s7 l7 h=>⟨rfl,?_⟩
 replace lG:=aa lG l7
 refine (GD (eT (L:=mr) hs.l (aD hr rfl) (by decide) hm.l cbW.2.2.2.2.1 eLv (fun p=> #[pc bc,p]) (fun _=>by simp) (fun x hx G3 a c l3 hr hc=>CN hr hc (hm.li x hx) (h0.lvs x hx)) MP lG (by simp only [List.length_append] at hb ⊢;omega) h)).mono ?_
 rintro _ F8 ⟨G8,s8,rfl,l8,h⟩
 replace lG:=aa lG l8
 refine ⟨rfl,?_⟩
 refine (GE (eT (L:=ms) hs.f (aD hr rfl) (by decide) hm.f cbW.2.2.2.2.2.1 eFi (fun p=> #[pc bc,p]) (fun _=>by simp) (fun x hx G3 a c l3 hr hc=>Ad hr hc (hm.fi x hx) (h0.fils x hx)) MQ lG (by simp only [List.length_append] at hb ⊢;omega) h)).mono ?_
 rintro _ F9 ⟨G9,s9,rfl,l9,h⟩
 exact ⟨rfl,G9,s9,rfl,aa l2 (aa l3 (aa l4 (aa l5 (aa l6 (aa l7 (aa l8 l9)))))),nf h (by simp only [List.append_assoc])⟩
end
theorem kU {F:PH} {v:Array Value} {g:Gr} (hT:Tab F) (hg:GV F v g) (hz:Sz g) (hm:Sm g) (hn:bC g=0→NN g∧(eGr g).length≤100000000000):
  ae prog 14 #[.agg v] F fun r F'=>(∃s:Sl,r=.tuple #[s.v,vi (bC g)]∧RdS F' s 1 ((if bC g=0 then eGr g else []).map vB))∧F.le F':=by
 have hg0:=hg
 obtain ⟨c,n,t,s,p,l,f,rfl,hs⟩:=hg
 refine NU ?_
 unfold KG
 refine fresh fun b1 F1 l1 q1 _=>⟨_,hg0.size,aj q1,?_⟩
 refine (dU (hT.le l1) (hg0.le l1) hz).mono ?_
 rintro _ F2 ⟨rfl,l2⟩
 have l12:=aa l1 l2
 refine ⟨_,rfl,fun h=>⟨⟨Sl.nil,rfl,?_⟩,l12⟩,fun h0=> ?_⟩
 ·rw [if_neg h];exact RdS.nil _ _
 have h0:bC g=0:=Classical.not_not.1 h0
 obtain ⟨hnn,hlen⟩:=hn h0
 refine (St.start F2).new fun b12 F3 h=> ?_
 replace h:=h.nilOwn 5 1
 refine (yH (aj (l2 _ _ q1)) (hs.le l12) hm hnn).go (out:=[]) (le_refl' _) (by simpa using hlen) h fun G4 F4 s4 l4 h=>⟨rfl,_,h.ld1 rfl,⟨s4,?_,?_⟩,aa l12 (aa l4 h.le)⟩
 ·rw [h0]
 ·rw [if_pos h0]
  exact (h.ownAt (i:=0) rfl).1.rd
end Go.Proofs.YtenpmjhnhepfdaaGreatDoor
