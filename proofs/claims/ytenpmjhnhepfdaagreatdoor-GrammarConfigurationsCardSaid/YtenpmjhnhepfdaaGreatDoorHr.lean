/-
  The codec that writes: tokens, productions, levels, filters, grammars; Encode. Printed in part by a program (mkHr.py).
-/
import Derived.Test.YtenpmjhnhepfdaaGreatDoorHq
namespace Go.Proofs.YtenpmjhnhepfdaaGreatDoor
open Go Go.Proofs.Tryz
set_option maxRecDepth 10000
theorem St.pinE {G F:PH} {As:List (PH→Prop)} {b:Nat} {o:Obj} (h:St G F (pt b o::As)):∃G',G.le G'∧G' b=some o∧St G' F As:=by
 obtain ⟨G',h1,⟨H,hA,hH⟩,h2⟩:=h.pin
 exact ⟨G',h1,hH _ _ hA,h2⟩
theorem shS:∀N c0 l1 o v R i F,∃X,mv N c0 l1 o v R i F=gn 1 X N c0 l1 o v R i F:=fun _ _ _ _ _ _ _ _=>⟨_,rfl⟩
theorem Jm {c0 l1:Option Addr} {o:Value} {R:VR} {F:PH} (h:gF mv c0 l1 o R F):ac prog 118 #[.pointer c0,.pointer l1,o] F R:=Mk h
theorem NG:∀N c0 l1 o v R i F,∃X,mw N c0 l1 o v R i F=gn 7 X N c0 l1 o v R i F:=fun _ _ _ _ _ _ _ _=>⟨_,rfl⟩
theorem He {c0 l1:Option Addr} {o:Value} {R:VR} {F:PH} (h:gF mw c0 l1 o R F):ac prog 121 #[.pointer c0,.pointer l1,o] F R:=Mo h
theorem NH:∀N c0 l1 o v R i F,∃X,mz N c0 l1 o v R i F=gn 13 X N c0 l1 o v R i F:=fun _ _ _ _ _ _ _ _=>⟨_,rfl⟩
theorem Hf {c0 l1:Option Addr} {o:Value} {R:VR} {F:PH} (h:gF mz c0 l1 o R F):ac prog 123 #[.pointer c0,.pointer l1,o] F R:=Mr h
theorem NI:∀N c0 l1 o v R i F,∃X,mA N c0 l1 o v R i F=gn 4 X N c0 l1 o v R i F:=fun _ _ _ _ _ _ _ _=>⟨_,rfl⟩
theorem Hg {c0 l1:Option Addr} {o:Value} {R:VR} {F:PH} (h:gF mA c0 l1 o R F):ac prog 126 #[.pointer c0,.pointer l1,o] F R:=Mv h
theorem NJ:∀N c0 l1 o v R i F,∃X,mB N c0 l1 o v R i F=gn 9 X N c0 l1 o v R i F:=fun _ _ _ _ _ _ _ _=>⟨_,rfl⟩
theorem Hh {c0 l1:Option Addr} {o:Value} {R:VR} {F:PH} (h:gF mB c0 l1 o R F):ac prog 128 #[.pointer c0,.pointer l1,o] F R:=My h
theorem NK:∀N c0 l1 o v R i F,∃X,mH N c0 l1 o v R i F=gn 5 X N c0 l1 o v R i F:=fun _ _ _ _ _ _ _ _=>⟨_,rfl⟩
theorem Hi {c0 l1:Option Addr} {o:Value} {R:VR} {F:PH} (h:gF mH c0 l1 o R F):ac prog 182 #[.pointer c0,.pointer l1,o] F R:=MS h
theorem NL:∀N c0 l1 o v R i F,∃X,mI N c0 l1 o v R i F=gn 2 X N c0 l1 o v R i F:=fun _ _ _ _ _ _ _ _=>⟨_,rfl⟩
theorem Hj {c0 l1:Option Addr} {o:Value} {R:VR} {F:PH} (h:gF mI c0 l1 o R F):ac prog 184 #[.pointer c0,.pointer l1,o] F R:=MV h
theorem NM:∀N c0 l1 o v R i F,∃X,mJ N c0 l1 o v R i F=gn 3 X N c0 l1 o v R i F:=fun _ _ _ _ _ _ _ _=>⟨_,rfl⟩
theorem Hk {c0 l1:Option Addr} {o:Value} {R:VR} {F:PH} (h:gF mJ c0 l1 o R F):ac prog 187 #[.pointer c0,.pointer l1,o] F R:=MZ h
theorem shI:∀N c0 l1 o v R i F,∃X,mK N c0 l1 o v R i F=gn 1 X N c0 l1 o v R i F:=fun _ _ _ _ _ _ _ _=>⟨_,rfl⟩
theorem Jn {c0 l1:Option Addr} {o:Value} {R:VR} {F:PH} (h:gF mK c0 l1 o R F):ac prog 189 #[.pointer c0,.pointer l1,o] F R:=M2 h
section
variable {G:PH} {bc:Nat}
theorem Ay {la:Addr} {sl:Sl} {l:List ByteArray} (hl:RL G sl l) (hla:G.cell la=some sl.v) (hll:l.length≤1000000000):WrS G bc 118 #[pc bc,.pointer (some la),.func (.func 119) #[pc bc] #[]] (.tuple #[]) (eL eS l):=by
 intro G1 F s out l1 hb h
 exact Jm (eZ (L:=mv) hl hla (by decide) hll cbW.1 eS (fun p=> #[pc bc,p]) (fun _=>by simp) (fun x hx G3 a c l3 hr hc=>nC (aI hr (by rw [show c= #[.string x] from hc];rfl))) shS l1 hb h)
theorem Az {la:Addr} {sl:Sl} {l:List Int} (hl:RL G sl l) (hla:G.cell la=some sl.v) (hll:l.length≤1000000000) (h0:∀x∈l,0≤x):WrS G bc 189 #[pc bc,.pointer (some la),.func (.func 125) #[pc bc] #[]] (.tuple #[]) (eL eI l):=by
 intro G1 F s out l1 hb h
 exact Jn (eZ (L:=mK) hl hla (by decide) hll cbW.2.1 eI (fun p=> #[pc bc,p]) (fun _=>by simp) (fun x hx G3 a c l3 hr hc=>fa (h0 x hx) (aI hr (by rw [show c= #[vi x] from hc];rfl))) shI l1 hb h)
theorem C9 {la:Addr} {sl:Sl} {l:List Nd} {b2:Nat} (q:G.cell (Addr.mk b2 0 none)=some (pc bc)) (hl:RL G sl l) (hla:G.cell la=some sl.v) (hll:l.length≤1000000000) (h0:∀x∈l,0≤x.k∧0≤x.lo∧0≤x.hi∧0≤x.a∧0≤x.b):WrS G bc 182 #[pc bc,.pointer (some la),.func (.func 183) #[] #[.pointer (some (Addr.mk b2 0 none))]] (.tuple #[]) (eL eNd l):=by
 intro G1 F s out l1 hb h
 exact Hi (eZ (L:=mH) hl hla (by decide) hll cbW.2.2.2.2.2.2.2.1 eNd (fun p=> #[p,.pointer (some (Addr.mk b2 0 none))]) (fun _=>by simp) (fun x hx G3 a c l3 hr hc=>Ho (aq l3 q) hr hc (h0 x hx)) NK l1 hb h)
theorem Hl {la:Addr} {sl:Sl} {l:List Sy} {b2:Nat} (q:G.cell (Addr.mk b2 0 none)=some (pc bc)) (hl:RL G sl l) (hla:G.cell la=some sl.v) (hll:l.length≤1000000000) (h0:∀x∈l,0≤x.i):WrS G bc 184 #[pc bc,.pointer (some la),.func (.func 185) #[] #[.pointer (some (Addr.mk b2 0 none))]] (.tuple #[]) (eL eSy l):=by
 intro G1 F s out l1 hb h
 exact Hj (eZ (L:=mI) hl hla (by decide) hll cbW.2.2.2.2.2.2.2.2.1 eSy (fun p=> #[p,.pointer (some (Addr.mk b2 0 none))]) (fun _=>by simp) (fun x hx G3 a c l3 hr hc=>AD (aq l3 q) hr hc (h0 x hx)) NL l1 hb h)
theorem Hm {la:Addr} {sl:Sl} {l:List Cn} {b2:Nat} (q:G.cell (Addr.mk b2 0 none)=some (pc bc)) (hl:RL G sl l) (hla:G.cell la=some sl.v) (hll:l.length≤1000000000) (h0:∀x∈l,0≤x.k∧0≤x.a∧0≤x.b):WrS G bc 187 #[pc bc,.pointer (some la),.func (.func 188) #[] #[.pointer (some (Addr.mk b2 0 none))]] (.tuple #[]) (eL eCn l):=by
 intro G1 F s out l1 hb h
 exact Hk (eZ (L:=mJ) hl hla (by decide) hll cbW.2.2.2.2.2.2.2.2.2 eCn (fun p=> #[p,.pointer (some (Addr.mk b2 0 none))]) (fun _=>by simp) (fun x hx G3 a c l3 hr hc=>rq (aq l3 q) hr hc (h0 x hx)) NM l1 hb h)
theorem nz {G F:PH} {bc:Nat} {s:Sl} {o p:List Nat} (h:St G F (cod bc s o)) (e:o=p):St G F (cod bc s p):=by rw [← e];exact h
theorem Da {a:Addr} {c:Array Value} {x:Tk} (hr:G.row a c) (hc:Mem.rep G x c) (hl:x.pat.length≤1000000000∧x.cond.1.length≤1000000000)
  (h0:0≤x.cls∧(∀y∈x.pat,0≤y.k∧0≤y.lo∧0≤y.hi∧0≤y.a∧0≤y.b)∧(∀b∈x.cond.1,0≤b.v∧0≤b.l∧0≤b.h)∧0≤x.cond.2):WrS G bc 122 #[pc bc,.pointer (some a)] (.tuple #[]) (eTk x):=by
 obtain ⟨pp,nn,rfl,hp,hn⟩:=hc
 intro G1 F s out l hb h
 unfold eTk at hb ⊢
 refine Mp ?_
 unfold FS
 refine h.newG fun b2 G2 F2 l2 q2 _ h=>⟨_,ld (h.le _ _ q2) rfl,_,rfl,?_⟩
 have l02:=aa l l2
 refine (nC (aq l02 (aI hr rfl))).go (le_refl' _) (by simp only [List.length_append] at hb ⊢;omega) h fun G3 F3 s3 l3 h=>⟨rfl,_,ld (h.le _ _ (l3 _ _ q2)) rfl,?_⟩
 refine (fa h0.1 (aq (aa l02 l3) (aD hr rfl))).go (le_refl' _) (by simp only [List.length_append] at hb ⊢;omega) h fun G4 F4 s4 l4 h=>⟨rfl,_,ld (h.le _ _ (l4 _ _ (l3 _ _ q2))) rfl,?_⟩
 replace l3:=aa l3 l4
 refine (nC (aq (aa l02 l3) (aD hr rfl))).go (le_refl' _) (by simp only [List.length_append] at hb ⊢;omega) h fun G5 F5 s5 l5 h=>⟨rfl,_,ld (h.le _ _ (l5 _ _ (l3 _ _ q2))) rfl,?_⟩
 replace l3:=aa l3 l5
 refine (C9 (ld (l3 _ _ q2) rfl) (hp.le (aa l02 l3)) (aq (aa l02 l3) (aD hr rfl)) hl.1 h0.2.1).go (le_refl' _) (by simp only [List.length_append] at hb ⊢;omega) h fun G6 F6 s6 l6 h=>⟨rfl,_,ld (h.le _ _ (l6 _ _ (l3 _ _ q2))) rfl,?_⟩
 replace l3:=aa l3 l6
 refine (nC (aq (aa l02 l3) (aD hr rfl))).go (le_refl' _) (by simp only [List.length_append] at hb ⊢;omega) h fun G7 F7 s7 l7 h=>⟨rfl,_,ld (h.le _ _ (l7 _ _ (l3 _ _ q2))) rfl,?_⟩
 replace l3:=aa l3 l7
 refine (tD (d:=x.cond) (cS (gi (aa l02 l3) hr) (o:=5) rfl) (hn.le (aa l02 l3)) hl.2 h0.2.2).go (le_refl' _) (by simp only [List.length_append] at hb ⊢;omega) h fun G8 F8 s8 l8 h=>⟨rfl,G8,s8,rfl,aa l2 (aa l3 l8),nz h (by simp only [List.append_assoc])⟩
theorem rp {a:Addr} {c:Array Value} {x:Pr} (hr:G.row a c) (hc:Mem.rep G x c) (hl:x.right.length≤1000000000∧x.cond.1.length≤1000000000∧x.lay.length≤1000000000)
  (h0:0≤x.left∧(∀s∈x.right,0≤s.i)∧((∀b∈x.cond.1,0≤b.v∧0≤b.l∧0≤b.h)∧0≤x.cond.2)∧-1≤x.rank∧x.rank≤1∧(∀y∈x.lay,0≤y.k∧0≤y.a∧0≤y.b)∧0≤x.sco.d∧0≤x.sco.k∧0≤x.sco.u∧0≤x.sco.a):
  WrS G bc 124 #[pc bc,.pointer (some a)] (.tuple #[]) (ePr x):=by
 obtain ⟨pp,nn,mm,rfl,hp,hn,hm⟩:=hc
 intro G1 F s out l hb h
 unfold ePr Jq at hb ⊢
 refine Ms ?_
 unfold FT
 refine h.newG fun b2 G2 F2 l2 q2 _ h=>⟨_,ld (h.le _ _ q2) rfl,_,rfl,?_⟩
 have l02:=aa l l2
 refine (nC (aq l02 (aI hr rfl))).go (le_refl' _) (by simp only [List.length_append] at hb ⊢;omega) h fun G3 F3 s3 l3 h=>⟨rfl,_,ld (h.le _ _ (l3 _ _ q2)) rfl,?_⟩
 refine (fa h0.1 (aq (aa l02 l3) (aD hr rfl))).go (le_refl' _) (by simp only [List.length_append] at hb ⊢;omega) h fun G4 F4 s4 l4 h=>⟨rfl,_,ld (h.le _ _ (l4 _ _ (l3 _ _ q2))) rfl,?_⟩
 replace l3:=aa l3 l4
 refine (Hl (ld (l3 _ _ q2) rfl) (hp.le (aa l02 l3)) (aq (aa l02 l3) (aD hr rfl)) hl.1 h0.2.1).go (le_refl' _) (by simp only [List.length_append] at hb ⊢;omega) h fun G6 F6 s6 l6 h=>⟨rfl,_,ld (h.le _ _ (l6 _ _ (l3 _ _ q2))) rfl,?_⟩
 replace l3:=aa l3 l6
 refine (tD (d:=x.cond) (cS (gi (aa l02 l3) hr) (o:=3) rfl) (hn.le (aa l02 l3)) hl.2.1 h0.2.2.1).go (le_refl' _) (by simp only [List.length_append] at hb ⊢;omega) h fun G7 F7 s7 l7 h=>⟨rfl,_,ld (h.le _ _ (l7 _ _ (l3 _ _ q2))) rfl,?_⟩
 replace l3:=aa l3 l7
 refine (uO (aq (aa l02 l3) (aD hr rfl))).go (le_refl' _) (by simp only [List.length_append] at hb ⊢;omega) h fun G8 F8 s8 l8 h=>⟨rfl,_,aq (aa (aa l02 l3) (aa l8 h.le)) (aD hr rfl),?_⟩
 replace l3:=aa l3 l8
 have ew:IntKind.i64.wrap (x.rank+1)=x.rank+1:=aN (by omega) (by omega)
 dsimp only
 rw [ew]
 refine h.new fun b4 F9 h=> ?_
 refine h.set0 (w':= #[vi (x.rank+1)]) (by simp) rfl fun F10 h=> ?_
 obtain ⟨G11,l11,q4,h⟩:=h.pinE
 refine ⟨_,ld (h.le _ _ (l11 _ _ (l3 _ _ q2))) rfl,?_⟩
 replace l3:=aa l3 l11
 refine (fa (by omega) (ld q4 rfl)).go (le_refl' _) (by simp only [List.length_append] at hb ⊢;omega) h fun G12 F12 s12 l12 h=>⟨rfl,_,ld (h.le _ _ (l12 _ _ (l3 _ _ q2))) rfl,_,rfl,_,h.ld1 rfl,fun h=>(by cases h),fun _=> ?_⟩
 replace l3:=aa l3 l12
 unfold si
 refine ⟨_,ld (h.le _ _ (l3 _ _ q2)) rfl,?_⟩
 refine (Hm (ld (l3 _ _ q2) rfl) (hm.le (aa l02 l3)) (aq (aa l02 l3) (aD hr rfl)) hl.2.2 h0.2.2.2.2.2.1).go (le_refl' _) (by simp only [List.length_append] at hb ⊢;omega) h fun G13 F13 s13 l13 h=>⟨rfl,_,ld (h.le _ _ (l13 _ _ (l3 _ _ q2))) rfl,?_⟩
 replace l3:=aa l3 l13
 refine (uO (aq (aa l02 l3) (aD hr rfl))).go (le_refl' _) (by simp only [List.length_append] at hb ⊢;omega) h fun G14 F14 s14 l14 h=>⟨rfl,_,ld (h.le _ _ (l14 _ _ (l3 _ _ q2))) rfl,?_⟩
 replace l3:=aa l3 l14
 refine h.newG fun b15 G15 F15 l15 q15 _ h=> ?_
 replace l3:=aa l3 l15
 have l03:=aa l02 l3
 have e:[x.sco.d,x.sco.k,x.sco.u,x.sco.a].flatMap eI=eI x.sco.d++eI x.sco.k++eI x.sco.u++eI x.sco.a:=by simp
 refine (ij (al:=[Addr.add (a.add 8) 1,Addr.add (a.add 8) 2,Addr.add (a.add 8) 3,Addr.add (a.add 8) 4]) (xs:=[x.sco.d,x.sco.k,x.sco.u,x.sco.a]) q15 rfl (by simp) fun i a' y h1 h2=> ?_).go (le_refl' _) (by rw [e];simp only [List.length_append] at hb ⊢;omega) h fun G16 F16 s16 l16 h=>⟨rfl,G16,s16,rfl,aa l2 (aa l3 l16),nz h (by rw [e];simp only [List.append_assoc])⟩
 match i with
 |0=>cases h1;cases h2;exact ⟨by rw [fu];exact aq l03 (aD hr rfl),h0.2.2.2.2.2.2.1⟩
 |1=>cases h1;cases h2;exact ⟨by rw [fu];exact aq l03 (aD hr rfl),h0.2.2.2.2.2.2.2.1⟩
 |2=>cases h1;cases h2;exact ⟨by rw [fu];exact aq l03 (aD hr rfl),h0.2.2.2.2.2.2.2.2.1⟩
 |3=>cases h1;cases h2;exact ⟨by rw [fu];exact aq l03 (aD hr rfl),h0.2.2.2.2.2.2.2.2.2⟩
 |i+4=>simp at h1
theorem Db {a:Addr} {c:Array Value} {x:Lv} (hr:G.row a c) (hc:Mem.rep G x c) (hl:x.ps.length≤1000000000∧x.cond.1.length≤1000000000)
  (h0:(∀y∈x.ps,0≤y)∧0≤x.assoc∧(∀b∈x.cond.1,0≤b.v∧0≤b.l∧0≤b.h)∧0≤x.cond.2):WrS G bc 127 #[pc bc,.pointer (some a)] (.tuple #[]) (eLv x):=by
 obtain ⟨pp,nn,rfl,hp,hn⟩:=hc
 intro G1 F s out l hb h
 unfold eLv at hb ⊢
 refine Mw ?_
 unfold FV
 refine ⟨_,rfl,?_⟩
 refine (Az hp (aI hr rfl) hl.1 h0.1).go l (by simp only [List.length_append] at hb ⊢;omega) h fun G3 F3 s3 l3 h=>⟨rfl,?_⟩
 refine (fa h0.2.1 (aD hr rfl)).go (aa l l3) (by simp only [List.length_append] at hb ⊢;omega) h fun G4 F4 s4 l4 h=>⟨rfl,?_⟩
 refine (tD (d:=x.cond) (cS hr (o:=2) rfl) hn hl.2 h0.2.2).go (aa l (aa l3 l4)) (by simp only [List.length_append] at hb ⊢;omega) h fun G8 F8 s8 l8 h=>⟨rfl,G8,s8,rfl,aa l3 (aa l4 l8),nz h (by simp only [List.append_assoc])⟩
theorem AA {a:Addr} {c:Array Value} {x:Fi} (hr:G.row a c) (hc:Mem.rep G x c) (hl:x.toks.length≤1000000000∧x.cond.1.length≤1000000000)
  (h0:0≤x.k∧0≤x.par∧0≤x.pos∧0≤x.ch∧0≤x.left∧0≤x.tok∧(∀y∈x.toks,0≤y)∧(∀b∈x.cond.1,0≤b.v∧0≤b.l∧0≤b.h)∧0≤x.cond.2):WrS G bc 129 #[pc bc,.pointer (some a)] (.tuple #[]) (eFi x):=by
 obtain ⟨pp,nn,rfl,hp,hn⟩:=hc
 intro G1 F s out l hb h
 have e6:[x.k,x.par,x.pos,x.ch,x.left,x.tok].flatMap eI=eI x.k++eI x.par++eI x.pos++eI x.ch++eI x.left++eI x.tok:=by simp
 unfold eFi at hb ⊢
 rw [← e6] at hb ⊢
 refine Mz ?_
 unfold FW
 refine ⟨_,rfl,?_⟩
 refine h.newG fun b27 G2 F2 l2 q27 _ h=> ?_
 have l02:=aa l l2
 have key:∀(j:Nat) (y:Int),[x.k,x.par,x.pos,x.ch,x.left,x.tok][j]? =some y→0≤y∧∃a',(#[Value.pointer (some a),Value.pointer (some (Addr.add a 1)),Value.pointer (some (Addr.add a 2)),Value.pointer (some (Addr.add a 3)),Value.pointer (some (Addr.add a 4)),Value.pointer (some (Addr.add a 5))]:Array Value)[j]? =some (.pointer (some a'))∧G.cell a'=some (vi y):=by
  intro j y hy
  match j with
  |0=>cases hy;exact ⟨h0.1,_,rfl,aI hr rfl⟩
  |1=>cases hy;exact ⟨h0.2.1,_,rfl,aD hr rfl⟩
  |2=>cases hy;exact ⟨h0.2.2.1,_,rfl,aD hr rfl⟩
  |3=>cases hy;exact ⟨h0.2.2.2.1,_,rfl,aD hr rfl⟩
  |4=>cases hy;exact ⟨h0.2.2.2.2.1,_,rfl,aD hr rfl⟩
  |5=>cases hy;exact ⟨h0.2.2.2.2.2.1,_,rfl,aD hr rfl⟩
  |j+6=>simp at hy
 generalize hxs:[x.k,x.par,x.pos,x.ch,x.left,x.tok]=xs at*
 have hlen:xs.length=6:=by rw [← hxs];rfl
 refine bH (sk · (some (Addr.mk bc 0 none)) a b27 _) xs.length (fun j F'=>∃G3 s3,G2.le G3∧St G3 F' (cod bc s3 (out++(xs.take j).flatMap eI))) ⟨G2,s,le_refl' _,by simpa using h⟩ ?_
 rintro j F3 N hj ⟨G3,s3,l3,h⟩ next
 unfold sk
 refine ⟨fun hlt=> ?_,fun hge=> ?_⟩
 ·simp only at hlt
  have hlt:j<xs.length:=by omega
  have hx:=List.getElem?_eq_getElem hlt
  obtain ⟨h1,a',h2,h3⟩:=key j _ hx
  refine ⟨_,rfl,by omega,by simp only;omega,some a',?_,?_⟩
  ·rw [Int.toNat_natCast,aJ,Nat.mul_one,Nat.zero_add,am (h.le _ _ (l3 _ _ q27))]
   exact h2
  ·have hp:=fR eI xs (j+1)
   have e:=iZ eI hx
   rw [e,List.length_append] at hp
   refine (fa h1 h3).go (aa l02 l3) (by simp only [List.length_append] at hb ⊢;omega) h fun G4 F4 s4 l4 h=>⟨rfl,?_⟩
   rw [aO hlt (by omega)]
   refine next _ hlt ⟨G4,s4,aa l3 l4,?_⟩
   rw [e,← List.append_assoc]
   exact h
 ·simp only at hge
  have e:j=xs.length:=by omega
  subst e
  rw [List.take_length] at h
  unfold x6
  refine ⟨_,rfl,?_⟩
  have l03:=aa l02 l3
  refine (Az hp (aD hr rfl) hl.1 h0.2.2.2.2.2.2.1).go l03 (by simp only [List.length_append] at hb ⊢;omega) h fun G4 F4 s4 l4 h=>⟨rfl,?_⟩
  refine (tD (d:=x.cond) (cS hr (o:=7) rfl) hn hl.2 h0.2.2.2.2.2.2.2).go (aa l03 l4) (by simp only [List.length_append] at hb ⊢;omega) h fun G8 F8 s8 l8 h=>⟨rfl,G8,s8,rfl,aa l2 (aa l3 (aa l4 l8)),nz h (by simp only [List.append_assoc])⟩
theorem yW {a:Addr} {g:Gr} {c n t s p l f:Sl} (hr:G.row a (g.arr c n t s p l f)) (hs:GS G g c n t s p l f) (hm:Sm g) (h0:NN g):WrS G bc 43 #[pc bc,.pointer (some a)] (.tuple #[]) (eGr g):=by
 intro G1 F sl out lG hb h
 unfold eGr at hb ⊢
 refine Pj ?_
 unfold L4
 refine ⟨_,rfl,?_⟩
 refine (Ay hs.c (aI hr rfl) hm.c).go lG (by simp only [List.length_append] at hb ⊢;omega) h fun G2 F2 s2 l2 h=>⟨rfl,?_⟩
 replace lG:=aa lG l2
 refine (tD (d:=g.fam) (cS hr (o:=1) rfl) hs.n hm.n h0.fam).go lG (by simp only [List.length_append] at hb ⊢;omega) h fun G3 F3 s3 l3 h=>⟨rfl,?_⟩
 replace lG:=aa lG l3
 refine (He (eZ (L:=mw) hs.t (aD hr rfl) (by decide) hm.t cbW.2.2.1 eTk (fun p=> #[pc bc,p]) (fun _=>by simp) (fun x hx G3 a c l3 hr hc=>Da hr hc (hm.ti x hx) (h0.toks x hx)) NG lG (by simp only [List.length_append] at hb ⊢;omega) h)).mono ?_
 rintro _ F4 ⟨G4,s4,rfl,l4,h⟩
 replace lG:=aa lG l4
 refine ⟨rfl,?_⟩
 refine (Ay hs.s (aD hr rfl) hm.s).go lG (by simp only [List.length_append] at hb ⊢;omega) h fun G5 F5 s5 l5 h=>⟨rfl,?_⟩
 replace lG:=aa lG l5
 refine (Hf (eZ (L:=mz) hs.p (aD hr rfl) (by decide) hm.p cbW.2.2.2.1 ePr (fun p=> #[pc bc,p]) (fun _=>by simp) (fun x hx G3 a c l3 hr hc=>rp hr hc (hm.pi x hx) (h0.prods x hx)) NH lG (by simp only [List.length_append] at hb ⊢;omega) h)).mono ?_
 rintro _ F6 ⟨G6,s6,rfl,l6,h⟩
 replace lG:=aa lG l6
 refine ⟨rfl,?_⟩
 refine (fa h0.start (aD hr rfl)).go lG (by simp only [List.length_append] at hb ⊢;omega) h fun G7 F7 s7 l7 h=>⟨rfl,?_⟩
 replace lG:=aa lG l7
 refine (Hg (eZ (L:=mA) hs.l (aD hr rfl) (by decide) hm.l cbW.2.2.2.2.1 eLv (fun p=> #[pc bc,p]) (fun _=>by simp) (fun x hx G3 a c l3 hr hc=>Db hr hc (hm.li x hx) (h0.lvs x hx)) NI lG (by simp only [List.length_append] at hb ⊢;omega) h)).mono ?_
 rintro _ F8 ⟨G8,s8,rfl,l8,h⟩
 replace lG:=aa lG l8
 refine ⟨rfl,?_⟩
 refine (Hh (eZ (L:=mB) hs.f (aD hr rfl) (by decide) hm.f cbW.2.2.2.2.2.1 eFi (fun p=> #[pc bc,p]) (fun _=>by simp) (fun x hx G3 a c l3 hr hc=>AA hr hc (hm.fi x hx) (h0.fils x hx)) NJ lG (by simp only [List.length_append] at hb ⊢;omega) h)).mono ?_
 rintro _ F9 ⟨G9,s9,rfl,l9,h⟩
 exact ⟨rfl,G9,s9,rfl,aa l2 (aa l3 (aa l4 (aa l5 (aa l6 (aa l7 (aa l8 l9)))))),nz h (by simp only [List.append_assoc])⟩
end
theorem tz {F:PH} {v:Array Value} {g:Gr} (hT:Tab F) (hg:GV F v g) (hz:Sz g) (hm:Sm g) (hn:cd g=0→NN g∧(eGr g).length≤100000000000):
  ac prog 14 #[.agg v] F fun r F'=>(∃s:Sl,r=.tuple #[s.v,vi (cd g)]∧RdS F' s 1 ((if cd g=0 then eGr g else []).map vB))∧F.le F':=by
 have hg0:=hg
 obtain ⟨c,n,t,s,p,l,f,rfl,hs⟩:=hg
 refine Pd ?_
 unfold LW
 refine fresh fun b1 F1 l1 q1 _=>⟨_,hg0.size,ai q1,?_⟩
 refine (dY (hT.le l1) (hg0.le l1) hz).mono ?_
 rintro _ F2 ⟨rfl,l2⟩
 have l12:=aa l1 l2
 refine ⟨_,rfl,fun h=>⟨⟨Sl.nil,rfl,?_⟩,l12⟩,fun h0=> ?_⟩
 ·rw [if_neg h];exact RdS.nil _ _
 have h0:cd g=0:=Classical.not_not.1 h0
 obtain ⟨hnn,hlen⟩:=hn h0
 refine (St.start F2).new fun b12 F3 h=> ?_
 replace h:=h.nilOwn 5 1
 refine (yW (ai (l2 _ _ q1)) (hs.le l12) hm hnn).go (out:=[]) (le_refl' _) (by simpa using hlen) h fun G4 F4 s4 l4 h=>⟨rfl,_,h.ld1 rfl,⟨s4,?_,?_⟩,aa l12 (aa l4 h.le)⟩
 ·rw [h0]
 ·rw [if_pos h0]
  exact (h.ownAt (i:=0) rfl).1.rd
end Go.Proofs.YtenpmjhnhepfdaaGreatDoor
