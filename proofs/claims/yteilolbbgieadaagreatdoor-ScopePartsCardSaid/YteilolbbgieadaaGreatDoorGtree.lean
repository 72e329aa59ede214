/-
  What functions of the program do, in a clean form, each with the proof that its code does so. Printed by a program.
-/
import Derived.Test.YteilolbbgieadaaGreatDoorIb
set_option maxRecDepth 10000
open Option renaming some->mB,none->nC
open Go.Obj renaming cells->mX
open Bool renaming false->nS,true->nZ
open Go.Value renaming agg->oc,bool->oY,int->tJ,string->pg,tuple->sj
open Go.Addr renaming add->od,mk->pd
open Int renaming toNat->pc,tmod->tK
open Array renaming setIfInBounds->tL
noncomputable section
namespace Go.Proofs.YteilolbbgieadaaGreatDoor
open Go.IntKind (i64 u8 u64)
open Sl renaming v->nV,nil->pk,mk->tX,cut->xy
open Go Go.Proofs.Tryz Tr
structure KF (K G F:PH) (b0 b1:Nat) (g:Gr) (c n t s sp l f:Sl) (vs:List Γ):Prop where
 k:K.le G
 st:St G F [pt b1 (mX (g.arr c n t s sp l f) 39),own sp 64 13 (uX vs),pt b0 (mX zG 39)]
 r:bT G g.qa0 vs
 c:RL G c g.qa4
 n:RL G n g.fam.1
 t:RL G t g.qa2
 s:RL G s g.qa1
 l:RL G l g.lvs
 f:RL G f g.fils
def KS (K F:PH) (b0 b1:Nat) (g:Gr):Prop:=∃G c n t s sp l f vs,KF K G F b0 b1 g c n t s sp l f vs
section
variable {K G F:PH} {b0 b1:Nat} {g:Gr} {c n t s sp l f:Sl} {vs:List Γ}
theorem KF.up {A B:PH} (h:KF K G F b0 b1 g c n t s sp l f vs) (w:G.le A) (st:St A B [pt b1 (mX (g.arr c n t s sp l f) 39),own sp 64 13 (uX vs),pt b0 (mX zG 39)]):KF K A B b0 b1 g c n t s sp l f vs:=
 ⟨aa h.k w,st,h.r.le w,h.c.le w,h.n.le w,h.t.le w,h.s.le w,h.l.le w,h.f.le w⟩
theorem KF.sz (h:KF K G F b0 b1 g c n t s sp l f vs):∀d∈vs,d.size=13:=by
 have:∀{l:List Pr} {vs:List Γ},bT G l vs->∀d∈vs,d.size=13:=by
  intro l vs h;induction h with
  |nil=>intro d hd;cases hd
  |cons h _ ih=>
   intro d hd;rcases tQ.1 hd with rfl|hd
   ·exact Mem.len h
   ·exact ih d hd
 exact this h.r
theorem KF.len (h:KF K G F b0 b1 g c n t s sp l f vs):sp.len=g.qa0.length:=by obtain ⟨B,-⟩:=h.st.ownAt (i:=1) rfl;have w:=B.rd.len;have A:=h.r.cat_len;rw [A] at w;have:g.qa0.length*13=sp.len*13:=w;omega
def ji (fn:FuncId) (i:Int) (x:Sy):Prop:=∀F:PH,aj prog fn #[vi i] F λr F'=>r=oc x.arr/\F.le F'
theorem dX (i:Int):ji 54 i ⟨nS,i⟩:=Lu i
theorem cP (i:Int):ji 55 i ⟨nZ,i⟩:=CD i
theorem KF.add (h:KF K G F b0 b1 g c n t s sp l f vs) {H:ο} {left:Int} {sx:Sl} {right:List Sy} (N:RL G sx right) (R:g.qa0.length<=1000) {C:Ψ}
  (k:∀I,KS K I b0 b1 {g with qa0:=g.qa0++[bA H left right]}->C I):
  ν 53 #[pg H,vi left,sx.v] F λv F=>∃w:Γ,v=oc w/\F.cell (pd b1 5 nC)=mB (nV sp)/\w.size=13/\∀b,F b=nC->wn (F.set b (mX w 64)) λF=>
   aH prog (Builtin.append_ #[35,35] 35 #[nV sp,nV (tX (mB (pd b 0 nC)) 1 1)]) F λv F=>∃B:Sl,v=nV B/\rj F (pd b1 5 nC) (nV B) C:=by
 obtain ⟨_,_,T⟩:=Tm;refine h.st.run (uW H left N) λ_ V I P Q st=> ?_;obtain ⟨w,rfl,E⟩:=P;refine ⟨w,rfl,st.ld0 rfl,Mem.len E,st.push1 T (Mem.len E) (Mem.st E) (by have:=h.len;omega) λB J O L D M=> ?_⟩;rw [show uX vs++w.toList=uX (vs++[w]) by rw [be,cG]] at D;refine D.set0 (w':=Gr.arr {g with qa0:=g.qa0++[bA H left right]} c n t s B l f) (vp rfl) rfl λU st=>k _ ?_;have A:=aa Q L;exact ⟨J,c,n,t,s,B,l,f,_,aa h.k A,st,(h.r.le A).append (.cons (Mem.le L E) .nil),h.c.le A,h.n.le A,h.t.le A,h.s.le A,h.l.le A,h.f.le A⟩
theorem KF.el1 (h:KF K G F b0 b1 g c n t s sp l f vs) {k:Nat} {p p':Pr} (E:g.qa0[k]? =mB p) {off:Nat} {v:ξ} (B:off<13) (J:∀w,Mem.rep G p w->Mem.rep G p' (w.setIfInBounds off v)) {C:Ψ}
  (D:∀A,KS K A b0 b1 {g with qa0:=g.qa0.set k p'}->C A):
  ∃a:Addr,sp.qa5=mB a/\0<=(k:Int)/\(k:Int)<(sp.len:Int)/\rj F (od (od a (pc (k:Int)*13)) off) v C:=by
 obtain ⟨w,I,H,_⟩:=h.r.get E;refine h.st.el1 1 rfl h.sz I (by decide) B λA st=>D _ ?_;exact ⟨G,c,n,t,s,sp,l,f,_,h.k,st,h.r.set (J w H),h.c,h.n,h.t,h.s,h.l,h.f⟩
theorem KF.elN (h:KF K G F b0 b1 g c n t s sp l f vs) {k:Nat} {p p':Pr} (I:g.qa0[k]? =mB p) {off m:Nat} {v:Γ} (H:v.size=m) (D:off+m<=13) (B:∀x∈v.toList,ak x) (M:∀w,Mem.rep G p w->Mem.rep G p' (wr w off v.toList)) {C:Ψ}
  (E:∀A,KS K A b0 b1 {g with qa0:=g.qa0.set k p'}->C A):
  ∃a:Addr,sp.qa5=mB a/\0<=(k:Int)/\(k:Int)<(sp.len:Int)/\aB F (od (od a (pc (k:Int)*13)) off) m v C:=by
 obtain ⟨w,L,J,_⟩:=h.r.get I;refine h.st.elN 1 rfl h.sz L (by decide) H D B λA st=>E _ ?_;exact ⟨G,c,n,t,s,sp,l,f,_,h.k,st,h.r.set (M w J),h.c,h.n,h.t,h.s,h.l,h.f⟩
theorem KS.set1 (h:KS K F b0 b1 g) (k:Nat) {p:Pr} (p':Pr) (D:g.qa0[k]? =mB p) {off:Nat} {v:ξ} (A:off<13) (E:∀(G:PH) w,Mem.rep G p w->Mem.rep G p' (w.setIfInBounds off v)) {C:Ψ}
  (B:∀r,KS K r b0 b1 {g with qa0:=g.qa0.set k p'}->C r):
  ∃sp:Sl,F.cell (pd b1 5 nC)=mB (nV sp)/\∃a:Addr,sp.qa5=mB a/\0<=(k:Int)/\(k:Int)<(sp.len:Int)/\rj F (od (od a (pc (k:Int)*13)) off) v C:=by
 obtain ⟨G,c,n,t,s,sp,l,f,vs,h⟩:=h;exact ⟨sp,h.st.ld0 rfl,h.el1 D A (E G) B⟩
theorem KS.setN (h:KS K F b0 b1 g) (k:Nat) {p:Pr} (p':Pr) (H:g.qa0[k]? =mB p) {off m:Nat} {v:Γ} (E:v.size=m) (B:off+m<=13) (r:∀x∈v.toList,ak x) (I:∀(G:PH) w,Mem.rep G p w->Mem.rep G p' (wr w off v.toList)) {C:Ψ}
  (D:∀A,KS K A b0 b1 {g with qa0:=g.qa0.set k p'}->C A):
  ∃sp:Sl,F.cell (pd b1 5 nC)=mB (nV sp)/\∃a:Addr,sp.qa5=mB a/\0<=(k:Int)/\(k:Int)<(sp.len:Int)/\aB F (od (od a (pc (k:Int)*13)) off) m v C:=by
 obtain ⟨G,c,n,t,s,sp,l,f,vs,h⟩:=h;exact ⟨sp,h.st.ld0 rfl,h.elN H E B r (I G) D⟩
theorem KS.brk (h:KS K F b0 b1 g) (k:Nat) {p:Pr} (B:g.qa0[k]? =mB p) {C:Ψ} (I:∀A,KS K A b0 b1 {g with qa0:=g.qa0.set k {p with brk:=nZ}}->C A):
  ∃sp:Sl,F.cell (pd b1 5 nC)=mB (nV sp)/\∃a:Addr,sp.qa5=mB a/\0<=(k:Int)/\(k:Int)<(sp.len:Int)/\rj F (od (od a (pc (k:Int)*13)) 5) (oY nZ) C:=
 h.set1 k {p with brk:=nZ} B (by decide) (λG w ⟨r,n,l,e,H,D,E⟩=>⟨r,n,l,by rw [e];rfl,H,D,E⟩) I
theorem KS.rank (h:KS K F b0 b1 g) (k:Nat) {p:Pr} (B:g.qa0[k]? =mB p) {x:Int} {C:Ψ} (I:∀A,KS K A b0 b1 {g with qa0:=g.qa0.set k {p with rank:=x}}->C A):
  ∃sp:Sl,F.cell (pd b1 5 nC)=mB (nV sp)/\∃a:Addr,sp.qa5=mB a/\0<=(k:Int)/\(k:Int)<(sp.len:Int)/\rj F (od (od a (pc (k:Int)*13)) 6) (vi x) C:=
 h.set1 k {p with rank:=x} B (by decide) (λG w ⟨r,n,l,e,H,D,E⟩=>⟨r,n,l,by rw [e];rfl,H,D,E⟩) I
theorem KS.sco (h:KS K F b0 b1 g) (k:Nat) {p:Pr} (J:g.qa0[k]? =mB p) {A:Bool} {E B H D:Int} {C:Ψ} (O:∀I,KS K I b0 b1 {g with qa0:=g.qa0.set k {p with sco:=⟨A,E,B,H,D⟩}}->C I):
  ∃sp:Sl,F.cell (pd b1 5 nC)=mB (nV sp)/\∃a:Addr,sp.qa5=mB a/\0<=(k:Int)/\(k:Int)<(sp.len:Int)/\aB F (od (od a (pc (k:Int)*13)) 8) 5 #[oY A,vi E,vi B,vi H,vi D] C:=
 h.setN k {p with sco:=⟨A,E,B,H,D⟩} J rfl (by show 8+5<=13;decide) (by simp [ak]) (λG w ⟨r,n,l,e,N,L,M⟩=>⟨r,n,l,by rw [e];rfl,N,L,M⟩) O
theorem KS.cnd (h:KS K F b0 b1 g) (k:Nat) {p:Pr} (E:g.qa0[k]? =mB p) (v:Nat) (H:v<=63) {C:Ψ} (B:∀A,KS K A b0 b1 {g with qa0:=g.qa0.set k {p with cond:=ph (tv v)}}->C A):
  ∃sp:Sl,F.cell (pd b1 5 nC)=mB (nV sp)/\ν 56 #[vi v] F λr F=>∃w:Γ,r=oc w/\F.cell (pd b1 5 nC)=mB (nV sp)/\
   ∃a:Addr,sp.qa5=mB a/\0<=(k:Int)/\(k:Int)<(sp.len:Int)/\aB F (od (od a (pc (k:Int)*13)) 3) 2 w C:=by
 obtain ⟨G,c,n,t,s,sp,l,f,vs,h⟩:=h;refine ⟨sp,h.st.ld0 rfl,h.st.run (bS v H _) λ_ P A D J st=> ?_⟩;obtain ⟨w,rfl,L⟩:=D;obtain ⟨m,rfl,N⟩:=L.out;refine ⟨_,rfl,st.ld0 rfl,(h.up J st).elN (p':={p with cond:=ph (tv v)}) E rfl (by show 3+2<=13;decide) (by simp [ak,nV]) (λw ⟨r,n,l,e,M,O,I⟩=>⟨r,m,l,by rw [e];rfl,M,N,I⟩) B⟩
theorem B4 {F:PH} {b:Nat} {e:TypeId} {x:Cn} (q:F b=mB (mX x.arr e)):RL F (tX (mB (pd b 0 nC)) 1 1) [x]:=⟨[x.arr],.cons rfl .nil,RdS.new q rfl rfl (tI _)⟩
theorem S8 {F:PH} {b:Nat} {e:TypeId} {x y:Cn} (q:F b=mB (mX (wr (wr (#[tJ .i64 0,.int .i64 0,.int .i64 0,.int .i64 0,.int .i64 0,.int .i64 0]:Γ) 0 x.arr.toList) 3 y.arr.toList) e)):RL F (tX (mB (pd b 0 nC)) 2 2) [x,y]:=⟨[x.arr,y.arr],.cons rfl (.cons rfl .nil),RdS.new q rfl rfl (tI _)⟩
theorem KS.lay1 (h:KS K F b0 b1 g) (k:Nat) {p:Pr} (H:g.qa0[k]? =mB p) {B A D:Int} {C:Ψ} (M:∀E,KS K E b0 b1 {g with qa0:=g.qa0.set k {p with lay:=[⟨B,A,D⟩]}}->C E):
  ∃sp:Sl,F.cell (pd b1 5 nC)=mB (nV sp)/\(#[vi B,vi A,vi D]:Γ).size=3/\∀b,F b=nC->wn (F.set b (mX (#[vi B,vi A,vi D]:Γ) 260)) λF=>
   ∃a:Addr,sp.qa5=mB a/\0<=(k:Int)/\(k:Int)<(sp.len:Int)/\rj F (od (od a (pc (k:Int)*13)) 7) (nV (tX (mB (pd b 0 nC)) 1 1)) C:=by
 obtain ⟨G,c,n,t,s,sp,l,f,vs,h⟩:=h;refine ⟨sp,h.st.ld0 rfl,rfl,h.st.newG λb O E J q _ st=> ?_⟩;exact (h.up J st).el1 (p':={p with lay:=[⟨B,A,D⟩]}) H (by decide) (λw ⟨r,n,l,e,L,I,N⟩=>⟨r,n,_,by rw [e];rfl,L,I,B4 (x:=⟨B,A,D⟩) q⟩) M
theorem KS.lay2 (h:KS K F b0 b1 g) (k:Nat) {p:Pr} (L:g.qa0[k]? =mB p) {E A H B I D:Int} {C:Ψ} (P:∀J,KS K J b0 b1 {g with qa0:=g.qa0.set k {p with lay:=[⟨E,A,H⟩,⟨B,I,D⟩]}}->C J):
  ∃sp:Sl,F.cell (pd b1 5 nC)=mB (nV sp)/\(#[vi E,vi A,vi H]:Γ).size=3/\(#[vi B,vi I,vi D]:Γ).size=3/\
   ∀b,F b=nC->wn (F.set b (mX (wr (wr (#[tJ .i64 0,.int .i64 0,.int .i64 0,.int .i64 0,.int .i64 0,.int .i64 0]:Γ) 0 (#[vi E,vi A,vi H]:Γ).toList) 3 (#[vi B,vi I,vi D]:Γ).toList) 260)) λF=>
   ∃a:Addr,sp.qa5=mB a/\0<=(k:Int)/\(k:Int)<(sp.len:Int)/\rj F (od (od a (pc (k:Int)*13)) 7) (nV (tX (mB (pd b 0 nC)) 2 2)) C:=by
 obtain ⟨G,c,n,t,s,sp,l,f,vs,h⟩:=h;refine ⟨sp,h.st.ld0 rfl,rfl,rfl,h.st.newG λb R J N q _ st=> ?_⟩;exact (h.up N st).el1 (p':={p with lay:=[⟨E,A,H⟩,⟨B,I,D⟩]}) L (by decide) (λw ⟨r,n,l,e,O,M,Q⟩=>⟨r,n,_,by rw [e];rfl,O,M,S8 (x:=⟨E,A,H⟩) (y:=⟨B,I,D⟩) q⟩) P
theorem KS.fin (h:KS K F b0 b1 g) {R:VR} (k:∀w A,GV A w g->K.le A->R (oc w) A):
  ∃v:Γ,v.size=9/\F.row (pd b1 0 nC) v/\aB F (pd b0 0 nC) 9 v λF=>∃w:Γ,w.size=9/\F.row (pd b0 0 nC) w/\R (oc w) F:=by
 obtain ⟨G,c,n,t,s,sp,l,f,vs,h⟩:=h;refine ⟨_,rfl,h.st.whole0,?_⟩;refine h.st.put2 (w':=g.arr c n t s sp l f) rfl rfl (by simp [ak,nV]) λA st=> ?_;obtain ⟨B,-⟩:=st.ownAt (i:=1) rfl;refine ⟨_,rfl,st.whole2,k _ _ ⟨c,n,t,s,sp,l,f,rfl,h.c.le st.le,h.n.le st.le,h.t.le st.le,h.s.le st.le,⟨vs,h.r.le st.le,B.rd⟩,h.l.le st.le,h.f.le st.le⟩ (aa h.k st.le)⟩
theorem KS.lvs (h:KS K F b0 b1 g) {sx:Sl} {x:List Lv} (A:RL K sx x) {C:Ψ} (B:∀w,KS K w b0 b1 {g with lvs:=x}->C w):rj F (pd b1 7 nC) (nV sx) C:=by obtain ⟨G,c,n,t,s,sp,l,f,vs,h⟩:=h;refine h.st.set0 (w':=Gr.arr {g with lvs:=x} c n t s sp sx f) (vp rfl) rfl λw st=>B _ ?_;exact ⟨G,c,n,t,s,sp,sx,f,vs,h.k,st,h.r,h.c,h.n,h.t,h.s,A.le h.k,h.f⟩
theorem KS.fils (h:KS K F b0 b1 g) {sx:Sl} {x:List Fi} (A:RL K sx x) {C:Ψ} (B:∀w,KS K w b0 b1 {g with fils:=x}->C w):rj F (pd b1 8 nC) (nV sx) C:=by obtain ⟨G,c,n,t,s,sp,l,f,vs,h⟩:=h;refine h.st.set0 (w':=Gr.arr {g with fils:=x} c n t s sp l sx) (vp rfl) rfl λw st=>B _ ?_;exact ⟨G,c,n,t,s,sp,l,sx,vs,h.k,st,h.r,h.c,h.n,h.t,h.s,h.l,A.le h.k⟩
theorem KS.new (h:KS K F b0 b1 g) {o:Obj} {C:Nat->Ψ} (k:∀b B A,K.le B->B b=mB o->KS B A b0 b1 g->C b A):∀b,F b=nC->wn (F.set b o) (C b):=by obtain ⟨G,c,n,t,s,sp,l,f,vs,h⟩:=h;exact h.st.newG λb D A w q _ st=>k b D A (aa h.k w) q ⟨D,c,n,t,s,sp,l,f,vs,au _,st,h.r.le w,h.c.le w,h.n.le w,h.t.le w,h.s.le w,h.l.le w,h.f.le w⟩
theorem KS.run (h:KS K F b0 b1 g) {D:FuncId} {args:Γ} {P:ξ->Ψ} {Q:ξ->Ψ} (sp:∀G,K.le G->aj prog D args G λr A=>P r A/\G.le A) (k:∀r C B,P r C->K.le C->KS C B b0 b1 g->Q r B):aj prog D args F Q:=by obtain ⟨G,c,n,t,s,H,l,f,vs,h⟩:=h;exact h.st.run (sp G h.k) λr A B E w st=>k r A B E (aa h.k w) ⟨A,c,n,t,s,H,l,f,vs,au _,st,h.r.le w,h.c.le w,h.n.le w,h.t.le w,h.s.le w,h.l.le w,h.f.le w⟩
theorem KS.le (h:KS K F b0 b1 g):K.le F:=by obtain ⟨G,c,n,t,s,sp,l,f,vs,h⟩:=h;exact aa h.k h.st.le
theorem KS.rule0 (h:KS K F b0 b1 g) (E:g.qa0.length<=1000) {B:ο} {left:Int} {C:Ψ} (k:∀r,KS K r b0 b1 {g with qa0:=g.qa0++[bA B left []]}->C r):
  ∃sp:Sl,F.cell (pd b1 5 nC)=mB (nV sp)/\∀b,F b=nC->wn (F.set b (mX #[] 130)) λF=>
   ν 53 #[pg B,vi left,nV (tX (mB (pd b 0 nC)) 0 0)] F λv F=>∃w:Γ,v=oc w/\F.cell (pd b1 5 nC)=mB (nV sp)/\w.size=13/\∀b,F b=nC->wn (F.set b (mX w 64)) λF=>
   aH prog (Builtin.append_ #[35,35] 35 #[nV sp,nV (tX (mB (pd b 0 nC)) 1 1)]) F λv F=>∃A:Sl,v=nV A/\rj F (pd b1 5 nC) (nV A) C:=by
 obtain ⟨G,c,n,t,s,sp,l,f,vs,h⟩:=h;refine ⟨sp,h.st.ld0 rfl,?_⟩;refine h.st.newG λb H I D q _ st=> ?_;exact (h.up D st).add ⟨[],.nil,RdS.new q (by kernel_rfl) rfl (tI _)⟩ E k
theorem KS.rule1 (h:KS K F b0 b1 g) {B:FuncId} {E:Int} {r:Sy} (s1:ji B E r) (L:g.qa0.length<=1000) {I:ο} {left:Int} {C:Ψ} (k:∀D,KS K D b0 b1 {g with qa0:=g.qa0++[bA I left [r]]}->C D):
  ∃sp:Sl,F.cell (pd b1 5 nC)=mB (nV sp)/\aj prog B #[vi E] F λv F=>∃A:Γ,v=oc A/\F.cell (pd b1 5 nC)=mB (nV sp)/\A.size=2/\∀b,F b=nC->wn (F.set b (mX A 130)) λF=>
   ν 53 #[pg I,vi left,nV (tX (mB (pd b 0 nC)) 1 1)] F λv F=>∃w:Γ,v=oc w/\F.cell (pd b1 5 nC)=mB (nV sp)/\w.size=13/\∀b,F b=nC->wn (F.set b (mX w 64)) λF=>
   aH prog (Builtin.append_ #[35,35] 35 #[nV sp,nV (tX (mB (pd b 0 nC)) 1 1)]) F λv F=>∃H:Sl,v=nV H/\rj F (pd b1 5 nC) (nV H) C:=by
 obtain ⟨G,c,n,t,s,sp,l,f,vs,h⟩:=h;refine ⟨sp,h.st.ld0 rfl,?_⟩;refine h.st.runv (s1 _) λQ P M st=> ?_;refine ⟨_,rfl,st.ld0 rfl,rfl,?_⟩;refine st.newG λb N O J q _ st=> ?_;exact (h.up (aa M J) st).add ⟨[r.arr],(.cons rfl .nil),RdS.new q (by kernel_rfl) rfl (tI _)⟩ L k
theorem KS.rule2 (h:KS K F b0 b1 g) {E f2:FuncId} {M I:Int} {r B:Sy} (s1:ji E M r) (s2:ji f2 I B) (P:g.qa0.length<=1000) {H:ο} {left:Int} {C:Ψ} (k:∀J,KS K J b0 b1 {g with qa0:=g.qa0++[bA H left [r,B]]}->C J):
  ∃sp:Sl,F.cell (pd b1 5 nC)=mB (nV sp)/\aj prog E #[vi M] F λv F=>∃D:Γ,v=oc D/\F.cell (pd b1 5 nC)=mB (nV sp)/\aj prog f2 #[vi I] F λv F=>∃A:Γ,v=oc A/\F.cell (pd b1 5 nC)=mB (nV sp)/\D.size=2/\A.size=2/\∀b,F b=nC->wn (F.set b (mX (wr (wr (#[oY nS,.int .i64 0,.bool nS,.int .i64 0]:Γ) 0 D.toList) 2 A.toList) 130)) λF=>
   ν 53 #[pg H,vi left,nV (tX (mB (pd b 0 nC)) 2 2)] F λv F=>∃w:Γ,v=oc w/\F.cell (pd b1 5 nC)=mB (nV sp)/\w.size=13/\∀b,F b=nC->wn (F.set b (mX w 64)) λF=>
   aH prog (Builtin.append_ #[35,35] 35 #[nV sp,nV (tX (mB (pd b 0 nC)) 1 1)]) F λv F=>∃L:Sl,v=nV L/\rj F (pd b1 5 nC) (nV L) C:=by
 obtain ⟨G,c,n,t,s,sp,l,f,vs,h⟩:=h;refine ⟨sp,h.st.ld0 rfl,?_⟩;refine h.st.runv (s1 _) λV U Q st=> ?_;refine ⟨_,rfl,st.ld0 rfl,?_⟩;refine st.runv (s2 _) λX F2 N st=> ?_;refine ⟨_,rfl,st.ld0 rfl,rfl,rfl,?_⟩;refine st.newG λb W R O q _ st=> ?_;exact (h.up (aa Q (aa N O)) st).add ⟨[r.arr,B.arr],(.cons rfl (.cons rfl .nil)),RdS.new q (by kernel_rfl) rfl (tI _)⟩ P k
theorem KS.rule3 (h:KS K F b0 b1 g) {I f2 J:FuncId} {Q N M:Int} {r D E:Sy} (s1:ji I Q r) (s2:ji f2 N D) (Y:ji J M E) (W:g.qa0.length<=1000) {L:ο} {left:Int} {C:Ψ} (k:∀O,KS K O b0 b1 {g with qa0:=g.qa0++[bA L left [r,D,E]]}->C O):
  ∃sp:Sl,F.cell (pd b1 5 nC)=mB (nV sp)/\aj prog I #[vi Q] F λv F=>∃H:Γ,v=oc H/\F.cell (pd b1 5 nC)=mB (nV sp)/\aj prog f2 #[vi N] F λv F=>∃B:Γ,v=oc B/\F.cell (pd b1 5 nC)=mB (nV sp)/\aj prog J #[vi M] F λv F=>∃A:Γ,v=oc A/\F.cell (pd b1 5 nC)=mB (nV sp)/\H.size=2/\B.size=2/\A.size=2/\∀b,F b=nC->wn (F.set b (mX (wr (wr (wr (#[oY nS,.int .i64 0,.bool nS,.int .i64 0,.bool nS,.int .i64 0]:Γ) 0 H.toList) 2 B.toList) 4 A.toList) 130)) λF=>
   ν 53 #[pg L,vi left,nV (tX (mB (pd b 0 nC)) 3 3)] F λv F=>∃w:Γ,v=oc w/\F.cell (pd b1 5 nC)=mB (nV sp)/\w.size=13/\∀b,F b=nC->wn (F.set b (mX w 64)) λF=>
   aH prog (Builtin.append_ #[35,35] 35 #[nV sp,nV (tX (mB (pd b 0 nC)) 1 1)]) F λv F=>∃P:Sl,v=nV P/\rj F (pd b1 5 nC) (nV P) C:=by
 obtain ⟨G,c,n,t,s,sp,l,f,vs,h⟩:=h;refine ⟨sp,h.st.ld0 rfl,?_⟩;refine h.st.runv (s1 _) λG1 F1 X st=> ?_;refine ⟨_,rfl,st.ld0 rfl,?_⟩;refine st.runv (s2 _) λG2 F2 R st=> ?_;refine ⟨_,rfl,st.ld0 rfl,?_⟩;refine st.runv (Y _) λG3 F3 V st=> ?_;refine ⟨_,rfl,st.ld0 rfl,rfl,rfl,rfl,?_⟩;refine st.newG λb G9 Z U q _ st=> ?_;exact (h.up (aa X (aa R (aa V U))) st).add ⟨[r.arr,D.arr,E.arr],(.cons rfl (.cons rfl (.cons rfl .nil))),RdS.new q (by kernel_rfl) rfl (tI _)⟩ W k
theorem KS.rule4 (h:KS K F b0 b1 g) {L f2 M W:FuncId} {V P O Q:Int} {A E H r:Sy} (s1:ji L V A) (s2:ji f2 P E) (s3:ji M O H) (Y:ji W Q r) (hl:g.qa0.length<=1000) {N:ο} {left:Int} {C:Ψ} (k:∀R,KS K R b0 b1 {g with qa0:=g.qa0++[bA N left [A,E,H,r]]}->C R):
  ∃sp:Sl,F.cell (pd b1 5 nC)=mB (nV sp)/\aj prog L #[vi V] F λv F=>∃J:Γ,v=oc J/\F.cell (pd b1 5 nC)=mB (nV sp)/\aj prog f2 #[vi P] F λv F=>∃D:Γ,v=oc D/\F.cell (pd b1 5 nC)=mB (nV sp)/\aj prog M #[vi O] F λv F=>∃B:Γ,v=oc B/\F.cell (pd b1 5 nC)=mB (nV sp)/\aj prog W #[vi Q] F λv F=>∃I:Γ,v=oc I/\F.cell (pd b1 5 nC)=mB (nV sp)/\J.size=2/\D.size=2/\B.size=2/\I.size=2/\∀b,F b=nC->wn (F.set b (mX (wr (wr (wr (wr (#[oY nS,.int .i64 0,.bool nS,.int .i64 0,.bool nS,.int .i64 0,.bool nS,.int .i64 0]:Γ) 0 J.toList) 2 D.toList) 4 B.toList) 6 I.toList) 130)) λF=>
   ν 53 #[pg N,vi left,nV (tX (mB (pd b 0 nC)) 4 4)] F λv F=>∃w:Γ,v=oc w/\F.cell (pd b1 5 nC)=mB (nV sp)/\w.size=13/\∀b,F b=nC->wn (F.set b (mX w 64)) λF=>
   aH prog (Builtin.append_ #[35,35] 35 #[nV sp,nV (tX (mB (pd b 0 nC)) 1 1)]) F λv F=>∃U:Sl,v=nV U/\rj F (pd b1 5 nC) (nV U) C:=by
 obtain ⟨G,c,n,t,s,sp,l,f,vs,h⟩:=h;refine ⟨sp,h.st.ld0 rfl,?_⟩;refine h.st.runv (s1 _) λG1 F1 l1 st=> ?_;refine ⟨_,rfl,st.ld0 rfl,?_⟩;refine st.runv (s2 _) λG2 F2 X st=> ?_;refine ⟨_,rfl,st.ld0 rfl,?_⟩;refine st.runv (s3 _) λG3 F3 l3 st=> ?_;refine ⟨_,rfl,st.ld0 rfl,?_⟩;refine st.runv (Y _) λG4 F4 Z st=> ?_;refine ⟨_,rfl,st.ld0 rfl,rfl,rfl,rfl,rfl,?_⟩;refine st.newG λb G9 F9 l9 q _ st=> ?_;exact (h.up (aa l1 (aa X (aa l3 (aa Z l9)))) st).add ⟨[A.arr,E.arr,H.arr,r.arr],(.cons rfl (.cons rfl (.cons rfl (.cons rfl .nil)))),RdS.new q (by kernel_rfl) rfl (tI _)⟩ hl k
theorem KS.rule5 (h:KS K F b0 b1 g) {N f2 O Z f5:FuncId} {Y U R V P:Int} {A E I r M:Sy} (s1:ji N Y A) (s2:ji f2 U E) (s3:ji O R I) (s4:ji Z V r) (s5:ji f5 P M) (hl:g.qa0.length<=1000) {Q:ο} {left:Int} {C:Ψ} (k:∀W,KS K W b0 b1 {g with qa0:=g.qa0++[bA Q left [A,E,I,r,M]]}->C W):
  ∃sp:Sl,F.cell (pd b1 5 nC)=mB (nV sp)/\aj prog N #[vi Y] F λv F=>∃L:Γ,v=oc L/\F.cell (pd b1 5 nC)=mB (nV sp)/\aj prog f2 #[vi U] F λv F=>∃D:Γ,v=oc D/\F.cell (pd b1 5 nC)=mB (nV sp)/\aj prog O #[vi R] F λv F=>∃B:Γ,v=oc B/\F.cell (pd b1 5 nC)=mB (nV sp)/\aj prog Z #[vi V] F λv F=>∃J:Γ,v=oc J/\F.cell (pd b1 5 nC)=mB (nV sp)/\aj prog f5 #[vi P] F λv F=>∃H:Γ,v=oc H/\F.cell (pd b1 5 nC)=mB (nV sp)/\L.size=2/\D.size=2/\B.size=2/\J.size=2/\H.size=2/\∀b,F b=nC->wn (F.set b (mX (wr (wr (wr (wr (wr (#[oY nS,.int .i64 0,.bool nS,.int .i64 0,.bool nS,.int .i64 0,.bool nS,.int .i64 0,.bool nS,.int .i64 0]:Γ) 0 L.toList) 2 D.toList) 4 B.toList) 6 J.toList) 8 H.toList) 130)) λF=>
   ν 53 #[pg Q,vi left,nV (tX (mB (pd b 0 nC)) 5 5)] F λv F=>∃w:Γ,v=oc w/\F.cell (pd b1 5 nC)=mB (nV sp)/\w.size=13/\∀b,F b=nC->wn (F.set b (mX w 64)) λF=>
   aH prog (Builtin.append_ #[35,35] 35 #[nV sp,nV (tX (mB (pd b 0 nC)) 1 1)]) F λv F=>∃X:Sl,v=nV X/\rj F (pd b1 5 nC) (nV X) C:=by
 obtain ⟨G,c,n,t,s,sp,l,f,vs,h⟩:=h;refine ⟨sp,h.st.ld0 rfl,?_⟩;refine h.st.runv (s1 _) λG1 F1 l1 st=> ?_;refine ⟨_,rfl,st.ld0 rfl,?_⟩;refine st.runv (s2 _) λG2 F2 l2 st=> ?_;refine ⟨_,rfl,st.ld0 rfl,?_⟩;refine st.runv (s3 _) λG3 F3 l3 st=> ?_;refine ⟨_,rfl,st.ld0 rfl,?_⟩;refine st.runv (s4 _) λG4 F4 l4 st=> ?_;refine ⟨_,rfl,st.ld0 rfl,?_⟩;refine st.runv (s5 _) λG5 F5 l5 st=> ?_;refine ⟨_,rfl,st.ld0 rfl,rfl,rfl,rfl,rfl,rfl,?_⟩;refine st.newG λb G9 F9 l9 q _ st=> ?_;exact (h.up (aa l1 (aa l2 (aa l3 (aa l4 (aa l5 l9))))) st).add ⟨[A.arr,E.arr,I.arr,r.arr,M.arr],(.cons rfl (.cons rfl (.cons rfl (.cons rfl (.cons rfl .nil))))),RdS.new q (by kernel_rfl) rfl (tI _)⟩ hl k
end
theorem St.imp {G F:PH} {As:List (Ψ)} (h:St G F As) (i:Nat) {A A':Ψ} (hi:As[i]? =mB A) (f:∀H,H.le F->A H->A' H):St G F (As.set i A'):=by obtain ⟨H,w,C,r,B⟩:=h.set (A':=A') hi;exact B H F (f H r w) (λb g=> .inl g) r λb o g _=>g
def wO:List ο:=[⟨#[43]⟩,⟨#[42]⟩,⟨#[40]⟩,⟨#[41]⟩,⟨#[105,102]⟩,⟨#[101,108,115,101]⟩,⟨#[59]⟩,⟨#[94]⟩]
def mJ:Tk:=⟨⟨#[105,100]⟩,0,⟨#[]⟩,[⟨1,97,122,0,0⟩,⟨1,97,122,0,0⟩,⟨4,0,0,1,0⟩,⟨2,0,0,0,2⟩],⟨#[120]⟩,dF⟩
def YZ (x:ο):Tk:=⟨x,0,x,[],⟨#[]⟩,dF⟩
def jQ:Tk:=⟨⟨#[115,112,97,99,101]⟩,1,⟨#[]⟩,[⟨1,9,10,0,0⟩,⟨1,32,32,0,0⟩,⟨3,0,0,0,1⟩,⟨1,9,10,0,0⟩,⟨1,32,32,0,0⟩,⟨3,0,0,3,4⟩,⟨4,0,0,5,0⟩,⟨2,0,0,2,6⟩],⟨#[]⟩,dF⟩
def gN:Tk:=⟨⟨#[114,101,109,97,114,107]⟩,2,⟨#[]⟩,[⟨1,37,37,0,0⟩,⟨1,97,122,0,0⟩,⟨1,32,32,0,0⟩,⟨3,0,0,1,2⟩,⟨4,0,0,3,0⟩,⟨2,0,0,0,4⟩],⟨#[]⟩,dF⟩
def fi:List Tk:=mJ::wO.map YZ++[jQ,gN]
theorem qr {F:PH} {x:Tk} {p n:Sl} (h:RL F p x.pat) (g:RL F n x.cond.1):Mem.rep F x (x.arr p n):=⟨p,n,rfl,h,g⟩
theorem oP (F:PH):ν 86 #[] F λr C=>(∃s,r=nV s/\RL C s fi)/\F.le C:=by
 obtain ⟨_,_,T⟩:=X4;refine aap ?_;unfold Yc;refine (St.start F).run (gV _) λ_ G1 A P l1 h=> ?_;obtain ⟨w,rfl,hw⟩:=P;obtain ⟨n,rfl,hn⟩:=hw.out;refine ⟨_,rfl,?_⟩;refine h.new λb1 F2 h=> ?_;refine h.put0 (w':= #[n.v,vi dF.2]) rfl rfl (by simp [ak,nV]) λF3 h=> ?_;refine ⟨_,rfl,h.whole0,rfl,rfl,?_⟩;refine h.new λE F4 h=> ?_;refine h.runv (dq 97 122 _) λG2 F5 l2 h=> ?_;refine ⟨_,rfl,?_⟩;refine h.runv (dq 97 122 _) λG3 F6 l3 h=> ?_;refine ⟨_,rfl,?_⟩;refine h.runv (cd 4 1 0 _) λG4 F7 l4 h=> ?_;refine ⟨_,rfl,?_⟩;refine h.runv (cd 2 0 2 _) λG5 F8 l5 h=> ?_;refine ⟨_,rfl,rfl,rfl,rfl,rfl,?_⟩;refine h.newG λR G6 F9 l6 a1 _ h=> ?_;have X:G1.le G6:=aa l2 (aa l3 (aa l4 (aa l5 l6)));have h:=h.imp (A':=own (tX (mB (pd E 0 nC)) 1 1) 166 7 (uX [Tk.arr ⟨⟨#[105,100]⟩,0,⟨#[]⟩,[],⟨#[120]⟩,dF⟩ pk n])) 0 rfl λH _ hH=> .inr ⟨E,_,rfl,hH,rfl,tI _,rfl,rfl⟩;refine h.el1 0 rfl (by simp) (c:=Tk.arr ⟨⟨#[105,100]⟩,0,⟨#[]⟩,[],⟨#[120]⟩,dF⟩ pk n) (k:=0) rfl (by decide) (by decide) λa6 h=> ?_;refine h.newG λQ J W l7 a0 _ h=> ?_;have lt:=aa X l7;have r0:bT J [mJ] [mJ.arr (tX (mB (pd R 0 nC)) 4 4) n]:=.cons (qr ⟨[_,_,_,_],.cons rfl (.cons rfl (.cons rfl (.cons rfl .nil))),RdS.new (l7 _ _ a1) rfl rfl (tI _)⟩ (hn.le lt)) .nil;replace h:St J W [own (tX (mB (pd E 0 nC)) 1 1) 166 7 (uX [mJ.arr (tX (mB (pd R 0 nC)) 4 4) n]),pt b1 (mX #[n.v,vi dF.2] 33)]:=h;have hl:RL J (tX (mB (pd Q 0 nC)) 8 8) wO:=RL.strs.2 (RdS.new a0 rfl rfl (tI _));have lF:F.le J:=aa l1 lt;refine ⟨λm out i C=>∃k:Nat,k<=8/\i=k/\m=8 - k/\out.len=k+1/\∃G vs,J.le G/\bT G (mJ::(wO.take k).map YZ) vs/\St G C [own out 166 7 (uX vs),pt b1 (mX #[n.v,vi dF.2] 33)],8,⟨0,by decide,rfl,rfl,rfl,J,_,au _,r0,h⟩,?_⟩;rintro m out i C ⟨k,hk,rfl,rfl,a3,G,vs,D,P,h⟩;unfold KN;refine ⟨λhi=> ?_,λhi=> ?_⟩
 ·have B:k<8:=by have:(k:Int)<8:=hi;omega
  have V:wO[k]? =mB (wO[k]' B):=N5 B;generalize wO[k]=x at V;obtain ⟨a,c,ha,L,hc⟩:=hl.get (by decide) V;cases hc;cases ha;have g:∀{C:PH},J.le C->C.cell (od (pd Q 0 nC) (pc (k:Int)*1))=mB (pg x):=λhF=>aF (aO hF L) rfl;refine ⟨_,rfl,by omega,hi,x,g (aa D h.le),_,rfl,by omega,hi,x,g (aa D h.le),_,rfl,h.whole1,rfl,rfl,?_⟩;refine h.push0 T (c:=(YZ x).arr pk n) rfl (by simp [ak,nV]) (by omega) λs' G' F2 O h a7=> ?_;refine ⟨h.whole1,g (aa D (aa O h.le)),g (aa D (aa O h.le)),8 - (k+1),by omega,k+1,by omega,?_,rfl,by omega,G',vs++[(YZ x).arr pk n],aa D O,?_,?_⟩
  ·exact aD (n:=8) B (by decide)
  ·have e:wO.take (k+1)=wO.take k++[x]:=by rw [Wj,V];rfl
   rw [e,yO,<- zH];exact (P.le O).append (.cons (qr (.nil _) (hn.le (aa lt (aa D O)))) .nil)
  ·rw [be,cG];exact h
 ·have B:k=8:=by have:¬(k:Int)<8:=hi;omega
  subst B;unfold KM;have r9:=P;refine h.runv (dq 9 10 _) λH1 A m1 h=> ?_;refine ⟨_,rfl,?_⟩;refine h.runv (dq 32 32 _) λH2 A m2 h=> ?_;refine ⟨_,rfl,?_⟩;refine h.runv (cd 3 0 1 _) λH3 A m3 h=> ?_;refine ⟨_,rfl,?_⟩;refine h.runv (dq 9 10 _) λH4 A m4 h=> ?_;refine ⟨_,rfl,?_⟩;refine h.runv (dq 32 32 _) λH5 A m5 h=> ?_;refine ⟨_,rfl,?_⟩;refine h.runv (cd 3 3 4 _) λH6 A m6 h=> ?_;refine ⟨_,rfl,?_⟩;refine h.runv (cd 4 5 0 _) λH7 A m7 h=> ?_;refine ⟨_,rfl,?_⟩;refine h.runv (cd 2 2 6 _) λH8 A m8 h=> ?_;refine ⟨_,rfl,rfl,rfl,rfl,rfl,rfl,rfl,rfl,rfl,?_⟩;refine h.newG λI H9 A m9 Y _ h=> ?_;refine h.runv (dq 37 37 _) λI1 A n1 h=> ?_;refine ⟨_,rfl,?_⟩;refine h.runv (dq 97 122 _) λI2 A n2 h=> ?_;refine ⟨_,rfl,?_⟩;refine h.runv (dq 32 32 _) λI3 A n3 h=> ?_;refine ⟨_,rfl,?_⟩;refine h.runv (cd 3 1 2 _) λI4 A n4 h=> ?_;refine ⟨_,rfl,?_⟩;refine h.runv (cd 4 3 0 _) λI5 A n5 h=> ?_;refine ⟨_,rfl,?_⟩;refine h.runv (cd 2 0 4 _) λI6 A n6 h=> ?_;refine ⟨_,rfl,rfl,rfl,rfl,rfl,rfl,rfl,?_⟩;refine h.newG λK I7 A n7 a2 _ h=> ?_;refine ⟨_,rfl,h.whole1,rfl,rfl,?_⟩;refine h.push0 T (c:=jQ.arr (tX (mB (pd I 0 nC)) 8 8) n) rfl (by simp [ak,nV]) (by omega) λs1 I8 A n8 h a5=> ?_;refine ⟨_,rfl,h.whole1,rfl,rfl,?_⟩;refine h.push0 T (c:=gN.arr (tX (mB (pd K 0 nC)) 6 6) n) rfl (by simp [ak,nV]) (by omega) λs2 U A n9 h a4=> ?_;obtain ⟨ho,-⟩:=h.ownAt (i:=0) rfl;have N:=aa n8 n9;have Z:=aa n7 N;have iH:H9.le U:=aa n1 (aa n2 (aa n3 (aa n4 (aa n5 (aa n6 Z)))));have iG:G.le U:=aa m1 (aa m2 (aa m3 (aa m4 (aa m5 (aa m6 (aa m7 (aa m8 (aa m9 iH))))))));have M:=hn.le (aa lt (aa D iG));refine ⟨⟨s2,rfl,vs++[jQ.arr (tX (mB (pd I 0 nC)) 8 8) n]++[gN.arr (tX (mB (pd K 0 nC)) 6 6) n],?_,?_⟩,aa lF (aa D (aa iG h.le))⟩
  ·have e:fi=(mJ::(wO.take 8).map YZ)++[jQ]++[gN]:=rfl;rw [e];have p1:RL U (tX (mB (pd I 0 nC)) 8 8) jQ.pat:=RL.nds.2 (RdS.new (iH _ _ Y) rfl rfl (tI _));have p2:RL U (tX (mB (pd K 0 nC)) 6 6) gN.pat:=RL.nds.2 (RdS.new (N _ _ a2) rfl rfl (tI _));exact (((P.le iG).append (.cons (qr p1 M) .nil)).append (.cons (qr p2 M) .nil)).le h.le
  ·rw [be,be,cG,cG];exact ho.rd
abbrev eB (qa1:List ByteArray):Gr:=⟨[⟨#[65]⟩,⟨#[66]⟩],dF,fi,qa1,[],0,[],[]⟩
theorem uP {F:PH} {s:Sl} {A:List ο} (J:RL F s A):ν 52 #[s.v] F λr B=>(∃c n t,r=oc ((eB A).arr c n t s pk pk pk)/\RL B c (eB A).qa4/\RL B n dF.1/\RL B t fi/\RL B s A)/\F.le B:=by
 refine aak ?_;unfold X6;refine (St.start F).new λV N h=> ?_;refine h.run (gV _) λ_ U N C G h=> ?_;obtain ⟨w,rfl,R⟩:=C;obtain ⟨n,rfl,L⟩:=R.out;refine ⟨_,rfl,?_⟩;refine h.new λW F2 h=> ?_;refine h.put0 (w':= #[n.v,vi dF.2]) rfl rfl (by simp [ak,nV]) λK h=> ?_;refine ⟨_,rfl,h.whole0,?_,?_⟩
 ·refine h.newG λI Q P D q _ h=> ?_;refine h.run (oP _) λ_ O M C E h=> ?_;obtain ⟨t,rfl,H⟩:=C;refine ⟨_,rfl,h.whole0,rfl,?_⟩;refine h.put1 (w':=(eB A).arr (tX (mB (pd I 0 nC)) 2 2) n t s pk pk pk) rfl rfl (by simp [ak,nV]) λK h=> ?_;have g:=aa D E;exact ⟨_,rfl,h.whole1,⟨_,n,t,rfl,RL.strs.2 (RdS.new (h.le _ _ (E _ _ q)) rfl rfl (tI _)),L.le (aa g h.le),H.le h.le,J.le (aa G (aa g h.le))⟩,aa G (aa g h.le)⟩
 ·refine h.run (oP _) λ_ O M C E h=> ?_;obtain ⟨t,rfl,H⟩:=C;refine ⟨_,rfl,h.whole0,?_⟩;refine h.newG λI Q P D q _ h=> ?_;refine ⟨rfl,?_⟩;refine h.put1 (w':=(eB A).arr (tX (mB (pd I 0 nC)) 2 2) n t s pk pk pk) rfl rfl (by simp [ak,nV]) λK h=> ?_;have g:=aa E D;exact ⟨_,rfl,h.whole1,⟨_,n,t,rfl,RL.strs.2 (RdS.new (h.le _ _ q) rfl rfl (tI _)),L.le (aa g h.le),H.le (aa D h.le),J.le (aa G (aa g h.le))⟩,aa G (aa g h.le)⟩
theorem gO (F:PH) {arr:Γ} {k:Nat} (g:List ο) (E:arr.toList=g.map pg) (O:g.length=k) {C:Nat->Nat->Ψ} (M:∀A r D,KS F D A r (eB g)->C A r D):
  ∀A,F A=nC->wn (F.set A (mX zG 39)) λF=>∀B,F B=nC->wn (F.set B (mX arr 9)) λF=>ν 52 #[nV (tX (mB (pd B 0 nC)) k k)] F λv F=>∃w:Γ,v=oc w/\
   ∀r,F r=nC->wn (F.set r (mX zG 39)) λF=>aB F (pd r 0 nC) 9 w (C A r):=by
 refine (St.start F).new λA V h=> ?_;refine h.newG λB N F2 R q _ h=> ?_;have H:RL N (tX (mB (pd B 0 nC)) k k) g:=RL.strs.2 (RdS.new q (by rw [xZ,<- O,<- vb (f:=pg),<- E];exact wV) (by rw [vb];omega) (tI _));refine h.run (uP H) λ_ Q W P G h=> ?_;obtain ⟨c,n,t,rfl,L,K,I,J⟩:=P;refine ⟨_,rfl,?_⟩;refine h.new λr X h=> ?_;refine h.put0 (w':=(eB g).arr c n t (tX (mB (pd B 0 nC)) k k) pk pk pk) rfl rfl (by simp [ak,nV]) λU h=> ?_;have h:=(h.nilOwn 64 13).swap;exact M _ _ _ ⟨Q,c,n,t,_,pk,pk,pk,[],aa R G,h,.nil,L,K,I,J,.nil _,.nil _⟩
theorem KS.allv {K F:PH} {E H:Nat} {g:Gr} (h:KS K F E H g) {C:Nat->Ψ} (k:∀b B D n,K.le B->B b=mB (mX #[nV n,vi dF.2] 33)->RL B n dF.1->KS B D E H g->C b D):
  ν 85 #[oY nZ] F λv F=>∃w:Γ,v=oc w/\∀b,F b=nC->wn (F.set b (mX #[.slice nC 0 0,.int .i64 0] 33)) λF=>aB F (pd b 0 nC) 2 w (C b):=by
 refine h.run (λG _=>gV G) λ_ U V N O h=> ?_;obtain ⟨w,rfl,P⟩:=N;obtain ⟨n,rfl,Q⟩:=P.out;refine ⟨_,rfl,?_⟩;obtain ⟨G,c,M,t,s,L,l,f,vs,h⟩:=h;refine h.st.new λb F2 st=> ?_;refine st.put0 (w':= #[n.v,vi dF.2]) rfl rfl (by simp [ak,nV]) λR st=> ?_;refine st.pinb λJ A q st=> ?_;have I:=aa h.k A;exact k b J R n (aa O I) q (Q.le I) ⟨J,c,M,t,s,L,l,f,vs,au _,st,h.r.le A,h.c.le A,h.n.le A,h.t.le A,h.s.le A,h.l.le A,h.f.le A⟩
abbrev zh (v:Nat):wc:=ph (ap2 kW (tv v) (qa6 nZ))
theorem nU {F:PH} {v:Γ} {x:Nat} (A:x<6) (h:DV F v (ph (tv x))):ν 157 #[oc v] F λr g=>CE (zh x) r g/\F.le g:=
 (rP h ((Sx.tv (n:=6) A (by decide)).f2 (Sx.qa6 6 nZ) (by decide))).mono λ_ _ ⟨w,D,B,C⟩=>⟨⟨w,D,B⟩,C⟩
def bZ:Gr:={(eB [⟨#[69]⟩]) with qa0:=[bA ⟨#[97,100,100]⟩ 0 [⟨nS,0⟩,⟨nZ,1⟩,⟨nS,0⟩],bA ⟨#[109,117,108]⟩ 0 [⟨nS,0⟩,⟨nZ,2⟩,⟨nS,0⟩],{(bA ⟨#[98,114,97,99,107,101,116]⟩ 0 [⟨nZ,3⟩,⟨nS,0⟩,⟨nZ,4⟩]) with brk:=nZ},bA ⟨#[110,97,109,101]⟩ 0 [⟨nZ,0⟩],{(bA ⟨#[112,111,119]⟩ 0 [⟨nS,0⟩,⟨nZ,8⟩,⟨nS,0⟩]) with cond:=ph (tv 1)}],lvs:=[⟨[4],2,dF⟩,⟨[1],1,dF⟩,⟨[0],1,zh 0⟩]}
def bR:Gr:={(eB [⟨#[83]⟩,⟨#[67]⟩]) with qa0:=[bA ⟨#[98,111,116,104]⟩ 0 [⟨nZ,5⟩,⟨nS,1⟩,⟨nS,0⟩,⟨nZ,6⟩,⟨nS,0⟩],bA ⟨#[116,104,101,110]⟩ 0 [⟨nZ,5⟩,⟨nS,1⟩,⟨nS,0⟩],bA ⟨#[99,97,108,108]⟩ 0 [⟨nS,1⟩,⟨nZ,7⟩],{(bA ⟨#[98,108,111,99,107]⟩ 0 [⟨nZ,3⟩,⟨nS,0⟩,⟨nZ,4⟩]) with brk:=nZ},bA ⟨#[119,111,114,100]⟩ 1 [⟨nZ,0⟩]],fils:=[⟨2,0,2,1,0,0,[],ph (tv 0)⟩,⟨5,0,0,0,0,0,[5,6],ph (tv 1)⟩]}
def aR:Gr:={(eB [⟨#[76]⟩,⟨#[73]⟩]) with qa0:=[bA ⟨#[101,109,112,116,121]⟩ 0 [],bA ⟨#[109,111,114,101]⟩ 0 [⟨nS,0⟩,⟨nS,1⟩],{(bA ⟨#[116,121,112,101]⟩ 1 [⟨nZ,1⟩,⟨nZ,0⟩,⟨nZ,7⟩]) with sco:=⟨nS,2,1,0,0⟩},{(bA ⟨#[112,111,105,110,116,101,114]⟩ 1 [⟨nZ,0⟩,⟨nZ,2⟩,⟨nZ,0⟩,⟨nZ,7⟩]) with sco:=⟨nS,3,2,1,2⟩},{(bA ⟨#[112,114,111,100,117,99,116]⟩ 1 [⟨nZ,0⟩,⟨nZ,2⟩,⟨nZ,0⟩,⟨nZ,7⟩]) with sco:=⟨nS,0,0,1,5⟩,rank:= -1},{(bA ⟨#[105,110,110,101,114]⟩ 1 [⟨nZ,3⟩,⟨nS,0⟩,⟨nZ,4⟩]) with sco:=⟨nZ,0,0,0,0⟩},{(bA ⟨#[115,116,114,105,99,116]⟩ 1 [⟨nZ,0⟩,⟨nZ,7⟩]) with sco:=⟨nS,0,0,1,6⟩,cond:=ph (tv 0)}]}
def iC:Gr:={(eB [⟨#[66]⟩,⟨#[73]⟩]) with qa0:=[bA ⟨#[111,110,101]⟩ 0 [⟨nS,1⟩],{(bA ⟨#[108,105,115,116]⟩ 0 [⟨nS,0⟩,⟨nS,1⟩]) with lay:=[⟨2,0,1⟩]},bA ⟨#[119,111,114,100]⟩ 1 [⟨nZ,0⟩],{(bA ⟨#[104,101,97,100]⟩ 1 [⟨nZ,5⟩,⟨nZ,0⟩,⟨nS,0⟩]) with lay:=[⟨3,0,2⟩,⟨1,2,0⟩]},{(bA ⟨#[108,105,110,101]⟩ 1 [⟨nZ,5⟩,⟨nS,0⟩]) with lay:=[⟨4,0,1⟩],cond:=ph (tv 0)}]}
def fS:Gr:={(eB [⟨#[83]⟩,⟨#[87]⟩,⟨#[86]⟩]) with qa0:=[bA ⟨#[112,97,105,114]⟩ 0 [⟨nS,1⟩,⟨nS,2⟩],{(bA ⟨#[115,105,110,103,108,101]⟩ 1 [⟨nZ,0⟩]) with rank:= -1},bA ⟨#[100,111,117,98,108,101]⟩ 1 [⟨nZ,0⟩,⟨nZ,0⟩],bA ⟨#[110,111,110,101]⟩ 2 [],bA ⟨#[110,101,120,116]⟩ 2 [⟨nZ,0⟩,⟨nS,2⟩],{(bA ⟨#[109,97,114,107]⟩ 2 [⟨nZ,1⟩,⟨nS,2⟩]) with cond:=ph (tv 1)}],fils:=[⟨3,0,0,0,1,0,[0],ph (tv 0)⟩,⟨4,0,0,0,2,0,[1],zh 1⟩]}
def fU:Gr:={(eB [⟨#[83]⟩,⟨#[79]⟩,⟨#[80]⟩]) with qa0:=[bA ⟨#[97,108,108]⟩ 0 [⟨nS,1⟩,⟨nZ,0⟩,⟨nS,1⟩,⟨nS,2⟩],bA ⟨#[110,111]⟩ 1 [],bA ⟨#[121,101,115]⟩ 1 [⟨nZ,1⟩],bA ⟨#[101,110,100]⟩ 2 [],{(bA ⟨#[114,101,115,116]⟩ 2 [⟨nZ,1⟩,⟨nS,2⟩]) with cond:=ph (tv 0)}]}
theorem gq (F:PH):ν 27 #[] F λr g=>(∃w,r=oc w/\GV g w aR)/\F.le g:=by refine aaj ?_;unfold X5;refine gO F [⟨#[76]⟩,⟨#[73]⟩] rfl rfl λC D E h=> ?_;refine h.rule0 (by decide) λF2 h=> ?_;refine h.rule2 (dX 0) (dX 1) (by decide) λF2 h=> ?_;refine h.rule3 (cP 1) (cP 0) (cP 7) (by decide) λF2 h=> ?_;refine h.rule4 (cP 0) (cP 2) (cP 0) (cP 7) (by decide) λF2 h=> ?_;refine h.rule4 (cP 0) (cP 2) (cP 0) (cP 7) (by decide) λF2 h=> ?_;refine h.rule3 (cP 3) (dX 0) (cP 4) (by decide) λF2 h=> ?_;refine h.rule2 (cP 0) (cP 7) (by decide) λF2 h=> ?_;refine h.sco 2 rfl λF2 h=> ?_;refine h.sco 3 rfl λF2 h=> ?_;refine h.sco 4 rfl λF2 h=> ?_;refine h.sco 5 rfl λF2 h=> ?_;refine h.sco 6 rfl λF2 h=> ?_;refine h.rank 4 rfl λF2 h=> ?_;refine h.cnd 6 rfl 0 (by decide) λF2 h=> ?_;exact h.fin (R:=λr g=>(∃w,r=oc w/\GV g w aR)/\F.le g) λw g B A=>⟨⟨w,rfl,B⟩,A⟩
theorem qig (F:PH):ν 124 #[] F λr g=>(∃w,r=oc w/\GV g w iC)/\F.le g:=by refine qfH ?_;unfold Qw;refine gO F [⟨#[66]⟩,⟨#[73]⟩] rfl rfl λC D E h=> ?_;refine h.rule1 (dX 1) (by decide) λF2 h=> ?_;refine h.rule2 (dX 0) (dX 1) (by decide) λF2 h=> ?_;refine h.rule1 (cP 0) (by decide) λF2 h=> ?_;refine h.rule3 (cP 5) (cP 0) (dX 0) (by decide) λF2 h=> ?_;refine h.rule2 (cP 5) (dX 0) (by decide) λF2 h=> ?_;refine h.lay1 1 rfl λF2 h=> ?_;refine h.lay2 3 rfl λF2 h=> ?_;refine h.lay1 4 rfl λF2 h=> ?_;refine h.cnd 4 rfl 0 (by decide) λF2 h=> ?_;exact h.fin (R:=λr g=>(∃w,r=oc w/\GV g w iC)/\F.le g) λw g B A=>⟨⟨w,rfl,B⟩,A⟩
theorem qhC (F:PH):ν 126 #[] F λr g=>(∃w,r=oc w/\GV g w fU)/\F.le g:=by refine qfJ ?_;unfold Qy;refine gO F [⟨#[83]⟩,⟨#[79]⟩,⟨#[80]⟩] rfl rfl λC D E h=> ?_;refine h.rule4 (dX 1) (cP 0) (dX 1) (dX 2) (by decide) λF2 h=> ?_;refine h.rule0 (by decide) λF2 h=> ?_;refine h.rule1 (cP 1) (by decide) λF2 h=> ?_;refine h.rule0 (by decide) λF2 h=> ?_;refine h.rule2 (cP 1) (dX 2) (by decide) λF2 h=> ?_;refine h.cnd 4 rfl 0 (by decide) λF2 h=> ?_;exact h.fin (R:=λr g=>(∃w,r=oc w/\GV g w fU)/\F.le g) λw g B A=>⟨⟨w,rfl,B⟩,A⟩
theorem lq {F:PH} {b:Nat} {e:TypeId} {x:Int} (q:F b=mB (mX #[vi x] e)):RL F (tX (mB (pd b 0 nC)) 1 1) [x]:=RL.ints.2 (RdS.new q rfl rfl (tI _))
theorem qt {F:PH} {x:Fi} {t n:Sl} (h:RL F t x.qa2) (g:RL F n x.cond.1):Mem.rep F x (x.arr t n):=⟨t,n,rfl,h,g⟩
theorem wQ {F:PH} {x:Lv} {p n:Sl} (h:RL F p x.ps) (g:RL F n x.cond.1):Mem.rep F x (x.arr p n):=⟨p,n,rfl,h,g⟩
theorem qhD (F:PH):ν 125 #[] F λr A=>(∃w,r=oc w/\GV A w fS)/\F.le A:=by refine qfI ?_;unfold Qx;refine gO F [⟨#[83]⟩,⟨#[87]⟩,⟨#[86]⟩] rfl rfl λb0 b1 F1 h=> ?_;refine h.rule2 (dX 1) (dX 2) (by decide) λF2 h=> ?_;refine h.rule1 (cP 0) (by decide) λF2 h=> ?_;refine h.rule2 (cP 0) (cP 0) (by decide) λF2 h=> ?_;refine h.rule0 (by decide) λF2 h=> ?_;refine h.rule2 (cP 0) (dX 2) (by decide) λF2 h=> ?_;refine h.rule2 (cP 1) (dX 2) (by decide) λF2 h=> ?_;refine h.rank 1 rfl λF2 h=> ?_;refine h.cnd 5 rfl 1 (by decide) λF2 h=> ?_;refine h.new λV K3 F3 W H h=> ?_;refine h.run (λG _=>bS 0 (by decide) G) λ_ K4 F4 B M h=> ?_;obtain ⟨_,rfl,L⟩:=B;obtain ⟨m,rfl,O⟩:=L.out;refine ⟨_,rfl,rfl,?_⟩;refine h.new λP Z F5 X J h=> ?_;refine h.run (λG _=>bS 1 (by decide) G) λ_ K6 F6 B Y h=> ?_;obtain ⟨_,rfl,I⟩:=B;refine ⟨_,rfl,?_⟩;refine h.run (λG K=>nU (by decide) (I.le K)) λ_ K7 F7 B U h=> ?_;obtain ⟨_,rfl,L⟩:=B;obtain ⟨m',rfl,E⟩:=L.out;refine ⟨_,rfl,rfl,rfl,rfl,?_⟩;refine h.new λQ K8 F8 N D h=> ?_;have C:=aa Y (aa U N);have g:=aa X C;refine h.fils (x:=[⟨3,0,0,0,1,0,[0],ph (tv 0)⟩,⟨4,0,0,0,2,0,[1],zh 1⟩]) ⟨[_,_],.cons (qt (lq (g _ _ (M _ _ H))) (O.le g)) (.cons (qt (lq (C _ _ J)) (E.le N)) .nil),RdS.new D (by kernel_rfl) rfl (tI _)⟩ λF9 h=> ?_;exact h.fin (R:=λr A=>(∃w,r=oc w/\GV A w fS)/\F.le A) λw A I K=>⟨⟨w,rfl,I⟩,aa W (aa M (aa g K))⟩
def wS:Gr:={(eB [⟨#[83]⟩,⟨#[67]⟩]) with qa0:=bR.qa0}
theorem Ez {K F F0:PH} {M I C B:Nat} {g:Gr} {c n t s sp l m v:Sl} {vs:List Γ} (hF:F0.le K) (W:{g with fils:=[⟨2,0,2,1,0,0,[],ph (tv 0)⟩,⟨5,0,0,0,0,0,[5,6],ph (tv 1)⟩]}=bR)
  (st:St K F [pt B (mX (wr (wr (#[tJ .i64 0,.int .i64 0,.int .i64 0,.int .i64 0,.int .i64 0,.int .i64 0,.slice nC 0 0,.slice nC 0 0,.int .i64 0,.int .i64 0,.int .i64 0,.int .i64 0,.int .i64 0,.int .i64 0,.int .i64 0,.slice nC 0 0,.slice nC 0 0,.int .i64 0]:Γ) 0 (wr (tL (tL (tL (#[tJ .i64 0,.int .i64 0,.int .i64 0,.int .i64 0,.int .i64 0,.int .i64 0,.slice nC 0 0,.slice nC 0 0,.int .i64 0]:Γ) 0 (vi 2)) 2 (vi 2)) 3 (vi 1)) 7 (#[m.v,vi (ph (tv 0)).2]:Γ).toList).toList) 9 (wr (tL (tL (#[tJ .i64 0,.int .i64 0,.int .i64 0,.int .i64 0,.int .i64 0,.int .i64 0,.slice nC 0 0,.slice nC 0 0,.int .i64 0]:Γ) 0 (vi 5)) 6 (nV (tX (mB (pd C 0 nC)) 2 2))) 7 (#[v.v,vi dF.2]:Γ).toList).toList) 233),pt I (mX (g.arr c n t s sp l (tX (mB (pd B 0 nC)) 2 2)) 39),own sp 64 13 (uX vs),pt M (mX zG 39)])
  (hr:bT K g.qa0 vs) (hc:RL K c g.qa4) (hn:RL K n g.fam.1) (X:RL K t g.qa2) (U:RL K s g.qa1) (N:RL K l g.lvs) (V:RL K m (ph (tv 0)).1) (J:RL K (tX (mB (pd C 0 nC)) 2 2) [(5:Int),6]):
  qD M I (λr D=>(∃w,r=oc w/\GV D w bR)/\F0.le D) F:=by
 unfold qD;refine ⟨_,st.ld1 rfl,?_⟩;refine st.run (bS 1 (by decide) _) λ_ K1 F1 E l1 st=> ?_;obtain ⟨_,rfl,hw⟩:=E;obtain ⟨Q,rfl,G⟩:=hw.out;refine ⟨_,rfl,st.ld1 rfl,_,rfl,by decide,(by show (1:Int)<2;decide),?_⟩;simp only [aJ];refine st.putR0 (o:=16) (w':= #[vi 2,vi 0,vi 2,vi 1,vi 0,vi 0,nV pk,m.v,vi (ph (tv 0)).2,vi 5,vi 0,vi 0,vi 0,vi 0,vi 0,nV (tX (mB (pd C 0 nC)) 2 2),Q.v,vi (ph (tv 1)).2]) rfl (by simp [ak,nV]) (by rw [dG,dG];show 16+2<=18;decide) (by kernel_rfl) λF2 st=> ?_;obtain ⟨L,O,⟨H,Z,P⟩,st⟩:=st.pin;have q:=P _ _ Z;have A:=aa l1 O;have hf:RL L (tX (mB (pd B 0 nC)) 2 2) [(⟨2,0,2,1,0,0,[],ph (tv 0)⟩:Fi),⟨5,0,0,0,0,0,[5,6],ph (tv 1)⟩]:=
  ⟨[_,_],.cons (qt (t:=pk) (.nil _) (V.le A)) (.cons (qt (J.le A) (G.le O)) .nil),RdS.new q (by kernel_rfl) rfl (tI _)⟩
 have h:KS L F2 M I bR:=by rw [<- W];exact ⟨L,c,n,t,s,sp,l,_,vs,au _,st,hr.le A,hc.le A,hn.le A,X.le A,U.le A,N.le A,hf⟩
 exact h.fin (R:=λr D=>(∃w,r=oc w/\GV D w bR)/\F0.le D) λw D Y N=>⟨⟨w,rfl,Y⟩,aa hF (aa A N)⟩
theorem qg6 (F:PH):ν 123 #[] F λr M=>(∃w,r=oc w/\GV M w bR)/\F.le M:=by
 refine qfG ?_;unfold Qv;refine gO F [⟨#[83]⟩,⟨#[67]⟩] rfl rfl λb0 Y Z h=> ?_;refine h.allv λb2 K1 F2 n H q P h=> ?_;refine h.rule5 (cP 5) (dX 1) (dX 0) (cP 6) (dX 0) (by decide) λF2 h=> ?_;refine h.rule3 (cP 5) (dX 1) (dX 0) (by decide) λF2 h=> ?_;refine h.rule2 (dX 1) (cP 7) (by decide) λF2 h=> ?_;refine h.rule3 (cP 3) (dX 0) (cP 4) (by decide) λF2 h=> ?_;refine h.rule1 (cP 0) (by decide) λF2 h=> ?_;refine h.brk 3 rfl λF2 h=> ?_;refine ⟨_,rfl,ai (h.le _ _ q),?_⟩;obtain ⟨G,c,N,t,s,O,l,f,vs,h⟩:=h;have P:=P.le h.k;have H:=aa H h.k;refine ⟨?_,?_⟩
 ·refine h.st.run (bS 0 (by decide) _) λ_ X W K D st=> ?_;obtain ⟨_,rfl,L⟩:=K;obtain ⟨m,rfl,I⟩:=L.out;refine ⟨_,rfl,ai (st.le _ _ (D _ _ (h.k _ _ q))),rfl,?_⟩;refine st.newG λJ Q R E B _ st=> ?_;refine ⟨rfl,rfl,rfl,?_⟩;refine st.new λC V st=> ?_;refine st.set1 (w':=(wS.arr c N t s O l (tX (mB (pd C 0 nC)) 2 2))) (vp rfl) rfl λU st=> ?_;have A:=aa D E;exact Ez (g:=wS) (aa H A) rfl st (h.r.le A) (h.c.le A) (h.n.le A) (h.t.le A) (h.s.le A) (h.l.le A) (I.le E) (RL.ints.2 (RdS.new B rfl rfl (tI _)))
 ·refine h.st.newG λJ Q R E B _ st=> ?_;refine ⟨rfl,?_⟩;refine st.run (bS 0 (by decide) _) λ_ X W K D st=> ?_;obtain ⟨_,rfl,L⟩:=K;obtain ⟨m,rfl,I⟩:=L.out;refine ⟨_,rfl,ai (st.le _ _ (D _ _ (E _ _ (h.k _ _ q)))),rfl,rfl,rfl,?_⟩;refine st.new λC V st=> ?_;refine st.set1 (w':=(wS.arr c N t s O l (tX (mB (pd C 0 nC)) 2 2))) (vp rfl) rfl λU st=> ?_;have A:=aa E D;exact Ez (g:=wS) (aa H A) rfl st (h.r.le A) (h.c.le A) (h.n.le A) (h.t.le A) (h.s.le A) (h.l.le A) I ((RL.ints.2 (RdS.new B rfl rfl (tI _))).le D)
def qeX:Gr:={bZ with lvs:=[]}
abbrev Xk (K0:PH):VR:=λr F'=>(∃w,r=oc w/\GV F' w bZ)/\K0.le F'
structure EK (K0 F:PH) (b0 b1 b2:Nat) (n:Sl) (x y z:Nat) (m o:Sl) (p q r s u:Bool):Prop where
 ex:∃K,KS K F b0 b1 qeX/\K0.le K/\K b2=mB (mX #[nV n,vi dF.2] 33)/\RL K n dF.1/\(p=nZ->K x=mB (mX #[vi 4] 3))/\(q=nZ->K y=mB (mX #[vi 1] 3))/\(r=nZ->K z=mB (mX #[vi 0] 3))/\(s=nZ->RL K m (ph (tv 0)).1)/\(u=nZ->RL K o (zh 0).1)
section
variable {K0 F:PH} {b0 b1 b2 x y z:Nat} {n m o:Sl} {p q r s u:Bool} {C:Nat->Ψ} {D:Γ->Ψ}
theorem EK.row (H:EK K0 F b0 b1 b2 n x y z m o p q r s u):F.row (pd b2 0 nC) #[nV n,vi dF.2]:=by obtain ⟨K,h,_,a,_⟩:=H.ex;exact ai (h.le _ _ a)
theorem EK.n1 (H:EK K0 F b0 b1 b2 n x y z m o p q r s u) (k:∀x F,EK K0 F b0 b1 b2 n x y z m o nZ q r s u->C x F):Nb F (mX #[vi 4] 3) C:=by obtain ⟨K,h,l,a,c,J,G,I,B,A⟩:=H.ex;exact h.new λb E w g e h=>k b w ⟨E,h,aa l g,g _ _ a,c.le g,λ_=>e,λi=>g _ _ (G i),λi=>g _ _ (I i),λi=>(B i).le g,λi=>(A i).le g⟩
theorem EK.n2 (H:EK K0 F b0 b1 b2 n x y z m o p q r s u) (k:∀y F,EK K0 F b0 b1 b2 n x y z m o p nZ r s u->C y F):Nb F (mX #[vi 1] 3) C:=by obtain ⟨K,h,l,a,c,I,J,G,B,A⟩:=H.ex;exact h.new λb E w g e h=>k b w ⟨E,h,aa l g,g _ _ a,c.le g,λi=>g _ _ (I i),λ_=>e,λi=>g _ _ (G i),λi=>(B i).le g,λi=>(A i).le g⟩
theorem EK.n3 (H:EK K0 F b0 b1 b2 n x y z m o p q r s u) (k:∀z F,EK K0 F b0 b1 b2 n x y z m o p q nZ s u->C z F):Nb F (mX #[vi 0] 3) C:=by obtain ⟨K,h,l,a,c,I,G,J,B,A⟩:=H.ex;exact h.new λb E w g e h=>k b w ⟨E,h,aa l g,g _ _ a,c.le g,λi=>g _ _ (I i),λi=>g _ _ (G i),λ_=>e,λi=>(B i).le g,λi=>(A i).le g⟩
theorem EK.c0 (H:EK K0 F b0 b1 b2 n x y z m o p q r s u) (k:∀m F,EK K0 F b0 b1 b2 n x y z m o p q r nZ u->D #[nV m,vi (ph (tv 0)).2] F):Ca 56 #[vi (0:Int)] F D:=by obtain ⟨K,h,l,a,c,M,I,J,N,A⟩:=H.ex;refine h.run (λG _=>bS 0 (by decide) G) λ_ E w B g h=> ?_;obtain ⟨_,rfl,L⟩:=B;obtain ⟨m,rfl,e⟩:=L.out;exact ⟨_,rfl,k m w ⟨E,h,aa l g,g _ _ a,c.le g,λi=>g _ _ (M i),λi=>g _ _ (I i),λi=>g _ _ (J i),λ_=>e,λi=>(A i).le g⟩⟩
theorem EK.c1 (H:EK K0 F b0 b1 b2 n x y z m o p q r nZ u) (k:∀o F,EK K0 F b0 b1 b2 n x y z m o p q r nZ nZ->D #[nV o,vi (zh 0).2] F):Ca 157 #[oc #[nV m,vi (ph (tv 0)).2]] F D:=by obtain ⟨K,h,l,a,c,N,J,L,w,O⟩:=H.ex;refine h.run (λG B=>nU (x:=0) (by decide) ((DV.mk (w rfl)).le B)) λ_ I A E g h=> ?_;obtain ⟨_,rfl,M⟩:=E;obtain ⟨o,rfl,e⟩:=M.out;exact ⟨_,rfl,k o A ⟨I,h,aa l g,g _ _ a,c.le g,λi=>g _ _ (N i),λi=>g _ _ (J i),λi=>g _ _ (L i),λi=>(w i).le g,λ_=>e⟩⟩
theorem EK.fin {cs:Γ} (A:cs.toList=uX [Lv.arr ⟨[4],2,dF⟩ (Sb x 1) n,Lv.arr ⟨[1],1,dF⟩ (Sb y 1) n,Lv.arr ⟨[0],1,zh 0⟩ (Sb z 1) o]) (H:EK K0 F b0 b1 b2 n x y z m o nZ nZ nZ s nZ):Nb F (mX cs 236) λb F=>mY b1 b b0 (Xk K0) F:=by
 obtain ⟨K,h,l,a,c,M,I,L,N,E⟩:=H.ex;refine h.new λb Q B g e h=> ?_;unfold mY;have P:cs.size=12:=by rw [<- zA,A];rfl
 refine h.lvs (x:=bZ.lvs) ⟨[_,_,_],.cons (wQ (lq (g _ _ (M rfl))) (c.le g)) (.cons (wQ (lq (g _ _ (I rfl))) (c.le g)) (.cons (wQ (lq (g _ _ (L rfl))) ((E rfl).le g)) .nil)),RdS.new e (by rw [A];rfl) rfl (tI _)⟩ λO h=> ?_;unfold Fb;exact h.fin (R:=Xk K0) λw B J G=>⟨⟨w,rfl,J⟩,aa l (aa g G)⟩
end
theorem qgZ (F:PH):ν 122 #[] F λr g=>(∃w,r=oc w/\GV g w bZ)/\F.le g:=by
 refine qfF ?_;unfold Qu;refine gO F [⟨#[69]⟩] rfl rfl λB C I h=> ?_;refine h.allv λA G F2 n D q E h=> ?_;refine h.rule3 (dX 0) (cP 1) (dX 0) (by decide) λF2 h=> ?_;refine h.rule3 (dX 0) (cP 2) (dX 0) (by decide) λF2 h=> ?_;refine h.rule3 (cP 3) (dX 0) (cP 4) (by decide) λF2 h=> ?_;refine h.rule1 (cP 0) (by decide) λF2 h=> ?_;refine h.rule3 (dX 0) (cP 8) (dX 0) (by decide) λF2 h=> ?_;refine h.brk 2 rfl λF2 h=> ?_;refine h.cnd 4 rfl 1 (by decide) λF2 h=> ?_;have H:EK F _ B C A n 0 0 0 n n nS nS nS nS nS:=⟨_,h,D,q,E,λi=>(by cases i),λi=>(by cases i),λi=>(by cases i),λi=>(by cases i),λi=>(by cases i)⟩;refine ⟨_,rfl,H.row,_,rfl,H.row,?_⟩
 repeat' first
  |exact H.fin (by kernel_rfl)
  |refine ⟨rfl,?_⟩
  |refine ⟨H.row,?_⟩
  |refine And.intro ?_ ?_
  |refine H.n1 λx F H=> ?_
  |refine H.n2 λy F H=> ?_
  |refine H.n3 λz F H=> ?_
  |refine H.c0 λm F H=> ?_
  |refine H.c1 λo F H=> ?_
def cv (k:Nat):Gr:=if k=0 then bZ else if k=1 then bR else if k=2 then aR else if k=3 then iC else if k=4 then fS else fU
theorem B5 (k:Nat) (F:PH):ν 92 #[tJ .u8 (k:Int)] F λr C=>(∃w,r=oc w/\GV C w (cv (k % 6)))/\F.le C:=by
 refine aaq ?_;unfold Yd;refine (St.start F).new λb B h=> ?_;have e:tK (k:Int) 6=((k % 6:Nat):Int):=by rw [Xc (by omega)];omega
 rw [e];have L:k % 6<6:=VU _ (by decide);generalize k % 6=j at*;have fin:∀{v:ξ} {G B:PH},F.le G->(∃w,v=oc w/\GV G w (cv j))->St G B [pt b (mX zG 39)]->∃w:Γ,v=oc w/\aB B (pd b 0 nC) 9 w λF2=>∃w:Γ,w.size=9/\F2.row (pd b 0 nC) w/\((∃w',oc w=oc w'/\GV F2 w' (cv j))/\F.le F2):=λ{v G B} E A h=>by obtain ⟨w,rfl,A⟩:=A;exact ⟨w,rfl,h.put0 (w':=w) A.size rfl A.st λF2 h=>⟨w,A.size,h.whole0,⟨w,rfl,A.le h.le⟩,aa E h.le⟩⟩
 refine ⟨λI=> ?_,λI=>⟨λK=> ?_,λK=>⟨λH=> ?_,λH=>⟨λJ=> ?_,λJ=>⟨λD=> ?_,λD=> ?_⟩⟩⟩⟩⟩
 ·obtain rfl:j=0:=by omega
  exact h.run (qgZ _) λ_ G F2 g l h=>fin l g h
 ·obtain rfl:j=1:=by omega
  exact h.run (qg6 _) λ_ G F2 g l h=>fin l g h
 ·obtain rfl:j=2:=by omega
  exact h.run (gq _) λ_ G F2 g l h=>fin l g h
 ·obtain rfl:j=3:=by omega
  exact h.run (qig _) λ_ G F2 g l h=>fin l g h
 ·obtain rfl:j=4:=by omega
  exact h.run (qhD _) λ_ G F2 g l h=>fin l g h
 ·obtain rfl:j=5:=by omega
  exact h.run (qhC _) λ_ G F2 g l h=>fin l g h
def jj (b n:Nat):Tr:=if n=0\/b % 6<3 then qa6 nZ else if b % 6=3 then tv (b / 6 % n) else if b % 6=4 then ap2 kW (tv (b / 6 % n)) (qa6 nZ) else iU [(b:Int)] n 0 0
theorem EA {n:Nat} (h:n<256):u8.wrap (n:Int)=n:=by simp only [IntKind.wrap,IntKind.bits,IntKind.signed,WN,VQ,if_false];omega
theorem wT {F G g:PH} {b:Nat} {As:List (Ψ)} {w c:Γ} {d:wc} {P:Prop} (h:St G g (pt b (mX c 33)::As)) (A:c.size=2) (C:DV G w d) (r:F.le G) (B:P):
  aB g (pd b 0 nC) 2 w λF2=>∃v:Γ,v.size=2/\F2.row (pd b 0 nC) v/\((CE d (oc v) F2/\P)/\F.le F2):=by
 obtain ⟨n,rfl,D⟩:=C.out;refine h.put0 (w':= #[n.v,vi d.2]) rfl A (by simp [ak,nV]) λF2 h=> ?_;exact ⟨_,rfl,h.whole0,⟨⟨_,rfl,DV.mk (D.le h.le)⟩,B⟩,aa r h.le⟩
theorem zj (b n:Nat) (hb:b<256) (D:n<=6) (F:PH):ν 128 #[tJ .u8 (b:Int),vi n] F λr C=>(CE (ph (jj b n)) r C/\Sx n (jj b n))/\F.le C:=by
 refine qfK ?_;unfold Qz;refine (St.start F).new λb4 F1 h=> ?_;have R:tK (b:Int) 6=((b % 6:Nat):Int):=by rw [Xc (by omega)];omega
 have U:∀q:Bool,(n=0->q=nZ)->(n≠0->q=decide (b % 6<3))->qE (b:Int) (n:Int) b4 q (λr C=>(CE (ph (jj b n)) r C/\Sx n (jj b n))/\F.le C) F1:=λq J I=>by
  unfold qE;refine ⟨λE=> ?_,λE=> ?_⟩
  ·have e:jj b n=qa6 nZ:=by
    unfold jj;rw [Χ];by_cases g:n=0
    ·exact .inl g
    ·have:=I g;rw [E] at this;exact .inr (ζ this.symm)
   rw [e];refine h.run (gV _) λ_ G F2 A l h=> ?_;obtain ⟨w,rfl,B⟩:=A;exact ⟨_,rfl,wT h rfl B l (Sx.qa6 n nZ)⟩
  ·have g:n≠0:=λg=>by rw [J g] at E;cases E
   have a0:¬b % 6<3:=by have:=I g;rw [E] at this;exact ι this.symm
   have ev:tK (i64.wrap (u8.wrap (Int.tdiv (b:Int) 6))) (n:Int)=((b / 6 % n:Nat):Int):=by
    have e1:Int.tdiv (b:Int) 6=((b / 6:Nat):Int):=by rw [Ze (by omega)];omega
    have e2:u8.wrap ((b / 6:Nat):Int)=((b / 6:Nat):Int):=EA (by omega);rw [e1,e2,aL (by omega),Xc (by omega)];exact (Int.natCast_emod _ _).symm
   have N:b / 6 % n<n:=VU _ (by omega);refine ⟨by omega,?_⟩;rw [ev,R];generalize O:b / 6 % n=x at*;refine h.run (bS x (by omega) _) λ_ G F2 A l h=> ?_;obtain ⟨w,rfl,B⟩:=A;obtain ⟨m,rfl,Q⟩:=B.out;refine ⟨_,rfl,?_⟩;refine h.new λb5 F3 h=> ?_;refine h.put0 (w':= #[m.v,vi (ph (tv x)).2]) rfl rfl (by simp [ak,nV]) λF4 h=> ?_;have V:Sx n (tv x):=Sx.tv N D;refine ⟨λH=> ?_,λH=>⟨λL=> ?_,λL=> ?_⟩⟩
   ·have e:jj b n=tv x:=by unfold jj;rw [Υ (by omega),Χ (by omega),O]
    rw [e];refine ⟨_,rfl,h.whole0,?_⟩;have h:=h.swap;exact wT h rfl (DV.mk Q) l V
   ·have e:jj b n=ap2 kW (tv x) (qa6 nZ):=by unfold jj;rw [Υ (by omega),Υ (by omega),Χ (by omega),O]
    rw [e];refine ⟨_,rfl,h.whole0,?_⟩;refine h.run (nU (x:=x) (by omega) (DV.mk Q)) λ_ W Z A K h=> ?_;obtain ⟨w,rfl,B⟩:=A;refine ⟨_,rfl,?_⟩;have h:=h.swap;exact wT h rfl B (aa l K) (V.ap2 (Sx.qa6 n nZ))
   ·have e:jj b n=iU [(b:Int)] n 0 0:=by unfold jj;rw [Υ (by omega),Υ (by omega),Υ (by omega)]
    rw [e];refine h.newG λM W Z K q _ h=> ?_;have A:RdS W (tX (mB (pd M 0 nC)) 1 1) 1 ([(b:Int)].map (tJ .u8)):=RdS.new q rfl rfl (tI _);refine h.run (P:=λr G=>(∃u,r=oc u/\DV G u (ph (iU [(b:Int)] n 0 0)))/\Sx n (iU [(b:Int)] n 0 0)) ((oD D A).mono λr C ⟨u,t,I,⟨h2,H⟩,L,X⟩=>⟨⟨⟨u,I,H▸L⟩,H▸h2⟩,X⟩) λ_ G3 F6 A l3 h=> ?_;obtain ⟨⟨w,rfl,B⟩,Y⟩:=A;refine ⟨_,rfl,?_⟩;have h:=h.swap;exact wT h rfl B (aa l (aa K l3)) Y
 refine ⟨λJ=>U nZ (λ_=>rfl) (λD=>absurd (by omega) D),λJ=>U _ (λD=>absurd (by omega) J) (λ_=> ?_)⟩;rw [R];exact decide_eq_decide.2 (by omega)
open Classical in
def wU (p:Pr):Bool:=decide (Cy p)
theorem qhE {F:PH} {w:Γ} {p:Pr} (hw:Mem.rep F p w) (_:p.right.length<=1000):ν 161 #[oc w] F λr F'=>r=oY (wU p)/\F.le F':=by
 obtain ⟨s,n,l,rfl,h1,h2,h3⟩:=hw;have e1:=h1.len;have e3:=h3.len;have no:∀{E:PH},F.le E->¬Cy p->(oY nS=oY (wU p)/\F.le E):=λX hn=>⟨by unfold wU;simp [hn],X⟩;have W:∀{E:PH},F.le E->∀i:Nat,i<p.right.length->∃(a:Addr) (x:Sy),s.qa5=mB a/\p.right[i]? =mB x/\E.cell (od a (pc (i:Int)*2))=mB (oY x.t)/\E.cell (od (od a (pc (i:Int)*2)) 1)=mB (vi x.i):=λX i hi=>by obtain ⟨a,c,D,C,I⟩:=(h1.le X).get (by decide) (N5 hi);cases I;rw [N4];exact ⟨a,_,D,N5 hi,aF C rfl,aN C rfl⟩
 refine qfP ?_;unfold QE;refine (St.start F).newG λb1 G1 E l1 q _ h=> ?_;have q:=h.le _ _ q;have A:=aa l1 h.le;refine ⟨_,ld q rfl,λI=>no A λg=>I (by rw [e1,g.1];rfl),λI=>⟨_,ld q rfl,λY=>no A λg=>Y g.2.1,λY=>⟨_,ld q rfl,λB=>no A λg=> ?_,λB=>⟨p.sco.arr,rfl,fZ q rfl,decide (p.sco=ki),λF=>Qq p.sco ki F,λH=>no A λg=> ?_,λH=> ?_⟩⟩⟩⟩
 ·rw [e3,g.2.2.1] at B;simp at B
 ·rw [ε g.2.2.2.1] at H;cases H
 have I:p.right.length=3:=by omega
 have H:p.sco=ki:=by simpa using H
 have M:p.lay=[]:=VT (by omega);have U:p.rank=0:=Classical.not_not.1 Y;obtain ⟨a,x0,D,L,c0,_⟩:=W A 0 (by omega);obtain ⟨_,R,O,G,c1,d1⟩:=W A 1 (by omega);obtain ⟨_,Z,K,J,c2,_⟩:=W A 2 (by omega);rw [D] at O K;cases O;cases K;refine ⟨_,ld q rfl,a,D,by decide,by omega,x0.t,c0,λQ=>⟨_,ld q rfl,a,D,by decide,by omega,Z.t,c2,λP=>⟨_,ld q rfl,a,D,by decide,by omega,R.t,c1,λN=>⟨_,ld q rfl,a,D,by decide,by omega,R.i,d1,p.left,ld q rfl,?_,A⟩,λN=>no A λg=> ?_⟩,λP=>no A λg=> ?_⟩,λQ=>no A λg=> ?_⟩
 ·have N:R.t=nS:=by simpa using N
  unfold wU;congr 1;refine decide_eq_decide.2 ⟨λh=>⟨I,U,M,H,⟨x0,L,Q⟩,?_,⟨Z,J,P⟩⟩,λg=> ?_⟩
  ·rw [G,<- h,<- N]
  ·have:=g.2.2.2.2.2.1;rw [G] at this;cases this;rfl
 ·have:=g.2.2.2.2.2.1;rw [G] at this;cases this;cases N
 ·obtain ⟨y,B,V⟩:=g.2.2.2.2.2.2;rw [J] at B;cases B;rw [V] at P;cases P
 ·obtain ⟨y,B,V⟩:=g.2.2.2.2.1;rw [L] at B;cases B;rw [V] at Q;cases Q
def cz (p:Pr) (m:Nat):Pr:=
 if p.right.length=0 then p else
 if m % 8=1 then {p with rank:=1} else
 if m % 8=2 then {p with rank:= -1} else
 if m % 8=3 then {p with brk:=wU p} else
 if m % 8=4 then {p with lay:=[⟨((1+m / 8 % 4:Nat):Int),((m / 8 / 4 % p.right.length:Nat):Int),if m / 8 % 4=0 then 0 else ((p.right.length - 1:Nat):Int)⟩]} else
 if m % 8=5 then {p with sco:={p.sco with o:=nZ}} else
 if m % 8=6 then (if (p.right.getD (m / 8 % p.right.length) ⟨nS,0⟩).t=nZ then {p with sco:=⟨nS,((m / 8 % p.right.length+1:Nat):Int),((1+m / 8 % 2:Nat):Int),0,0⟩} else p) else
 if m % 8=7 then (if (p.right.getD (m / 8 % p.right.length) ⟨nS,0⟩).t=nZ then {p with sco:=⟨nS,0,0,((m / 8 % p.right.length+1:Nat):Int),((1+m / 8 % 7:Nat):Int)⟩} else p) else p
abbrev z13:Γ:= #[pg ⟨#[]⟩,tJ .i64 0,.slice nC 0 0,.slice nC 0 0,.int .i64 0,.bool nS,.int .i64 0,.slice nC 0 0,.bool nS,.int .i64 0,.int .i64 0,.int .i64 0,.int .i64 0]
theorem qih {F:PH} {w:Γ} {p:Pr} {m:Nat} (hw:Mem.rep F p w) (hm:m<256) (hb:p.right.length<=1000):ν 129 #[oc w,tJ .u8 (m:Int)] F λr N=>(∃w',r=oc w'/\Mem.rep N (cz p m) w')/\F.le N:=by
 obtain ⟨s,n,l,rfl,J,h2,A⟩:=hw;have R:s.len=p.right.length:=J.len;refine qfL ?_;unfold QA;refine (St.start F).new λb2 U h=> ?_;refine h.new λb4 F2 h=> ?_;have e8:tK (m:Int) 8=((m % 8:Nat):Int):=by rw [Xc (by omega)];omega
 have ek:i64.wrap (u8.wrap (Int.tdiv (m:Int) 8))=((m / 8:Nat):Int):=by rw [Ze (by omega),show (m:Int) / 8=((m / 8:Nat):Int) by omega,EA (by omega),aL (by omega)]
 have I:∀a b:Nat,tK (a:Int) (b:Int)=((a % b:Nat):Int):=λa b=>by rw [Xc (by omega)];exact (Int.natCast_emod _ _).symm
 have fin:∀{G U:PH} {p':Pr} {M:Sl},F.le G->p'=cz p m->p'.right=p.right->p'.cond=p.cond->RL G M p'.lay->St G U [pt b4 (mX z13 64),pt b2 (mX (p'.arr s n M) 64)]->dp b2 b4 (λr N=>(∃w',r=oc w'/\Mem.rep N (cz p m) w')/\F.le N) U:=λ{G U p' M} hl hp hr O a0 h=>by unfold dp;refine ⟨_,rfl,h.whole1,?_⟩;refine h.put0 (w':=p'.arr s n M) rfl rfl (by simp [ak,nV]) λC h=> ?_;have X:=aa hl h.le;exact ⟨_,rfl,h.whole0,⟨_,rfl,hp▸⟨s,n,M,rfl,by rw [hr];exact J.le X,by rw [O];exact h2.le X,a0.le h.le⟩⟩,X⟩
 refine ⟨_,h.ld1 rfl,λh0=> ?_,λh0=> ?_⟩
 ·have e:cz p m=p:=by unfold cz;rw [Χ (by omega)]
  refine ⟨_,rfl,h.whole1,?_⟩;refine h.put0 (w':=p.arr s n l) rfl rfl (by simp [ak,nV]) λC h=> ?_;exact ⟨_,rfl,h.whole0,⟨_,rfl,by rw [e];exact ⟨s,n,l,rfl,J.le h.le,h2.le h.le,A.le h.le⟩⟩,h.le⟩
 have g:p.right.length≠0:=λh=>h0 (by rw [R,h];rfl);have a1:s.len≠0:=by omega
 rw [e8,ek];refine ⟨λc1=> ?_,λc1=>⟨λc2=> ?_,λc2=>⟨λc3=> ?_,λc3=>⟨λc4=> ?_,λc4=>⟨λc5=> ?_,λc5=>⟨λc6=> ?_,λc6=>⟨λc7=> ?_,λc7=> ?_⟩⟩⟩⟩⟩⟩⟩
 ·refine h.set1 (w':=Pr.arr {p with rank:=1} s n l) (vp rfl) rfl λC h=> ?_;exact fin (p':={p with rank:=1}) (au _) (by unfold cz;rw [Υ g,Χ (by omega)]) rfl rfl A h
 ·refine h.set1 (w':=Pr.arr {p with rank:= -1} s n l) (vp rfl) rfl λC h=> ?_;exact fin (p':={p with rank:= -1}) (au _) (by unfold cz;rw [Υ g,Υ (by omega),Χ (by omega)]) rfl rfl A h
 ·refine h.set1 (w':=Pr.arr {p with brk:=nZ} s n l) (vp rfl) rfl λC h=> ?_;refine ⟨_,rfl,h.whole1,?_⟩;refine h.runv (qhE (p:={p with brk:=nZ}) ⟨s,n,l,rfl,J,h2,A⟩ hb) λG F4 l4 h=> ?_;refine ⟨_,rfl,?_⟩;refine h.set1 (w':=Pr.arr {p with brk:=wU p} s n l) (vp rfl) rfl λF5 h=> ?_;exact fin (p':={p with brk:=wU p}) l4 (by unfold cz;rw [Υ g,Υ (by omega),Υ (by omega),Χ (by omega)]) rfl rfl (A.le l4) h
 ·have k4:tK ((m / 8:Nat):Int) 4=((m / 8 % 4:Nat):Int):=I _ 4;have d4:i64.wrap (Int.tdiv ((m / 8:Nat):Int) 4)=((m / 8 / 4:Nat):Int):=by rw [Ze (by omega),aL (by omega)];omega
  have L:i64.wrap ((1:Int)+((m / 8 % 4:Nat):Int))=((1+m / 8 % 4:Nat):Int):=by rw [aL (by omega)];omega
  have P:i64.wrap ((s.len:Int) - 1)=((p.right.length - 1:Nat):Int):=by rw [aL (by omega)];omega
  rw [k4,d4,I,L,P,R];refine ⟨by omega,rfl,?_⟩;refine h.new λW C h=> ?_;refine h.set2 (w':=Pr.arr p s n (tX (mB (pd W 0 nC)) 1 1)) (vp rfl) rfl λF4 h=> ?_;refine ⟨λhk=> ?_,λhk=> ?_⟩
  ·refine ⟨_,h.ld2 rfl,_,rfl,by decide,(by show (0:Int)<1;decide),?_⟩;simp only [aJ];refine h.set0 (i:=2) (w':=Cn.arr ⟨((1+m / 8 % 4:Nat):Int),((m / 8 / 4 % p.right.length:Nat):Int),0⟩) (vp rfl) rfl λF5 h=> ?_;obtain ⟨G,l5,⟨H,hA,Y⟩,h⟩:=h.pin;exact fin (p':={p with lay:=[⟨((1+m / 8 % 4:Nat):Int),((m / 8 / 4 % p.right.length:Nat):Int),0⟩]}) l5 (by unfold cz;rw [Υ g,Υ (by omega),Υ (by omega),Υ (by omega),Χ (by omega),Χ (by omega)]) rfl rfl (B4 (Y _ _ hA)) h
  ·obtain ⟨G,l5,⟨H,hA,Y⟩,h⟩:=h.pin;exact fin (p':={p with lay:=[⟨((1+m / 8 % 4:Nat):Int),((m / 8 / 4 % p.right.length:Nat):Int),((p.right.length - 1:Nat):Int)⟩]}) l5 (by unfold cz;rw [Υ g,Υ (by omega),Υ (by omega),Υ (by omega),Χ (by omega),Υ (by omega)]) rfl rfl (B4 (x:=⟨((1+m / 8 % 4:Nat):Int),((m / 8 / 4 % p.right.length:Nat):Int),((p.right.length - 1:Nat):Int)⟩) (Y _ _ hA)) h
 ·refine h.set1 (w':=Pr.arr {p with sco:={p.sco with o:=nZ}} s n l) (vp rfl) rfl λC h=> ?_;exact fin (p':={p with sco:={p.sco with o:=nZ}}) (au _) (by unfold cz;rw [Υ g,Υ (by omega),Υ (by omega),Υ (by omega),Υ (by omega),Χ (by omega)]) rfl rfl A h
 ·refine ⟨_,h.ld1 rfl,by omega,?_⟩;have E:m / 8 % p.right.length<p.right.length:=VU _ (by omega);have K:=N5 E;obtain ⟨a,c,V,B,O⟩:=(J.le h.le).get (by decide) K;cases O;rw [I,R];have Z:((p.right.length:Nat):Int)≠0:=by omega
  have Q:p.right.getD (m / 8 % p.right.length) ⟨nS,0⟩=p.right[m / 8 % p.right.length]:=by rw [Vb,K];rfl
  have k2:tK ((m / 8:Nat):Int) 2=((m / 8 % 2:Nat):Int):=I _ 2;have L:i64.wrap ((1:Int)+((m / 8 % 2:Nat):Int))=((1+m / 8 % 2:Nat):Int):=by rw [aL (by omega)];omega
  have P:i64.wrap (((m / 8 % p.right.length:Nat):Int)+1)=((m / 8 % p.right.length+1:Nat):Int):=by rw [aL (by omega)];omega
  rw [k2,L,P];refine ⟨a,V,by omega,by omega,_,by rw [N4];exact aF B rfl,λD=>⟨Z,?_⟩,λD=> ?_⟩
  ·refine h.putR1 (w':=Pr.arr {p with sco:=⟨nS,((m / 8 % p.right.length+1:Nat):Int),((1+m / 8 % 2:Nat):Int),0,0⟩} s n l) rfl (by simp [ak]) (by show 8+5<=13;decide) rfl λC h=> ?_;exact fin (p':={p with sco:=⟨nS,((m / 8 % p.right.length+1:Nat):Int),((1+m / 8 % 2:Nat):Int),0,0⟩}) (au _) (by unfold cz;rw [Υ g,Υ (by omega),Υ (by omega),Υ (by omega),Υ (by omega),Υ (by omega),Χ (by omega),Χ (by rw [Q];exact D)]) rfl rfl A h
  ·exact fin (p':=p) (au _) (by unfold cz;rw [Υ g,Υ (by omega),Υ (by omega),Υ (by omega),Υ (by omega),Υ (by omega),Χ (by omega),Υ (by rw [Q,D];decide)]) rfl rfl A h
 ·refine ⟨_,h.ld1 rfl,by omega,?_⟩;have E:m / 8 % p.right.length<p.right.length:=VU _ (by omega);have K:=N5 E;obtain ⟨a,c,V,B,O⟩:=(J.le h.le).get (by decide) K;cases O;rw [I,R];have Z:((p.right.length:Nat):Int)≠0:=by omega
  have Q:p.right.getD (m / 8 % p.right.length) ⟨nS,0⟩=p.right[m / 8 % p.right.length]:=by rw [Vb,K];rfl
  have k7:tK ((m / 8:Nat):Int) 7=((m / 8 % 7:Nat):Int):=I _ 7;have L:i64.wrap ((1:Int)+((m / 8 % 7:Nat):Int))=((1+m / 8 % 7:Nat):Int):=by rw [aL (by omega)];omega
  have P:i64.wrap (((m / 8 % p.right.length:Nat):Int)+1)=((m / 8 % p.right.length+1:Nat):Int):=by rw [aL (by omega)];omega
  rw [k7,L,P];refine ⟨a,V,by omega,by omega,_,by rw [N4];exact aF B rfl,λD=>⟨Z,?_⟩,λD=> ?_⟩
  ·refine h.putR1 (w':=Pr.arr {p with sco:=⟨nS,0,0,((m / 8 % p.right.length+1:Nat):Int),((1+m / 8 % 7:Nat):Int)⟩} s n l) rfl (by simp [ak]) (by show 8+5<=13;decide) rfl λC h=> ?_;exact fin (p':={p with sco:=⟨nS,0,0,((m / 8 % p.right.length+1:Nat):Int),((1+m / 8 % 7:Nat):Int)⟩}) (au _) (by unfold cz;rw [Υ g,Υ (by omega),Υ (by omega),Υ (by omega),Υ (by omega),Υ (by omega),Υ (by omega),Χ (by omega),Χ (by rw [Q];exact D)]) rfl rfl A h
  ·exact fin (p':=p) (au _) (by unfold cz;rw [Υ g,Υ (by omega),Υ (by omega),Υ (by omega),Υ (by omega),Υ (by omega),Υ (by omega),Χ (by omega),Υ (by rw [Q,D];decide)]) rfl rfl A h
 ·exact fin (p':=p) (au _) (by unfold cz;rw [Υ g,Υ (by omega),Υ (by omega),Υ (by omega),Υ (by omega),Υ (by omega),Υ (by omega),Υ (by omega)]) rfl rfl A h
theorem jR {b e n:Nat} {H:PH} (h:H b=mB (mX #[] e)):own (tX (mB (pd b 0 nC)) 0 0) e n [] H:=.inr ⟨b,#[],rfl,h,by simp,tI _,by simp,by simp⟩
section
variable {α:Type} [Mem α] {G F:PH} {As:List (Ψ)} {t e bytes n:Nat} {z:ξ} {x:List α} {y:α} {sx:Sl} {w:Γ}
theorem St.grow2 (T:SlT t e (Mem.n α) bytes z) {vs:List Γ} {s:Sl} (h:St G F (own s e (Mem.n α) (uX vs)::As)) (J:bT G x vs) (E:Mem.rep G y w) {r:Sl} (P:RdS G r (Mem.n α) w.toList) (R:s.len=x.length) (L:r.len=1) (Q:x.length<=1000000) {C:Sl->Ψ}
  (k:∀H B D,G.le B->RL B H (x++[y])->St B D As->C H D):
  aH prog (Builtin.append_ #[t,t] t #[nV s,nV r]) F λv F=>∃s2:Sl,v=nV s2/\C s2 F:=by
 refine h.app0 T (P.le h.le) (Mem.st E) (by omega) λs2 F2 M I=> ?_;refine M.pinOwn (K:=C s2) λN g A O=>k s2 N F2 g ⟨vs++[w],(J.le g).append (.cons (Mem.le g E) .nil),?_⟩ O;rw [be,cG];exact A
theorem B6 {b:Nat} (q:G b=mB (mX w e)) (g:w.size=n):RdS G (tX (mB (pd b 0 nC)) 1 1) n w.toList:=RdS.new q (yY (by rw [zA,g,Wk];exact tI _)) (by rw [zA,g,Wk]) (tI _)
theorem St.grow (T:SlT t e (Mem.n α) bytes z) (h:St G F As) (U:RL G sx x) (N:Mem.rep G y w) (R:x.length<=1000000) (hn:Mem.n α=n) {Q:Ψ} (Z:∀I E,St I E As->Q E) {C:Sl->Ψ}
    (k:∀J I E,G.le I->RL I J (x++[y])->St I E As->C J E):
    ((∀B,F B=nC->wn (F.set B (mX #[] e)) λF=>
      ((aH prog (Builtin.append_ #[t,t] t #[nV (tX (mB (pd B 0 nC)) 0 0),nV sx]) F λv F=>∃s1:Sl,v=nV s1/\Q F/\w.size=n/\∀g,F g=nC->wn (F.set g (mX w e)) λF=>
        aH prog (Builtin.append_ #[t,t] t #[nV s1,nV (tX (mB (pd g 0 nC)) 1 1)]) F λv F=>∃s2:Sl,v=nV s2/\C s2 F)/\
       (w.size=n/\∀g,F g=nC->wn (F.set g (mX w e)) λF=>
        aH prog (Builtin.append_ #[t,t] t #[nV (tX (mB (pd B 0 nC)) 0 0),nV sx]) F λv F=>∃s1:Sl,v=nV s1/\
        aH prog (Builtin.append_ #[t,t] t #[nV s1,nV (tX (mB (pd g 0 nC)) 1 1)]) F λv F=>∃s2:Sl,v=nV s2/\C s2 F)))/\
     (w.size=n/\∀g,F g=nC->wn (F.set g (mX w e)) λF=>∀B,F B=nC->wn (F.set B (mX #[] e)) λF=>
        aH prog (Builtin.append_ #[t,t] t #[nV (tX (mB (pd B 0 nC)) 0 0),nV sx]) F λv F=>∃s1:Sl,v=nV s1/\
        aH prog (Builtin.append_ #[t,t] t #[nV s1,nV (tX (mB (pd g 0 nC)) 1 1)]) F λv F=>∃s2:Sl,v=nV s2/\C s2 F)):=by
  subst hn;have X:=U.len T.hn;obtain ⟨vs,L,K⟩:=U;have A:=Mem.len N;have P:∀s1:Sl,s1.len=(tX (mB (pd 0 0 nC)) 0 0).len+sx.len->s1.len=x.length:=λs1 h=>by rw [h];show 0+sx.len=_;omega
  refine ⟨?_,?_⟩
  · refine h.new λB Y h=> ?_
    have h:=h.imp (A':=own (tX (mB (pd B 0 nC)) 0 0) e (Mem.n α) []) 0 rfl λH _ O=>jR O;refine ⟨?_,A,?_⟩
    · refine St.app0 T h (K.le h.le) L.st (by show 0+sx.len<=_;omega) λs1 F2 h D=>⟨Z _ _ h.tail,A,?_⟩
      rw [zr] at h;refine h.newG λg W V r q _ h=> ?_;exact St.grow2 T h (L.le r) (Mem.le r N) (B6 q A) (P s1 D) rfl R λJ I E M=>k J I E (aa r M)
    · refine h.newG λg W V r q _ h=> ?_
      refine St.app0 T h ((K.le r).le h.le) L.st (by show 0+sx.len<=_;omega) λs1 F2 h D=> ?_;rw [zr] at h;exact St.grow2 T h (L.le r) (Mem.le r N) (B6 q A) (P s1 D) rfl R λJ I E M=>k J I E (aa r M)
  · refine ⟨A,?_⟩
    refine h.newG λg W V r q _ h=> ?_;refine h.new λB Y h=> ?_;have h:=h.imp (A':=own (tX (mB (pd B 0 nC)) 0 0) e (Mem.n α) []) 0 rfl λH _ O=>jR O;refine St.app0 T h ((K.le r).le h.le) L.st (by show 0+sx.len<=_;omega) λs1 F2 h D=> ?_;rw [zr] at h;exact St.grow2 T h (L.le r) (Mem.le r N) (B6 q A) (P s1 D) rfl R λJ I E M=>k J I E (aa r M)
end
theorem mK {F:PH} {P:Program} {b n:Nat} {e:TypeId} (q:F b=mB (mX #[vB n] e)):s9 P (Conv.bytesToString (nV (tX (mB (pd b 0 nC)) 1 1))) F (pg ⟨#[UInt8.ofNat n]⟩):=by
 have h:RdS F (tX (mB (pd b 0 nC)) 1 1) 1 [vB n]:=RdS.new q rfl rfl (tI _);unfold Conv.bytesToString nV;simp only [am];refine ⟨#[vB n],?_,?_⟩
 ·have g:=h.row (a:=pd b 0 nC) rfl 0 #[vB n] (by simp);rw [show (pd b 0 nC).add 0=pd b 0 nC from rfl] at g;exact eT (P:=P) g
 ·refine ⟨ByteArray.empty.push (UInt8.ofNat n),?_,?_⟩
  ·rw [<- Array.forIn_toList];simp []
  ·show (pg _)=_;simp [ByteArray.empty,ByteArray.emptyWithCapacity,ByteArray.push];rfl
structure Ln where
 left:Nat
 right:Δ
 cond:Nat
 mark:Nat
instance:Mem Ln where
 n:=4
 rep F x c:=∃r:Sl,c= #[vB x.left,r.v,vB x.cond,vB x.mark]/\RdS F r 1 (x.right.map vB)/\x.left<256/\x.cond<256/\x.mark<256/\∀y∈x.right,y<256
 len h:=by obtain ⟨r,rfl,_⟩:=h;rfl
 le hl h:=by obtain ⟨r,h1,h2,h3⟩:=h;exact ⟨r,h1,h2.le hl,h3⟩
 st h:=by obtain ⟨r,rfl,_⟩:=h;simp [ak,nV]
theorem lu (g:ο) (left:Int) {s:Sl} {F:PH}:ν 53 #[pg g,vi left,s.v] F λr A=>(∃n,r=oc ((bA g left []).arr s n pk)/\RL A n dF.1)/\F.le A:=by refine X7 ?_;unfold Tn;refine (St.start F).new λb E h=> ?_;refine h.run (gV _) λ_ G F2 B l h=> ?_;obtain ⟨w,rfl,C⟩:=B;obtain ⟨n,rfl,D⟩:=C.out;refine ⟨_,rfl,rfl,?_⟩;refine h.put0 (w':=(bA g left []).arr s n pk) rfl rfl (by simp [ak,nV]) λF2 h=> ?_;exact ⟨_,rfl,h.whole0,⟨n,rfl,D.le h.le⟩,aa l h.le⟩
def mL (nn b:Nat):Sy:=if b % 14<9 then ⟨nZ,((b % 14:Nat):Int)⟩ else ⟨nS,(((b % 14 - 9) % nn:Nat):Int)⟩
def aQ (nn:Nat) (x:Ln):List Sy:=(x.right.take 4).map (mL nn)
def dt (l:List Sy):Nat:=(l.filter (·.t)).length
def cW (left:Nat) (l:List Sy):Bool:=l.all λs=>s.t || decide ((left:Int)<s.i)
def bi (k:Nat):ο:=⟨#[112]⟩++⟨#[UInt8.ofNat (97+k)]⟩
def jk (g:Gr) (x:Ln):Pr:={bA (bi g.qa0.length) ((x.left % g.qa1.length:Nat):Int) (aQ g.qa1.length x) with cond:=ph (jj x.cond g.qa4.length)}
def lineG (g:Gr) (x:Ln) (cv:Bool):Gr:=
 if dt (aQ g.qa1.length x)=0/\(cv=nZ\/cW (x.left % g.qa1.length) (aQ g.qa1.length x)=nS) then g
 else {g with qa0:=g.qa0++[cz (jk g x) x.mark]}
theorem iS (a b:Nat):tK (a:Int) (b:Int)=((a % b:Nat):Int):=by rw [Xc (by omega)];exact (Int.natCast_emod _ _).symm
theorem oQ (l:List Sy) (s:Sy):dt (l++[s])=dt l+if s.t=nZ then 1 else 0:=by unfold dt;rw [List.filter_append,tT];congr 1;cases h:s.t<;>simp [h]
theorem mM (left:Nat) (l:List Sy) (s:Sy):cW left (l++[s])=(cW left l && (s.t || decide ((left:Int)<s.i))):=by simp [cW]
theorem Gj {G:PH} (l:List Sy):bT G l (l.map Sy.arr):=by
 induction l with
 |nil=>exact .nil
 |cons x l ih=>exact .cons rfl ih
structure LK (F G:PH) (b4:Nat) (g:Gr) (x:Ln) (c n t s sp l f rx n0:Sl):Prop where
 lF:F.le G
 q4:G b4=mB (mX #[vB x.left,rx.v,vB x.cond,vB x.mark] 191)
 gs:GS G g c n t s sp l f
 rr:RdS G rx 1 (x.right.map vB)
 n0:RL G n0 dF.1
theorem LK.le {F G C:PH} {B:Nat} {g:Gr} {x:Ln} {c n t s sp l f A w:Sl} (h:LK F G B g x c n t s sp l f A w) (r:G.le C):LK F C B g x c n t s sp l f A w:=
 ⟨aa h.lF r,r _ _ h.q4,h.gs.le r,h.rr.le r,h.n0.le r⟩
section
variable {F G F1:PH} {b3 b4 b6 b8:Nat} {g:Gr} {x:Ln} {c n t s sp l f rx n0 sr:Sl} {cv:Bool}
abbrev LR (F:PH) (g':Gr):VR:=λr F'=>(∃w,r=oc w/\GV F' w g')/\F.le F'
theorem Nu {g':Gr} {sp':Sl} (hF:F.le G) (r:GS G g' c n t s sp' l f) (st:St G F1 [pt b6 (mX zG 39),pt b3 (mX (g'.arr c n t s sp' l f) 39)]):tC b3 b6 (LR F g') F1:=by unfold tC;refine ⟨_,rfl,st.whole1,?_⟩;refine st.put0 (w':=g'.arr c n t s sp' l f) rfl rfl (by simp [ak,nV]) λw h=> ?_;exact ⟨_,rfl,h.whole0,⟨_,rfl,c,n,t,s,sp',l,f,rfl,r.le h.le⟩,aa hF h.le⟩
theorem Kl (K:LK F G b4 g x c n t s sp l f rx n0) (Q:g.qa4.length<=6) (V:g.qa0.length<=1000) (J:x.cond<256) (E:x.mark<256) (h:RL G sr (aQ g.qa1.length x))
  (st:St G F1 [pt b8 (mX ((bA (bi g.qa0.length) ((x.left % g.qa1.length:Nat):Int) []).arr sr n0 pk) 64),pt b6 (mX zG 39),pt b3 (mX (g.arr c n t s sp l f) 39)]):
  gD b3 b4 b6 (mB (pd b8 0 nC)) nS (LR F {g with qa0:=g.qa0++[cz (jk g x) x.mark]}) F1:=by
 obtain ⟨_,_,T⟩:=Tm;unfold gD;refine ⟨λN=>(by cases N),λ_=> ?_⟩;have H:=K.gs.c.len;refine ⟨_,ld (st.le _ _ K.q4) rfl,_,st.ld2 rfl,?_⟩;dsimp only;rw [H];refine st.run (zj x.cond g.qa4.length J Q _) λ_ Z F2 B C st=> ?_;obtain ⟨⟨_,rfl,r⟩,-⟩:=B;obtain ⟨m,rfl,I⟩:=r.out;have K:=K.le C;have h:=h.le C;refine ⟨_,rfl,_,rfl,?_⟩;simp only [aJ];refine st.putR0 (o:=3) (w':=(jk g x).arr sr m pk) rfl (by simp [ak,nV]) (by show 3+2<=13;decide) rfl λX st=> ?_;refine ⟨_,rfl,st.whole0,_,ld (st.le _ _ K.q4) rfl,?_⟩;refine st.run (qih (p:=jk g x) (m:=x.mark) ⟨sr,m,pk,rfl,h,I,.nil _⟩ E (by show (aQ _ _).length<=1000;unfold aQ;rw [vb,PM];omega)) λ_ U Y B O st=> ?_;obtain ⟨w,rfl,r⟩:=B;have K:=K.le O;refine ⟨w,rfl,?_⟩;refine st.put0 (w':=w) (Mem.len r) rfl (Mem.st r) λR st=> ?_;refine ⟨_,st.ld2 rfl,w,Mem.len r,st.whole0,?_⟩;refine St.grow T st K.gs.p r (by omega) rfl (λP M st=>st.whole0) λD P M L A st=> ?_;have K:=K.le L;refine st.set2 (w':=Gr.arr {g with qa0:=g.qa0++[cz (jk g x) x.mark]} c n t s D l f) (vp rfl) rfl λW st=> ?_;exact Nu (g':={g with qa0:=g.qa0++[cz (jk g x) x.mark]}) (sp':=D) K.lF ⟨K.gs.c,K.gs.n,K.gs.t,K.gs.s,A,K.gs.l,K.gs.f⟩ st.tail
theorem Km {r:Θ} (K:LK F G b4 g x c n t s sp l f rx n0) (st:St G F1 [pt b6 (mX zG 39),pt b3 (mX (g.arr c n t s sp l f) 39)]):gD b3 b4 b6 r nZ (LR F g) F1:=by unfold gD;refine ⟨λ_=> ?_,λw=>(by cases w)⟩;refine ⟨_,rfl,st.whole1,?_⟩;refine st.put0 (w':=g.arr c n t s sp l f) rfl rfl (by simp [ak,nV]) λA h=> ?_;exact ⟨_,rfl,h.whole0,⟨_,rfl,c,n,t,s,sp,l,f,rfl,K.gs.le h.le⟩,aa K.lF h.le⟩
theorem Nv (K:LK F G b4 g x c n t s sp l f rx n0) (N:g.qa4.length<=6) (M:g.qa0.length<=1000) (J:x.cond<256) (I:x.mark<256) {E:Int} {h:Bool} (D:E=((dt (aQ g.qa1.length x):Nat):Int)) (A:h=cW (x.left % g.qa1.length) (aQ g.qa1.length x))
  (st:St G F1 [pt b8 (mX ((bA (bi g.qa0.length) ((x.left % g.qa1.length:Nat):Int) []).arr sr n0 pk) 64),own sr 130 2 (uX ((aQ g.qa1.length x).map Sy.arr)),pt b6 (mX zG 39),pt b3 (mX (g.arr c n t s sp l f) 39)]):
  tD cv b3 b4 b6 (mB (pd b8 0 nC)) E h (LR F (lineG g x cv)) F1:=by
 unfold tD;have bad:dt (aQ g.qa1.length x)=0/\(cv=nZ\/cW (x.left % g.qa1.length) (aQ g.qa1.length x)=nS)->gD b3 b4 b6 (mB (pd b8 0 nC)) nZ (LR F (lineG g x cv)) F1:=λw=>by
  have e:lineG g x cv=g:=by unfold lineG;rw [Χ w]
  rw [e];exact Km K st.tail.tail
 have r:¬(dt (aQ g.qa1.length x)=0/\(cv=nZ\/cW (x.left % g.qa1.length) (aQ g.qa1.length x)=nS))->gD b3 b4 b6 (mB (pd b8 0 nC)) nS (LR F (lineG g x cv)) F1:=λw=>by
  have e:lineG g x cv={g with qa0:=g.qa0++[cz (jk g x) x.mark]}:=by unfold lineG;rw [Υ w]
  rw [e];refine st.front1.pinOwn (K:=λF1=>gD b3 b4 b6 (mB (pd b8 0 nC)) nS (LR F {g with qa0:=g.qa0++[cz (jk g x) x.mark]}) F1) λO L C st=> ?_;exact Kl (K.le L) N M J I ⟨_,Gj _,C⟩ st
 refine ⟨λH=>⟨λB=>bad ⟨by omega,.inl B⟩,λB=> ?_⟩,λH=>r λw=>H (by rw [D,w.1];rfl)⟩;cases hl':h with
 |true=>refine r λw=> ?_;rw [<- A,hl',B] at w;simp at w
 |false=>exact bad ⟨by omega,.inr (by rw [<- A,hl'])⟩
end
theorem zl (l:List Sy) (y:Sy):uX (l.map Sy.arr)++y.arr.toList=uX ((l++[y]).map Sy.arr):=by rw [yO,be,xV,List.map_nil,cG]
section
variable {F G F1:PH} {b3 b4 b6 b8:Nat} {g:Gr} {x:Ln} {c n t s sp l f rx n0 sr:Sl} {cv:Bool}
theorem Nw (K:LK F G b4 g x c n t s sp l f rx n0) (hn:g.qa4.length<=6) (hp:g.qa0.length<=1000) (h4:x.cond<256) (Y:x.mark<256) (h6:∀y∈x.right,y<256) (a0:g.qa1.length≠0) (_:g.qa1.length<=1000000)
  (st:St G F1 [pt b8 (mX ((bA (bi g.qa0.length) ((x.left % g.qa1.length:Nat):Int) []).arr pk n0 pk) 64),pt b6 (mX zG 39),pt b3 (mX (g.arr c n t s sp l f) 39)]):
  oe cv b3 b4 b6 s (mB (pd b8 0 nC)) (LR F (lineG g x cv)) F1:=by
 obtain ⟨_,_,T⟩:=aaf;have Z:=K.gs.s.len;have er:=K.rr.len;rw [vb,xZ] at er;unfold oe;have hL:(aQ g.qa1.length x).length=min 4 x.right.length:=by unfold aQ;rw [vb,PM]
 refine ⟨λm X W i Q=>∃(k:Nat) (U:PH) (sr:Sl),i=k/\k<=(aQ g.qa1.length x).length/\m=4 - k/\X=((dt ((aQ g.qa1.length x).take k):Nat):Int)/\W=cW (x.left % g.qa1.length) ((aQ g.qa1.length x).take k)/\LK F U b4 g x c n t s sp l f rx n0/\sr.len=k/\
  St U Q [pt b8 (mX ((bA (bi g.qa0.length) ((x.left % g.qa1.length:Nat):Int) []).arr sr n0 pk) 64),own sr 130 2 (uX (((aQ g.qa1.length x).take k).map Sy.arr)),pt b6 (mX zG 39),pt b3 (mX (g.arr c n t s sp l f) 39)],4,
  ⟨0,G,pk,rfl,yM _,rfl,rfl,rfl,K,rfl,(st.nilOwn 130 2).swap⟩,?_⟩
 rintro m X W i Q ⟨k,U,sr,rfl,hk,rfl,rfl,rfl,K,a1,st⟩;unfold KO;have A:k=(aQ g.qa1.length x).length->tD cv b3 b4 b6 (mB (pd b8 0 nC)) ((dt ((aQ g.qa1.length x).take k):Nat):Int) (cW (x.left % g.qa1.length) ((aQ g.qa1.length x).take k)) (LR F (lineG g x cv)) Q:=λe=>by rw [e,wV] at st ⊢;exact Nv K hn hp h4 Y rfl rfl st
 refine ⟨_,ld (st.le _ _ K.q4) rfl,λL=>⟨λR=> ?_,λR=>A (by omega)⟩,λL=>A (by omega)⟩;have C:k<x.right.length:=by omega
 have a5:k<(aQ g.qa1.length x).length:=by omega
 obtain ⟨ab,ao,H,_⟩:=K.rr.cells (by omega);have w:=(K.rr.le st.le).cell H (i:=k) (by rw [vb];exact C);rw [Yy] at w;have a2:x.right[k]<256:=h6 _ (Vw C);have I:(aQ g.qa1.length x)[k]? =mB (mL g.qa1.length x.right[k]):=by unfold aQ;rw [yr,YN (by omega),N5 C];rfl
 have h:(aQ g.qa1.length x).take (k+1)=(aQ g.qa1.length x).take k++[mL g.qa1.length x.right[k]]:=by rw [Wj,I];rfl
 generalize x.right[k]=y at*;have ey:tK (i64.wrap (y:Int)) (14:Int)=((y % 14:Nat):Int):=by rw [aL (by omega)];exact iS y 14
 refine ⟨_,ld (st.le _ _ K.q4) rfl,_,H,by omega,L,(y:Int),by rw [N4,xZ];exact w,?_⟩;dsimp only;rw [ey];have J:i64.wrap ((k:Int)+1)=((k+1:Nat):Int):=aD (n:=4) (by omega) (by decide);have a4:dt ((aQ g.qa1.length x).take k)<=4:=Wl (List.length_filter_le _ _) (by rw [PM];omega);refine ⟨λh9=> ?_,λh9=> ?_⟩
 ·have r:mL g.qa1.length y=⟨nZ,((y % 14:Nat):Int)⟩:=by unfold mL;rw [Χ (by omega)]
  refine ⟨_,rfl,?_⟩;simp only [aJ];refine ⟨sr,st.ld0 rfl,?_⟩;refine st.runv (CD _ _) λG2 F2 N st=> ?_;refine ⟨_,rfl,st.ld0 rfl,rfl,?_⟩;refine st.push1 T (c:=Sy.arr ⟨nZ,((y % 14:Nat):Int)⟩) rfl (by simp [ak]) (by omega) λD O F3 P st V=> ?_;rw [zl,<- r,<- h] at st;refine st.set0 (w':=(bA (bi g.qa0.length) ((x.left % g.qa1.length:Nat):Int) []).arr D n0 pk) (vp rfl) rfl λF4 st=> ?_;unfold tE;rw [J];refine ⟨4 - (k+1),by omega,k+1,O,D,rfl,by omega,rfl,?_,?_,K.le (aa N P),by omega,st⟩
  ·rw [h,oQ,r,aL (by omega)];rfl
  ·rw [h,mM,r];simp
 ·have a6:y % 14 - 9<5:=by omega
  have ez:tK (i64.wrap (((y % 14:Nat):Int) - (9:Int))) (s.len:Int)=(((y % 14 - 9) % g.qa1.length:Nat):Int):=by rw [Z,show ((y % 14:Nat):Int) - 9=((y % 14 - 9:Nat):Int) by omega,aL (by omega),iS]
  have r:mL g.qa1.length y=⟨nS,(((y % 14 - 9) % g.qa1.length:Nat):Int)⟩:=by unfold mL;rw [Υ (by omega)]
  refine ⟨_,rfl,?_⟩;simp only [aJ];rw [ez];refine ⟨sr,st.ld0 rfl,by omega,?_⟩;refine st.runv (Lu _ _) λG2 F2 N st=> ?_;refine ⟨_,rfl,st.ld0 rfl,rfl,?_⟩;refine st.push1 T (c:=Sy.arr ⟨nS,(((y % 14 - 9) % g.qa1.length:Nat):Int)⟩) rfl (by simp [ak]) (by omega) λD O F3 P st V=> ?_;rw [zl,<- r,<- h] at st;refine st.set0 (w':=(bA (bi g.qa0.length) ((x.left % g.qa1.length:Nat):Int) []).arr D n0 pk) (vp rfl) rfl λF4 st=> ?_;have M:((dt ((aQ g.qa1.length x).take k):Nat):Int)=((dt ((aQ g.qa1.length x).take (k+1)):Nat):Int):=by rw [h,oQ,r];rfl
  have E:cW (x.left % g.qa1.length) ((aQ g.qa1.length x).take (k+1))=(cW (x.left % g.qa1.length) ((aQ g.qa1.length x).take k) && decide (((x.left % g.qa1.length:Nat):Int)<(((y % 14 - 9) % g.qa1.length:Nat):Int))):=by rw [h,mM,r];simp
  unfold tE;rw [J];refine ⟨λB=>⟨by omega,((x.left % g.qa1.length:Nat):Int),st.ld0 rfl,4 - (k+1),by omega,k+1,O,D,rfl,by omega,rfl,M,?_,K.le (aa N P),by omega,st⟩,λB=>⟨4 - (k+1),by omega,k+1,O,D,rfl,by omega,rfl,M,?_,K.le (aa N P),by omega,st⟩⟩
  ·rw [E,B,V8]
  ·rw [E,B,WN]
end
theorem Gk {F:PH} {w v:Γ} {g:Gr} {x:Ln} {cv:Bool} (hg:GV F w g) (Y:Mem.rep F x v) (hn:g.qa4.length<=6) (hp:g.qa0.length<=150) (K:g.qa1.length≠0) (N:g.qa1.length<=1000000):
  ν 94 #[oc w,oc v,oY cv] F (LR F (lineG g x cv)):=by
 obtain ⟨c,n,t,s,W,l,f,rfl,J⟩:=hg;obtain ⟨rx,rfl,hr,h3,h4,Z,h6⟩:=Y;have es:=J.s.len;have ep:=J.p.len;refine aar ?_;unfold Ye;refine (St.start F).new λX F1 st=> ?_;refine st.newG λb4 G1 F2 O q4 _ st=> ?_;refine st.new λP F3 st=> ?_;have ec:u8.wrap (i64.wrap ((97:Int)+(W.len:Int)))=((97+g.qa0.length:Nat):Int):=by rw [ep,show (97:Int)+((g.qa0.length:Nat):Int)=((97+g.qa0.length:Nat):Int) by omega,aL (by omega),EA (by omega)]
 have el:tK (i64.wrap (x.left:Int)) (s.len:Int)=((x.left % g.qa1.length:Nat):Int):=by rw [es,aL (by omega),iS]
 refine ⟨_,st.ld1 rfl,_,st.ld1 rfl,_,ld (st.le _ _ q4) rfl,by omega,?_⟩;rw [ec,el];have fin:∀{G M:PH} {E:Nat} {B:Sl},G1.le G->RL G B dF.1->St G M [pt E (mX ((bA (bi g.qa0.length) ((x.left % g.qa1.length:Nat):Int) []).arr pk B pk) 64),pt P (mX zG 39),pt X (mX (g.arr c n t s W l f) 39)]->
   oe cv X b4 P s (mB (pd E 0 nC)) (LR F (lineG g x cv)) M:=λ{G M E B} I D st=>
  Nw ⟨aa O I,I _ _ q4,J.le (aa O I),hr.le (aa O I),D⟩ hn (by omega) h4 Z h6 K N st
 have H:(ByteArray.mk #[112]).size+(ByteArray.mk #[UInt8.ofNat (97+g.qa0.length)]).size<=9223372036854775807:=by show 1+1<=9223372036854775807;decide
 refine ⟨?_,?_⟩
 ·refine st.newG λL G2 F4 C h _ st=> ?_;refine ⟨_,mK (st.le _ _ h),H,?_,?_⟩
  ·refine st.run (lu (bi g.qa0.length) _) λ_ U Q A r st=> ?_;obtain ⟨B,rfl,D⟩:=A;refine ⟨_,rfl,mK (st.le _ _ (r _ _ h)),ld (st.le _ _ (r _ _ (C _ _ q4))) rfl,st.ld1 rfl,?_⟩;refine st.new λE V st=> ?_;refine st.put0 (w':=(bA (bi g.qa0.length) ((x.left % g.qa1.length:Nat):Int) []).arr pk B pk) rfl rfl (by simp [ak,nV]) λR st=> ?_;exact fin (aa C r) D st
  ·refine st.new λE V st=> ?_;refine st.run (lu (bi g.qa0.length) _) λ_ U Q A r st=> ?_;obtain ⟨B,rfl,D⟩:=A;refine ⟨_,rfl,mK (st.le _ _ (r _ _ h)),ld (st.le _ _ (r _ _ (C _ _ q4))) rfl,st.ld2 rfl,?_⟩;refine st.put0 (w':=(bA (bi g.qa0.length) ((x.left % g.qa1.length:Nat):Int) []).arr pk B pk) rfl rfl (by simp [ak,nV]) λR st=> ?_;exact fin (aa C r) D st
 ·refine st.new λE V st=> ?_;refine st.newG λL G2 F4 C h _ st=> ?_;refine ⟨_,mK (st.le _ _ h),H,?_⟩;refine st.run (lu (bi g.qa0.length) _) λ_ U Q A r st=> ?_;obtain ⟨B,rfl,D⟩:=A;refine ⟨_,rfl,mK (st.le _ _ (r _ _ h)),ld (st.le _ _ (r _ _ (C _ _ q4))) rfl,st.ld2 rfl,?_⟩;refine st.put0 (w':=(bA (bi g.qa0.length) ((x.left % g.qa1.length:Nat):Int) []).arr pk B pk) rfl rfl (by simp [ak,nV]) λR st=> ?_;exact fin (aa C r) D st
theorem Kn {F:PH} {v:Γ} {d:wc} {n:Nat} (hd:DV F v d) (V:yg (d.1.length+4)) (hl:d.1.length<=1000000):ν 162 #[oc v,vi n] F λr I=>r=oY (sZ d n)/\F.le I:=by
 obtain ⟨s,rfl,L⟩:=hd.out;refine qfQ ?_;unfold QF;refine (St.start F).newG λW Z Y P q1 _ h=> ?_;refine ⟨_,rfl,ai (h.le _ _ q1),?_⟩;refine h.runv (FP (DV.mk (L.le P)) V) λX F2 M h=> ?_;have C:=aa P M;have er:=L.len;refine ⟨_,rfl,λB=>⟨?_,aa C h.le⟩,λB=> ?_⟩
 ·have:sZ d n=nS:=xx.2 λH=>B H.1;rw [this]
 have B:chk d=0:=Classical.not_not.1 B;refine bC (xN · (n:Int) W _) d.1.length (λk I=>X.le I/\∀b∈d.1.take k,b.v<n) ⟨h.le,by simp⟩ ?_;rintro k F3 N hk ⟨J,g⟩ next;unfold xN;have O:=J _ _ (M _ _ q1);have A:=aa C J;refine ⟨_,ld O rfl,λK=>⟨_,ld O rfl,u9 (L.le A) (by decide) (by omega) K λa Q x E w G=> ?_⟩,λR=> ?_⟩
 ·rw [N4] at E;rw [show Q=aX x from G] at w;refine ⟨x.v,aF w rfl,λU=>⟨?_,A⟩,λU=> ?_⟩
  ·have:sZ d n=nS:=xx.2 λH=>by have:=H.2 x (wh E);omega
   rw [this]
  ·rw [aD (n:=d.1.length) (by omega) (by omega)];refine next _ (by omega) ⟨J,λb D=> ?_⟩;rw [bD E] at D;rcases vl.1 D with h|h
   ·exact g b h
   ·rw [wa.1 h];omega
 ·have e:k=d.1.length:=by omega
  subst e;rw [wV] at g;unfold Fk;exact ⟨by rw [cO.2 ⟨B,g⟩],A⟩
def gC (x:Fi):Prop:=((x.k=1\/x.k=2)\/(x.par=0/\x.pos=0/\x.ch=0))/\((x.k=1\/x.k=2)->x.qa2=[])/\((x.k=3\/x.k=4)\/x.left=0)/\(x.k=5\/x.tok=0)
open Classical in
theorem Gl {F:PH} {w:Γ} {x:Fi} (V:Mem.rep F x w):ν 163 #[oc w] F λr E=>r=oY (decide (gC x))/\F.le E:=by
 obtain ⟨X,nn,rfl,Z,_⟩:=V;have Y:=Z.len;refine qfR ?_;unfold QG;refine fresh λM J l1 q _=> ?_;have R:∀{b:Bool},(b=nZ↔gC x)->(oY b=oY (decide (gC x))/\F.le J):=λ{b} h=>⟨by congr 1;rw [wR,h,δ],l1⟩;have no:¬gC x->(oY nS=oY (decide (gC x))/\F.le J):=λh=>R ⟨λh=>(by cases h),λg=>absurd g h⟩;have O:(x.qa2=[])↔¬(0:Int)<(X.len:Int):=by
  rw [Y];constructor
  ·intro h;rw [h];simp
  ·intro h;exact VT (by omega)
 have P:∀beside:Bool,(beside=nZ↔(x.k=3\/x.k=4))->((x.k=1\/x.k=2)\/(x.par=0/\x.pos=0/\x.ch=0))->((x.k=1\/x.k=2)->x.qa2=[])->
   qI M beside (λr E=>r=oY (decide (gC x))/\F.le E) J:=λbeside N C B=>by
  unfold qI;refine ⟨λA=>⟨_,ld q rfl,λD=>R ⟨λ_=>⟨C,B,.inl (N.1 A),.inl D⟩,λ_=>rfl⟩,λD=>⟨_,ld q rfl,R ?_⟩⟩,λA=>⟨_,ld q rfl,λL=>⟨_,ld q rfl,λD=>R ⟨λ_=>⟨C,B,.inr L,.inl D⟩,λ_=>rfl⟩,λD=>⟨_,ld q rfl,R ?_⟩⟩,λL=>no λg=> ?_⟩⟩
  ·rw [δ];exact ⟨λh=>⟨C,B,.inl (N.1 A),.inr h⟩,λg=>g.2.2.2.resolve_left D⟩
  ·rw [δ];exact ⟨λh=>⟨C,B,.inr L,.inr h⟩,λg=>g.2.2.2.resolve_left D⟩
  ·rcases g.2.2.1 with h|h
   ·rw [N.2 h] at A;cases A
   ·exact L h
 have U:((x.k=1\/x.k=2)\/(x.par=0/\x.pos=0/\x.ch=0))->((x.k=1\/x.k=2)->x.qa2=[])->jW M (λr E=>r=oY (decide (gC x))/\F.le E) J:=λC B=>by unfold jW;refine ⟨_,ld q rfl,λH=>P nZ ⟨λ_=> .inl H,λ_=>rfl⟩ C B,λH=>⟨_,ld q rfl,P _ ?_ C B⟩⟩;rw [δ];exact ⟨λh=> .inr h,λh=>h.resolve_left H⟩
 have Q:∀K:Bool,(K=nZ↔(x.k=1\/x.k=2))->qJ M K (λr E=>r=oY (decide (gC x))/\F.le E) J:=λK I=>by
  unfold qJ;cases K with
  |true=>have G:=I.1 rfl;exact ⟨λh=>(by cases h),λ_=>⟨λ_=>⟨_,ld q rfl,λh=>no λg=>O.1 (g.2.1 G) h,λh=>U (.inl G) λ_=>O.2 h⟩,λh=>(by cases h)⟩⟩
  |false=>
   have G:¬(x.k=1\/x.k=2):=λh=>by have:=I.2 h;cases this
   refine ⟨λ_=>⟨_,ld q rfl,λh=>no λg=>h (g.1.resolve_left G).1,λC=>⟨_,ld q rfl,λh=>no λg=>h (g.1.resolve_left G).2.1,λB=>⟨_,ld q rfl,λh=>no λg=>h (g.1.resolve_left G).2.2,λH=>⟨λh=>(by cases h),λ_=>U (.inr ⟨Classical.not_not.1 C,Classical.not_not.1 B,Classical.not_not.1 H⟩) λh=>absurd h G⟩⟩⟩⟩,λh=>(by cases h)⟩
 refine ⟨_,ld q rfl,λh=>Q nZ ⟨λ_=> .inl h,λ_=>rfl⟩,λh=>⟨_,ld q rfl,Q _ ?_⟩⟩;rw [δ];exact ⟨λh=> .inr h,λW=>W.resolve_left h⟩
def j9 (lit:Bool) (t:Tk):Bool:=if lit then !decide (t.lit=emp) else decide (t.cls=0)
open Classical in
theorem uQ {F:PH} {v:Γ} {g:Gr} (hg:GV F v g) {sl:Sl} {l:Φ} (V:RL F sl l) (a7:l.length<=1000000000) (A:Bool):ν 164 #[oc v,sl.v,oY A] F λr D=>r=oY (decide (fW g (j9 A) l))/\F.le D:=by
 obtain ⟨c,n,t,s,p,lv,f,rfl,Y⟩:=hg;have et:=Y.t.len;have el:=V.len;refine qfS ?_;unfold QH;refine fresh λb1 F1 l1 q1 _=> ?_;have Y:=Y.le l1;have V:=V.le l1;have no:∀{D:PH},F1.le D->¬fW g (j9 A) l->(oY nS=oY (decide (fW g (j9 A) l))/\F.le D):=λ{D} l h=>⟨by rw [η h],aa l1 l⟩;refine bC (xO · sl A b1 _) l.length (λj D=>F1.le D/\(∀n∈l.take j,0<=n/\∃t,g.qa2[n.toNat]? =mB t/\j9 A t=nZ)/\∀(i:Nat) (x y:Int),i+1<j->l[i]? =mB x->l[i+1]? =mB y->x<y)
  ⟨au _,by simp,λi x y h=>by omega⟩ ?_
 rintro j F2 N hj ⟨K,i1,i2⟩ next;unfold xO;refine ⟨λH=> ?_,λa6=> ?_⟩
 ·have H:j<l.length:=by omega
  have I:=N5 H;generalize l[j]=x at I;obtain ⟨a,cc,X,hr,hc⟩:=(V.le K).get (by decide) I;rw [show cc= #[vi x] from hc] at hr;have B:F2.cell (od a (pc (j:Int)*1))=mB (vi x):=by rw [N4];exact aF hr rfl
  have P:x∈l:=wh I;have p1:=K _ _ q1;have Vi:¬(0<=x/\x<g.qa2.length)->(oY nS=oY (decide (fW g (j9 A) l))/\F.le F2):=λh=>no K λU=>by obtain ⟨h0,t',Z,_⟩:=U.2.1 x P;have:=(N6.1 Z).1;exact h ⟨h0,by omega⟩
  refine ⟨a,X,by omega,by omega,x,B,λh=>Vi (by omega),λx0=>⟨a,X,by omega,by omega,x,B,_,ld p1 rfl,λh=>Vi (by omega),λx1=> ?_⟩⟩;have L:(∀y,0<j->l[j - 1]? =mB y->y<x)->qL N sl A b1 (j:Int) (λr D=>r=oY (decide (fW g (j9 A) l))/\F.le D) F2:=λM=>by
   unfold qL;refine ⟨_,ld p1 rfl,a,X,by omega,by omega,x,B,u9 (Y.t.le K) (by decide) (by omega) (by omega) λa2 c2 y E a3 G=>⟨c2,Mem.len G,a3,?_⟩⟩;refine var1 (Mem.st G) (λb F3 l3 q3=> ?_) rfl (Mem.len G);have Q:=aa K l3;obtain ⟨pp,nn,rfl,_,_⟩:=G;have bad:j9 A y=nS->(oY nS=oY (decide (fW g (j9 A) l))/\F.le F3):=λhk=>no Q λU=>by obtain ⟨h0,t',Z,a1⟩:=U.2.1 x P;rw [E] at Z;cases Z;rw [a1] at hk;cases hk
   have J:j9 A y=nZ->qK N sl A b1 (j:Int) (λr D=>r=oY (decide (fW g (j9 A) l))/\F.le D) F3:=λhk=>by
    unfold qK;rw [aD H];refine next _ H ⟨Q,λm O=> ?_,λi u w hi hu hw=> ?_⟩
    ·rw [bD I] at O;rcases vl.1 O with O|O
     ·exact i1 m O
     ·rw [wa.1 O];exact ⟨by omega,y,E,hk⟩
    ·by_cases e:i+1<j
     ·exact i2 i u w e hu hw
     ·have e:j=i+1:=by omega
      subst e;rw [I] at hw;cases hw;exact M u (by omega) hu
   refine ⟨λC=>⟨y.lit,ld q3 rfl,?_⟩,λC=>⟨y.cls,ld q3 rfl,λh=>bad (by unfold j9;rw [C];simpa using h),λh=>J (by unfold j9;rw [C];simpa using h)⟩⟩;dsimp only;rw [mT];exact ⟨λh=>bad (by unfold j9;rw [C];simpa using h),λh=>J (by unfold j9;rw [C];simpa using h)⟩
  refine ⟨λR=> ?_,λR=>L λy h=>by omega⟩;have R:0<j:=by omega
  have ew:i64.wrap ((j:Int) - 1)=((j - 1:Nat):Int):=by rw [aL (by omega)];omega
  rw [ew];have E:=N5 (show j - 1<l.length by omega);generalize l[j - 1]=y at E;obtain ⟨a',a4,a0,W,a5⟩:=(V.le K).get (by decide) E;rw [show a4= #[vi y] from a5] at W;refine ⟨a,X,by omega,by omega,x,B,a',a0,by omega,by omega,y,by rw [N4];exact aF W rfl,λh=>no K λU=> ?_,λh=>L λz _ hz=> ?_⟩
  ·have:=U.2.2 (j - 1) y x E (by rw [show j - 1+1=j by omega];exact I);omega
  ·rw [E] at hz;cases hz;omega
 ·have e:j=l.length:=by omega
  subst e;rw [wV] at i1;unfold Fl;refine ⟨?_,aa l1 K⟩;congr 1;rw [wR,δ,δ];constructor
  ·intro h;refine ⟨λe=>by rw [e] at el;simp at el;omega,i1,λi x y I E=>i2 i x y ?_ I E⟩;exact (N6.1 E).1
  ·intro h;have:l.length≠0:=λe=>h.1 (VT e);omega
open Classical in
theorem B7 {F:PH} {v w:Γ} {g:Gr} {x:Fi} (hg:GV F v g) (hx:Mem.rep F x w) (hf:x.cond.1.length<=1000000) (a8:x.qa2.length<=1000000000):ν 131 #[oc v,oc w] F λr B=>r=oY (decide (cw g x))/\F.le B:=by
 have b0:=hg;have b5:=hx;obtain ⟨c,n,t,s,p,lv,f,rfl,Z⟩:=hg;obtain ⟨tt,nn,rfl,ht,hd⟩:=hx;have ec:=Z.c.len;have et:=Z.t.len;have es:=Z.s.len;have ep:=Z.p.len;refine qfN ?_;unfold QC;refine (St.start F).newG λb2 G1 F1 l1 q2 _ h=> ?_;refine h.newG λb3 G2 F2 l2 q3 _ h=> ?_;have q2:=l2 _ _ q2;have l1:=aa l1 l2;have R:∀{B:PH} {b:Bool},G2.le B->(b=nZ↔cw g x)->(oY b=oY (decide (cw g x))/\F.le B):=λ{B b} l h=>⟨by congr 1;rw [wR,h,δ],aa l1 l⟩;have no:∀{B:PH},G2.le B->¬cw g x->(oY nS=oY (decide (cw g x))/\F.le B):=λl h=>R l ⟨λh=>(by cases h),λA=>absurd A h⟩;have kr:cw g x->1<=x.k/\x.k<=5:=λh=>by rcases h.2 with h|h|h<;>have:=h.1<;>omega
 have pl:cw g x->gC x:=λh=>by
  rcases h.2 with ⟨k,_,a,b,c⟩|⟨k,_,a,b,c,d⟩|⟨k,_,a,b,c,d⟩
  ·exact ⟨.inl k,λ_=>c,.inr a,.inr b⟩
  ·exact ⟨.inr ⟨a,b,c⟩,λh=>by omega,.inl k,.inr d⟩
  ·exact ⟨.inr ⟨a,b,c⟩,λh=>by omega,.inr d,.inl k⟩
 refine ⟨_,ld (h.le _ _ q3) rfl,λV=>no h.le λA=>by have:=kr A;omega,λc4=>⟨_,ld (h.le _ _ q3) rfl,λV=>no h.le λA=>by have:=kr A;omega,λa5=>⟨#[nn.v,vi x.cond.2],rfl,fZ (h.le _ _ q3) rfl,_,ld (h.le _ _ q2) rfl,?_⟩⟩⟩;dsimp only;rw [ec];refine h.runv (Kn (d:=x.cond) (DV.mk (hd.le l1)) (by show _<=_;omega) hf) λG3 F3 l3 h=> ?_;replace no:∀{B:PH},G3.le B->¬cw g x->(oY nS=oY (decide (cw g x))/\F.le B):=λl h=>no (aa l3 l) h;have q3:=l3 _ _ q3;have q2:=l3 _ _ q2;have C:=aa l1 l3;refine ⟨_,rfl,λJ=>no h.le λA=>(by rw [cO.2 A.1] at J;cases J),λJ=>⟨_,rfl,ai (h.le _ _ q3),?_⟩⟩;have N:iL x.cond g.qa4.length:=cO.1 (by simpa using J);refine h.runv (Gl (Mem.le C b5)) λG4 F4 l4 h=> ?_;replace no:∀{B:PH},G4.le B->¬cw g x->(oY nS=oY (decide (cw g x))/\F.le B):=λl h=>no (aa l4 l) h;replace R:∀{B:PH} {b:Bool},G4.le B->(b=nZ↔cw g x)->(oY b=oY (decide (cw g x))/\F.le B):=λl h=>R (aa l3 (aa l4 l)) h;have q3:=l4 _ _ q3;have q2:=l4 _ _ q2;have C:=aa C l4;refine ⟨_,rfl,λJ=>no h.le λA=>(by rw [decide_eq_true (pl A)] at J;cases J),λJ=> ?_⟩;have b1:gC x:=by simpa using J
 obtain ⟨P1,P2,P3,P4⟩:=b1;have j2:¬(x.k=1\/x.k=2)->∀q:Bool,(q=nZ↔(x.k=3\/x.k=4))->qF b2 b3 q (λr B=>r=oY (decide (cw g x))/\F.le B) F4:=λE q hq=>by
  have L:=P1.resolve_left E;unfold qF;refine ⟨λK=> ?_,λK=> ?_⟩
  ·have V:=hq.1 K;have h5:x.tok=0:=P4.resolve_left (by omega);have key:cw g x↔(0<=x.left/\x.left<g.qa1.length/\fW g (λt=>decide (t.cls=0)) x.qa2):=by
    constructor
    ·intro A;rcases A.2 with h|h|h
     ·exact absurd h.1 E
     ·exact h.2.1
     ·have:=h.1;omega
    ·intro h;exact ⟨N,.inr (.inl ⟨V,h,L.1,L.2.1,L.2.2,h5⟩)⟩
   refine ⟨_,ld (h.le _ _ q3) rfl,λI=>⟨_,ld (h.le _ _ q3) rfl,_,ld (h.le _ _ q2) rfl,λh2=>⟨_,rfl,ai (h.le _ _ q2),_,ld (h.le _ _ q3) rfl,?_⟩,λh2=>no h.le λA=> ?_⟩,λI=>no h.le λA=>I (key.1 A).1⟩
   ·refine h.runv (uQ (GV.le b0 C) (ht.le C) a8 nS) λG5 F5 W h=>⟨_,rfl,R (aa W h.le) ?_⟩;rw [δ,key];exact ⟨λh=>⟨I,by omega,h⟩,λh=>h.2.2⟩
   ·have:=(key.1 A).2.1;omega
  ·have V:¬(x.k=3\/x.k=4):=λh=>by rw [hq.2 h] at K;cases K
   have a5:x.k=5:=by omega
   have h5:x.left=0:=P3.resolve_left V;have key:cw g x↔(fW g (λt=> !decide (t.lit=emp)) x.qa2/\0<=x.tok/\∃t,g.qa2[x.tok.toNat]? =mB t/\t.cls=0/\t.lit=emp):=by
    constructor
    ·intro A;rcases A.2 with h|h|h
     ·exact absurd h.1 E
     ·exact absurd h.1 V
     ·exact h.2.1
    ·intro h;exact ⟨N,.inr (.inr ⟨a5,h,L.1,L.2.1,L.2.2,h5⟩)⟩
   have a7:∀{B:PH},G4.le B->¬(0<=x.tok/\x.tok<g.qa2.length)->(oY nS=oY (decide (cw g x))/\F.le B):=λl h=>no l λA=>by obtain ⟨_,I,y,Q,_⟩:=key.1 A;have:=(N6.1 Q).1;exact h ⟨I,by omega⟩
   refine ⟨_,ld (h.le _ _ q3) rfl,λI=>a7 h.le (by omega),λI=>⟨_,ld (h.le _ _ q3) rfl,_,ld (h.le _ _ q2) rfl,λh2=>a7 h.le (by omega),λh2=>⟨_,rfl,ai (h.le _ _ q2),_,ld (h.le _ _ q3) rfl,?_⟩⟩⟩;refine h.runv (uQ (GV.le b0 C) (ht.le C) a8 nZ) λG5 F5 W h=>⟨_,rfl,λJ=>no (aa W h.le) λA=> ?_,λJ=> ?_⟩
   ·rw [ε (show fW g (j9 nZ) x.qa2 from (key.1 A).1)] at J;cases J
   have a9:fW g (j9 nZ) x.qa2:=by simpa using J
   have b8:=aa C W;refine ⟨_,ld (h.le _ _ (W _ _ q2)) rfl,_,ld (h.le _ _ (W _ _ q3)) rfl,h.ix (Z.t.le b8) (by decide) (by omega) (by omega) λa cc y Q hr G=>⟨cc,Mem.len G,hr,?_⟩⟩;have a4:=Mem.st G;have c5:cc.size=7:=Mem.len G;obtain ⟨pp,c6,rfl,_,_⟩:=G;refine h.var a4 (λb6 G6 F6 l6 q6 h=> ?_) rfl rfl;refine ⟨_,ld (h.le _ _ q6) rfl,λX=>⟨_,ld (h.le _ _ q6) rfl,R (aa W (aa l6 h.le)) ?_⟩,λX=>no (aa W (aa l6 h.le)) λA=> ?_⟩
   ·rw [mT,δ,key];constructor
    ·intro hl;exact ⟨a9,by omega,y,Q,X,hl⟩
    ·rintro ⟨_,_,y',M,_,hl⟩;rw [Q] at M;cases M;exact hl
   ·obtain ⟨_,_,y',M,a0,_⟩:=key.1 A;rw [Q] at M;cases M;exact X a0
 have j1:∀q:Bool,(q=nZ↔(x.k=1\/x.k=2))->qG b2 b3 x.k q (λr B=>r=oY (decide (cw g x))/\F.le B) F4:=λq hq=>by
  unfold qG;refine ⟨λK=> ?_,λK=> ?_⟩
  ·have V:=hq.1 K;have key:cw g x↔oV g x:=by
    constructor
    ·intro A;rcases A.2 with h|h|h
     ·exact h.2.1
     ·have:=h.1;omega
     ·have:=h.1;omega
    ·intro h;exact ⟨N,.inl ⟨V,h,P3.resolve_left (by omega),P4.resolve_left (by omega),P2 V⟩⟩
   have Vi:¬(0<=x.par/\x.par<g.qa0.length/\0<=x.ch/\x.ch<g.qa0.length)->(oY nS=oY (decide (cw g x))/\F.le F4):=λhn=>no h.le λA=>by obtain ⟨I,K,_,p',q',D,O,_⟩:=key.1 A;have:=(N6.1 D).1;have:=(N6.1 O).1;exact hn (by omega)
   have p2:=h.le _ _ q2;have U:=h.le _ _ q3;refine ⟨_,ld U rfl,λI=>Vi (by omega),λI=>⟨_,ld U rfl,_,ld p2 rfl,λI=>Vi (by omega),λh2=>⟨_,ld U rfl,λI=>Vi (by omega),λh3=>⟨_,ld U rfl,_,ld p2 rfl,λI=>Vi (by omega),λh4=>⟨_,ld p2 rfl,_,ld U rfl,?_⟩⟩⟩⟩⟩;refine h.ix (Z.p.le C) (by decide) (by omega) (by omega) λa cc y Q hr G=> ?_;obtain ⟨rr,n2,c3,rfl,a1,_,_⟩:=G;have er:=a1.len;have a3:¬(0<=x.pos/\x.pos<y.right.length)->(oY nS=oY (decide (cw g x))/\F.le F4):=λhn=>no h.le λA=>by obtain ⟨_,_,I,p',q',D,_,H⟩:=key.1 A;rw [Q] at D;cases D;have:=(N6.1 H).1;exact hn (by omega)
   refine ⟨rr,aN hr rfl,_,ld U rfl,λh5=>⟨_,ld U rfl,λh6=>⟨_,ld U rfl,?_⟩,λh6=>a3 (by omega)⟩,λh5=>a3 (by omega)⟩;have b7:x.pos.toNat<y.right.length:=by omega
   have L:=N5 b7;generalize y.right[x.pos.toNat]=z at L;obtain ⟨a2,c2,a6,Y,b4⟩:=(a1.le h.le).get (by decide) L;rw [show c2=z.arr from b4] at Y;refine ⟨a2,a6,by omega,by omega,z.t,aF Y rfl,λP=>⟨_,ld U rfl,a2,a6,by omega,by omega,z.i,aN Y rfl,_,ld p2 rfl,_,ld U rfl,?_⟩,λP=>no h.le λA=> ?_⟩
   ·refine h.ix (Z.p.le C) (by decide) (by omega) (by omega) λa cc u hu hr G=> ?_;obtain ⟨r3,n3,b9,rfl,_,_,_⟩:=G;refine ⟨u.left,aN hr rfl,R h.le ?_⟩;rw [δ,key];have P:z.t=nS:=by simpa using P
    constructor
    ·intro he;refine ⟨by omega,by omega,by omega,y,u,Q,hu,?_⟩;rw [L,<- he,<- P]
    ·rintro ⟨_,_,_,p',q',D,O,H⟩;rw [Q] at D;cases D;rw [hu] at O;cases O;rw [L] at H;cases H;rfl
   ·obtain ⟨_,_,_,p',q',D,O,H⟩:=key.1 A;rw [Q] at D;cases D;rw [L] at H;cases H;cases P
  ·have E:¬(x.k=1\/x.k=2):=λh=>by rw [hq.2 h] at K;cases K
   refine ⟨λh3=>j2 E _ ?_,λh3=>j2 E _ ?_⟩
   ·rw [δ];exact ⟨λh=> .inl h,λ_=>h3⟩
   ·rw [δ];exact ⟨λh=> .inr h,λh=>h.resolve_left h3⟩
 refine ⟨_,ld (h.le _ _ q3) rfl,λK=>j1 _ ?_,λK=>j1 _ ?_⟩
 ·rw [δ];exact ⟨λh=> .inl h,λ_=>K⟩
 ·rw [δ];exact ⟨λh=> .inr h,λh=>h.resolve_left K⟩
theorem oR {F:PH} {v:Γ} {g:Gr} (hg:GV F v g) (i:Int) (h1:g.lvs.length<=1000000) (h2:∀x∈g.lvs,x.ps.length<=1000000):ν 130 #[oc v,vi i] F λr B=>r=oY (decide (i∈g.lvs.flatMap Lv.ps))/\F.le B:=by
 obtain ⟨c,n,t,s,p,lv,f,rfl,M⟩:=hg;have el:=M.l.len;refine qfM ?_;unfold QB;refine fresh λb2 F1 V q1 _=> ?_;have M:=M.le V;refine bC (xL · i b2 _) g.lvs.length (λk B=>F1.le B/\i ∉ (g.lvs.take k).flatMap Lv.ps) ⟨au _,by simp⟩ ?_;rintro k F2 N hk ⟨I,H⟩ next;unfold xL;have Y:=I _ _ q1;refine ⟨_,ld Y rfl,λA=> ?_,λa1=> ?_⟩
 ·have A:k<g.lvs.length:=by omega
  have O:=N5 A;have C:=Vw A;generalize g.lvs[k]=x at O C;obtain ⟨a,cc,W,hr,hc⟩:=(M.l.le I).get (by decide) O;obtain ⟨P,nn,rfl,J,_⟩:=hc;have a3:=J.len;have a0:=h2 x C;have w:∀{B:PH},F2.le B->B.cell (od a (pc (k:Int)*4))=mB P.v:=λl=>by rw [N4];exact aK l (aF hr rfl)
  refine bC (xK N · i b2 (k:Int) _) x.ps.length (λj B=>F2.le B/\i ∉ x.ps.take j) ⟨au _,by simp⟩ ?_;rintro j F3 N2 hj ⟨G,D⟩ E;unfold xK;have p3:=G _ _ Y;refine ⟨_,ld p3 rfl,a,W,by omega,by omega,P,w G,λX=>⟨_,ld p3 rfl,a,W,by omega,by omega,P,w G,u9 (J.le G) (by decide) (by omega) (by omega) λa2 c2 y R L Q=> ?_⟩,λZ=> ?_⟩
  ·rw [N4] at R;rw [show c2= #[vi y] from Q] at L;refine ⟨y,aF L rfl,λU=>⟨?_,aa V (aa I G)⟩,λU=> ?_⟩
   ·rw [ε (XX.2 ⟨x,C,by rw [<- U];exact wh R⟩)]
   ·rw [aD (n:=x.ps.length) (by omega) (by omega)];refine E _ (by omega) ⟨G,λK=> ?_⟩;rw [bD R] at K;rcases vl.1 K with h|h
    ·exact D h
    ·exact U (wa.1 h).symm
  ·have e:j=x.ps.length:=by omega
   subst e;rw [wV] at D;unfold Fh;rw [aD A];refine next _ A ⟨aa I G,λK=> ?_⟩;rw [bD O,XV] at K;rcases vl.1 K with h|h
   ·exact H h
   ·simp at h;exact D h
 ·have e:k=g.lvs.length:=by omega
  subst e;rw [wV] at H;unfold Ff;exact ⟨by rw [η H],aa V I⟩
structure Ru where
 kind:Nat
 a:Nat
 b:Nat
 c:Nat
 cond:Nat
instance:Mem Ru where
 n:=5
 rep _ x c:=c= #[vB x.kind,vB x.a,vB x.b,vB x.c,vB x.cond]/\x.kind<256/\x.a<256/\x.b<256/\x.c<256/\x.cond<256
 len h:=by obtain ⟨rfl,_⟩:=h;rfl
 le _ h:=h
 st h:=by obtain ⟨rfl,_⟩:=h;simp [ak]
abbrev yJ (g:Gr) (x:Ru):wc:=ph (jj x.cond g.qa4.length)
open Classical in
def kg (g:Gr) (x:Fi):Gr:=if cw g x then {g with fils:=g.fils++[x]} else g
def nW (g:Gr) (x:Ru):Gr:=
 if ((x.a % g.qa0.length:Nat):Int)∈g.lvs.flatMap Lv.ps then g
 else {g with lvs:=g.lvs++[⟨((x.a % g.qa0.length:Nat):Int)::(if x.b % g.qa0.length≠x.a % g.qa0.length/\((x.b % g.qa0.length:Nat):Int) ∉ g.lvs.flatMap Lv.ps then [((x.b % g.qa0.length:Nat):Int)] else []),((x.c % 4:Nat):Int),yJ g x⟩]}
def tokG (g:Gr) (x:Ru):Gr:={g with qa2:=g.qa2.modify (x.a % 9) λt=>{t with cond:=yJ g x}}
def ruleG (g:Gr) (x:Ru):Gr:=
 if x.kind % 8<2 then nW g x
 else if x.kind % 8<4 then kg g ⟨((x.kind % 8 - 1:Nat):Int),((x.a % g.qa0.length:Nat):Int),((x.c % 16:Nat):Int),((x.b % g.qa0.length:Nat):Int),0,0,[],yJ g x⟩
 else if x.kind % 8<6 then kg g ⟨((x.kind % 8 - 1:Nat):Int),0,0,0,((x.a % g.qa1.length:Nat):Int),0,[((x.b % 9:Nat):Int)],yJ g x⟩
 else if x.kind % 8=6 then kg g ⟨5,0,0,0,0,0,[5],yJ g x⟩
 else tokG g x
theorem bT.sz {α:Type} [Mem α] {F:PH} {l:List α} {vs:List Γ} (h:bT F l vs):∀d∈vs,d.size=Mem.n α:=by
 induction h with
 |nil=>intro d hd;cases hd
 |cons h _ ih=>
  intro d hd;rcases tQ.1 hd with rfl|hd
  ·exact Mem.len h
  ·exact ih d hd
structure RK (F G:PH) (b3 b5:Nat) (g:Gr) (x:Ru) (c n t s p l f m:Sl):Prop where
 lF:F.le G
 q3:G b3=mB (mX #[vB x.kind,vB x.a,vB x.b,vB x.c,vB x.cond] 194)
 q5:G b5=mB (mX #[m.v,vi (yJ g x).2] 33)
 gs:GS G g c n t s p l f
 m:RL G m (yJ g x).1
theorem RK.le {F G B:PH} {w A:Nat} {g:Gr} {x:Ru} {c n t s p l f m:Sl} (h:RK F G w A g x c n t s p l f m) (r:G.le B):RK F B w A g x c n t s p l f m:=
 ⟨aa h.lF r,r _ _ h.q3,r _ _ h.q5,h.gs.le r,h.m.le r⟩
theorem RK.gv {F G:PH} {r w:Nat} {g:Gr} {x:Ru} {c n t s p l f m:Sl} (h:RK F G r w g x c n t s p l f m):GV G (g.arr c n t s p l f) g:=⟨c,n,t,s,p,l,f,rfl,h.gs⟩
section
variable {F G F1:PH} {b2 b3 b4 b5 b7 b8:Nat} {g g':Gr} {x:Ru} {c n t s p l f m:Sl}
theorem jl {w:Γ} (hF:F.le G) (r:GV G w g') (st:St G F1 [pt b4 (mX zG 39),pt b2 (mX w 39)]):
  ∃v:Γ,v.size=9/\F1.row (pd b2 0 nC) v/\aB F1 (pd b4 0 nC) 9 v λF2=>∃v:Γ,v.size=9/\F2.row (pd b4 0 nC) v/\LR F g' (oc v) F2:=by
 refine ⟨_,r.size,st.whole1,?_⟩;refine st.put0 (w':=w) r.size rfl r.st λA h=> ?_;exact ⟨_,r.size,h.whole0,⟨_,rfl,r.le h.le⟩,aa hF h.le⟩
theorem wW {y:Fi} {h r:Sl} (K:RK F G b3 b5 g x c n t s p l f m) (I:g.fils.length<=1000000) (J:y.cond.1.length<=1000000) (N:y.qa2.length<=1000) (C:RL G h y.qa2) (E:RL G r y.cond.1)
  (st:St G F1 [pt b7 (mX (y.arr h r) 233),pt b4 (mX zG 39),pt b2 (mX (g.arr c n t s p l f) 39)]):
  tF b2 b4 b7 (LR F (kg g y)) F1:=by
 obtain ⟨_,_,T⟩:=aah;unfold tF;refine ⟨_,rfl,st.whole2,_,rfl,st.whole0,?_⟩;refine st.runv (B7 K.gv ⟨h,r,rfl,C,E⟩ J (by omega)) λO F2 A st=> ?_;have K:=K.le A;refine ⟨_,rfl,λB=> ?_,λB=> ?_⟩
 ·have e:kg g y={g with fils:=g.fils++[y]}:=by unfold kg;rw [Χ (show cw g y by simpa using B)]
  rw [e];refine ⟨_,st.ld2 rfl,_,rfl,st.whole0,?_⟩;refine St.grow T st K.gs.f (y:=y) ⟨h,r,rfl,C.le A,E.le A⟩ I rfl (λM H st=>st.whole0) λD M H L w st=> ?_;have K:=K.le L;refine st.set2 (w':=Gr.arr {g with fils:=g.fils++[y]} c n t s p l D) (vp rfl) rfl λP st=> ?_;unfold og;exact jl K.lF ⟨c,n,t,s,p,l,D,rfl,K.gs.c,K.gs.n,K.gs.t,K.gs.s,K.gs.p,K.gs.l,w⟩ st.tail
 ·have e:kg g y=g:=by unfold kg;rw [Υ (show ¬cw g y by simpa using B)]
  rw [e];unfold og;exact jl K.lF K.gv st.tail
theorem EB {y:Lv} {r w:Sl} (K:RK F G b3 b5 g x c n t s p l f m) (C:g.lvs.length<=1000000) (D:RL G r y.ps) (E:RL G w y.cond.1)
  (st:St G F1 [pt b8 (mX (y.arr r w) 236),pt b4 (mX zG 39),pt b2 (mX (g.arr c n t s p l f) 39)]):
  xE b2 b4 b8 (LR F {g with lvs:=g.lvs++[y]}) F1:=by
 obtain ⟨_,_,T⟩:=aag;unfold xE;refine ⟨_,st.ld2 rfl,_,rfl,st.whole0,?_⟩;refine St.grow T st K.gs.l (y:=y) ⟨r,w,rfl,D,E⟩ C rfl (λI B st=>st.whole0) λA I B H h st=> ?_;have K:=K.le H;refine st.set2 (w':=Gr.arr {g with lvs:=g.lvs++[y]} c n t s p A f) (vp rfl) rfl λJ st=> ?_;unfold oo;exact jl K.lF ⟨c,n,t,s,p,A,f,rfl,K.gs.c,K.gs.n,K.gs.t,K.gs.s,K.gs.p,h,K.gs.f⟩ st.tail
end
theorem Gm {α:Type} (l:List α) (i:Nat) (f:α->α) {x:α} (h:l[i]? =mB x):l.modify i f=l.set i (f x):=by
 apply Wp;intro j;rw [YS,Yt];by_cases e:i=j
 ·subst e;obtain ⟨g,rfl⟩:=N6.1 h;simp [g]
 ·simp [e]
structure RH (g:Gr) (x:Ru):Prop where
 ka:x.kind<256
 a:x.a<256
 b:x.b<256
 c:x.c<256
 pl:g.qa0.length<=1000000
 p0:g.qa0.length≠0
 nl:g.qa1.length<=1000000
 n0:g.qa1.length≠0
 tl:g.qa2.length<=1000000
 t9:9<=g.qa2.length
 ll:g.lvs.length<=1000000
 lp:∀y∈g.lvs,y.ps.length<=1000000
 fl:g.fils.length<=1000000
 dl:(yJ g x).1.length<=1000000
section
variable {F G F1:PH} {b2 b3 b4 b5 b7 b8:Nat} {g g':Gr} {x:Ru} {c n t s p l f m:Sl}
abbrev f0 (g:Gr) (x:Ru):Fi:=⟨0,0,0,0,0,0,[],yJ g x⟩
theorem wN {a b:Nat} (h:a<256):tK (i64.wrap (a:Int)) (b:Int)=((a % b:Nat):Int):=by rw [aL (by omega),iS]
theorem EC (K:RK F G b3 b5 g x c n t s p l f m) (H:RH g x) {q:Bool} (hk:4<=x.kind % 8) (Y:q=nZ↔(x.kind % 8=4\/x.kind % 8=5))
  (st:St G F1 [pt b7 (mX ((f0 g x).arr pk m) 233),pt b4 (mX zG 39),pt b2 (mX (g.arr c n t s p l f) 39)]):
  xG b2 b3 b4 b5 b7 (x.kind:Int) q (LR F (ruleG g x)) F1:=by
 have es:=K.gs.s.len;have et:=K.gs.t.len;have W:tK (x.kind:Int) 8=((x.kind % 8:Nat):Int):=iS x.kind 8;have ka:=H.ka;unfold xG;refine ⟨λE=> ?_,λE=> ?_⟩
 ·have Z:=Y.1 E;have e:ruleG g x=kg g ⟨((x.kind % 8 - 1:Nat):Int),0,0,0,((x.a % g.qa1.length:Nat):Int),0,[((x.b % 9:Nat):Int)],yJ g x⟩:=by unfold ruleG;rw [Υ (by omega),Υ (by omega),Χ (by omega)]
  rw [e];refine ⟨_,ld (st.le _ _ K.q3) rfl,?_⟩;dsimp only;rw [W,show i64.wrap ((x.kind % 8:Nat):Int)=((x.kind % 8:Nat):Int) from aL (by omega),show i64.wrap ((3:Int)+((x.kind % 8:Nat):Int))=(3:Int)+((x.kind % 8:Nat):Int) from aL (by omega),show i64.wrap ((3:Int)+((x.kind % 8:Nat):Int) - 4)=((x.kind % 8 - 1:Nat):Int) by rw [aL (by omega)];omega];refine st.set0 (w':=Fi.arr ⟨((x.kind % 8 - 1:Nat):Int),0,0,0,0,0,[],yJ g x⟩ pk m) (vp rfl) rfl λF2 st=> ?_;refine ⟨_,ld (st.le _ _ K.q3) rfl,_,st.ld2 rfl,by have:=H.n0;omega,?_⟩;rw [es,wN H.a];refine st.set0 (w':=Fi.arr ⟨((x.kind % 8 - 1:Nat):Int),0,0,0,((x.a % g.qa1.length:Nat):Int),0,[],yJ g x⟩ pk m) (vp rfl) rfl λF3 st=> ?_;refine ⟨_,ld (st.le _ _ K.q3) rfl,?_⟩;dsimp only;rw [show tK (i64.wrap (x.b:Int)) (9:Int)=((x.b % 9:Nat):Int) from wN (b:=9) H.b];refine st.newG λD G2 J r q _ st=> ?_;refine st.set0 (w':=Fi.arr ⟨((x.kind % 8 - 1:Nat):Int),0,0,0,((x.a % g.qa1.length:Nat):Int),0,[((x.b % 9:Nat):Int)],yJ g x⟩ (tX (mB (pd D 0 nC)) 1 1) m) (vp rfl) rfl λF5 st=> ?_;exact wW (y:=⟨((x.kind % 8 - 1:Nat):Int),0,0,0,((x.a % g.qa1.length:Nat):Int),0,[((x.b % 9:Nat):Int)],yJ g x⟩) (K.le r) H.fl H.dl (by simp) (lq q) (K.m.le r) st
 ·have a0:¬(x.kind % 8=4\/x.kind % 8=5):=λh=>by rw [Y.2 h] at E;cases E
  rw [W];refine ⟨λh6=> ?_,λh6=> ?_⟩
  ·have e:ruleG g x=kg g ⟨5,0,0,0,0,0,[5],yJ g x⟩:=by unfold ruleG;rw [Υ (by omega),Υ (by omega),Υ (by omega),Χ (by omega)]
   rw [e];refine st.set0 (w':=Fi.arr ⟨5,0,0,0,0,0,[],yJ g x⟩ pk m) (vp rfl) rfl λF2 st=> ?_;refine st.newG λC G2 J r q _ st=> ?_;refine st.set0 (w':=Fi.arr ⟨5,0,0,0,0,0,[5],yJ g x⟩ (tX (mB (pd C 0 nC)) 1 1) m) (vp rfl) rfl λF5 st=> ?_;exact wW (y:=⟨5,0,0,0,0,0,[5],yJ g x⟩) (K.le r) H.fl H.dl (by simp) (lq q) (K.m.le r) st
  ·have e:ruleG g x=tokG g x:=by unfold ruleG;rw [Υ (by omega),Υ (by omega),Υ (by omega),Υ (by omega)]
   rw [e];obtain ⟨_,_,T⟩:=X4;have a1:=H.t9;have a3:=H.tl;have h9:x.a % 9<9:=VU _ (by decide);obtain ⟨vs,I,N⟩:=K.gs.t;have L:=N5 (show x.a % 9<g.qa2.length by omega);generalize g.qa2[x.a % 9]=y at L;obtain ⟨w,Q,M,_⟩:=I.get L;refine st.new λO F2 st=> ?_;have st:=st.imp (A':=own (tX (mB (pd O 0 nC)) 0 0) 166 7 []) 0 rfl λH _ hH=>jR hH;refine ⟨_,st.ld3 rfl,?_⟩;refine St.app0 T st (N.le st.le) I.st (by show 0+t.len<=_;omega) λB F3 st a2=> ?_;rw [zr] at st;refine ⟨_,ld (st.le _ _ K.q3) rfl,_,rfl,ai (st.le _ _ K.q5),?_⟩;rw [show tK (i64.wrap (x.a:Int)) (9:Int)=((x.a % 9:Nat):Int) from wN (b:=9) H.a];refine st.elN 0 rfl I.sz Q (by decide) rfl (by show 5+2<=7;decide) (by simp [ak,nV]) λJ st=> ?_;obtain ⟨V,nn,rfl,R,a4⟩:=M;have U:Mem.rep G {y with cond:=yJ g x} (wr (y.arr V nn) 5 (#[m.v,vi (yJ g x).2]:Γ).toList):=⟨V,m,rfl,R,K.m⟩;refine st.pinOwn (K:=λJ=>rj J (pd b2 3 nC) (nV B) _) λG5 X A st=> ?_;have K:=K.le X;have P:RL G5 B (tokG g x).qa2:=by show RL G5 B (g.qa2.modify (x.a % 9) λt=>{t with cond:=yJ g x});rw [Gm _ _ _ L];exact ⟨_,(I.set U).le X,A⟩
   refine st.set2 (w':=Gr.arr (tokG g x) c n B s p l f) (vp rfl) rfl λF6 st=> ?_;exact jl (g':=tokG g x) K.lF ⟨c,n,B,s,p,l,f,rfl,K.gs.c,K.gs.n,P,K.gs.s,K.gs.p,K.gs.l,K.gs.f⟩ st.tail
theorem ED (K:RK F G b3 b5 g x c n t s p l f m) (H:RH g x) {q:Bool} (J:2<=x.kind % 8) (A:q=nZ↔(x.kind % 8=2\/x.kind % 8=3))
  (st:St G F1 [pt b7 (mX ((f0 g x).arr pk m) 233),pt b4 (mX zG 39),pt b2 (mX (g.arr c n t s p l f) 39)]):
  xH b2 b3 b4 b5 (x.a:Int) p b7 (x.kind:Int) q (LR F (ruleG g x)) F1:=by
 have D:=K.gs.p.len;have B:tK (x.kind:Int) 8=((x.kind % 8:Nat):Int):=iS x.kind 8;have L:=H.ka;unfold xH;refine ⟨λr=> ?_,λr=> ?_⟩
 ·have w:=A.1 r;have e:ruleG g x=kg g ⟨((x.kind % 8 - 1:Nat):Int),((x.a % g.qa0.length:Nat):Int),((x.c % 16:Nat):Int),((x.b % g.qa0.length:Nat):Int),0,0,[],yJ g x⟩:=by unfold ruleG;rw [Υ (by omega),Χ (by omega)]
  rw [e];refine ⟨_,ld (st.le _ _ K.q3) rfl,?_⟩;dsimp only;rw [B,show i64.wrap ((x.kind % 8:Nat):Int)=((x.kind % 8:Nat):Int) from aL (by omega),show i64.wrap ((1:Int)+((x.kind % 8:Nat):Int))=(1:Int)+((x.kind % 8:Nat):Int) from aL (by omega),show i64.wrap ((1:Int)+((x.kind % 8:Nat):Int) - 2)=((x.kind % 8 - 1:Nat):Int) by rw [aL (by omega)];omega];refine st.set0 (w':=Fi.arr ⟨((x.kind % 8 - 1:Nat):Int),0,0,0,0,0,[],yJ g x⟩ pk m) (vp rfl) rfl λF2 st=> ?_;rw [D,wN H.a];refine st.set0 (w':=Fi.arr ⟨((x.kind % 8 - 1:Nat):Int),((x.a % g.qa0.length:Nat):Int),0,0,0,0,[],yJ g x⟩ pk m) (vp rfl) rfl λN st=> ?_;refine ⟨_,ld (st.le _ _ K.q3) rfl,?_⟩;dsimp only;rw [show tK (i64.wrap (x.c:Int)) (16:Int)=((x.c % 16:Nat):Int) from wN (b:=16) H.c];refine st.set0 (w':=Fi.arr ⟨((x.kind % 8 - 1:Nat):Int),((x.a % g.qa0.length:Nat):Int),((x.c % 16:Nat):Int),0,0,0,[],yJ g x⟩ pk m) (vp rfl) rfl λM st=> ?_;refine ⟨_,ld (st.le _ _ K.q3) rfl,_,st.ld2 rfl,by have:=H.p0;omega,?_⟩;rw [D,wN H.b];refine st.set0 (w':=Fi.arr ⟨((x.kind % 8 - 1:Nat):Int),((x.a % g.qa0.length:Nat):Int),((x.c % 16:Nat):Int),((x.b % g.qa0.length:Nat):Int),0,0,[],yJ g x⟩ pk m) (vp rfl) rfl λI st=> ?_;exact wW (y:=⟨((x.kind % 8 - 1:Nat):Int),((x.a % g.qa0.length:Nat):Int),((x.c % 16:Nat):Int),((x.b % g.qa0.length:Nat):Int),0,0,[],yJ g x⟩) K H.fl H.dl (by simp) (.nil _) K.m st
 ·have C:¬(x.kind % 8=2\/x.kind % 8=3):=λh=>by rw [A.2 h] at r;cases r
  rw [B];refine ⟨λE=>EC K H (by omega) ?_ st,λE=>EC K H (by omega) ?_ st⟩
  ·rw [δ];omega
  ·rw [δ];omega
theorem EE (K:RK F G b3 b5 g x c n t s p l f m) (H:RH g x) {q:Bool} (Y:q=nZ↔(x.kind % 8=0\/x.kind % 8=1))
  (st:St G F1 [pt b7 (mX ((f0 g x).arr pk m) 233),pt b4 (mX zG 39),pt b2 (mX (g.arr c n t s p l f) 39)]):
  xI b2 b3 b4 b5 (x.a:Int) p b7 (x.kind:Int) q (LR F (ruleG g x)) F1:=by
 have L:=K.gs.p.len;have e8:tK (x.kind:Int) 8=((x.kind % 8:Nat):Int):=iS x.kind 8;unfold xI;refine ⟨λJ=> ?_,λJ=> ?_⟩
 ·have V:=Y.1 J;have e:ruleG g x=nW g x:=by unfold ruleG;rw [Χ (by omega)]
  rw [e,L,wN H.a];refine ⟨_,rfl,st.whole2,?_⟩;refine st.runv (oR K.gv _ H.ll H.lp) λG2 F2 l2 st=> ?_;have K:=K.le l2;refine ⟨_,rfl,λR=> ?_,λR=> ?_⟩
  ·have B:((x.a % g.qa0.length:Nat):Int) ∉ g.lvs.flatMap Lv.ps:=by simpa using R
   refine st.new λr F3 st=> ?_;have st:=st.imp (A':=own (tX (mB (pd r 0 nC)) 1 1) 3 1 [vi ((x.a % g.qa0.length:Nat):Int)]) 0 rfl λH _ A=> .inr ⟨r,_,rfl,A,rfl,tI _,rfl,rfl⟩;refine ⟨_,ld (st.le _ _ K.q3) rfl,_,rfl,ai (st.le _ _ K.q5),rfl,?_⟩;rw [show tK (x.c:Int) (4:Int)=((x.c % 4:Nat):Int) from iS x.c 4,show i64.wrap ((x.c % 4:Nat):Int)=((x.c % 4:Nat):Int) from aL (by omega)];refine st.new λb8 F4 st=> ?_;refine st.put0 (w':=Lv.arr ⟨[((x.a % g.qa0.length:Nat):Int)],((x.c % 4:Nat):Int),yJ g x⟩ (tX (mB (pd r 0 nC)) 1 1) m) rfl rfl (by simp [ak,nV]) λF5 st=> ?_;refine ⟨_,ld (st.le _ _ K.q3) rfl,_,st.ld4 rfl,by have:=H.p0;omega,?_⟩;have Z:∀{G N:PH} {q6:Bool},RK F G b3 b5 g x c n t s p l f m->(q6=nZ↔(x.b % g.qa0.length≠x.a % g.qa0.length/\((x.b % g.qa0.length:Nat):Int) ∉ g.lvs.flatMap Lv.ps))->
     St G N [pt b8 (mX (Lv.arr ⟨[((x.a % g.qa0.length:Nat):Int)],((x.c % 4:Nat):Int),yJ g x⟩ (tX (mB (pd r 0 nC)) 1 1) m) 236),own (tX (mB (pd r 0 nC)) 1 1) 3 1 [vi ((x.a % g.qa0.length:Nat):Int)],pt b7 (mX ((f0 g x).arr pk m) 233),pt b4 (mX zG 39),pt b2 (mX (g.arr c n t s p l f) 39)]->
     xF b2 b4 b8 (x.b:Int) p q6 (LR F (nW g x)) N:=λ{G N q6} K C st=>by
    unfold xF;refine ⟨λI=> ?_,λI=> ?_⟩
    ·have D:nW g x={g with lvs:=g.lvs++[⟨[((x.a % g.qa0.length:Nat):Int),((x.b % g.qa0.length:Nat):Int)],((x.c % 4:Nat):Int),yJ g x⟩]}:=by unfold nW;rw [Υ B,Χ (C.1 I)]
     rw [D];refine ⟨_,st.ld0 rfl,?_⟩;rw [L,wN H.b];refine st.push1 tq (c:= #[vi ((x.b % g.qa0.length:Nat):Int)]) rfl (by simp [ak]) (by show 1<=400000000000;decide) λX G7 F7 l7 st a0=> ?_;refine st.set0 (w':=Lv.arr ⟨[((x.a % g.qa0.length:Nat):Int),((x.b % g.qa0.length:Nat):Int)],((x.c % 4:Nat):Int),yJ g x⟩ X m) (vp rfl) rfl λF8 st=> ?_;obtain ⟨O,P,⟨H9,M,A⟩,st⟩:=st.front1.pin;have w:RL O X [((x.a % g.qa0.length:Nat):Int),((x.b % g.qa0.length:Nat):Int)]:=RL.ints.2 ((bO.rd M).le A);have K:=K.le (aa l7 P);have st:=st.front1.tail;exact EB (y:=⟨[((x.a % g.qa0.length:Nat):Int),((x.b % g.qa0.length:Nat):Int)],((x.c % 4:Nat):Int),yJ g x⟩) K H.ll w K.m st
    ·have Q:¬(x.b % g.qa0.length≠x.a % g.qa0.length/\((x.b % g.qa0.length:Nat):Int) ∉ g.lvs.flatMap Lv.ps):=λh=>by rw [C.2 h] at I;cases I
     have D:nW g x={g with lvs:=g.lvs++[⟨[((x.a % g.qa0.length:Nat):Int)],((x.c % 4:Nat):Int),yJ g x⟩]}:=by unfold nW;rw [Υ B,Υ Q]
     rw [D];obtain ⟨O,P,⟨H9,M,A⟩,st⟩:=st.front1.pin;have w:RL O (tX (mB (pd r 0 nC)) 1 1) [((x.a % g.qa0.length:Nat):Int)]:=RL.ints.2 ((bO.rd M).le A);have K:=K.le P;have st:=st.front1.tail;exact EB (y:=⟨[((x.a % g.qa0.length:Nat):Int)],((x.c % 4:Nat):Int),yJ g x⟩) K H.ll w K.m st
   rw [L,wN H.b];refine ⟨λU=>⟨_,rfl,st.whole4,?_⟩,λE=>Z K ?_ st⟩
   ·refine st.runv (oR K.gv _ H.ll H.lp) λG6 F6 l6 st=> ?_;refine ⟨_,rfl,Z (K.le l6) ?_ st⟩;simp only [Bool.not_eq_true',decide_eq_false_iff_not];exact ⟨λh=>⟨λe=>U (by rw [e]),h⟩,λh=>h.2⟩
   ·have E:x.b % g.qa0.length=x.a % g.qa0.length:=by omega
    exact ⟨λh=>(by cases h),λh=>absurd E h.1⟩
  ·have D:nW g x=g:=by unfold nW;rw [Χ (by simpa using R)]
   rw [D];unfold oo;exact jl K.lF K.gv st.tail
 ·have W:¬(x.kind % 8=0\/x.kind % 8=1):=λh=>by rw [Y.2 h] at J;cases J
  rw [e8];refine ⟨λh4=>ED K H (by omega) ?_ st,λh4=>ED K H (by omega) ?_ st⟩
  ·rw [δ];omega
  ·rw [δ];omega
end
theorem B8 {F:PH} {w v:Γ} {g:Gr} {x:Ru} (L:GV F w g) (D:Mem.rep F x v) (H:RH g x) (Z:g.qa4.length<=6):
  ν 95 #[oc w,oc v] F (LR F (ruleG g x)):=by
 obtain ⟨c,n,t,s,p,l,f,rfl,A⟩:=L;obtain ⟨rfl,R,X,O,N,B⟩:=D;have G:=A.c.len;have ep:=A.p.len;refine aas ?_;unfold Yf;refine (St.start F).new λb2 F1 st=> ?_;refine st.newG λV G1 F2 W q3 _ st=> ?_;refine st.new λb4 F3 st=> ?_;refine ⟨_,ld (st.le _ _ q3) rfl,_,st.ld1 rfl,?_⟩;dsimp only;rw [G];refine st.run (zj x.cond g.qa4.length B Z _) λ_ G2 F4 U E st=> ?_;obtain ⟨⟨_,rfl,Y⟩,-⟩:=U;obtain ⟨m,rfl,I⟩:=Y.out;refine ⟨_,rfl,?_⟩;refine st.var (w:= #[m.v,vi (yJ g x).2]) (by simp [ak,nV]) (λP Q F5 C q5 st=> ?_) rfl rfl;have h:=aa E C;have r:=aa W h;have K:RK F Q V P g x c n t s p l f m:=⟨r,h _ _ q3,q5,A.le r,I.le C⟩;refine ⟨_,ld (st.le _ _ K.q3) rfl,_,st.ld1 rfl,by have:=H.p0;omega,_,rfl,ai (st.le _ _ K.q5),rfl,?_⟩;refine st.new λb7 F6 st=> ?_;refine st.put0 (w':=(f0 g x).arr pk m) rfl rfl (by simp [ak,nV]) λF7 st=> ?_;have M:tK (x.kind:Int) 8=((x.kind % 8:Nat):Int):=iS x.kind 8;refine ⟨_,ld (st.le _ _ K.q3) rfl,?_⟩;dsimp only;rw [M];refine ⟨λJ=>EE K H ?_ st,λJ=>EE K H ?_ st⟩
 ·rw [δ];omega
 ·rw [δ];omega
theorem wX (l:Φ) {n:Nat} (g:n<=6):∀(m v k:Nat),v+m=n->Sx n (iU l m v k)
 |0,v,k,_=>Sx.qa6 n _
 |m+1,v,k,h=>by unfold iU;have r:Sx n (tv v):=Sx.tv (by omega) g;exact (r.ap2 (wX l g m (v+1) _ (by omega))).ap2 ((wX l g m (v+1) k (by omega)).ap2 (r.ap2 (Sx.qa6 n nZ)))
theorem mN {b n:Nat} (g:n<=6):Sx n (jj b n):=by
 unfold jj;split
 ·exact Sx.qa6 n nZ
 ·rename_i h;have r:b / 6 % n<n:=VU _ (by omega);split
  ·exact Sx.tv r g
  ·split
   ·exact (Sx.tv r g).ap2 (Sx.qa6 n nZ)
   ·exact wX _ g n 0 0 (by omega)
theorem Sx.brl {n:Nat} {t:Tr} (h:Sx n t) (g:n<=6):(ph t).1.length<=63:=by have:(ph t).1.length=(aV t).length:=aP _;rw [this];exact h.len g
structure Rw where
 qa5:Nat
 n:Nat
 fam:Δ
 lines:List Ln
 rules:List Ru
structure Gp (F:PH) (v:Γ) (x:Rw):Prop where
 ex:∃sf sl sr:Sl,v= #[vB x.qa5,vB x.n,sf.v,sl.v,sr.v]/\RdS F sf 1 (x.fam.map vB)/\RL F sl x.lines/\RL F sr x.rules
 b:x.qa5<256
 n:x.n<256
theorem Gp.le {F G:PH} {v:Γ} {x:Rw} (h:Gp F v x) (g:F.le G):Gp G v x:=by obtain ⟨⟨B,E,D,I,C,H,r⟩,w,A⟩:=h;exact ⟨⟨B,E,D,I,C.le g,H.le g,r.le g⟩,w,A⟩
def bF (x:Rw):Bool:=decide (x.qa5 % 8<6)
def fu (x:Rw):List ο:=([⟨#[83]⟩,⟨#[80]⟩,⟨#[81]⟩]:List ο).take (1+x.n / 4 % 3)
def jm (x:Rw):List ο:=([⟨#[65]⟩,⟨#[66]⟩,⟨#[67]⟩]:List ο).take (x.n % 4)
def cX (x:Rw):Gr:=if bF x=nZ then cv (x.qa5 % 8) else {eB (fu x) with qa4:=jm x,qa0:=[bA ⟨#[102,105,114,115,116]⟩ 0 [⟨nZ,0⟩]]}
def zn (x:Rw) (n:Nat):Tr:=iU (x.fam.map λk:Nat=>(k:Int)) n 0 0
def famG (x:Rw) (g:Gr):Gr:=if x.fam≠[]/\(ph (zn x g.qa4.length)).2≠0 then {g with fam:=ph (zn x g.qa4.length)} else g
def cN (x:Rw):Nat:=if bF x=nZ then 6 else 10
def du (x:Rw) (l:List Ln) (g:Gr):Gr:=l.foldl (λg y=>lineG g y (bF x)) g
def dP (l:List Ru) (g:Gr):Gr:=l.foldl ruleG g
def aT (x:Rw):Gr:=dP (x.rules.take 6) (du x (x.lines.take (cN x)) (famG x (cX x)))
structure Bd (g:Gr) (np nl:Nat):Prop where
 c:g.qa4.length<=3
 n0:g.qa1.length≠0
 n:g.qa1.length<=3
 p0:g.qa0.length≠0
 p:g.qa0.length<=np
 t:g.qa2.length=11
 l:g.lvs.length<=nl
 lp:∀y∈g.lvs,y.ps.length<=2
 f:g.fils.length<=nl
theorem Ko {k:Nat} (r:k<6):Bd (cv k) 8 4:=by
  have h:k=0\/k=1\/k=2\/k=3\/k=4\/k=5:=by omega
  rcases h with rfl|rfl|rfl|rfl|rfl|rfl
  all_goals
    refine ⟨by decide,by decide,by decide,by decide,by decide,rfl,by decide,λy g=> ?_,by decide⟩;first
      |(have:=g;cases this;done)
      | (rcases tQ.1 g with rfl|g
         · decide
         rcases tQ.1 g with rfl|g
         · decide
         rcases tQ.1 g with rfl|g
         · decide
         cases g)
theorem sK (x:Rw):Bd (cX x) 8 4:=by
 unfold cX;split
 ·rename_i h;exact Ko (ζ h)
 ·have w:(fu x).length=1+x.n / 4 % 3:=by unfold fu;rw [PM];simp;omega
  have g:(jm x).length<=3:=by unfold jm;rw [PM];simp;omega
  exact ⟨g,by show (fu x).length≠0;omega,by show (fu x).length<=3;omega,by show (1:Nat)≠0;decide,by show 1<=8;decide,rfl,by show 0<=4;decide,λy r=>(by cases r),by show 0<=4;decide⟩
theorem Kp {x:Rw} {g:Gr} {a b:Nat} (h:Bd g a b):Bd (famG x g) a b:=by
 unfold famG;split
 ·exact ⟨h.c,h.n0,h.n,h.p0,h.p,h.t,h.l,h.lp,h.f⟩
 ·exact h
theorem EF {g:Gr} {a b:Nat} (h:Bd g a b) (y:Ln) (r:Bool):Bd (lineG g y r) (a+1) b:=by
 have w:=h.p;unfold lineG;split
 ·exact ⟨h.c,h.n0,h.n,h.p0,by omega,h.t,h.l,h.lp,h.f⟩
 ·exact ⟨h.c,h.n0,h.n,by show (g.qa0++_).length≠0;rw [tT];have:=h.p0;omega,by show (g.qa0++[_]).length<=_;rw [tT,Vc];omega,h.t,h.l,h.lp,h.f⟩
theorem B9 {g:Gr} {a b:Nat} (h:Bd g a b) (y:Fi):Bd (kg g y) a (b+1):=by
 have r:=h.f;have w:=h.l;unfold kg;split
 ·exact ⟨h.c,h.n0,h.n,h.p0,h.p,h.t,by show g.lvs.length<=_;omega,h.lp,by show (g.fils++[_]).length<=_;rw [tT,Vc];omega⟩
 ·exact ⟨h.c,h.n0,h.n,h.p0,h.p,h.t,by omega,h.lp,by omega⟩
theorem EG {g:Gr} {a b:Nat} (h:Bd g a b) (y:Ru):Bd (ruleG g y) a (b+1):=by
 have w:=h.f;have A:=h.l;unfold ruleG;split
 ·unfold nW;split
  ·exact ⟨h.c,h.n0,h.n,h.p0,h.p,h.t,by omega,h.lp,by omega⟩
  ·refine ⟨h.c,h.n0,h.n,h.p0,h.p,h.t,by show (g.lvs++[_]).length<=_;rw [tT,Vc];omega,λz r=> ?_,by show g.fils.length<=_;omega⟩;rcases vl.1 r with r|r
   ·exact h.lp z r
   ·rw [wa.1 r];simp only [wo];split<;>simp
 ·split
  ·exact B9 h _
  ·split
   ·exact B9 h _
   ·split
    ·exact B9 h _
    ·unfold tokG;exact ⟨h.c,h.n0,h.n,h.p0,h.p,by show (g.qa2.modify _ _).length=11;rw [List.length_modify];exact h.t,by show g.lvs.length<=_;omega,h.lp,by show g.fils.length<=_;omega⟩
theorem sL {x:Rw}:∀(l:List Ln) {g:Gr} {a b:Nat},Bd g a b->Bd (du x l g) (a+l.length) b
 |[],g,a,b,h=>h
 |y::l,g,a,b,h=>by have:=sL (x:=x) l (EF h y (bF x));rw [wo,show a+(l.length+1)=a+1+l.length by omega];exact this
theorem sM:∀(l:List Ru) {g:Gr} {a b:Nat},Bd g a b->Bd (dP l g) a (b+l.length)
 |[],g,a,b,h=>h
 |y::l,g,a,b,h=>by have:=sM l (EG h y);rw [wo,show b+(l.length+1)=b+1+l.length by omega];exact this
theorem Bd.rh {g:Gr} {a b:Nat} (h:Bd g a b) (I:a<=1000) (M:b<=1000) {F:PH} {y:Ru} {v:Γ} (G:Mem.rep F y v):RH g y:=by obtain ⟨-,E,A,C,r,H⟩:=G;have K:=h.c;have L:=h.n;have J:=h.p;have N:=h.t;have w:=h.l;have D:=h.f;exact ⟨E,A,C,r,by omega,h.p0,by omega,h.n0,by omega,by omega,by omega,λz B=>by have:=h.lp z B;omega,by omega,by have:=(mN (b:=y.cond) (n:=g.qa4.length) (by omega)).brl (by omega);show (ph (jj y.cond g.qa4.length)).1.length<=_;omega⟩
section
variable {F G F1:PH} {b1 b2 b4:Nat} {x:Rw} {g:Gr} {w:Γ} {sf sl sr:Sl}
structure WK (F G:PH) (b1:Nat) (x:Rw) (sf sl sr:Sl):Prop where
 lF:F.le G
 q1:G b1=mB (mX #[vB x.qa5,vB x.n,sf.v,sl.v,sr.v] 26)
 rf:RdS G sf 1 (x.fam.map vB)
 rl:RL G sl x.lines
 rr:RL G sr x.rules
theorem WK.le {A:PH} (h:WK F G b1 x sf sl sr) (r:G.le A):WK F A b1 x sf sl sr:=⟨aa h.lF r,r _ _ h.q1,h.rf.le r,h.rl.le r,h.rr.le r⟩
theorem Ny (K:WK F G b1 x sf sl sr) (r:GV G w g) (st:St G F1 [pt b4 (mX w 39),pt b2 (mX zG 39)]):tw b2 b4 (LR F g) F1:=by unfold tw;refine ⟨_,r.size,st.whole0,?_⟩;refine st.put1 (w':=w) r.size rfl r.st λA h=> ?_;exact ⟨_,r.size,h.whole1,⟨_,rfl,r.le h.le⟩,aa K.lF h.le⟩
theorem qii (l:List Ln) (y:Ln):du x (l++[y]) g=lineG (du x l g) y (bF x):=by simp [du]
theorem qij (l:List Ru) (y:Ru):dP (l++[y]) g=ruleG (dP l g) y:=by simp [dP]
theorem Nz {a:Nat} (K:WK F G b1 x sf sl sr) (B:GV G w g) (V:Bd g a 4) (Z:a<=100) (st:St G F1 [pt b4 (mX w 39),pt b2 (mX zG 39)]):
  tA b1 b2 b4 (LR F (dP (x.rules.take 6) g)) F1:=by
 have er:=K.rr.len;unfold tA;refine bC (CB · b1 b2 b4 _) (min 6 x.rules.length) (λk H=>∃D w,WK F D b1 x sf sl sr/\GV D w (dP (x.rules.take k) g)/\St D H [pt b4 (mX w 39),pt b2 (mX zG 39)]) ⟨G,w,K,B,st⟩ ?_;rintro k H N hk ⟨D,w,K,B,st⟩ next;unfold CB;have h:k=min 6 x.rules.length->tw b2 b4 (LR F (dP (x.rules.take 6) g)) H:=λe=>by
  have W:x.rules.take k=x.rules.take 6:=by
   rw [e];by_cases P:6<=x.rules.length
   ·rw [YY P]
   ·rw [Nat.min_eq_right (by omega),wV,yY (by omega)]
  rw [<- W];exact Ny K B st
 refine ⟨_,ld (st.le _ _ K.q1) rfl,λU=>⟨λQ=> ?_,λQ=>h (by omega)⟩,λU=>h (by omega)⟩;have J:k<x.rules.length:=by omega
 have E:=N5 J;generalize x.rules[k]=y at E;obtain ⟨ad,R,L,C,I⟩:=K.rr.get (by decide) E;have A:=sM (x.rules.take k) V;rw [PM] at A;refine ⟨_,B.size,st.whole0,_,ld (st.le _ _ K.q1) rfl,_,L,by omega,by omega,R,Mem.len I,by rw [N4];exact aO st.le C,?_⟩;refine st.run (B8 B I (A.rh (by omega) (by omega) I) (by have:=A.c;omega)) λ_ Y F2 X O st=> ?_;obtain ⟨M,rfl,r⟩:=X;have K:=K.le O;refine ⟨_,rfl,ld (st.le _ _ K.q1) rfl,?_⟩;refine st.put0 (w':=M) r.size B.size r.st λF3 st=> ?_;rw [aD (n:=min 6 x.rules.length) (by omega) (by omega)];refine next _ (by omega) ⟨Y,M,K,?_,st⟩;rw [bD E,qij];exact r
theorem EH (K:WK F G b1 x sf sl sr) (B:GV G w g) (V:Bd g 8 4) (st:St G F1 [pt b4 (mX w 39),pt b2 (mX zG 39)]):
  xB b1 b2 (x.qa5:Int) b4 ((cN x:Nat):Int) (LR F (dP (x.rules.take 6) (du x (x.lines.take (cN x)) g))) F1:=by
 have el:=K.rl.len;have hm:cN x<=10:=by unfold cN;split<;>decide
 unfold xB;refine bC (CC · b1 b2 (x.qa5:Int) b4 ((cN x:Nat):Int) _) (min (cN x) x.lines.length) (λk H=>∃D w,WK F D b1 x sf sl sr/\GV D w (du x (x.lines.take k) g)/\St D H [pt b4 (mX w 39),pt b2 (mX zG 39)]) ⟨G,w,K,B,st⟩ ?_;rintro k H N hk ⟨D,w,K,B,st⟩ next;unfold CC;have h:=sL (x:=x) (x.lines.take k) V;rw [PM] at h;have r:k=min (cN x) x.lines.length->tA b1 b2 b4 (LR F (dP (x.rules.take 6) (du x (x.lines.take (cN x)) g))) H:=λe=>by
  have W:x.lines.take k=x.lines.take (cN x):=by
   rw [e];by_cases P:cN x<=x.lines.length
   ·rw [YY P]
   ·rw [Nat.min_eq_right (by omega),wV,yY (by omega)]
  rw [<- W];exact Nz K B h (by omega) st
 refine ⟨_,ld (st.le _ _ K.q1) rfl,λU=>⟨λQ=> ?_,λQ=>r (by omega)⟩,λU=>r (by omega)⟩;have I:k<x.lines.length:=by omega
 have E:=N5 I;generalize x.lines[k]=y at E;obtain ⟨ad,R,J,C,M⟩:=K.rl.get (by decide) E;refine ⟨_,B.size,st.whole0,_,ld (st.le _ _ K.q1) rfl,_,J,by omega,by omega,R,Mem.len M,by rw [N4];exact aO st.le C,?_⟩;have Z:decide (tK (x.qa5:Int) (8:Int)<6)=bF x:=by unfold bF;rw [show tK (x.qa5:Int) (8:Int)=((x.qa5 % 8:Nat):Int) from iS x.qa5 8];exact decide_eq_decide.2 (by omega)
 rw [Z];refine st.run (Gk (cv:=bF x) B M (by have:=h.c;omega) (by have:=h.p;omega) h.n0 (by have:=h.n;omega)) λ_ Y F2 X O st=> ?_;obtain ⟨L,rfl,A⟩:=X;have K:=K.le O;refine ⟨_,rfl,ld (st.le _ _ K.q1) rfl,?_⟩;refine st.put0 (w':=L) A.size B.size A.st λF3 st=> ?_;rw [aD (n:=min (cN x) x.lines.length) (by omega) (by omega)];refine next _ (by omega) ⟨Y,L,K,?_,st⟩;rw [bD E,qii];exact A
theorem EI (K:WK F G b1 x sf sl sr) (O:GV G w g) (J:Bd g 8 4) (st:St G F1 [pt b4 (mX w 39),pt b2 (mX zG 39)]):
  xC b1 b2 (x.qa5:Int) b4 ((cN x:Nat):Int) (LR F (dP (x.rules.take 6) (du x (x.lines.take (cN x)) (famG x g)))) F1:=by
 have L:=O;obtain ⟨c,n,t,s,p,l,f,rfl,B⟩:=O;have R:=B.c.len;have E:=K.rf.len;rw [vb,xZ] at E;have hn:g.qa4.length<=6:=by have:=J.c;omega
 unfold xC;refine ⟨_,ld (st.le _ _ K.q1) rfl,_,st.ld0 rfl,?_⟩;dsimp only;rw [R];have H:RdS G sf 1 ((x.fam.map λk:Nat=>(k:Int)).map (tJ .u8)):=by rw [List.map_map];exact K.rf
 refine st.run (P:=λr G=>CE (ph (zn x g.qa4.length)) r G) ((oD hn H).mono λr F' ⟨u,t,I,⟨C,U⟩,X,Q⟩=>⟨⟨u,I,by subst U;exact X⟩,Q⟩) λ_ G2 F2 Z N st=> ?_;obtain ⟨_,rfl,hw⟩:=Z;obtain ⟨m,rfl,V⟩:=hw.out;have K:=K.le N;refine ⟨_,rfl,?_⟩;refine st.var (w:= #[m.v,vi (ph (zn x g.qa4.length)).2]) (by simp [ak,nV]) (λW G3 Y M q6 st=> ?_) rfl rfl;have K:=K.le M;have A:=aa N M;have no:famG x g=g->tB b1 b2 (x.qa5:Int) b4 ((cN x:Nat):Int) W nS (LR F (dP (x.rules.take 6) (du x (x.lines.take (cN x)) (famG x g)))) Y:=λe=>by rw [e];unfold tB;exact ⟨λh=>(by cases h),λ_=>EH K (L.le A) J st⟩
 refine ⟨_,ld (st.le _ _ K.q1) rfl,λI=>⟨_,ld (st.le _ _ q6) rfl,?_⟩,λI=>no ?_⟩
 ·by_cases C:(ph (zn x g.qa4.length)).2≠0
  ·dsimp only;rw [decide_eq_true C];have e:famG x g={g with fam:=ph (zn x g.qa4.length)}:=by unfold famG;rw [if_pos ⟨λe=>by rw [e] at E;simp at E;omega,C⟩]
   have D:=Kp (x:=x) J;rw [e] at D ⊢;unfold tB;refine ⟨λ_=>⟨_,rfl,ai (st.le _ _ q6),?_⟩,λh=>(by cases h)⟩;refine st.putR0 (o:=1) (w':=Gr.arr {g with fam:=ph (zn x g.qa4.length)} c m t s p l f) rfl (by simp [ak,nV]) (by show 1+2<=9;decide) rfl λF4 st=> ?_;exact EH K ⟨c,m,t,s,p,l,f,rfl,B.c.le A,V.le M,B.t.le A,B.s.le A,B.p.le A,B.l.le A,B.f.le A⟩ D st
  ·dsimp only;rw [decide_eq_false C];exact no (by unfold famG;rw [if_neg (λh=>C h.2)])
 ·unfold famG;rw [Υ];rintro ⟨h,_⟩;exact h (VT (by omega))
theorem qik {v:Γ} (hx:Gp F v x):ν 64 #[oc v] F (LR F (aT x)):=by
 obtain ⟨⟨sf,sl,sr,rfl,h1,h2,h3⟩,a0,hn⟩:=hx;refine aao ?_;unfold Yb;refine (St.start F).newG λb1 G1 F1 U q1 _ st=> ?_;have K:WK F G1 b1 x sf sl sr:=⟨U,q1,h1.le U,h2.le U,h3.le U⟩;clear q1;refine st.new λb2 F2 st=> ?_;have e8:tK (x.qa5:Int) (8:Int)=((x.qa5 % 8:Nat):Int):=iS x.qa5 8;refine ⟨_,ld (st.le _ _ K.q1) rfl,_,ld (st.le _ _ K.q1) rfl,?_⟩;rw [e8];refine st.run (B5 (x.qa5 % 8) _) λ_ G2 F3 Q l2 st=> ?_;obtain ⟨w,rfl,R⟩:=Q;have K:=K.le l2;refine ⟨_,rfl,?_⟩;refine st.new λb4 F4 st=> ?_;refine st.put0 (w':=w) R.size rfl R.st λF5 st=> ?_;have B:=sK x;unfold aT;refine ⟨λhk=> ?_,λhk=> ?_⟩
 ·have h:bF x=nS:=by unfold bF;exact η (by omega)
  have e:cX x={eB (fu x) with qa4:=jm x,qa0:=[bA ⟨#[102,105,114,115,116]⟩ 0 [⟨nZ,0⟩]]}:=by unfold cX;rw [h,Υ (by decide)]
  rw [e] at B ⊢;have Z:cN x=10:=by unfold cN;rw [h,Υ (by decide)]
  refine st.newG λC G3 F6 l3 V _ st=> ?_;have K:=K.le l3;have ei:i64.wrap ((1:Int)+(tK (i64.wrap (u8.wrap (Int.tdiv (x.n:Int) (4:Int)))) (3:Int)))=((1+x.n / 4 % 3:Nat):Int):=by rw [Ze (by omega),show (x.n:Int) / 4=((x.n / 4:Nat):Int) by omega,EA (by omega),show tK (i64.wrap ((x.n / 4:Nat):Int)) (3:Int)=((x.n / 4 % 3:Nat):Int) from wN (b:=3) (by omega),aL (by omega)];omega
  have ej:i64.wrap (tK (x.n:Int) (4:Int))=((x.n % 4:Nat):Int):=by rw [show tK (x.n:Int) (4:Int)=((x.n % 4:Nat):Int) from iS x.n 4,aL (by omega)]
  refine ⟨_,ld (st.le _ _ K.q1) rfl,?_⟩;dsimp only;rw [ei,N4];refine ⟨by omega,by omega,by show _<=3;omega,?_⟩;have O:RdS G3 (tX (mB (pd C 0 nC)) 3 3) 1 (([⟨#[83]⟩,⟨#[80]⟩,⟨#[81]⟩]:List ο).map pg):=RdS.new V rfl rfl (tI _);have P:RL G3 (xy (tX (mB (pd C 0 nC)) 3 3) 1 0 (1+x.n / 4 % 3) 3) (fu x):=by refine RL.strs.2 ?_;have:=O.cut (l:=0) (r:=1+x.n / 4 % 3) (m:=3) (by omega) (by show _<=3;omega) (by omega);rw [V9,Vz,xZ,VV,<- List.map_take] at this;exact this
  refine st.run (uP P) λ_ G4 F7 Q l4 st=> ?_;obtain ⟨c,n,t,rfl,k1,k2,k3,k4⟩:=Q;have K:=K.le l4;refine ⟨_,rfl,?_⟩;refine st.put0 (w':=(eB (fu x)).arr c n t (xy (tX (mB (pd C 0 nC)) 3 3) 1 0 (1+x.n / 4 % 3) 3) pk pk pk) rfl R.size (by simp [ak,nV]) λF8 st=> ?_;refine st.newG λE G5 F9 l5 a3 _ st=> ?_;have K:=K.le l5;refine ⟨_,ld (st.le _ _ K.q1) rfl,?_⟩;dsimp only;rw [ej,N4];refine ⟨by omega,by omega,by show _<=3;omega,?_⟩;have M:RdS G5 (tX (mB (pd E 0 nC)) 3 3) 1 (([⟨#[65]⟩,⟨#[66]⟩,⟨#[67]⟩]:List ο).map pg):=RdS.new a3 rfl rfl (tI _);have L:RL G5 (xy (tX (mB (pd E 0 nC)) 3 3) 1 0 (x.n % 4) 3) (jm x):=by refine RL.strs.2 ?_;have:=M.cut (l:=0) (r:=x.n % 4) (m:=3) (by omega) (by show _<=3;omega) (by omega);rw [V9,Vz,xZ,VV,<- List.map_take] at this;exact this
  generalize xy (tX (mB (pd C 0 nC)) 3 3) 1 0 (1+x.n / 4 % 3) 3=s at*;generalize xy (tX (mB (pd E 0 nC)) 3 3) 1 0 (x.n % 4) 3=W at*;refine st.set0 (w':=Gr.arr {eB (fu x) with qa4:=jm x} W n t s pk pk pk) (vp rfl) rfl λa6 st=> ?_;refine ⟨pk,st.ld0 rfl,?_⟩;refine st.runv (CD 0 _) λG6 a5 l6 st=> ?_;refine ⟨_,rfl,st.ld0 rfl,rfl,?_⟩;refine st.newG λX G7 a4 l7 a2 _ st=> ?_;have a1:RL G7 (tX (mB (pd X 0 nC)) 1 1) [(⟨nZ,0⟩:Sy)]:=⟨[_],.cons rfl .nil,RdS.new a2 rfl rfl (tI _)⟩;refine st.run (uW ⟨#[102,105,114,115,116]⟩ 0 a1) λ_ G8 a7 Q l8 st=> ?_;obtain ⟨w2,rfl,A⟩:=Q;refine ⟨_,rfl,st.ld0 rfl,Mem.len A,?_⟩;obtain ⟨_,_,T⟩:=Tm;refine (st.nilOwn 64 13).push0 T (c:=w2) (Mem.len A) (Mem.st A) (by decide) λs' G9 b0 l9 st a9=> ?_;obtain ⟨J,N,⟨H,hA,hH⟩,st⟩:=st.pin;have Y:RL J s' [bA ⟨#[102,105,114,115,116]⟩ 0 [(⟨nZ,0⟩:Sy)]]:=⟨[w2],.cons (Mem.le (aa l9 N) A) .nil,by rw [cG];exact (bO.rd hA).le hH⟩;refine st.set0 (w':=Gr.arr {eB (fu x) with qa4:=jm x,qa0:=[bA ⟨#[102,105,114,115,116]⟩ 0 [⟨nZ,0⟩]]} W n t s s' pk pk) (vp rfl) rfl λa8 st=> ?_;have I:G5.le J:=aa l6 (aa l7 (aa l8 (aa l9 N)));have D:=aa l5 I;have:=EI (K.le I) (g:={eB (fu x) with qa4:=jm x,qa0:=[bA ⟨#[102,105,114,115,116]⟩ 0 [⟨nZ,0⟩]]}) ⟨W,n,t,s,s',pk,pk,rfl,L.le I,k2.le D,k3.le D,k4.le D,Y,.nil _,.nil _⟩ B st;rw [Z] at this ⊢;exact this
 ·have h:bF x=nZ:=by unfold bF;exact ε (by omega)
  have e:cX x=cv (x.qa5 % 8):=by unfold cX;rw [h,Χ rfl]
  rw [e] at B ⊢;have Z:cN x=6:=by unfold cN;rw [h,Χ rfl]
  have h6:x.qa5 % 8 % 6=x.qa5 % 8:=Nat.mod_eq_of_lt (by omega);rw [h6] at R;have:=EI K R B st;rw [Z] at this ⊢;exact this
end
theorem nX {n:Nat}:∀(t:Tr) (S:List Tr),(∀x∈S,∃v l h,x=qa7 v l h/\v<n)->dS n t->∀x∈tV t S,∃v l h,x=qa7 v l h/\v<n
 |qa6 _,S,hS,_=>hS
 |qa7 v l h,S,hS,⟨h1,h2,h3⟩=>by
  unfold tV;split
  ·exact hS
  ·intro x g;rcases vl.1 g with g|g
   ·exact nX h _ (nX l S hS h2) h3 x g
   ·rw [wa.1 g];exact ⟨v,l,h,rfl,h1⟩
theorem Sx.fit {n:Nat} {t:Tr} (h:Sx n t) (A:n<=6):iL (ph t) n:=by refine ⟨Dt h.1 (by have:=h.len A;omega),λb w=> ?_⟩;obtain ⟨x,g,rfl⟩:=xR.1 (show b∈(aV t).map (br (aV t)) from w);obtain ⟨v,l,r,rfl,B⟩:=nX t [] (λx g=>(by cases g)) h.2 x g;show (v:Int)<n;omega
theorem Kq {t:Tr} (h:(ph t).2=0):t=qa6 nS:=by
 cases t with
 |qa6 b=>cases b with
  |false=>rfl
  |true=>cases h
 |qa7 v l r=>have:((num (aV (qa7 v l r)) (qa7 v l r):Nat):Int)=0:=h;simp only [num] at this;omega
def SxD (n:Nat) (d:wc):Prop:=∃t,Sx n t/\d=ph t
theorem SxD.fit {n:Nat} {d:wc} (h:SxD n d) (g:n<=6):iL d n:=by obtain ⟨t,h,rfl⟩:=h;exact h.fit g
theorem aZ (n:Nat):SxD n dF:=⟨_,Sx.qa6 n nZ,rfl⟩
instance (i:Nat) (x:Nd):Decidable (y5 i x):=by unfold y5;infer_instance
theorem wY {l:List Nd} (A:l≠[]) (r:∀i:Fin l.length,y5 i.1 (l[i.1]'i.2)) (w:(xz l).Nodup) (g:∀i:Fin (l.length - 1),(i.1:Int)∈xz l):GoodL l:=
 ⟨A,λi x h=>by obtain ⟨hi,rfl⟩:=N6.1 h;exact r ⟨i,hi⟩,w,λi hi=>g ⟨i,by omega⟩⟩
theorem wZ {l:List Nd} (h:GoodL l) (g:l.length<=512):fD l=0:=by unfold fD;rw [Υ (by omega),Χ h]
theorem EJ:GoodL mJ.pat:=wY (by decide) (by decide) (by decide) (by decide)
theorem Cb:GoodL jQ.pat:=wY (by decide) (by decide) (by decide) (by decide)
theorem qil:GoodL gN.pat:=wY (by decide) (by decide) (by decide) (by decide)
theorem NA:W6 mJ.pat (bs mJ.smp):=by
 obtain ⟨I,h⟩:=io EJ;unfold W6;generalize bN mJ.pat=t at h;have w:mJ.pat[mJ.pat.length - 1]? =mB ⟨2,0,0,0,2⟩:=rfl;have A:mJ.pat[0]? =mB ⟨1,97,122,0,0⟩:=rfl;have B:mJ.pat[2]? =mB ⟨4,0,0,1,0⟩:=rfl;cases h with
 |emp g r=>rw [w] at g;cases g;cases r
 |rng g r=>rw [w] at g;cases g;cases r
 |alt g r=>rw [w] at g;cases g;cases r
 |rep g r=>rw [w] at g;cases g;cases r
 | @seq _ a b x t u J nb g r E F H G=>
  rw [w] at g;cases g;obtain rfl:a=0:=by have:(0:Int)=a:=E;omega
  obtain rfl:b=2:=by have:(2:Int)=b:=F;omega
  refine ⟨[120],[],rfl,?_,?_⟩
  ·cases H with
   |emp g r=>rw [A] at g;cases g;cases r
   |seq g r=>rw [A] at g;cases g;cases r
   |alt g r=>rw [A] at g;cases g;cases r
   |rep g r=>rw [A] at g;cases g;cases r
   | @rng _ lo hi x g r D C _ _=>
    rw [A] at g;cases g;refine ⟨120,rfl,?_,?_⟩
    ·have:(97:Int)=lo:=D;omega
    ·have:(122:Int)=hi:=C;omega
  ·cases G with
   |emp g r=>rw [B] at g;cases g;cases r
   |seq g r=>rw [B] at g;cases g;cases r
   |alt g r=>rw [B] at g;cases g;cases r
   |rng g r=>rw [B] at g;cases g;cases r
   |rep g r E h=>exact .nil
abbrev sN (t:Tk):Tk:={t with cond:=dF}
def Xl (done:List ο) (t:Tk):Prop:=t.name≠emp/\t.name ∉ done/\0<=t.cls/\t.cls<=2/\(t.lit≠emp->t.smp=emp/\t.pat=[])/\(t.lit=emp->fD t.pat=0/\(t.cls=0->t.smp≠emp/\W6 t.pat (bs t.smp))/\(t.cls≠0->t.smp=emp))
def Kr (done:List ο):List Tk->Prop
 |[]=>True
 |t::r=>Xl done t/\Kr (done++[t.name]) r
theorem zt {n:Nat}:∀(l:List Tk) (g:List ο),Kr g (l.map sN)->(∀t∈l,iL t.cond n)->fX n g l
 |[],_,_,_=>trivial
 |t::l,g,⟨⟨h1,h2,h3,h4,h5,h6⟩,h⟩,hf=>⟨⟨h1,h2,h3,h4,hf t (by simp),h5,h6⟩,zt l _ h λx r=>hf x (by simp [r])⟩
theorem jo {g:List ο} {x:ο} (r:x≠emp) (w:x ∉ g):Xl g (YZ x):=⟨r,w,Vr 0,by show (0:Int)<=2;decide,λ_=>⟨rfl,rfl⟩,λh=>absurd h r⟩
theorem Kt:Kr [] fi:=by
 refine ⟨⟨by decide,by decide,by decide,by decide,λh=>absurd rfl h,λ_=>⟨wZ EJ (by decide),λ_=>⟨by decide,NA⟩,λh=>absurd rfl h⟩⟩,jo (by decide) (by decide),jo (by decide) (by decide),jo (by decide) (by decide),jo (by decide) (by decide),jo (by decide) (by decide),jo (by decide) (by decide),jo (by decide) (by decide),jo (by decide) (by decide),?_,?_,trivial⟩
 ·exact ⟨by decide,by decide,by decide,by decide,λh=>absurd rfl h,λ_=>⟨wZ Cb (by decide),λh=>(by cases h),λ_=>rfl⟩⟩
 ·exact ⟨by decide,by decide,by decide,by decide,λh=>absurd rfl h,λ_=>⟨wZ qil (by decide),λh=>(by cases h),λ_=>rfl⟩⟩
def abc:List ο:=[⟨#[65]⟩,⟨#[66]⟩,⟨#[67]⟩]
structure PrI (n nn:Nat) (p:Pr):Prop where
 cond:SxD n p.cond
 left:0<=p.left/\p.left<nn
 rl:p.right.length<=5
 right:∀s∈p.right,0<=s.i/\(s.t=nZ->s.i<9)/\(s.t=nS->s.i<nn)
 rank: -1<=p.rank/\p.rank<=1
 lay:p.lay.length<=2
 det:lz p
 nm:p.name≠emp/\p.name.size<=13
structure MG (g:Gr):Prop where
 cs:∃n,n<=3/\g.qa4=abc.take n
 fam:∃t,Sx g.qa4.length t/\t≠qa6 nS/\g.fam=ph t
 qa1:bH g.qa1/\∀s∈g.qa1,s.size<=10
 start:g.start=0
 qa2:g.qa2.map sN=fi/\∀t∈g.qa2,SxD g.qa4.length t.cond
 names:(g.qa0.map Pr.name).Nodup/\∀p∈g.qa0,∀k,g.qa0.length<=k->k<100->p.name≠bi k
 qa0:∀p∈g.qa0,PrI g.qa4.length g.qa1.length p
 lvs:dU g [] g.lvs/\∀l∈g.lvs,SxD g.qa4.length l.cond
 fils:∀x∈g.fils,cw g x/\SxD g.qa4.length x.cond/\x.qa2.length<=2
theorem MG.tok {g:Gr} (h:MG g) {i:Nat} (hi:i<9):∃t,g.qa2[i]? =mB t/\t.cls=0:=by
 have C:g.qa2.length=11:=by have:=congrArg List.length h.qa2.1;rw [vb] at this;exact this
 have r:=N5 (show i<g.qa2.length by omega);refine ⟨_,r,?_⟩;have w:=congrArg (λl=>l[i]?) h.qa2.1;simp only [yr,r,VF] at w;have B:∀j:Fin 9,∀t,fi[j.1]? =mB t->t.cls=0:=by
  intro j t A;have:∀j:Fin 9,(fi[j.1]?).map Tk.cls=mB 0:=by decide
  have:=this j;rw [A] at this;exact yV this
 exact B ⟨i,hi⟩ (sN _) w.symm
theorem MG.sym {g:Gr} (h:MG g) {s:Sy} (r:0<=s.i/\(s.t=nZ->s.i<9)/\(s.t=nS->s.i<g.qa1.length)):mV g s:=by refine ⟨r.1,r.2.2,λw=>h.tok (by have:=r.2.1 w;omega)⟩
theorem zv {g:Gr}:∀(l:List Pr) (r:List ο),(∀p∈l,iM g p/\p.name≠emp/\iL p.cond g.qa4.length/\-1<=p.rank/\p.rank<=1/\lz p)->(r++l.map Pr.name).Nodup->dr g r l=0
 |[],_,_,_=>rfl
 |p::l,r,h,hn=>by
  obtain ⟨G,E,F,B,A,C⟩:=h p (by simp);have w:p.name ∉ r:=λH=>by rw [xV,VC] at hn;exact hn.2.2 _ H _ (by simp) rfl
  unfold dr;rw [Υ (μ G),Υ (μ ⟨E,w,F,B,A,C⟩)];refine zv l _ (λq D=>h q (by simp [D])) ?_;rw [yb];exact hn
theorem S9 {n:Nat} (r:n<=3):(∀s∈abc.take n,s8 s)/\bH (abc.take n)/\(abc.take n).length<=3:=by
 have h:n=0\/n=1\/n=2\/n=3:=by omega
 have ok:∀s∈abc,s8 s:=by
  intro s g;unfold s8;rcases tQ.1 g with rfl|g
  ·decide+kernel
  rcases tQ.1 g with rfl|g
  ·decide+kernel
  rcases tQ.1 g with rfl|g
  ·decide+kernel
  cases g
 refine ⟨λs g=>ok s (YT g),?_,by rw [PM];omega⟩;unfold bH;rcases h with rfl|rfl|rfl|rfl<;>decide
theorem MG.ok {g:Gr} {a b:Nat} (h:MG g) (w:Bd g a b) (R:a<=2000) (P:b<=2000):OkG g:=by
 obtain ⟨n,Q,D⟩:=h.cs;have J:=w.c;have I:=w.p;have L:=w.n;have M:=w.t;have N:=w.l;have G:=w.f;obtain ⟨t,B,C,E⟩:=h.fam;obtain ⟨K,O,W⟩:=S9 Q;refine ⟨?_,⟨by rw [D];exact K,by rw [D];exact O,by rw [E];exact B.fit (by omega),λe=>C (Kq (by rw [<- E];exact e))⟩,?_,⟨h.qa1.1,by rw [h.start];exact Vr 0,by rw [h.start];have:=w.n0;omega⟩,?_,h.lvs.1,λx F=>(h.fils x F).1⟩
 ·unfold dQ;rw [Bool.or_eq_false_iff];refine ⟨η (by omega),?_⟩;rw [List.any_eq_false];intro p A;have V:=(h.qa0 p A).rl;have U:=(h.qa0 p A).lay;rw [δ];omega
 ·refine zt _ _ ?_ λt B=>(h.qa2.2 t B).fit (by omega);rw [h.qa2.1];exact Kt
 ·refine zv _ _ (λp A=> ?_) (by rw [zr];exact h.names.1);have r:=h.qa0 p A;exact ⟨⟨h.sym ⟨r.left.1,λh=>(by cases h),λ_=>r.left.2⟩,λs H=>h.sym (r.right s H)⟩,r.nm.1,r.cond.fit (by omega),r.rank.1,r.rank.2,r.det⟩
theorem MG.sz {g:Gr} {a b:Nat} (h:MG g) (C:Bd g a b):Sz g:=by
 refine ⟨λs r=> ?_,λt A=> ?_,λl w=> ?_,λf E=> ?_⟩
 ·obtain ⟨n,F,B⟩:=h.cs;rw [B] at r;have:∀s∈abc,s.size<=1000000000:=by decide
  exact this s (YT r)
 ·have:sN t∈fi:=by rw [<- h.qa2.1];exact List.mem_map_of_mem A
  have D:∀u∈fi.map Tk.smp,u.size<=100000:=by decide
  exact D _ (xR.2 ⟨_,this,rfl⟩)
 ·have:=C.lp l w;omega
 ·have:=(h.fils f E).2.2;omega
theorem eK {g g':Gr} (A:g'.qa4.length=g.qa4.length) (B:g.qa0.length<=g'.qa0.length):∀(l:List Lv) (r:Φ),dU g r l->dU g' r l
 |[],_,_=>trivial
 |x::l,r,⟨⟨h1,h2,h3,h4,h5⟩,h⟩=>⟨⟨h1,h2,by rw [A];exact h3,λp w=>⟨(h4 p w).1,by have:=(h4 p w).2;omega⟩,h5⟩,eK A B l _ h⟩
theorem Cc {g:Gr} {C:List Pr} {x:Fi} (h:cw g x):cw {g with qa0:=g.qa0++C} x:=by
 refine ⟨h.1,?_⟩;rcases h.2 with ⟨k,⟨a,b,c,p,q,A,w,B⟩,r⟩|h|h
 ·exact .inl ⟨k,⟨a,b,c,p,q,by rw [z8 (N6.1 A).1];exact A,by rw [z8 (N6.1 w).1];exact w,B⟩,r⟩
 ·exact .inr (.inl h)
 ·exact .inr (.inr h)
theorem qhB {i k:Nat} (hi:i<100) (B:k<100) (h:bi i=bi k):i=k:=by
 have A:(#[112,UInt8.ofNat (97+i)]:Array UInt8)= #[112,UInt8.ofNat (97+k)]:=congrArg ByteArray.data h;have r:=congrArg (λa=>a[1]?) A;have w:UInt8.ofNat (97+i)=UInt8.ofNat (97+k):=by simpa using r
 have g:=congrArg UInt8.toNat w;simp at g;omega
theorem MG.line {g:Gr} (h:MG g) {p:Pr} (D:p.name=bi g.qa0.length) (F:PrI g.qa4.length g.qa1.length p) (C:g.qa0.length<100):MG {g with qa0:=g.qa0++[p]}:=by
 refine ⟨h.cs,h.fam,h.qa1,h.start,h.qa2,⟨?_,λq r k B w=> ?_⟩,λq r=> ?_,⟨eK (g:=g) (g':={g with qa0:=g.qa0++[p]}) rfl (by show _<=(g.qa0++[p]).length;rw [tT];omega) _ _ h.lvs.1,h.lvs.2⟩,λx A=>⟨Cc (h.fils x A).1,(h.fils x A).2⟩⟩
 ·show ((g.qa0++[p]).map Pr.name).Nodup;rw [yO,VC];refine ⟨h.names.1,by simp,λx A y E=> ?_⟩;rw [xV,List.map_nil,wa] at E;obtain ⟨q,r,rfl⟩:=xR.1 A;rw [E,D];exact h.names.2 q r _ (tI _) C
 ·replace B:(g.qa0++[p]).length<=k:=B;rw [tT,Vc] at B;rcases vl.1 r with r|r
  ·exact h.names.2 q r k (by omega) w
  ·rw [wa.1 r,D];intro e;have:=qhB C w e;omega
 ·rcases vl.1 r with r|r
  ·exact h.qa0 q r
  ·rw [wa.1 r];exact F
theorem nY (r:List Sy) (lo hi:Int):eF r 0 0 lo hi:=.inl ⟨rfl,rfl⟩
theorem Ku {g:Gr} (x:Ln) (D:g.qa4.length<=3) (w:g.qa1.length≠0):PrI g.qa4.length g.qa1.length (jk g x):=by
 have r:(aQ g.qa1.length x).length<=4:=by unfold aQ;rw [vb,PM];omega
 refine ⟨⟨_,mN (by omega),rfl⟩,⟨by show (0:Int)<=((x.left % g.qa1.length:Nat):Int);omega,?_⟩,by show (aQ _ _).length<=5;omega,λs A=> ?_,⟨by show (-1:Int)<=0;decide,by show (0:Int)<=1;decide⟩,by show 0<=2;decide,⟨λy C=>(by cases C),nY _ _ _,nY _ _ _,λh=>(by cases h)⟩,?_,?_⟩
 ·show ((x.left % g.qa1.length:Nat):Int)<_;have:=VU x.left (Nat.pos_of_ne_zero w);omega
 ·obtain ⟨b,E,rfl⟩:=xR.1 (show s∈(x.right.take 4).map (mL g.qa1.length) from A);unfold mL;split
  ·exact ⟨by show (0:Int)<=((b % 14:Nat):Int);omega,λ_=>by show ((b % 14:Nat):Int)<9;omega,λh=>(by cases h)⟩
  ·refine ⟨by show (0:Int)<=(((b % 14 - 9) % g.qa1.length:Nat):Int);omega,λh=>(by cases h),λ_=> ?_⟩;show (((b % 14 - 9) % g.qa1.length:Nat):Int)<_;have:=VU (b % 14 - 9) (Nat.pos_of_ne_zero w);omega
 ·intro e;have B:(2:Nat)=0:=congrArg ByteArray.size (show bi g.qa0.length=emp from e);cases B
 ·show (bi g.qa0.length).size<=13;show 2<=13;decide
theorem NB {n O:Nat} {p:Pr} (h:PrI n O p) (_:p.rank=0) (_:p.lay=[]) (L:p.sco=ki) (G:p.brk=nS) (m:Nat):PrI n O (cz p m):=by
 obtain ⟨w,A,D,C,F,E,g,B⟩:=h;have P:∀r,eF r ki.d ki.k 1 7:=λr=>nY r _ _;have Q:∀r,eF r ki.u ki.a 0 255:=λr=>nY r _ _;have W:∀{q:Pr},q.lay=[]->∀x∈q.lay,Cw q.right x:=λe x J=>by rw [e] at J;cases J
 unfold cz;split
 ·exact ⟨w,A,D,C,F,E,g,B⟩
 rename_i K;split
 ·exact ⟨w,A,D,C,⟨by show (-1:Int)<=1;decide,by show (1:Int)<=1;decide⟩,E,⟨g.1,g.2.1,g.2.2.1,λh=>by rw [show (p.brk=nZ)=(nS=nZ) by rw [G]] at h;cases h⟩,B⟩
 split
 ·exact ⟨w,A,D,C,⟨by show (-1:Int)<=-1;decide,by show (-1:Int)<=1;decide⟩,E,⟨g.1,g.2.1,g.2.2.1,λh=>by rw [show (p.brk=nZ)=(nS=nZ) by rw [G]] at h;cases h⟩,B⟩
 split
 ·refine ⟨w,A,D,C,F,E,⟨g.1,g.2.1,g.2.2.1,λh=> ?_⟩,B⟩;have:Cy p:=by have:wU p=nZ:=h;unfold wU at this;simpa using this
  exact this
 have N:0<p.right.length:=Nat.pos_of_ne_zero K;split
 ·have R:=VU (m / 8 / 4) N;refine ⟨w,A,D,C,F,by show 1<=2;decide,⟨λx J=> ?_,g.2.1,g.2.2.1,λh=>by rw [show (p.brk=nZ)=(nS=nZ) by rw [G]] at h;cases h⟩,B⟩;rw [wa.1 J];refine ⟨by show (1:Int)<=((1+m / 8 % 4:Nat):Int);omega,by show ((1+m / 8 % 4:Nat):Int)<=4;omega,by show (0:Int)<=((m / 8 / 4 % p.right.length:Nat):Int);omega,by show ((m / 8 / 4 % p.right.length:Nat):Int)<p.right.length;omega,?_,?_,λh=> ?_⟩
  ·show (0:Int)<=if m / 8 % 4=0 then 0 else ((p.right.length - 1:Nat):Int)
   split<;>omega
  ·show (if m / 8 % 4=0 then (0:Int) else ((p.right.length - 1:Nat):Int))<p.right.length;split<;>omega
  ·have h:((1+m / 8 % 4:Nat):Int)=1:=h;show (if m / 8 % 4=0 then (0:Int) else ((p.right.length - 1:Nat):Int))=0;rw [Χ (by omega)]
 split
 ·exact ⟨w,A,D,C,F,E,⟨g.1,by show eF p.right p.sco.d p.sco.k 1 7;rw [L];exact P _,by show eF p.right p.sco.u p.sco.a 0 255;rw [L];exact Q _,λh=>by rw [show (p.brk=nZ)=(nS=nZ) by rw [G]] at h;cases h⟩,B⟩
 have I:=VU (m / 8) N;have M:(p.right.getD (m / 8 % p.right.length) ⟨nS,0⟩).t=nZ->∃s,p.right[(((m / 8 % p.right.length+1:Nat):Int) - 1).toNat]? =mB s/\s.t=nZ:=λH=>by rw [show (((m / 8 % p.right.length+1:Nat):Int) - 1).toNat=m / 8 % p.right.length by omega];refine ⟨_,N5 I,?_⟩;rw [Vb,N5 I] at H;exact H
 split
 ·split
  ·rename_i H;exact ⟨w,A,D,C,F,E,⟨g.1,.inr ⟨by show (0:Int)<((m / 8 % p.right.length+1:Nat):Int);omega,by show ((m / 8 % p.right.length+1:Nat):Int)<=p.right.length;omega,M H,by show (1:Int)<=((1+m / 8 % 2:Nat):Int);omega,by show ((1+m / 8 % 2:Nat):Int)<=7;omega⟩,nY _ _ _,λh=>by rw [show (p.brk=nZ)=(nS=nZ) by rw [G]] at h;cases h⟩,B⟩
  ·exact ⟨w,A,D,C,F,E,g,B⟩
 split
 ·split
  ·rename_i H;exact ⟨w,A,D,C,F,E,⟨g.1,nY _ _ _,.inr ⟨by show (0:Int)<((m / 8 % p.right.length+1:Nat):Int);omega,by show ((m / 8 % p.right.length+1:Nat):Int)<=p.right.length;omega,M H,by show (0:Int)<=((1+m / 8 % 7:Nat):Int);omega,by show ((1+m / 8 % 7:Nat):Int)<=255;omega⟩,λh=>by rw [show (p.brk=nZ)=(nS=nZ) by rw [G]] at h;cases h⟩,B⟩
  ·exact ⟨w,A,D,C,F,E,g,B⟩
 ·exact ⟨w,A,D,C,F,E,g,B⟩
theorem sP (p:Pr) (m:Nat):(cz p m).name=p.name:=by
 unfold cz
 repeat' split
 all_goals rfl
theorem MG.lineG {g:Gr} (h:MG g) {a b:Nat} (r:Bd g a b) (A:a<100) (x:Ln) (w:Bool):MG (lineG g x w):=by
 have B:=r.p;unfold Go.Proofs.YteilolbbgieadaaGreatDoor.lineG;split
 ·exact h
 ·exact h.line (by rw [sP];rfl) (NB (Ku x r.c r.n0) rfl rfl rfl rfl _) (by omega)
theorem sQ {g:Gr} {y:Lv}:∀(l:List Lv) (r:Φ),dU g r l->Ti g (r++l.flatMap Lv.ps) y->dU g r (l++[y])
 |[],r,_,h=>by simp only [List.flatMap_nil,yD] at h;exact ⟨h,trivial⟩
 |x::l,r,⟨h1,h2⟩,h=>⟨h1,sQ l _ h2 (by rw [yb];exact h)⟩
theorem MG.fil {g:Gr} (h:MG g) {y:Fi} (hd:SxD g.qa4.length y.cond) (w:y.qa2.length<=2):MG (kg g y):=by
 unfold kg;split
 ·rename_i A;refine ⟨h.cs,h.fam,h.qa1,h.start,h.qa2,h.names,h.qa0,⟨eK (g:=g) (by rfl) (by exact tI _) _ _ h.lvs.1,h.lvs.2⟩,λx r=> ?_⟩;rcases vl.1 r with r|r
  ·exact h.fils x r
  ·rw [wa.1 r];exact ⟨A,hd,w⟩
 ·exact h
theorem MG.lvl {g:Gr} (h:MG g) {a b:Nat} (B:Bd g a b) (x:Ru):MG (nW g x):=by
 have w:0<g.qa0.length:=Nat.pos_of_ne_zero B.p0;have hd:SxD g.qa4.length (yJ g x):=⟨_,mN (by have:=B.c;omega),rfl⟩;have F:=VU x.a w;have E:=VU x.b w;unfold nW;split
 ·exact h
 ·rename_i C;refine ⟨h.cs,h.fam,h.qa1,h.start,h.qa2,h.names,h.qa0,⟨eK (g:=g) (by rfl) (by exact tI _) _ _ (sQ _ _ h.lvs.1 ?_),λy A=> ?_⟩,h.fils⟩
  ·rw [zr];refine ⟨by show (0:Int)<=((x.c % 4:Nat):Int);omega,by show ((x.c % 4:Nat):Int)<=3;omega,hd.fit (by have:=B.c;omega),λp r=> ?_,?_,λp r=> ?_⟩
   ·rcases tQ.1 r with rfl|r
    ·omega
    ·split at r
     ·rw [wa.1 r];omega
     ·cases r
   ·show (_::_).Nodup;rw [Wx];split
    ·rename_i D;refine ⟨?_,by simp⟩;rw [wa];omega
    ·exact ⟨by simp,.nil⟩
   ·rcases tQ.1 r with rfl|r
    ·exact C
    ·split at r
     ·rename_i D;rw [wa.1 r];exact D.2
     ·cases r
  ·rcases vl.1 A with A|A
   ·exact h.lvs.2 y A
   ·rw [wa.1 A];exact hd
theorem Gq {g g':Gr} (N:g'.qa4=g.qa4) (L:g'.qa0=g.qa0) (M:g'.qa1=g.qa1) (G:∀(i:Nat) (t:Tk),g.qa2[i]? =mB t->∃w:Tk,g'.qa2[i]? =mB w/\w.cls=t.cls/\w.lit=t.lit) {x:Fi} (h:cw g x):cw g' x:=by
 unfold cw at h ⊢;unfold oV at h ⊢;rw [N,L,M];refine ⟨h.1,?_⟩;rcases h.2 with h|⟨k,⟨a,b,c1,F,J⟩,r⟩|⟨k,⟨⟨c1,F,J⟩,a,t,C,A,K⟩,r⟩
 ·exact .inl h
 ·refine .inr (.inl ⟨k,⟨a,b,c1,λn I=> ?_,J⟩,r⟩);obtain ⟨H,t,C,A⟩:=F n I;obtain ⟨w,B,E,D⟩:=G _ _ C;exact ⟨H,w,B,by show decide (w.cls=0)=nZ;rw [E];exact A⟩
 ·obtain ⟨w,B,E,D⟩:=G _ _ C;refine .inr (.inr ⟨k,⟨⟨c1,λn I=> ?_,J⟩,a,w,B,by rw [E];exact A,by rw [D];exact K⟩,r⟩);obtain ⟨H,t,C,A⟩:=F n I;obtain ⟨w,B,E,D⟩:=G _ _ C;exact ⟨H,w,B,by show (!decide (w.lit=emp))=nZ;rw [D];exact A⟩
theorem MG.tokG {g:Gr} (h:MG g) {a b:Nat} (B:Bd g a b) (x:Ru):MG (tokG g x):=by
 have hd:SxD g.qa4.length (yJ g x):=⟨_,mN (by have:=B.c;omega),rfl⟩;unfold Go.Proofs.YteilolbbgieadaaGreatDoor.tokG;refine ⟨h.cs,h.fam,h.qa1,h.start,⟨?_,λt r=> ?_⟩,h.names,h.qa0,⟨eK (g:=g) (by rfl) (by exact tI _) _ _ h.lvs.1,h.lvs.2⟩,λy w=>⟨Gq (g:=g) (by rfl) (by rfl) (by rfl) (λi t r=> ?_) (h.fils y w).1,(h.fils y w).2⟩⟩
 ·rw [<- h.qa2.1];apply Wp;intro i;simp only [yr,YS];cases g.qa2[i]? with
  |none=>rfl
  |some t=>simp only [VF];split<;>rfl
 ·obtain ⟨i,hi⟩:=List.mem_iff_getElem?.1 r;rw [YS] at hi;cases ht':g.qa2[i]? with
  |none=>rw [ht'] at hi;simp at hi
  |some u=>
   rw [ht'] at hi;simp only [Option.map_eq_map,VF,Option.some.injEq] at hi;subst hi;split
   ·exact hd
   ·exact h.qa2.2 u (wh ht')
 ·show ∃A,(g.qa2.modify (x.a % 9) _)[i]? =mB A/\_;rw [YS,r];refine ⟨_,rfl,?_⟩;simp only [];split<;>exact ⟨rfl,rfl⟩
theorem MG.ruleG {g:Gr} (h:MG g) {a b:Nat} (r:Bd g a b) (x:Ru):MG (ruleG g x):=by
 have hd:SxD g.qa4.length (yJ g x):=⟨_,mN (by have:=r.c;omega),rfl⟩;unfold Go.Proofs.YteilolbbgieadaaGreatDoor.ruleG;split
 ·exact h.lvl r x
 split
 ·exact h.fil hd (by show 0<=2;decide)
 split
 ·exact h.fil hd (by show 1<=2;decide)
 split
 ·exact h.fil hd (by show 1<=2;decide)
 ·exact h.tokG r x
theorem MG.lines {x:Rw}:∀(l:List Ln) {g:Gr} {a b:Nat},MG g->Bd g a b->a+l.length<100->MG (du x l g)
 |[],g,a,b,h,_,_=>h
 |y::l,g,a,b,h,hb,hl=>by rw [wo] at hl;exact MG.lines (x:=x) l (h.lineG hb (by omega) y (bF x)) (EF hb y (bF x)) (by omega)
theorem MG.rules:∀(l:List Ru) {g:Gr} {a b:Nat},MG g->Bd g a b->MG (dP l g)
 |[],_,_,_,h,_=>h
 |y::l,_,_,_,h,hb=>MG.rules l (h.ruleG hb y) (EG hb y)
theorem MG.famG {g:Gr} (h:MG g) {a b:Nat} (w:Bd g a b) (x:Rw):MG (famG x g):=by
 unfold Go.Proofs.YteilolbbgieadaaGreatDoor.famG;split
 ·rename_i r;refine ⟨h.cs,⟨zn x g.qa4.length,wX (n:=g.qa4.length) _ (by have:=w.c;omega) g.qa4.length 0 0 (by omega),λe=>r.2 (by rw [e];rfl),rfl⟩,h.qa1,h.start,h.qa2,h.names,h.qa0,⟨eK (g:=g) (by rfl) (by exact tI _) _ _ h.lvs.1,h.lvs.2⟩,h.fils⟩
 ·exact h
instance decSy (q:Option Sy):Decidable (∃s,q=mB s/\s.t=nZ):=
 match q with
 |none=>isFalse λ⟨_,h,_⟩=>by cases h
 |some s=>if h:s.t=nZ then isTrue ⟨s,rfl,h⟩ else isFalse λ⟨_,h1,h2⟩=>by cases h1;exact h h2
instance decEntry (r:List Sy) (k v lo hi:Int):Decidable (eF r k v lo hi):=by unfold eF;infer_instance
instance decLay (r:List Sy) (x:Cn):Decidable (Cw r x):=by unfold Cw;infer_instance
instance decBrk (p:Pr):Decidable (Cy p):=by unfold Cy;infer_instance
instance decDet (p:Pr):Decidable (lz p):=by unfold lz;infer_instance
def Ta (nn:Nat) (p:Pr):Prop:=(0<=p.left/\p.left<nn)/\p.right.length<=5/\(∀s∈p.right,0<=s.i/\(s.t=nZ->s.i<9)/\(s.t=nS->s.i<nn))/\(-1<=p.rank/\p.rank<=1)/\p.lay.length<=2/\lz p/\(p.name≠emp/\p.name.size<=13)
instance decPri (nn:Nat) (p:Pr):Decidable (Ta nn p):=by unfold Ta;infer_instance
theorem bo {n g:Nat} {p:Pr} (h:Ta g p) (B:SxD n p.cond):PrI n g p:=by obtain ⟨F,D,E,w,r,A,C⟩:=h;exact ⟨B,F,D,E,w,r,A,C⟩
theorem fV {n v:Nat} (g:v<n) (h:n<=6):SxD n (ph (tv v)):=⟨_,Sx.tv g h,rfl⟩
theorem qv {n v:Nat} (g:v<n) (h:n<=6):SxD n (zh v):=⟨_,(Sx.tv g h).ap2 (Sx.qa6 n nZ),rfl⟩
def NC (s:ο):Prop:=s.size≠2\/s.data[0]?≠mB 112
instance (s:ο):Decidable (NC s):=by unfold NC;infer_instance
theorem ND {s:ο} (h:NC s) (k:Nat):s≠bi k:=by
 intro e;rcases h with h|h
 ·exact h (by rw [e];rfl)
 ·exact h (by rw [e];rfl)
theorem sR {g:Gr} {n:Nat} (K:n<=3) (C:g.qa4=abc.take n) (H:g.fam=dF) (r:g.qa2=fi) (D:g.start=0) (J:bH g.qa1) (G:∀s∈g.qa1,s.size<=10) (I:(g.qa0.map Pr.name).Nodup) (A:∀s∈g.qa0.map Pr.name,NC s)
  (w:∀p∈g.qa0,PrI g.qa4.length g.qa1.length p) (B:dU g [] g.lvs/\∀l∈g.lvs,SxD g.qa4.length l.cond) (F:∀x∈g.fils,cw g x/\SxD g.qa4.length x.cond/\x.qa2.length<=2):MG g:=by
 have e:fi.map sN=fi:=rfl;refine ⟨⟨n,K,C⟩,⟨_,Sx.qa6 _ nZ,by simp,H⟩,⟨J,G⟩,D,⟨by rw [r];exact e,λt h=> ?_⟩,⟨I,λp E k _ _=>ND (A _ (List.mem_map_of_mem E)) k⟩,w,B,F⟩;rw [r,<- e] at h;obtain ⟨u,_,rfl⟩:=xR.1 h;exact aZ _
theorem NE {g:Gr} (r:g.qa2=fi) (i:Nat) {kd:Tk->Bool} {t:Tk} (h:fi[i]? =mB t) (w:kd t=nZ):0<=(i:Int)/\∃t,g.qa2[(i:Int).toNat]? =mB t/\kd t=nZ:=⟨by omega,t,by rw [r,N4];exact h,w⟩
theorem Xm {g:Gr} {kd:Tk->Bool} {i:Int} (h:0<=i/\∃t,g.qa2[i.toNat]? =mB t/\kd t=nZ):fW g kd [i]:=by refine ⟨by simp,λn r=>by rw [wa.1 r];exact h,λj x y _ w=> ?_⟩;simp at w
theorem qfZ {g:Gr} {kd:Tk->Bool} {i j:Int} (h:0<=i/\∃t,g.qa2[i.toNat]? =mB t/\kd t=nZ) (C:0<=j/\∃t,g.qa2[j.toNat]? =mB t/\kd t=nZ) (r:i<j):fW g kd [i,j]:=by
 refine ⟨by simp,λn w=> ?_,λk x y B A=> ?_⟩
 ·rcases tQ.1 w with rfl|w
  ·exact h
  ·rw [wa.1 w];exact C
 ·match k with
  |0=>simp at B A;subst B A;exact r
  |k+1=>simp at A
theorem qhc:MG bZ:=by
 refine sR (n:=2) (by decide) rfl rfl rfl rfl (by unfold bH;decide) (by decide) (by decide) (by decide) (λp g=> ?_) ⟨?_,?_⟩ ?_
 ·rcases tQ.1 g with rfl|g
  ·exact bo (by decide) (aZ _)
  rcases tQ.1 g with rfl|g
  ·exact bo (by decide) (aZ _)
  rcases tQ.1 g with rfl|g
  ·exact bo (by decide) (aZ _)
  rcases tQ.1 g with rfl|g
  ·exact bo (by decide) (aZ _)
  rcases tQ.1 g with rfl|g
  ·exact bo (by decide) (fV (by decide) (by decide))
  cases g
 ·refine ⟨⟨by decide,by decide,(aZ 2).fit (by decide),by decide,by decide,by decide⟩,⟨by decide,by decide,(aZ 2).fit (by decide),by decide,by decide,by decide⟩,⟨by decide,by decide,(qv (n:=2) (v:=0) (by decide) (by decide)).fit (by decide),by decide,by decide,by decide⟩,trivial⟩
 ·intro l h;rcases tQ.1 h with rfl|h
  ·exact aZ _
  rcases tQ.1 h with rfl|h
  ·exact aZ _
  rcases tQ.1 h with rfl|h
  ·exact qv (by decide) (by decide)
  cases h
 ·intro x r;cases r
theorem qho:MG bR:=by
 refine sR (n:=2) (by decide) rfl rfl rfl rfl (by unfold bH;decide) (by decide) (by decide) (by decide) (λp g=> ?_) ⟨?_,?_⟩ ?_
 ·rcases tQ.1 g with rfl|g
  ·exact bo (by decide) (aZ _)
  rcases tQ.1 g with rfl|g
  ·exact bo (by decide) (aZ _)
  rcases tQ.1 g with rfl|g
  ·exact bo (by decide) (aZ _)
  rcases tQ.1 g with rfl|g
  ·exact bo (by decide) (aZ _)
  rcases tQ.1 g with rfl|g
  ·exact bo (by decide) (aZ _)
  cases g
 ·trivial
 ·intro l r;cases r
 ·intro x h;rcases tQ.1 h with rfl|h
  ·exact ⟨⟨(fV (n:=2) (v:=0) (by decide) (by decide)).fit (by decide),.inl ⟨.inr rfl,⟨by decide,by decide,by decide,_,_,rfl,rfl,rfl⟩,rfl,rfl,rfl⟩⟩,fV (by decide) (by decide),by decide⟩
  rcases tQ.1 h with rfl|h
  ·exact ⟨⟨(fV (n:=2) (v:=1) (by decide) (by decide)).fit (by decide),.inr (.inr ⟨rfl,⟨qfZ (NE rfl 5 rfl (by decide)) (NE rfl 6 rfl (by decide)) (by decide),by decide,_,rfl,rfl,rfl⟩,rfl,rfl,rfl,rfl⟩)⟩,fV (by decide) (by decide),by decide⟩
  cases h
theorem qg7:MG aR:=by
 refine sR (n:=2) (by decide) rfl rfl rfl rfl (by unfold bH;decide) (by decide) (by decide) (by decide) (λp g=> ?_) ⟨?_,?_⟩ ?_
 ·rcases tQ.1 g with rfl|g
  ·exact bo (by decide) (aZ _)
  rcases tQ.1 g with rfl|g
  ·exact bo (by decide) (aZ _)
  rcases tQ.1 g with rfl|g
  ·exact bo (by decide) (aZ _)
  rcases tQ.1 g with rfl|g
  ·exact bo (by decide) (aZ _)
  rcases tQ.1 g with rfl|g
  ·exact bo (by decide) (aZ _)
  rcases tQ.1 g with rfl|g
  ·exact bo (by decide) (aZ _)
  rcases tQ.1 g with rfl|g
  ·exact bo (by decide) (fV (by decide) (by decide))
  cases g
 ·trivial
 ·intro l r;cases r
 ·intro x h;cases h
theorem Gs:MG iC:=by
 refine sR (n:=2) (by decide) rfl rfl rfl rfl (by unfold bH;decide) (by decide) (by decide) (by decide) (λp g=> ?_) ⟨?_,?_⟩ ?_
 ·rcases tQ.1 g with rfl|g
  ·exact bo (by decide) (aZ _)
  rcases tQ.1 g with rfl|g
  ·exact bo (by decide) (aZ _)
  rcases tQ.1 g with rfl|g
  ·exact bo (by decide) (aZ _)
  rcases tQ.1 g with rfl|g
  ·exact bo (by decide) (aZ _)
  rcases tQ.1 g with rfl|g
  ·exact bo (by decide) (fV (by decide) (by decide))
  cases g
 ·trivial
 ·intro l r;cases r
 ·intro x h;cases h
theorem Cd:MG fS:=by
 refine sR (n:=2) (by decide) rfl rfl rfl rfl (by unfold bH;decide) (by decide) (by decide) (by decide) (λp g=> ?_) ⟨?_,?_⟩ ?_
 ·rcases tQ.1 g with rfl|g
  ·exact bo (by decide) (aZ _)
  rcases tQ.1 g with rfl|g
  ·exact bo (by decide) (aZ _)
  rcases tQ.1 g with rfl|g
  ·exact bo (by decide) (aZ _)
  rcases tQ.1 g with rfl|g
  ·exact bo (by decide) (aZ _)
  rcases tQ.1 g with rfl|g
  ·exact bo (by decide) (aZ _)
  rcases tQ.1 g with rfl|g
  ·exact bo (by decide) (fV (by decide) (by decide))
  cases g
 ·trivial
 ·intro l r;cases r
 ·intro x h;rcases tQ.1 h with rfl|h
  ·exact ⟨⟨(fV (n:=2) (v:=0) (by decide) (by decide)).fit (by decide),.inr (.inl ⟨.inl rfl,⟨by decide,by decide,Xm (NE rfl 0 rfl (by decide))⟩,rfl,rfl,rfl,rfl⟩)⟩,fV (by decide) (by decide),by decide⟩
  rcases tQ.1 h with rfl|h
  ·exact ⟨⟨(qv (n:=2) (v:=1) (by decide) (by decide)).fit (by decide),.inr (.inl ⟨.inr rfl,⟨by decide,by decide,Xm (NE rfl 1 rfl (by decide))⟩,rfl,rfl,rfl,rfl⟩)⟩,qv (by decide) (by decide),by decide⟩
  cases h
theorem Ce:MG fU:=by
 refine sR (n:=2) (by decide) rfl rfl rfl rfl (by unfold bH;decide) (by decide) (by decide) (by decide) (λp g=> ?_) ⟨?_,?_⟩ ?_
 ·rcases tQ.1 g with rfl|g
  ·exact bo (by decide) (aZ _)
  rcases tQ.1 g with rfl|g
  ·exact bo (by decide) (aZ _)
  rcases tQ.1 g with rfl|g
  ·exact bo (by decide) (aZ _)
  rcases tQ.1 g with rfl|g
  ·exact bo (by decide) (aZ _)
  rcases tQ.1 g with rfl|g
  ·exact bo (by decide) (fV (by decide) (by decide))
  cases g
 ·trivial
 ·intro l r;cases r
 ·intro x h;cases h
theorem Kv {k:Nat} (g:k<6):MG (cv k):=by
 have h:k=0\/k=1\/k=2\/k=3\/k=4\/k=5:=by omega
 rcases h with rfl|rfl|rfl|rfl|rfl|rfl
 ·exact qhc
 ·exact qho
 ·exact qg7
 ·exact Gs
 ·exact Cd
 ·exact Ce
theorem Kw (x:Rw):MG (cX x):=by
 unfold cX;split
 ·rename_i h;exact Kv (ζ h)
 ·have B:(fu x).length≠0:=by unfold fu;rw [PM];simp
  refine sR (n:=x.n % 4) (by omega) rfl rfl rfl rfl ?_ (λs g=> ?_) (by show ([⟨#[102,105,114,115,116]⟩]:List ο).Nodup;simp) (λs g=>by rw [wa.1 (show s∈([⟨#[102,105,114,115,116]⟩]:List ο) from g)];decide) (λp A=> ?_) ⟨trivial,λl w=>(by cases w)⟩ λx r=>by cases r
  ·have h:x.n / 4 % 3=0\/x.n / 4 % 3=1\/x.n / 4 % 3=2:=by omega
   show bH (fu x);unfold fu;rcases h with h|h|h<;>rw [h]<;>(unfold bH;decide)
  ·have:∀s∈([⟨#[83]⟩,⟨#[80]⟩,⟨#[81]⟩]:List ο),s.size<=10:=by decide
   exact this s (YT g)
  ·rw [wa.1 A];refine bo ⟨⟨by decide,?_⟩,by decide,?_,by decide,by decide,by decide,by decide⟩ (aZ _)
   ·show (0:Int)<(fu x).length;omega
   ·intro s g;rw [wa.1 g];exact ⟨by decide,λ_=>by decide,λh=>(by cases h)⟩
theorem iD (x:Rw):MG (aT x)/\Bd (aT x) 18 10:=by
 have M:cN x<=10:=by unfold cN;split<;>decide
 have h:=Kp (x:=x) (sK x);have B:=(Kw x).famG (sK x) x;have g:=sL (x:=x) (x.lines.take (cN x)) h;have I:(x.lines.take (cN x)).length<=10:=by rw [PM];omega
 have K:(x.rules.take 6).length<=6:=by rw [PM];omega
 have G:=MG.lines (x:=x) (x.lines.take (cN x)) B h (by omega);have D:=sM (x.rules.take 6) g;have w:=MG.rules (x.rules.take 6) G g;refine ⟨w,?_⟩;obtain ⟨c1,A,r,E,L,F,J,C,H⟩:=D;exact ⟨c1,A,r,E,by unfold aT;omega,F,by unfold aT;omega,C,by unfold aT;omega⟩
theorem mO (x:Rw):OkG (aT x):=(iD x).1.ok (iD x).2 (by decide) (by decide)
abbrev RT (F:PH):VR:=λr F'=>r=oY nZ/\F.le F'
open Go.ChangeShapes Go.WideShapes Go.ChangeAt Go.RowKit Go.Deep
set_option maxRecDepth 100000
section
variable {H:Type} {enc:TypeId×ξ->H} {P:Program} {W:World}
theorem zw {α:Type} {cells:α->Ξ} {k:Nat} (g:∀o,(cells o).length=k):∀{os:List α} {i j:Nat},j<k->(os.flatMap cells)[i*k+j]? =(os[i]?).bind λo=>(cells o)[j]?
 |[],i,j,_=>by simp
 |o::os,0,j,hj=>by rw [VD,V9,yp,z8 (by rw [g];exact hj)];rfl
 |o::os,i+1,j,hj=>by rw [VD,Vm (by rw [g,Wr];omega),g,show (i+1)*k+j - k=i*k+j by rw [Wr];omega,zw g hj];rfl
theorem jp {α:Type} {cells:α->Ξ} {k:Nat} (g:∀o,(cells o).length=k):∀os:List α,(os.flatMap cells).length=os.length*k
 |[]=>by simp
 |o::os=>by rw [VD,tT,g,jp g os,wo,Wr,XM]
theorem uR {α:Type} [Inhabited α] {t e k:Nat} {cells:α->Ξ} {Q:α->Prop} (K:P.underlying t=mB (.slice e)) (hk:P.cellsOf e=k) (w:0<k) (g:∀o,(cells o).length=k)
  (elem:∀{fuel:Nat} {cs:Ξ} {x:DataW H×List MemPlace},DataW.trod enc P W 0 (λ_=>nZ) nZ fuel e cs=mB x->(x.1.weights P e).all (·<=reachBytes)=nZ->∃o,cs=cells o/\Q o)
  {fuel:Nat} {c:ξ} {x:DataW H×List MemPlace} (h:DataW.trod enc P W 0 (λ_=>nZ) nZ fuel t [c]=mB x) (E:(x.1.weights P t).all (·<=reachBytes)=nZ):
  ∃(sl:Sl) (os:List α),c=nV sl/\RdS (hF W) sl k (os.flatMap cells)/\(∀o∈os,Q o)/\os.length=sl.len/\sl.len*P.bytesOf e<=reachBytes:=by
 rcases open_slice K h with ⟨r,rfl⟩|⟨a,len,cap,m,n,D,Pl,r,_,Y,hm,C,rfl,U⟩
 ·cases r;exact ⟨pk,[],rfl,RdS.nil _ _,by simp,rfl,by simp [pk]⟩
 ·cases r;simp only [if_true] at C;subst C;rw [hk] at U;have R:∀i,i<len->((D i).weights P e).all (·<=reachBytes)=nZ:=λi hi=>by
   rw [Vq] at E ⊢;intro y G;refine E y ?_;simp only [DataW.weights,K];refine VB _ (Zi _ ?_);have J:∀(l:List (DataW H)) (d:DataW H),d∈l->∀y∈d.weights P e,y∈DataW.weightsAll P e l:=by
    intro l;induction l with
    |nil=>intro d hd;cases hd
    |cons a l ih=>
     intro d hd y G;simp only [DataW.weightsAll,vl];rcases tQ.1 hd with rfl|hd
     ·exact .inl G
     ·exact .inr (ih d hd y G)
   exact J _ (D i) (xR.2 ⟨i,Wy.2 hi,rfl⟩) y G
  have hb:m*P.bytesOf e<=reachBytes:=by simp only [DataW.weights,K,Xj,Vv,δ,vb,Wq] at E;rw [show len+(m - len)=m by omega] at E;exact E.1
  have I:∀i,i<len->∃o:α,W.cells? 0 (a.add (i*k)) k=mB (cells o)/\Q o:=λi hi=>by obtain ⟨cs,M,F⟩:=U i (by omega);obtain ⟨o,rfl,h3⟩:=elem F (R i hi);exact ⟨o,M,h3⟩
  obtain ⟨O,L⟩:=choose_lt I;refine ⟨⟨mB a,len,m⟩,(List.range len).map O,rfl,⟨?_,Y,λhp=> ?_⟩,?_,by simp,Wl (W1 _ Y) hb⟩
  ·rw [jp g];simp
  ·simp only at hp;have h0:=(World.cells?_some (L 0 (by omega)).1).2.2 0 w;obtain ⟨v0,N⟩:∃v,(cells (O 0))[0]? =mB v:=⟨_,N5 (by rw [g];exact w)⟩;have V:=World.cell?_spot (v:=v0) (by rw [h0];exact N);obtain ⟨b,o,X⟩:=a;simp [od] at V;subst V;refine ⟨b,o,rfl,λi hi=> ?_⟩;rw [jp g,vb,Wq] at hi;have A:i / k<len:=Nat.div_lt_of_lt_mul (by rw [Nat.mul_comm];exact hi);have Z:i % k<k:=VU _ w;have M:=(World.cells?_some (L (i / k) A).1).2.2 (i % k) Z;have F:=zw g (os:=(List.range len).map O) (i:=i / k) (j:=i % k) Z;have B:i / k*k+i % k=i:=by rw [Nat.mul_comm];exact Nat.div_add_mod i k
   rw [B] at F;rw [<- N5,F];simp only [yr,XK A,VF,Option.bind_some];rw [<- M,aJ,aJ,V7,B];rfl
  ·intro o I;obtain ⟨i,hi,rfl⟩:=xR.1 I;exact (L i (Wy.1 hi)).2
end
section
variable {H:Type} {enc:TypeId×ξ->H} {W:World}
instance:Inhabited (Ln×Sl):=⟨⟨⟨0,[],0,0⟩,pk⟩⟩
instance:Inhabited Ru:=⟨⟨0,0,0,0,0⟩⟩
theorem Cg:prog.cellsOf 22=1:=by kernel_rfl
theorem EL:prog.cellsOf 191=4:=by kernel_rfl
theorem EM:prog.cellsOf 194=5:=by kernel_rfl
theorem EN:prog.cellsOf 26=5:=by kernel_rfl
theorem NF:prog.cellsOf 23=1:=by kernel_rfl
theorem NG:prog.cellsOf 24=1:=by kernel_rfl
theorem eL {z:Int} (h:(Lit.int .u8 z).wf=nZ):∃n:Nat,z=n/\n<256:=by obtain ⟨r,g⟩:=R3 h;exact ⟨z.toNat,by omega,by omega⟩
theorem NH {z:Int} (h:(Lit.int .u16 z).wf=nZ):∃n:Nat,z=n/\n<65536:=by obtain ⟨r,g⟩:=bounds_u16 h;exact ⟨z.toNat,by omega,by omega⟩
theorem iE {fuel:Nat} {c:ξ} {x:DataW H×List MemPlace} (h:DataW.trod enc prog W 0 (λ_=>nZ) nZ fuel 22 [c]=mB x) (D:(x.1.weights prog 22).all (·<=reachBytes)=nZ):
  ∃(sl:Sl) (ns:Δ),c=nV sl/\RdS (hF W) sl 1 (ns.map vB)/\(∀n∈ns,n<256)/\ns.length<=9000000000000000:=by
 obtain ⟨sl,r,rfl,A,B,C,_⟩:=Jo underlying22 underlying5 nP h D;have e:(r.map pc).map vB=r.map (Value.int .u8):=by rw [List.map_map];refine List.map_congr_left λz g=> ?_;obtain ⟨n,rfl,_⟩:=eL (B z g);simp only [Function.comp,N4]
 refine ⟨sl,r.map pc,rfl,by rw [e];exact A,λn E=> ?_,by rw [vb];exact MI A C⟩;obtain ⟨z,g,rfl⟩:=xR.1 E;obtain ⟨n,rfl,w⟩:=eL (B z g);rw [N4];exact w
theorem Gt {fuel:Nat} {cs:Ξ} {x:DataW H×List MemPlace} (h:DataW.trod enc prog W 0 (λ_=>nZ) nZ fuel 191 cs=mB x) (D:(x.1.weights prog 191).all (·<=reachBytes)=nZ):
  ∃o:Ln×Sl,cs=[vB o.1.left,o.2.v,vB o.1.cond,vB o.1.mark]/\(RdS (hF W) o.2 1 (o.1.right.map vB)/\o.1.left<256/\o.1.cond<256/\o.1.mark<256/\∀y∈o.1.right,y<256):=by
 obtain ⟨Q,n,_,rfl,C,r,g⟩:=DataW.trod_struct underlying191 h;rw [EL] at C
 match cs,C with
 |[c0,c1,c2,c3],_=>
 match Q,r with
 |[x0,x1,x2,x3],_=>
 have f0:=g 0 _ rfl;have A:=g 1 _ rfl;have f2:=g 2 _ rfl;have B:=g 3 _ rfl;simp only [X2,V6] at f0 A f2 B;obtain ⟨z0,J,_,E⟩:=DataW.trod_int underlying5 f0;obtain ⟨Z,P,_,G⟩:=DataW.trod_int underlying5 f2;obtain ⟨Y,L,_,I⟩:=DataW.trod_int underlying5 B;cases J;cases P;cases L;have w:(x1.1.weights prog 22).all (·<=reachBytes)=nZ:=by rw [Vq] at D ⊢;intro y M;refine D y ?_;simp only [DataW.weights,underlying191];exact DataW.weights_mem_each (j:=1) rfl rfl y M
 obtain ⟨O,N,rfl,R,X,_⟩:=iE A w;obtain ⟨U,rfl,F⟩:=eL E;obtain ⟨n2,rfl,V⟩:=eL G;obtain ⟨n3,rfl,K⟩:=eL I;exact ⟨⟨⟨U,N,n2,n3⟩,O⟩,rfl,R,F,V,K,X⟩
theorem Gu {fuel:Nat} {cs:Ξ} {x:DataW H×List MemPlace} (h:DataW.trod enc prog W 0 (λ_=>nZ) nZ fuel 194 cs=mB x) (U:(x.1.weights prog 194).all (·<=reachBytes)=nZ):
  ∃o:Ru,cs=[vB o.kind,vB o.a,vB o.b,vB o.c,vB o.cond]/\(o.kind<256/\o.a<256/\o.b<256/\o.c<256/\o.cond<256):=by
 obtain ⟨Q,n,_,rfl,B,r,g⟩:=DataW.trod_struct underlying194 h;rw [EM] at B
 match cs,B with
 |[c0,c1,c2,c3,c4],_=>
 match Q,r with
 |[x0,x1,x2,x3,x4],_=>
 have f0:=g 0 _ rfl;have w:=g 1 _ rfl;have f2:=g 2 _ rfl;have A:=g 3 _ rfl;have C:=g 4 _ rfl;simp only [X2,V6] at f0 w f2 A C;obtain ⟨z0,J,_,D⟩:=DataW.trod_int underlying5 f0;obtain ⟨z1,L,_,R⟩:=DataW.trod_int underlying5 w;obtain ⟨z2,P,_,F⟩:=DataW.trod_int underlying5 f2;obtain ⟨Z,M,_,G⟩:=DataW.trod_int underlying5 A;obtain ⟨z4,N,_,V⟩:=DataW.trod_int underlying5 C;cases J;cases L;cases P;cases M;cases N;obtain ⟨X,rfl,E⟩:=eL D;obtain ⟨n1,rfl,I⟩:=eL R;obtain ⟨n2,rfl,Y⟩:=eL F;obtain ⟨n3,rfl,K⟩:=eL G;obtain ⟨n4,rfl,O⟩:=eL V;exact ⟨⟨X,n1,n2,n3,n4⟩,rfl,E,I,Y,K,O⟩
theorem w6 {α g:Type} [Mem g] {F:PH} {cells:α->Ξ} {f:α->g}:∀{os:List α},(∀o∈os,Mem.rep F (f o) (cells o).toArray)->bT F (os.map f) (os.map λo=>(cells o).toArray)
 |[],_=> .nil
 |o::os,h=> .cons (h o (by simp)) (w6 λx r=>h x (by simp [r]))
theorem Kx {α:Type} (cells:α->Ξ) (os:List α):uX (os.map λo=>(cells o).toArray)=os.flatMap cells:=by unfold uX;rw [List.flatMap_map]
theorem Ky {fuel:Nat} {cs:Γ} {x:DataW H×List MemPlace} (h:DataW.trod enc prog W 0 (λ_=>nZ) nZ fuel 26 cs.toList=mB x) (g:(x.1.weights prog 26).all (·<=reachBytes)=nZ):
  ∃r:Rw,Gp (hF W) cs r:=by
 obtain ⟨xs,n,_,rfl,P,L,A⟩:=DataW.trod_struct underlying26 h;rw [EN] at P;obtain ⟨cs⟩:=cs
 match cs,P with
 |[c0,c1,c2,c3,c4],_=>
 match xs,L with
 |[x0,x1,x2,x3,x4],_=>
 have f0:=A 0 _ rfl;have N:=A 1 _ rfl;have f2:=A 2 _ rfl;have O:=A 3 _ rfl;have Q:=A 4 _ rfl;simp only [X2,V6] at f0 N f2 O Q;obtain ⟨z0,Z,_,U⟩:=DataW.trod_int underlying5 f0;obtain ⟨z1,e1,_,w1⟩:=DataW.trod_int underlying5 N;cases Z;cases e1;have B:(x2.1.weights prog 22).all (·<=reachBytes)=nZ:=by rw [Vq] at g ⊢;intro y w;refine g y ?_;simp only [DataW.weights,underlying26];exact DataW.weights_mem_each (j:=2) rfl rfl y w
 have E:(x3.1.weights prog 23).all (·<=reachBytes)=nZ:=by rw [Vq] at g ⊢;intro y w;refine g y ?_;simp only [DataW.weights,underlying26];exact DataW.weights_mem_each (j:=3) rfl rfl y w
 have K:(x4.1.weights prog 24).all (·<=reachBytes)=nZ:=by rw [Vq] at g ⊢;intro y w;refine g y ?_;simp only [DataW.weights,underlying26];exact DataW.weights_mem_each (j:=4) rfl rfl y w
 obtain ⟨sf,ns,rfl,G,a0,_⟩:=iE f2 B;obtain ⟨sl,ls,rfl,M,J,_,_⟩:=uR (k:=4) (cells:=λo:Ln×Sl=>[vB o.1.left,o.2.v,vB o.1.cond,vB o.1.mark]) underlying23 EL (by decide) (λ_=>rfl) Gt O E;obtain ⟨X,R,rfl,I,D,_,_⟩:=uR (k:=5) (cells:=λo:Ru=>[vB o.kind,vB o.a,vB o.b,vB o.c,vB o.cond]) underlying24 EM (by decide) (λ_=>rfl) Gu Q K;obtain ⟨n0,rfl,V⟩:=eL U;obtain ⟨n1,rfl,Y⟩:=eL w1;refine ⟨⟨n0,n1,ns,ls.map Prod.fst,R⟩,⟨sf,sl,X,rfl,G,⟨_,w6 (f:=Prod.fst) (cells:=λo:Ln×Sl=>[vB o.1.left,o.2.v,vB o.1.cond,vB o.1.mark]) λo C=> ?_,by rw [Kx];exact M⟩,⟨_,?_,by rw [Kx (λo:Ru=>[vB o.kind,vB o.a,vB o.b,vB o.c,vB o.cond])];exact I⟩⟩,V,Y⟩
 ·obtain ⟨h1,h2⟩:=J o C;exact ⟨o.2,rfl,h1,h2⟩
 ·have:=w6 (F:=hF W) (f:=λo:Ru=>o) (cells:=λo:Ru=>[vB o.kind,vB o.a,vB o.b,vB o.c,vB o.cond]) (os:=R) λo C=>⟨rfl,D o C⟩;rw [List.map_id'] at this;exact this
end
structure Nod where
 pr:Int
 tk:Int
 fr:Int
 to:Int
deriving DecidableEq
inductive Dtr where
 |lf (tk fr to:Int)
 |nd (pr fr to:Int) (ks:List Dtr)
def Dtr.root:Dtr->Nod
 | .lf tk fr to=>⟨-1,tk,fr,to⟩
 | .nd pr fr to _=>⟨pr,-1,fr,to⟩
def Dtr.kids:Dtr->List Dtr
 | .lf _ _ _=>[]
 | .nd _ _ _ ks=>ks
mutual
def vq:Dtr->List Nod
 | .lf tk fr to=>[⟨-1,tk,fr,to⟩]
 | .nd pr fr to ks=>⟨pr,-1,fr,to⟩::VI ks
def VI:List Dtr->List Nod
 |[]=>[]
 |n::l=>vq n++VI l
end
theorem lw (n:Dtr):vq n=n.root::VI n.kids:=by
 cases n with
 |lf=>unfold vq;rfl
 |nd=>unfold vq;rfl
def szN (n:Dtr):Nat:=(vq n).length
def xT (l:List Dtr):Nat:=(VI l).length
theorem cY (n:Dtr):szN n=1+xT n.kids:=by unfold szN xT;rw [lw,wo,XM]
theorem gr (n:Dtr):0<szN n:=by rw [cY];omega
theorem dH:xT []=0:=by unfold xT VI;rfl
theorem di (n:Dtr) (l:List Dtr):xT (n::l)=szN n+xT l:=by unfold xT szN;rw [VI,tT]
theorem ly:∀(l m:List Dtr),xT (l++m)=xT l+xT m
 |[],m=>by rw [zr,dH,yp]
 |n::l,m=>by rw [zH,di,di,ly l m,V7]
theorem Dtr.ind {P:Dtr->Prop} (g:∀A fr to,P (.lf A fr to)) (w:∀pr fr to ks,(∀k∈ks,P k)->P (.nd pr fr to ks)):∀n,P n:=λn=>
 Dtr.rec (motive_1:=P) (motive_2:=λks=>∀k∈ks,P k) g (λpr fr to ks ih=>w pr fr to ks ih) (λ_ h=>(by cases h)) (λn l w g k r=>by
  rcases tQ.1 r with rfl|r
  ·exact w
  ·exact g k r) n
mutual
def xP:Dtr->List Dtr
 | .lf tk fr to=>[.lf tk fr to]
 | .nd pr fr to ks=> .nd pr fr to ks::yj ks
def yj:List Dtr->List Dtr
 |[]=>[]
 |n::l=>xP n++yj l
end
theorem fm (n:Dtr):xP n=n::yj n.kids:=by
 cases n with
 |lf=>unfold xP;rfl
 |nd=>unfold xP;rfl
theorem sT:∀(l:List Dtr),(∀k∈l,(xP k).map Dtr.root=vq k)->(yj l).map Dtr.root=VI l
 |[],_=>by unfold yj VI;rfl
 |n::l,h=>by rw [yj,VI,yO,h n (by simp),sT l λk g=>h k (by simp [g])]
theorem jq:∀n:Dtr,(xP n).map Dtr.root=vq n:=Dtr.ind (λ_ _ _=>by unfold xP vq;rfl) λh r to g ih=>by rw [xP,vq,xV,sT g ih];rfl
theorem dI (n:Dtr):(xP n).length=szN n:=by unfold szN;rw [<- jq n,vb]
theorem w7 (l:List Dtr):(yj l).length=xT l:=by have:=congrArg List.length (sT l λk _=>jq k);rw [vb] at this;exact this
abbrev tW:=ByteArray×Int
structure Spc where
 opens:Bool
 decl:Nat
 kind:Int
 uses:Nat
 allow:Nat
section
variable (sp:Int->Spc) (tx:Int->Int->ο)
def WG (ks:List Dtr) (k:Nat):ο:=match ks[k - 1]? with
 |some n=>tx n.root.fr n.root.to
 |none=> .empty
def tY (pr:Int) (ks:List Dtr):List tW:=if 0<(sp pr).decl then [(WG tx ks (sp pr).decl,(sp pr).kind)] else []
mutual
def yL:Dtr->List tW
 | .lf _ _ _=>[]
 | .nd pr _ _ ks=>(if (sp pr).opens=nZ then [] else Vf ks)++tY sp tx pr ks
def Vf:List Dtr->List tW
 |[]=>[]
 |n::l=>yL n++Vf l
end
mutual
def zo (az:List tW):Dtr->List (List tW)
 | .lf _ _ _=>[az]
 | .nd _ _ _ ks=>az::Vy az ks
def Vy (az:List tW):List Dtr->List (List tW)
 |[]=>[]
 |n::l=>zo az n++Vy (az++yL sp tx n) l
end
theorem sU (az:List tW) (n:Dtr):zo sp tx az n=az::Vy sp tx az n.kids:=by
 cases n with
 |lf=>unfold zo;rfl
 |nd=>unfold zo;rfl
theorem sV:∀l m:List Dtr,Vf sp tx (l++m)=Vf sp tx l++Vf sp tx m
 |[],m=>by rw [zr,Vf,zr]
 |n::l,m=>by rw [zH,Vf,Vf,sV l m,yb]
theorem zx:∀(l:List Dtr),(∀k∈l,∀az,(zo sp tx az k).length=szN k)->∀az,(Vy sp tx az l).length=xT l
 |[],_,az=>by unfold Vy;rw [dH];rfl
 |n::l,h,az=>by rw [Vy,tT,h n (by simp),zx l (λk g=>h k (by simp [g])),di]
theorem iF:∀(n:Dtr) (az:List tW),(zo sp tx az n).length=szN n:=Dtr.ind (λ_ _ _ az=>by unfold zo szN vq;rfl) λh r to g ih az=>by rw [sU,wo,cY];show (Vy sp tx az g).length+1=1+xT g;rw [zx sp tx _ ih,XM]
end
def bP (n:Dtr) (i:Nat):Option Dtr:=(xP n)[i]?
theorem dT (n:Dtr):bP n 0=mB n:=by unfold bP;rw [fm];rfl
theorem sW:∀l m:List Dtr,yj (l++m)=yj l++yj m
 |[],m=>by rw [zr,yj,zr]
 |n::l,m=>by rw [zH,yj,yj,sW l m,yb]
def cQ (i:Nat) (ks:List Dtr) (k:Nat):Nat:=i+1+xT (ks.take k)
theorem gP {i:Nat} {ks:List Dtr} {k:Nat} {n:Dtr} (h:ks[k]? =mB n):cQ i ks (k+1)=cQ i ks k+szN n:=by unfold cQ;rw [Wj,h];show i+1+xT (ks.take k++[n])=_;rw [ly,di,dH];omega
theorem EO:∀(l:List Dtr),(∀k∈l,∀(i:Nat) (m:Dtr),bP k i=mB m->∃a b,xP k=a++xP m++b/\a.length=i)->∀(i:Nat) (m:Dtr),(yj l)[i]? =mB m->∃a b,yj l=a++xP m++b/\a.length=i
 |[],_,i,m,h=>by rw [yj] at h;simp at h
 |n::l,hk,i,m,h=>by
  rw [yj] at h ⊢;by_cases hi:i<(xP n).length
  ·rw [z8 hi] at h;obtain ⟨a,b,e,g⟩:=hk n (by simp) i m h;exact ⟨a,b++yj l,by rw [e];simp only [yb],g⟩
  ·rw [Vm (by omega)] at h;obtain ⟨a,b,e,g⟩:=EO l (λk h=>hk k (by simp [h])) _ m h;exact ⟨xP n++a,b,by rw [e];simp only [yb],by rw [tT,g];omega⟩
theorem sX:∀(n:Dtr) (i:Nat) (m:Dtr),bP n i=mB m->∃a b,xP n=a++xP m++b/\a.length=i:=Dtr.ind (λB r to i m h=>by
  unfold bP at h;rw [xP] at h;cases i with
  |zero=>cases h;exact ⟨[],[],by simp,rfl⟩
  |succ i=>simp at h) λA r to g ih i m h=>by
 cases i with
 |zero=>rw [dT] at h;cases h;exact ⟨[],[],by simp,rfl⟩
 |succ i=>unfold bP at h;rw [fm,V6] at h;obtain ⟨a,b,e,w⟩:=EO g ih i m h;refine ⟨.nd A r to g::a,b,?_,by rw [wo,w]⟩;rw [fm];show _::yj g=_;rw [e];simp
theorem Tb {n m:Dtr} {i:Nat} (h:bP n i=mB m):∃a b,vq n=a++vq m++b/\a.length=i:=by obtain ⟨a,b,e,g⟩:=sX n i m h;refine ⟨a.map Dtr.root,b.map Dtr.root,?_,by rw [vb,g]⟩;rw [<- jq n,e,yO,yO,jq]
theorem gQ {n m:Dtr} {i:Nat} (h:bP n i=mB m):(vq n)[i]? =mB m.root:=by rw [<- jq n,yr];unfold bP at h;rw [h];rfl
theorem jS {n m:Dtr} {i k:Nat} {c:Dtr} (h:bP n i=mB m) (w:m.kids[k]? =mB c):bP n (cQ i m.kids k)=mB c:=by
 obtain ⟨a,b,e,A⟩:=sX n i m h;have r:=(N6.1 w).1;have B:m.kids=m.kids.take k++c::m.kids.drop (k+1):=by have:=(WY k m.kids).symm;rw [XG r] at this;rw [(N6.1 w).2] at this;exact this
 unfold bP cQ;have g:yj m.kids=yj (m.kids.take k)++(xP c++yj (m.kids.drop (k+1))):=by have:=congrArg yj B;rw [sW,yj] at this;exact this
 rw [e,fm m,g,fm c,yb,Vm (by omega),A];rw [show i+1+xT (m.kids.take k) - i=xT (m.kids.take k)+1 by omega];rw [zH,V6,yb,Vm (by rw [w7];omega),w7,Yi];rfl
theorem Gv {l:List Dtr} {k:Nat} {c:Dtr} (h:l[k]? =mB c):l=l.take k++c::l.drop (k+1):=by have g:=(N6.1 h).1;have:=(WY k l).symm;rw [XG g,(N6.1 h).2] at this;exact this
section
variable (sp:Int->Spc) (tx:Int->Int->ο)
def eG (s:ο) (l:List tW):Int:=match l.reverse.find? λx=>decide (x.1=s) with
 |some x=>x.2
 |none=>0
def Xb (allow:Nat) (kind:Int):Bool:=decide (allow / 2 ^ kind.toNat % 2=1)
def XB (az:List tW):Dtr->Bool
 | .lf _ _ _=>nZ
 | .nd pr _ _ ks=>if (sp pr).uses=0 then nZ else Xb (sp pr).allow (eG (WG tx ks (sp pr).uses) az)
def Wm (n:Dtr):Δ:=(List.range (szN n)).filter λi=>match (zo sp tx [] n)[i]?,bP n i with
 |some s,mB m=> !XB sp tx s m
 |_,_=>nS
end
def mP:Int->Bool->List Nod->Int->Prop
 |at_,ex,[],to=>if ex=nZ then at_=to else at_<=to
 |at_,ex,n::l,to=>¬((ex=nZ/\n.fr≠at_)\/n.fr<at_)/\mP n.to (decide (0<=n.pr)) l to
theorem Ch (s:ο) (l:List tW) (x:tW):eG s (l++[x])=if x.1=s then x.2 else eG s l:=by
 unfold eG;rw [List.reverse_append,List.reverse_singleton,List.singleton_append,List.find?_cons];by_cases h:x.1=s
 ·rw [ε h,Χ h]
 ·rw [η h,Υ h]
def YL (s:ο) (l:List tW):Prop:=∀x∈l,x.1≠s
theorem Kz {s:ο} {l:List tW} (h:YL s l):eG s l=0:=by
 unfold eG;have:l.reverse.find? (λx=>decide (x.1=s))=nC:=List.find?_eq_none.2 λx g=>by have:=h x (List.mem_reverse.1 g);simpa using this
 rw [this]
theorem Gw {s:ο} {l m:List tW} (h:YL s m):eG s (l++m)=eG s l:=by
 unfold eG;have:m.reverse.find? (λx=>decide (x.1=s))=nC:=List.find?_eq_none.2 λx g=>by have:=h x (List.mem_reverse.1 g);simpa using this
 rw [List.reverse_append,List.find?_append,this];rfl
theorem Gx {s:ο} {l m:List tW} {x:tW} (h:YL s m) (g:x.1=s):eG s (l++x::m)=x.2:=by rw [show l++x::m=(l++[x])++m by simp,Gw h,Ch,Χ g]
section
variable {sp:Int->Spc} {tx:Int->Int->ο}
def W5 (K:Int->Prop) (l:List tW):Prop:=∀x∈l,K x.2
theorem Cj {K:Int->Prop}:∀(l:List Dtr),(∀k∈l,W5 K (yL sp tx k))->W5 K (Vf sp tx l)
 |[],_=>by unfold Vf;exact λx g=>(by cases g)
 |n::l,hk=>by
  rw [Vf];intro x g;rcases vl.1 g with g|g
  ·exact hk n (by simp) x g
  ·exact Cj l (λk h=>hk k (by simp [h])) x g
theorem qeY {K:Int->Prop} (h:∀p,0<(sp p).decl->K (sp p).kind):∀n:Dtr,W5 K (yL sp tx n):=Dtr.ind (λ_ _ _ x g=>by unfold yL at g;cases g) λr A to w ih x g=>by
 unfold yL at g;rcases vl.1 g with g|g
 ·split at g
  ·cases g
  ·exact Cj w ih x g
 ·unfold tY at g;by_cases hd:0<(sp r).decl
  ·rw [Χ hd,wa] at g;rw [g];exact h r hd
  ·rw [Υ hd] at g;cases g
end
def VM (i:Nat) (n:Dtr):Δ:=(xP n).mapIdx λj m=>i+j+szN m
def WQ (i:Nat) (l:List Dtr):Δ:=(yj l).mapIdx λj m=>i+j+szN m
theorem w8 (i:Nat) (n:Dtr):VM i n=(i+szN n)::WQ (i+1) n.kids:=by unfold VM WQ;rw [fm,List.mapIdx_cons];congr 1;congr 1;funext j m;omega
theorem KA (i:Nat) (n:Dtr) (l:List Dtr):WQ i (n::l)=VM i n++WQ (i+szN n) l:=by unfold VM WQ;rw [yj,List.mapIdx_append,dI];congr 1;congr 1;funext j m;omega
theorem jT (i:Nat) (n:Dtr):(VM i n).length=szN n:=by unfold VM;rw [List.length_mapIdx,dI]
theorem NI (i:Nat) (l:List Dtr):(WQ i l).length=xT l:=by unfold WQ;rw [List.length_mapIdx,w7]
theorem EP {n m:Dtr} {i j:Nat} (h:bP n j=mB m):(VM i n)[j]? =mB (i+j+szN m):=by unfold VM;unfold bP at h;rw [List.getElem?_mapIdx,h];rfl
theorem gR {n:Dtr} {j:Nat} (h:j<szN n):∃m,bP n j=mB m:=by unfold bP;exact ⟨_,N5 (by rw [dI];exact h)⟩
theorem eC {n m:Dtr} {j:Nat} (h:bP n j=mB m):j<szN n:=by unfold bP at h;have:=(N6.1 h).1;rwa [dI] at this
theorem sub_le {n m:Dtr} {j:Nat} (h:bP n j=mB m):j+szN m<=szN n:=by obtain ⟨a,b,e,g⟩:=sX n j m h;have:=congrArg List.length e;rw [tT,tT,dI,dI] at this;omega
theorem eD {n m:Dtr} {j:Nat} (h:bP n j=mB m):m∈xP n:=wh h
def V5 (g:Gr) (p:Int):Option Pr:=if 0<=p then g.qa0[p.toNat]? else nC
theorem bG {g:Gr} {p:Int} {x:Pr} (h:V5 g p=mB x):0<=p/\p.toNat<g.qa0.length/\g.qa0[p.toNat]? =mB x:=by
 unfold V5 at h;split at h
 ·exact ⟨by assumption,(N6.1 h).1,h⟩
 ·cases h
def XA (g:Gr):Dtr->Sy
 | .lf tk _ _=>⟨nZ,tk⟩
 | .nd pr _ _ _=>⟨nS,((V5 g pr).map Pr.left).getD 0⟩
def Gy (g:Gr):Dtr->Prop
 | .lf tk fr to=>0<=tk/\tk<g.qa2.length/\0<=fr/\fr<to
 | .nd pr fr to ks=>0<=fr/\fr<=to/\∃p,V5 g pr=mB p/\p.right=ks.map (XA g)
def dY (g:Gr) (n:Dtr):Prop:=∀m∈xP n,Gy g m
theorem dY.here {g:Gr} {n:Dtr} (h:dY g n):Gy g n:=h n (by rw [fm];exact Xw)
theorem EQ {n m:Dtr}:∀{ks:List Dtr},n∈ks->m∈xP n->m∈yj ks
 |k::l,h,hm=>by
  rw [yj,vl];rcases tQ.1 h with rfl|h
  ·exact .inl hm
  ·exact .inr (EQ h hm)
theorem dY.kid {g:Gr} {n k:Dtr} (h:dY g n) (w:k∈n.kids):dY g k:=λm r=>h m (by rw [fm];exact VB _ (EQ w r))
theorem dY.sub {g:Gr} {n m:Dtr} {i:Nat} (h:dY g n) (r:bP n i=mB m):dY g m:=λk w=>by obtain ⟨a,b,e,_⟩:=sX n i m r;exact h k (by rw [e];simp [w])
def WC (g:Gr) (L:List Nod) (T:Δ) (N:Nat):Nat->List (Nat×List Dtr)->Prop
 |j,[]=>j=N
 |j,(x,ks)::fs=>T[x]? =mB (j+xT ks)/\T.drop j=WQ j ks++T.drop (j+xT ks)/\L.drop j=VI ks++L.drop (j+xT ks)/\(∀k∈ks,dY g k)/\WC g L T N (j+xT ks) fs
section
variable {g:Gr} {L:List Nod} {T:Δ} {N:Nat}
theorem uS {α:Type} {l a:List α} {j n:Nat} {b:List α} (h:l.drop j=a++b) (r:a.length=n):l.drop (j+n)=b:=by rw [<- XJ,h,<- r,List.drop_left]
theorem KB {j x:Nat} {c:Dtr} {ks:List Dtr} {fs:List (Nat×List Dtr)} (h:WC g L T N j ((x,c::ks)::fs)):L[j]? =mB c.root/\dY g c/\WC g L T N (j+1) ((j,c.kids)::(x,ks)::fs):=by
 obtain ⟨F,w,A,D,C⟩:=h;rw [di] at F w A C;rw [KA,yb] at w;rw [VI,yb] at A;have e:=cY c;have H:=uS w (jT j c);have E:=uS (n:=szN c) A rfl;have G:=D c (by simp);have K:T[j]? =mB (j+szN c):=by have:=congrArg (λl=>l[0]?) w;rw [w8] at this;simpa using this
 have J:L[j]? =mB c.root:=by have:=congrArg (λl=>l[0]?) A;rw [lw] at this;simpa using this
 rw [w8,zH] at w;rw [lw,zH] at A;have f2:T.drop (j+1)=WQ (j+1) c.kids++(WQ (j+szN c) ks++T.drop (j+(szN c+xT ks))):=by rw [<- XJ,w];rfl
 have I:L.drop (j+1)=VI c.kids++(VI ks++L.drop (j+(szN c+xT ks))):=by rw [<- XJ,A];rfl
 have r:j+1+xT c.kids=j+szN c:=by omega
 refine ⟨J,G,?_,?_,?_,λk B=>G.kid B,?_,?_,?_,λk B=>D k (by simp [B]),?_⟩
 ·rw [K,r]
 ·rw [r,f2,H]
 ·rw [r,I,E]
 ·rw [F,r,V7]
 ·rw [r,H,V7]
 ·rw [r,E,V7]
 ·rw [r,V7];exact C
theorem NJ {j x:Nat} {fs:List (Nat×List Dtr)} (h:WC g L T N j ((x,[])::fs)):T[x]? =mB j/\WC g L T N j fs:=by obtain ⟨w,_,_,_,r⟩:=h;rw [dH] at w r;exact ⟨w,r⟩
theorem Ck {j:Nat}:∀{fs:List (Nat×List Dtr)},WC g L T N j fs->j<=N
 |[],h=>Nat.le_of_eq h
 | (x,ks)::fs,h=>by have:=Ck h.2.2.2.2;omega
theorem KC {n:Dtr} (h:dY g n):WC g (vq n) (VM 0 n) (szN n) 1 [(0,n.kids)]:=by
 have e:=cY n;refine ⟨?_,?_,?_,λk r=>h.kid r,?_⟩
 ·rw [w8,X2];congr 1;omega
 ·rw [w8,<- e,Xo,Vz];rw [show ((0+szN n)::WQ (0+1) n.kids:Δ).drop (szN n)=[] from Yq (by rw [wo,NI];omega),yD]
 ·rw [lw,<- e,Xo,Vz];rw [show (n.root::VI n.kids:List Nod).drop (szN n)=[] from Yq (by rw [wo];show xT n.kids+1<=_;omega),yD]
 ·show 1+xT n.kids=szN n;omega
end
section
variable (sp:Int->Spc) (tx:Int->Int->ο) {β:Type} (E:Nat->List tW->List β) (L:Nat->Nat->List tW->List β)
mutual
def Vk (i:Nat) (az:List tW):Dtr->List β
 | .lf _ _ _=>E i az++L i az.length az
 | .nd pr fr to ks=>E i az++Vj (i+1) az ks++L i az.length (az++yL sp tx (.nd pr fr to ks))
def Vj (i:Nat) (az:List tW):List Dtr->List β
 |[]=>[]
 |n::l=>Vk i az n++Vj (i+szN n) (az++yL sp tx n) l
end
end
section
variable {sp:Int->Spc} {tx:Int->Int->ο} {β:Type} {E:Nat->List tW->List β}
theorem uT:∀(l:List Dtr),(∀k∈l,∀i az,Vk sp tx E (λ_ _ _=>[]) i az k=((zo sp tx az k).mapIdx λj s=>E (i+j) s).flatten)->∀i az,Vj sp tx E (λ_ _ _=>[]) i az l=((Vy sp tx az l).mapIdx λj s=>E (i+j) s).flatten
 |[],_,i,az=>by unfold Vj Vy;rfl
 |n::l,h,i,az=>by rw [Vj,Vy,h n (by simp),uT l λk g=>h k (by simp [g]),List.mapIdx_append,List.flatten_append,iF];congr 2;congr 1;funext j s;rw [show i+szN n+j=i+(j+szN n) by omega]
theorem zy:∀(n:Dtr) (i:Nat) (az:List tW),Vk sp tx E (λ_ _ _=>[]) i az n=((zo sp tx az n).mapIdx λj s=>E (i+j) s).flatten:=Dtr.ind (λ_ _ _ i az=>by
  unfold Vk zo
  simp) λh r to g ih i az=>by
 rw [Vk,sU,List.mapIdx_cons,List.flatten_cons,yD];show E i az++Vj sp tx E (λ_ _ _=>[]) (i+1) az g=E (i+0) az++((Vy sp tx az g).mapIdx _).flatten;rw [uT g ih];congr 2;congr 1;funext j s;rw [show i+1+j=i+(j+1) by omega]
theorem Tc:∀(l:List (List tW)) (i:Nat) {x:List tW},l[i]? =mB x->(l.mapIdx λj s=>if 0+j=i then s else []).flatten=x:=by
 have key:∀(l:List (List tW)) (a i:Nat),i<a->(l.mapIdx λj s=>if a+j=i then s else []).flatten=[]:=λl a i h=>by rw [List.flatten_eq_nil_iff];intro y g;obtain ⟨j,r,rfl⟩:=List.mem_mapIdx.1 g;rw [Υ (by omega)]
 have go:∀(l:List (List tW)) (a i:Nat) (x:List tW),l[i]? =mB x->(l.mapIdx λj s=>if a+j=a+i then s else []).flatten=x:=by
  intro l;induction l with
  |nil=>intro a i x h;simp at h
  |cons y l ih=>
   intro a i x h;rw [List.mapIdx_cons,List.flatten_cons];cases i with
   |zero=>rw [X2] at h;cases h;rw [Χ rfl];have:=key l (a+1) a (by omega);rw [show (λ(j:Nat) (s:List tW)=>if a+(j+1)=a+0 then s else [])=λj s=>if a+1+j=a then s else [] from by funext j s;rw [show a+(j+1)=a+1+j by omega];rfl,this,yD]
   |succ i=>rw [V6] at h;rw [Υ (by omega),zr];have:=ih (a+1) i x h;rw [<- this];congr 2;funext j s;rw [show a+(j+1)=a+1+j by omega,show a+(i+1)=a+1+i by omega]
 intro l i x h;have:=go l 0 i x h;simp only [yp] at this ⊢;exact this
def Wo (i:Nat):Nat->Nat->List tW->List tW:=λk b s=>if k=i then s.drop b else []
theorem mQ:∀(l:List Dtr),(∀k∈l,∀i a az,i<a\/a+szN k<=i->Vk sp tx (λ_ _=>[]) (Wo i) a az k=[])->∀i a az,i<a\/a+xT l<=i->Vj sp tx (λ_ _=>[]) (Wo i) a az l=[]
 |[],_,i,a,az,_=>by unfold Vj;rfl
 |n::l,h,i,a,az,hi=>by rw [di] at hi;rw [Vj,h n (by simp) i a az (by omega),mQ l (λk g=>h k (by simp [g])) i _ _ (by omega)];rfl
theorem w9:∀(n:Dtr) (i a:Nat) (az:List tW),i<a\/a+szN n<=i->Vk sp tx (λ_ _=>[]) (Wo i) a az n=[]:=Dtr.ind (λw r to i a az h=>by
  rw [cY] at h;have:(Dtr.lf w r to).kids=[]:=rfl;unfold Vk Wo;rw [Υ (by omega)]
  rfl) λA r to g ih i a az h=>by
 rw [cY] at h;have h:i<a\/a+(1+xT g)<=i:=h;rw [Vk,mQ g ih i _ _ (by omega)];unfold Wo;rw [Υ (by omega)];rfl
theorem uU:∀(l:List Dtr),(∀k∈l,∀(j a:Nat) (m:Dtr) az,bP k j=mB m->Vk sp tx (λ_ _=>[]) (Wo (a+j)) a az k=yL sp tx m)->∀(j a:Nat) (m:Dtr) az,(yj l)[j]? =mB m->Vj sp tx (λ_ _=>[]) (Wo (a+j)) a az l=yL sp tx m
 |[],_,j,a,m,az,h=>by rw [yj] at h;simp at h
 |n::l,hk,j,a,m,az,h=>by
  rw [yj] at h;rw [Vj];by_cases g:j<(xP n).length
  ·rw [z8 g] at h;have:=eC h;rw [hk n (by simp) j a m az h,mQ l (λk _=>w9 k) _ _ _ (by omega),yD]
  ·rw [Vm (by omega)] at h;rw [dI] at h g;have:=uU l (λk h=>hk k (by simp [h])) (j - szN n) (a+szN n) m (az++yL sp tx n) h;rw [show a+szN n+(j - szN n)=a+j by omega] at this;rw [this,w9 n _ _ _ (by omega),zr]
theorem KD:∀(n:Dtr) (j a:Nat) (m:Dtr) (az:List tW),bP n j=mB m->Vk sp tx (λ_ _=>[]) (Wo (a+j)) a az n=yL sp tx m:=Dtr.ind (λA r to j a m az h=>by
  unfold bP at h;rw [xP] at h;cases j with
  |zero=>cases h;unfold Vk Wo yL;rw [Χ (show a=a+0 from rfl),XY];rfl
  |succ j=>simp at h) λw r to g ih j a m az h=>by
 cases j with
 |zero=>rw [dT] at h;cases h;rw [Vk,mQ g (λk _=>w9 k) _ _ _ (by omega)];unfold Wo;rw [Χ (show a=a+0 from rfl),List.drop_left];rfl
 |succ j=>unfold bP at h;rw [fm,V6] at h;have:=uU g ih j (a+1) m az h;rw [show a+1+j=a+(j+1) by omega] at this;rw [Vk,this];unfold Wo;rw [Υ (by omega),yD];rfl
def YH (sp:Int->Spc) (tx:Int->Int->ο) (n:Dtr):Nat->List tW->Δ:=λi s=>match bP n i with
 |some m=>if XB sp tx s m then [] else [i]
 |none=>[]
theorem oS {p:Nat->Bool}:∀l:Δ,(l.map λi=>if p i=nZ then [i] else []).flatten=l.filter p
 |[]=>rfl
 |x::l=>by
  rw [xV,List.flatten_cons,oS l];by_cases h:p x=nZ
  ·rw [Χ h,List.filter_cons_of_pos h];rfl
  ·rw [Υ h,List.filter_cons_of_neg h];rfl
theorem qeZ (n:Dtr):Vk sp tx (YH sp tx n) (λ_ _ _=>[]) 0 [] n=Wm sp tx n:=by
 rw [zy];unfold Wm;rw [<- oS];congr 1;refine Wp λi=> ?_;rw [List.getElem?_mapIdx,yr];by_cases hi:i<szN n
 ·obtain ⟨m,h⟩:=gR hi;rw [XK hi];have g:i<(zo sp tx [] n).length:=by rw [iF];exact hi
  rw [N5 g,VF,VF];congr 1;unfold YH;rw [yp,h];dsimp only;rw [N5 g];dsimp only;by_cases e:XB sp tx (zo sp tx [] n)[i] m=nZ
  ·simp [e]
  ·simp [e]
 ·rw [VP (by rw [iF];omega),VP (by rw [Wq];omega)];rfl
end
abbrev Nod.arr (x:Nod):Γ:= #[vi x.pr,vi x.tk,vi x.fr,vi x.to]
instance:Mem Nod where
 n:=4
 rep _ x c:=c=x.arr
 len h:=by rw [h];rfl
 le _ h:=h
 st h:=by rw [h];simp [ak]
abbrev mR (x:tW):Γ:= #[pg x.1,vi x.2]
instance:Mem tW where
 n:=2
 rep _ x c:=c=mR x
 len h:=by rw [h];rfl
 le _ h:=h
 st h:=by rw [h];simp [ak]
abbrev bB (l:List tW):Ξ:=l.flatMap λx=>(mR x).toList
theorem RL.nams {F:PH} {s:Sl} {l:List tW}:RL F s l↔RdS F s 2 (bB l):=RL.flat (f:=mR) (λ_ _ _=>Iff.rfl)
theorem kF (l m:List tW):bB (l++m)=bB l++bB m:=by simp [bB]
theorem iI:∀l:List tW,(bB l).length=l.length*2
 |[]=>rfl
 |x::l=>by have:=iI l;simp only [bB,VD,tT,wo] at this ⊢;rw [this];show 2+_=_;omega
theorem qid (l:List tW) (k:Nat):(bB l).take (k*2)=bB (l.take k):=by
 induction l generalizing k with
 |nil=>simp [bB]
 |cons x l ih=>
  cases k with
  |zero=>simp [bB]
  |succ k=>have:=ih k;simp only [bB,VD,Ys] at this ⊢;rw [Wr,<- this];rfl
theorem qie (l:List tW) (k:Nat):(bB l).drop (k*2)=bB (l.drop k):=by
 induction l generalizing k with
 |nil=>simp [bB]
 |cons x l ih=>
  cases k with
  |zero=>simp [bB]
  |succ k=>have:=ih k;simp only [bB,VD,Xo] at this ⊢;rw [Wr,<- this];rfl
theorem Gz (l:List tW):∀v∈bB l,ak v:=by intro v h;obtain ⟨x,_,g⟩:=XX.1 h;simp at g;rcases g with rfl|rfl<;>simp [ak]
structure Vio where
 i:Nat
abbrev Vio.arr (x:Vio):Γ:= #[vi 6,vi (x.i:Int),vi 0]
instance:Mem Vio where
 n:=3
 rep _ x c:=c=x.arr
 len h:=by rw [h];rfl
 le _ h:=h
 st h:=by rw [h];simp [ak]
def gS (s:Sl) (e n:Nat) (vs:Ξ):Ψ:=λH=>bO H e n s vs\/(RdS H s n vs/\s.len=s.cap)
theorem gS.rd {s:Sl} {e n:Nat} {vs:Ξ} {H:PH} (h:gS s e n vs H):RdS H s n vs:=h.elim bO.rd λh=>h.1
theorem gS.nil {e n:Nat} {H:PH}:gS pk e n [] H:=.inl (.inl ⟨rfl,rfl⟩)
theorem gS.cut {s:Sl} {e n k:Nat} {vs:Ξ} {H:PH} (h:gS s e n vs H) (g:k<=s.len):gS (s.cut n 0 k k) e n (vs.take (k*n)) H:=by refine .inr ⟨?_,rfl⟩;have:=h.rd.cut (l:=0) (r:=k) (m:=k) (yM _) g (tI _);rw [V9,Vz,VV] at this;exact this
namespace St
section
variable {G F:PH} {As:List (Ψ)} {t e n bytes:Nat} {z:ξ}
theorem sownRd (h:St G F As) {i:Nat} {s:Sl} {vs:Ξ} (hi:As[i]? =mB (gS s e n vs)):RdS F s n vs:=by obtain ⟨H,r,_,g⟩:=h.get hi;exact r.rd.le g
theorem spushAt (T:SlT t e n bytes z) {s:Sl} {olds:Ξ} {c:Γ} {ty:TypeId} (h:St G F As) (i:Nat) (hi:As[i]? =mB (gS s e n olds)) (I:c.size=n) (J:∀v∈c.toList,ak v) (V:s.len<=400000000000) {K:Sl->Ψ}
  (k:∀A Y N,G.le Y->St Y N (As.set i (gS A e n (olds++c.toList)))->A.len=s.len+1->K A N):
  ∀b,F b=nC->wn (F.set b (mX c e)) λF=>aH prog (Builtin.append_ #[t,t] ty #[s.v,nV (tX (mB (pd b 0 nC)) 1 1)]) F λv F=>∃A:Sl,v=nV A/\K A F:=by
 refine h.newG λP X Q Z q1 _ h=> ?_;have g:RdS Q (tX (mB (pd P 0 nC)) 1 1) n c.toList:=RdS.new (h.le _ _ q1) (yY (by rw [zA,I,Wk];exact tI _)) (by rw [zA,I,Wk]) (tI _);have E:i<As.length:=(N6.1 hi).1;obtain ⟨H,C,a2,a3,a4⟩:=h.set (A':=own s e n olds) hi;rcases C with C|⟨C,a5⟩
 ·have ho:=a4 H Q C (λb D=> .inl D) a3 λb o D _=>D;refine ho.appAt T i (X3 E) g J (by show s.len+1<=_;omega) λA N U hl=> ?_;rw [List.set_set] at U;have W:=U.imp (A':=gS A e n (olds++c.toList)) i (X3 E) λ_ _ hH=> .inl hH;rw [List.set_set] at W;exact k A X N Z W hl
 ·have w:=C.len;have B:=g.len;refine fc T.ht T.hsz T.hz T.hzs (C.le a3) g J (zJ T.hb (by show s.len+1<=_;omega)) (by show s.len+1<=_;omega) (λh0=> ?_) (λ_ h1=> ?_) λ_ cap b r D=> ?_
  ·have:=Nat.mul_pos (show 0<(tX (mB (pd P 0 nC)) 1 1).len from Nat.one_pos) T.hn;omega
  ·have:s.len+1<=s.cap:=h1;omega
  ·have r:s.len+1<=cap:=r;have B:c.toList.length=1*n:=B;refine ⟨_,rfl,?_⟩;generalize M:olds.toArray++c.toList.toArray++Builtin.zeroCells z.cells (cap - (s.len+(tX (mB (pd P 0 nC)) 1 1).len))=L;have O:L.size=cap*n:=by rw [<- M];simp [Builtin.zeroCells,T.hzs,w];rw [I,<- V7,show s.len*n+n=(s.len+1)*n by rw [Wr],<- Wa];congr 1;omega
   have R:L.toList.take ((s.len+1)*n)=olds++c.toList:=by rw [<- M];simp only [YV,Zl];rw [WJ (by simp [w,I,Wa]),yY (by simp [w,I,Wa])]
   obtain ⟨H,c1,c2,c3,c4⟩:=h.set (A':=gS (tX (mB (pd b 0 nC)) (s.len+1) cap) e n (olds++c.toList)) hi;refine k _ X _ Z (c4 (PH.set (λ_=>nC) b (mX L e)) (Q.set b (mX L e)) (.inl (.inr ⟨b,L,rfl,aq _ _ _,O,r,?_,R⟩)) (λx g=> ?_) (λx p g=> ?_) λx p g hn=> ?_) rfl
   ·rw [tT,w,B,Wa]
   ·by_cases e:x=b
    ·rw [e];exact .inr D
    ·rw [aw _ _ e] at g;exact absurd rfl g
   ·by_cases e:x=b
    ·rw [e,aq] at g ⊢;exact g
    ·rw [aw _ _ e] at g;cases g
   ·have e:x≠b:=λe=>by subst e;rw [D] at g;cases g
    rw [aw _ _ e];exact g
end
end St
variable {R:VR} {F:PH}
set_option maxHeartbeats 4000000
def Xp (e:Γ) (b:Int) (f:Sl) (R:VR) (F:PH):Prop:=Nb F (mX e 39) λh F=>Lr F 9 (Am h 0) λg=>Ci 45 #[oc g,tJ .u64 b] F λa F=>Bc (a≠0) (R (vi a) F) (Lr F 9 (Am h 0) λc=>Cs 46 #[oc c,tJ .u64 b,nV f] F λd F=>Bb ((d.qa5.isNone)) (R (vi 90) F) (R (vi 0) F))
theorem qf0 {a:Γ} {b:Int} {c:Sl} (h:Xp a b c R F):ν 22 #[oc a,tJ .u64 b,nV c] F R:=Rx.Λ .N h
def Xq (j:Γ) (c:Sl) (a:Int) (R:VR) (F:PH):Prop:=Nb F (mX j 39) λk F=>Lr F 9 (Am k 0) λf=>Ci 47 #[oc f] F λd F=>Bc (d≠0) (R (sj #[nV pk,(vi d)]) F) (Lr F 9 (Am k 0) λg=>Cs 48 #[oc g,nV c] F λe F=>Bb ((e.qa5.isNone)) (R (sj #[nV pk,(vi 90)]) F) (Bc (a<0) (R (sj #[nV pk,(vi 1)]) F) (Bc ((c.len:Int)<=a) (R (sj #[nV pk,(vi 1)]) F) (Ix e a λh=>Li F (od h (pc a*1)) λb=>0<=a/\0<=b/\(pc a)<=(pc b)/\(pc b)<=c.cap/\Cs 51 #[nV (xy c 4 (pc a) (pc b) c.cap)] F λi F=>R (sj #[nV i,(vi 0)]) F))))
theorem qf1 {a:Γ} {b:Sl} {c:Int} (h:Xq a b c R F):ν 26 #[oc a,nV b,(vi c)] F R:=Rx.Λ .N h
def Xr (d:Γ) (e:Int) (R:VR) (F:PH):Prop:=Nb F (mX d 39) λg F=>Lr F 9 (Am g 0) λf=>Ci 47 #[oc f] F λa F=>Bc (a≠0) (R (vi a) F) (Lr F 9 (Am g 0) λb=>vc 75 #[oc b,tJ .u64 e] F λc F=>Bb ((!c)) (R (vi 1) F) (R (vi 0) F))
theorem qf3 {a:Γ} {b:Int} (h:Xr a b R F):ν 45 #[oc a,tJ .u64 b] F R:=Rx.Λ .N h
def KE (a:Sl) (R:VR) (F:PH):Prop:=R (nV a) F
def xa (c:Ω) (_:Int) (_:Sl) (_:Nat) (_:Sl) (a:Int) (_:VR) (F:PH):Prop:=c (i64.wrap (a+1)) F
def Cm (u:Ω) (d:Int) (c:Sl) (s:Nat) (b:Sl) (R:VR) (a:Int) (F:PH):Prop:=Bc (a<(c.len:Int)) (Ix c a λg=>Lr F 4 (od g (pc a*4)) λh=>Nb F (mX (#[vi 0,vi 0,vi 0,vi 0]) 47) λt F=>aB F (Am t 0) 4 h λF=>Li F (Am t 0) λi=>Bc (i<0) (Ls F (Am s 3) λj=>Li F (Am t 1) λe=>Ix j e λk=>Lr F 2 (od (od k (pc e*7)) 5) λl=>vc 76 #[oc l,tJ .u64 d] F λm F=>Bb ((!m)) (R (nV pk) F) (xa u d c s b a R F)) (Ls F (Am s 5) λn=>Li F (Am t 0) λf=>Ix n f λo=>Lr F 2 (od (od o (pc f*13)) 3) λp=>vc 76 #[oc p,tJ .u64 d] F λq F=>Bb ((!q)) (R (nV pk) F) (vc 77 #[nV c,nV b,(vi a)] F λr F=>Bb ((!r)) (R (nV pk) F) (xa u d c s b a R F)))) (KE b R F)
def Xs (n:Γ) (o:Int) (a:Sl) (R:VR) (F:PH):Prop:=Nb F (mX n 39) λm F=>Lr F 9 (Am m 0) λd=>Cs 48 #[oc d,nV a] F λb F=>Bb ((b.qa5.isNone)) (R (nV pk) F) (Ix a 0 λe=>Li F (od e (pc 0*4)) λf=>Bc (f<0) (R (nV pk) F) (Ls F (Am m 5) λg=>Ix a 0 λh=>Li F (od h (pc 0*4)) λc=>Ix g c λi=>Li F (od (od i (pc c*13)) 1) λj=>Li F (Am m 6) λk=>Bc (j≠k) (R (nV pk) F) (Lp 0 F λN l F=>Cm N o a m b R l F)))
theorem qf4 {a:Γ} {b:Int} {c:Sl} (h:Xs a b c R F):ν 46 #[oc a,tJ .u64 b,nV c] F R:=Rx.Λ (.qa8 (.qa8 (.qa8 (.J nS [] (.qa8 (.L [(38,.int .i64)] (.qa8 (.qa8 (.J nS [] .N .N))))) .N)))) h
def Xt (c:Γ) (d:Sl) (R:VR) (F:PH):Prop:=Nb F (mX c 39) λf F=>Nb F (mX #[nV d] 43) λg F=>Lr F 9 (Am f 0) λa=>Ls F (Am g 0) λe=>a.size=9/\Cs 82 #[oc (tL (tL (wr (#[.slice nC 0 0,.slice nC 0 0,vi 0,.slice nC 0 0,.slice nC 0 0,.slice nC 0 0,vi 0,.slice nC 0 0,.slice nC 0 0,vi 0,.nilFunc]:Γ) 0 a.toList) 9 (vi (e.len:Int))) 10 (.func (.func 81) #[] #[(Pp g),(Pp f)]))] F λb F=>R (nV b) F
theorem qf5 {a:Γ} {b:Sl} (h:Xt a b R F):ν 48 #[oc a,nV b] F R:=Rx.Λ .N h
def Xu (h:Int) (z i:Θ) (R:VR) (F:PH):Prop:=∃f,z=mB f/\Ls F f λA=>Ix A h λj=>Lr F 4 (od j (pc h*4)) λk=>Nb F (mX (#[vi 0,vi 0,vi 0,vi 0]) 47) λc F=>aB F (Am c 0) 4 k λF=>Li F (Am c 0) λl=>Bc (l=(-1:Int)) (Li F (Am c 1) λd=>Li F (Am c 1) λm=>Bc (0<=m) (Li F (Am c 1) λn=>∃g,i=mB g/\Ls F (od g 3) λo=>Bc (n<(o.len:Int)) (Li F (Am c 2) λp=>Bc (0<=p) (Li F (Am c 2) λq=>Li F (Am c 3) λr=>R (sj #[(vi (-1:Int)),(vi d),oY (decide (q<r))]) F) (R (sj #[(vi (-1:Int)),(vi d),oY nS]) F)) (R (sj #[(vi (-1:Int)),(vi d),oY nS]) F)) (R (sj #[(vi (-1:Int)),(vi d),oY nS]) F)) (Li F (Am c 0) λa=>Li F (Am c 1) λb=>Li F (Am c 0) λs=>Bc (0<=s) (Li F (Am c 0) λt=>∃e,i=mB e/\Ls F (od e 5) λu=>Bc (t<(u.len:Int)) (Li F (Am c 1) λv=>Bc (v=(-1:Int)) (Li F (Am c 2) λw=>Bc (0<=w) (Li F (Am c 2) λx=>Li F (Am c 3) λy=>R (sj #[(vi a),(vi b),oY (decide (x<=y))]) F) (R (sj #[(vi a),(vi b),oY nS]) F)) (R (sj #[(vi a),(vi b),oY nS]) F)) (R (sj #[(vi a),(vi b),oY nS]) F)) (R (sj #[(vi a),(vi b),oY nS]) F))
theorem aaa {a:Int} {b:Θ} {c:Θ} (h:Xu a b c R F):ν 81 #[(vi a),.pointer b,.pointer c] F R:=Rx.Λ .N h
def KG (b a:Sl) (R:VR) (F:PH):Prop:=Bc ((0:Int)<(a.len:Int)) (R (nV pk) F) (R (nV b) F)
def xd (e:Sl->Ω) (_:Nat) (_:Sl) (_ b:Int) (a:Sl) (_:VR) (F:PH):Prop:=e a (i64.wrap (b+1)) F
def Co (j:Sl->Ω) (l:Sl->Ψ) (k:Nat) (c:Sl) (d f:Int) (R:VR) (a:Sl) (F:PH):Prop:=Bc ((0:Int)<(a.len:Int)) (Ix a (i64.wrap ((a.len:Int) - 1)) λi=>∃e,F.cell (od (od i (pc (i64.wrap ((a.len:Int) - 1))*2)) 1)=mB (nV e)/\Bc ((e.len:Int)=0) (Ix a (i64.wrap ((a.len:Int) - 1)) λg=>∃b,F.cell (od g (pc (i64.wrap ((a.len:Int) - 1))*2))=mB (vi b)/\Ix c b λh=>rj F (od h (pc b*1)) (vi (i64.wrap (d+1))) λF=>0<=(i64.wrap ((a.len:Int) - 1))/\0<=(pc (i64.wrap ((a.len:Int) - 1)))/\(pc (i64.wrap ((a.len:Int) - 1)))<=a.cap/\l (xy a 2 0 (pc (i64.wrap ((a.len:Int) - 1))) a.cap) F) (xd j k c f d a R F)) (xd j k c f d a R F)
def xe (k:Sl->Ω) (l:Nat) (e c:Sl) (d f:Int) (b:Sl) (R:VR) (F:PH):Prop:=(#[(vi d),nV b]:Γ).size=2/\Nb F (mX (#[(vi d),nV b]:Γ) 223) λi F=>Ap 219 #[nV c,nV (Sb i 1)] F λg F=>(∃(j:Nat->Sl->Ψ) (h:Nat),j h g F/\∀h a F,j h a F-> Co k (WX j h) l e d f R a F)
def xf (j:Sl->Ω) (i:Nat) (c a:Sl) (d b e:Int) (R:VR) (F:PH):Prop:=Bc (0<=b) (Ls F (Am i 5) λf=>Ix f b λg=>Ls F (od (od g (pc b*13)) 2) λh=>xe j i c a d e h R F) (xe j i c a d e pk R F)
def sY (s:Sl->Ω) (r:Nat) (e a:Sl) (f c d g:Int) (R:VR) (F:PH):Prop:=Lr F 9 (Am r 0) λj=>Ca 118 #[oc j,(vi c),(vi d)] F λk F=>Nb F (mX (#[oY nS,vi 0]) 130) λt F=>aB F (Am t 0) 2 k λF=>Bc ((0:Int)<=(i64.wrap ((a.len:Int) - 1))) (Lr F 2 (Am t 0) λl=>Ix a (i64.wrap ((a.len:Int) - 1)) λm=>∃h,F.cell (od (od m (pc (i64.wrap ((a.len:Int) - 1))*2)) 1)=mB (nV h)/\Ix h 0 λn=>Lr F 2 (od n (pc 0*2)) λo=>∃i,(∀F,s9 prog (Op.equal 130 (oc l) (oc o)) F i)/\Bb ((!i)) (R (nV pk) F) (Ix a (i64.wrap ((a.len:Int) - 1)) λp=>∃b,F.cell (od (od p (pc (i64.wrap ((a.len:Int) - 1))*2)) 1)=mB (nV b)/\1<=b.len/\b.len<=b.cap/\Ix a (i64.wrap ((a.len:Int) - 1)) λq=>rj F (od (od q (pc (i64.wrap ((a.len:Int) - 1))*2)) 1) (nV (xy b 2 1 b.len b.cap)) λF=>xf s r e a f c g R F)) (xf s r e a f c g R F)
def Cp (m:Sl->Ω) (k:Nat) (e:Sl) (f:Int) (R:VR) (a:Sl) (c:Int) (F:PH):Prop:=Bc (c<f) (∃h:ξ,F.cell (Am k 10)=mB h/\Fn h λl i j=>aj prog l (i++([(vi c)]).toArray++j) F λv F=>∃g,∃b,∃d,v=(sj #[(vi g),(vi b),(oY d)])/\Bb ((!d)) (R (nV pk) F) (Bc (0<c) (Bc ((a.len:Int)=0) (R (nV pk) F) (sY m k e a c g b f R F)) (sY m k e a c g b f R F))) (KG e a R F)
def Xv (j:Γ) (R:VR) (F:PH):Prop:=Nb F (mX j 175) λe F=>Li F (Am e 9) λf=>Bc (f=0) (R (nV pk) F) (Li F (Am e 9) λg=>Bc (2000000<g) (R (nV pk) F) (Li F (Am e 9) λb=>aH prog (Instr.makeSlice 76 (vi b) (vi b)) F λv F=>∃c,v=(nV c)/\Li F (Am e 9) λh=>(∃(k:Nat->Sl->Ω) (i:Nat),k i pk 0 F/\∀i a d F,k i a d F-> Cp (Wf k i) e c h R a d F)))
theorem aab {a:Γ} (h:Xv a R F):ν 82 #[oc a] F R:=Rx.Λ (.qa8 (.qa8 (.qa8 (.qa8 (.J nS [(4,.sl)] (.qa8 (.L [(4,.sl),(25,.int .i64)] (.qa8 (.qa8 (.J nS [(4,.sl)] (.qa8 (.qa8 (.J nS [] .N (.qa8 (.J nS [] .N (.qa8 (.J nS [(11,.sl)] .N (.qa8 (.L [(4,.sl)] .N))))))))) .N))))) .N))))) h
def PU (g:Γ) (a b:Int) (R:VR) (F:PH):Prop:=Nb F (mX g 39) λh F=>Nb F (mX (#[oY nS,vi 0]) 130) λf F=>Bc (a<0) (aB F (Am f 0) 2 (#[oY nZ,(vi b)]:Γ) λF=>Rr 2 (Am f 0) R F) (Ls F (Am h 5) λc=>Ix c a λd=>Li F (od (od d (pc a*13)) 1) λe=>aB F (Am f 0) 2 (#[oY nS,(vi e)]:Γ) λF=>Rr 2 (Am f 0) R F)
theorem qe0 {c:Γ} {a:Int} {b:Int} (h:PU c a b R F):ν 118 #[oc c,(vi a),(vi b)] F R:=Rx.Λ .N h
