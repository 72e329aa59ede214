/-
  The codec that reads: lists, some numbers.
-/
import Derived.Test.YtenpmjhnhepfdaaGreatDoorJk
namespace Go.Proofs.YtenpmjhnhepfdaaGreatDoor
open Go Go.Proofs.Tryz
set_option maxRecDepth 10000
theorem DD {w:Array Value} {o:Nat} {v:Value} (h:w[o]? =some v):w.setIfInBounds o v=w:=by
 have ho:=(Array.getElem?_eq_some_iff.1 h).1
 apply Array.ext_getElem?
 intro i
 rw [Array.getElem?_setIfInBounds]
 split
 ·rename_i e;subst e;exact h.symm
 ·rfl
theorem yX {w:Array Value} {o:Nat} {u v:Value} (h:w[o]? =some u):(w.setIfInBounds o v)[o]? =some v:=by
 have ho:=(Array.getElem?_eq_some_iff.1 h).1
 rw [Array.getElem?_setIfInBounds,if_pos rfl,if_pos ho]
theorem Fo (w:Array Value) (o:Nat) (u v:Value):(w.setIfInBounds o u).setIfInBounds o v=w.setIfInBounds o v:=by
 apply Array.ext_getElem?
 intro i
 simp only [Array.getElem?_setIfInBounds,Array.size_setIfInBounds]
 split<;>rfl
theorem vf {α:Type} (d:Ps α) (k:Nat) (l:List Nat):dV d (k+1) l=(d l).bind fun q=>(dV d k q.2).map fun p=>(q.1::p.1,p.2):=by
 rw [dV]
 cases d l with
 |none=>rfl
 |some q=>
  obtain ⟨x,r⟩:=q
  simp only [Option.bind_some]
  cases dV d k r<;>rfl
theorem St.rcBad {G F:PH} {As:List (PH→Prop)} {s:Sl} {B:List Nat} {bc:Nat} {r:Option (List Nat)} (h:St G F (rcS s B bc r::As)):F.cell (Addr.mk bc 3 none)=some (.bool r.isNone)∧F.cell (Addr.mk bc 0 none)=some (vi 1):=by
 obtain ⟨k,_,h⟩:=h.exR
 exact ⟨h.ld0 rfl,h.ld0 rfl⟩
theorem St.rcB {G F G':PH} {As:List (PH→Prop)} {s:Sl} {B:List Nat} {bc:Nat} {r:Option (List Nat)} (h:St G F (rcS s B bc r::As)) (K:Rd G' s B):∀l,r=some l→∀b∈l,b<256:=fun l e b hb=>by
 obtain ⟨k,⟨_,hl⟩,_⟩:=h.exR
 exact K.b b (List.mem_of_mem_drop (by rw [hl l e];exact hb))
theorem St.cw {G F:PH} {As:List (PH→Prop)} {p:PH→Prop} {b e:Nat} {w w':Array Value} (h:St G F (p::pt b (.cells w e)::As)) (hw:w=w'):St G F (p::pt b (.cells w' e)::As):=hw▸h
theorem gf {α:Type} {d:Ps α} {r r':Option (List Nat)} {y:α} (h:Res d r y r') (hr:r=none):r'=none:=by subst hr;exact h
theorem Res.bad {α:Type} {d:Ps α} {r r':Option (List Nat)} {y z:α} (h:Res d r y r') (hr:r'=none):Res d r z r':=by
 subst hr
 cases r with
 |none=>rfl
 |some l=>
  unfold Res at*
  dsimp only at*
  cases h1:d l with
  |none=>rfl
  |some q=>rw [h1] at h;cases h.2
def gJ (ld:PH→Nat→(Array Value→Prop)→Prop) (z:Array Value) (e t:Nat) (one:Value) (la:Addr) (N:Int→PH→Prop) (i:Int) (F:PH):Prop:=
 Nb F (.cells z e) fun b8 F=>Fn one fun k f c=>ac prog k (f++([(Value.pointer (some (Am b8 0)))]).toArray++c) F fun v F=>v=(Value.tuple #[])∧
 Ls F la fun v44=>ld F b8 fun v45=>Nb F (.cells v45 e) fun b46 F=>Ap t #[(Sl.v v44),(Sl.v (Sb b46 1))] F fun v47 F=>sto F la (Sl.v v47) fun F=>N (IntKind.i64.wrap (i+(1:Int))) F
def ldS (n:Nat) (F:PH) (b:Nat) (K:Array Value→Prop):Prop:=Lr F n (Am b 0) fun v=>v.size=n∧K v
def ldX (F:PH) (b:Nat) (K:Array Value→Prop):Prop:=Lx F (Am b 0) fun v=>K #[.string v]
def ldI (F:PH) (b:Nat) (K:Array Value→Prop):Prop:=Li F (Am b 0) fun v=>K #[.int .i64 v]
section
variable {α:Type} [Mem α] {G F:PH} {As:List (PH→Prop)} {s:Sl} {B:List Nat} {bc b o e0:Nat} {r:Option (List Nat)} {w:Array Value}
def fG (α:Type) [Mem α] (G:PH) (s:Sl) (B:List Nat) (bc:Nat) (d:Ps α) (k:Nat) (args:Value→Array Value) (z:Array Value) (e:Nat):Prop:=
 ∀G1 F1 r1 b8 As1,G.le G1→St G1 F1 (rcS s B bc r1::pt b8 (.cells z e)::As1)→ac prog k (args (.pointer (some (Addr.mk b8 0 none)))) F1 fun res F'=>res=.tuple #[]∧∃G' y r' c,G1.le G'∧Res d r1 y r'∧Mem.rep G' y c∧St G' F' (rcS s B bc r'::pt b8 (.cells c e)::As1)
theorem fH {d:Ps α} (K:Rd G s B) (h:St G F (rcS s B bc r::pt b (.cells w e0)::As)) (hv:w[o]? =some (Sl.v Sl.nil)) {n:Nat} (hn:Mem.n α=n)
  {t e bytes:Nat} {zz:Value} (T:SlT t e (Mem.n α) bytes zz) {z:Array Value} {ld:PH→Nat→(Array Value→Prop)→Prop} (hld:∀F b8 c K,(∃G x,Mem.rep (α:=α) G x c)→F b8=some (.cells c e)→K c→ld F b8 K)
  {k:Nat} {fst cap:Array Value} (hk:au prog k=true) {args:Value→Array Value} (ha:∀p,fst++([p]).toArray++cap=args p) (hone:fG α G s B bc d k args z e)
  {L:(Int→PH→Prop)→Option Addr→Addr→Value→Int→VR→Int→PH→Prop} (hL:∀N c0 l1 o' v R i F,L N c0 l1 o' v R i F=cL n (fun _=>gJ ld z e t o' l1 N i F) N c0 l1 o' v R i F):
  gF L (some (Addr.mk bc 0 none)) (some (Addr.mk b o none)) (.func (.func k) fst cap) (fun res F'=>res=.tuple #[]∧∃G' ys sl r',G.le G'∧Res (dL d) r ys r'∧RL G' sl ys∧St G' F' (rcS s B bc r'::pt b (.cells (w.setIfInBounds o (Sl.v sl)) e0)::As)) F:=by
 have ho:=(Array.getElem?_eq_some_iff.1 hv).1
 have hB:=K.l
 refine ⟨_,rfl,Sl.nil,h.ld1 hv,?_⟩
 refine (yW K _ h).mono ?_
 rintro _ F2 ⟨m,r1,rfl,hr,hm,hm2,h⟩
 have hmB:m≤B.length:=by
  cases r1 with
  |none=>rw [hm rfl];omega
  |some l1=>
   obtain ⟨k',⟨hk',hl⟩,_⟩:=h.exR
   have h1:=hm2 l1 rfl
   rw [← hl l1 rfl,List.length_drop] at h1
   omega
 refine ⟨_,rfl,?_⟩
 refine bW (L · _ _ _ _ _) m (fun i F'=>∃G1 xs vs sl ri,G.le G1∧cZ (α:=α) G1 xs vs∧xs.length=i∧(r1=none→ri=none)∧(∀l1,r1=some l1→dV d m l1=Option.bind ri fun li=>(dV d (m - i) li).map fun q=>(xs++q.1,q.2))∧sl.len=i∧
  St G1 F' (rcS s B bc ri::pt b (.cells (w.setIfInBounds o (Sl.v sl)) e0)::own sl e (Mem.n α) (cat vs)::As)) ⟨G,[],[],Sl.nil,r1,le_refl' _,.nil,rfl,id,fun l1 e1=> ?_,rfl,?_⟩ ?_
 ·rw [e1]
  simp
 ·rw [DD hv]
  exact (h.nilOwn e (Mem.n α)).back2
 rintro i F3 N hi ⟨G1,xs,vs,sl,ri,l1,hreps,hxs,hrel1,hrel2,hsl,h⟩ next
 have fin:(i=m∨ri=none)→(Value.tuple #[]=Value.tuple #[]∧∃G' ys sl r',G.le G'∧Res (dL d) r ys r'∧RL (α:=α) G' sl ys∧St G' F3 (rcS s B bc r'::pt b (.cells (w.setIfInBounds o (Sl.v sl)) e0)::As)):=fun hc=>by
  obtain ⟨G2,l2,hd,h2⟩:=h.front2.pinO
  refine ⟨rfl,G2,xs,sl,ri,aa l1 l2,?_,⟨vs,hreps.le l2,hd⟩,h2⟩
  cases r with
  |none=>exact hrel1 hr
  |some l=>
   unfold Res dL at*
   dsimp only at*
   cases h1:dC l with
   |none=>rw [h1] at hr;exact hrel1 hr
   |some q=>
    obtain ⟨m',l1'⟩:=q
    rw [h1] at hr
    obtain ⟨rfl,e1⟩:=hr
    dsimp only
    rw [hrel2 l1' e1]
    cases hri:ri with
    |none=>rfl
    |some li=>
     rcases hc with rfl|hc
     ·rw [Nat.sub_self]
      simp [dV]
     ·rw [hri] at hc;cases hc
 rw [hL]
 unfold cL
 obtain ⟨hbad,hmode⟩:=h.rcBad
 refine ⟨fun hlt=>⟨_,rfl,_,by rw [aD];exact hbad,fun hb=>⟨_,hmode,fun hc=>absurd hc (by decide),fun _=> ?_⟩,fun hb=>fin (.inr ?_)⟩,fun hge=>fin (.inl (by omega))⟩
 ·have hlt:i<m:=by omega
  obtain ⟨li,rfl⟩:∃li,ri=some li:=by cases ri with|none=>cases hb|some l=>exact ⟨l,rfl⟩
  unfold gJ
  refine h.new fun b8 F4 h=>⟨k,fst,cap,rfl,hk,?_⟩
  dsimp only
  rw [ha]
  refine (hone G1 F4 (some li) b8 _ l1 h.swap).mono ?_
  rintro _ F5 ⟨rfl,G2,y,r2,c,l2,hres,hrep,h⟩
  refine ⟨rfl,sl,h.ld2 (yX hv),hld _ _ c _ ⟨G2,y,hrep⟩ (h.ptAt (i:=1) rfl) ?_⟩
  have h:=h.swap.tail
  refine h.push2 T (c:=c) (Mem.len hrep) (Mem.st hrep) (by omega) fun s' G3 F6 l3 h hl'=> ?_
  refine h.set1 (w':=w.setIfInBounds o (Sl.v s')) (by rw [Array.size_setIfInBounds];exact ho) (Fo ..) fun F7 h=> ?_
  rw [aQ hlt (by omega)]
  refine next F7 hlt ⟨G3,xs++[y],vs++[c],s',r2,aa l1 (aa l2 l3),((hreps.le l2).append (.cons hrep .nil)).le l3,by rw [List.length_append,hxs];rfl,fun e1=>(by have:=hrel1 e1;cases this),fun l1' e1=> ?_,by omega,by rw [dq,dT];exact h⟩
  rw [hrel2 l1' e1,show m - i=m - (i+1)+1 by omega]
  simp only [Option.bind_some]
  rw [vf]
  unfold Res at hres
  dsimp only at hres
  cases h1:d li with
  |none=>rw [h1] at hres;rw [show r2=none from hres];rfl
  |some q=>
   obtain ⟨x,l'⟩:=q
   rw [h1] at hres
   obtain ⟨rfl,rfl⟩:=hres
   simp only [Option.bind_some,Option.map_map]
   congr 1
   funext p
   simp
 ·cases ri with|none=>rfl|some l=>cases hb
end
theorem ip {α:Type} [Mem α] {n e:Nat} (hn:Mem.n α=n):∀(F:PH) (b8:Nat) (c:Array Value) (K:Array Value→Prop),(∃G x,Mem.rep (α:=α) G x c)→F b8=some (.cells c e)→K c→ldS n F b8 K:=
 fun F b8 c K ⟨G,x,hx⟩ q hK=>⟨c,by rw [← hn];exact Mem.len hx,ai q,by rw [← hn];exact Mem.len hx,hK⟩
theorem J9 {e:Nat}:∀(F:PH) (b8:Nat) (c:Array Value) (K:Array Value→Prop),(∃G x,Mem.rep (α:=ByteArray) G x c)→F b8=some (.cells c e)→K c→ldX F b8 K:=
 fun F b8 c K ⟨G,x,hx⟩ q hK=>by
  have hx:c= #[.string x]:=hx
  subst hx
  exact ⟨x,ld q rfl,hK⟩
theorem Ka {e:Nat}:∀(F:PH) (b8:Nat) (c:Array Value) (K:Array Value→Prop),(∃G x,Mem.rep (α:=Int) G x c)→F b8=some (.cells c e)→K c→ldI F b8 K:=
 fun F b8 c K ⟨G,x,hx⟩ q hK=>by
  have hx:c= #[vi x]:=hx
  subst hx
  exact ⟨x,ld q rfl,hK⟩
inductive gg:List Nat→Option (List Nat)→Array Value→List Int→Option (List Nat)→Array Value→Prop
 |nil {r:Option (List Nat)} {w:Array Value}:gg [] r w [] r w
 |cons {o:Nat} {os:List Nat} {r r1 r2:Option (List Nat)} {w w2:Array Value} {y:Int} {ys:List Int}:Res dI r y r1→gg os r1 (w.setIfInBounds o (vi y)) ys r2 w2→gg (o::os) r w (y::ys) r2 w2
theorem gg.snoc {os:List Nat} {r r1 r2:Option (List Nat)} {w w1:Array Value} {ys:List Int} {o:Nat} {y:Int} (h:gg os r w ys r1 w1) (h2:Res dI r1 y r2):gg (os++[o]) r w (ys++[y]) r2 (w1.setIfInBounds o (vi y)):=by
 induction h with
 |nil=>exact .cons h2 .nil
 |cons h3 _ ih=>exact .cons h3 (ih h2)
theorem gg.int {os:List Nat} {r r1:Option (List Nat)} {w w1:Array Value} {ys:List Int} (h:gg os r w ys r1 w1) {o:Nat} (ho:∃v,w[o]? =some (vi v)):∃v,w1[o]? =some (vi v):=by
 induction h with
 |nil=>exact ho
 | @cons o' os r r1 r2 w w2 y ys _ _ ih=>
  refine ih ?_
  obtain ⟨v,hv⟩:=ho
  by_cases e:o'=o
  ·subst e;exact ⟨y,yX hv⟩
  ·exact ⟨v,by rw [Array.getElem?_setIfInBounds_ne e];exact hv⟩
section
variable {G F:PH} {As:List (PH→Prop)} {s:Sl} {B:List Nat} {bc b e:Nat} {r:Option (List Nat)} {w:Array Value}
theorem rE (K:Rd G s B) {os:List Nat} {bp ep:Nat} (q:G bp=some (.cells (os.map fun o=>Value.pointer (some (Addr.mk b o none))).toArray ep)) (hw:∀o∈os,∃v,w[o]? =some (vi v)) {i:Nat} (hi:i<os.length) {ys:List Int} {ri:Option (List Nat)} {wi:Array Value} {F2:PH}
  (hN:gg (os.take i) r w ys ri wi) (h:St G F2 (rcS s B bc ri::pt b (.cells wi e)::As)) {R:VR}
  (k:∀F' ys ri wi,gg (os.take (i+1)) r w ys ri wi→St G F' (rcS s B bc ri::pt b (.cells wi e)::As)→R (.tuple #[]) F'):
  ∃a:Addr,(Sl.mk (some (Addr.mk bp 0 none)) os.length os.length).base=some a∧0≤(i:Int)∧(i:Int)<((Sl.mk (some (Addr.mk bp 0 none)) os.length os.length).len:Int)∧∃v:Option Addr,F2.cell (Addr.add a (Int.toNat (i:Int)*1))=some (.pointer v)∧ac prog 125 #[pc bc,.pointer v] F2 R:=by
 have ho:=List.getElem?_eq_getElem hi
 generalize os[i]=o at ho
 obtain ⟨v,hv⟩:=hN.int (hw o (List.mem_of_getElem? ho))
 refine ⟨_,rfl,by omega,by show (i:Int)<(os.length:Int);omega,some (Addr.mk b o none),?_,?_⟩
 ·rw [Int.toNat_natCast,Nat.mul_one,aD,Nat.zero_add]
  exact ld (h.le _ _ q) (by simp [ho])
 ·refine (cQ K h hv).mono ?_
  rintro _ F3 ⟨rfl,y,r',hr,h⟩
  refine k F3 (ys++[y]) r' _ ?_ h
  rw [be ho]
  exact hN.snoc hr
theorem iU (K:Rd G s B) {os:List Nat} {bp ep:Nat} (q:G bp=some (.cells (os.map fun o=>Value.pointer (some (Addr.mk b o none))).toArray ep)) (hos:os.length≤100) (hw:∀o∈os,∃v,w[o]? =some (vi v)) (h:St G F (rcS s B bc r::pt b (.cells w e)::As)):
  ac prog 181 #[pc bc,Sl.v (Sl.mk (some (Addr.mk bp 0 none)) os.length os.length)] F fun res F'=>res=.tuple #[]∧∃ys r' w',gg os r w ys r' w'∧St G F' (rcS s B bc r'::pt b (.cells w' e)::As):=by
 refine Hp ?_
 unfold Dv
 refine bW (ky · _ _ _) os.length (fun i F'=>∃ys ri wi,gg (os.take i) r w ys ri wi∧St G F' (rcS s B bc ri::pt b (.cells wi e)::As)) ⟨[],r,w,.nil,h⟩ ?_
 rintro i F2 N hi ⟨ys,ri,wi,hN,h⟩ next
 unfold ky
 refine ⟨fun hlt=> ?_,fun hge=> ?_⟩
 ·have hlt:i<os.length:=by
   have:(i:Int)<(os.length:Int):=hlt
   omega
  refine rE K q hw hlt hN h fun F' ys' ri' wi' hN' h'=>⟨rfl,?_⟩
  rw [aQ hlt (by omega)]
  exact next _ hlt ⟨ys',ri',wi',hN',h'⟩
 ·have e:i=os.length:=by
   have:¬(i:Int)<(os.length:Int):=hge
   omega
  rw [e,List.take_length] at hN
  exact ⟨rfl,ys,ri,wi,hN,h⟩
end
end Go.Proofs.YtenpmjhnhepfdaaGreatDoor
