/-
  The codec that reads: the parts of a grammar, and Decode. Printed by a program.
-/
import Derived.Test.YtenpmjhnhepfdaaGreatDoorJk
namespace Go.Proofs.YtenpmjhnhepfdaaGreatDoor
open Go Go.Proofs.Tryz
set_option maxRecDepth 10000
theorem DH {w:Array Value} {o:Nat} {v:Value} (h:w[o]? =some v):w.setIfInBounds o v=w:=by
 have ho:=(Array.getElem?_eq_some_iff.1 h).1
 apply Array.ext_getElem?
 intro i
 rw [Array.getElem?_setIfInBounds]
 split
 ·rename_i e;subst e;exact h.symm
 ·rfl
theorem yX {w:Array Value} {o:Nat} {u v:Value} (h:w[o]? =some u):(w.setIfInBounds o v)[o]? =some v:=by
 have ho:=(Array.getElem?_eq_some_iff.1 h).1
 rw [Array.getElem?_setIfInBounds,if_pos rfl,if_pos ho]
theorem Fv (w:Array Value) (o:Nat) (u v:Value):(w.setIfInBounds o u).setIfInBounds o v=w.setIfInBounds o v:=by
 apply Array.ext_getElem?
 intro i
 simp only [Array.getElem?_setIfInBounds,Array.size_setIfInBounds]
 split<;>rfl
theorem va {α:Type} (d:Ps α) (k:Nat) (l:List Nat):dV d (k+1) l=(d l).bind fun q=>(dV d k q.2).map fun p=>(q.1::p.1,p.2):=by
 rw [dV]
 cases d l with
 |none=>rfl
 |some q=>
  obtain ⟨x,r⟩:=q
  simp only [Option.bind_some]
  cases dV d k r<;>rfl
theorem St.rcBad {G F:PH} {As:List (PH→Prop)} {s:Sl} {B:List Nat} {bc:Nat} {r:Option (List Nat)} (h:St G F (rcS s B bc r::As)):F.cell (Addr.mk bc 3 none)=some (.bool r.isNone)∧F.cell (Addr.mk bc 0 none)=some (vi 1):=by
 obtain ⟨k,_,h⟩:=h.exR
 exact ⟨h.ld0 rfl,h.ld0 rfl⟩
theorem St.rcB {G F G':PH} {As:List (PH→Prop)} {s:Sl} {B:List Nat} {bc:Nat} {r:Option (List Nat)} (h:St G F (rcS s B bc r::As)) (K:Rd G' s B):∀l,r=some l→∀b∈l,b<256:=fun l e b hb=>by
 obtain ⟨k,⟨_,hl⟩,_⟩:=h.exR
 exact K.b b (List.mem_of_mem_drop (by rw [hl l e];exact hb))
theorem St.cw {G F:PH} {As:List (PH→Prop)} {p:PH→Prop} {b e:Nat} {w w':Array Value} (h:St G F (p::pt b (.cells w e)::As)) (hw:w=w'):St G F (p::pt b (.cells w' e)::As):=hw▸h
theorem gc {α:Type} {d:Ps α} {r r':Option (List Nat)} {y:α} (h:Res d r y r') (hr:r=none):r'=none:=by subst hr;exact h
theorem Res.bad {α:Type} {d:Ps α} {r r':Option (List Nat)} {y z:α} (h:Res d r y r') (hr:r'=none):Res d r z r':=by
 subst hr
 cases r with
 |none=>rfl
 |some l=>
  unfold Res at*
  dsimp only at*
  cases h1:d l with
  |none=>rfl
  |some q=>rw [h1] at h;cases h.2
def gJ (ld:PH→Nat→(Array Value→Prop)→Prop) (z:Array Value) (e t:Nat) (one:Value) (la:Addr) (N:Int→PH→Prop) (i:Int) (F:PH):Prop:=
 Nb F (.cells z e) fun b8 F=>Fn one fun k f c=>ac prog k (f++([(Value.pointer (some (Am b8 0)))]).toArray++c) F fun v F=>v=(Value.tuple #[])∧
 Ls F la fun v44=>ld F b8 fun v45=>Nb F (.cells v45 e) fun b46 F=>Ap t #[(Sl.v v44),(Sl.v (Sb b46 1))] F fun v47 F=>sto F la (Sl.v v47) fun F=>N (IntKind.i64.wrap (i+(1:Int))) F
def ldS (n:Nat) (F:PH) (b:Nat) (K:Array Value→Prop):Prop:=Lr F n (Am b 0) fun v=>v.size=n∧K v
def ldX (F:PH) (b:Nat) (K:Array Value→Prop):Prop:=Lx F (Am b 0) fun v=>K #[.string v]
def ldI (F:PH) (b:Nat) (K:Array Value→Prop):Prop:=Li F (Am b 0) fun v=>K #[.int .i64 v]
section
variable {α:Type} [Mem α] {G F:PH} {As:List (PH→Prop)} {s:Sl} {B:List Nat} {bc b o e0:Nat} {r:Option (List Nat)} {w:Array Value}
def fF (α:Type) [Mem α] (G:PH) (s:Sl) (B:List Nat) (bc:Nat) (d:Ps α) (k:Nat) (args:Value→Array Value) (z:Array Value) (e:Nat):Prop:=
 ∀G1 F1 r1 b8 As1,G.le G1→St G1 F1 (rcS s B bc r1::pt b8 (.cells z e)::As1)→ac prog k (args (.pointer (some (Addr.mk b8 0 none)))) F1 fun res F'=>res=.tuple #[]∧∃G' y r' c,G1.le G'∧Res d r1 y r'∧Mem.rep G' y c∧St G' F' (rcS s B bc r'::pt b8 (.cells c e)::As1)
theorem fG {d:Ps α} (K:Rd G s B) (h:St G F (rcS s B bc r::pt b (.cells w e0)::As)) (hv:w[o]? =some (Sl.v Sl.nil)) {n:Nat} (hn:Mem.n α=n)
  {t e bytes:Nat} {zz:Value} (T:SlT t e (Mem.n α) bytes zz) {z:Array Value} {ld:PH→Nat→(Array Value→Prop)→Prop} (hld:∀F b8 c K,(∃G x,Mem.rep (α:=α) G x c)→F b8=some (.cells c e)→K c→ld F b8 K)
  {k:Nat} {fst cap:Array Value} (hk:au prog k=true) {args:Value→Array Value} (ha:∀p,fst++([p]).toArray++cap=args p) (hone:fF α G s B bc d k args z e)
  {L:(Int→PH→Prop)→Option Addr→Addr→Value→Int→VR→Int→PH→Prop} (hL:∀N c0 l1 o' v R i F,L N c0 l1 o' v R i F=cL n (fun _=>gJ ld z e t o' l1 N i F) N c0 l1 o' v R i F):
  gE L (some (Addr.mk bc 0 none)) (some (Addr.mk b o none)) (.func (.func k) fst cap) (fun res F'=>res=.tuple #[]∧∃G' ys sl r',G.le G'∧Res (dL d) r ys r'∧RL G' sl ys∧St G' F' (rcS s B bc r'::pt b (.cells (w.setIfInBounds o (Sl.v sl)) e0)::As)) F:=by
 have ho:=(Array.getElem?_eq_some_iff.1 hv).1
 have hB:=K.l
 refine ⟨_,rfl,Sl.nil,h.ld1 hv,?_⟩
 refine (yW K _ h).mono ?_
 rintro _ F2 ⟨m,r1,rfl,hr,hm,hm2,h⟩
 have hmB:m≤B.length:=by
  cases r1 with
  |none=>rw [hm rfl];omega
  |some l1=>
   obtain ⟨k',⟨hk',hl⟩,_⟩:=h.exR
   have h1:=hm2 l1 rfl
   rw [← hl l1 rfl,List.length_drop] at h1
   omega
 refine ⟨_,rfl,?_⟩
 refine bW (L · _ _ _ _ _) m (fun i F'=>∃G1 xs vs sl ri,G.le G1∧cZ (α:=α) G1 xs vs∧xs.length=i∧(r1=none→ri=none)∧(∀l1,r1=some l1→dV d m l1=Option.bind ri fun li=>(dV d (m - i) li).map fun q=>(xs++q.1,q.2))∧sl.len=i∧
  St G1 F' (rcS s B bc ri::pt b (.cells (w.setIfInBounds o (Sl.v sl)) e0)::own sl e (Mem.n α) (cat vs)::As)) ⟨G,[],[],Sl.nil,r1,le_refl' _,.nil,rfl,id,fun l1 e1=> ?_,rfl,?_⟩ ?_
 ·rw [e1]
  simp
 ·rw [DH hv]
  exact (h.nilOwn e (Mem.n α)).back2
 rintro i F3 N hi ⟨G1,xs,vs,sl,ri,l1,hreps,hxs,hrel1,hrel2,hsl,h⟩ next
 have fin:(i=m∨ri=none)→(Value.tuple #[]=Value.tuple #[]∧∃G' ys sl r',G.le G'∧Res (dL d) r ys r'∧RL (α:=α) G' sl ys∧St G' F3 (rcS s B bc r'::pt b (.cells (w.setIfInBounds o (Sl.v sl)) e0)::As)):=fun hc=>by
  obtain ⟨G2,l2,hd,h2⟩:=h.front2.pinO
  refine ⟨rfl,G2,xs,sl,ri,aa l1 l2,?_,⟨vs,hreps.le l2,hd⟩,h2⟩
  cases r with
  |none=>exact hrel1 hr
  |some l=>
   unfold Res dL at*
   dsimp only at*
   cases h1:dC l with
   |none=>rw [h1] at hr;exact hrel1 hr
   |some q=>
    obtain ⟨m',l1'⟩:=q
    rw [h1] at hr
    obtain ⟨rfl,e1⟩:=hr
    dsimp only
    rw [hrel2 l1' e1]
    cases hri:ri with
    |none=>rfl
    |some li=>
     rcases hc with rfl|hc
     ·rw [Nat.sub_self]
      simp [dV]
     ·rw [hri] at hc;cases hc
 rw [hL]
 unfold cL
 obtain ⟨hbad,hmode⟩:=h.rcBad
 refine ⟨fun hlt=>⟨_,rfl,_,by rw [aD];exact hbad,fun hb=>⟨_,hmode,fun hc=>absurd hc (by decide),fun _=> ?_⟩,fun hb=>fin (.inr ?_)⟩,fun hge=>fin (.inl (by omega))⟩
 ·have hlt:i<m:=by omega
  obtain ⟨li,rfl⟩:∃li,ri=some li:=by cases ri with|none=>cases hb|some l=>exact ⟨l,rfl⟩
  unfold gJ
  refine h.new fun b8 F4 h=>⟨k,fst,cap,rfl,hk,?_⟩
  dsimp only
  rw [ha]
  refine (hone G1 F4 (some li) b8 _ l1 h.swap).mono ?_
  rintro _ F5 ⟨rfl,G2,y,r2,c,l2,hres,hrep,h⟩
  refine ⟨rfl,sl,h.ld2 (yX hv),hld _ _ c _ ⟨G2,y,hrep⟩ (h.ptAt (i:=1) rfl) ?_⟩
  have h:=h.swap.tail
  refine h.push2 T (c:=c) (Mem.len hrep) (Mem.st hrep) (by omega) fun s' G3 F6 l3 h hl'=> ?_
  refine h.set1 (w':=w.setIfInBounds o (Sl.v s')) (by rw [Array.size_setIfInBounds];exact ho) (Fv ..) fun F7 h=> ?_
  rw [aQ hlt (by omega)]
  refine next F7 hlt ⟨G3,xs++[y],vs++[c],s',r2,aa l1 (aa l2 l3),((hreps.le l2).append (.cons hrep .nil)).le l3,by rw [List.length_append,hxs];rfl,fun e1=>(by have:=hrel1 e1;cases this),fun l1' e1=> ?_,by omega,by rw [dr,dU];exact h⟩
  rw [hrel2 l1' e1,show m - i=m - (i+1)+1 by omega]
  simp only [Option.bind_some]
  rw [va]
  unfold Res at hres
  dsimp only at hres
  cases h1:d li with
  |none=>rw [h1] at hres;rw [show r2=none from hres];rfl
  |some q=>
   obtain ⟨x,l'⟩:=q
   rw [h1] at hres
   obtain ⟨rfl,rfl⟩:=hres
   simp only [Option.bind_some,Option.map_map]
   congr 1
   funext p
   simp
 ·cases ri with|none=>rfl|some l=>cases hb
end
theorem ip {α:Type} [Mem α] {n e:Nat} (hn:Mem.n α=n):∀(F:PH) (b8:Nat) (c:Array Value) (K:Array Value→Prop),(∃G x,Mem.rep (α:=α) G x c)→F b8=some (.cells c e)→K c→ldS n F b8 K:=
 fun F b8 c K ⟨G,x,hx⟩ q hK=>⟨c,by rw [← hn];exact Mem.len hx,ak q,by rw [← hn];exact Mem.len hx,hK⟩
theorem J7 {e:Nat}:∀(F:PH) (b8:Nat) (c:Array Value) (K:Array Value→Prop),(∃G x,Mem.rep (α:=ByteArray) G x c)→F b8=some (.cells c e)→K c→ldX F b8 K:=
 fun F b8 c K ⟨G,x,hx⟩ q hK=>by
  have hx:c= #[.string x]:=hx
  subst hx
  exact ⟨x,ld q rfl,hK⟩
theorem J8 {e:Nat}:∀(F:PH) (b8:Nat) (c:Array Value) (K:Array Value→Prop),(∃G x,Mem.rep (α:=Int) G x c)→F b8=some (.cells c e)→K c→ldI F b8 K:=
 fun F b8 c K ⟨G,x,hx⟩ q hK=>by
  have hx:c= #[vi x]:=hx
  subst hx
  exact ⟨x,ld q rfl,hK⟩
inductive gf:List Nat→Option (List Nat)→Array Value→List Int→Option (List Nat)→Array Value→Prop
 |nil {r:Option (List Nat)} {w:Array Value}:gf [] r w [] r w
 |cons {o:Nat} {os:List Nat} {r r1 r2:Option (List Nat)} {w w2:Array Value} {y:Int} {ys:List Int}:Res dI r y r1→gf os r1 (w.setIfInBounds o (vi y)) ys r2 w2→gf (o::os) r w (y::ys) r2 w2
theorem gf.snoc {os:List Nat} {r r1 r2:Option (List Nat)} {w w1:Array Value} {ys:List Int} {o:Nat} {y:Int} (h:gf os r w ys r1 w1) (h2:Res dI r1 y r2):gf (os++[o]) r w (ys++[y]) r2 (w1.setIfInBounds o (vi y)):=by
 induction h with
 |nil=>exact .cons h2 .nil
 |cons h3 _ ih=>exact .cons h3 (ih h2)
theorem gf.int {os:List Nat} {r r1:Option (List Nat)} {w w1:Array Value} {ys:List Int} (h:gf os r w ys r1 w1) {o:Nat} (ho:∃v,w[o]? =some (vi v)):∃v,w1[o]? =some (vi v):=by
 induction h with
 |nil=>exact ho
 | @cons o' os r r1 r2 w w2 y ys _ _ ih=>
  refine ih ?_
  obtain ⟨v,hv⟩:=ho
  by_cases e:o'=o
  ·subst e;exact ⟨y,yX hv⟩
  ·exact ⟨v,by rw [Array.getElem?_setIfInBounds_ne e];exact hv⟩
section
variable {G F:PH} {As:List (PH→Prop)} {s:Sl} {B:List Nat} {bc b e:Nat} {r:Option (List Nat)} {w:Array Value}
theorem rD (K:Rd G s B) {os:List Nat} {bp ep:Nat} (q:G bp=some (.cells (os.map fun o=>Value.pointer (some (Addr.mk b o none))).toArray ep)) (hw:∀o∈os,∃v,w[o]? =some (vi v)) {i:Nat} (hi:i<os.length) {ys:List Int} {ri:Option (List Nat)} {wi:Array Value} {F2:PH}
  (hN:gf (os.take i) r w ys ri wi) (h:St G F2 (rcS s B bc ri::pt b (.cells wi e)::As)) {R:VR}
  (k:∀F' ys ri wi,gf (os.take (i+1)) r w ys ri wi→St G F' (rcS s B bc ri::pt b (.cells wi e)::As)→R (.tuple #[]) F'):
  ∃a:Addr,(Sl.mk (some (Addr.mk bp 0 none)) os.length os.length).base=some a∧0≤(i:Int)∧(i:Int)<((Sl.mk (some (Addr.mk bp 0 none)) os.length os.length).len:Int)∧∃v:Option Addr,F2.cell (Addr.add a (Int.toNat (i:Int)*1))=some (.pointer v)∧ac prog 125 #[pc bc,.pointer v] F2 R:=by
 have ho:=List.getElem?_eq_getElem hi
 generalize os[i]=o at ho
 obtain ⟨v,hv⟩:=hN.int (hw o (List.mem_of_getElem? ho))
 refine ⟨_,rfl,by omega,by show (i:Int)<(os.length:Int);omega,some (Addr.mk b o none),?_,?_⟩
 ·rw [Int.toNat_natCast,Nat.mul_one,aD,Nat.zero_add]
  exact ld (h.le _ _ q) (by simp [ho])
 ·refine (cQ K h hv).mono ?_
  rintro _ F3 ⟨rfl,y,r',hr,h⟩
  refine k F3 (ys++[y]) r' _ ?_ h
  rw [be ho]
  exact hN.snoc hr
theorem iX (K:Rd G s B) {os:List Nat} {bp ep:Nat} (q:G bp=some (.cells (os.map fun o=>Value.pointer (some (Addr.mk b o none))).toArray ep)) (hos:os.length≤100) (hw:∀o∈os,∃v,w[o]? =some (vi v)) (h:St G F (rcS s B bc r::pt b (.cells w e)::As)):
  ac prog 181 #[pc bc,Sl.v (Sl.mk (some (Addr.mk bp 0 none)) os.length os.length)] F fun res F'=>res=.tuple #[]∧∃ys r' w',gf os r w ys r' w'∧St G F' (rcS s B bc r'::pt b (.cells w' e)::As):=by
 refine Hw ?_
 unfold Dw
 refine bW (kD · _ _ _) os.length (fun i F'=>∃ys ri wi,gf (os.take i) r w ys ri wi∧St G F' (rcS s B bc ri::pt b (.cells wi e)::As)) ⟨[],r,w,.nil,h⟩ ?_
 rintro i F2 N hi ⟨ys,ri,wi,hN,h⟩ next
 unfold kD
 refine ⟨fun hlt=> ?_,fun hge=> ?_⟩
 ·have hlt:i<os.length:=by
   have:(i:Int)<(os.length:Int):=hlt
   omega
  refine rD K q hw hlt hN h fun F' ys' ri' wi' hN' h'=>⟨rfl,?_⟩
  rw [aQ hlt (by omega)]
  exact next _ hlt ⟨ys',ri',wi',hN',h'⟩
 ·have e:i=os.length:=by
   have:¬(i:Int)<(os.length:Int):=hge
   omega
  rw [e,List.take_length] at hN
  exact ⟨rfl,ys,ri,wi,hN,h⟩
end
theorem QG:∃b z,SlT 31 103 3 b z:=⟨_,_,underlying31,ur,ut,rfl,by decide,by decide⟩
theorem QH:∀N c0 l1 o v R i F,ks N c0 l1 o v R i F=cL 1 (fun _=>gJ (ldX) #[.string ⟨#[]⟩] 9 30 o l1 N i F) N c0 l1 o v R i F:=fun _ _ _ _ _ _ _ _=>rfl
theorem OA:∀N c0 l1 o v R i F,ku N c0 l1 o v R i F=cL 7 (fun _=>gJ (ldS 7) zT 79 34 o l1 N i F) N c0 l1 o v R i F:=fun _ _ _ _ _ _ _ _=>rfl
theorem OB:∀N c0 l1 o v R i F,kv N c0 l1 o v R i F=cL 13 (fun _=>gJ (ldS 13) zP 67 35 o l1 N i F) N c0 l1 o v R i F:=fun _ _ _ _ _ _ _ _=>rfl
theorem OC:∀N c0 l1 o v R i F,kz N c0 l1 o v R i F=cL 4 (fun _=>gJ (ldS 4) zL 72 36 o l1 N i F) N c0 l1 o v R i F:=fun _ _ _ _ _ _ _ _=>rfl
theorem OD:∀N c0 l1 o v R i F,kA N c0 l1 o v R i F=cL 9 (fun _=>gJ (ldS 9) zF 74 37 o l1 N i F) N c0 l1 o v R i F:=fun _ _ _ _ _ _ _ _=>rfl
theorem OE:∀N c0 l1 o v R i F,kE N c0 l1 o v R i F=cL 5 (fun _=>gJ (ldS 5) #[vi 0,vi 0,vi 0,vi 0,vi 0] 97 77 o l1 N i F) N c0 l1 o v R i F:=fun _ _ _ _ _ _ _ _=>rfl
theorem OF:∀N c0 l1 o v R i F,kF N c0 l1 o v R i F=cL 2 (fun _=>gJ (ldS 2) #[.bool false,vi 0] 69 62 o l1 N i F) N c0 l1 o v R i F:=fun _ _ _ _ _ _ _ _=>rfl
theorem OG:∀N c0 l1 o v R i F,kG N c0 l1 o v R i F=cL 3 (fun _=>gJ (ldS 3) #[vi 0,vi 0,vi 0] 101 63 o l1 N i F) N c0 l1 o v R i F:=fun _ _ _ _ _ _ _ _=>rfl
theorem QI:∀N c0 l1 o v R i F,kH N c0 l1 o v R i F=cL 1 (fun _=>gJ (ldI) #[vi 0] 3 70 o l1 N i F) N c0 l1 o v R i F:=fun _ _ _ _ _ _ _ _=>rfl
theorem OH:∀N c0 l1 o v R i F,kC N c0 l1 o v R i F=cL 3 (fun _=>gJ (ldS 3) #[vi 0,vi 0,vi 0] 103 31 o l1 N i F) N c0 l1 o v R i F:=fun _ _ _ _ _ _ _ _=>rfl
section
variable {G F:PH} {As:List (PH→Prop)} {s:Sl} {B:List Nat} {bc b o e0:Nat} {r:Option (List Nat)} {w:Array Value}
theorem Ib {d:Ps ByteArray} {k:Nat} {fst cap:Array Value} {args:Value→Array Value} (K:Rd G s B) (hk:au prog k=true) (ha:∀p,fst++([p]).toArray++cap=args p) (hone:fF ByteArray G s B bc d k args #[.string ⟨#[]⟩] 9) (h:St G F (rcS s B bc r::pt b (.cells w e0)::As)) (hv:w[o]? =some (Sl.v Sl.nil)):
  ac prog 118 #[pc bc,.pointer (some (Addr.mk b o none)),.func (.func k) fst cap] F fun res F'=>res=.tuple #[]∧∃G' ys sl r',G.le G'∧Res (dL d) r ys r'∧RL G' sl ys∧St G' F' (rcS s B bc r'::pt b (.cells (w.setIfInBounds o (Sl.v sl)) e0)::As):=by
 exact FA (fG K h hv rfl Kn J7 hk ha hone QH)
theorem J9 {d:Ps Tk} {k:Nat} {fst cap:Array Value} {args:Value→Array Value} (K:Rd G s B) (hk:au prog k=true) (ha:∀p,fst++([p]).toArray++cap=args p) (hone:fF Tk G s B bc d k args zT 79) (h:St G F (rcS s B bc r::pt b (.cells w e0)::As)) (hv:w[o]? =some (Sl.v Sl.nil)):
  ac prog 121 #[pc bc,.pointer (some (Addr.mk b o none)),.func (.func k) fst cap] F fun res F'=>res=.tuple #[]∧∃G' ys sl r',G.le G'∧Res (dL d) r ys r'∧RL G' sl ys∧St G' F' (rcS s B bc r'::pt b (.cells (w.setIfInBounds o (Sl.v sl)) e0)::As):=by
 obtain ⟨_,_,T⟩:=Io
 exact A8 (fG K h hv rfl T (ip rfl) hk ha hone OA)
theorem Ka {d:Ps Pr} {k:Nat} {fst cap:Array Value} {args:Value→Array Value} (K:Rd G s B) (hk:au prog k=true) (ha:∀p,fst++([p]).toArray++cap=args p) (hone:fF Pr G s B bc d k args zP 67) (h:St G F (rcS s B bc r::pt b (.cells w e0)::As)) (hv:w[o]? =some (Sl.v Sl.nil)):
  ac prog 123 #[pc bc,.pointer (some (Addr.mk b o none)),.func (.func k) fst cap] F fun res F'=>res=.tuple #[]∧∃G' ys sl r',G.le G'∧Res (dL d) r ys r'∧RL G' sl ys∧St G' F' (rcS s B bc r'::pt b (.cells (w.setIfInBounds o (Sl.v sl)) e0)::As):=by
 obtain ⟨_,_,T⟩:=Ea
 exact A9 (fG K h hv rfl T (ip rfl) hk ha hone OB)
theorem Kb {d:Ps Lv} {k:Nat} {fst cap:Array Value} {args:Value→Array Value} (K:Rd G s B) (hk:au prog k=true) (ha:∀p,fst++([p]).toArray++cap=args p) (hone:fF Lv G s B bc d k args zL 72) (h:St G F (rcS s B bc r::pt b (.cells w e0)::As)) (hv:w[o]? =some (Sl.v Sl.nil)):
  ac prog 126 #[pc bc,.pointer (some (Addr.mk b o none)),.func (.func k) fst cap] F fun res F'=>res=.tuple #[]∧∃G' ys sl r',G.le G'∧Res (dL d) r ys r'∧RL G' sl ys∧St G' F' (rcS s B bc r'::pt b (.cells (w.setIfInBounds o (Sl.v sl)) e0)::As):=by
 obtain ⟨_,_,T⟩:=Kp
 exact Ba (fG K h hv rfl T (ip rfl) hk ha hone OC)
theorem Kc {d:Ps Fi} {k:Nat} {fst cap:Array Value} {args:Value→Array Value} (K:Rd G s B) (hk:au prog k=true) (ha:∀p,fst++([p]).toArray++cap=args p) (hone:fF Fi G s B bc d k args zF 74) (h:St G F (rcS s B bc r::pt b (.cells w e0)::As)) (hv:w[o]? =some (Sl.v Sl.nil)):
  ac prog 128 #[pc bc,.pointer (some (Addr.mk b o none)),.func (.func k) fst cap] F fun res F'=>res=.tuple #[]∧∃G' ys sl r',G.le G'∧Res (dL d) r ys r'∧RL G' sl ys∧St G' F' (rcS s B bc r'::pt b (.cells (w.setIfInBounds o (Sl.v sl)) e0)::As):=by
 obtain ⟨_,_,T⟩:=Kq
 exact Be (fG K h hv rfl T (ip rfl) hk ha hone OD)
theorem Ke {d:Ps Nd} {k:Nat} {fst cap:Array Value} {args:Value→Array Value} (K:Rd G s B) (hk:au prog k=true) (ha:∀p,fst++([p]).toArray++cap=args p) (hone:fF Nd G s B bc d k args #[vi 0,vi 0,vi 0,vi 0,vi 0] 97) (h:St G F (rcS s B bc r::pt b (.cells w e0)::As)) (hv:w[o]? =some (Sl.v Sl.nil)):
  ac prog 182 #[pc bc,.pointer (some (Addr.mk b o none)),.func (.func k) fst cap] F fun res F'=>res=.tuple #[]∧∃G' ys sl r',G.le G'∧Res (dL d) r ys r'∧RL G' sl ys∧St G' F' (rcS s B bc r'::pt b (.cells (w.setIfInBounds o (Sl.v sl)) e0)::As):=by
 obtain ⟨_,_,T⟩:=O7
 exact Bf (fG K h hv rfl T (ip rfl) hk ha hone OE)
theorem Kf {d:Ps Sy} {k:Nat} {fst cap:Array Value} {args:Value→Array Value} (K:Rd G s B) (hk:au prog k=true) (ha:∀p,fst++([p]).toArray++cap=args p) (hone:fF Sy G s B bc d k args #[.bool false,vi 0] 69) (h:St G F (rcS s B bc r::pt b (.cells w e0)::As)) (hv:w[o]? =some (Sl.v Sl.nil)):
  ac prog 184 #[pc bc,.pointer (some (Addr.mk b o none)),.func (.func k) fst cap] F fun res F'=>res=.tuple #[]∧∃G' ys sl r',G.le G'∧Res (dL d) r ys r'∧RL G' sl ys∧St G' F' (rcS s B bc r'::pt b (.cells (w.setIfInBounds o (Sl.v sl)) e0)::As):=by
 obtain ⟨_,_,T⟩:=Ko
 exact Bg (fG K h hv rfl T (ip rfl) hk ha hone OF)
theorem Kg {d:Ps Cn} {k:Nat} {fst cap:Array Value} {args:Value→Array Value} (K:Rd G s B) (hk:au prog k=true) (ha:∀p,fst++([p]).toArray++cap=args p) (hone:fF Cn G s B bc d k args #[vi 0,vi 0,vi 0] 101) (h:St G F (rcS s B bc r::pt b (.cells w e0)::As)) (hv:w[o]? =some (Sl.v Sl.nil)):
  ac prog 187 #[pc bc,.pointer (some (Addr.mk b o none)),.func (.func k) fst cap] F fun res F'=>res=.tuple #[]∧∃G' ys sl r',G.le G'∧Res (dL d) r ys r'∧RL G' sl ys∧St G' F' (rcS s B bc r'::pt b (.cells (w.setIfInBounds o (Sl.v sl)) e0)::As):=by
 obtain ⟨_,_,T⟩:=O8
 exact Bh (fG K h hv rfl T (ip rfl) hk ha hone OG)
theorem Ic {d:Ps Int} {k:Nat} {fst cap:Array Value} {args:Value→Array Value} (K:Rd G s B) (hk:au prog k=true) (ha:∀p,fst++([p]).toArray++cap=args p) (hone:fF Int G s B bc d k args #[vi 0] 3) (h:St G F (rcS s B bc r::pt b (.cells w e0)::As)) (hv:w[o]? =some (Sl.v Sl.nil)):
  ac prog 189 #[pc bc,.pointer (some (Addr.mk b o none)),.func (.func k) fst cap] F fun res F'=>res=.tuple #[]∧∃G' ys sl r',G.le G'∧Res (dL d) r ys r'∧RL G' sl ys∧St G' F' (rcS s B bc r'::pt b (.cells (w.setIfInBounds o (Sl.v sl)) e0)::As):=by
 exact FB (fG K h hv rfl FC J8 hk ha hone QI)
theorem Kh {d:Ps Br} {k:Nat} {fst cap:Array Value} {args:Value→Array Value} (K:Rd G s B) (hk:au prog k=true) (ha:∀p,fst++([p]).toArray++cap=args p) (hone:fF Br G s B bc d k args #[vi 0,vi 0,vi 0] 103) (h:St G F (rcS s B bc r::pt b (.cells w e0)::As)) (hv:w[o]? =some (Sl.v Sl.nil)):
  ac prog 179 #[pc bc,.pointer (some (Addr.mk b o none)),.func (.func k) fst cap] F fun res F'=>res=.tuple #[]∧∃G' ys sl r',G.le G'∧Res (dL d) r ys r'∧RL G' sl ys∧St G' F' (rcS s B bc r'::pt b (.cells (w.setIfInBounds o (Sl.v sl)) e0)::As):=by
 obtain ⟨_,_,T⟩:=QG
 exact A7 (fG K h hv rfl T (ip rfl) hk ha hone OH)
theorem OI (K:Rd G s B):fF ByteArray G s B bc dS 119 (fun p=> #[pc bc,p]) #[.string ⟨#[]⟩] 9:=fun G1 F1 r1 b8 As1 l h=>by
 refine (qi (K.le l) (o:=0) h rfl).mono ?_
 rintro _ F' ⟨rfl,y,r',hr,h⟩
 exact ⟨rfl,G1,y,r',_,le_refl' _,hr,rfl,h⟩
theorem OJ (K:Rd G s B):fF Int G s B bc dI 125 (fun p=> #[pc bc,p]) #[vi 0] 3:=fun G1 F1 r1 b8 As1 l h=>by
 refine (cQ (K.le l) (o:=0) h rfl).mono ?_
 rintro _ F' ⟨rfl,y,r',hr,h⟩
 exact ⟨rfl,G1,y,r',_,le_refl' _,hr,rfl,h⟩
theorem w6 {z:Nat}:∀o,o<z→(Array.replicate z (vi 0))[o]? =some (vi 0):=fun o h=>by rw [Array.getElem?_replicate,if_pos h]
theorem OK (K:Rd G s B) {b2:Nat} (q:G.cell (Addr.mk b2 0 none)=some (pc bc)):fF Br G s B bc dBr 180 (fun p=> #[p,.pointer (some (Addr.mk b2 0 none))]) #[vi 0,vi 0,vi 0] 103:=fun G1 F1 r1 b8 As1 l h=>by
 refine Hv ?_
 unfold Dv
 refine ⟨_,rfl,_,aq (aa l h.le) q,_,rfl,?_⟩
 refine h.newG fun b13 G2 F2 l2 q13 _ h=> ?_
 refine (iX (K.le (aa l l2)) (os:=[0,1,2]) (bp:=b13) q13 (by decide) (fun o ho=>⟨0,w6 (z:=3) o (by simp at ho;omega)⟩) h).mono ?_
 rintro _ F3 ⟨rfl,ys,r',w',hN,h⟩
 cases hN with|cons h0 hN=>
 cases hN with|cons h1 hN=>
 cases hN with|cons h2 hN=>
 cases hN
 have hR:=(h0.pair (h1.pair h2)).map (fun x=>Br.mk x.1 x.2.1 x.2.2)
 exact ⟨rfl,rfl,G2,_,_,_,l2,hR,rfl,h⟩
theorem OL (K:Rd G s B) {b2:Nat} (q:G.cell (Addr.mk b2 0 none)=some (pc bc)):fF Nd G s B bc dNd 183 (fun p=> #[p,.pointer (some (Addr.mk b2 0 none))]) #[vi 0,vi 0,vi 0,vi 0,vi 0] 97:=fun G1 F1 r1 b8 As1 l h=>by
 refine Hx ?_
 unfold Dx
 refine ⟨_,rfl,_,aq (aa l h.le) q,_,rfl,?_⟩
 refine h.newG fun b13 G2 F2 l2 q13 _ h=> ?_
 refine (iX (K.le (aa l l2)) (os:=[0,1,2,3,4]) (bp:=b13) q13 (by decide) (fun o ho=>⟨0,w6 (z:=5) o (by simp at ho;omega)⟩) h).mono ?_
 rintro _ F3 ⟨rfl,ys,r',w',hN,h⟩
 cases hN with|cons h0 hN=>
 cases hN with|cons h1 hN=>
 cases hN with|cons h2 hN=>
 cases hN with|cons h3 hN=>
 cases hN with|cons h4 hN=>
 cases hN
 have hR:=(h0.pair (h1.pair (h2.pair (h3.pair h4)))).map (fun x=>Nd.mk x.1 x.2.1 x.2.2.1 x.2.2.2.1 x.2.2.2.2)
 exact ⟨rfl,rfl,G2,_,_,_,l2,hR,rfl,h⟩
theorem OM (K:Rd G s B) {b2:Nat} (q:G.cell (Addr.mk b2 0 none)=some (pc bc)):fF Cn G s B bc dCn 188 (fun p=> #[p,.pointer (some (Addr.mk b2 0 none))]) #[vi 0,vi 0,vi 0] 101:=fun G1 F1 r1 b8 As1 l h=>by
 refine HB ?_
 unfold DA
 refine ⟨_,rfl,_,aq (aa l h.le) q,_,rfl,?_⟩
 refine h.newG fun b13 G2 F2 l2 q13 _ h=> ?_
 refine (iX (K.le (aa l l2)) (os:=[0,1,2]) (bp:=b13) q13 (by decide) (fun o ho=>⟨0,w6 (z:=3) o (by simp at ho;omega)⟩) h).mono ?_
 rintro _ F3 ⟨rfl,ys,r',w',hN,h⟩
 cases hN with|cons h0 hN=>
 cases hN with|cons h1 hN=>
 cases hN with|cons h2 hN=>
 cases hN
 have hR:=(h0.pair (h1.pair h2)).map (fun x=>Cn.mk x.1 x.2.1 x.2.2)
 exact ⟨rfl,rfl,G2,_,_,_,l2,hR,rfl,h⟩
theorem ON (K:Rd G s B) {b2:Nat} (q:G.cell (Addr.mk b2 0 none)=some (pc bc)):fF Sy G s B bc dSy 185 (fun p=> #[p,.pointer (some (Addr.mk b2 0 none))]) #[.bool false,vi 0] 69:=fun G1 F1 r1 b8 As1 l h=>by
 refine Hy ?_
 unfold Dy
 refine ⟨_,rfl,_,aq (aa l h.le) q,_,rfl,?_⟩
 refine (w5 (K.le l) (o:=0) h rfl).mono ?_
 rintro _ F2 ⟨rfl,y1,r2,h1,h⟩
 refine ⟨rfl,_,aq (aa l h.le) q,?_⟩
 refine (cQ (K.le l) (o:=1) h rfl).mono ?_
 rintro _ F3 ⟨rfl,y2,r3,h2,h⟩
 have hR:=(h1.pair h2).map (fun x=>Sy.mk x.1 x.2)
 exact ⟨rfl,rfl,G1,_,_,_,le_refl' _,hR,rfl,h⟩
theorem vb (K:Rd G s B) {v0:Int} (h:St G F (rcS s B bc r::pt b (.cells w e0)::As)) (hv:w[o]? =some (Sl.v Sl.nil)) (hv2:w[o+1]? =some (vi v0)):
  ac prog 120 #[pc bc,.pointer (some (Addr.mk b o none))] F fun res F'=>res=.tuple #[]∧∃G' y n r',G.le G'∧Res dD r y r'∧RL G' n y.1∧St G' F' (rcS s B bc r'::pt b (.cells ((w.setIfInBounds o (Sl.v n)).setIfInBounds (o+1) (vi y.2)) e0)::As):=by
 have c2:=cbW.2.2.2.2.2.2.1
 refine Hc ?_
 unfold Do
 refine h.newG fun b2 G1 F1 l1 q2 _ h=>⟨_,ld (h.le _ _ q2) rfl,_,rfl,?_⟩
 refine (Kh (fst:= #[]) (cap:= #[.pointer (some (Addr.mk b2 0 none))]) (K.le l1) c2 (fun _=>rfl) (OK (K.le l1) (ld q2 rfl)) h hv).mono ?_
 rintro _ F2 ⟨rfl,G2,ys,n,r2,l2,h1,hn,h⟩
 refine ⟨rfl,_,ld (h.le _ _ (l2 _ _ q2)) rfl,?_⟩
 rw [aD]
 refine (cQ (K.le (aa l1 l2)) (o:=o+1) h (by rw [Array.getElem?_setIfInBounds_ne (by omega)];exact hv2)).mono ?_
 rintro _ F3 ⟨rfl,y2,r3,h2,h⟩
 exact ⟨rfl,rfl,G2,(ys,y2),n,r3,aa l1 l2,h1.pair h2,hn,h⟩
theorem OO (K:Rd G s B):fF Tk G s B bc dTk 122 (fun p=> #[pc bc,p]) zT 79:=fun G1 F1 r1 b8 As1 l h=>by
 have c2:=cbW.2.2.2.2.2.2.2.1
 refine Hd ?_
 unfold Dp
 refine h.newG fun b2 G2 F2 l2 q2 _ h=>⟨_,ld (h.le _ _ q2) rfl,_,rfl,?_⟩
 have K2:=K.le (aa l l2)
 refine (qi K2 (o:=0) h rfl).mono ?_
 rintro _ F3 ⟨rfl,y1,r1,h1,h⟩
 refine ⟨rfl,_,ld (h.le _ _ q2) rfl,?_⟩
 refine (cQ K2 (o:=1) h rfl).mono ?_
 rintro _ F3 ⟨rfl,y2,r2,h2,h⟩
 refine ⟨rfl,_,ld (h.le _ _ q2) rfl,?_⟩
 refine (qi K2 (o:=2) h rfl).mono ?_
 rintro _ F3 ⟨rfl,y3,r3,h3,h⟩
 refine ⟨rfl,_,ld (h.le _ _ q2) rfl,?_⟩
 refine (Ke (fst:= #[]) (cap:= #[.pointer (some (Addr.mk b2 0 none))]) K2 c2 (fun _=>rfl) (OL K2 (ld q2 rfl)) (o:=3) h rfl).mono ?_
 rintro _ F4 ⟨rfl,G3,y4,n4,r4,l3,h4,hn4,h⟩
 refine ⟨rfl,_,ld (h.le _ _ (l3 _ _ q2)) rfl,?_⟩
 refine (qi (K2.le l3) (o:=4) h rfl).mono ?_
 rintro _ F5 ⟨rfl,y5,r5,h5,h⟩
 refine ⟨rfl,_,ld (h.le _ _ (l3 _ _ q2)) rfl,?_⟩
 refine (vb (K2.le l3) (o:=5) h rfl rfl).mono ?_
 rintro _ F6 ⟨rfl,G4,y6,n6,r6,l4,h6,hn6,h⟩
 have hR:=(h1.pair (h2.pair (h3.pair (h4.pair (h5.pair h6))))).map (fun x=>Tk.mk x.1 x.2.1 x.2.2.1 x.2.2.2.1 x.2.2.2.2.1 x.2.2.2.2.2)
 exact ⟨rfl,rfl,G4,_,_,_,aa l2 (aa l3 l4),hR,⟨n4,n6,rfl,hn4.le l4,hn6⟩,h⟩
set_option maxHeartbeats 2000000 in
theorem OP (K:Rd G s B):fF Pr G s B bc dPr 124 (fun p=> #[pc bc,p]) zP 67:=fun G1 F1 r1 b8 As1 l h=>by
 obtain ⟨_,_,_,_,_,_,_,_,c2,c3⟩:=cbW
 refine He ?_
 unfold Dq
 refine h.newG fun b2 G2 F2 l2 q2 _ h=>⟨_,ld (h.le _ _ q2) rfl,_,rfl,?_⟩
 have K2:=K.le (aa l l2)
 replace h:=h.cw (w':= #[.string ⟨#[]⟩,vi 0,Sl.v Sl.nil,Sl.v Sl.nil,vi 0,.bool false,vi 0,Sl.v Sl.nil,.bool false,vi 0,vi 0,vi 0,vi 0]) (by kernel_rfl)
 refine (qi K2 (o:=0) h rfl).mono ?_
 rintro _ F3 ⟨rfl,y1,r1,h1,h⟩
 replace h:=h.cw (w':= #[.string y1,vi 0,Sl.v Sl.nil,Sl.v Sl.nil,vi 0,.bool false,vi 0,Sl.v Sl.nil,.bool false,vi 0,vi 0,vi 0,vi 0]) (by kernel_rfl)
 refine ⟨rfl,_,ld (h.le _ _ q2) rfl,?_⟩
 refine (cQ K2 (o:=1) h rfl).mono ?_
 rintro _ F3 ⟨rfl,y2,r2,h2,h⟩
 replace h:=h.cw (w':= #[.string y1,vi y2,Sl.v Sl.nil,Sl.v Sl.nil,vi 0,.bool false,vi 0,Sl.v Sl.nil,.bool false,vi 0,vi 0,vi 0,vi 0]) (by kernel_rfl)
 refine ⟨rfl,_,ld (h.le _ _ q2) rfl,?_⟩
 refine (Kf (fst:= #[]) (cap:= #[.pointer (some (Addr.mk b2 0 none))]) K2 c2 (fun _=>rfl) (ON K2 (ld q2 rfl)) (o:=2) h rfl).mono ?_
 rintro _ F4 ⟨rfl,G3,y3,n3,r3,l3,h3,hn3,h⟩
 replace h:=h.cw (w':= #[.string y1,vi y2,Sl.v n3,Sl.v Sl.nil,vi 0,.bool false,vi 0,Sl.v Sl.nil,.bool false,vi 0,vi 0,vi 0,vi 0]) (by kernel_rfl)
 replace K2:=K2.le l3
 replace q2:=l3 _ _ q2
 refine ⟨rfl,_,ld (h.le _ _ q2) rfl,?_⟩
 refine (vb K2 (o:=3) h rfl rfl).mono ?_
 rintro _ F6 ⟨rfl,G4,y4,n4,r4,l4,h4,hn4,h⟩
 replace h:=h.cw (w':= #[.string y1,vi y2,Sl.v n3,Sl.v n4,vi y4.2,.bool false,vi 0,Sl.v Sl.nil,.bool false,vi 0,vi 0,vi 0,vi 0]) (by kernel_rfl)
 replace K2:=K2.le l4
 replace q2:=l4 _ _ q2
 refine ⟨rfl,_,ld (h.le _ _ q2) rfl,?_⟩
 refine (w5 K2 (o:=5) h rfl).mono ?_
 rintro _ F6 ⟨rfl,y5,r5,h5,h⟩
 replace h:=h.cw (w':= #[.string y1,vi y2,Sl.v n3,Sl.v n4,vi y4.2,.bool y5,vi 0,Sl.v Sl.nil,.bool false,vi 0,vi 0,vi 0,vi 0]) (by kernel_rfl)
 have hb5:=h.rcB K2
 refine ⟨rfl,_,by rw [aD];exact h.ld1 rfl,?_⟩
 refine h.new fun b4 F7 h=> ?_
 refine h.set0 (w':= #[vi (IntKind.i64.wrap ((0:Int)+1))]) (by simp) rfl fun F7 h=>⟨_,ld (h.le _ _ q2) rfl,?_⟩
 refine (cQ K2 (o:=0) h.swap rfl).mono ?_
 rintro _ F8 ⟨rfl,y6,r6,h6,h⟩
 refine ⟨rfl,_,ld (h.le _ _ q2) rfl,_,rfl,_,h.rcBad.2,fun _=>⟨_,h.ld1 rfl,?_⟩,fun hc=>absurd rfl hc⟩
 have e6:IntKind.i64.wrap (y6 - 1)=y6 - 1∨r6=none:=by
  cases r5 with
  |none=>exact .inr h6
  |some l5=>
   unfold Res at h6
   dsimp only at h6
   cases hq:dI l5 with
   |none=>rw [hq] at h6;exact .inr h6
   |some q=>
    obtain ⟨x,l'⟩:=q
    rw [hq] at h6
    obtain ⟨rfl,rfl⟩:=h6
    refine .inl ?_
    unfold dI eY at hq
    cases hd:gb l5 with
    |none=>rw [hd] at hq;cases hq
    |some p=>
     obtain ⟨m,l''⟩:=p
     rw [hd] at hq
     cases hq
     have hm:m<128 ^ 9:=(DG 9 l5 m _ (Nat.le_refl _) (hb5 l5 rfl) hd).2.1
     exact aK (by show -9223372036854775808≤(m:Int) - 1;omega) (by show (m:Int) - 1≤9223372036854775807;omega)
 dsimp only
 rw [aD]
 refine h.set2 (i:=0+6) (w':= #[.string y1,vi y2,Sl.v n3,Sl.v n4,vi y4.2,.bool y5,vi (IntKind.i64.wrap (y6 - 1)),Sl.v Sl.nil,.bool false,vi 0,vi 0,vi 0,vi 0]) (by show 6<13;decide) (by kernel_rfl) fun F9 h=> ?_
 have h:=h.swap.tail
 unfold nq
 refine ⟨_,ld (h.le _ _ q2) rfl,?_⟩
 refine (Kg (fst:= #[]) (cap:= #[.pointer (some (Addr.mk b2 0 none))]) K2 c3 (fun _=>rfl) (OM K2 (ld q2 rfl)) (o:=7) h rfl).mono ?_
 rintro _ F10 ⟨rfl,G5,y7,n7,r7,l5,h7,hn7,h⟩
 replace h:=h.cw (w':= #[.string y1,vi y2,Sl.v n3,Sl.v n4,vi y4.2,.bool y5,vi (IntKind.i64.wrap (y6 - 1)),Sl.v n7,.bool false,vi 0,vi 0,vi 0,vi 0]) (by kernel_rfl)
 replace K2:=K2.le l5
 replace q2:=l5 _ _ q2
 refine ⟨rfl,_,ld (h.le _ _ q2) rfl,?_⟩
 refine (w5 K2 (o:=8) h rfl).mono ?_
 rintro _ F11 ⟨rfl,y8,r8,h8,h⟩
 replace h:=h.cw (w':= #[.string y1,vi y2,Sl.v n3,Sl.v n4,vi y4.2,.bool y5,vi (IntKind.i64.wrap (y6 - 1)),Sl.v n7,.bool y8,vi 0,vi 0,vi 0,vi 0]) (by kernel_rfl)
 refine ⟨rfl,_,ld (h.le _ _ q2) rfl,?_⟩
 refine h.newG fun b77 G6 F12 l6 q77 _ h=> ?_
 refine (iX (K2.le l6) (os:=[9,10,11,12]) (bp:=b77) q77 (by decide) (fun o ho=>⟨0,by
  simp only [List.mem_cons,List.not_mem_nil,or_false] at ho
  rcases ho with rfl|rfl|rfl|rfl<;>rfl⟩) h).mono ?_
 rintro _ F13 ⟨rfl,ys,r',w',hN,h⟩
 cases hN with| @cons _ _ _ q1 _ _ _ z1 _ g1 hN=>
 cases hN with| @cons _ _ _ q2 _ _ _ z2 _ g2 hN=>
 cases hN with| @cons _ _ _ q3 _ _ _ z3 _ g3 hN=>
 cases hN with| @cons _ _ _ q4 _ _ _ z4 _ g4 hN=>
 cases hN
 replace h:=h.cw (w':= #[.string y1,vi y2,Sl.v n3,Sl.v n4,vi y4.2,.bool y5,vi (IntKind.i64.wrap (y6 - 1)),Sl.v n7,.bool y8,vi z1,vi z2,vi z3,vi z4]) (by kernel_rfl)
 have l26:=aa l3 (aa l4 (aa l5 l6))
 have hR:=(h1.pair (h2.pair (h3.pair (h4.pair (h5.pair (h6.pair (h7.pair ((h8.pair (g1.pair (g2.pair (g3.pair g4)))).map (fun x=>Sco.mk x.1 x.2.1 x.2.2.1 x.2.2.2.1 x.2.2.2.2))))))))).map (fun x=>Pr.mk x.1 x.2.1 x.2.2.1 x.2.2.2.1 x.2.2.2.2.1 (x.2.2.2.2.2.1 - 1) x.2.2.2.2.2.2.1 x.2.2.2.2.2.2.2)
 rcases e6 with e6|e6
 ·exact ⟨rfl,rfl,G6,_,_,_,aa l2 l26,hR,⟨n3,n4,n7,by rw [e6],hn3.le (aa l4 (aa l5 l6)),hn4.le (aa l5 l6),hn7.le l6⟩,h⟩
 ·exact ⟨rfl,rfl,G6,⟨y1,y2,y3,y4,y5,IntKind.i64.wrap (y6 - 1),y7,⟨y8,z1,z2,z3,z4⟩⟩,_,_,aa l2 l26,hR.bad (gc g4 (gc g3 (gc g2 (gc g1 (gc h8 (gc h7 e6)))))),⟨n3,n4,n7,rfl,hn3.le (aa l4 (aa l5 l6)),hn4.le (aa l5 l6),hn7.le l6⟩,h⟩
theorem OQ (K:Rd G s B):fF Lv G s B bc dLv 127 (fun p=> #[pc bc,p]) zL 72:=fun G1 F1 r1 b8 As1 l h=>by
 have K1:=K.le l
 refine Hg ?_
 unfold Ds
 refine ⟨_,rfl,?_⟩
 refine (Ic (fst:= #[pc bc]) (cap:= #[]) K1 cbW.2.1 (fun _=>rfl) (OJ K1) (o:=0) h rfl).mono ?_
 rintro _ F2 ⟨rfl,G2,y1,n1,r1,l2,h1,hn1,h⟩
 refine ⟨rfl,?_⟩
 refine (cQ (K1.le l2) (o:=1) h rfl).mono ?_
 rintro _ F3 ⟨rfl,y2,r2,h2,h⟩
 refine ⟨rfl,?_⟩
 refine (vb (K1.le l2) (o:=2) h rfl rfl).mono ?_
 rintro _ F4 ⟨rfl,G4,y3,n3,r3,l4,h3,hn3,h⟩
 have hR:=(h1.pair (h2.pair h3)).map (fun x=>Lv.mk x.1 x.2.1 x.2.2)
 exact ⟨rfl,rfl,G4,_,_,_,aa l2 l4,hR,⟨n1,n3,rfl,hn1.le l4,hn3⟩,h⟩
theorem OR (K:Rd G s B):fF Fi G s B bc dFi 129 (fun p=> #[pc bc,p]) zF 74:=fun G1 F1 r1 b8 As1 l h=>by
 have K1:=K.le l
 refine Hh ?_
 unfold Dt
 refine ⟨_,rfl,?_⟩
 refine h.newG fun b27 G2 F2 l2 q27 _ h=> ?_
 have K2:=K1.le l2
 have hw:∀o∈[0,1,2,3,4,5],∃v,(zF)[o]? =some (vi v):=fun o ho=>⟨0,by
  simp only [List.mem_cons,List.not_mem_nil,or_false] at ho
  rcases ho with rfl|rfl|rfl|rfl|rfl|rfl<;>rfl⟩
 refine bW (kB · (some (Addr.mk bc 0 none)) (Addr.mk b8 0 none) b27 _) 6 (fun i F'=>∃ys ri wi,gf ([0,1,2,3,4,5].take i) r1 zF ys ri wi∧St G2 F' (rcS s B bc ri::pt b8 (.cells wi 74)::As1)) ⟨[],r1,zF,.nil,h⟩ ?_
 rintro i F3 N hi ⟨ys,ri,wi,hN,h⟩ next
 unfold kB
 refine ⟨fun hlt=> ?_,fun hge=> ?_⟩
 ·have hlt:i<6:=by
   have:(i:Int)<((6:Nat):Int):=hlt
   omega
  refine rD K2 (os:=[0,1,2,3,4,5]) (bp:=b27) q27 hw hlt hN h fun F' ys' ri' wi' hN' h'=>⟨rfl,?_⟩
  rw [aQ hlt (by omega)]
  exact next _ hlt ⟨ys',ri',wi',hN',h'⟩
 ·have e:i=6:=by
   have:¬(i:Int)<((6:Nat):Int):=hge
   omega
  subst e
  cases hN with| @cons _ _ _ q1 _ _ _ z1 _ g1 hN=>
  cases hN with| @cons _ _ _ q2 _ _ _ z2 _ g2 hN=>
  cases hN with| @cons _ _ _ q3 _ _ _ z3 _ g3 hN=>
  cases hN with| @cons _ _ _ q4 _ _ _ z4 _ g4 hN=>
  cases hN with| @cons _ _ _ q5 _ _ _ z5 _ g5 hN=>
  cases hN with| @cons _ _ _ q6 _ _ _ z6 _ g6 hN=>
  cases hN
  replace h:=h.cw (w':= #[vi z1,vi z2,vi z3,vi z4,vi z5,vi z6,Sl.v Sl.nil,Sl.v Sl.nil,vi 0]) (by kernel_rfl)
  unfold td
  refine ⟨_,rfl,?_⟩
  refine (Ic (fst:= #[pc bc]) (cap:= #[]) K2 cbW.2.1 (fun _=>rfl) (OJ K2) (o:=6) h rfl).mono ?_
  rintro _ F4 ⟨rfl,G4,y7,n7,r7,l4,h7,hn7,h⟩
  refine ⟨rfl,?_⟩
  refine (vb (K2.le l4) (o:=7) h rfl rfl).mono ?_
  rintro _ F5 ⟨rfl,G5,y8,n8,r8,l5,h8,hn8,h⟩
  have hR:=(g1.pair (g2.pair (g3.pair (g4.pair (g5.pair (g6.pair (h7.pair h8))))))).map (fun x=>Fi.mk x.1 x.2.1 x.2.2.1 x.2.2.2.1 x.2.2.2.2.1 x.2.2.2.2.2.1 x.2.2.2.2.2.2.1 x.2.2.2.2.2.2.2)
  exact ⟨rfl,rfl,G5,_,_,_,aa l2 (aa l4 l5),hR,⟨n7,n8,by kernel_rfl,hn7.le l5,hn8⟩,h⟩
theorem Av (K:Rd G s B) (h:St G F (rcS s B bc r::pt b (.cells zG 39)::As)):
  ac prog 43 #[pc bc,.pointer (some (Addr.mk b 0 none))] F fun res F'=>res=.tuple #[]∧∃G' g v r',G.le G'∧Res dGr r g r'∧GV G' v g∧St G' F' (rcS s B bc r'::pt b (.cells v 39)::As):=by
 obtain ⟨c1,_,c2,c3,c4,c5,_⟩:=cbW
 refine M1 ?_
 unfold JW
 refine ⟨_,rfl,?_⟩
 refine (Ib (fst:= #[pc bc]) (cap:= #[]) K c1 (fun _=>rfl) (OI K) (o:=0) h rfl).mono ?_
 rintro _ F1 ⟨rfl,G1,y1,n1,r1,l1,h1,hn1,h⟩
 replace K:=K.le l1
 refine ⟨rfl,?_⟩
 refine (vb K (o:=1) h rfl rfl).mono ?_
 rintro _ F1 ⟨rfl,G2,y2,n2,r2,l2,h2,hn2,h⟩
 replace K:=K.le l2
 refine ⟨rfl,?_⟩
 replace h:=h.cw (w':= #[n1.v,n2.v,vi y2.2,Sl.v Sl.nil,Sl.v Sl.nil,Sl.v Sl.nil,vi 0,Sl.v Sl.nil,Sl.v Sl.nil]) (by kernel_rfl)
 refine (J9 (fst:= #[pc bc]) (cap:= #[]) K c2 (fun _=>rfl) (OO K) (o:=3) h rfl).mono ?_
 rintro _ F1 ⟨rfl,G3,y3,n3,r3,l3,h3,hn3,h⟩
 replace K:=K.le l3
 refine ⟨rfl,?_⟩
 refine (Ib (fst:= #[pc bc]) (cap:= #[]) K c1 (fun _=>rfl) (OI K) (o:=4) h rfl).mono ?_
 rintro _ F1 ⟨rfl,G4,y4,n4,r4,l4,h4,hn4,h⟩
 replace K:=K.le l4
 refine ⟨rfl,?_⟩
 replace h:=h.cw (w':= #[n1.v,n2.v,vi y2.2,n3.v,n4.v,Sl.v Sl.nil,vi 0,Sl.v Sl.nil,Sl.v Sl.nil]) (by kernel_rfl)
 refine (Ka (fst:= #[pc bc]) (cap:= #[]) K c3 (fun _=>rfl) (OP K) (o:=5) h rfl).mono ?_
 rintro _ F1 ⟨rfl,G5,y5,n5,r5,l5,h5,hn5,h⟩
 replace K:=K.le l5
 refine ⟨rfl,?_⟩
 refine (cQ K (o:=6) h rfl).mono ?_
 rintro _ F1 ⟨rfl,y6,r6,h6,h⟩
 refine ⟨rfl,?_⟩
 replace h:=h.cw (w':= #[n1.v,n2.v,vi y2.2,n3.v,n4.v,n5.v,vi y6,Sl.v Sl.nil,Sl.v Sl.nil]) (by kernel_rfl)
 refine (Kb (fst:= #[pc bc]) (cap:= #[]) K c4 (fun _=>rfl) (OQ K) (o:=7) h rfl).mono ?_
 rintro _ F1 ⟨rfl,G7,y7,n7,r7,l7,h7,hn7,h⟩
 replace K:=K.le l7
 refine ⟨rfl,?_⟩
 refine (Kc (fst:= #[pc bc]) (cap:= #[]) K c5 (fun _=>rfl) (OR K) (o:=8) h rfl).mono ?_
 rintro _ F1 ⟨rfl,G8,y8,n8,r8,l8,h8,hn8,h⟩
 have hR:=(h1.pair (h2.pair (h3.pair (h4.pair (h5.pair (h6.pair (h7.pair h8))))))).map (fun x=>Gr.mk x.1 x.2.1 x.2.2.1 x.2.2.2.1 x.2.2.2.2.1 x.2.2.2.2.2.1 x.2.2.2.2.2.2.1 x.2.2.2.2.2.2.2)
 replace h:=h.cw (w':= #[n1.v,n2.v,vi y2.2,n3.v,n4.v,n5.v,vi y6,n7.v,n8.v]) (by kernel_rfl)
 have k78:=l8
 have k58:=aa l7 k78
 have k48:=aa l5 k58
 have k38:=aa l4 k48
 have k28:=aa l3 k38
 have k18:=aa l2 k28
 exact ⟨rfl,rfl,G8,_,_,_,aa l1 k18,hR,⟨n1,n2,n3,n4,n5,n7,n8,rfl,hn1.le k18,hn2.le k28,hn3.le k38,hn4.le k48,hn5.le k58,hn7.le k78,hn8⟩,h⟩
end
noncomputable def jA (l:List Nat):Gr×Int:=match dGr l with
 |some (g,[])=>if cf g=0 then (g,0) else (gr0,55)
 |_=>(gr0,55)
theorem iq {F:PH} {s:Sl} {B:List Nat} (hT:Tab F) (K:Rd F s B) (hz:∀g,dGr B=some (g,[])→Sz g):
  ac prog 16 #[s.v] F fun r F'=>(∃w,r=.tuple #[.agg w,vi (jA B).2]∧GV F' w (jA B).1)∧F.le F':=by
 have hs:=K.len
 refine Qj ?_
 unfold MX
 refine (St.start F).new fun b2 F1 h=> ?_
 refine h.new fun b8 F2 h=> ?_
 have h:St F F2 (rcS s B b8 (some B)::pt b2 (.cells zG 39)::[]):=h.mkR (k:=0) (bad:=false) rfl (by omega) fun l e=>by cases e;rfl
 refine h.new fun b5 F3 h=> ?_
 refine h.put0 (w':=zG) rfl rfl (GV.zero F).st fun F3 h=> ?_
 refine (Av K h.swap).mono ?_
 rintro _ F4 ⟨rfl,G4,g,v,r,l4,hR,hv,h⟩
 have K4:=K.le l4
 obtain ⟨k,⟨hk,hl⟩,h⟩:=h.exR
 have bad:jA B=(gr0,55)→∀{G5 F':PH} {v':Array Value} {o:Obj},G4.le G5→St G5 F' [pt b8 o,pt b5 (.cells v' 39),pt b2 (.cells zG 39)]→lP b2 b5 true (fun r F'=>(∃w,r=.tuple #[.agg w,vi (jA B).2]∧GV F' w (jA B).1)∧F.le F') F':=fun e {G5 F' v' o} l5 h=>by
  unfold lP
  refine ⟨fun _=> ?_,fun hc=>(by cases hc)⟩
  refine h.put2 (w':=zG) rfl rfl (GV.zero F).st fun F6 h=>⟨zG,rfl,h.whole2,?_⟩
  rw [e]
  exact ⟨⟨zG,rfl,GV.zero _⟩,aa l4 (aa l5 h.le)⟩
 unfold Res at hR
 dsimp only at hR
 refine ⟨rfl,_,h.ld0 rfl,fun hb=> ?_,fun hb=>⟨_,h.ld0 rfl,fun hne=> ?_,fun heq=> ?_⟩⟩
 ·refine bad ?_ (le_refl' _) h
  have:r=none:=by cases r with|none=>rfl|some l=>cases hb
  subst this
  unfold jA
  cases hd:dGr B with
  |none=>rfl
  |some q=>rw [hd] at hR;cases hR.2
 ·refine bad ?_ (le_refl' _) h
  obtain ⟨l,rfl⟩:∃l,r=some l:=by cases r with|none=>cases hb|some l=>exact ⟨l,rfl⟩
  unfold jA
  cases hd:dGr B with
  |none=>rfl
  |some q=>
   obtain ⟨g',l'⟩:=q
   rw [hd] at hR
   obtain ⟨rfl,e⟩:=hR
   cases e
   have e1:=hl l rfl
   cases l with
   |nil=>
    have:(B.drop k).length=0:=by rw [e1];rfl
    rw [List.length_drop] at this
    exact absurd (show (k:Int)=(s.len:Int) by omega) hne
   |cons x l=>rfl
 ·obtain ⟨l,rfl⟩:∃l,r=some l:=by cases r with|none=>cases hb|some l=>exact ⟨l,rfl⟩
  have hk:k=B.length:=by
   have:(k:Int)=(s.len:Int):=Decidable.not_not.1 heq
   omega
  have e1:=hl l rfl
  rw [hk,List.drop_length] at e1
  subst e1
  obtain ⟨hd⟩:∃_:dGr B=some (g,[]),True:=by
   cases hd:dGr B with
   |none=>rw [hd] at hR;cases hR
   |some q=>
    obtain ⟨g',l'⟩:=q
    rw [hd] at hR
    obtain ⟨rfl,e⟩:=hR
    cases e
    exact ⟨rfl,trivial⟩
  have hdec:jA B=if cf g=0 then (g,0) else (gr0,55):=by unfold jA;rw [hd]
  refine ⟨v,hv.size,h.whole1,?_⟩
  refine h.run (fa (hT.le l4) hv (hz g hd)) fun _ G5 F5 hr l5 h=> ?_
  rw [hr]
  refine ⟨_,rfl,?_⟩
  by_cases hc:cf g=0
  ·dsimp only
   rw [hc,show decide ((0:Int)≠0)=false from rfl]
   unfold lP
   refine ⟨fun hc=>(by cases hc),fun _=>⟨v,hv.size,h.whole1,?_⟩⟩
   refine h.put2 (w':=v) hv.size rfl hv.st fun F6 h=>⟨v,hv.size,h.whole2,?_⟩
   rw [hdec,if_pos hc]
   exact ⟨⟨v,rfl,hv.le (aa l5 h.le)⟩,aa l4 (aa l5 h.le)⟩
  ·dsimp only
   rw [decide_eq_true hc]
   exact bad (by rw [hdec,if_neg hc]) l5 h
end Go.Proofs.YtenpmjhnhepfdaaGreatDoor
