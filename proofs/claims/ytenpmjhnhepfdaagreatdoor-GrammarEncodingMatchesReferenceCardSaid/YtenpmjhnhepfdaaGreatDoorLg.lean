/-
  The reference: a grammar as a row of numbers.
-/
import Derived.Test.YtenpmjhnhepfdaaGreatDoorJk
import Derived.Test.YtenpmjhnhepfdaaGreatDoorGkoinelaw05
import Derived.Test.YtenpmjhnhepfdaaGreatDoorTopk
import Derived.Test.YtenpmjhnhepfdaaGreatDoorGkoineref05
namespace Go.Proofs.YtenpmjhnhepfdaaGreatDoor
open Go.IntKind (i64 u8 u64)
open Go Go.Proofs.Tryz
set_option maxRecDepth 10000
theorem Jb {w:Γ} {o:Nat} {v:Value} (h:w[o]? =some v):w.setIfInBounds o v=w:=by
 have ho:=(X6.1 h).1;apply Array.ext_getElem?;intro i;rw [Yt];split
 ·rename_i e;subst e;exact h.symm
 ·rfl
theorem Dl {w:Γ} {o:Nat} {u v:Value} (h:w[o]? =some u):(w.setIfInBounds o v)[o]? =some v:=by have ho:=(X6.1 h).1;rw [Yt,if_pos rfl,if_pos ho]
theorem Lu (w:Γ) (o:Nat) (u v:Value):(w.setIfInBounds o u).setIfInBounds o v=w.setIfInBounds o v:=by apply Array.ext_getElem?;intro i;simp only [Yt,Array.size_setIfInBounds];split<;>rfl
theorem om {α:Type} (d:Ps α) (k:Nat) (l:Δ):dk d (k+1) l=(d l).bind λq=>(dk d k q.2).map λp=>(q.1::p.1,p.2):=by
 rw [dk];cases d l with
 |none=>rfl
 |some q=>obtain ⟨x,r⟩:=q;simp only [YW];cases dk d k r<;>rfl
theorem St.rcBad {G F:PH} {As:List (Ψ)} {s:Sl} {B:Δ} {bc:Nat} {r:Option Δ} (h:St G F (rcS s B bc r::As)):F.cell (Addr.mk bc 3 none)=some (.bool r.isNone)/\F.cell (Addr.mk bc 0 none)=some (vi 1):=by obtain ⟨k,_,h⟩:=h.exR;exact ⟨h.ld0 rfl,h.ld0 rfl⟩
theorem St.rcB {G F G':PH} {As:List (Ψ)} {s:Sl} {B:Δ} {bc:Nat} {r:Option Δ} (h:St G F (rcS s B bc r::As)) (K:Rd G' s B):∀l,r=some l->∀b∈l,b<256:=λl e b hb=>by obtain ⟨k,⟨_,hl⟩,_⟩:=h.exR;exact K.b b (List.mem_of_mem_drop (by rw [hl l e];exact hb))
theorem St.cw {G F:PH} {As:List (Ψ)} {p:Ψ} {b e:Nat} {w w':Γ} (h:St G F (p::pt b (.cells w e)::As)) (hw:w=w'):St G F (p::pt b (.cells w' e)::As):=hw▸h
theorem gX {α:Type} {d:Ps α} {r r':Option Δ} {y:α} (h:Res d r y r') (hr:r=none):r'=none:=by subst hr;exact h
theorem Res.bad {α:Type} {d:Ps α} {r r':Option Δ} {y z:α} (h:Res d r y r') (hr:r'=none):Res d r z r':=by
 subst hr;cases r with
 |none=>rfl
 |some l=>
  unfold Res at*;dsimp only at*;cases h1:d l with
  |none=>rfl
  |some q=>rw [h1] at h;cases h.2
def iM (ld:PH->Nat->(Γ->Prop)->Prop) (z:Γ) (e t:Nat) (one:Value) (la:Addr) (N:Ω) (i:Int) (F:PH):Prop:=
 Nb F (.cells z e) λb8 F=>Fn one λk f c=>ae prog k (f++([(Value.pointer (some (Am b8 0)))]).toArray++c) F λv F=>v=(Value.tuple #[])/\
 Ls F la λv44=>ld F b8 λv45=>Nb F (.cells v45 e) λb46 F=>Ap t #[(Sl.v v44),(Sl.v (Sb b46 1))] F λv47 F=>sto F la (Sl.v v47) λF=>N (i64.wrap (i+(1:Int))) F
def ldS (n:Nat) (F:PH) (b:Nat) (K:Γ->Prop):Prop:=Lr F n (Am b 0) λv=>v.size=n/\K v
def ldX (F:PH) (b:Nat) (K:Γ->Prop):Prop:=Lx F (Am b 0) λv=>K #[.string v]
def ldI (F:PH) (b:Nat) (K:Γ->Prop):Prop:=Li F (Am b 0) λv=>K #[.int .i64 v]
section
variable {α:Type} [Mem α] {G F:PH} {As:List (Ψ)} {s:Sl} {B:Δ} {bc b o e0:Nat} {r:Option Δ} {w:Γ}
def gB (α:Type) [Mem α] (G:PH) (s:Sl) (B:Δ) (bc:Nat) (d:Ps α) (k:Nat) (args:Value->Γ) (z:Γ) (e:Nat):Prop:=
 ∀G1 F1 r1 b8 As1,G.le G1->St G1 F1 (rcS s B bc r1::pt b8 (.cells z e)::As1)->ae prog k (args (.pointer (some (Addr.mk b8 0 none)))) F1 λres F'=>res=.tuple #[]/\∃G' y r' c,G1.le G'/\Res d r1 y r'/\Mem.rep G' y c/\St G' F' (rcS s B bc r'::pt b8 (.cells c e)::As1)
theorem gC {d:Ps α} (K:Rd G s B) (h:St G F (rcS s B bc r::pt b (.cells w e0)::As)) (hv:w[o]? =some (Sl.v Sl.nil)) {n:Nat} (hn:Mem.n α=n)
  {t e bytes:Nat} {zz:Value} (T:SlT t e (Mem.n α) bytes zz) {z:Γ} {ld:PH->Nat->(Γ->Prop)->Prop} (hld:∀F b8 c K,(∃G x,Mem.rep (α:=α) G x c)->F b8=some (.cells c e)->K c->ld F b8 K)
  {k:Nat} {fst cap:Γ} (hk:aB prog k=true) {args:Value->Γ} (ha:∀p,fst++([p]).toArray++cap=args p) (hone:gB α G s B bc d k args z e)
  {L:(Ω)->Θ->Addr->Value->Int->VR->Ω} (hL:∀N c0 l1 o' v R i F,L N c0 l1 o' v R i F=dn n (λ_=>iM ld z e t o' l1 N i F) N c0 l1 o' v R i F):
  iK L (some (Addr.mk bc 0 none)) (some (Addr.mk b o none)) (.func (.func k) fst cap) (λres F'=>res=.tuple #[]/\∃G' ys sl r',G.le G'/\Res (dL d) r ys r'/\RL G' sl ys/\St G' F' (rcS s B bc r'::pt b (.cells (w.setIfInBounds o (Sl.v sl)) e0)::As)) F:=by
 have ho:=(X6.1 hv).1;have hB:=K.l;refine ⟨_,rfl,Sl.nil,h.ld1 hv,?_⟩;refine (Dn K _ h).mono ?_;rintro _ F2 ⟨m,r1,rfl,hr,hm,hm2,h⟩;have hmB:m<=B.length:=by
  cases r1 with
  |none=>rw [hm rfl];omega
  |some l1=>obtain ⟨k',⟨hk',hl⟩,_⟩:=h.exR;have h1:=hm2 l1 rfl;rw [<- hl l1 rfl,Yp] at h1;omega
 refine ⟨_,rfl,?_⟩
 refine bF (L · _ _ _ _ _) m (λi F'=>∃G1 xs vs sl ri,G.le G1/\dr (α:=α) G1 xs vs/\xs.length=i/\(r1=none->ri=none)/\(∀l1,r1=some l1->dk d m l1=Option.bind ri λli=>(dk d (m - i) li).map λq=>(xs++q.1,q.2))/\sl.len=i/\
  St G1 F' (rcS s B bc ri::pt b (.cells (w.setIfInBounds o (Sl.v sl)) e0)::own sl e (Mem.n α) (cat vs)::As)) ⟨G,[],[],Sl.nil,r1,am _,.nil,rfl,id,λl1 e1=> ?_,rfl,?_⟩ ?_
 ·rw [e1];simp
 ·rw [Jb hv];exact (h.nilOwn e (Mem.n α)).back2
 rintro i F3 N hi ⟨G1,xs,vs,sl,ri,l1,hreps,hxs,hrel1,hrel2,hsl,h⟩ next;have fin:(i=m\/ri=none)->(Value.tuple #[]=Value.tuple #[]/\∃G' ys sl r',G.le G'/\Res (dL d) r ys r'/\RL (α:=α) G' sl ys/\St G' F3 (rcS s B bc r'::pt b (.cells (w.setIfInBounds o (Sl.v sl)) e0)::As)):=λhc=>by
  obtain ⟨G2,l2,hd,h2⟩:=h.front2.pinO;refine ⟨rfl,G2,xs,sl,ri,aa l1 l2,?_,⟨vs,hreps.le l2,hd⟩,h2⟩;cases r with
  |none=>exact hrel1 hr
  |some l=>
   unfold Res dL at*;dsimp only at*;cases h1:dC l with
   |none=>rw [h1] at hr;exact hrel1 hr
   |some q=>
    obtain ⟨m',l1'⟩:=q;rw [h1] at hr;obtain ⟨rfl,e1⟩:=hr;dsimp only;rw [hrel2 l1' e1];cases hri:ri with
    |none=>rfl
    |some li=>
     rcases hc with rfl|hc
     ·rw [Nat.sub_self];simp [dk]
     ·rw [hri] at hc;cases hc
 rw [hL];unfold dn;obtain ⟨hbad,hmode⟩:=h.rcBad;refine ⟨λhlt=>⟨_,rfl,_,by rw [av];exact hbad,λhb=>⟨_,hmode,λhc=>absurd hc (by decide),λ_=> ?_⟩,λhb=>fin (.inr ?_)⟩,λhge=>fin (.inl (by omega))⟩
 ·have hlt:i<m:=by omega
  obtain ⟨li,rfl⟩:∃li,ri=some li:=by cases ri with|none=>cases hb|some l=>exact ⟨l,rfl⟩
  unfold iM;refine h.new λb8 F4 h=>⟨k,fst,cap,rfl,hk,?_⟩;dsimp only;rw [ha];refine (hone G1 F4 (some li) b8 _ l1 h.swap).mono ?_;rintro _ F5 ⟨rfl,G2,y,r2,c,l2,hres,hrep,h⟩;refine ⟨rfl,sl,h.ld2 (Dl hv),hld _ _ c _ ⟨G2,y,hrep⟩ (h.ptAt (i:=1) rfl) ?_⟩;have h:=h.swap.tail;refine h.push2 T (c:=c) (Mem.len hrep) (Mem.st hrep) (by omega) λs' G3 F6 l3 h hl'=> ?_;refine h.set1 (w':=w.setIfInBounds o (Sl.v s')) (by rw [Array.size_setIfInBounds];exact ho) (Lu ..) λF7 h=> ?_;rw [aE hlt (by omega)];refine next F7 hlt ⟨G3,xs++[y],vs++[c],s',r2,aa l1 (aa l2 l3),((hreps.le l2).append (.cons hrep .nil)).le l3,by rw [N3,hxs];rfl,λe1=>(by have:=hrel1 e1;cases this),λl1' e1=> ?_,by omega,by rw [bA,bL];exact h⟩;rw [hrel2 l1' e1,show m - i=m - (i+1)+1 by omega];simp only [YW];rw [om];unfold Res at hres;dsimp only at hres;cases h1:d li with
  |none=>rw [h1] at hres;rw [show r2=none from hres];rfl
  |some q=>obtain ⟨x,l'⟩:=q;rw [h1] at hres;obtain ⟨rfl,rfl⟩:=hres;simp only [YW,Option.map_map];congr 1;funext p;simp
 ·cases ri with|none=>rfl|some l=>cases hb
end
theorem jw {α:Type} [Mem α] {n e:Nat} (hn:Mem.n α=n):∀(F:PH) (b8:Nat) (c:Γ) (K:Γ->Prop),(∃G x,Mem.rep (α:=α) G x c)->F b8=some (.cells c e)->K c->ldS n F b8 K:=
 λF b8 c K ⟨G,x,hx⟩ q hK=>⟨c,by rw [<- hn];exact Mem.len hx,aj q,by rw [<- hn];exact Mem.len hx,hK⟩
theorem Qo {e:Nat}:∀(F:PH) (b8:Nat) (c:Γ) (K:Γ->Prop),(∃G x,Mem.rep (α:=ByteArray) G x c)->F b8=some (.cells c e)->K c->ldX F b8 K:=
 λF b8 c K ⟨G,x,hx⟩ q hK=>by have hx:c= #[.string x]:=hx;subst hx;exact ⟨x,ld q rfl,hK⟩
theorem Qp {e:Nat}:∀(F:PH) (b8:Nat) (c:Γ) (K:Γ->Prop),(∃G x,Mem.rep (α:=Int) G x c)->F b8=some (.cells c e)->K c->ldI F b8 K:=
 λF b8 c K ⟨G,x,hx⟩ q hK=>by have hx:c= #[vi x]:=hx;subst hx;exact ⟨x,ld q rfl,hK⟩
inductive gY:Δ->Option Δ->Γ->Φ->Option Δ->Γ->Prop
 |nil {r:Option Δ} {w:Γ}:gY [] r w [] r w
 |cons {o:Nat} {os:Δ} {r r1 r2:Option Δ} {w w2:Γ} {y:Int} {ys:Φ}:Res dI r y r1->gY os r1 (w.setIfInBounds o (vi y)) ys r2 w2->gY (o::os) r w (y::ys) r2 w2
theorem gY.snoc {os:Δ} {r r1 r2:Option Δ} {w w1:Γ} {ys:Φ} {o:Nat} {y:Int} (h:gY os r w ys r1 w1) (h2:Res dI r1 y r2):gY (os++[o]) r w (ys++[y]) r2 (w1.setIfInBounds o (vi y)):=by
 induction h with
 |nil=>exact .cons h2 .nil
 |cons h3 _ ih=>exact .cons h3 (ih h2)
theorem gY.int {os:Δ} {r r1:Option Δ} {w w1:Γ} {ys:Φ} (h:gY os r w ys r1 w1) {o:Nat} (ho:∃v,w[o]? =some (vi v)):∃v,w1[o]? =some (vi v):=by
 induction h with
 |nil=>exact ho
 | @cons o' os r r1 r2 w w2 y ys _ _ ih=>
  refine ih ?_;obtain ⟨v,hv⟩:=ho;by_cases e:o'=o
  ·subst e;exact ⟨y,Dl hv⟩
  ·exact ⟨v,by rw [YA e];exact hv⟩
section
variable {G F:PH} {As:List (Ψ)} {s:Sl} {B:Δ} {bc b e:Nat} {r:Option Δ} {w:Γ}
theorem ux (K:Rd G s B) {os:Δ} {bp ep:Nat} (q:G bp=some (.cells (os.map λo=>Value.pointer (some (Addr.mk b o none))).toArray ep)) (hw:∀o∈os,∃v,w[o]? =some (vi v)) {i:Nat} (hi:i<os.length) {ys:Φ} {ri:Option Δ} {wi:Γ} {F2:PH}
  (hN:gY (os.take i) r w ys ri wi) (h:St G F2 (rcS s B bc ri::pt b (.cells wi e)::As)) {R:VR}
  (k:∀F' ys ri wi,gY (os.take (i+1)) r w ys ri wi->St G F' (rcS s B bc ri::pt b (.cells wi e)::As)->R (.tuple #[]) F'):
  ∃a:Addr,(Sl.mk (some (Addr.mk bp 0 none)) os.length os.length).base=some a/\0<=(i:Int)/\(i:Int)<((Sl.mk (some (Addr.mk bp 0 none)) os.length os.length).len:Int)/\∃v:Θ,F2.cell (Addr.add a (Int.toNat (i:Int)*1))=some (.pointer v)/\ae prog 125 #[pc bc,.pointer v] F2 R:=by
 have ho:=N4 hi;generalize os[i]=o at ho;obtain ⟨v,hv⟩:=hN.int (hw o (XG ho));refine ⟨_,rfl,by omega,by show (i:Int)<(os.length:Int);omega,some (Addr.mk b o none),?_,?_⟩
 ·rw [N5,XS,av,XZ];exact ld (h.le _ _ q) (by simp [ho])
 ·refine (dz K h hv).mono ?_;rintro _ F3 ⟨rfl,y,r',hr,h⟩;refine k F3 (ys++[y]) r' _ ?_ h;rw [aK ho];exact hN.snoc hr
theorem jW (K:Rd G s B) {os:Δ} {bp ep:Nat} (q:G bp=some (.cells (os.map λo=>Value.pointer (some (Addr.mk b o none))).toArray ep)) (hos:os.length<=100) (hw:∀o∈os,∃v,w[o]? =some (vi v)) (h:St G F (rcS s B bc r::pt b (.cells w e)::As)):
  ae prog 181 #[pc bc,Sl.v (Sl.mk (some (Addr.mk bp 0 none)) os.length os.length)] F λres F'=>res=.tuple #[]/\∃ys r' w',gY os r w ys r' w'/\St G F' (rcS s B bc r'::pt b (.cells w' e)::As):=by
 refine Nl ?_;unfold Ij;refine bF (ml · _ _ _) os.length (λi F'=>∃ys ri wi,gY (os.take i) r w ys ri wi/\St G F' (rcS s B bc ri::pt b (.cells wi e)::As)) ⟨[],r,w,.nil,h⟩ ?_;rintro i F2 N hi ⟨ys,ri,wi,hN,h⟩ next;unfold ml;refine ⟨λhlt=> ?_,λhge=> ?_⟩
 ·have hlt:i<os.length:=by have:(i:Int)<(os.length:Int):=hlt;omega
  refine ux K q hw hlt hN h λF' ys' ri' wi' hN' h'=>⟨rfl,?_⟩;rw [aE hlt (by omega)];exact next _ hlt ⟨ys',ri',wi',hN',h'⟩
 ·have e:i=os.length:=by have:¬(i:Int)<(os.length:Int):=hge;omega
  rw [e,XF] at hN;exact ⟨rfl,ys,ri,wi,hN,h⟩
end
end Go.Proofs.YtenpmjhnhepfdaaGreatDoor
namespace Go.Proofs.YtenpmjhnhepfdaaGreatDoor
open Go.IntKind (i64 u8 u64)
open Go Go.Proofs.Tryz Tr
set_option maxRecDepth 10000
section
end
theorem St.elz {G F:PH} {As:List (Ψ)} {s:Sl} {e n k:Nat} {vs:List Γ} {c:Γ} (h:St G F As) (i:Nat) (hi:As[i]? =some (own s e n (cat vs))) (hn:∀d∈vs,d.size=n) (hk:vs[k]? =some c) (h0:0<n)
  {v:Value} {C:Ψ} (kk:∀F',St G F' (As.set i (own s e n (cat (vs.set k (c.setIfInBounds 0 v)))))->C F'):
  ∃a:Addr,s.base=some a/\0<=(k:Int)/\(k:Int)<(s.len:Int)/\sto F (Addr.add a (Int.toNat (k:Int)*n)) v C:=by
 obtain ⟨a,h1,h2,h3,h4⟩:=h.el1 i hi hn hk h0 h0 kk;exact ⟨a,h1,h2,h3,h4⟩
section
variable {F G F1:PH} {b8 b9:Nat} {g:Gr} {c m t s p l f:Sl} {part:Nat} {d:Dia} {kc kt kn kp:Nat} {tk:Tk} {pr:Pr}
structure KK (F G:PH) (g:Gr) (c m t s p l f:Sl) (b8:Nat):Prop where
 lF:F.le G
 hT:Tab G
 gs:GS G g c m t s p l f
 q8:G b8=some (.cells (g.arr c m t s p l f) 39)
 mg:MG g
 bd:Bd g 18 10
theorem KK.le {G':PH} (h:KK F G g c m t s p l f b8) (hl:G.le G'):KK F G' g c m t s p l f b8:=⟨aa h.lF hl,h.hT.le hl,h.gs.le hl,hl _ _ h.q8,h.mg,h.bd⟩
end
def dP {α:Type} (l:List α) (k:Nat) (f:α->α):List α:=match l[k]? with
 |some x=>l.set k (f x)
 |none=>l
theorem sP {α:Type} {l:List α} {k:Nat} {f:α->α} {x:α} (h:l[k]? =some x):dP l k f=l.set k (f x):=by unfold dP;rw [h]
def eZ (g:Gr) (k a:Nat) (b:Int):Gr:=match k with
 |0=>{g with start:=b}
 |1=>{g with prods:=dP g.prods (a % g.prods.length) λx=>{x with left:=b}}
 |2=>{g with prods:=dP g.prods (a % g.prods.length) λx=>{x with right:=⟨decide (Int.tmod (a:Int) 2=1),b⟩::x.right}}
 |3=>{g with prods:=dP g.prods (a % g.prods.length) λx=>{x with rank:=b}}
 |4=>{g with prods:=dP g.prods (a % g.prods.length) λx=>{x with lay:=[⟨i64.wrap (1+Int.tmod (i64.wrap (a:Int)) 4),b,0⟩]}}
 |5=>{g with prods:=dP g.prods (a % g.prods.length) λx=>{x with sco:={x.sco with d:=b}}}
 |6=>{g with prods:=dP g.prods (a % g.prods.length) λx=>{x with brk:=true}}
 |7=>{g with toks:=dP g.toks (a % g.toks.length) λx=>{x with cls:=b}}
 |8=>{g with toks:=dP g.toks (a % g.toks.length) λx=>{x with name:=(g.toks[0]?.map Tk.name).getD emp}}
 |9=>{g with lvs:=g.lvs++[⟨[b],Int.tmod (i64.wrap (a:Int)) 5,g.fam⟩]}
 |10=>{g with fils:=g.fils++[⟨Int.tmod (i64.wrap (a:Int)) 7,b,0,0,0,0,[],g.fam⟩]}
 |11=>{g with fils:=g.fils++[⟨Int.tmod (i64.wrap (a:Int)) 7,0,0,0,b,0,[Int.tmod (i64.wrap (a:Int)) 12],g.fam⟩]}
 |12=>{g with fils:=g.fils++[⟨Int.tmod (i64.wrap (a:Int)) 7,0,0,0,0,0,[5,b],g.fam⟩]}
 |13=>{g with prods:=dP g.prods (a % g.prods.length) λx=>{x with cond:=([⟨b,0,1⟩],2)}}
 |14=>{g with fam:=([⟨b,0,1⟩],2)}
 |_=>{g with prods:=dP g.prods (a % g.prods.length) λx=>{x with sco:=⟨false,0,0,b,i64.wrap (a:Int)⟩}}
section
variable {F G:PH} {g g':Gr} {c m s:Sl}
theorem cC (hc:RL G c g.conds) (hn:RL G s g.nons) (e1:g'.conds=g.conds) (e2:g'.nons=g.nons) (lG:F.le G) {F':PH} {b2 b4:Nat} {m' s1 s2 s3 s4:Sl} {vt vp vl vf:List Γ} (hm:RL G m' g'.fam.1) (ht:dr G g'.toks vt) (hp:dr G g'.prods vp) (hl:dr G g'.lvs vl) (hf:dr G g'.fils vf)
  (h:St G F' [own s4 74 9 (cat vf),own s3 72 4 (cat vl),own s2 67 13 (cat vp),own s1 79 7 (cat vt),pt b4 (.cells zG 39),pt b2 (.cells (g'.arr c m' s1 s s2 s3 s4) 39)]):de b2 b4 (LR F g') F':=by
 obtain ⟨G5,l5,d5,h⟩:=h.pinO;obtain ⟨G6,l6,d6,h⟩:=h.pinO;obtain ⟨G7,l7,d7,h⟩:=h.pinO;obtain ⟨G8,l8,d8,h⟩:=h.pinO;have l78:=aa l7 l8;have l68:=aa l6 l78;have l58:=aa l5 l68;rw [<- e1] at hc;rw [<- e2] at hn;have hg:GS G8 g' c m' s1 s s2 s3 s4:=⟨hc.le l58,hm.le l58,⟨vt,ht.le l58,d8⟩,hn.le l58,⟨vp,hp.le l58,d7.le l8⟩,⟨vl,hl.le l58,d6.le l78⟩,⟨vf,hf.le l58,d5.le l68⟩⟩;unfold de;refine ⟨g'.arr c m' s1 s s2 s3 s4,rfl,h.whole1,?_⟩;refine h.put0 (w':=g'.arr c m' s1 s s2 s3 s4) rfl rfl (by simp [ai,Sl.v]) λF5 h=> ?_;exact ⟨_,rfl,h.whole0,⟨_,rfl,⟨_,_,_,_,_,_,_,rfl,hg.le h.le⟩⟩,aa lG (aa l58 h.le)⟩
theorem Jc (x:Addr) (i j:Nat):Addr.add (Addr.add x i) j=Addr.add x (i+j):=by obtain ⟨a,o,p⟩:=x;by_cases hi:i=0<;>by_cases hj:j=0<;>simp [Addr.add,hi,hj,Y4]
theorem St.elR {G F:PH} {As:List (Ψ)} {s:Sl} {e n k:Nat} {vs:List Γ} {c:Γ} (h:St G F As) (i:Nat) (hi:As[i]? =some (own s e n (cat vs))) (hn:∀d∈vs,d.size=n) (hk:vs[k]? =some c) (h0:0<n) (hd:((cat vs).drop (k*n)).take n=c.toList) {K:Addr->Prop}
  (kk:∀x:Addr,F.row (Addr.add x (Int.toNat (k:Int)*n)) c->K x):∃x:Addr,s.base=some x/\0<=(k:Int)/\(k:Int)<(s.len:Int)/\K x:=by
 obtain ⟨b,cur,h1,h2,_⟩:=h.elAt i hi hn hk h0;refine ⟨_,h1,by omega,by omega,kk _ ?_⟩;rw [N5];refine (bj.rd (h.ownAt hi).1).row h1 _ c ?_;rw [hn c (XG hk)];exact hd.symm
theorem St.el12 {G F:PH} {As:List (Ψ)} {s:Sl} {e n k:Nat} {vs:List Γ} {c:Γ} (h:St G F As) (i:Nat) (hi:As[i]? =some (own s e n (cat vs))) (hn:∀d∈vs,d.size=n) (hk:vs[k]? =some c) (h0:0<n)
  {o1 o2:Nat} {v:Value} (hv:o1+o2<n) {C:Ψ} (kk:∀F',St G F' (As.set i (own s e n (cat (vs.set k (c.setIfInBounds (o1+o2) v)))))->C F'):
  ∃a:Addr,s.base=some a/\0<=(k:Int)/\(k:Int)<(s.len:Int)/\sto F (Addr.add (Addr.add (Addr.add a (Int.toNat (k:Int)*n)) o1) o2) v C:=by
 obtain ⟨a,h1,h2,h3,h4⟩:=h.el1 i hi hn hk h0 hv kk;refine ⟨a,h1,h2,h3,?_⟩;rw [Jc _ o1 o2];exact h4
theorem sQ {α:Type} [Mem α] {b e:Nat} {G:PH} {x:α} {c:Γ} (q:G b=some (.cells c e)) (hc:Mem.rep G x c):RL G (Sl.mk (some (Addr.mk b 0 none)) 1 1) [x]:=by have hl:=Mem.len hc;exact ⟨[c],.cons hc .nil,RdS.new q (by rw [bL];exact XK (by rw [XN,hl,Y3];exact XA _)) (by rw [bL,XN,hl,Y3]) (XA _)⟩
theorem Dm {b e n k:Nat} {c:Γ} {H:PH} (h:H b=some (.cells c e)) (hc:c.size=k*n):own (Sl.mk (some (Addr.mk b 0 none)) k k) e n c.toList H:=
 .inr ⟨b,c,rfl,h,hc,XA _,by rw [XN,hc],XK (by rw [XN,hc];exact XA _)⟩
theorem nO {v:Γ} (hg:GV F v g) (hd:Bd g 18 10) (hm:Sm g) {how a:Nat} {b:Int} (hh:how<256) (ha:a<256):ae prog 12 #[.agg v,.agg #[.int .u8 (how:Int),.int .u8 (a:Int),vi b]] F (LR F (eZ g (how % 16) a b)):=by
 obtain ⟨c,m,t,s,p,l,f,rfl,hs⟩:=hg;obtain ⟨_,_,Tt⟩:=FF;obtain ⟨_,_,Tp⟩:=D0;obtain ⟨_,_,Tl⟩:=JE;obtain ⟨_,_,Tf⟩:=JF;obtain ⟨_,_,Ty⟩:=JD;refine VY ?_;unfold QA;refine (St.start F).new λb2 F1 h=> ?_;refine h.newG λb3 G1 F2 l1 q3 _ h=> ?_;refine h.new λb4 F3 h=> ?_;replace hs:=hs.le l1;obtain ⟨vt,rt,dt⟩:=id hs.t;obtain ⟨vp,rp,dp⟩:=id hs.p;obtain ⟨vl,rl,dl⟩:=id hs.l;obtain ⟨vf,rf,df⟩:=id hs.f;have et:=hs.t.len (by decide);have ep:=hs.p.len (by decide);have el:=hs.l.len (by decide);have ef:=hs.f.len (by decide);have bt:=hd.t;have bp:=hd.p;have bp0:=hd.p0;have bl:=hd.l;have bf:=hd.f;refine h.new λb7 F4 h=> ?_;have h:=h.imp (A':=own (Sl.mk (some (Addr.mk b7 0 none)) 0 0) 79 7 []) 0 rfl λH _ hH=>cD hH;refine ⟨_,h.ld2 rfl,?_⟩;refine St.app0 Tt h (dt.le h.le) rt.st (by show 0+t.len<=_;omega) λs1 F5 h hl1=> ?_;rw [XX] at h;refine h.set2 (w':=g.arr c m s1 s p l f) (by show 3<9;decide) rfl λF6 h=> ?_;refine h.new λb12 F4 h=> ?_;have h:=h.imp (A':=own (Sl.mk (some (Addr.mk b12 0 none)) 0 0) 67 13 []) 0 rfl λH _ hH=>cD hH;refine ⟨_,h.ld3 rfl,?_⟩;refine St.app0 Tp h (dp.le h.le) rp.st (by show 0+p.len<=_;omega) λs2 F5 h hl2=> ?_;rw [XX] at h;refine h.set3 (w':=g.arr c m s1 s s2 l f) (by show 5<9;decide) rfl λF6 h=> ?_;refine h.new λb17 F4 h=> ?_;have h:=h.imp (A':=own (Sl.mk (some (Addr.mk b17 0 none)) 0 0) 72 4 []) 0 rfl λH _ hH=>cD hH;refine ⟨_,h.ld4 rfl,?_⟩;refine St.app0 Tl h (dl.le h.le) rl.st (by show 0+l.len<=_;omega) λs3 F5 h hl3=> ?_;rw [XX] at h;refine h.set4 (w':=g.arr c m s1 s s2 s3 f) (by show 7<9;decide) rfl λF6 h=> ?_;refine h.new λb22 F4 h=> ?_;have h:=h.imp (A':=own (Sl.mk (some (Addr.mk b22 0 none)) 0 0) 74 9 []) 0 rfl λH _ hH=>cD hH;refine ⟨_,h.ld5 rfl,?_⟩;refine St.app0 Tf h (df.le h.le) rf.st (by show 0+f.len<=_;omega) λs4 F5 h hl4=> ?_;rw [XX] at h;refine h.set5 (w':=g.arr c m s1 s s2 s3 s4) (by show 8<9;decide) rfl λF6 h=> ?_;have e1:s1.len=g.toks.length:=by rw [hl1];show 0+t.len=_;omega
 have e2:s2.len=g.prods.length:=by rw [hl2];show 0+p.len=_;omega
 have e3:s3.len<=100:=by rw [hl3];show 0+l.len<=_;omega
 have e4:s4.len<=100:=by rw [hl4];show 0+f.len<=_;omega
 have em:Int.tmod (how:Int) 16=((how % 16:Nat):Int):=fX how 16;have hpl:∀x∈g.prods,x.right.length<=1000000000:=λx hx=>(hm.pi x hx).1;have c3:∀{F':PH} {i:Nat} {v:Value},G1.le F'->(#[.int .u8 (how:Int),.int .u8 (a:Int),vi b]:Γ)[i]? =some v->F'.cell (Addr.mk b3 i none)=some v:=λhl hv=>ld (hl _ _ q3) hv;refine ⟨_,c3 h.le rfl,_,h.ld5 rfl,by omega,_,c3 h.le rfl,_,h.ld5 rfl,by omega,_,c3 h.le rfl,?_⟩;obtain ⟨tk,htk⟩:∃y,g.toks[a % g.toks.length]? =some y:=⟨_,N4 (YB _ (by omega))⟩;obtain ⟨t0,ht0⟩:∃y,g.toks[0]? =some y:=⟨_,N4 (by omega)⟩;obtain ⟨pr,hpr⟩:∃y,g.prods[a % g.prods.length]? =some y:=⟨_,N4 (YB _ (by omega))⟩;obtain ⟨wt,wt1,⟨pp,pn,rfl,pp1,pn1⟩,_⟩:=rt.get htk;obtain ⟨w0,w01,⟨_,_,rfl,_,_⟩,wd0⟩:=rt.get ht0;obtain ⟨wp,wp1,⟨rr,r2,r3,rfl,rr1,rr2,rr3⟩,wpd⟩:=rp.get hpr;have E:∀f,({g with prods:=dP g.prods (a % g.prods.length) f}:Gr)={g with prods:=g.prods.set (a % g.prods.length) (f pr)}:=λf=>by rw [sP hpr]
 have E':∀f,({g with toks:=dP g.toks (a % g.toks.length) f}:Gr)={g with toks:=g.toks.set (a % g.toks.length) (f tk)}:=λf=>by rw [sP htk]
 rw [wN ha,wN ha,e1,e2,em];have hk:how % 16<16:=YB _ (by decide);generalize how % 16=k at*;refine ⟨λe=> ?_,λn0=> ?_⟩
 ·obtain rfl:k=0:=by omega
  refine ⟨_,c3 h.le rfl,?_⟩;refine h.set5 (w':= #[c.v,m.v,vi g.fam.2,s1.v,s.v,s2.v,vi b,s3.v,s4.v]) (by show 6<9;decide) rfl λF7 h=> ?_;exact cC (g':=eZ g 0 a b) hs.c hs.s rfl rfl l1 hs.n rt rp rl rf h
 refine ⟨λe=> ?_,λn1=> ?_⟩
 ·obtain rfl:k=1:=by omega
  rw [show eZ g 1 a b=_ from E _];refine ⟨_,h.ld5 rfl,_,c3 h.le rfl,?_⟩;refine h.el1 2 rfl rp.sz wp1 (by decide) (by decide) λF7 h=> ?_;exact cC (g':={g with prods:=g.prods.set (a % g.prods.length) {pr with left:=b}}) hs.c hs.s rfl rfl l1 hs.n rt (rp.set ⟨rr,r2,r3,rfl,rr1,rr2,rr3⟩) rl rf h
 refine ⟨λe=> ?_,λn2=> ?_⟩
 ·obtain rfl:k=2:=by omega
  rw [show eZ g 2 a b=_ from E _];refine ⟨_,h.ld5 rfl,_,c3 h.le rfl,_,c3 h.le rfl,_,h.ld5 rfl,?_⟩;refine h.elR 2 rfl rp.sz wp1 (by decide) wpd λx hx=>⟨_,aF hx rfl,rfl,?_⟩;refine h.new λb81 F7 h=> ?_;have h:=h.imp (A':=own (Sl.mk (some (Addr.mk b81 0 none)) 1 1) 69 2 (#[.bool (decide (Int.tmod (a:Int) 2=1)),vi b]:Γ).toList) 0 rfl λH _ hH=>Dm hH rfl;obtain ⟨vy,ry,dy⟩:=rr1;have hyl:=RL.len ⟨vy,ry,dy⟩ (by decide);refine St.app0 Ty h (dy.le h.le) ry.st (by show 1+rr.len<=_;rw [hyl];have:=hpl pr (XG hpr);omega) λs5 F8 h hl5=> ?_;refine ⟨h.ld6 rfl,c3 h.le rfl,c3 h.le rfl,h.ld6 rfl,?_⟩;obtain ⟨G2,l2,d2,h⟩:=h.pinO;refine h.el1 2 rfl rp.sz wp1 (by decide) (by decide) λF9 h=> ?_;exact cC (g':={g with prods:=g.prods.set (a % g.prods.length) {pr with right:=⟨decide (Int.tmod (a:Int) 2=1),b⟩::pr.right}}) (hs.c.le l2) (hs.s.le l2) rfl rfl (aa l1 l2) (hs.n.le l2) (rt.le l2) ((rp.le l2).set ⟨s5,r2,r3,rfl,⟨_::vy,.cons rfl (ry.le l2),by rw [dV];exact d2⟩,rr2.le l2,rr3.le l2⟩) (rl.le l2) (rf.le l2) h
 refine ⟨λe=> ?_,λn3=> ?_⟩
 ·obtain rfl:k=3:=by omega
  rw [show eZ g 3 a b=_ from E _];refine ⟨_,h.ld5 rfl,_,c3 h.le rfl,?_⟩;refine h.el1 2 rfl rp.sz wp1 (by decide) (by decide) λF7 h=> ?_;exact cC (g':={g with prods:=g.prods.set (a % g.prods.length) {pr with rank:=b}}) hs.c hs.s rfl rfl l1 hs.n rt (rp.set ⟨rr,r2,r3,rfl,rr1,rr2,rr3⟩) rl rf h
 refine ⟨λe=> ?_,λn4=> ?_⟩
 ·obtain rfl:k=4:=by omega
  rw [show eZ g 4 a b=_ from E _];refine ⟨_,h.ld5 rfl,_,c3 h.le rfl,_,c3 h.le rfl,rfl,?_⟩;refine h.newG λb113 G2 F7 l2 q _ h=> ?_;refine h.el1 2 rfl rp.sz wp1 (by decide) (by decide) λF9 h=> ?_;exact cC (g':={g with prods:=g.prods.set (a % g.prods.length) {pr with lay:=[⟨i64.wrap (1+Int.tmod (i64.wrap (a:Int)) 4),b,0⟩]}}) (hs.c.le l2) (hs.s.le l2) rfl rfl (aa l1 l2) (hs.n.le l2) (rt.le l2) ((rp.le l2).set ⟨rr,r2,_,rfl,rr1.le l2,rr2.le l2,sQ q rfl⟩) (rl.le l2) (rf.le l2) h
 refine ⟨λe=> ?_,λn5=> ?_⟩
 ·obtain rfl:k=5:=by omega
  rw [show eZ g 5 a b=_ from E _];refine ⟨_,h.ld5 rfl,_,c3 h.le rfl,?_⟩;refine h.el12 2 rfl rp.sz wp1 (by decide) (by decide) λF7 h=> ?_;exact cC (g':={g with prods:=g.prods.set (a % g.prods.length) {pr with sco:={pr.sco with d:=b}}}) hs.c hs.s rfl rfl l1 hs.n rt (rp.set ⟨rr,r2,r3,rfl,rr1,rr2,rr3⟩) rl rf h
 refine ⟨λe=> ?_,λn6=> ?_⟩
 ·obtain rfl:k=6:=by omega
  rw [show eZ g 6 a b=_ from E _];refine ⟨_,h.ld5 rfl,?_⟩;refine h.el1 2 rfl rp.sz wp1 (by decide) (by decide) λF7 h=> ?_;exact cC (g':={g with prods:=g.prods.set (a % g.prods.length) {pr with brk:=true}}) hs.c hs.s rfl rfl l1 hs.n rt (rp.set ⟨rr,r2,r3,rfl,rr1,rr2,rr3⟩) rl rf h
 refine ⟨λe=> ?_,λn7=> ?_⟩
 ·obtain rfl:k=7:=by omega
  rw [show eZ g 7 a b=_ from E' _];refine ⟨_,h.ld5 rfl,_,c3 h.le rfl,?_⟩;refine h.el1 3 rfl rt.sz wt1 (by decide) (by decide) λF7 h=> ?_;exact cC (g':={g with toks:=g.toks.set (a % g.toks.length) {tk with cls:=b}}) hs.c hs.s rfl rfl l1 hs.n (rt.set ⟨pp,pn,rfl,pp1,pn1⟩) rp rl rf h
 refine ⟨λe=> ?_,λn8=> ?_⟩
 ·obtain rfl:k=8:=by omega
  rw [show eZ g 8 a b=_ from E' _,ht0];refine ⟨_,h.ld5 rfl,_,h.ld5 rfl,?_⟩;refine h.elR 3 (k:=0) rfl rt.sz w01 (by decide) wd0 λx hx=>⟨_,aI hx rfl,?_⟩;refine h.elz 3 rfl rt.sz wt1 (by decide) λF7 h=> ?_;exact cC (g':={g with toks:=g.toks.set (a % g.toks.length) {tk with name:=t0.name}}) hs.c hs.s rfl rfl l1 hs.n (rt.set ⟨pp,pn,rfl,pp1,pn1⟩) rp rl rf h
 refine ⟨λe=> ?_,λn9=> ?_⟩
 ·obtain rfl:k=9:=by omega
  refine ⟨_,h.ld5 rfl,_,c3 h.le rfl,?_⟩;refine h.newG λb160 G2 F7 l2 q _ h=> ?_;refine ⟨_,c3 (aa l2 h.le) rfl,#[m.v,vi g.fam.2],rfl,fo (h.ptAt (i:=5) rfl) rfl,rfl,rfl,?_⟩;refine h.push1 Tl rfl (by simp [ai,Sl.v,wr]) (by omega) λs5 G3 F8 l3 h hl5=> ?_;have l23:=aa l2 l3;refine h.set5 (w':= #[c.v,m.v,vi g.fam.2,s1.v,s.v,s2.v,vi g.start,s5.v,s4.v]) (by show 7<9;decide) rfl λF9 h=> ?_;rw [<- bL,<- bA] at h;exact cC (g':=eZ g 9 a b) (hs.c.le l23) (hs.s.le l23) rfl rfl (aa l1 l23) (hs.n.le l23) (rt.le l23) (rp.le l23) ((rl.le l23).append (.cons ⟨_,m,rfl,sQ (l3 _ _ q) rfl,hs.n.le l23⟩ .nil)) (rf.le l23) h
 refine ⟨λe=> ?_,λn10=> ?_⟩
 ·obtain rfl:k=10:=by omega
  refine ⟨_,h.ld5 rfl,_,c3 h.le rfl,_,c3 h.le rfl,#[m.v,vi g.fam.2],rfl,fo (h.ptAt (i:=5) rfl) rfl,rfl,rfl,?_⟩;refine h.push0 Tf rfl (by simp [ai,Sl.v,wr]) (by omega) λs5 G3 F8 l3 h hl5=> ?_;refine h.set5 (w':= #[c.v,m.v,vi g.fam.2,s1.v,s.v,s2.v,vi g.start,s3.v,s5.v]) (by show 8<9;decide) rfl λF9 h=> ?_;rw [<- bL,<- bA] at h;exact cC (g':=eZ g 10 a b) (hs.c.le l3) (hs.s.le l3) rfl rfl (aa l1 l3) (hs.n.le l3) (rt.le l3) (rp.le l3) (rl.le l3) ((rf.le l3).append (.cons ⟨Sl.nil,m,rfl,RL.nil _,hs.n.le l3⟩ .nil)) h
 refine ⟨λe=> ?_,λn11=> ?_⟩
 ·obtain rfl:k=11:=by omega
  refine ⟨_,h.ld5 rfl,_,c3 h.le rfl,_,c3 h.le rfl,_,c3 h.le rfl,?_⟩;refine h.newG λb201 G2 F7 l2 q _ h=> ?_;refine ⟨#[m.v,vi g.fam.2],rfl,fo (h.ptAt (i:=5) rfl) rfl,rfl,rfl,?_⟩;refine h.push0 Tf rfl (by simp [ai,Sl.v,wr]) (by omega) λs5 G3 F8 l3 h hl5=> ?_;have l23:=aa l2 l3;refine h.set5 (w':= #[c.v,m.v,vi g.fam.2,s1.v,s.v,s2.v,vi g.start,s3.v,s5.v]) (by show 8<9;decide) rfl λF9 h=> ?_;rw [<- bL,<- bA] at h;exact cC (g':=eZ g 11 a b) (hs.c.le l23) (hs.s.le l23) rfl rfl (aa l1 l23) (hs.n.le l23) (rt.le l23) (rp.le l23) (rl.le l23) ((rf.le l23).append (.cons ⟨_,m,rfl,sQ (l3 _ _ q) rfl,hs.n.le l23⟩ .nil)) h
 refine ⟨λe=> ?_,λn12=> ?_⟩
 ·obtain rfl:k=12:=by omega
  refine ⟨_,h.ld5 rfl,_,c3 h.le rfl,_,c3 h.le rfl,?_⟩;refine h.newG λb218 G2 F7 l2 q _ h=> ?_;refine ⟨#[m.v,vi g.fam.2],rfl,fo (h.ptAt (i:=5) rfl) rfl,rfl,rfl,?_⟩;refine h.push0 Tf rfl (by simp [ai,Sl.v,wr]) (by omega) λs5 G3 F8 l3 h hl5=> ?_;have l23:=aa l2 l3;refine h.set5 (w':= #[c.v,m.v,vi g.fam.2,s1.v,s.v,s2.v,vi g.start,s3.v,s5.v]) (by show 8<9;decide) rfl λF9 h=> ?_;rw [<- bL,<- bA] at h;exact cC (g':=eZ g 12 a b) (hs.c.le l23) (hs.s.le l23) rfl rfl (aa l1 l23) (hs.n.le l23) (rt.le l23) (rp.le l23) (rl.le l23) ((rf.le l23).append (.cons ⟨_,m,rfl,RL.ints.2 (RdS.new (l3 _ _ q) rfl rfl (XA _)),hs.n.le l23⟩ .nil)) h
 refine ⟨λe=> ?_,λn13=> ?_⟩
 ·obtain rfl:k=13:=by omega
  rw [show eZ g 13 a b=_ from E _];refine ⟨_,h.ld5 rfl,_,c3 h.le rfl,rfl,?_⟩;refine h.newG λb233 G2 F7 l2 q _ h=> ?_;refine h.elN 2 rfl rp.sz wp1 (by decide) rfl (by show 3+2<=13;decide) (by simp [ai,Sl.v]) λF9 h=> ?_;exact cC (g':={g with prods:=g.prods.set (a % g.prods.length) {pr with cond:=([⟨b,0,1⟩],2)}}) (hs.c.le l2) (hs.s.le l2) rfl rfl (aa l1 l2) (hs.n.le l2) (rt.le l2) ((rp.le l2).set ⟨rr,_,r3,rfl,rr1.le l2,sQ q rfl,rr3.le l2⟩) (rl.le l2) (rf.le l2) h
 refine ⟨λe=> ?_,λn14=> ?_⟩
 ·obtain rfl:k=14:=by omega
  refine ⟨_,c3 h.le rfl,rfl,?_⟩;refine h.newG λb242 G2 F7 l2 q _ h=> ?_;refine h.putR5 (w':= #[c.v,Sl.v (Sl.mk (some (Addr.mk b242 0 none)) 1 1),vi 2,s1.v,s.v,s2.v,vi g.start,s3.v,s4.v]) rfl (by simp [ai,Sl.v]) (by show 1+2<=9;decide) rfl λF9 h=> ?_;exact cC (g':=eZ g 14 a b) (hs.c.le l2) (hs.s.le l2) rfl rfl (aa l1 l2) (sQ q rfl) (rt.le l2) (rp.le l2) (rl.le l2) (rf.le l2) h
 ·obtain rfl:k=15:=by omega
  rw [show eZ g 15 a b=_ from E _];refine ⟨_,h.ld5 rfl,_,c3 h.le rfl,_,c3 h.le rfl,?_⟩;refine h.elN 2 rfl rp.sz wp1 (by decide) rfl (by show 8+5<=13;decide) (by simp [ai]) λF9 h=> ?_;exact cC (g':={g with prods:=g.prods.set (a % g.prods.length) {pr with sco:=⟨false,0,0,b,i64.wrap (a:Int)⟩}}) hs.c hs.s rfl rfl l1 hs.n rt (rp.set ⟨rr,r2,r3,rfl,rr1,rr2,rr3⟩) rl rf h
end
def wB (s:ByteArray) (i:Nat):Int:=if hx:i<s.size then i64.wrap ((s[i]'hx).toNat:Int) else 0
def cx (s:ByteArray):Φ:=(s.size:Int)::(List.range s.size).map (wB s)
def jx (l:Φ):Φ:=(l.length:Int)::l
def wBr (b:Br):Φ:=[b.v,b.l,b.h]
def gZ (d:Dia):Φ:=[(d.1.length:Int)]++d.1.flatMap wBr++[d.2]
def wNd (n:Nd):Φ:=[n.k,n.lo,n.hi,n.a,n.b]
def kL (t:Tk):Φ:=cx t.name++[t.cls]++cx t.lit++[(t.pat.length:Int)]++t.pat.flatMap wNd++cx t.smp++gZ t.cond
def wF (b:Bool):Int:=if b=true then 1 else 0
def wSy (s:Sy):Φ:=[wF s.t,s.i]
def wCn (c:Cn):Φ:=[c.k,c.a,c.b]
def wPr (p:Pr):Φ:=cx p.name++[p.left,(p.right.length:Int)]++p.right.flatMap wSy++gZ p.cond++[wF p.brk,i64.wrap (p.rank+1),(p.lay.length:Int)]++p.lay.flatMap wCn++[wF p.sco.o,p.sco.d,p.sco.k,p.sco.u,p.sco.a]
def wLv (l:Lv):Φ:=jx l.ps++[l.assoc]++gZ l.cond
def wFi (f:Fi):Φ:=[f.k,f.par,f.pos,f.ch,f.left,f.tok]++jx f.toks++gZ f.cond
def wGr (g:Gr):Φ:=[(g.conds.length:Int)]++g.conds.flatMap cx++gZ g.fam++[(g.toks.length:Int)]++g.toks.flatMap kL++[(g.nons.length:Int)]++g.nons.flatMap cx++[(g.prods.length:Int)]++g.prods.flatMap wPr++[g.start,(g.lvs.length:Int)]++g.lvs.flatMap wLv++[(g.fils.length:Int)]++g.fils.flatMap wFi
abbrev Ou (G F:PH) (s:Sl) (l:Φ):Prop:=St G F [own s 3 1 (l.map vi)]
abbrev PR (G:PH) (l:Φ):VR:=λr F'=>∃s' G',r=Sl.v s'/\G.le G'/\Ou G' F' s' l
section
variable {F G:PH} {s:Sl} {l:Φ}
theorem Ou.len (h:Ou G F s l):s.len=l.length:=by have:=(bj.rd (St.ownAt h (i:=0) rfl).1).len;rw [XH,XS] at this;exact this.symm
theorem bM (h:Ou G F s l) (xs:Φ) (hl:(l++xs).length<=400000000000) {ty:TypeId} {K:Sl->Ψ} (k:∀s' G' F',G.le G'->Ou G' F' s' (l++xs)->K s' F'):
  ∀b,F b=none->atF (F.set b (.cells (xs.map vi).toArray 3)) λF=>aG prog (Builtin.append_ #[70,70] ty #[s.v,Sl.v (Sl.mk (some (Addr.mk b 0 none)) xs.length xs.length)]) F λv F=>∃s':Sl,v=Sl.v s'/\K s' F:=by
 refine St.newG h λb G' F' l1 q _ h=> ?_;rw [N3] at hl;have hx:RdS F' (Sl.mk (some (Addr.mk b 0 none)) xs.length xs.length) 1 (xs.map vi):=RdS.new (h.le _ _ q) (by rw [XK (by simp)]) (by simp) (XA _);refine St.app0 xh h hx (λv hv=>by obtain ⟨x,_,rfl⟩:=X3.1 hv;simp [ai]) (by have e:=Ou.len h;show s.len+xs.length<=_;omega) λs' F'' h hl'=> ?_;rw [<- XP] at h;exact k s' G' F'' l1 h
theorem Qq (h:Ou G F s l) {x:Sl} {xs:Φ} (hx:RdS G x 1 (xs.map vi)) (hl:(l++xs).length<=400000000000) {ty:TypeId} {K:Sl->Ψ} (k:∀s' F',Ou G F' s' (l++xs)->K s' F'):
  aG prog (Builtin.append_ #[70,70] ty #[s.v,x.v]) F λv F=>∃s':Sl,v=Sl.v s'/\K s' F:=by
 rw [N3] at hl;have ex:=hx.len;rw [XH,XS] at ex;refine St.app0 xh h (hx.le h.le) (λv hv=>by obtain ⟨x,_,rfl⟩:=X3.1 hv;simp [ai]) (by have e:=Ou.len h;omega) λs' F'' h hl'=> ?_;rw [<- XP] at h;exact k s' F'' h
theorem Jd {α:Type} {w:α->Φ} (hw:∀x,1<=(w x).length) (xs:List α):xs.length<=(xs.flatMap w).length:=by
 induction xs with
 |nil=>simp
 |cons x xs ih=>rw [XT,N3,XI];have:=hw x;omega
theorem jy {α:Type} (xs:List α) (w:α->Φ) (hw:∀x,1<=(w x).length) (B:(Sl->Ω)->Sl->Ω) (h:Ou G F s l) (hl:(l++xs.flatMap w).length<=400000000000)
  (step:∀k G' F' s' l' N,k<=xs.length->G.le G'->Ou G' F' s' l'->
   (∀x,xs[k]? =some x->(l'++w x).length<=400000000000/\xs.length<=400000000000/\∀G'' F'' s'',G'.le G''->Ou G'' F'' s'' (l'++w x)->N s'' ((k+1:Nat):Int) F'')->(k=xs.length->l'=l++xs.flatMap w)->B N s' (k:Int) F'):
  ∃(I:Nat->Sl->Ω) (m:Nat),I m s (0:Int) F/\∀m out i F,I m out i F->B (λy z F=>∃m',m'<m/\I m' y z F) out i F:=by
 refine ⟨λm out i F'=>∃(k:Nat) (G':PH),i=(k:Int)/\m=xs.length - k/\k<=xs.length/\G.le G'/\Ou G' F' out (l++(xs.take k).flatMap w),xs.length,⟨0,G,rfl,rfl,by omega,am _,by simpa using h⟩,?_⟩;rintro m out i F' ⟨k,G',rfl,rfl,hk,lG,h⟩;refine step k G' F' out _ _ hk lG h (λx hx=> ?_) (λe=>by rw [e,XF]);have e:l++(xs.take (k+1)).flatMap w=l++(xs.take k).flatMap w++w x:=by rw [aK hx,XU,Yn,Xz]
 have hk':=(N6.1 hx).1;refine ⟨?_,by have:=Jd hw xs;rw [N3] at hl;omega,λG'' F'' s'' l2 h=>⟨xs.length - (k+1),by omega,k+1,G'',rfl,rfl,by omega,aa lG l2,by rw [e];exact h⟩⟩;rw [<- e];refine X1 ?_ hl;have:xs.flatMap w=(xs.take (k+1)).flatMap w++(xs.drop (k+1)).flatMap w:=by rw [<- XU,X9]
 rw [this];simp only [N3];omega
theorem fU {x:ByteArray} (h:Ou G F s l) (hl:(l++cx x).length<=400000000000):ae prog 137 #[s.v,.string x] F (PR G (l++cx x)):=by
 have ex:((List.range x.size).flatMap λi=>[wB x i])=(List.range x.size).map (wB x):=(List.map_eq_flatMap ..).symm;have e:cx x=[(x.size:Int)]++(List.range x.size).flatMap λi=>[wB x i]:=by rw [ex];rfl
 rw [e,<- Xz] at hl ⊢;refine UW ?_;unfold NP;refine bM h [(x.size:Int)] (by simp only [N3] at hl ⊢;omega) λs1 G1 F1 l1 h=> ?_;refine jy (List.range x.size) (λi=>[wB x i]) (λ_=>XA _) (wo · x _) h hl λk G2 F2 s2 l' N hk l2 h next fin=> ?_;rw [Ym] at hk fin;unfold wo;refine ⟨λhlt=>⟨by omega,hlt,?_⟩,λhge=> ?_⟩
 ·have hlt:k<x.size:=by omega
  obtain ⟨n1,n0,n2⟩:=next k (Yi hlt);have e:i64.wrap ((x[k]'hlt).toNat:Int)=wB x k:=by unfold wB;rw [dif_pos hlt]
  refine ⟨hlt,_,rfl,?_⟩;refine bM h [i64.wrap ((x[k]'hlt).toNat:Int)] (by rw [e];exact n1) λs3 G3 F3 l3 h=> ?_;rw [aE hlt (by rw [Ym] at n0;omega)];rw [e] at h;exact n2 _ _ _ l3 h
 ·unfold CY;rw [fin (by omega)] at h;exact ⟨s2,G2,rfl,aa l1 l2,h⟩
theorem uy {x:Sl} {ns:Φ} (hx:RL G x ns) (h:Ou G F s l) (hl:(l++jx ns).length<=400000000000):ae prog 141 #[s.v,x.v] F (PR G (l++jx ns)):=by have e:jx ns=[(ns.length:Int)]++ns:=rfl;have ex:=hx.len (by decide);rw [e,<- Xz] at hl ⊢;refine U0 ?_;unfold NT;rw [ex];refine bM h [(ns.length:Int)] (by simp only [N3] at hl ⊢;omega) λs1 G1 F1 l1 h=> ?_;refine Qq h (RL.ints.1 (hx.le l1)) hl λs2 F2 h=>⟨s2,G1,rfl,l1,h⟩
theorem jz {v:Γ} {d:Dia} (hd:DV G v d) (h:Ou G F s l) (hl:(l++gZ d).length<=400000000000):ae prog 138 #[s.v,.agg v] F (PR G (l++gZ d)):=by
 obtain ⟨x,rfl,hr⟩:=hd;have hr:RL G x d.1:=RL.brs.2 hr;have ex:=hr.len (by decide);unfold gZ at hl ⊢;simp only [<- Xz] at hl ⊢;refine UX ?_;unfold NQ;refine St.newG h λb3 G1 F1 l1 q3 _ h=>⟨_,ld (h.le _ _ q3) rfl,?_⟩;dsimp only;rw [ex];refine bM h [(d.1.length:Int)] (by simp only [N3] at hl ⊢;omega) λs2 G2 F2 l2 h=> ?_;have l12:=aa l1 l2;refine jy d.1 wBr (λ_=>by show 1<=3;decide) (wq · b3 _) h (by simp only [N3] at hl ⊢;omega) λk G3 F3 s3 l' N hk l3 h next fin=> ?_;have l13:=aa l12 l3;have q:=λ{F':PH} (hl:G3.le F')=>ld (hl _ _ (aa l2 l3 _ _ q3)) (show (#[x.v,vi d.2]:Γ)[0]? =some x.v from rfl);unfold wq;refine ⟨_,q h.le,λhlt=> ?_,λhge=> ?_⟩
 ·have hlt:k<d.1.length:=by omega
  have hr3:=hr.le l13;refine ⟨_,q h.le,h.ix hr3 (by decide) (by omega) (by omega) λa1 c1 y hy hrow hc=> ?_⟩;rw [N5] at hy;rw [show c1=aR y from hc] at hrow;refine ⟨y.v,aI hrow rfl,_,q h.le,h.ix hr3 (by decide) (by omega) (by omega) λa2 c2 y2 hy2 hrow2 hc2=> ?_⟩;rw [N5,hy] at hy2;obtain rfl:=X2 hy2;rw [show c2=aR y from hc2] at hrow2;refine ⟨y.l,aF hrow2 rfl,_,q h.le,h.ix hr3 (by decide) (by omega) (by omega) λa3 c3 y3 hy3 hrow3 hc3=> ?_⟩;rw [N5,hy] at hy3;obtain rfl:=X2 hy3;rw [show c3=aR y from hc3] at hrow3;obtain ⟨n1,n0,n2⟩:=next y hy;refine ⟨y.h,aF hrow3 rfl,?_⟩;refine bM h [y.v,y.l,y.h] n1 λs4 G4 F4 l4 h=> ?_;have q4:=q (aa l4 h.le);refine ⟨q4,q4,q4,?_⟩;rw [aE hlt (by omega)];exact n2 _ _ _ l4 h
 ·unfold CZ;rw [fin (by omega)] at h;refine ⟨_,ld (h.le _ _ (aa l2 l3 _ _ q3)) rfl,?_⟩;refine bM h [d.2] hl λs4 G4 F4 l4 h=>⟨s4,G4,rfl,aa l13 l4,h⟩
end
end Go.Proofs.YtenpmjhnhepfdaaGreatDoor
