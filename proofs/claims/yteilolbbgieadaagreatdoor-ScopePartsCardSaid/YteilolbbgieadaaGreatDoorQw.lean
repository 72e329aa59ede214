/-
  Running a machine.
-/
import Derived.Test.YteilolbbgieadaaGreatDoorPhx
import Derived.Test.YteilolbbgieadaaGreatDoorTie
import Derived.Test.YteilolbbgieadaaGreatDoorCards
import Derived.LaidMore
import Derived.Lay
import Derived.SevenTiedAt
import Derived.Stop.Joined
set_option maxRecDepth 10000
open Option renaming some->mB,none->nC
open Go.Obj renaming cells->mX
open Bool renaming false->nS,true->nZ
open Go.Addr renaming add->od,mk->pd
open Int renaming toNat->pc,tmod->tK
noncomputable section
namespace Go.Proofs.YteilolbbgieadaaGreatDoor.Rx
open Go
section
variable {P:Program} {n:Nat} {σ σ0:Sy} {E:En} {F:PH} {K:CK}
theorem eR {c:Code} {Q A:Exit->En->Ψ} (h:HC P n c Q E F) (k:∀x E F,Q x E F->A x E F):HC P n c A E F:=λe a w B st=>
 wp_mono (h e a w B st) λ_ _ _ ⟨D,C,g,r,q⟩=>⟨D,C,g,r,k _ _ _ q⟩
theorem Rel.hav (r:Rel σ E) {M:Δ} {g:En} (fr:Fr M E g):Rel (σ.hav M) g:=by
 refine ⟨λt=> ?_,r.top⟩;show V4 σ.T (bif pf M t then .unk else σ.S t) (g t);cases h:pf M t with
 |true=>exact True.intro
 |false=>rw [fr t h];exact r.val t
theorem we {t:Nat} {k:Kd} {J:k.T->Prop} (h:Zz (σ.vw t) k J) (r:Rel σ E):∃x,E t=k.v x/\J x/\∀A:k.T->Prop,A x->Zz (σ.vw t) k A:=by
 cases k<;>simp only [Zz] at h ⊢
 case int k=>
  split at h
  ·rename_i C x w;split at h
   ·rename_i B;obtain rfl:=ζ B;exact ⟨x,cV r w rfl,h,λA g=>g⟩
   ·exact h.elim
  ·exact h.elim
 case bool=>
  split at h
  ·rename_i b w;exact ⟨b,cV r w rfl,h,λ_ g=>g⟩
  ·rename_i i b w;exact ⟨b,cV r w rfl,h,λ_ g=>g⟩
  ·rename_i i p d w;exact ⟨_,cV r w rfl,h,λ_ g=>g⟩
  ·exact h.elim
 case ptr=>
  split at h
  ·rename_i a w;exact ⟨mB a,cV r w rfl,h,λ_ g=>g⟩
  ·rename_i i p w;exact ⟨p,cV r w rfl,h,λ_ g=>g⟩
  ·rename_i p w;exact ⟨p,cV r w rfl,h,λ_ g=>g⟩
  ·exact h.elim
 case sl=>
  split at h
  ·rename_i b l c w;exact ⟨⟨b,l,c⟩,cV r w rfl,h,λ_ g=>g⟩
  ·exact h.elim
 case str=>
  split at h
  ·rename_i s w;exact ⟨s,cV r w rfl,h,λ_ g=>g⟩
  ·exact h.elim
 case map=>
  split at h
  ·rename_i s w;exact ⟨s,cV r w rfl,h,λ_ g=>g⟩
  ·exact h.elim
 case agg=>
  split at h
  ·rename_i s w;exact ⟨s,cV r w rfl,h,λ_ g=>g⟩
  ·exact h.elim
 case any=>
  split at h
  ·rename_i v w;exact ⟨v,cV r rfl w,h,λ_ g=>g⟩
  ·exact h.elim
theorem Jb (r:Rel σ0 E) {t:Nat} {k:Kd} {x:k.T} (g:E t=k.v x):Rel (σ0.put t (k.nv x)) E:=by have:=r.put (d:=t) (sH (T:=σ0.T) k x);rw [y8 g] at this;exact this
theorem DF {f:Sy->Ψ} (r:Rel σ E):∀(l:List (Nat×Kd)) {J:Tl l} {σ0:Sy},SW f l J σ0->Rel σ0 E->WF σ l J F->∃g,Rel g E/\f g F
 |[],J,σ0,h,r0,w=>⟨σ0,r0,h F w⟩
 | (t,k)::l,J,σ0,h,r0,w=>by obtain ⟨x,A,w,_⟩:=we w r;exact DF r l (h x) (Jb r0 A) w
theorem BA {f:Sy->Ψ} (r:Rel σ E):∀(l:List (Nat×Kd)) {σ0:Sy},Rel σ0 E->WF σ l (Zw f l σ0) F->∃g,Rel g E/\f g F
 |[],σ0,r0,h=>⟨σ0,r0,h⟩
 | (t,k)::l,σ0,r0,h=>by obtain ⟨x,w,h,_⟩:=we h r;exact BA r l (Jb r0 w) h
theorem DG (r:Rel σ E):∀(l:List (Nat×Kd)) {J Y:Tl l},SX l J Y->WF σ l J F->WF σ l Y F
 |[],J,Y,h,g=>h F g
 | (t,k)::l,J,Y,h,g=>by obtain ⟨x,A,g,w⟩:=we g r;exact w _ (DG r l (h x) g)
theorem Jc (r:Rel σ E):∀(l:List (Nat×Kd)) {I:Nat->Tl l} {m:Nat},WF σ l (ZM l I m) F->∃g,g<m/\WF σ l (I g) F
 |[],I,m,h=>h
 | (t,k)::l,I,m,h=>by obtain ⟨x,C,w,A⟩:=we h r;obtain ⟨g,B,w⟩:=Jc r l w;exact ⟨g,B,A _ w⟩
theorem wg {f:Sy->Ψ} (h:jP K):jP (YM f K):=h
theorem RX {g:Nat} (h:jP K):jP (Z6 g K):=h
theorem kA:∀(c:Code) (h:iV) (K:CK) (σ:Sy) (E:En) (F:PH),jP K->sx P n c h K σ F->Rel σ E->HC P n c (QK (iW c) E K) E F
 | .skip,_,K,σ,E,F,_,h,r=>MS ⟨⟨σ,r,h⟩,.refl⟩
 | .ret,_,K,σ,E,F,_,h,r=>Ss ⟨⟨σ,r,h⟩,.refl⟩
 | .exit i,_,K,σ,E,F,_,h,r=>MT ⟨⟨σ,r,h⟩,.refl⟩
 | .region id ⟨ops⟩ nS,_,K,σ,E,F,hK,h,r=>FX (B2 ops σ E F (λo X t G=>zd X G) .refl h r)
 | .region id ops nZ,_,K,σ,E,F,hK,h,r=>by unfold sx at h;obtain ⟨Z,h⟩:=eA h;exact MY Z (ln hK (λo X t G=>zd X G) _ _ _ _ _ _ _ _ .refl .nil PJ h r)
 | .seq a b,hh,K,σ,E,F,hK,h,r=>by
  have other:∀{f:Sy->Ψ} (x:Exit) (A:En) (B:PH),x≠.normal->QK (iW a) E (YM f K) x A B->QK (iW (.seq a b)) E K x A B:=by intro f x A B hx ⟨⟨g,D,C⟩,w⟩;refine ⟨⟨g,D,?_⟩,w.left⟩;cases x<;>first|exact absurd rfl hx|exact C
  have M:∀{g:Sy} {A:En} {B:PH},Fr (iW a) E A->Rel g A->sx P n b hh.snd K g B->HC P n b (QK (iW (.seq a b)) E K) A B:=by intro g A B w D C;exact eR (kA b _ K g A B hK C D) λx a1 a2 ⟨U,H⟩=>⟨U,w.left.trans H.right⟩
  unfold sx at h;split at h
  ·refine BK (eR (kA a _ _ σ E F (wg hK) h r) λx A B q=> ?_);cases x with
   |normal=>obtain ⟨⟨g,D,C⟩,w⟩:=q;exact M w D C
   |_=>exact other _ _ _ (by intro e;cases e) q
  ·rename_i l _;refine BK (eR (kA a _ _ σ E F (wg hK) h r) λx A B q=> ?_);cases x with
   |normal=>obtain ⟨⟨g,D,C⟩,w⟩:=q;obtain ⟨L,O,R⟩:=BA D l (r.hav w) C;exact M w O R
   |_=>exact other _ _ _ (by intro e;cases e) q
  ·rename_i l _;obtain ⟨J,hJ,h⟩:=h;refine BK (eR (kA a _ _ σ E F (wg hK) h r) λx A B q=> ?_);cases x with
   |normal=>obtain ⟨⟨g,D,C⟩,w⟩:=q;obtain ⟨L,O,R⟩:=BA D l (r.hav w) (DG D l hJ C);exact M w O R
   |_=>exact other _ _ _ (by intro e;cases e) q
 | .cond c a b,hh,K,σ,E,F,hK,h,r=>by
  have W:sx P n a hh.fst K σ F->HC P n a (QK (iW (.cond c a b)) E K) E F:=λh=>eR (kA a _ K σ E F hK h r) λx A B ⟨U,w⟩=>⟨U,w.left⟩;have V:sx P n b hh.snd K σ F->HC P n b (QK (iW (.cond c a b)) E K) E F:=λh=>eR (kA b _ K σ E F hK h r) λx A B ⟨U,w⟩=>⟨U,w.right⟩;unfold sx at h;split at h
  ·rename_i N;exact JT (ba r N rfl) (W h)
  ·rename_i N;exact JU (ba r N rfl) (V h)
  ·rename_i i t N;exact p7 (ba r N rfl) (λG=>W (h.1 G)) (λG=>V (h.2 G))
  ·rename_i i p d N;exact p7 (t:= @decide p d) (ba r N rfl) (λG=>W (h.1 (ζ G))) (λG=>V (h.2 (ι G)))
  ·exact h.elim
 | .block id c,hh,K,σ,E,F,hK,h,r=>by
  refine JI (eR (kA c hh _ σ E F (RX hK) h r) λx A B q=> ?_);obtain ⟨⟨g,D,C⟩,w⟩:=q;cases x with
  |exit i=>
   show bif Nat.beq i id then QK _ E K .normal A B else QK _ E K (.exit i) A B
   have C:bif Nat.beq i id then K .normal g B else K (.exit i) g B:=C
   cases V:Nat.beq i id<;>rw [V] at C<;>exact ⟨⟨g,D,C⟩,w⟩
  |_=>exact ⟨⟨g,D,C⟩,w⟩
 | .loop c,hh,K,σ,E,F,hK,h,r=>by
  obtain ⟨I,m,h0,hr⟩:=h;refine MU (λm A B=>(∃g,Rel g A/\WF g hh.lv (I m) B)/\Fr (iW c) E A) m ⟨⟨σ,r,h0⟩,.refl⟩ ?_;rintro m A B ⟨⟨g,D,hj⟩,w⟩;obtain ⟨L,O,R⟩:=DF D _ (hr m) (r.hav w) hj;refine eR (kA c _ _ L A B (wg hK) R O) λx a1 a2 q=> ?_;obtain ⟨⟨Q,Y,h3⟩,H⟩:=q;cases x with
  |normal=>obtain ⟨m',Z,a0⟩:=Jc Y _ h3;exact ⟨m',Z,⟨Q,Y,a0⟩,w.trans H⟩
  |_=>exact ⟨⟨Q,Y,h3⟩,w.trans H⟩
 | .rangeFunc ..,_,_,_,_,_,_,h,_=>h.elim
 | .label _,_,K,σ,E,F,_,h,r=>JG ⟨⟨σ,r,h⟩,.refl⟩
 | .scope c,hh,K,σ,E,F,hK,h,r=>by
  refine JH (eR (kA c hh (Z5 K) σ E F (λc σ F h=>hK c σ F h) h r) λx A B q=> ?_);obtain ⟨⟨g,D,C⟩,w⟩:=q;cases x with
  |goto l=>exact C.elim
  |_=>exact ⟨⟨g,D,C⟩,w⟩
 | .goto _,_,_,_,_,_,_,h,_=>h.elim
 | .refuse _,_,_,_,_,_,_,h,_=>h.elim
inductive RVs (P:Program) (E:En) (F:PH):List ResultVar->Ξ->Prop
 |nil:RVs P E F [] []
 |cons {r:ResultVar} {v:ξ} {l:List ResultVar} {vs:Ξ} (h:gM P E F r v) (t:RVs P E F l vs):RVs P E F (r::l) (v::vs)
theorem i9 (r:Rel σ E):∀(l:List ResultVar) {K:Ξ->Prop},sG P σ l F K->∃vs,RVs P E F l vs/\K vs
 |[],K,h=>⟨[],.nil,h⟩
 | .tmp t::l,K,h=>by
  unfold sG at h;split at h
  ·rename_i v G;obtain ⟨vs,g,B⟩:=i9 r l h;exact ⟨v::vs,.cons (wA (cV r rfl G)) g,B⟩
  ·exact h.elim
 | .cell x t::l,K,h=>by
  unfold sG at h;split at h
  ·rename_i a D;split at h
   ·exact h.elim
   ·rename_i d hd;split at h
    ·rename_i A;split at h
     ·rename_i m b H;obtain ⟨v,g,B,h⟩:=h;obtain ⟨vs,C,w⟩:=i9 r l h;exact ⟨_,.cons (JX (cV r D rfl) hd (wM A) H g B) C,w⟩
     ·exact h.elim
    ·rename_i A;obtain ⟨v,g,h⟩:=h;obtain ⟨vs,C,w⟩:=i9 r l h;exact ⟨_,.cons (JY (cV r D rfl) hd (ql A) g) C,w⟩
  ·exact h.elim
theorem qf8 {N:Func} {r V B L Q:ResultVar} {v W D M U:ξ} (h:N.results= #[r,V,B,L,Q]) (O:gM P E F r v) (C:gM P E F V W) (g:gM P E F B D) (H:gM P E F L M) (G:gM P E F Q U):oI P N E F (.tuple #[v,W,D,M,U]):=λe w R st A=>by have k:=dM O st A;have k':=dM C st A;have J:=dM g st A;have k3:=dM H st A;have k4:=dM G st A;clear A O C g H G;rcases k with ⟨t,rfl,h1⟩|⟨x,t,a,rfl,h1,h2⟩<;>rcases k' with ⟨t',rfl,h3⟩|⟨x',t',a',rfl,h3,h4⟩<;>rcases J with ⟨I,rfl,Y⟩|⟨X,I,a1,rfl,Y,h6⟩<;>rcases k3 with ⟨Z,rfl,h7⟩|⟨x3,Z,a3,rfl,h7,h8⟩<;>rcases k4 with ⟨t4,rfl,h9⟩|⟨x4,t4,a4,rfl,h9,a0⟩<;>simp [results,asAddr, *]
theorem Jd {r:Func} {vs:Ξ} (h:RVs P E F r.results.toList vs) (C:Nat.ble r.results.size 5=nZ):oI P r E F (Xf vs):=by
 have C:=Zh C;have key:∀l,r.results.toList=l->r.results=l.toArray:=λl h=>by rw [<- h]
 generalize H:r.results.toList=l at h;have g:=key _ H;have w:l.length<=5:=by rw [<- H];simpa using C
 cases h with
 |nil=>exact qgk g
 |cons A t=>
  cases t with
  |nil=>exact WR g A
  |cons B t=>
   cases t with
   |nil=>exact WT g A B
   |cons D t=>
    cases t with
    |nil=>exact qgl g A B D
    |cons G t=>
     cases t with
     |nil=>exact qfY g A B D G
     |cons I t=>
      cases t with
      |nil=>exact qf8 g A B D G I
      |cons J t=>simp at w
theorem RY {B:Func} {R:ξ->Ψ} {x:Exit} {M:Δ} {C:En} (h:QK M C (Xg P B R) x E F):MW P B R x E F:=by
 obtain ⟨⟨σ,r,h⟩,_⟩:=h;cases x with
 |normal=>obtain ⟨g,h⟩:=eA h;obtain ⟨vs,A,w⟩:=i9 r _ h;exact ⟨_,Jd A g,w⟩
 |ret=>obtain ⟨g,h⟩:=eA h;obtain ⟨vs,A,w⟩:=i9 r _ h;exact ⟨_,Jd A g,w⟩
 |_=>exact h.elim
theorem rT:∀(vs:Ξ) (g:List TypeId) (i:Nat) (σ:Sy),(∀j v,vs[j]? =mB v->E (i+j)=v)->Rel σ E->Rel (Ew P i g vs σ) E
 |[],g,i,σ,_,r=>by cases g<;>exact r
 |v::vs,g,i,σ,h,r=>by
  have hi:E i=v:=h 0 v rfl;have step:∀k:Kd,Rel (σ.put i (Za k v)) E:=λk=>by have:=r.put (d:=i) (Ka (T:=σ.T) k v);rw [y8 hi] at this;exact this
  have w:∀j u,vs[j]? =mB u->E (i+1+j)=u:=λj u A=>by have:=h (j+1) u (by simpa using A);rw [show i+1+j=i+(j+1) by omega];exact this
  cases g with
  |nil=>exact rT vs [] (i+1) _ w (step _)
  |cons t g=>exact rT vs g (i+1) _ w (step _)
theorem RZ {k:Nat} {h:iV} {args:Ξ} {R:ξ->Ψ} (g:ZC P k h args R F):aj P k args.toArray F R:=by
 unfold ZC at g;split at g
 ·exact g.elim
 ·rename_i C A;split at g
  ·exact g.elim
  ·rename_i c w;obtain ⟨r,g⟩:=eA g;refine MX A w rfl r (eR (kA c h _ _ (Sr args) F (λc σ F h=>h) g (rT args _ 0 _ (λj v B=> ?_) ⟨λt=>True.intro,λj _=>rfl⟩)) λx E F q=>RY q);simp only [yp];show args.getD j undef=v;rw [Vb,B];rfl
theorem sxC {k:Nat} (h:iV) {args:Ξ} {R:ξ->Ψ} {b:Prop} (e:b=ZC P k h args R F) (g:b):aj P k args.toArray F R:=RZ (e▸g)
theorem Λ {k:Nat} (h:iV) {args:Ξ} {R:ξ->Ψ} {b:Prop} (g:b) (e:b=ZC P k h args R F:=by kernel_rfl):aj P k args.toArray F R:=sxC h e g
end
end Go.Proofs.YteilolbbgieadaaGreatDoor.Rx
namespace Go.Proofs.YteilolbbgieadaaGreatDoor
open Go.IntKind (i64 u8 u64)
open Sl renaming v->nV,nil->pk
open Go Go.Proofs.Tryz
section
abbrev Am (b o:Nat):Addr:=pd b o nC
abbrev Pp (b:Nat):Value:=.pointer (mB (Am b 0))
abbrev vi (n:Int):Value:=.int .i64 n
abbrev Sb (b n:Nat):Sl:=Sl.mk (mB (Am b 0)) n n
abbrev zG:Γ:= #[.slice nC 0 0,.slice nC 0 0,.int .i64 0,.slice nC 0 0,.slice nC 0 0,.slice nC 0 0,.int .i64 0,.slice nC 0 0,.slice nC 0 0]
abbrev zP:Γ:= #[.string ⟨#[]⟩,.int .i64 0,.slice nC 0 0,.slice nC 0 0,.int .i64 0,.bool nS,.int .i64 0,.slice nC 0 0,.bool nS,.int .i64 0,.int .i64 0,.int .i64 0,.int .i64 0]
abbrev zT:Γ:= #[.string ⟨#[]⟩,.int .i64 0,.string ⟨#[]⟩,.slice nC 0 0,.string ⟨#[]⟩,.slice nC 0 0,.int .i64 0]
abbrev zF:Γ:= #[.int .i64 0,.int .i64 0,.int .i64 0,.int .i64 0,.int .i64 0,.int .i64 0,.slice nC 0 0,.slice nC 0 0,.int .i64 0]
abbrev zL:Γ:= #[.slice nC 0 0,.int .i64 0,.slice nC 0 0,.int .i64 0]
abbrev zD:Γ:= #[.slice nC 0 0,.int .i64 0]
section
variable (F:PH) (a:Addr)
abbrev Rr (n:Nat) (a:Addr) (R:VR) (F:PH):Prop:=∃v:Γ,v.size=n/\F.row a v/\R (.agg v) F
abbrev Lr (n:Nat) (a:Addr) (K:Γ->Prop):Prop:=∃v:Γ,v.size=n/\F.row a v/\K v
abbrev Li (K:Int->Prop):Prop:=∃v:Int,F.cell a=mB (.int .i64 v)/\K v
abbrev Lk (k:IntKind) (a:Addr) (K:Int->Prop):Prop:=∃v:Int,F.cell a=mB (.int k v)/\K v
abbrev Lq (K:Θ->Prop):Prop:=∃v:Θ,F.cell a=mB (.pointer v)/\K v
abbrev Ls (K:Sl->Prop):Prop:=∃v:Sl,F.cell a=mB (nV v)/\K v
abbrev Lb (K:Bool->Prop):Prop:=∃v:Bool,F.cell a=mB (.bool v)/\K v
abbrev Lx (K:ByteArray->Prop):Prop:=∃v:ByteArray,F.cell a=mB (.string v)/\K v
end
abbrev Ix (s:Sl) (i:Int) (K:Addr->Prop):Prop:=∃a:Addr,s.qa5=mB a/\0<=i/\i<(s.len:Int)/\K a
abbrev Fn (f:Value) (K:Nat->Γ->Γ->Prop):Prop:=∃(k:Nat) (fst cap:Γ),f=.func (.func k) fst cap/\aG prog k=nZ/\K k fst cap
section
variable (k:Nat) (ar:Γ) (F:PH)
abbrev Ap (K:Sl->Ψ):Prop:=aH prog (Builtin.append_ #[k,k] k ar) F λv F=>∃x:Sl,v=nV x/\K x F
abbrev Ca (K:Γ->Ψ):Prop:=aj prog k ar F λv F=>∃x:Γ,v=.agg x/\K x F
abbrev Ci (K:Ω):Prop:=aj prog k ar F λv F=>∃x:Int,v=.int .i64 x/\K x F
abbrev vc (K:Bool->Ψ):Prop:=aj prog k ar F λv F=>∃x:Bool,v=.bool x/\K x F
abbrev Cs (K:Sl->Ψ):Prop:=aj prog k ar F λv F=>∃x:Sl,v=nV x/\K x F
abbrev Cx (K:ByteArray->Ψ):Prop:=aj prog k ar F λv F=>∃x:ByteArray,v=.string x/\K x F
abbrev Cu (K:Ψ):Prop:=aj prog k ar F λv F=>v=Value.tuple #[]/\K F
end
abbrev Nb (F:PH) (o:Obj) (K:Nat->Ψ):Prop:=∀b,F b=nC->wn (F.set b o) (K b)
abbrev Bc (c A B:Prop):Prop:=(c->A)/\(¬c->B)
abbrev Bb (c:Bool) (A B:Prop):Prop:=(c=nZ->A)/\(c=nS->B)
abbrev Lp {α:Type} (x:α) (F:PH) (B:(α->Ψ)->α->Ψ):Prop:=∃(I:Nat->α->Ψ) (m:Nat),I m x F/\∀m x F,I m x F->B (λy F=>∃m',m'<m/\I m' y F) x F
variable {R:VR} {F:PH}
set_option maxHeartbeats 4000000
def Je (a:Int) (R:VR) (F:PH):Prop:=R (.bool (decide (a=1))) F
def Jf (j:Ω) (i:Int) (k:Nat) (R:VR) (a:Int) (F:PH):Prop:=Bc (1<a) (Ls F (Am k 0) λd=>Ix d (i64.wrap (a - 2)) λe=>∃b,b.size=3/\F.row (od e (pc (i64.wrap (a - 2))*3)) b/\Nb F (mX (#[vi 0,vi 0,vi 0]) 201) λh F=>aB F (Am h 0) 3 b λF=>Li F (Am h 0) λc=>0<=c/\Bc ((u64.wrap ((BitVec.ofInt (u64).bits (Int.fdiv i (2 ^ (min (pc c) (u64).bits))) &&& BitVec.ofInt (u64).bits 1).toNat))=1) (Li F (Am h 2) λf=>j f F) (Li F (Am h 1) λg=>j g F)) (Je a R F)
def Vl (c:Γ) (d:Int) (R:VR) (F:PH):Prop:=Nb F (mX c 33) λe F=>Lr F 2 (Am e 0) λf=>Ci 106 #[.agg f] F λg F=>Bc (g≠0) (R (.bool nS) F) (Li F (Am e 1) λb=>Lp b F λN a F=>Jf N d e R a F)
abbrev ν:=aj prog
theorem qf9 {a:Γ} {b:Int} (h:Vl a b R F):ν 76 #[.agg a,.int .u64 b] F R:=Rx.Λ (.qa8 (.qa8 (.qa8 (.J nS [(5,.int .i64)] (.L [(5,.int .i64)] .N) .N)))) h
def DH (f:Nat) (R:VR) (F:PH):Prop:=Li F (Am f 1) λg=>Bc (g<0) (R (vi 20) F) (Li F (Am f 1) λh=>Ls F (Am f 0) λi=>Bc ((i64.wrap ((i.len:Int)+1))<h) (R (vi 20) F) (Ls F (Am f 0) λj=>Nb F (mX (#[nV j,.map nC]:Γ) 248) λk F=>Li F (Am f 1) λa=>Ca 147 #[(Pp k),(vi a)] F λb F=>Nb F (mX zD 33) λl F=>aB F (Am l 0) 2 b λF=>Lr F 2 (Am l 0) λc=>Lr F 2 (Am f 0) λd=>vc 117 #[.agg c,.agg d] F λe F=>Bb ((!e)) (R (vi 20) F) (R (vi 0) F)))
def DI (A:Ω) (z g:Nat) (d:Sl) (R:VR) (a:Int) (F:PH):Prop:=Bc (a<(d.len:Int)) (Ix d a λh=>Lr F 3 (od h (pc a*3)) λi=>Nb F (mX (#[vi 0,vi 0,vi 0]) 201) λb F=>aB F (Am b 0) 3 i λF=>Li F (Am b 0) λj=>Bc (j<0) (R (vi 20) F) (Li F (Am b 0) λk=>Bc (63<k) (R (vi 20) F) (Li F (Am b 1) λl=>Bc (l<0) (R (vi 20) F) (Li F (Am b 2) λm=>Bc (m<0) (R (vi 20) F) (Li F (Am b 1) λn=>Bc ((i64.wrap (a+1))<n) (R (vi 20) F) (Li F (Am b 2) λo=>Bc ((i64.wrap (a+1))<o) (R (vi 20) F) (Li F (Am b 1) λp=>Li F (Am b 2) λq=>Bc (p=q) (R (vi 20) F) (Lr F 3 (Am b 0) λr=>∃e,s9 prog (Instr.lookup 243 (.map (mB g)) (.agg r) nS) F (.bool e)/\Bb (e) (R (vi 20) F) (Lr F 2 (Am z 0) λs=>Li F (Am b 1) λt=>Li F (Am b 0) λc=>Ci 146 #[.agg s,(vi t)] F λu F=>F.cell (Am b 0)=mB (vi c)/\Bc (u<=c) (R (vi 20) F) (Lr F 2 (Am z 0) λv=>Li F (Am b 2) λw=>Li F (Am b 0) λf=>Ci 146 #[.agg v,(vi w)] F λx F=>F.cell (Am b 0)=mB (vi f)/\F.cell (Am b 0)=mB (vi c)/\Bc (x<=f) (R (vi 20) F) (Lr F 3 (Am b 0) λy=>aH prog (Instr.mapUpdate 243 (.map (mB g)) (.agg y) (.bool nZ)) F λ_ F=>A (i64.wrap (a+1)) F))))))))))) (DH z R F)
def OG (c:Γ) (R:VR) (F:PH):Prop:=Nb F (mX c 33) λd F=>Ls F (Am d 0) λe=>Bc ((4096:Int)<(e.len:Int)) (R (vi 2) F) (Nb F (.map #[] 0) λf F=>Ls F (Am d 0) λa=>Lp 0 F λN b F=>DI N d f a R b F)
theorem qdo {a:Γ} (h:OG a R F):ν 106 #[.agg a] F R:=Rx.Λ (.qa8 (.qa8 (.qa8 (.J nS [] (.qa8 (.L [(15,.int .i64)] .N)) .N)))) h
def OH (d e:Γ) (R:VR) (F:PH):Prop:=Nb F (mX d 33) λi F=>Nb F (mX e 33) λj F=>Nb F (mX zD 33) λh F=>Lr F 2 (Am i 0) λf=>Lr F 2 (Am j 0) λg=>ν 148 #[.agg f,.agg g,.func (.func 149) #[] #[]] F λv F=>∃c,∃a,v=(.tuple #[.agg c,(vi a)])/\aB F (Am h 0) 2 c λF=>Lr F 2 (Am h 0) λb=>R (.tuple #[.agg b,(vi a)]) F
theorem qdp {a:Γ} {b:Γ} (h:OH a b R F):ν 109 #[.agg a,.agg b] F R:=Rx.Λ .N h
def OI (a:Bool) (R:VR) (F:PH):Prop:=Nb F (mX zD 33) λb F=>Bb (a) (aB F (Am b 0) 2 (#[.slice nC 0 0,(vi 1)]:Γ) λF=>Rr 2 (Am b 0) R F) (aB F (Am b 0) 2 zD λF=>Rr 2 (Am b 0) R F)
theorem qdq {a:Bool} (h:OI a R F):ν 112 #[.bool a] F R:=Rx.Λ .N h
def OJ (d e:Γ) (R:VR) (F:PH):Prop:=Nb F (mX d 33) λi F=>Nb F (mX e 33) λj F=>Nb F (mX zD 33) λh F=>Lr F 2 (Am i 0) λf=>Lr F 2 (Am j 0) λg=>ν 148 #[.agg f,.agg g,.func (.func 152) #[] #[]] F λv F=>∃c,∃a,v=(.tuple #[.agg c,(vi a)])/\aB F (Am h 0) 2 c λF=>Lr F 2 (Am h 0) λb=>R (.tuple #[.agg b,(vi a)]) F
theorem qdr {a:Γ} {b:Γ} (h:OJ a b R F):ν 113 #[.agg a,.agg b] F R:=Rx.Λ .N h
def OK (d e:Γ) (R:VR) (F:PH):Prop:=Nb F (mX d 33) λh F=>Nb F (mX e 33) λi F=>Li F (Am h 1) λf=>Li F (Am i 1) λg=>Bc (f=g) (Ls F (Am h 0) λa=>Ls F (Am i 0) λb=>vc 153 #[nV a,nV b] F λc F=>R (.bool c) F) (R (.bool nS) F)
theorem qds {a:Γ} {b:Γ} (h:OK a b R F):ν 117 #[.agg a,.agg b] F R:=Rx.Λ .N h
def OL (d:Γ) (b:Int) (R:VR) (F:PH):Prop:=Nb F (mX d 33) λf F=>Bc (b<2) (R (vi 64) F) (Ls F (Am f 0) λe=>Ix e (i64.wrap (b - 2)) λc=>∃a,F.cell (od c (pc (i64.wrap (b - 2))*3))=mB (vi a)/\R (vi a) F)
theorem qdt {a:Γ} {b:Int} (h:OL a b R F):ν 146 #[.agg a,(vi b)] F R:=Rx.Λ .N h
def OM (h:Θ) (a:Int) (R:VR) (F:PH):Prop:=Nb F (mX #[.pointer h] 245) λn F=>Nb F (mX zD 33) λl F=>Nb F (mX zD 33) λg F=>aB F (Am g 0) 2 zD λF=>Nb F (.map #[] 0) λi F=>aH prog (Instr.mapUpdate 278 (.map (mB i)) (vi 0) (vi 0)) F λ_ F=>aH prog (Instr.mapUpdate 278 (.map (mB i)) (vi 1) (vi 1)) F λ_ F=>Nb F (mX (#[.map nC]) 278) λm F=>rj F (Am m 0) (.map (mB i)) λF=>Nb F (mX (#[.nilFunc]) 149) λj F=>rj F (Am j 0) (.func (.func 182) #[] #[(Pp m),(Pp n),(Pp j),(Pp g)]) λF=>∃b:ξ,F.cell (Am j 0)=mB b/\Fn b λk d e=>aj prog k (d++([(vi a)]).toArray++e) F λv F=>∃c,v=(vi c)/\rj F (Am g 1) (vi c) λF=>Lr F 2 (Am g 0) λf=>aB F (Am l 0) 2 f λF=>Rr 2 (Am l 0) R F
theorem qdu {b:Θ} {a:Int} (h:OM b a R F):ν 147 #[.pointer b,(vi a)] F R:=Rx.Λ .N h
def ON (m n:Γ) (c:ξ) (R:VR) (F:PH):Prop:=Nb F (mX m 33) λp F=>Nb F (mX n 33) λq F=>c.cells= #[c]/\Nb F (mX #[c] 250) λr F=>Nb F (mX zD 33) λl F=>Lr F 2 (Am p 0) λj=>Lr F 2 (Am q 0) λe=>j.size=2/\e.size=2/\Nb F (mX (wr (wr zL 0 j.toList) 2 e.toList) 33) λo F=>Ci 183 #[nV (Sb o 2)] F λf F=>Bc (f≠0) (aB F (Am l 0) 2 zD λF=>Lr F 2 (Am l 0) λd=>R (.tuple #[.agg d,(vi f)]) F) (Lr F 2 (Am p 0) λg=>Lr F 2 (Am q 0) λh=>g.size=2/\h.size=2/\zD.size=2/\Ca 185 #[.agg (wr (wr (wr (#[.slice nC 0 0,vi 0,.slice nC 0 0,vi 0,.slice nC 0 0,vi 0]:Γ) 0 g.toList) 2 h.toList) 4 zD.toList),.func (.func 186) #[] #[(Pp r)]] F λk F=>ν 184 #[.agg k] F λv F=>∃i,∃a,v=(.tuple #[.agg i,(vi a)])/\aB F (Am l 0) 2 i λF=>Lr F 2 (Am l 0) λb=>R (.tuple #[.agg b,(vi a)]) F)
theorem qdv {b:Γ} {c:Γ} {a:ξ} (h:ON b c a R F):ν 148 #[.agg b,.agg c,a] F R:=Rx.Λ .N h
def OO (a b:Bool) (R:VR) (F:PH):Prop:=Bb (a) (R (.bool b) F) (R (.bool nS) F)
theorem qdw {a:Bool} {b:Bool} (h:OO a b R F):ν 149 #[.bool a,.bool b] F R:=Rx.Λ .N h
def OP (a b:Bool) (R:VR) (F:PH):Prop:=Bb (a) (R (.bool nZ) F) (R (.bool b) F)
theorem qdx {a:Bool} {b:Bool} (h:OP a b R F):ν 152 #[.bool a,.bool b] F R:=Rx.Λ .N h
def Jg (c:Int) (H I J K:Θ) (R:VR) (F:PH):Prop:=∃a,H=mB a/\∃j:Option Nat,F.cell a=mB (.map j)/\∃(k:Int) (d:Bool),s9 prog (Instr.lookup 278 (.map j) (vi c) nZ) F (.tuple #[(vi k),.bool d])/\Bb (d) (R (vi k) F) (∃l,I=mB l/\Lq F l λx=>∃e,x=mB e/\Ls F e λy=>Ix y (i64.wrap (c - 2)) λz=>∃f,f.size=3/\F.row (od z (pc (i64.wrap (c - 2))*3)) f/\Nb F (mX (#[vi 0,vi 0,vi 0]) 201) λG F=>aB F (Am G 0) 3 f λF=>∃g,J=mB g/\∃m:ξ,F.cell g=mB m/\Li F (Am G 1) λA=>Fn m λL s t=>aj prog L (s++([(vi A)]).toArray++t) F λv F=>∃h,v=(vi h)/\∃n:ξ,F.cell g=mB n/\Li F (Am G 2) λB=>Fn n λM u w=>aj prog M (u++([(vi B)]).toArray++w) F λv F=>∃i,v=(vi i)/\∃b,K=mB b/\Ls F b λC=>Li F (Am G 0) λo=>(#[(vi o),(vi h),(vi i)]:Γ).size=3/\Nb F (mX (#[(vi o),(vi h),(vi i)]:Γ) 201) λN F=>Ap 31 #[nV C,nV (Sb N 1)] F λD F=>rj F b (nV D) λF=>∃p:Option Nat,F.cell a=mB (.map p)/\Ls F b λE=>aH prog (Instr.mapUpdate 278 (.map p) (vi c) (vi (i64.wrap ((E.len:Int)+1)))) F λ_ F=>∃q:Option Nat,F.cell a=mB (.map q)/\∃r,s9 prog (Instr.lookup 278 (.map q) (vi c) nS) F (vi r)/\R (vi r) F)
theorem OQ {a:Int} {b:Θ} {c:Θ} {d:Θ} {e:Θ} (h:Jg a b c d e R F):ν 182 #[(vi a),.pointer b,.pointer c,.pointer d,.pointer e] F R:=Rx.Λ .N h
def DJ (R:VR) (F:PH):Prop:=R (vi 0) F
def DK (h:Ω) (c:Sl) (R:VR) (a:Int) (F:PH):Prop:=Bc (a<(c.len:Int)) (Ix c a λd=>Lr F 2 (od d (pc a*2)) λe=>Nb F (mX zD 33) λg F=>aB F (Am g 0) 2 e λF=>Lr F 2 (Am g 0) λf=>Ci 106 #[.agg f] F λb F=>Bc (b≠0) (R (vi b) F) (h (i64.wrap (a+1)) F)) (DJ R F)
def OR (a:Sl) (R:VR) (F:PH):Prop:=Lp 0 F λN b F=>DK N a R b F
theorem qdy {a:Sl} (h:OR a R F):ν 183 #[nV a] F R:=Rx.Λ (.qa8 (.J nS [] (.qa8 (.L [(8,.int .i64)] .N)) .N)) h
def OS (d:Γ) (R:VR) (F:PH):Prop:=Nb F (mX d 33) λg F=>Nb F (mX zD 33) λc F=>Ls F (Am g 0) λe=>Bc ((4096:Int)<(e.len:Int)) (aB F (Am c 0) 2 zD λF=>Lr F 2 (Am c 0) λb=>R (.tuple #[.agg b,(vi 2)]) F) (Lr F 2 (Am g 0) λf=>aB F (Am c 0) 2 f λF=>Lr F 2 (Am c 0) λa=>R (.tuple #[.agg a,(vi 0)]) F)
theorem qdz {a:Γ} (h:OS a R F):ν 184 #[.agg a] F R:=Rx.Λ .N h
def OT (n:Γ) (d:ξ) (R:VR) (F:PH):Prop:=Nb F (mX n 282) λe F=>d.cells= #[d]/\Nb F (mX #[d] 283) λs F=>Nb F (mX zD 33) λq F=>ν 211 #[] F λv F=>∃k,v=(.pointer k)/\Nb F (mX (#[.pointer nC]) 245) λm F=>rj F (Am m 0) (.pointer k) λF=>Nb F (.map #[] 0) λt F=>Nb F (mX (#[.map nC]) 311) λr F=>rj F (Am r 0) (.map (mB t)) λF=>Nb F (mX (#[.nilFunc]) 312) λo F=>rj F (Am o 0) (.func (.func 212) #[] #[(Pp s),(Pp r),(Pp e),(Pp o),(Pp m)]) λF=>Lq F (Am m 0) λf=>∃g:ξ,F.cell (Am o 0)=mB g/\0<=(0:Int)/\(0:Int)<3/\∃a,F.cell (od (od (Am e 0) (pc 0*2)) 1)=mB (vi a)/\0<=(1:Int)/\(1:Int)<3/\∃b,F.cell (od (od (Am e 0) (pc 1*2)) 1)=mB (vi b)/\0<=(2:Int)/\(2:Int)<3/\∃c,F.cell (od (od (Am e 0) (pc 2*2)) 1)=mB (vi c)/\Fn g λp i j=>aj prog p (i++([(Value.agg (#[(vi a),(vi b),(vi c)]:Γ))]).toArray++j) F λv F=>∃h,v=(vi h)/\F.cell (od (od (Am e 0) (pc 2*2)) 1)=mB (vi c)/\F.cell (od (od (Am e 0) (pc 1*2)) 1)=mB (vi b)/\F.cell (od (od (Am e 0) (pc 0*2)) 1)=mB (vi a)/\F.cell (Am m 0)=mB (.pointer f)/\Ca 147 #[.pointer f,(vi h)] F λl F=>F.cell (od (od (Am e 0) (pc 2*2)) 1)=mB (vi c)/\F.cell (od (od (Am e 0) (pc 1*2)) 1)=mB (vi b)/\F.cell (od (od (Am e 0) (pc 0*2)) 1)=mB (vi a)/\aB F (Am q 0) 2 l λF=>Rr 2 (Am q 0) R F
theorem qdA {b:Γ} {a:ξ} (h:OT b a R F):ν 185 #[.agg b,a] F R:=Rx.Λ .N h
def OU (f g _:Bool) (h:Θ) (R:VR) (F:PH):Prop:=∃a,h=mB a/\∃e:ξ,F.cell a=mB e/\Fn e λi c d=>aj prog i (c++([(Value.bool f),(Value.bool g)]).toArray++d) F λv F=>∃b,v=(Value.bool b)/\R (.bool b) F
theorem qdB {a:Bool} {b:Bool} {c:Bool} {d:Θ} (h:OU a b c d R F):ν 186 #[.bool a,.bool b,.bool c,.pointer d] F R:=Rx.Λ .N h
def OV (R:VR) (F:PH):Prop:=Nb F (.map #[] 0) λa F=>Nb F (mX (#[.slice nC 0 0,.map (mB a)]:Γ) 248) λb F=>R (Pp b) F
theorem qcS (h:OV R F):ν 211 #[] F R:=Rx.Λ .N h
def DL (n:Addr) (u w:Θ) (B:Nat) (o p q:Int) (x y:Nat) (R:VR) (F:PH):Prop:=∃a,u=mB a/\∃c:ξ,F.cell a=mB c/\Lr F 3 (Am x 0) λr=>Fn c λz j k=>aj prog z (j++([(Value.agg r)]).toArray++k) F λv F=>∃d,v=(vi d)/\∃b,w=mB b/\Lq F b λe=>∃f:ξ,F.cell a=mB f/\Lr F 3 (Am y 0) λs=>Fn f λA l m=>aj prog A (l++([(Value.agg s)]).toArray++m) F λv F=>∃g,v=(vi g)/\F.cell b=mB (.pointer e)/\Ci 214 #[.pointer e,(vi (min (min o p) q)),(vi d),(vi g)] F λh F=>∃i:Option Nat,F.cell n=mB (.map i)/\Lr F 3 (Am B 0) λt=>aH prog (Instr.mapUpdate 311 (.map i) (.agg t) (vi h)) F λ_ F=>R (vi h) F
def DM (p:Ω) (g h:Addr) (m n:Θ) (o:Nat) (c d e:Int) (i j:Nat) (R:VR) (a:Int) (F:PH):Prop:=Bc (a<3) (0<=a/\a<3/\Lr F 2 (od h (pc a*2)) λk=>0<=a/\a<3/\Li F (od (Am o 0) (pc a*1)) λl=>ν 213 #[.agg k,(vi l),(vi (min (min c d) e))] F λv F=>∃f,∃b,v=(.tuple #[(vi f),(vi b)])/\0<=a/\a<3/\rj F (od (Am i 0) (pc a*1)) (vi f) λF=>0<=a/\a<3/\rj F (od (Am j 0) (pc a*1)) (vi b) λF=>p (i64.wrap (a+1)) F) (DL g m n o c d e i j R F)
def gh (B C D E G:Θ) (b:Nat) (p:Bool) (R:VR) (F:PH):Prop:=Bb (p) (∃g,B=mB g/\∃h:ξ,F.cell g=mB h/\0<=(0:Int)/\(0:Int)<3/\Li F (od (Am b 0) (pc 0*1)) λq=>0<=(1:Int)/\(1:Int)<3/\Li F (od (Am b 0) (pc 1*1)) λr=>0<=(2:Int)/\(2:Int)<3/\Li F (od (Am b 0) (pc 2*1)) λs=>Fn h λH n o=>aj prog H (n++([(Value.bool (decide (q=1))),(Value.bool (decide (r=1))),(Value.bool (decide (s=1)))]).toArray++o) F λv F=>∃i,v=(Value.bool i)/\Bb (i) (R (vi 1) F) (R (vi 0) F)) (∃c,C=mB c/\∃j:Option Nat,F.cell c=mB (.map j)/\Lr F 3 (Am b 0) λt=>∃(k:Int) (d:Bool),s9 prog (Instr.lookup 311 (.map j) (.agg t) nZ) F (.tuple #[(vi k),.bool d])/\Bb (d) (R (vi k) F) (∃a,D=mB a/\0<=(0:Int)/\(0:Int)<3/\Lr F 2 (od a (pc 0*2)) λu=>0<=(0:Int)/\(0:Int)<3/\Li F (od (Am b 0) (pc 0*1)) λw=>0<=(1:Int)/\(1:Int)<3/\Lr F 2 (od a (pc 1*2)) λl=>0<=(1:Int)/\(1:Int)<3/\Li F (od (Am b 0) (pc 1*1)) λm=>0<=(2:Int)/\(2:Int)<3/\Lr F 2 (od a (pc 2*2)) λe=>0<=(2:Int)/\(2:Int)<3/\Li F (od (Am b 0) (pc 2*1)) λf=>Ci 146 #[.agg u,(vi w)] F λx F=>F.cell (od (Am b 0) (pc 2*1))=mB (vi f)/\F.row (od a (pc 2*2)) e/\F.cell (od (Am b 0) (pc 1*1))=mB (vi m)/\F.row (od a (pc 1*2)) l/\Ci 146 #[.agg l,(vi m)] F λy F=>F.cell (od (Am b 0) (pc 2*1))=mB (vi f)/\F.row (od a (pc 2*2)) e/\Ci 146 #[.agg e,(vi f)] F λz F=>Nb F (mX (#[vi 0,vi 0,vi 0]) 313) λI F=>Nb F (mX (#[vi 0,vi 0,vi 0]) 313) λJ F=>Lp 0 F λN A F=>DM N c a E G b x y z I J R A F))
def OW (j:Γ) (a b c d e:Θ) (R:VR) (F:PH):Prop:=Nb F (mX j 313) λf F=>0<=(0:Int)/\(0:Int)<3/\Li F (od (Am f 0) (pc 0*1)) λg=>Bc (g<2) (0<=(1:Int)/\(1:Int)<3/\Li F (od (Am f 0) (pc 1*1)) λh=>Bc (h<2) (0<=(2:Int)/\(2:Int)<3/\Li F (od (Am f 0) (pc 2*1)) λi=>gh a b c d e f (decide (i<2)) R F) (gh a b c d e f nS R F)) (gh a b c d e f nS R F)
theorem qcT {a:Γ} {b:Θ} {c:Θ} {d:Θ} {e:Θ} {f:Θ} (h:OW a b c d e f R F):ν 212 #[.agg a,.pointer b,.pointer c,.pointer d,.pointer e,.pointer f] F R:=Rx.Λ (.qa8 (.T (.J nS [(28,.bool)] .N .N) (.qa8 (.qa8 (.qa8 (.J nS [] (.qa8 (.L [(64,.int .i64)] .N)) .N)))))) h
def OX (i:Γ) (a j:Int) (R:VR) (F:PH):Prop:=Nb F (mX i 33) λk F=>Lr F 2 (Am k 0) λl=>Ci 146 #[.agg l,(vi a)] F λd F=>Bc (d≠j) (R (.tuple #[(vi a),(vi a)]) F) (Ls F (Am k 0) λe=>Ix e (i64.wrap (a - 2)) λf=>∃b,F.cell (od (od f (pc (i64.wrap (a - 2))*3)) 1)=mB (vi b)/\Ls F (Am k 0) λg=>Ix g (i64.wrap (a - 2)) λh=>∃c,F.cell (od (od h (pc (i64.wrap (a - 2))*3)) 2)=mB (vi c)/\R (.tuple #[(vi b),(vi c)]) F)
theorem qcU {a:Γ} {b:Int} {c:Int} (h:OX a b c R F):ν 213 #[.agg a,(vi b),(vi c)] F R:=Rx.Λ .N h
def OY (o:Θ) (p b c:Int) (R:VR) (F:PH):Prop:=Bc (b=c) (R (vi b) F) (Nb F (mX (#[vi 0,vi 0,vi 0]) 201) λn F=>aB F (Am n 0) 3 (#[(vi p),(vi b),(vi c)]:Γ) λF=>∃a,o=mB a/\∃e:Option Nat,F.cell (od a 1)=mB (.map e)/\Lr F 3 (Am n 0) λj=>∃(f:Int) (d:Bool),s9 prog (Instr.lookup 246 (.map e) (.agg j) nZ) F (.tuple #[(vi f),.bool d])/\Bb ((!d)) (Ls F a λk=>Lr F 3 (Am n 0) λg=>g.size=3/\Nb F (mX g 201) λq F=>Ap 31 #[nV k,nV (Sb q 1)] F λl F=>rj F a (nV l) λF=>Ls F a λh=>∃i:Option Nat,F.cell (od a 1)=mB (.map i)/\Lr F 3 (Am n 0) λm=>aH prog (Instr.mapUpdate 246 (.map i) (.agg m) (vi (i64.wrap ((h.len:Int)+1)))) F λ_ F=>R (vi (i64.wrap ((h.len:Int)+1))) F) (R (vi f) F))
theorem qcV {c:Θ} {d:Int} {b:Int} {a:Int} (h:OY c d b a R F):ν 214 #[.pointer c,(vi d),(vi b),(vi a)] F R:=Rx.Λ .N h
variable {R:VR} {F:PH}
set_option maxHeartbeats 4000000
def qga (a:Sl) (R:VR) (F:PH):Prop:=Bb ((a.qa5.isNone)) (R (nV pk) F) (Nb F (mX #[] 47) λc F=>Ap 43 #[nV (Sb c 0),nV a] F λb F=>R (nV b) F)
theorem qgb {a:Sl} (h:qga a R F):ν 51 #[nV a] F R:=Rx.Λ .N h
def Mw (R:VR) (F:PH):Prop:=R (.bool nZ) F
def DN (i:Ω) (b d:Sl) (R:VR) (a:Int) (F:PH):Prop:=Bc (a<(b.len:Int)) (Ix b a λe=>Lr F 3 (od e (pc a*3)) λf=>Ix d a λg=>Lr F 3 (od g (pc a*3)) λh=>∃c,(∀F,s9 prog (Op.equal 201 (.agg f) (.agg h)) F c)/\Bb ((!c)) (R (.bool nS) F) (i (i64.wrap (a+1)) F)) (Mw R F)
def OZ (a b:Sl) (R:VR) (F:PH):Prop:=Bc ((a.len:Int)≠(b.len:Int)) (R (.bool nS) F) (Lp 0 F λN c F=>DN N a b R c F)
theorem qcW {a:Sl} {b:Sl} (h:OZ a b R F):ν 153 #[nV a,nV b] F R:=Rx.Λ (.qa8 (.qa8 (.J nS [] (.qa8 (.L [(13,.int .i64)] .N)) .N))) h
def O0 (a:Sl) (b:ξ) (R:VR) (F:PH):Prop:=Ci 199 #[nV a,b] F λc F=>R (.bool (decide (0<=c))) F
theorem qcX {a:Sl} {b:ξ} (h:O0 a b R F):ν 167 #[nV a,b] F R:=Rx.Λ .N h
def O1 (a:Sl) (b:ξ) (R:VR) (F:PH):Prop:=Ci 208 #[nV a,b] F λc F=>R (.bool (decide (0<=c))) F
theorem qcY {a:Sl} {b:ξ} (h:O1 a b R F):ν 176 #[nV a,b] F R:=Rx.Λ .N h
def Mx (R:VR) (F:PH):Prop:=R (vi (-1:Int)) F
def My (j:Ω) (e:Sl) (h:ξ) (R:VR) (a:Int) (F:PH):Prop:=Bc (a<(e.len:Int)) (Ix e a λf=>Lr F 13 (od f (pc a*13)) λg=>Fn h λi c d=>aj prog i (c++([(Value.agg g)]).toArray++d) F λv F=>∃b,v=(Value.bool b)/\Bb (b) (R (vi a) F) (j (i64.wrap (a+1)) F)) (Mx R F)
def qcZ (a:Sl) (b:ξ) (R:VR) (F:PH):Prop:=Lp 0 F λN c F=>My N a b R c F
theorem qc0 {a:Sl} {b:ξ} (h:qcZ a b R F):ν 199 #[nV a,b] F R:=Rx.Λ (.qa8 (.J nS [] (.qa8 (.L [(8,.int .i64)] .N)) .N)) h
def O2 (a:Sl) (b:ξ) (R:VR) (F:PH):Prop:=Ci 231 #[nV a,b] F λc F=>R (.bool (decide (0<=c))) F
theorem qc1 {a:Sl} {b:ξ} (h:O2 a b R F):ν 201 #[nV a,b] F R:=Rx.Λ .N h
def Mz (R:VR) (F:PH):Prop:=R (vi (-1:Int)) F
def MA (j:Ω) (e:Sl) (h:ξ) (R:VR) (a:Int) (F:PH):Prop:=Bc (a<(e.len:Int)) (Ix e a λf=>Lr F 2 (od f (pc a*2)) λg=>Fn h λi c d=>aj prog i (c++([(Value.agg g)]).toArray++d) F λv F=>∃b,v=(Value.bool b)/\Bb (b) (R (vi a) F) (j (i64.wrap (a+1)) F)) (Mz R F)
def qc2 (a:Sl) (b:ξ) (R:VR) (F:PH):Prop:=Lp 0 F λN c F=>MA N a b R c F
theorem qc3 {a:Sl} {b:ξ} (h:qc2 a b R F):ν 208 #[nV a,b] F R:=Rx.Λ (.qa8 (.J nS [] (.qa8 (.L [(8,.int .i64)] .N)) .N)) h
def MB (R:VR) (F:PH):Prop:=R (vi (-1:Int)) F
def MC (j:Ω) (e:Sl) (h:ξ) (R:VR) (a:Int) (F:PH):Prop:=Bc (a<(e.len:Int)) (Ix e a λf=>Lr F 3 (od f (pc a*3)) λg=>Fn h λi c d=>aj prog i (c++([(Value.agg g)]).toArray++d) F λv F=>∃b,v=(Value.bool b)/\Bb (b) (R (vi a) F) (j (i64.wrap (a+1)) F)) (MB R F)
def qc4 (a:Sl) (b:ξ) (R:VR) (F:PH):Prop:=Lp 0 F λN c F=>MC N a b R c F
theorem qc5 {a:Sl} {b:ξ} (h:qc4 a b R F):ν 231 #[nV a,b] F R:=Rx.Λ (.qa8 (.J nS [] (.qa8 (.L [(8,.int .i64)] .N)) .N)) h
end
open Tr
abbrev yg (n:Nat):Prop:=n<=1000000000000
def df (b:Br):Ξ:=[vi b.v,vi b.l,vi b.h]
def aW (l:List Br):Ξ:=l.flatMap df
abbrev aX (b:Br):Γ:= #[vi b.v,vi b.l,vi b.h]
theorem qhH (l:List Br):(aW l).length=l.length*3:=by
 induction l with
 |nil=>rfl
 |cons b l ih=>simp only [aW,VD,tT,wo] at ih ⊢;rw [ih];simp [df];omega
theorem d7 (l m:List Br):aW (l++m)=aW l++aW m:=by simp [aW]
theorem ur:∀(l:List Br) (i:Nat) (hi:i<l.length),((aW l).drop (i*3)).take 3=df l[i]
 |b::l,0,_=>by simp [aW,df]
 |b::l,i+1,hi=>by
  have e:(i+1)*3=3+i*3:=by omega
  have:aW (b::l)=df b++aW l:=by simp [aW]
  rw [this,e,<- XJ,List.drop_left' (by simp [df])];simpa using ur l i (by simpa using hi)
theorem ja (l:List Br):∀v∈aW l,ak v:=by intro v h;obtain ⟨b,_,g⟩:=XX.1 h;simp only [df,tQ,Ws,or_false] at g;rcases g with rfl|rfl|rfl<;>exact jg
theorem ij (b:Br):∀v∈(aX b).toList,ak v:=by intro v g;simp only [tQ,Ws,or_false] at g;rcases g with rfl|rfl|rfl<;>exact jg
theorem RdS.blen {F:PH} {s:Sl} {l:List Br} (h:RdS F s 3 (aW l)):s.len=l.length:=by have:=h.len;rw [qhH] at this;omega
theorem VX {F:PH} {s:Sl} {l:List Br} (h:RdS F s 3 (aW l)) {i:Nat} {x:Br} (r:l[i]? =mB x):∃a,s.qa5=mB a/\F.row (a.add (i*3)) (aX x)/\
  F.cell (a.add (i*3))=mB (vi x.v)/\F.cell ((a.add (i*3)).add 1)=mB (vi x.l)/\F.cell ((a.add (i*3)).add 2)=mB (vi x.h):=by
 obtain ⟨hi,r⟩:=N6.1 r;subst r;have A:=h.blen;obtain ⟨b,o,w,_⟩:=h.cells (by omega)
 have g:=h.row w (i*3) (aX l[i]) (by
  have:=ur l i hi
  simpa [aX,df] using this.symm)
 refine ⟨_,w,g,?_,?_,?_⟩
 ·have:=g 0 (by simp);simpa using this
 ·have:=g 1 (by simp);simpa using this
 ·have:=g 2 (by simp);simpa using this
def DV (F:PH) (v:Γ) (d:wc):Prop:=∃s:Sl,v= #[s.v,vi d.2]/\RdS F s 3 (aW d.1)
theorem DV.le {F G:PH} {v:Γ} {d:wc} (h:DV F v d) (w:F.le G):DV G v d:=by obtain ⟨s,r,g⟩:=h;exact ⟨s,r,g.le w⟩
theorem DV.size {F:PH} {v:Γ} {d:wc} (h:DV F v d):v.size=2:=by obtain ⟨s,rfl,_⟩:=h;rfl
theorem DV.st {F:PH} {v:Γ} {d:wc} (h:DV F v d):∀x∈v.toList,ak x:=by
 obtain ⟨s,rfl,_⟩:=h;intro x g;simp only [tQ,Ws,or_false] at g;rcases g with rfl|rfl
 ·exact JZ
 ·exact jg
theorem PH.le_rfl {F:PH}:F.le F:=λ_ _ h=>h
theorem gi {S:List Tr} {d:List Br} (g:brs S<+:d) {k:Nat} {t:Tr} (h:S[k]? =mB t):d[k]? =mB (br S t):=by obtain ⟨r,rfl⟩:=g;rw [z8 (by rw [aP];exact (N6.1 h).1)];exact jM h
theorem oE {n:Nat} (h:yg n) (g:2<=n):i64.wrap ((n:Int) - 2)=((n - 2:Nat):Int):=by rw [aL (by omega)];omega
section
variable {F:PH} {v:Γ} {d:wc} {S:List Tr} {t:Tr}
theorem pP (h:brs S<+:d.1) (g:inn S t) (w:yg (d.1.length+2)):yg (num S t)/\num S t<=d.1.length+1:=by have A:=dN g;have r:=h.length_le;rw [aP] at r;omega
theorem eI (hd:DV F v d) (G:brs S<+:d.1) (E:inn S t) (M:yg (d.1.length+2)):
  ν 146 #[.agg v,vi (num S t)] F λr H=>r=vi t.top/\F.le H:=by
 obtain ⟨A,K⟩:=pP G E M;obtain ⟨s,rfl,D⟩:=hd;refine qdt ?_;unfold OL;intro P C;refine tP ?_;have g:=ae (mX #[s.v,vi d.2] 33) C;refine ⟨λh=> ?_,λh=> ?_⟩
 ·have J:=qi (S:=S) (t:=t) (by omega);cases t with
  |qa6 b=>exact ⟨rfl,g⟩
  |qa7 _ _ _=>cases J
 ·cases t with
  |qa6 b=>have:=cI S b;omega
  |qa7 w l r=>have I:=gi G (ee (cy E rfl) rfl);obtain ⟨a,N,_,L,_⟩:=VX (D.le g) I;have B:=oE A (cU (S:=S) (t:=qa7 w l r) rfl);have O:=cU (S:=S) (t:=qa7 w l r) rfl;refine ⟨s,by simp,a,N,by rw [B];omega,by rw [B,D.blen];omega,_,by rw [B];exact L,rfl,g⟩
theorem BB (hd:DV F v d) (I:brs S<+:d.1) (G:inn S t) (N:yg (d.1.length+2)) {w:Nat} (B:w<64):
  ν 213 #[.agg v,vi (num S t),vi w] F λr R=>r=.tuple #[vi (num S (lo w t)),vi (num S (hi w t))]/\F.le R:=by
 obtain ⟨E,U⟩:=pP I G N;have J:=hd;obtain ⟨s,rfl,K⟩:=hd;refine qcU ?_;unfold OX;intro V H;refine tP ?_;have D:=ae (mX #[s.v,vi d.2] 33) H;refine ⟨_,rfl,ai (aq _ _ _),?_⟩;refine (eI (J.le D) I G N).mono ?_;rintro _ F2 ⟨rfl,A⟩;have M:F2 V=mB _:=A _ _ (aq _ _ _);have g:F.le F2:=λb o h=>A b o (D b o h);refine ⟨_,rfl,λh=> ?_,λh=> ?_⟩
 ·refine ⟨?_,g⟩;cases t with
  |qa6 b=>rfl
  |qa7 C l r=>have:¬C=w:=λe=>h (by simp [Tr.top,e]);simp [lo,hi,this]
 ·cases t with
  |qa6 b=>simp only [Tr.top] at h;omega
  |qa7 C l r=>
   have e:C=w:=by simp only [Tr.top] at h;omega
   subst e;have O:=gi I (ee (cy G rfl) rfl);obtain ⟨a,L,_,_,P,Q⟩:=VX (K.le g) O;have B:=oE E (cU (S:=S) (t:=qa7 C l r) rfl);have W:=cU (S:=S) (t:=qa7 C l r) rfl
   refine ⟨s,by rw [av M];rfl,a,L,by rw [B];omega,by rw [B,K.blen];omega,_,by rw [B];exact P,
    s,by rw [av M];rfl,a,L,by rw [B];omega,by rw [B,K.blen];omega,_,by rw [B];exact Q,?_,g⟩
   simp [lo,hi,br]
end
inductive Pat where
 |emp:Pat
 |rng:Nat->Nat->Pat
 |seq:Pat->Pat->Pat
 |alt:Pat->Pat->Pat
 |rep:Pat->Pat
deriving DecidableEq
inductive jY (P:Δ->Prop):Δ->Prop where
 |nil:jY P []
 |cons {u v:Δ}:P u->jY P v->jY P (u++v)
def Lg:Pat->Δ->Prop
 | .emp,w=>w=[]
 | .rng lo hi,w=>∃b,w=[b]/\lo<=b/\b<=hi
 | .seq x y,w=>∃u v,w=u++v/\Lg x u/\Lg y v
 | .alt x y,w=>Lg x w\/Lg y w
 | .rep x,w=>jY (Lg x) w
inductive Lt where
 |emp:Lt
 |rng:Nat->Nat->Nat->Lt
 |seq:Lt->Lt->Lt
 |alt:Lt->Lt->Lt
 |rep:Lt->Lt
namespace Lt
def pat:Lt->Pat
 |emp=> .emp
 |rng _ lo hi=> .rng lo hi
 |seq x y=> .seq x.pat y.pat
 |alt x y=> .alt x.pat y.pat
 |rep x=> .rep x.pat
def nul:Lt->Bool
 |emp=>nZ
 |rng _ _ _=>nS
 |seq x y=>x.nul && y.nul
 |alt x y=>x.nul || y.nul
 |rep _=>nZ
def first:Lt->Nat->Prop
 |emp,_=>False
 |rng i _ _,j=>i=j
 |seq x y,j=>x.first j\/(x.nul=nZ/\y.first j)
 |alt x y,j=>x.first j\/y.first j
 |rep x,j=>x.first j
def last:Lt->Nat->Prop
 |emp,_=>False
 |rng i _ _,j=>i=j
 |seq x y,j=>y.last j\/(y.nul=nZ/\x.last j)
 |alt x y,j=>x.last j\/y.last j
 |rep x,j=>x.last j
def fol:Lt->Nat->Nat->Prop
 |emp,_,_=>False
 |rng _ _ _,_,_=>False
 |seq x y,i,j=>x.fol i j\/y.fol i j\/(x.last i/\y.first j)
 |alt x y,i,j=>x.fol i j\/y.fol i j
 |rep x,i,j=>x.fol i j\/(x.last i/\x.first j)
def lab:Lt->Nat->Prop
 |emp,_=>False
 |rng i _ _,j=>i=j
 |seq x y,j=>x.lab j\/y.lab j
 |alt x y,j=>x.lab j\/y.lab j
 |rep x,j=>x.lab j
def fits (acc:Nat->Nat->Prop):Lt->Prop
 |emp=>True
 |rng i lo hi=>∀b,acc i b↔lo<=b/\b<=hi
 |seq x y=>x.fits acc/\y.fits acc/\∀i,x.lab i->¬y.lab i
 |alt x y=>x.fits acc/\y.fits acc/\∀i,x.lab i->¬y.lab i
 |rep x=>x.fits acc
theorem first_lab:∀(t:Lt) {i:Nat},t.first i->t.lab i
 |rng _ _ _,_,h=>h
 |seq x y,_,h=>h.elim (λh=> .inl (x.first_lab h)) λh=> .inr (y.first_lab h.2)
 |alt x y,_,h=>h.elim (λh=> .inl (x.first_lab h)) λh=> .inr (y.first_lab h)
 |rep x,_,h=>x.first_lab h
theorem last_lab:∀(t:Lt) {i:Nat},t.last i->t.lab i
 |rng _ _ _,_,h=>h
 |seq x y,_,h=>h.elim (λh=> .inr (y.last_lab h)) λh=> .inl (x.last_lab h.2)
 |alt x y,_,h=>h.elim (λh=> .inl (x.last_lab h)) λh=> .inr (y.last_lab h)
 |rep x,_,h=>x.last_lab h
theorem fol_lab:∀(t:Lt) {i j:Nat},t.fol i j->t.lab i/\t.lab j
 |seq x y,_,_,h=>by
  rcases h with h|h|⟨h,g⟩
  ·exact ⟨.inl (x.fol_lab h).1,.inl (x.fol_lab h).2⟩
  ·exact ⟨.inr (y.fol_lab h).1,.inr (y.fol_lab h).2⟩
  ·exact ⟨.inl (x.last_lab h),.inr (y.first_lab g)⟩
 |alt x y,_,_,h=>by
  rcases h with h|h
  ·exact ⟨.inl (x.fol_lab h).1,.inl (x.fol_lab h).2⟩
  ·exact ⟨.inr (y.fol_lab h).1,.inr (y.fol_lab h).2⟩
 |rep x,_,_,h=>by
  rcases h with h|⟨h,g⟩
  ·exact x.fol_lab h
  ·exact ⟨x.last_lab h,x.first_lab g⟩
end Lt
def Pth (acc fol:Nat->Nat->Prop) (e:Nat->Prop):Nat->Δ->Prop
 |_,[]=>False
 |i,b::w=>acc i b/\((w=[]/\e i)\/∃j,fol i j/\Pth acc fol e j w)
section
variable {acc fol fol':Nat->Nat->Prop} {e e':Nat->Prop}
theorem Pth.ne {i:Nat} {w:Δ} (h:Pth acc fol e i w):w≠[]:=by rintro rfl;exact h
theorem Pth.mono (r:∀i j,fol i j->fol' i j) (g:∀i,e i->e' i):∀(w:Δ) (i:Nat),Pth acc fol e i w->Pth acc fol' e' i w
 |[],_,h=>h
 |_::w,_,⟨h,k⟩=>⟨h,k.elim (λk=> .inl ⟨k.1,g _ k.2⟩) λ⟨j,A,B⟩=> .inr ⟨j,r _ _ A,Pth.mono r g w j B⟩⟩
theorem Pth.inside (P:Nat->Prop) (g:∀i j,P i->fol i j->P j/\fol' i j) (r:∀i,P i->e i->e' i):∀(w:Δ) (i:Nat),P i->Pth acc fol e i w->Pth acc fol' e' i w
 |[],_,_,h=>h
 |_::w,i,hp,⟨h,k⟩=>⟨h,k.elim (λk=> .inl ⟨k.1,r _ hp k.2⟩) λ⟨j,A,B⟩=> .inr ⟨j,(g i j hp A).2,Pth.inside P g r w j (g i j hp A).1 B⟩⟩
theorem Pth.link {l g:Nat->Prop}:∀(w:Δ) (i:Nat),Pth acc (λi j=>fol i j\/(l i/\g j)) e i w->
  Pth acc fol e i w\/∃u v j,w=u++v/\Pth acc fol l i u/\g j/\Pth acc (λi j=>fol i j\/(l i/\g j)) e j v
 |[],_,h=>h.elim
 |b::w,i,⟨h,k⟩=>by
  rcases k with ⟨rfl,k⟩|⟨j,r|⟨r,B⟩,A⟩
  ·exact .inl ⟨h,.inl ⟨rfl,k⟩⟩
  ·rcases Pth.link w j A with q|⟨u,v,m,rfl,q1,q2,q3⟩
   ·exact .inl ⟨h,.inr ⟨j,r,q⟩⟩
   ·exact .inr ⟨b::u,v,m,rfl,⟨h,.inr ⟨j,r,q1⟩⟩,q2,q3⟩
  ·exact .inr ⟨[b],w,j,rfl,⟨h,.inl ⟨rfl,r⟩⟩,B,A⟩
theorem Pth.append {l g:Nat->Prop} (B:∀i j,fol i j->fol' i j) (w:∀i j,l i->g j->fol' i j) {v:Δ} {j:Nat} (r:g j) (A:Pth acc fol' e j v):
  ∀(u:Δ) (i:Nat),Pth acc fol l i u->Pth acc fol' e i (u++v)
 |[],_,h=>h.elim
 |b::u,i,⟨h,k⟩=>by
  rcases k with ⟨rfl,k⟩|⟨m,D,C⟩
  ·exact ⟨h,.inr ⟨j,w i j k r,A⟩⟩
  ·exact ⟨h,.inr ⟨m,B _ _ D,Pth.append B w r A u m C⟩⟩
end
namespace Lt
variable {acc:Nat->Nat->Prop}
theorem nul_iff:∀(t:Lt),t.nul=nZ↔Lg t.pat []
 |emp=>⟨λ_=>rfl,λ_=>rfl⟩
 |rng i lo hi=>⟨λh=>(by cases h),λ⟨b,h,_⟩=>(by cases h)⟩
 |seq x y=>by
  have w:=nul_iff x;have A:=nul_iff y;simp only [nul,pat,Lg,Vv,w,A];constructor
  ·rintro ⟨r,g⟩;exact ⟨[],[],rfl,r,g⟩
  ·rintro ⟨u,v,h,r,g⟩;obtain ⟨rfl,rfl⟩:=List.append_eq_nil_iff.1 h.symm;exact ⟨r,g⟩
 |alt x y=>by simp only [nul,pat,Lg,WM,nul_iff x,nul_iff y]
 |rep x=>⟨λ_=>jY.nil,λ_=>rfl⟩
theorem places:∀(t:Lt),t.fits acc->∀w,w≠[]->(Lg t.pat w↔∃i,t.first i/\Pth acc t.fol t.last i w)
 |emp,_,w,hw=>⟨λh=>absurd h hw,λ⟨i,h,_⟩=>h.elim⟩
 |rng i lo hi,hf,w,hw=>by
  constructor
  ·rintro ⟨b,rfl,h⟩;exact ⟨i,rfl,(hf b).2 h,.inl ⟨rfl,rfl⟩⟩
  ·rintro ⟨j,rfl,h⟩;cases w with
   |nil=>exact h.elim
   |cons b w=>
    obtain ⟨r,⟨rfl,_⟩|⟨j,A,_⟩⟩:=h
    ·exact ⟨b,rfl,(hf b).1 r⟩
    ·exact A.elim
 |alt x y,⟨fx,fy,hd⟩,w,hw=>by
  have ix:=places x fx w hw;have E:=places y fy w hw;constructor
  ·rintro (h|h)
   ·obtain ⟨i,r,A⟩:=ix.1 h;exact ⟨i,.inl r,A.mono (λ_ _ h=> .inl h) (λ_ h=> .inl h) w i⟩
   ·obtain ⟨i,r,A⟩:=E.1 h;exact ⟨i,.inr r,A.mono (λ_ _ h=> .inr h) (λ_ h=> .inr h) w i⟩
  ·rintro ⟨i,r|r,A⟩
   ·refine .inl (ix.2 ⟨i,r,A.inside x.lab (λi j B h=> ?_) (λi B h=> ?_) w i (x.first_lab r)⟩)
    ·exact h.elim (λh=>⟨(x.fol_lab h).2,h⟩) λh=>absurd (y.fol_lab h).1 (hd i B)
    ·exact h.elim id λh=>absurd (y.last_lab h) (hd i B)
   ·refine .inr (E.2 ⟨i,r,A.inside y.lab (λi j B h=> ?_) (λi B h=> ?_) w i (y.first_lab r)⟩)
    ·exact h.elim (λh=>absurd B (hd i (x.fol_lab h).1)) λh=>⟨(y.fol_lab h).2,h⟩
    ·exact h.elim (λh=>absurd B (hd i (x.last_lab h))) id
 |seq x y,⟨fx,fy,hd⟩,w,hw=>by
  have ix:=places x fx;have E:=places y fy
  have G:∀w i,y.lab i->Pth acc (seq x y).fol (seq x y).last i w->Pth acc y.fol y.last i w:=λw i hi h=>h.inside y.lab (λi j B h=>by
    rcases h with h|h|⟨h,_⟩
    ·exact absurd B (hd i (x.fol_lab h).1)
    ·exact ⟨(y.fol_lab h).2,h⟩
    ·exact absurd B (hd i (x.last_lab h))) (λi B h=>h.elim id λh=>absurd B (hd i (x.last_lab h.2))) w i hi
  constructor
  ·rintro ⟨u,v,rfl,H,I⟩;by_cases C:u=[]
   ·subst C;obtain ⟨i,r,A⟩:=(E _ hw).1 I;exact ⟨i,.inr ⟨(nul_iff x).2 H,r⟩,A.mono (λ_ _ h=> .inr (.inl h)) (λ_ h=> .inl h) _ i⟩
   ·obtain ⟨i,r,A⟩:=(ix u C).1 H;refine ⟨i,.inl r,?_⟩;by_cases D:v=[]
    ·subst D;rw [yD];exact A.mono (λ_ _ h=> .inl h) (λ_ h=> .inr ⟨(nul_iff y).2 I,h⟩) _ i
    ·obtain ⟨j,M,K⟩:=(E v D).1 I;exact Pth.append (λ_ _ h=> .inl h) (λ_ _ h L=> .inr (.inr ⟨h,L⟩)) M (K.mono (λ_ _ h=> .inr (.inl h)) (λ_ h=> .inl h) v j) u i A
  ·rintro ⟨i,r,A⟩;rcases r with r|⟨P,r⟩
   ·have k:Pth acc (λi j=>(x.fol i j\/y.fol i j)\/(x.last i/\y.first j)) (seq x y).last i w:=A.mono (λi j h=>by
     rcases h with h|h|h
     ·exact .inl (.inl h)
     ·exact .inl (.inr h)
     ·exact .inr h) (λ_ h=>h) w i
    have F:∀{e e':Nat->Prop} w i,(∀i,x.lab i->e i->e' i)->x.lab i->Pth acc (λi j=>x.fol i j\/y.fol i j) e i w->Pth acc x.fol e' i w:=λw i O hi h=>h.inside x.lab (λi j B h=>
     h.elim (λh=>⟨(x.fol_lab h).2,h⟩) λh=>absurd (y.fol_lab h).1 (hd i B)) O w i hi
    rcases k.link w i with q|⟨u,v,j,rfl,q1,q2,q3⟩
    ·by_cases N:y.nul=nZ
     ·exact ⟨w,[],(yD w).symm,(ix w hw).2 ⟨i,r,F w i (λi B h=>h.elim (λh=>absurd (y.last_lab h) (hd i B)) λh=>h.2) (x.first_lab r) q⟩,(nul_iff y).1 N⟩
     ·exfalso;have z:=F (e':=λ_=>False) w i (λi B h=>h.elim (λh=>absurd (y.last_lab h) (hd i B)) λh=>N h.1) (x.first_lab r) q;have nC:∀(w:Δ) (i:Nat),¬Pth acc x.fol (λ_=>False) i w:=by
       intro w;induction w with
       |nil=>exact λ_ h=>h
       |cons b w ih=>
        rintro i ⟨_,⟨_,h⟩|⟨j,_,h⟩⟩
        ·exact h
        ·exact ih j h
      exact nC w i z
    ·refine ⟨u,v,rfl,(ix u q1.ne).2 ⟨i,r,F u i (λ_ _ h=>h) (x.first_lab r) q1⟩,(E v q3.ne).2 ⟨j,q2,G v j (y.first_lab q2) (q3.mono (λi j h=> ?_) (λ_ h=>h) v j)⟩⟩;rcases h with (h|h)|h
     ·exact .inl h
     ·exact .inr (.inl h)
     ·exact .inr (.inr h)
   ·obtain q:=G w i (y.first_lab r) A;exact ⟨[],w,rfl,(nul_iff x).1 P,(E w hw).2 ⟨i,r,q⟩⟩
 |rep x,fx,w,hw=>by
  have ix:=places x fx;constructor
  ·intro h;change jY (Lg x.pat) w at h;have key:∀w,jY (Lg x.pat) w->w≠[]->∃i,x.first i/\Pth acc (rep x).fol x.last i w:=by
    intro w h;induction h with
    |nil=>exact λh=>absurd rfl h
    | @cons u v H I ih=>
     intro J;by_cases C:u=[]
     ·subst C;exact ih J
     ·obtain ⟨i,r,A⟩:=(ix u C).1 H;refine ⟨i,r,?_⟩;by_cases D:v=[]
      ·subst D;rw [yD];exact A.mono (λ_ _ h=> .inl h) (λ_ h=>h) _ i
      ·obtain ⟨j,M,K⟩:=ih D;exact Pth.append (λ_ _ h=> .inl h) (λ_ _ h L=> .inr ⟨h,L⟩) M K u i A
   exact key w h hw
  ·rintro ⟨i,r,A⟩;have key:∀(n:Nat) (w:Δ) (i:Nat),w.length<=n->x.first i->Pth acc (rep x).fol x.last i w->jY (Lg x.pat) w:=by
    intro n;induction n with
    |zero=>intro w i J _ h;exact absurd (X1.1 (by omega)) h.ne
    |succ n ih=>
     intro w i J r A;rcases Pth.link (fol:=x.fol) (l:=x.last) (g:=x.first) w i A with q|⟨u,v,j,rfl,q1,q2,q3⟩
     ·have:=jY.cons ((ix w q.ne).2 ⟨i,r,q⟩) jY.nil;rwa [yD] at this
     ·have H:0<u.length:=Yr.2 q1.ne;rw [tT] at J;exact .cons ((ix u q1.ne).2 ⟨i,r,q1⟩) (ih v j (by omega) q2 q3)
   exact key w.length w i (tI _) r A
end Lt
structure Nd where
 k:Int
 lo:Int
 hi:Int
 a:Int
 b:Int
deriving DecidableEq
namespace Pat
end Pat
namespace Pat
end Pat
section
abbrev pa (b:Nat):Value:=.pointer (mB ⟨b,0,nC⟩)
abbrev Nd.arr (x:Nd):Γ:= #[vi x.k,vi x.lo,vi x.hi,vi x.a,vi x.b]
def Nd.cells (x:Nd):Ξ:=[vi x.k,vi x.lo,vi x.hi,vi x.a,vi x.b]
def dC (l:List Nd):Ξ:=l.flatMap Nd.cells
theorem ik (l:List Nd):(dC l).length=l.length*5:=by
 induction l with
 |nil=>rfl
 |cons b l ih=>simp only [dC,VD,tT,wo] at ih ⊢;rw [ih];simp [Nd.cells];omega
theorem ut:∀(l:List Nd) (i:Nat) (hi:i<l.length),((dC l).drop (i*5)).take 5=l[i].cells
 |b::l,0,_=>by simp [dC,Nd.cells]
 |b::l,i+1,hi=>by
  have e:(i+1)*5=5+i*5:=by omega
  have:dC (b::l)=b.cells++dC l:=by simp [dC]
  rw [this,e,<- XJ,List.drop_left' (by simp [Nd.cells])];simpa using ut l i (by simpa using hi)
theorem gj (b:Nd):∀v∈b.arr.toList,ak v:=by intro v g;simp only [tQ,Ws,or_false] at g;rcases g with rfl|rfl|rfl|rfl|rfl<;>exact jg
theorem RdS.nlen {F:PH} {s:Sl} {l:List Nd} (h:RdS F s 5 (dC l)):s.len=l.length:=by have:=h.len;rw [ik] at this;omega
def cb (st:ο) (i:Nat):Nat:=if h:i<st.size then (st[i]'h).toNat else 0
theorem qc6 {st:ο} {i:Nat} (h:i<st.size):cb st i=(st[i]'h).toNat:=dif_pos h
theorem MD (st:ο) (i:Nat):cb st i<256:=by
 unfold cb;split
 ·exact UInt8.toNat_lt _
 ·omega
section
variable {F0 F:PH} {b i:Nat} {st:ο} {out:List Nd} {w:Bool}
theorem bO.som {F:PH} {e size:Nat} {s:Sl} {vs:Ξ} (h:bO F e size s vs) {a:Addr} (r:s.qa5=mB a):∃o,F a.block=mB o:=by
 rcases h with ⟨rfl,_⟩|⟨b,A,g,B,_⟩
 ·cases r
 ·rw [r] at g;cases g;exact ⟨_,B⟩
end
section
variable {F0 F:PH} {b i:Nat} {st:ο} {out:List Nd} {w:Bool}
theorem R0 {st:ο} {x:Int} {i:Nat} (g:x=i) (h:i<st.size) (r:pc x<st.size):((st[pc x]' r).toNat:Int)=(cb st i:Int):=by subst g;rw [qc6 h];rfl
end
def bs (s:ο):Δ:=s.data.toList.map UInt8.toNat
theorem dc (s:ο):(bs s).length=s.size:=by simp [bs]
theorem BC {s t:ο} (h:bs s=bs t):s=t:=by unfold bs at h;have:s.data.toList=t.data.toList:=List.map_inj_right (λa b e=>UInt8.toNat_inj.1 e) |>.1 h;cases s;cases t;congr;exact Array.toList_inj.1 this
theorem Jh (s:ο) (i:Nat):cb s i=(bs s).getD i 0:=by
 unfold cb bs;by_cases h:i<s.size
 ·rw [dif_pos h];have g:i<s.data.toList.length:=by simpa using h
  rw [Vb,yr,N5 g];rfl
 ·rw [dif_neg h,Vb,yr,VP (by simpa using h)];rfl
theorem qc7 (s:ο):∀b∈bs s,b<256:=by intro b g;obtain ⟨x,_,rfl⟩:=xR.1 g;exact UInt8.toNat_lt x
theorem ME (s:ο):∀(n i:Nat) (r:List UInt8),s.size - i=n->ByteArray.toList.loop s i r=r.reverse++s.data.toList.drop i:=by
 intro n;induction n with
 |zero=>intro i r h;unfold ByteArray.toList.loop;rw [Υ (by omega),Yq (by simp at h ⊢;omega),yD]
 |succ n ih=>
  intro i r h;have hi:i<s.size:=by omega
  have g:i<s.data.toList.length:=by simpa using hi
  unfold ByteArray.toList.loop;rw [Χ hi,ih (i+1) _ (by omega),XG g,List.reverse_cons,yb];congr 1;rw [List.singleton_append];congr 1;simp [ByteArray.get!,getElem!_pos,hi]
theorem jb (s:ο):s.toList=s.data.toList:=by unfold ByteArray.toList;rw [ME s _ 0 [] rfl];rfl
theorem uu (s:ο):s.toList.map UInt8.toNat=bs s:=by rw [jb];rfl
theorem Ji (s t:ο):(s.toList==t.toList)=decide (bs s=bs t):=by
 rw [wR,δ,beq_iff_eq];constructor
 ·intro h;rw [<- uu,<- uu,h]
 ·intro h;rw [BC h]
variable {R:VR} {F:PH}
set_option maxHeartbeats 4000000
def O3 (a:Int) (R:VR) (F:PH):Prop:=Bc (a=0) (R (vi 64) F) (0<=(Int.fdiv (u64.wrap ((u64.wrap ((BitVec.ofInt (u64).bits a &&& BitVec.ofInt (u64).bits (u64.wrap (0 - a))).toNat))*285870213051353865)) (2 ^ (min (pc 58) (u64).bits)))/\(Int.fdiv (u64.wrap ((u64.wrap ((BitVec.ofInt (u64).bits a &&& BitVec.ofInt (u64).bits (u64.wrap (0 - a))).toNat))*285870213051353865)) (2 ^ (min (pc 58) (u64).bits)))<64/\∃b,F.cell (od (pd 0 0 nC) (pc (Int.fdiv (u64.wrap ((u64.wrap ((BitVec.ofInt (u64).bits a &&& BitVec.ofInt (u64).bits (u64.wrap (0 - a))).toNat))*285870213051353865)) (2 ^ (min (pc 58) (u64).bits)))*1))=mB (.int .u8 b)/\R (vi (i64.wrap b)) F)
theorem qc8 {a:Int} (h:O3 a R F):ν 252 #[.int .u64 a] F R:=Rx.Λ .N h
variable {R:VR} {F:PH}
set_option maxHeartbeats 4000000
def DO (a:Sl) (R:VR) (F:PH):Prop:=Bc ((a.len:Int)=0) (R (vi 40) F) (R (vi 0) F)
def DP (f:Ω) (e:Sl) (g:Nat) (R:VR) (a:Int) (F:PH):Prop:=Bc (a<(i64.wrap ((e.len:Int) - 1))) (Ls F (Am g 0) λb=>Ix b a λc=>Lb F (od c (pc a*1)) λd=>Bb ((!d)) (R (vi 40) F) (f (i64.wrap (a+1)) F)) (DO e R F)
def DQ (b:Sl) (c:Nat) (R:VR) (F:PH):Prop:=Lp 0 F λN a F=>DP N b c R a F
def bY (b:Ω) (_:Sl) (_:Nat) (a:Int) (_:VR) (F:PH):Prop:=b (i64.wrap (a+1)) F
def fC (e:Ω) (c:Sl) (d:Nat) (a:Int) (f:Nat) (b:Int) (B:Bool) (R:VR) (F:PH):Prop:=Bb ((!B)) (R (vi 40) F) (Bc (b<1) (Li F (Am f 3) λC=>Bc (C≠0) (R (vi 40) F) (Bc (b<2) (Li F (Am f 4) λD=>Bc (D≠0) (R (vi 40) F) (Bc (1<=b) (Li F (Am f 3) λE=>vc 203 #[(vi E),(vi a),(Pp d)] F λG F=>Bb ((!G)) (R (vi 40) F) (Bc (2<=b) (Li F (Am f 4) λH=>vc 203 #[(vi H),(vi a),(Pp d)] F λI F=>Bb ((!I)) (R (vi 40) F) (bY e c d a R F)) (bY e c d a R F))) (Bc (2<=b) (Li F (Am f 4) λg=>vc 203 #[(vi g),(vi a),(Pp d)] F λh F=>Bb ((!h)) (R (vi 40) F) (bY e c d a R F)) (bY e c d a R F)))) (Bc (1<=b) (Li F (Am f 3) λi=>vc 203 #[(vi i),(vi a),(Pp d)] F λj F=>Bb ((!j)) (R (vi 40) F) (Bc (2<=b) (Li F (Am f 4) λk=>vc 203 #[(vi k),(vi a),(Pp d)] F λl F=>Bb ((!l)) (R (vi 40) F) (bY e c d a R F)) (bY e c d a R F))) (Bc (2<=b) (Li F (Am f 4) λm=>vc 203 #[(vi m),(vi a),(Pp d)] F λn F=>Bb ((!n)) (R (vi 40) F) (bY e c d a R F)) (bY e c d a R F))))) (Bc (b<2) (Li F (Am f 4) λo=>Bc (o≠0) (R (vi 40) F) (Bc (1<=b) (Li F (Am f 3) λp=>vc 203 #[(vi p),(vi a),(Pp d)] F λq F=>Bb ((!q)) (R (vi 40) F) (Bc (2<=b) (Li F (Am f 4) λr=>vc 203 #[(vi r),(vi a),(Pp d)] F λs F=>Bb ((!s)) (R (vi 40) F) (bY e c d a R F)) (bY e c d a R F))) (Bc (2<=b) (Li F (Am f 4) λt=>vc 203 #[(vi t),(vi a),(Pp d)] F λu F=>Bb ((!u)) (R (vi 40) F) (bY e c d a R F)) (bY e c d a R F)))) (Bc (1<=b) (Li F (Am f 3) λv=>vc 203 #[(vi v),(vi a),(Pp d)] F λw F=>Bb ((!w)) (R (vi 40) F) (Bc (2<=b) (Li F (Am f 4) λx=>vc 203 #[(vi x),(vi a),(Pp d)] F λy F=>Bb ((!y)) (R (vi 40) F) (bY e c d a R F)) (bY e c d a R F))) (Bc (2<=b) (Li F (Am f 4) λz=>vc 203 #[(vi z),(vi a),(Pp d)] F λA F=>Bb ((!A)) (R (vi 40) F) (bY e c d a R F)) (bY e c d a R F)))))
def DS (f:Ω) (c:Sl) (e:Nat) (R:VR) (a:Int) (F:PH):Prop:=Bc (a<(c.len:Int)) (Ix c a λg=>Lr F 5 (od g (pc a*5)) λh=>Nb F (mX (#[vi 0,vi 0,vi 0,vi 0,vi 0]) 225) λd F=>aB F (Am d 0) 5 h λF=>Li F (Am d 0) λi=>Ci 204 #[(vi i)] F λb F=>Li F (Am d 0) λj=>Bc (j=1) (Li F (Am d 1) λk=>Bc (0<=k) (Li F (Am d 1) λl=>Li F (Am d 2) λm=>Bc (l<=m) (Li F (Am d 2) λn=>fC f c e a d b (decide (n<=(255:Int))) R F) (fC f c e a d b nS R F)) (fC f c e a d b nS R F)) (Li F (Am d 1) λo=>Bc (o≠0) (fC f c e a d b nS R F) (Li F (Am d 2) λp=>Bc (p≠0) (fC f c e a d b nS R F) (fC f c e a d b (decide (0<=b)) R F)))) (DQ c e R F)
def O4 (a:Sl) (R:VR) (F:PH):Prop:=Bc ((512:Int)<(a.len:Int)) (R (vi 2) F) (aH prog (Instr.makeSlice 297 (vi (a.len:Int)) (vi (a.len:Int))) F λv F=>∃b,v=(nV b)/\Nb F (mX (#[.slice nC 0 0]) 297) λd F=>rj F (Am d 0) (nV b) λF=>Lp 0 F λN c F=>DS N a d R c F)
theorem qc9 {a:Sl} (h:O4 a R F):ν 172 #[nV a] F R:=Rx.Λ (.qa8 (.qa8 (.qa8 (.qa8 (.J nS [] (.qa8 (.L [(19,.int .i64)] (.qa8 (.qa8 (.J nS [] (.qa8 (.qa8 (.qa8 (.J nS [(8,.bool)] .N .N)))) .N))))) (.J nS [] (.qa8 (.L [(105,.int .i64)] .N)) .N)))))) h
def pQ (f:Nat) (c b:Θ) (R:VR) (F:PH):Prop:=Lx F (Am f 0) λd=>Cu 206 #[.pointer c,.string d,.func (.func 207) #[] #[(Pp f),.pointer b]] F λF=>∃a,b=mB a/\Lb F a λe=>R (.bool e) F
def O5 (d:Sl) (g:ο) (R:VR) (F:PH):Prop:=Nb F (mX #[.string g] 9) λh F=>Ci 172 #[nV d] F λi F=>Bc (i≠0) (R (.bool nS) F) (ν 205 #[nV d] F λv F=>∃b,v=(.pointer b)/\Lx F (Am h 0) λe=>Bb ((e.toList==(ByteArray.mk #[]).toList)) (∃a,b=mB a/\Lb F (od a 18) λf=>Nb F (mX (#[.bool nS]) 4) λj F=>rj F (Am j 0) (.bool f) λF=>pQ h (mB a) (mB (Am j 0)) R F) (Nb F (mX (#[.bool nS]) 4) λc F=>rj F (Am c 0) (.bool nS) λF=>pQ h b (mB (Am c 0)) R F))
theorem qda {a:Sl} {b:ο} (h:O5 a b R F):ν 173 #[nV a,.string b] F R:=Rx.Λ (.qa8 (.qa8 (.qa8 (.J nS [(5,.ptr),(6,.ptr)] .N .N)))) h
def O6 (a c:Int) (i:Θ) (R:VR) (F:PH):Prop:=Bc (a<0) (R (.bool nS) F) (Bc (c<=a) (R (.bool nS) F) (∃b,i=mB b/\Ls F b λd=>Ix d a λe=>Lb F (od e (pc a*1)) λf=>Bb (f) (R (.bool nS) F) (Ls F b λg=>Ix g a λh=>rj F (od h (pc a*1)) (.bool nZ) λF=>R (.bool nZ) F)))
theorem qdb {b:Int} {a:Int} {c:Θ} (h:O6 b a c R F):ν 203 #[(vi b),(vi a),.pointer c] F R:=Rx.Λ .N h
def pR (a:Int) (b:Bool) (R:VR) (F:PH):Prop:=Bb (b) (R (vi 0) F) (Bc (a=4) (R (vi 1) F) (Bc (a=2) (Bc (a=2) (R (vi 2) F) (R (vi (-1:Int)) F)) (Bc (a=3) (R (vi 2) F) (R (vi (-1:Int)) F))))
def O7 (a:Int) (R:VR) (F:PH):Prop:=Bc (a=0) (pR a (decide (a=0)) R F) (pR a (decide (a=1)) R F)
theorem qdc {a:Int} (h:O7 a R F):ν 204 #[(vi a)] F R:=Rx.Λ (.qa8 (.T (.qa8 (.J nS [(4,.bool)] .N .N)) .N)) h
def jB (q:Nat) (i:Θ) (R:VR) (F:PH):Prop:=Nb F (mX (#[.nilFunc]) 329) λr F=>Nb F (mX (#[.nilFunc]) 332) λt F=>rj F (Am t 0) (.func (.func 232) #[] #[.pointer i]) λF=>rj F (Am r 0) (.func (.func 236) #[] #[(Pp q),(Pp r),(Pp t)]) λF=>∃a,i=mB a/\Lq F a λj=>Lq F a λe=>Lq F a λb=>∃k:ξ,F.cell (Am r 0)=mB k/\Ls F (Am q 0) λl=>Fn k λs n o=>aj prog s (n++([(vi (i64.wrap ((l.len:Int) - 1)))]).toArray++o) F λv F=>∃m,∃c,∃d,v=(Value.tuple #[(Value.agg m),(Value.agg c),(Value.bool d)])/\F.cell (Am q 0)=mB (nV l)/\F.cell a=mB (.pointer b)/\F.cell a=mB (.pointer e)/\F.cell a=mB (.pointer j)/\∃f,j=mB f/\aB F (od f 1) 8 m λF=>F.cell a=mB (.pointer b)/\F.cell a=mB (.pointer e)/\∃g,e=mB g/\aB F (od g 9) 8 c λF=>F.cell a=mB (.pointer b)/\∃h,b=mB h/\rj F (od h 18) (.bool d) λF=>Lq F a λp=>R (.pointer p) F
def O8 (j:Sl) (R:VR) (F:PH):Prop:=Nb F (mX #[nV j] 164) λd F=>Ls F (Am d 0) λb=>Ls F (Am d 0) λa=>((aH prog (Instr.makeSlice 303 (vi (a.len:Int)) (vi (a.len:Int))) F λv F=>∃g,v=(nV g)/\F.cell (Am d 0)=mB (nV a)/\F.cell (Am d 0)=mB (nV b)/\((Nb F (mX (#[nV b,.int .u64 0,.int .u64 0,.int .u64 0,.int .u64 0,.int .u64 0,.int .u64 0,.int .u64 0,.int .u64 0,.int .u64 0,.int .u64 0,.int .u64 0,.int .u64 0,.int .u64 0,.int .u64 0,.int .u64 0,.int .u64 0,nV g,.bool nS]:Γ) 305) λk F=>Nb F (mX (#[.pointer nC]) 299) λl F=>rj F (Am l 0) (Pp k) λF=>jB d (mB (Am l 0)) R F)/\(Nb F (mX (#[.pointer nC]) 299) λe F=>Nb F (mX (#[nV b,.int .u64 0,.int .u64 0,.int .u64 0,.int .u64 0,.int .u64 0,.int .u64 0,.int .u64 0,.int .u64 0,.int .u64 0,.int .u64 0,.int .u64 0,.int .u64 0,.int .u64 0,.int .u64 0,.int .u64 0,.int .u64 0,nV g,.bool nS]:Γ) 305) λh F=>rj F (Am e 0) (Pp h) λF=>jB d (mB (Am e 0)) R F)))/\(Nb F (mX (#[.pointer nC]) 299) λf F=>aH prog (Instr.makeSlice 303 (vi (a.len:Int)) (vi (a.len:Int))) F λv F=>∃c,v=(nV c)/\F.cell (Am d 0)=mB (nV a)/\F.cell (Am d 0)=mB (nV b)/\Nb F (mX (#[nV b,.int .u64 0,.int .u64 0,.int .u64 0,.int .u64 0,.int .u64 0,.int .u64 0,.int .u64 0,.int .u64 0,.int .u64 0,.int .u64 0,.int .u64 0,.int .u64 0,.int .u64 0,.int .u64 0,.int .u64 0,.int .u64 0,nV c,.bool nS]:Γ) 305) λi F=>rj F (Am f 0) (Pp i) λF=>jB d (mB (Am f 0)) R F))
theorem qcI {a:Sl} (h:O8 a R F):ν 205 #[nV a] F R:=Rx.Λ (.qa8 (.J nS [(3,.ptr)] .N .N)) h
def DT (u:Ω) (q:ξ) (p w s:Nat) (j:ο) (R:VR) (a:Int) (F:PH):Prop:=Bc (a<(j.size:Int)) (Nb F (mX (#[vi 0]) 3) λk F=>rj F (Am k 0) (vi a) λF=>Nb F (mX (#[.int .u64 0,.int .u64 0,.int .u64 0,.int .u64 0,.int .u64 0,.int .u64 0,.int .u64 0,.int .u64 0]) 302) λl F=>Nb F (mX (#[.int .u64 0,.int .u64 0,.int .u64 0,.int .u64 0,.int .u64 0,.int .u64 0,.int .u64 0,.int .u64 0]) 302) λt F=>Cu 233 #[(Pp s),.func (.func 238) #[] #[(Pp w),(Pp k),(Pp p),(Pp l),(Pp t)]] F λF=>Lr F 8 (Am l 0) λb=>∃f,(∀F,s9 prog (Op.equal 302 (.agg b) (.agg (#[.int .u64 0,.int .u64 0,.int .u64 0,.int .u64 0,.int .u64 0,.int .u64 0,.int .u64 0,.int .u64 0]:Γ))) F f)/\Bb (f) (R (.tuple #[]) F) (Li F (Am k 0) λc=>Lq F (Am p 0) λd=>∃e,d=mB e/\Lr F 8 (od e 9) λm=>vc 239 #[(Pp l),.agg m] F λn F=>F.cell (Am p 0)=mB (Value.pointer d)/\F.cell (Am k 0)=mB (vi c)/\F.row (Am l 0) b/\Fn q λr h i=>aj prog r (h++([(vi (i64.wrap (c+1))),(Value.bool n)]).toArray++i) F λv F=>∃g,v=(Value.bool g)/\F.cell (Am p 0)=mB (.pointer d)/\F.cell (Am k 0)=mB (vi c)/\F.row (Am l 0) b/\Bb ((!g)) (R (.tuple #[]) F) (Lr F 8 (Am t 0) λo=>aB F (Am s 0) 8 o λF=>u (i64.wrap (a+1)) F))) (R (.tuple #[]) F)
def O9 (b:Θ) (g:ο) (h:ξ) (R:VR) (F:PH):Prop:=Nb F (mX #[.pointer b] 299) λi F=>Nb F (mX #[.string g] 9) λj F=>Lq F (Am i 0) λc=>∃a,c=mB a/\Lr F 8 (od a 1) λd=>Nb F (mX (#[.int .u64 0,.int .u64 0,.int .u64 0,.int .u64 0,.int .u64 0,.int .u64 0,.int .u64 0,.int .u64 0]) 302) λk F=>aB F (Am k 0) 8 d λF=>Lx F (Am j 0) λe=>Lp 0 F λN f F=>DT N h i j k e R f F
theorem qcJ {a:Θ} {b:ο} {c:ξ} (h:O9 a b c R F):ν 206 #[.pointer a,.string b,c] F R:=Rx.Λ (.qa8 (.qa8 (.qa8 (.L [(16,.int .i64)] .N)))) h
def Pa (f:Int) (d:Bool) (g e:Θ) (R:VR) (F:PH):Prop:=∃b,g=mB b/\Lx F b λh=>Bc (f=(h.size:Int)) (∃c,e=mB c/\rj F c (.bool d) λF=>R (.bool nZ) F) (∃a,e=mB a/\rj F a (.bool nS) λF=>R (.bool nZ) F)
theorem qcK {b:Int} {a:Bool} {c:Θ} {d:Θ} (h:Pa b a c d R F):ν 207 #[(vi b),.bool a,.pointer c,.pointer d] F R:=Rx.Λ .N h
def Pb (a b:Γ) (c:Θ) (R:VR) (F:PH):Prop:=Nb F (mX a 302) λd F=>Nb F (mX b 302) λe F=>Cu 233 #[(Pp d),.func (.func 234) #[] #[.pointer c,(Pp e)]] F λF=>R (.tuple #[]) F
theorem qcL {a:Γ} {b:Γ} {c:Θ} (h:Pb a b c R F):ν 232 #[.agg a,.agg b,.pointer c] F R:=Rx.Λ .N h
def DU (b:Ω) (_:ξ) (_:Θ) (a:Int) (_:VR) (F:PH):Prop:=b (i64.wrap (a+1)) F
def DW (i j:Ω) (d:ξ) (e:Int) (f:Addr) (R:VR) (a:Int) (F:PH):Prop:=Bc (a≠0) (Ci 252 #[.int .u64 a] F λg F=>Fn d λh b c=>aj prog h (b++([(vi (i64.wrap ((i64.wrap (64*e))+g)))]).toArray++c) F λv F=>v=(Value.tuple #[])/\j (u64.wrap ((BitVec.ofInt (u64).bits a &&& BitVec.ofInt (u64).bits (u64.wrap (a - 1))).toNat)) F) (DU i d (mB f) e R F)
def DX (i:Ω) (f:ξ) (g:Θ) (R:VR) (a:Int) (F:PH):Prop:=Bc (a<8) (∃b,g=mB b/\0<=a/\a<8/\Lk F .u64 (od b (pc a*1)) λc=>(∃(h:Nat->Ω) (e:Nat),h e c F/\∀e d F,h e d F-> DW i (WX h e) f a b R d F)) (R (.tuple #[]) F)
def Pc (a:Θ) (b:ξ) (R:VR) (F:PH):Prop:=Lp 0 F λN c F=>DX N b a R c F
theorem qcM {a:Θ} {b:ξ} (h:Pc a b R F):ν 233 #[.pointer a,b] F R:=Rx.Λ (.qa8 (.L [(7,.int .i64)] (.qa8 (.qa8 (.J nS [(6,.ptr)] (.qa8 (.L [(5,.int .u64)] .N)) .N))))) h
def Pd (d:Int) (h i:Θ) (R:VR) (F:PH):Prop:=∃a,h=mB a/\Lq F a λe=>∃b,e=mB b/\Ls F (od b 17) λf=>Ix f d λj=>∃c,i=mB c/\Lr F 8 c λg=>Cu 235 #[.pointer (mB (od j (pc d*8))),.agg g] F λF=>F.cell (od b 17)=mB (nV f)/\F.cell a=mB (.pointer e)/\R (.tuple #[]) F
theorem qcN {a:Int} {b:Θ} {c:Θ} (h:Pd a b c R F):ν 234 #[(vi a),.pointer b,.pointer c] F R:=Rx.Λ .N h
def DY (f:Ω) (e:Θ) (g:Nat) (R:VR) (a:Int) (F:PH):Prop:=Bc (a<8) (∃b,e=mB b/\0<=a/\a<8/\Lk F .u64 (od b (pc a*1)) λc=>0<=a/\a<8/\Lk F .u64 (od (Am g 0) (pc a*1)) λd=>0<=a/\a<8/\rj F (od b (pc a*1)) (.int .u64 (u64.wrap ((BitVec.ofInt (u64).bits c ||| BitVec.ofInt (u64).bits d).toNat))) λF=>f (i64.wrap (a+1)) F) (R (.tuple #[]) F)
def Pe (a:Θ) (b:Γ) (R:VR) (F:PH):Prop:=Nb F (mX b 302) λd F=>Lp 0 F λN c F=>DY N a d R c F
theorem qcO {a:Θ} {b:Γ} (h:Pe a b R F):ν 235 #[.pointer a,.agg b] F R:=Rx.Λ (.qa8 (.qa8 (.L [(5,.int .i64)] .N))) h
def pS (i j l:Nat) (e:Bool) (k:Nat) (f:Bool) (R:VR) (F:PH):Prop:=Lr F 8 (Am l 0) λg=>Lr F 8 (Am k 0) λh=>Bb (e) (aB F (Am i 0) 8 g λF=>aB F (Am j 0) 8 h λF=>Lr F 8 (Am i 0) λa=>Lr F 8 (Am j 0) λb=>R (.tuple #[.agg a,.agg b,.bool f]) F) (aB F (Am i 0) 8 g λF=>aB F (Am j 0) 8 h λF=>Lr F 8 (Am i 0) λc=>Lr F 8 (Am j 0) λd=>R (.tuple #[.agg c,.agg d,.bool nS]) F)
def pT (f g h e:Nat) (b:Bool) (c:Nat) (a:Bool) (R:VR) (F:PH):Prop:=Bb (a) (Lr F 8 (Am e 0) λd=>Cu 235 #[(Pp c),.agg d] F λF=>pS f g h b c a R F) (pS f g h b c a R F)
def Pf (ac:Int) (aX ad aD:Θ) (R:VR) (F:PH):Prop:=Nb F (mX (#[.int .u64 0,.int .u64 0,.int .u64 0,.int .u64 0,.int .u64 0,.int .u64 0,.int .u64 0,.int .u64 0]) 302) λe F=>Nb F (mX (#[.int .u64 0,.int .u64 0,.int .u64 0,.int .u64 0,.int .u64 0,.int .u64 0,.int .u64 0,.int .u64 0]) 302) λf F=>∃O,aX=mB O/\Ls F O λaE=>Ix aE ac λaF=>Lr F 5 (od aF (pc ac*5)) λaG=>Nb F (mX (#[vi 0,vi 0,vi 0,vi 0,vi 0]) 225) λb8 F=>aB F (Am b8 0) 5 aG λF=>Li F (Am b8 0) λg=>Bc (g=1) (Cu 237 #[(Pp e),(vi ac)] F λF=>Lr F 8 (Am e 0) λaH=>Lr F 8 (Am e 0) λaI=>aB F (Am e 0) 8 aH λF=>aB F (Am f 0) 8 aI λF=>Lr F 8 (Am e 0) λG=>Lr F 8 (Am f 0) λH=>R (.tuple #[.agg G,.agg H,.bool nS]) F) (Bc (g=2) (∃y,ad=mB y/\∃P:ξ,F.cell y=mB P/\Li F (Am b8 3) λaJ=>Fn P λaY af ag=>aj prog aY (af++([(vi aJ)]).toArray++ag) F λv F=>∃Q,∃h,∃a,v=(Value.tuple #[(Value.agg Q),(Value.agg h),(Value.bool a)])/\Nb F (mX (#[.int .u64 0,.int .u64 0,.int .u64 0,.int .u64 0,.int .u64 0,.int .u64 0,.int .u64 0,.int .u64 0]) 302) λb9 F=>Nb F (mX (#[.int .u64 0,.int .u64 0,.int .u64 0,.int .u64 0,.int .u64 0,.int .u64 0,.int .u64 0,.int .u64 0]) 302) λI F=>aB F (Am b9 0) 8 Q λF=>aB F (Am I 0) 8 h λF=>∃S:ξ,F.cell y=mB S/\Li F (Am b8 4) λaK=>Fn S λaZ ah ai=>aj prog aZ (ah++([(vi aK)]).toArray++ai) F λv F=>∃T,∃i,∃b,v=(Value.tuple #[(Value.agg T),(Value.agg i),(Value.bool b)])/\Nb F (mX (#[.int .u64 0,.int .u64 0,.int .u64 0,.int .u64 0,.int .u64 0,.int .u64 0,.int .u64 0,.int .u64 0]) 302) λak F=>Nb F (mX (#[.int .u64 0,.int .u64 0,.int .u64 0,.int .u64 0,.int .u64 0,.int .u64 0,.int .u64 0,.int .u64 0]) 302) λal F=>aB F (Am ak 0) 8 T λF=>aB F (Am al 0) 8 i λF=>∃U,aD=mB U/\∃V:ξ,F.cell U=mB V/\Lr F 8 (Am I 0) λaL=>Lr F 8 (Am ak 0) λaM=>Fn V λa0 am an=>aj prog a0 (am++([(Value.agg aL),(Value.agg aM)]).toArray++an) F λv F=>v=(Value.tuple #[])/\Bb (a) (Lr F 8 (Am ak 0) λaN=>Cu 235 #[(Pp b9),.agg aN] F λF=>pT e f b9 I a al b R F) (pT e f b9 I a al b R F)) (Bc (g=3) (∃c,ad=mB c/\∃W:ξ,F.cell c=mB W/\Li F (Am b8 3) λaO=>Fn W λa1 ao ap=>aj prog a1 (ao++([(vi aO)]).toArray++ap) F λv F=>∃X,∃j,∃k,v=(Value.tuple #[(Value.agg X),(Value.agg j),(Value.bool k)])/\Nb F (mX (#[.int .u64 0,.int .u64 0,.int .u64 0,.int .u64 0,.int .u64 0,.int .u64 0,.int .u64 0,.int .u64 0]) 302) λaq F=>Nb F (mX (#[.int .u64 0,.int .u64 0,.int .u64 0,.int .u64 0,.int .u64 0,.int .u64 0,.int .u64 0,.int .u64 0]) 302) λar F=>aB F (Am aq 0) 8 X λF=>aB F (Am ar 0) 8 j λF=>∃Y:ξ,F.cell c=mB Y/\Li F (Am b8 4) λaP=>Fn Y λa2 au av=>aj prog a2 (au++([(vi aP)]).toArray++av) F λv F=>∃Z,∃l,∃m,v=(Value.tuple #[(Value.agg Z),(Value.agg l),(Value.bool m)])/\Nb F (mX (#[.int .u64 0,.int .u64 0,.int .u64 0,.int .u64 0,.int .u64 0,.int .u64 0,.int .u64 0,.int .u64 0]) 302) λaQ F=>Nb F (mX (#[.int .u64 0,.int .u64 0,.int .u64 0,.int .u64 0,.int .u64 0,.int .u64 0,.int .u64 0,.int .u64 0]) 302) λaR F=>aB F (Am aQ 0) 8 Z λF=>aB F (Am aR 0) 8 l λF=>Lr F 8 (Am aQ 0) λaS=>Cu 235 #[(Pp aq),.agg aS] F λF=>Lr F 8 (Am aR 0) λaT=>Cu 235 #[(Pp ar),.agg aT] F λF=>Lr F 8 (Am aq 0) λaa=>Lr F 8 (Am ar 0) λab=>Bb (k) (aB F (Am e 0) 8 aa λF=>aB F (Am f 0) 8 ab λF=>Lr F 8 (Am e 0) λp=>Lr F 8 (Am f 0) λq=>R (.tuple #[.agg p,.agg q,.bool nZ]) F) (aB F (Am e 0) 8 aa λF=>aB F (Am f 0) 8 ab λF=>Lr F 8 (Am e 0) λr=>Lr F 8 (Am f 0) λs=>R (.tuple #[.agg r,.agg s,.bool m]) F)) (Bc (g=4) (∃n,ad=mB n/\∃z:ξ,F.cell n=mB z/\Li F (Am b8 3) λaw=>Fn z λaU J K=>aj prog aU (J++([(vi aw)]).toArray++K) F λv F=>∃A,∃d,∃B,v=(Value.tuple #[(Value.agg A),(Value.agg d),(Value.bool B)])/\Nb F (mX (#[.int .u64 0,.int .u64 0,.int .u64 0,.int .u64 0,.int .u64 0,.int .u64 0,.int .u64 0,.int .u64 0]) 302) λax F=>Nb F (mX (#[.int .u64 0,.int .u64 0,.int .u64 0,.int .u64 0,.int .u64 0,.int .u64 0,.int .u64 0,.int .u64 0]) 302) λL F=>aB F (Am ax 0) 8 A λF=>aB F (Am L 0) 8 d λF=>∃o,aD=mB o/\∃C:ξ,F.cell o=mB C/\Lr F 8 (Am L 0) λay=>Lr F 8 (Am ax 0) λaz=>Fn C λaV M N=>aj prog aV (M++([(Value.agg ay),(Value.agg az)]).toArray++N) F λv F=>v=(Value.tuple #[])/\Lr F 8 (Am ax 0) λaA=>Lr F 8 (Am L 0) λD=>aB F (Am e 0) 8 aA λF=>F.row (Am L 0) D/\aB F (Am f 0) 8 D λF=>Lr F 8 (Am e 0) λt=>Lr F 8 (Am f 0) λu=>R (.tuple #[.agg t,.agg u,.bool nZ]) F) (Lr F 8 (Am e 0) λaC=>Lr F 8 (Am f 0) λE=>aB F (Am e 0) 8 aC λF=>F.row (Am f 0) E/\aB F (Am f 0) 8 E λF=>Lr F 8 (Am e 0) λw=>Lr F 8 (Am f 0) λx=>R (.tuple #[.agg w,.agg x,.bool nZ]) F))))
theorem qcP {a:Int} {b:Θ} {c:Θ} {d:Θ} (h:Pf a b c d R F):ν 236 #[(vi a),.pointer b,.pointer c,.pointer d] F R:=Rx.Λ (.qa8 (.qa8 (.T (.qa8 (.qa8 (.qa8 (.qa8 (.T (.qa8 (.qa8 (.qa8 (.J nS [] .N (.J nS [] .N .N))))) .N))))) .N))) h
def Pg (d:Θ) (a:Int) (R:VR) (F:PH):Prop:=∃b,d=mB b/\0<=(i64.wrap (Int.tdiv a 64))/\(i64.wrap (Int.tdiv a 64))<8/\∃c,F.cell (od b (pc (i64.wrap (Int.tdiv a 64))*1))=mB (.int .u64 c)/\0<=(tK a 64)/\0<=(i64.wrap (Int.tdiv a 64))/\(i64.wrap (Int.tdiv a 64))<8/\rj F (od b (pc (i64.wrap (Int.tdiv a 64))*1)) (.int .u64 (u64.wrap ((BitVec.ofInt (u64).bits c ||| BitVec.ofInt (u64).bits (u64.wrap (1*2 ^ (min (pc (tK a 64)) (u64).bits)))).toNat))) λF=>R (.tuple #[]) F
theorem qcQ {a:Θ} {b:Int} (h:Pg a b R F):ν 237 #[.pointer a,(vi b)] F R:=Rx.Λ .N h
def pU (c:Int) (i j k:Θ) (d:Bool) (R:VR) (F:PH):Prop:=Bb (d) (Cu 237 #[.pointer j,(vi c)] F λF=>∃b,i=mB b/\Lq F b λe=>∃a,e=mB a/\Ls F (od a 17) λf=>Ix f c λg=>Lr F 8 (od g (pc c*8)) λh=>Cu 235 #[.pointer k,.agg h] F λF=>R (.tuple #[]) F) (R (.tuple #[]) F)
def Ph (b:Int) (t u v j k:Θ) (R:VR) (F:PH):Prop:=∃g,t=mB g/\Lx F g λi=>∃h,u=mB h/\Li F h λf=>0<=f/\f<(i.size:Int)/\∃(hx:pc f<i.size) (c:Int),c=((i[pc f]'hx).toNat:Int)/\∃a,v=mB a/\Lq F a λl=>∃d,l=mB d/\Ls F d λm=>Ix m b λn=>Li F (od (od n (pc b*5)) 1) λo=>Bc (o<=(i64.wrap c)) (Lq F a λp=>∃e,p=mB e/\Ls F e λq=>Ix q b λr=>Li F (od (od r (pc b*5)) 2) λs=>pU b (mB a) j k (decide ((i64.wrap c)<=s)) R F) (pU b (mB a) j k nS R F)
theorem qcR {a:Int} {b:Θ} {c:Θ} {d:Θ} {e:Θ} {f:Θ} (h:Ph a b c d e f R F):ν 238 #[(vi a),.pointer b,.pointer c,.pointer d,.pointer e,.pointer f] F R:=Rx.Λ (.qa8 (.J nS [(3,.ptr),(33,.bool)] .N .N)) h
def DZ (R:VR) (F:PH):Prop:=R (.bool nS) F
def D0 (f:Ω) (e:Θ) (g:Nat) (R:VR) (a:Int) (F:PH):Prop:=Bc (a<8) (∃b,e=mB b/\0<=a/\a<8/\Lk F .u64 (od b (pc a*1)) λc=>0<=a/\a<8/\Lk F .u64 (od (Am g 0) (pc a*1)) λd=>Bc ((u64.wrap ((BitVec.ofInt (u64).bits c &&& BitVec.ofInt (u64).bits d).toNat))≠0) (R (.bool nZ) F) (f (i64.wrap (a+1)) F)) (DZ R F)
def Pj (a:Θ) (b:Γ) (R:VR) (F:PH):Prop:=Nb F (mX b 302) λd F=>Lp 0 F λN c F=>D0 N a d R c F
theorem qd4 {a:Θ} {b:Γ} (h:Pj a b R F):ν 239 #[.pointer a,.agg b] F R:=Rx.Λ (.qa8 (.J nS [] (.qa8 (.L [(6,.int .i64)] .N)) .N)) h
abbrev cT (n:Nat):Value:=.int .u64 (n:Int)
def sS (P:Nat->Bool):Γ:= #[cT (wd P 0),cT (wd P 1),cT (wd P 2),cT (wd P 3),cT (wd P 4),cT (wd P 5),cT (wd P 6),cT (wd P 7)]
def noP:Nat->Bool:=λ_=>nS
theorem dD:sS noP= #[.int .u64 0,.int .u64 0,.int .u64 0,.int .u64 0,.int .u64 0,.int .u64 0,.int .u64 0,.int .u64 0]:=by unfold sS noP;simp only [wC];rfl
theorem Jj (P:Nat->Bool):(sS P).size=8:=rfl
theorem eS (P:Nat->Bool) {k:Nat} (h:k<8):(sS P)[k]? =mB (cT (wd P k)):=by
 have:k=0\/k=1\/k=2\/k=3\/k=4\/k=5\/k=6\/k=7:=by omega
 rcases this with rfl|rfl|rfl|rfl|rfl|rfl|rfl|rfl<;>rfl
theorem fM (P:Nat->Bool):∀v∈(sS P).toList,ak v:=by intro v g;simp only [sS,tQ,Ws,or_false] at g;rcases g with rfl|rfl|rfl|rfl|rfl|rfl|rfl|rfl<;>exact jg
def tS (P Q:Nat->Bool) (k:Nat):Ξ:=(List.range 8).map λj=>if j<k then cT (wd Q j) else cT (wd P j)
theorem FQ (P Q:Nat->Bool):tS P Q 0=(sS P).toList:=rfl
theorem Jk (P Q:Nat->Bool):tS P Q 8=(sS Q).toList:=rfl
theorem Jl (P Q:Nat->Bool) {k:Nat} (g:k<8):(tS P Q k).set k (cT (wd Q k))=tS P Q (k+1):=by
 have:k=0\/k=1\/k=2\/k=3\/k=4\/k=5\/k=6\/k=7:=by omega
 rcases this with rfl|rfl|rfl|rfl|rfl|rfl|rfl|rfl<;>rfl
theorem Jm (P Q:Nat->Bool) {k:Nat} (g:k<8):(tS P Q k)[k]? =mB (cT (wd P k)):=by
 have:k=0\/k=1\/k=2\/k=3\/k=4\/k=5\/k=6\/k=7:=by omega
 rcases this with rfl|rfl|rfl|rfl|rfl|rfl|rfl|rfl<;>rfl
theorem cx (b o k:Nat):(pd b o nC).add k=⟨b,o+k,nC⟩:=by
 by_cases h:k=0
 ·subst h;rfl
 ·simp [od,h]
def jZ (F:PH) (b:Nat) (e:TypeId) (pre:Ξ) (P:Nat->Bool) (post:Ξ):Prop:=F b=mB (mX (pre++(sS P).toList++post).toArray e)
theorem jZ.row {F:PH} {b:Nat} {e:TypeId} {pre post:Ξ} {P:Nat->Bool} (h:jZ F b e pre P post):F.row ⟨b,pre.length,nC⟩ (sS P):=by intro i hi;have g:i<8:=hi;rw [cx,av h];rw [List.getElem?_toArray,yb,Vm (by omega),YO,z8 (by exact g)];simp
theorem jZ.own {F:PH} {b:Nat} {e:TypeId} {P:Nat->Bool}:jZ F b e [] P []↔F b=mB (mX (sS P) e):=by unfold jZ;simp
section
variable {F:PH}
theorem uv {b:Nat} {e:TypeId} {pre post:Ξ} {P Q:Nat->Bool} (h:jZ F b e pre P post):
  ν 235 #[.pointer (mB ⟨b,pre.length,nC⟩),.agg (sS Q)] F λr g=>r=.tuple #[]/\jZ g b e pre (λi=>P i || Q i) post/\dh (λx=>x=b) F g:=by
 refine qcO ?_;unfold Pe;intro w B;refine tP ?_;have U:∃o,F b=mB o:=⟨_,h⟩;have I:=ae (mX (sS Q) 302) B;have q3:=aq F w (mX (sS Q) 302);have K:(F.set w (mX (sS Q) 302)) b=mB (mX (pre++tS P (λi=>P i || Q i) 0++post).toArray e):=by rw [FQ];exact I _ _ h
 have G:b≠w:=aI B h;generalize F.set w (mX (sS Q) 302)=W at*;refine ⟨λm i g=>∃k:Nat,i=k/\k<=8/\m=8 - k/\g w=mB (mX (sS Q) 302)/\g b=mB (mX (pre++tS P (λi=>P i || Q i) k++post).toArray e)/\dh (λx=>x=b) F g,8,⟨0,rfl,by omega,rfl,q3,K,dh.of_le I⟩,?_⟩;rintro _ _ J ⟨k,rfl,X,rfl,q4,C,A⟩;unfold DY;refine ⟨λO=> ?_,λM=> ?_⟩
 ·have D:k<8:=by omega
  have H:(tS P (λi=>P i || Q i) k).length=8:=by simp [tS]
  have L:(pre++tS P (λi=>P i || Q i) k++post).toArray[pre.length+k]? =mB (cT (wd P k)):=by rw [List.getElem?_toArray,yb,Vm (by omega),YO,z8 (by omega)];exact Jm P _ D
  have V:pc (k:Int)*1=k:=by rw [N4,xZ]
  rw [V];have N:J.cell ((pd b pre.length nC).add k)=mB (cT (wd P k)):=by rw [cx,av C];exact L
  have E:J.cell ((pd w 0 nC).add k)=mB (cT (wd Q k)):=by rw [cx,yp,av q4];exact eS Q D
  refine ⟨_,rfl,by omega,by omega,_,N,by omega,by omega,_,E,by omega,by omega,?_⟩;refine sq (b:=b) (o:=pre.length+k) (cx b pre.length k) C (by simp [H];omega) ?_;rw [J1 (oK P k) (oK Q k),<- qdZ];refine ⟨8 - (k+1),by omega,k+1,ff (by omega),D,rfl,?_,?_,A.trans (dh.set _ (.inl rfl))⟩
  ·rw [aw _ _ G.symm];exact q4
  ·rw [aq];congr 2;rw [List.setIfInBounds_toArray];congr 1;rw [yb,List.set_append_right _ _ (by omega),YO,List.set_append_left _ _ (by omega),yb];congr 2;exact Jl P (λi=>P i || Q i) D
 ·obtain rfl:k=8:=by omega
  rw [Jk] at C;exact ⟨rfl,C,A⟩
theorem qh0 {b:Nat} {e:TypeId} {pre post:Ξ} {P Q:Nat->Bool} (h:jZ F b e pre P post):
  ν 239 #[.pointer (mB ⟨b,pre.length,nC⟩),.agg (sS Q)] F λr H=>(∃t:Bool,r=.bool t/\(t=nZ↔∃i,i<512/\P i=nZ/\Q i=nZ))/\F.le H:=by
 refine qd4 ?_;unfold Pj;intro C G;refine tP ?_;have I:=ae (mX (sS Q) 302) G;have q3:=aq F C (mX (sS Q) 302);have N:jZ (F.set C (mX (sS Q) 302)) b e pre P post:=I _ _ h;generalize F.set C (mX (sS Q) 302)=J at*;refine ⟨λm i H=>∃k:Nat,i=k/\k<=8/\m=8 - k/\H=J/\∀i,i<64*k->¬(P i=nZ/\Q i=nZ),8,⟨0,rfl,by omega,rfl,rfl,λi hi=>by omega⟩,?_⟩;rintro _ _ F4 ⟨k,rfl,hk,rfl,U,g⟩;obtain rfl:=U.symm;unfold D0;refine ⟨λX=> ?_,λO=> ?_⟩
 ·have A:k<8:=by omega
  have Z:pc (k:Int)*1=k:=by rw [N4,xZ]
  rw [Z];have V:J.cell ((pd b pre.length nC).add k)=mB (cT (wd P k)):=by have:=N.row k A;rw [this];have e:=eS P A;rw [Wh (by exact A)] at e;exact e
  have E:J.cell ((pd C 0 nC).add k)=mB (cT (wd Q k)):=by rw [cx,yp,av q3];exact eS Q A
  refine ⟨_,rfl,by omega,by omega,_,V,by omega,by omega,_,E,?_⟩;dsimp only;rw [wD (oK P k) (oK Q k),<- SL];refine ⟨λY=>⟨⟨nZ,rfl,?_⟩,I⟩,λhe=>⟨8 - (k+1),by omega,k+1,ff (by omega),A,rfl,rfl,λi hi=> ?_⟩⟩
  ·refine ⟨λ_=> ?_,λ_=>rfl⟩;have D:¬wd (λi=>P i && Q i) k=0:=by omega
   rw [iw] at D;have:∃j,¬(j<64->(P (64*k+j) && Q (64*k+j))=nS):=Classical.not_forall.1 D;obtain ⟨j,K⟩:=this;have L:j<64:=Classical.byContradiction λh=>K λM=>absurd M h;have B:¬(P (64*k+j) && Q (64*k+j))=nS:=λh=>K λ_=>h;simp at B;exact ⟨64*k+j,by omega,B⟩
  ·by_cases w:i<64*k
   ·exact g i w
   ·have D:wd (λi=>P i && Q i) k=0:=by omega
    have:=iw.1 D (i - 64*k) (by omega);rw [show 64*k+(i - 64*k)=i by omega] at this;rintro ⟨a,c⟩;rw [a,c] at this;cases this
 ·obtain rfl:k=8:=by omega
  unfold DZ;exact ⟨⟨nS,rfl,λh=>(by cases h),λ⟨i,hi,W⟩=>absurd W (g i (by omega))⟩,I⟩
theorem FR {b:Nat} {P:Nat->Bool} {i:Nat} (hi:i<512) (h:F b=mB (mX (sS P) 302)):
  ν 237 #[pa b,vi i] F λr G=>r=.tuple #[]/\G=F.set b (mX (sS λj=>P j || decide (j=i)) 302):=by
 refine qcQ ?_;unfold Pg;have M:i64.wrap (Int.tdiv (i:Int) 64)=((i / 64:Nat):Int):=by rw [show Int.tdiv (i:Int) 64=((i / 64:Nat):Int) from rfl,aL (by omega)]
 have I:tK (i:Int) 64=((i % 64:Nat):Int):=rfl;rw [M,I];have K:pc ((i / 64:Nat):Int)*1=i / 64:=by rw [N4,xZ]
 rw [K];have A:i / 64<8:=by omega
 have H:F.cell ((pd b 0 nC).add (i / 64))=mB (cT (wd P (i / 64))):=by rw [cx,yp,av h];exact eS P A
 refine ⟨_,rfl,by omega,by omega,_,H,by omega,by omega,by omega,?_⟩;refine sq (b:=b) (o:=i / 64) (by rw [cx,yp]) h (by rw [Jj];exact A) ⟨rfl,?_⟩;have B:2 ^ (i % 64)<18446744073709551616:=by have:2 ^ (i % 64)<2 ^ 64:=Nat.pow_lt_pow_right (by omega) (by omega);exact this
 have L:u64.wrap ((1:Int)*2 ^ (min (pc ((i % 64:Nat):Int)) (u64).bits))=((2 ^ (i % 64):Nat):Int):=by
  have O:min (pc ((i % 64:Nat):Int)) (u64).bits=i % 64:=by rw [N4];show min (i % 64) 64=i % 64;omega
  rw [O];have:(1:Int)*2 ^ (i % 64)=((2 ^ (i % 64):Nat):Int):=by simp
  rw [this];exact mE (Int.natCast_nonneg _) (Int.ofNat_lt.2 B)
 rw [L,J1 (oK P _) B];congr 2;have N:wd P (i / 64) ||| 2 ^ (i % 64)=wd (λj=>P j || decide (j=i)) (i / 64):=by refine uL (Nat.or_lt_two_pow (oK P _) B) λj D=> ?_;rw [Nat.testBit_or,iv P _ D,Zk];congr 1;rw [wR];simp;omega
 rw [N];have J:∀k,k≠i / 64->k<8->wd P k=wd (λj=>P j || decide (j=i)) k:=λk U _=>J0 λj D=>by show P (64*k+j)=(P (64*k+j) || decide (64*k+j=i));rw [show decide (64*k+j=i)=nS by simp;omega,YC]
 apply Array.ext';apply Wp;intro k;rw [Array.toList_setIfInBounds,Yt];by_cases w:k<8
 ·have E:∀(Q:Nat->Bool),(sS Q).toList[k]? =mB (cT (wd Q k)):=λQ=>by rw [YR];exact eS Q w
  rw [E,E];by_cases g:i / 64=k
  ·rw [Χ g,Χ (by exact A),g]
  ·rw [Υ g,J k (λe=>g e.symm) w]
 ·have C:∀(Q:Nat->Bool),(sS Q).toList[k]? =nC:=λQ=>VP (by show 8<=k;omega);rw [C,C,Υ (by omega)]
def Tab (F:PH):Prop:=∀k v,y9[k]? =mB v->F.cell ⟨0,k,nC⟩=mB (.int .u8 ((v:Nat):Int))
theorem Tab.le {F G:PH} (h:Tab F) (r:F.le G):Tab G:=λk v g=>aK r (h k v g)
theorem MF (C:Tab F) {x t:Nat} (w:x<18446744073709551616) (h:Low x t):ν 252 #[.int .u64 x] F λr B=>r=vi t/\B=F:=by
 refine qc8 ?_;unfold O3;have A:=h.pos;refine ⟨λH=>absurd H (by omega),λ_=> ?_⟩;have G:t<64:=by
  rcases Nat.lt_or_ge t 64 with g|g
  ·exact g
  ·obtain ⟨m,rfl⟩:=h;have:2 ^ 64<=2 ^ t:=Wi (by omega) g;omega
 have I:u64.wrap (0 - (x:Int))=((2 ^ 64 - x:Nat):Int):=by
  unfold IntKind.wrap;simp only [IntKind.bits,IntKind.signed];simp only [WN,VQ,if_false];have:(2:Nat) ^ 64=18446744073709551616:=by decide
  omega
 have K:2 ^ 64 - x<18446744073709551616:=by omega
 rw [I,wD w K,h.neg w];have E:=qd0 t G;have J:u64.wrap (((2 ^ t:Nat):Int)*285870213051353865)=((2 ^ t*285870213051353865 % 18446744073709551616:Nat):Int):=by
  unfold IntKind.wrap;simp only [IntKind.bits,IntKind.signed];simp only [WN,VQ,if_false];have:((2:Nat) ^ 64:Nat)=18446744073709551616:=by decide
  omega
 rw [J];generalize L:2 ^ t*285870213051353865 % 18446744073709551616=y at*;have D:Int.fdiv ((y:Nat):Int) (2 ^ (min (pc (58:Int)) (u64).bits))=((y / 288230376151711744:Nat):Int):=by
  have:(2:Int) ^ (min (pc (58:Int)) (u64).bits)=288230376151711744:=by decide
  rw [this,Zd _ (by decide)];omega
 rw [D,N4,xZ,cx,yp];refine ⟨by omega,by omega,_,C _ _ E.2,?_,rfl⟩;rw [WW (by omega)]
theorem uw {a:Addr} {P:Nat->Bool} {k:FuncId} {cap:Γ} {Inv:Nat->Ψ} (hk:aG prog k=nZ) (_:a.spot=nC)
  (Y:∀n F,Inv n F->Tab F/\F.row a (sS P)) (h0:∀i F,i<512->P i=nS->Inv i F->Inv (i+1) F)
  (X:∀i F,i<512->P i=nZ->Inv i F->aj prog k (#[vi i]++cap) F λr D=>r=.tuple #[]/\Inv (i+1) D) (hF:Inv 0 F):
  ν 233 #[.pointer (mB a),.func (.func k) #[] cap] F λr D=>r=.tuple #[]/\Inv 512 D:=by
 refine qcM ?_;unfold Pc;refine ⟨λm i D=>∃w:Nat,i=w/\w<=8/\m=8 - w/\Inv (64*w) D,8,⟨0,rfl,by omega,rfl,hF⟩,?_⟩;rintro _ _ F1 ⟨w,rfl,hw,rfl,G⟩;unfold DX;refine ⟨λa1=> ?_,λa0=> ?_⟩
 ·have K:w<8:=by omega
  have ek:pc (w:Int)*1=w:=by rw [N4,xZ]
  rw [ek];have hc:F1.cell (a.add w)=mB (cT (wd P w)):=by rw [(Y _ _ G).2 w K];have e:=eS P K;rw [Wh (by exact K)] at e;exact e
  refine ⟨a,rfl,by omega,by omega,_,hc,?_⟩;refine ⟨λm x D=>∃j y:Nat,x=y/\j<=64/\m=64 - j/\y<18446744073709551616/\(∀i,y.testBit i=((wd P w).testBit i && decide (j<=i)))/\Inv (64*w+j) D,64,⟨0,wd P w,rfl,by omega,rfl,oK P w,λi=>by simp,G⟩,?_⟩;rintro _ _ F2 ⟨j,y,rfl,hj,rfl,O,g,I⟩;unfold DW;have skip:∀(t:Nat),j<=t->t<=64->(∀i,j<=i->i<t->P (64*w+i)=nS)->Inv (64*w+t) F2:=by
   intro t;induction t with
   |zero=>
    intro h _ _;obtain rfl:j=0:=by omega
    exact I
   |succ t ih=>
    intro h W V;by_cases e:j=t+1
    ·subst e;exact I
    ·have:=ih (by omega) (by omega) λi a c=>V i a (by omega);exact h0 (64*w+t) F2 (by omega) (V t (by omega) (by omega)) this
  refine ⟨λa2=> ?_,λhe=> ?_⟩
  ·
   have U:∃t,y.testBit t=nZ:=Classical.byContradiction λhn=>by
    have:y=0:=Nat.eq_of_testBit_eq λi=>by rw [Nat.zero_testBit];exact Yv.2 λh=>hn ⟨i,h⟩
    omega
   obtain ⟨t,E,B⟩:∃t,y.testBit t=nZ/\∀i,i<t->y.testBit i=nS:=by
    obtain ⟨t,E⟩:=U;have key:∀n t,t<=n->y.testBit t=nZ->∃t,y.testBit t=nZ/\∀i,i<t->y.testBit i=nS:=by
     intro n;induction n with
     |zero=>
      intro t h E;obtain rfl:t=0:=by omega
      exact ⟨0,E,λi hi=>by omega⟩
     |succ n ih=>
      intro t h E;by_cases Z:∃i,i<t/\y.testBit i=nZ
      ·obtain ⟨i,X,W⟩:=Z;exact ih i (by omega) W
      ·exact ⟨t,E,λi hi=>Yv.2 λh=>Z ⟨i,hi,h⟩⟩
    exact key t t (tI _) E
   have C:Low y t:=Low.of E B;have A:=g t;rw [E] at A;simp at A;have J:t<64:=by
    rcases Nat.lt_or_ge t 64 with h|h
    ·exact h
    ·rw [Nat.testBit_lt_two_pow (Nat.lt_of_lt_of_le (oK P w) (by have:2 ^ 64<=2 ^ t:=Wi (by omega) h;exact this))] at A;simp at A
   have Q:P (64*w+t)=nZ:=by rw [<- iv P w J];exact A.1
   have hz:∀i,j<=i->i<t->P (64*w+i)=nS:=λi a c=>by have:=g i;rw [B i c,iv P w (by omega)] at this;simp only [ε a,Bool.and_true] at this;exact this.symm
   have H:=skip t A.2 (by omega) hz;refine (MF (Y _ _ H).1 O C).mono ?_;rintro _ F3 ⟨rfl,e3⟩;obtain rfl:=e3.symm;have ei:i64.wrap (i64.wrap ((64:Int)*(w:Int))+(t:Int))=((64*w+t:Nat):Int):=by rw [aL (x:=(64:Int)*w) (by omega) (by omega),aL (by omega)];omega
   refine ⟨_,rfl,k,#[],cap,rfl,hk,?_⟩;rw [ei];have:=X (64*w+t) F2 (by omega) Q H;refine aj.mono (R:=λr D=>r=.tuple #[]/\Inv (64*w+t+1) D) (by simpa using this) ?_;rintro _ F4 ⟨rfl,M⟩;refine ⟨rfl,64 - (t+1),by omega,t+1,y &&& (y - 1),?_,by omega,rfl,Nat.lt_of_le_of_lt Nat.and_le_left O,λi=> ?_,M⟩
   ·have e:u64.wrap ((y:Int) - 1)=((y - 1:Nat):Int):=by have:=C.pos;rw [mE (by omega) (by omega)];omega
    rw [e,wD O (by omega)]
   ·rw [C.clear,g i];by_cases N:i<t
    ·have:=B i N;rw [g i] at this;rw [this];simp;omega
    ·by_cases e:i=t
     ·subst e;simp
     ·have:j<=i:=by omega
      simp [this,e];omega
  ·have L:y=0:=by omega
   subst L;unfold DU;refine ⟨8 - (w+1),by omega,w+1,ff (by omega),K,rfl,?_⟩;rw [show 64*(w+1)=64*w+64 by omega];refine skip 64 hj (tI _) λi a c=> ?_;have:=g i;rw [Nat.zero_testBit,iv P w c] at this;simp only [ε a,Bool.and_true] at this;exact this.symm
 ·obtain rfl:w=8:=by omega
  exact ⟨rfl,G⟩
end
end
open Go.ChangeShapes Go.WideShapes Go.ChangeAt Go.RowKit
set_option maxRecDepth 100000
abbrev rU:List (String×DataW Unit):=[("math/bits.deBruijn64tab",Rows.laid_math_bits_deBruijn64tab)]
theorem nP:prog.cellsOf 5=1:=by kernel_rfl
theorem qd5:ownKnob prog.godebug=nC:=by kernel_rfl
theorem MH:laidOutB prog=nZ:=by kernel_rfl
theorem R1:(Rows.laid_math_bits_deBruijn64tab:DataW Unit)=.agg (y9.map λ(n:Nat)=> .lit (.int .u8 (n:Int))):=by kernel_rfl
theorem qh1 {W:World} (h:laidMetH prog rU W):Tab (hF W):=by
 intro r v hv;have hr:r<64:=(N6.1 hv).1;rw [MakeChecks.laidMetH_plain _ _ _ (by kernel_rfl)] at h;obtain ⟨ps,⟨g,t,cs,fuel,p,q,hg,ht,hw,hd,_,_⟩,_,_⟩:=h;obtain rfl:=yV ((show prog.globalNamed "math/bits.deBruijn64tab"=mB 0 by kernel_rfl).symm.trans hg);obtain rfl:=yV ((show (prog.globals[0]?).map (·.type)=mB 347 by kernel_rfl).symm.trans ht);obtain ⟨xs,m,_,ex,_,hl,hel⟩:=DataW.trod_array underlying347 hd;have hE:=hel r hr;rw [nP,xZ,N5 (by omega)] at hE;obtain ⟨z,e1,e2,_⟩:=DataW.trod_int underlying5 hE;rw [R1] at ex;have e3:(xs.map (·.1))=y9.map λ(n:Nat)=> .lit (.int .u8 (n:Int)):=(DataW.agg.inj (Prod.mk.inj ex).1).symm;have e4:(xs.map (·.1))[r]? =(y9.map λ(n:Nat)=>(DataW.lit (.int .u8 (n:Int)):DataW Unit))[r]? :=by rw [e3]
 rw [yr,yr,N5 (by omega:r<xs.length),hv,e2] at e4;have hz:z=(v:Int):=by simp only [VF,Option.some.injEq,DataW.lit.injEq,Lit.int.injEq,true_and] at e4;exact e4
 refine Ep ?_;rw [World.var?_cell hg hw r,<- hz];have:cs.toList[r]? =mB (.int .u8 z):=by
  have h0:((cs.toList.drop r).take 1)[0]? =mB (.int .u8 z):=by rw [e1];rfl
  simpa using h0
 simpa using this
theorem Jn (os:Os) (args:Γ):laidMetH prog rU ((World.laidAll prog os rU).forCall (λ_ _=>0) ⟨#[],args,[]⟩).memory:=by rw [MakeChecks.laidMetH_plain _ _ _ (by kernel_rfl)];exact laidMet_laidAll _ (by kernel_rfl) (by kernel_rfl)
open Go.Deep
section
section
variable {H:Type} {enc:TypeId×ξ->H} {P:Program} {W:World}
theorem Jo {t e fuel:Nat} {k:IntKind} {c:ξ} {x:DataW H×List MemPlace} (E:P.underlying t=mB (.slice e)) (Q:P.underlying e=mB (.int k)) (N:P.cellsOf e=1)
  (h:DataW.trod enc P W 0 (λ_=>nZ) nZ fuel t [c]=mB x) (B:(x.1.weights P t).all (·<=reachBytes)=nZ):
  ∃(sl:Sl) (G:Φ),c=nV sl/\RdS (hF W) sl 1 (G.map (Value.int k))/\(∀z∈G,(Lit.int k z).wf=nZ)/\sl.len*P.bytesOf e<=reachBytes/\sl.cap*P.bytesOf e<=reachBytes:=by
 rcases open_slice1 E N h with ⟨g,rfl⟩|⟨a,len,cap,m,n,V,D,U,g,_,K,R,r,rfl,A⟩
 ·cases g;exact ⟨pk,[],rfl,RdS.nil _ _,by simp,by simp [pk],by simp [pk]⟩
 ·cases g;simp only [if_true] at r;subst r;have w:∀i,i<m->∃z,V i=.int k z/\(Lit.int k z).wf=nZ:=λi hi=>by obtain ⟨z,M,_,L⟩:=DataW.trod_int Q (A i hi).2;exact ⟨z,by simpa using M,L⟩
  obtain ⟨Z,J⟩:=choose_lt w;have I:m*P.bytesOf e<=reachBytes:=by simp only [DataW.weights,E,Xj,Vv,δ,vb,Wq] at B;rw [show len+(m - len)=m by omega] at B;exact B.1
  refine ⟨⟨mB a,len,m⟩,(List.range len).map Z,rfl,⟨by simp,K,λO=> ?_⟩,?_,Wl (W1 _ K) I,I⟩
  ·have C:=World.cell?_spot (A 0 (by simp only at O;omega)).1;obtain ⟨b,o,F⟩:=a;simp only [od] at C;subst C;refine ⟨b,o,rfl,λi hi=> ?_⟩;simp at hi;have:=Ep (A i (by omega)).1;rw [(J i (by omega)).1] at this;rw [aJ] at this;simpa using this
  ·intro z w;simp only [xR,Wy] at w;obtain ⟨i,hi,rfl⟩:=w;exact (J i (by omega)).2
end
theorem R3 {z:Int} (h:(Lit.int .u8 z).wf=nZ):0<=z/\z<=255:=bounds_u8 h
theorem MI {F:PH} {sl:Sl} {g:Φ} (h:RdS F sl 1 (g.map (Value.int .u8))) (w:sl.len*prog.bytesOf 5<=reachBytes):g.length<=9000000000000000:=by
 have:=h.len;rw [vb] at this;have e:prog.bytesOf 5=1:=by kernel_rfl
 have r:reachBytes=140737488351232:=rfl;rw [e,r] at w;omega
class Mem (α:Type) where
 n:Nat
 rep:PH->α->Γ->Prop
 len:∀{F:PH} {x:α} {c:Γ},rep F x c->c.size=n
 le:∀{F G:PH} {x:α} {c:Γ},F.le G->rep F x c->rep G x c
 st:∀{F:PH} {x:α} {c:Γ},rep F x c->∀v∈c.toList,ak v
def uX (vs:List Γ):Ξ:=vs.flatMap Array.toList
theorem cE (c:Γ) (vs:List Γ):uX (c::vs)=c.toList++uX vs:=rfl
theorem be (a b:List Γ):uX (a++b)=uX a++uX b:=by simp [uX]
theorem cG (c:Γ):uX [c]=c.toList:=by simp [uX]
inductive bT {α:Type} [Mem α] (F:PH):List α->List Γ->Prop
 |nil:bT F [] []
 |cons {x:α} {c:Γ} {l:List α} {vs:List Γ}:Mem.rep F x c->bT F l vs->bT F (x::l) (c::vs)
namespace bT
section
variable {α:Type} [Mem α] {F G:PH} {l m:List α} {vs ws:List Γ}
theorem le (g:F.le G) (h:bT F l vs):bT G l vs:=by
 induction h with
 |nil=>exact .nil
 |cons h _ ih=>exact .cons (Mem.le g h) ih
theorem length (h:bT F l vs):vs.length=l.length:=by
 induction h with
 |nil=>rfl
 |cons _ _ ih=>simp [ih]
theorem cat_len (h:bT F l vs):(uX vs).length=l.length*Mem.n α:=by
 induction h with
 |nil=>simp [uX]
 |cons h _ ih=>rw [cE,tT,ih,zA,Mem.len h,wo,Wr,XM]
theorem append (h:bT F l vs) (k:bT F m ws):bT F (l++m) (vs++ws):=by
 induction h with
 |nil=>exact k
 |cons h _ ih=>exact .cons h ih
theorem st (h:bT F l vs):∀v∈uX vs,ak v:=by
 induction h with
 |nil=>intro v g;cases g
 |cons h _ ih=>
  intro v g;rw [cE,vl] at g;rcases g with g|g
  ·exact Mem.st h v g
  ·exact ih v g
theorem get (h:bT F l vs):∀{i:Nat} {x:α},l[i]? =mB x->∃c,vs[i]? =mB c/\Mem.rep F x c/\((uX vs).drop (i*Mem.n α)).take (Mem.n α)=c.toList:=by
 induction h with
 |nil=>intro i x r;simp at r
 | @cons y c l vs h C ih=>
  intro i x r;have g:=Mem.len h;cases i with
  |zero=>simp at r;subst r;refine ⟨c,rfl,h,?_⟩;rw [V9,Vz,cE,WJ (by simp [g]),yY (by simp [g])]
  |succ i=>simp at r;obtain ⟨d,B,w,A⟩:=ih r;refine ⟨d,by simpa using B,w,?_⟩;rw [cE,Wr,List.drop_append,Yq (by simp [g]),zr];rw [show i*Mem.n α+Mem.n α - c.toList.length=i*Mem.n α by simp [g]];exact A
theorem take (h:bT F l vs) (k:Nat):bT F (l.take k) (vs.take k):=by
 induction h generalizing k with
 |nil=>simp only [List.take_nil];exact .nil
 |cons h _ ih=>
  cases k with
  |zero=>exact .nil
  |succ k=>exact .cons h (ih k)
theorem drop (h:bT F l vs) (k:Nat):bT F (l.drop k) (vs.drop k):=by
 induction h generalizing k with
 |nil=>simp only [List.drop_nil];exact .nil
 |cons h g ih=>
  cases k with
  |zero=>exact .cons h g
  |succ k=>exact ih k
theorem cat_take (h:bT F l vs) (k:Nat):(uX vs).take (k*Mem.n α)=uX (vs.take k):=by
 induction h generalizing k with
 |nil=>simp [uX]
 |cons h _ ih=>
  cases k with
  |zero=>simp [uX]
  |succ k=>have g:=Mem.len h;rw [Ys,cE,cE,Wr,List.take_append,yY (by simp [g])];congr 1;rw [show k*Mem.n α+Mem.n α - (Array.toList _).length=k*Mem.n α by simp [g]];exact ih k
theorem cat_drop (h:bT F l vs) (k:Nat):(uX vs).drop (k*Mem.n α)=uX (vs.drop k):=by
 induction h generalizing k with
 |nil=>simp [uX]
 |cons h _ ih=>
  cases k with
  |zero=>simp [uX]
  |succ k=>have g:=Mem.len h;rw [Xo,cE,Wr,List.drop_append,Yq (by simp [g]),zr];rw [show k*Mem.n α+Mem.n α - (Array.toList _).length=k*Mem.n α by simp [g]];exact ih k
theorem set (h:bT F l vs) {i:Nat} {x:α} {c:Γ} (r:Mem.rep F x c):bT F (l.set i x) (vs.set i c):=by
 induction h generalizing i with
 |nil=>simp only [List.set_nil];exact .nil
 |cons h g ih=>
  cases i with
  |zero=>exact .cons r g
  |succ i=>exact .cons h ih
end
end bT
def RL {α:Type} [Mem α] (F:PH) (s:Sl) (l:List α):Prop:=∃vs,bT F l vs/\RdS F s (Mem.n α) (uX vs)
namespace RL
section
variable {α:Type} [Mem α] {F G:PH} {s:Sl} {l:List α}
theorem le (h:RL F s l) (g:F.le G):RL G s l:=by obtain ⟨vs,w,r⟩:=h;exact ⟨vs,w.le g,r.le g⟩
theorem nil (F:PH):RL F pk ([]:List α):=⟨[],.nil,RdS.nil F _⟩
theorem len (h:RL F s l) (w:0<Mem.n α:=by decide):s.len=l.length:=by obtain ⟨vs,r,g⟩:=h;have:=g.len;rw [r.cat_len] at this;exact (Nat.eq_of_mul_eq_mul_right w this).symm
theorem cap (h:RL F s l):s.len<=s.cap:=by obtain ⟨vs,r,g⟩:=h;exact g.cap
theorem get (h:RL F s l) (H:0<Mem.n α) {i:Nat} {x:α} (w:l[i]? =mB x):∃a c,s.qa5=mB a/\F.row (a.add (i*Mem.n α)) c/\Mem.rep F x c:=by
 obtain ⟨vs,C,r⟩:=h;obtain ⟨c,I,A,D⟩:=C.get w;have hi:i<l.length:=(N6.1 w).1;have g:=r.len;rw [C.cat_len] at g;have E:0<s.len:=by have:=Nat.eq_of_mul_eq_mul_right H g;omega
 obtain ⟨b,o,B,_⟩:=r.cells E;refine ⟨⟨b,o,nC⟩,c,B,r.row B _ c ?_,A⟩;rw [Mem.len A];exact D.symm
end
end RL
instance:Mem Int where
 n:=1
 rep _ x c:=c= #[vi x]
 len h:=by rw [h];rfl
 le _ h:=h
 st h:=by rw [h];simp [ak]
instance:Mem ο where
 n:=1
 rep _ x c:=c= #[.string x]
 len h:=by rw [h];rfl
 le _ h:=h
 st h:=by rw [h];simp [ak]
instance:Mem Br where
 n:=3
 rep _ x c:=c=aX x
 len h:=by rw [h];rfl
 le _ h:=h
 st h:=by rw [h];simp [ak]
instance:Mem Nd where
 n:=5
 rep _ x c:=c=x.arr
 len h:=by rw [h];rfl
 le _ h:=h
 st h:=by rw [h];simp [ak]
structure Sy where
 t:Bool
 i:Int
deriving DecidableEq
abbrev Sy.arr (x:Sy):Γ:= #[.bool x.t,vi x.i]
instance:Mem Sy where
 n:=2
 rep _ x c:=c=x.arr
 len h:=by rw [h];rfl
 le _ h:=h
 st h:=by rw [h];simp [ak]
structure Cn where
 k:Int
 a:Int
 b:Int
deriving DecidableEq
abbrev Cn.arr (x:Cn):Γ:= #[vi x.k,vi x.a,vi x.b]
instance:Mem Cn where
 n:=3
 rep _ x c:=c=x.arr
 len h:=by rw [h];rfl
 le _ h:=h
 st h:=by rw [h];simp [ak]
theorem RL.flat {α:Type} [Mem α] {f:α->Γ} (w:∀F x c,Mem.rep F x c↔c=f x) {F:PH} {s:Sl} {l:List α}:RL F s l↔RdS F s (Mem.n α) (l.flatMap λx=>(f x).toList):=by
 have key:∀(l:List α) (vs:List Γ),bT F l vs↔vs=l.map f:=by
  intro l;induction l with
  |nil=>intro vs;exact ⟨λh=>by cases h;rfl,λh=>by rw [h];exact .nil⟩
  |cons x l ih=>
   intro vs;constructor
   ·intro h;cases h with
    |cons r g=>rw [(w _ _ _).1 r,(ih _).1 g];rfl
   ·intro h;rw [h];exact .cons ((w _ _ _).2 rfl) ((ih _).2 rfl)
 have e:uX (l.map f)=l.flatMap λx=>(f x).toList:=by simp [uX,List.flatMap_map]
 constructor
 ·rintro ⟨vs,r,g⟩;rw [(key l vs).1 r,e] at g;exact g
 ·intro h;exact ⟨_,(key l _).2 rfl,by rw [e];exact h⟩
theorem RL.brs {F:PH} {s:Sl} {l:List Br}:RL F s l↔RdS F s 3 (aW l):=RL.flat (f:=aX) (λ_ _ _=>Iff.rfl)
theorem RL.nds {F:PH} {s:Sl} {l:List Nd}:RL F s l↔RdS F s 5 (dC l):=RL.flat (f:=Nd.arr) (λ_ _ _=>Iff.rfl)
theorem Pk {α:Type} (f:α->ξ) (l:List α):(l.flatMap λx=>(#[f x]:Γ).toList)=l.map f:=by
 induction l with
 |nil=>rfl
 |cons x l ih=>rw [VD,ih];rfl
theorem RL.ints {F:PH} {s:Sl} {l:Φ}:RL F s l↔RdS F s 1 (l.map vi):=by rw [RL.flat (f:=λx=> #[vi x]) (λ_ _ _=>Iff.rfl),Pk];rfl
theorem RL.strs {F:PH} {s:Sl} {l:List ο}:RL F s l↔RdS F s 1 (l.map Value.string):=by rw [RL.flat (f:=λx=> #[.string x]) (λ_ _ _=>Iff.rfl),Pk];rfl
theorem DV.mk {F:PH} {s:Sl} {d:wc} (h:RL F s d.1):DV F #[s.v,vi d.2] d:=⟨s,rfl,RL.brs.1 h⟩
structure Tk where
 name:ο
 cls:Int
 lit:ο
 pat:List Nd
 smp:ο
 cond:wc
structure Sco where
 o:Bool
 d:Int
 k:Int
 u:Int
 a:Int
deriving DecidableEq
structure Pr where
 name:ο
 left:Int
 right:List Sy
 cond:wc
 brk:Bool
 rank:Int
 lay:List Cn
 sco:Sco
structure Lv where
 ps:Φ
 assoc:Int
 cond:wc
structure Fi where
 k:Int
 par:Int
 pos:Int
 ch:Int
 left:Int
 tok:Int
 qa2:Φ
 cond:wc
structure Gr where
 qa4:List ο
 fam:wc
 qa2:List Tk
 qa1:List ο
 qa0:List Pr
 start:Int
 lvs:List Lv
 fils:List Fi
deriving instance DecidableEq for Tk,Pr,Lv,Fi,Gr
abbrev Tk.arr (x:Tk) (p n:Sl):Γ:= #[.string x.name,vi x.cls,.string x.lit,p.v,.string x.smp,n.v,vi x.cond.2]
abbrev Pr.arr (x:Pr) (r n l:Sl):Γ:= #[.string x.name,vi x.left,r.v,n.v,vi x.cond.2,.bool x.brk,vi x.rank,l.v,.bool x.sco.o,vi x.sco.d,vi x.sco.k,vi x.sco.u,vi x.sco.a]
abbrev Lv.arr (x:Lv) (p n:Sl):Γ:= #[p.v,vi x.assoc,n.v,vi x.cond.2]
abbrev Fi.arr (x:Fi) (t n:Sl):Γ:= #[vi x.k,vi x.par,vi x.pos,vi x.ch,vi x.left,vi x.tok,t.v,n.v,vi x.cond.2]
abbrev Gr.arr (g:Gr) (c n t s p l f:Sl):Γ:= #[c.v,n.v,vi g.fam.2,t.v,s.v,p.v,vi g.start,l.v,f.v]
instance:Mem Tk where
 n:=7
 rep F x c:=∃p n,c=x.arr p n/\RL F p x.pat/\RL F n x.cond.1
 len h:=by obtain ⟨p,n,rfl,_⟩:=h;rfl
 le hl h:=by obtain ⟨p,n,h1,h2,h3⟩:=h;exact ⟨p,n,h1,h2.le hl,h3.le hl⟩
 st h:=by obtain ⟨p,n,rfl,_⟩:=h;simp [ak,nV]
instance:Mem Pr where
 n:=13
 rep F x c:=∃r n l,c=x.arr r n l/\RL F r x.right/\RL F n x.cond.1/\RL F l x.lay
 len h:=by obtain ⟨r,n,l,rfl,_⟩:=h;rfl
 le hl h:=by obtain ⟨r,n,l,h1,h2,h3,h4⟩:=h;exact ⟨r,n,l,h1,h2.le hl,h3.le hl,h4.le hl⟩
 st h:=by obtain ⟨r,n,l,rfl,_⟩:=h;simp [ak,nV]
instance:Mem Lv where
 n:=4
 rep F x c:=∃p n,c=x.arr p n/\RL F p x.ps/\RL F n x.cond.1
 len h:=by obtain ⟨p,n,rfl,_⟩:=h;rfl
 le hl h:=by obtain ⟨p,n,h1,h2,h3⟩:=h;exact ⟨p,n,h1,h2.le hl,h3.le hl⟩
 st h:=by obtain ⟨p,n,rfl,_⟩:=h;simp [ak,nV]
instance:Mem Fi where
 n:=9
 rep F x c:=∃t n,c=x.arr t n/\RL F t x.qa2/\RL F n x.cond.1
 len h:=by obtain ⟨p,n,rfl,_⟩:=h;rfl
 le hl h:=by obtain ⟨p,n,h1,h2,h3⟩:=h;exact ⟨p,n,h1,h2.le hl,h3.le hl⟩
 st h:=by obtain ⟨p,n,rfl,_⟩:=h;simp [ak,nV]
structure GS (F:PH) (g:Gr) (c n t s p l f:Sl):Prop where
 c:RL F c g.qa4
 n:RL F n g.fam.1
 t:RL F t g.qa2
 s:RL F s g.qa1
 p:RL F p g.qa0
 l:RL F l g.lvs
 f:RL F f g.fils
theorem GS.le {F G:PH} {g:Gr} {c n t s p l f:Sl} (h:GS F g c n t s p l f) (r:F.le G):GS G g c n t s p l f:=
 ⟨h.c.le r,h.n.le r,h.t.le r,h.s.le r,h.p.le r,h.l.le r,h.f.le r⟩
def GV (F:PH) (v:Γ) (g:Gr):Prop:=∃c n t s p l f,v=g.arr c n t s p l f/\GS F g c n t s p l f
theorem GV.le {F G:PH} {v:Γ} {g:Gr} (h:GV F v g) (A:F.le G):GV G v g:=by obtain ⟨c,n,t,s,p,l,f,w,r⟩:=h;exact ⟨c,n,t,s,p,l,f,w,r.le A⟩
theorem GV.size {F:PH} {v:Γ} {g:Gr} (h:GV F v g):v.size=9:=by obtain ⟨c,n,t,s,p,l,f,rfl,_⟩:=h;rfl
theorem GV.st {F:PH} {v:Γ} {g:Gr} (h:GV F v g):∀x∈v.toList,ak x:=by obtain ⟨c,n,t,s,p,l,f,rfl,_⟩:=h;simp [ak,nV]
variable {R:VR} {F:PH}
set_option maxHeartbeats 4000000
def Pm (a:Sl) (b:ο) (R:VR) (F:PH):Prop:=Ci 154 #[nV a] F λe F=>Bc (e=0) (Nb F (mX #[(vi 0)] 3) λf F=>Cs 156 #[nV a,(vi (i64.wrap ((a.len:Int) - 1))),.string b,nV (Sb f 1)] F λc F=>vc 155 #[nV c,(vi (b.size:Int))] F λd F=>R (.bool d) F) (R (.bool nS) F)
theorem qd6 {a:Sl} {b:ο} (h:Pm a b R F):ν 121 #[nV a,.string b] F R:=Rx.Λ .N h
def D1 (a:Sl) (R:VR) (F:PH):Prop:=Bc ((a.len:Int)=0) (R (vi 40) F) (R (vi 0) F)
def D2 (f:Ω) (b c:Sl) (R:VR) (a:Int) (F:PH):Prop:=Bc (a<(i64.wrap ((b.len:Int) - 1))) (Ix c a λd=>Li F (od d (pc a*1)) λe=>Bc (e≠1) (R (vi 40) F) (f (i64.wrap (a+1)) F)) (D1 b R F)
def D3 (b a:Sl) (R:VR) (F:PH):Prop:=Lp 0 F λN c F=>D2 N b a R c F
def pV (c:Ω) (_ _:Sl) (a:Int) (_:VR) (F:PH):Prop:=c (i64.wrap (a+1)) F
def pW (j:Ω) (d a:Sl) (c e:Int) (R:VR) (F:PH):Prop:=Bc (2<=e) (Ix d c λf=>Li F (od (od f (pc c*5)) 4) λb=>Ix a b λg=>Li F (od g (pc b*1)) λh=>Ix a b λi=>rj F (od i (pc b*1)) (vi (i64.wrap (h+1))) λF=>pV j d a c R F) (pV j d a c R F)
def D4 (n:Ω) (c a:Sl) (R:VR) (b:Int) (F:PH):Prop:=Bc (b<(c.len:Int)) (vc 188 #[nV c,(vi b)] F λg F=>Bb ((!g)) (R (vi 40) F) (Ix c b λh=>Li F (od h (pc b*5)) λi=>ν 189 #[(vi i)] F λv F=>∃d,∃f,v=(.tuple #[(vi d),.bool f])/\Bc (1<=d) (Ix c b λj=>Li F (od (od j (pc b*5)) 3) λe=>Ix a e λk=>Li F (od k (pc e*1)) λl=>Ix a e λm=>rj F (od m (pc e*1)) (vi (i64.wrap (l+1))) λF=>pW n c a b d R F) (pW n c a b d R F))) (D3 c a R F)
def Po (a:Sl) (R:VR) (F:PH):Prop:=Bc ((512:Int)<(a.len:Int)) (R (vi 2) F) (aH prog (Instr.makeSlice 76 (vi (a.len:Int)) (vi (a.len:Int))) F λv F=>∃b,v=(nV b)/\Lp 0 F λN c F=>D4 N a b R c F)
theorem qd7 {a:Sl} (h:Po a R F):ν 154 #[nV a] F R:=Rx.Λ (.qa8 (.qa8 (.qa8 (.J nS [] (.qa8 (.L [(4,.int .i64)] (.qa8 (.J nS [] (.qa8 (.qa8 (.J nS [] .N .N))) .N)))) (.J nS [] (.qa8 (.L [(7,.int .i64)] .N)) .N))))) h
def D5 (R:VR) (F:PH):Prop:=R (.bool nS) F
def D6 (f:Ω) (b:Sl) (e:Int) (R:VR) (a:Int) (F:PH):Prop:=Bc (a<(b.len:Int)) (Ix b a λc=>Li F (od c (pc a*1)) λd=>Bc (d=e) (R (.bool nZ) F) (f (i64.wrap (a+1)) F)) (D5 R F)
def Pq (a:Sl) (b:Int) (R:VR) (F:PH):Prop:=Lp 0 F λN c F=>D6 N a b R c F
theorem qd8 {a:Sl} {b:Int} (h:Pq a b R F):ν 155 #[nV a,(vi b)] F R:=Rx.Λ (.qa8 (.J nS [] (.qa8 (.L [(5,.int .i64)] .N)) .N)) h
def D7 (a:Sl) (R:VR) (F:PH):Prop:=R (nV a) F
def D8 (h:Sl->Ω) (f:Sl) (g:ο) (i:Nat) (R:VR) (a:Sl) (e:Int) (F:PH):Prop:=Bc (e<(a.len:Int)) (Li F (Am i 3) λb=>Cs 156 #[nV f,(vi b),.string g,nV a] F λc F=>Cs 190 #[nV a,nV c] F λd F=>h d (a.len:Int) F) (D7 a R F)
def D9 (e:Sl) (f:ο) (b:Sl) (h:Nat) (R:VR) (F:PH):Prop:=(∃(g:Nat->Sl->Ω) (d:Nat),g d b (-1:Int) F/\∀d a c F,g d a c F-> D8 (Wf g d) e f h R a c F)
def Ea (a:Sl) (R:VR) (F:PH):Prop:=R (nV a) F
def pX (d:Sl->Ω) (_:ο) (_:Sl) (_:Nat) (b:Int) (a:Sl) (_:VR) (F:PH):Prop:=d a (i64.wrap (b+1)) F
def mj (j:Sl->Ω) (d:ο) (b:Sl) (k:Nat) (a:Sl) (c:Int) (e:Bool) (R:VR) (F:PH):Prop:=Bb (e) (Ix b c λf=>Li F (od f (pc c*1)) λg=>Nb F (mX #[(vi (i64.wrap (g+1)))] 3) λi F=>Ap 76 #[nV a,nV (Sb i 1)] F λh F=>pX j d b k c h R F) (pX j d b k c a R F)
def wi (p:Sl->Ω) (d:ο) (a:Sl) (i:Nat) (R:VR) (b:Sl) (c:Int) (F:PH):Prop:=Bc (c<(a.len:Int)) (Ix a c λj=>Li F (od j (pc c*1)) λk=>Bc (k<(d.size:Int)) (Ix a c λl=>Li F (od l (pc c*1)) λe=>0<=e/\e<(d.size:Int)/\∃(hx:pc e<d.size) (g:Int),g=((d[pc e]'hx).toNat:Int)/\Li F (Am i 1) λm=>Bc (m<=(i64.wrap g)) (Ix a c λn=>Li F (od n (pc c*1)) λf=>0<=f/\f<(d.size:Int)/\∃(hx:pc f<d.size) (h:Int),h=((d[pc f]'hx).toNat:Int)/\Li F (Am i 2) λo=>mj p d a i b c (decide ((i64.wrap h)<=o)) R F) (mj p d a i b c nS R F)) (mj p d a i b c nS R F)) (Ea b R F)
def ux (d:Sl) (j:Int) (e:ο) (a:Sl) (R:VR) (F:PH):Prop:=Ix d j λk=>Lr F 5 (od k (pc j*5)) λl=>Nb F (mX (#[vi 0,vi 0,vi 0,vi 0,vi 0]) 225) λf F=>aB F (Am f 0) 5 l λF=>Nb F (mX #[] 3) λu F=>Li F (Am f 0) λc=>Bc (c=0) (R (nV a) F) (Bc (c=1) ((∃(v:Nat->Sl->Ω) (t:Nat),v t (Sb u 0) 0 F/\∀t b g F,v t b g F-> wi (Wf v t) e a f R b g F)) (Bc (c=2) (Li F (Am f 4) λh=>Li F (Am f 3) λm=>Cs 156 #[nV d,(vi m),.string e,nV a] F λn F=>F.cell (Am f 4)=mB (vi h)/\Cs 156 #[nV d,(vi h),.string e,nV n] F λo F=>R (nV o) F) (Bc (c=3) (Li F (Am f 3) λp=>Li F (Am f 4) λi=>Cs 156 #[nV d,(vi p),.string e,nV a] F λq F=>F.cell (Am f 4)=mB (vi i)/\Cs 156 #[nV d,(vi i),.string e,nV a] F λr F=>Cs 190 #[nV q,nV r] F λs F=>R (nV s) F) (D9 d e a f R F))))
theorem yQ {b:Sl} {c:Int} {d:ο} {a:Sl} (h:ux b c d a R F):ν 156 #[nV b,(vi c),.string d,nV a] F R:=Rx.Λ (.qa8 (.qa8 (.qa8 (.J nS [] (.qa8 (.qa8 (.qa8 (.qa8 (.T (.J nS [(10,.sl)] (.qa8 (.L [(10,.sl),(11,.int .i64)] (.qa8 (.J nS [(10,.sl)] (.J nS [(61,.bool)] .N .N) .N)))) .N) .N))))) (.qa8 (.qa8 (.J nS [(10,.sl)] (.L [(10,.sl),(12,.int .i64)] .N) .N))))))) h
def jC (d:Int) (e:Nat) (a:Int) (R:VR) (F:PH):Prop:=Bc (a<1) (Bc (a<2) (R (.bool nZ) F) (Li F (Am e 4) λf=>Bc (0<=f) (Li F (Am e 4) λg=>R (.bool (decide (g<d))) F) (R (.bool nS) F))) (Li F (Am e 3) λh=>Bc (0<=h) (Li F (Am e 3) λi=>Bc (i<d) (Bc (a<2) (R (.bool nZ) F) (Li F (Am e 4) λb=>Bc (0<=b) (Li F (Am e 4) λc=>R (.bool (decide (c<d))) F) (R (.bool nS) F))) (R (.bool nS) F)) (R (.bool nS) F))
def pY (b:Int) (d:Nat) (a:Int) (R:VR) (F:PH):Prop:=Bc (a<1) (Li F (Am d 3) λe=>Bc (e≠0) (R (.bool nS) F) (Bc (a<2) (Li F (Am d 4) λf=>Bc (f≠0) (R (.bool nS) F) (jC b d a R F)) (jC b d a R F))) (Bc (a<2) (Li F (Am d 4) λc=>Bc (c≠0) (R (.bool nS) F) (jC b d a R F)) (jC b d a R F))
def Pt (s:Sl) (d:Int) (R:VR) (F:PH):Prop:=Ix s d λi=>Lr F 5 (od i (pc d*5)) λj=>Nb F (mX (#[vi 0,vi 0,vi 0,vi 0,vi 0]) 225) λa F=>aB F (Am a 0) 5 j λF=>Li F (Am a 0) λk=>ν 189 #[(vi k)] F λv F=>∃c,∃b,v=(.tuple #[(vi c),.bool b])/\Bb ((!b)) (R (.bool nS) F) (Li F (Am a 0) λl=>Bc (l≠1) (Li F (Am a 1) λm=>Bc (m≠0) (R (.bool nS) F) (Li F (Am a 2) λn=>Bc (n≠0) (R (.bool nS) F) (Li F (Am a 1) λo=>Bc (o<0) (R (.bool nS) F) (Li F (Am a 1) λp=>Li F (Am a 2) λq=>Bc (q<p) (R (.bool nS) F) (Li F (Am a 2) λr=>Bc (255<r) (R (.bool nS) F) (pY d a c R F)))))) (Li F (Am a 1) λe=>Bc (e<0) (R (.bool nS) F) (Li F (Am a 1) λf=>Li F (Am a 2) λg=>Bc (g<f) (R (.bool nS) F) (Li F (Am a 2) λh=>Bc (255<h) (R (.bool nS) F) (pY d a c R F)))))
theorem qd9 {a:Sl} {b:Int} (h:Pt a b R F):ν 188 #[nV a,(vi b)] F R:=Rx.Λ (.qa8 (.qa8 (.qa8 (.J nS [] .N (.J nS [] .N .N))))) h
def pZ (a:Int) (b:Bool) (R:VR) (F:PH):Prop:=Bb (b) (R (.tuple #[(vi 0),.bool nZ]) F) (Bc (a=4) (R (.tuple #[(vi 1),.bool nZ]) F) (Bc (a=2) (Bc (a=2) (R (.tuple #[(vi 2),.bool nZ]) F) (R (.tuple #[(vi 0),.bool nS]) F)) (Bc (a=3) (R (.tuple #[(vi 2),.bool nZ]) F) (R (.tuple #[(vi 0),.bool nS]) F))))
def Pu (a:Int) (R:VR) (F:PH):Prop:=Bc (a=0) (pZ a (decide (a=0)) R F) (pZ a (decide (a=1)) R F)
theorem qea {a:Int} (h:Pu a R F):ν 189 #[(vi a)] F R:=Rx.Λ (.qa8 (.T (.qa8 (.J nS [(5,.bool)] .N .N)) .N)) h
def Eb (a:Sl) (R:VR) (F:PH):Prop:=R (nV a) F
def p5 (d:Sl->Ω) (_:Sl) (b:Int) (a:Sl) (_:VR) (F:PH):Prop:=d a (i64.wrap (b+1)) F
def Ec (k:Sl->Ω) (b:Sl) (R:VR) (a:Sl) (c:Int) (F:PH):Prop:=Bc (c<(b.len:Int)) (Ix b c λd=>Li F (od d (pc c*1)) λe=>vc 155 #[nV a,(vi e)] F λf F=>Bb ((!f)) (Ix b c λg=>Li F (od g (pc c*1)) λh=>Nb F (mX #[(vi h)] 3) λj F=>Ap 76 #[nV a,nV (Sb j 1)] F λi F=>p5 k b c i R F) (p5 k b c a R F)) (Eb a R F)
def Pv (e b:Sl) (R:VR) (F:PH):Prop:=Nb F (mX #[] 3) λh F=>Ap 76 #[nV (Sb h 0),nV e] F λf F=>(∃(g:Nat->Sl->Ω) (d:Nat),g d f 0 F/\∀d a c F,g d a c F-> Ec (Wf g d) b R a c F)
theorem qeb {b:Sl} {a:Sl} (h:Pv b a R F):ν 190 #[nV b,nV a] F R:=Rx.Λ (.qa8 (.qa8 (.J nS [(5,.sl)] (.qa8 (.L [(5,.sl),(6,.int .i64)] (.qa8 (.J nS [(5,.sl)] .N .N)))) .N))) h
section
variable {F:PH}
theorem W4 {s:Sl} {l:List Nd} (h:RdS F s 5 (dC l)) {i:Nat} {x:Nd} (g:l[i]? =mB x):∃a,s.qa5=mB a/\F.row (a.add (i*5)) x.arr:=by
 obtain ⟨hi,g⟩:=N6.1 g;subst g;have w:=h.nlen;obtain ⟨b,o,r,_⟩:=h.cells (by omega)
 exact ⟨_,r,h.row r (i*5) l[i].arr (by
  have:=ut l i hi
  simpa [Nd.arr,Nd.cells] using this.symm)⟩
def ml (k:Int):Int:=if k=4 then 1 else if k=2\/k=3 then 2 else 0
def d8 (k:Int):Bool:=decide (0<=k/\k<=4)
theorem kB (F:PH) (k:Int):ν 189 #[vi k] F λr A=>r=.tuple #[vi (ml k),.bool (d8 k)]/\A=F:=by
 refine qea ?_;unfold Pu;have B:∀t:Bool,t=decide (k=0\/k=1)->pZ k t (λr A=>r=.tuple #[vi (ml k),.bool (d8 k)]/\A=F) F:=λt C=>by
  unfold pZ;refine ⟨λh=>⟨?_,rfl⟩,λh=> ?_⟩
  ·have:=ζ (C.symm.trans h);have g:ml k=0:=by unfold ml;rw [Υ (by omega),Υ (by omega)]
   have w:d8 k=nZ:=by unfold d8;simp;omega
   rw [g,w]
  ·have G:=ι (C.symm.trans h);refine ⟨λE=>⟨?_,rfl⟩,λE=>⟨λD=>⟨λ_=>⟨?_,rfl⟩,λh=>absurd D h⟩,λD=>⟨λH=>⟨?_,rfl⟩,λH=>⟨?_,rfl⟩⟩⟩⟩
   ·have g:ml k=1:=by unfold ml;rw [Χ (by omega)]
    have w:d8 k=nZ:=by unfold d8;simp;omega
    rw [g,w]
   ·have g:ml k=2:=by unfold ml;rw [Υ (by omega),Χ (by omega)]
    have w:d8 k=nZ:=by unfold d8;simp;omega
    rw [g,w]
   ·have g:ml k=2:=by unfold ml;rw [Υ (by omega),Χ (by omega)]
    have w:d8 k=nZ:=by unfold d8;simp;omega
    rw [g,w]
   ·have g:ml k=0:=by unfold ml;rw [Υ (by omega),Υ (by omega)]
    have w:d8 k=nS:=by unfold d8;simp;omega
    rw [g,w]
 refine ⟨λh=>B _ ?_,λh=>B _ ?_⟩
 ·rw [wR];simp;omega
 ·rw [wR];simp;omega
end
def ar (k:Int):Int:=if k=4 then 1 else if k=2\/k=3 then 2 else if k=0\/k=1 then 0 else -1
def y5 (i:Nat) (x:Nd):Prop:=0<=ar x.k/\(x.k=1->0<=x.lo/\x.lo<=x.hi/\x.hi<=255)/\(x.k≠1->x.lo=0/\x.hi=0)/\(ar x.k<1->x.a=0)/\(ar x.k<2->x.b=0)/\
 (1<=ar x.k->0<=x.a/\x.a<i)/\(2<=ar x.k->0<=x.b/\x.b<i)
def us (x:Nd):Φ:=if 2<=ar x.k then [x.b,x.a] else if 1<=ar x.k then [x.a] else []
def xz:List Nd->Φ
 |[]=>[]
 |x::l=>xz l++us x
theorem jc (l:List Nd) (x:Nd):xz (l++[x])=us x++xz l:=by
 induction l with
 |nil=>simp [xz]
 |cons y l ih=>simp [xz,ih]
structure GoodL (l:List Nd):Prop where
 ne:l≠[]
 ok:∀i x,l[i]? =mB x->y5 i x
 nd:(xz l).Nodup
 all:∀i:Nat,i+1<l.length->(i:Int)∈xz l
open Classical in
def fD (l:List Nd):Int:=if 512<l.length then 2 else if GoodL l then 0 else 40
section
variable {F0 F:PH}
theorem BE (k:Int):ν 204 #[vi k] F λr w=>r=vi (ar k)/\w=F:=by
 refine qdc ?_;unfold O7;have A:∀t:Bool,t=decide (k=0\/k=1)->pR k t (λr w=>r=vi (ar k)/\w=F) F:=λt B=>by
  unfold pR;refine ⟨λh=>⟨?_,rfl⟩,λh=> ?_⟩
  ·have:=ζ (B.symm.trans h);have g:ar k=0:=by unfold ar;rw [Υ (by omega),Υ (by omega),Χ (by omega)]
   rw [g]
  ·have E:=ι (B.symm.trans h);refine ⟨λD=>⟨?_,rfl⟩,λD=>⟨λC=>⟨λ_=>⟨?_,rfl⟩,λh=>absurd C h⟩,λC=>⟨λG=>⟨?_,rfl⟩,λG=>⟨?_,rfl⟩⟩⟩⟩
   ·have g:ar k=1:=by unfold ar;rw [Χ (by omega)]
    rw [g]
   ·have g:ar k=2:=by unfold ar;rw [Υ (by omega),Χ (by omega)]
    rw [g]
   ·have g:ar k=2:=by unfold ar;rw [Υ (by omega),Χ (by omega)]
    rw [g]
   ·have g:ar k= -1:=by unfold ar;rw [Υ (by omega),Υ (by omega),Υ (by omega)]
    rw [g]
 refine ⟨λh=>A _ ?_,λh=>A _ ?_⟩
 ·rw [wR];simp;omega
 ·rw [wR];simp;omega
def gK (n:Nat) (W:Φ):Ξ:=(List.range n).map λ(i:Nat)=>Value.bool (decide ((i:Int)∈W))
structure Usd (F0 F:PH) (b u n:Nat) (W:Φ):Prop where
 zb:F0 b=nC
 zu:F0 u=nC
 le:F0.le F
 ne:u≠b
 qb:F b=mB (mX #[nV ⟨mB ⟨u,0,nC⟩,n,n⟩] 297)
 qu:F u=mB (mX (gK n W).toArray 4)
theorem FS (n:Nat) (W:Φ) (i:Nat) (hi:i<n):(gK n W).toArray.setIfInBounds i (.bool nZ)=(gK n ((i:Int)::W)).toArray:=by
 apply Array.ext';rw [Array.toList_setIfInBounds];apply Wp;intro j;rw [Yt];simp only [gK,vb,Wq,yr];by_cases h:i=j
 ·subst h;rw [Χ rfl,Χ hi,XK hi];simp
 ·rw [Υ h];by_cases g:j<n
  ·rw [XK g];simp only [VF,tQ];congr 2;rw [wR];simp only [δ];constructor
   ·exact .inr
   ·rintro (e|e)
    ·omega
    ·exact e
  ·rw [VP (by simp;omega)];rfl
theorem uy {n:Nat} {W:Φ} {i:Nat} (hi:i<n):(gK n W).toArray[i]? =mB (.bool (decide ((i:Int)∈W))):=by simp [gK,hi]
theorem rV {b u n:Nat} {W:Φ} (h:Usd F0 F b u n W) (i:Int) {at_:Nat} (I:at_<=n):
  ν 203 #[vi i,vi at_,pa b] F λr w=>((0<=i/\i<at_/\i ∉ W)/\r=.bool nZ/\Usd F0 w b u n (i::W)/\∀x,x≠u->w x=F x)\/(¬(0<=i/\i<at_/\i ∉ W)/\r=.bool nS/\w=F):=by
 refine qdb ?_;unfold O6;refine ⟨λG=> .inr ⟨by omega,rfl,rfl⟩,λG=>⟨λH=> .inr ⟨by omega,rfl,rfl⟩,λH=> ?_⟩⟩;obtain ⟨k,rfl⟩:=Yu (by omega:0<=i);have A:k<n:=by omega
 have D:F.cell ((pd u 0 nC).add (pc (k:Int)*1))=mB (.bool (decide ((k:Int)∈W))):=by rw [N4,xZ,show (pd u 0 nC).add k=⟨u,k,nC⟩ by simp [od];omega,av h.qu];exact uy A
 have B:F.cell ⟨b,0,nC⟩=mB (nV ⟨mB ⟨u,0,nC⟩,n,n⟩):=by rw [av h.qb];rfl
 refine ⟨_,rfl,_,B,_,rfl,by omega,by simp only;omega,_,D,λg=> .inr ⟨λE=>E.2.2 (ζ g),rfl,rfl⟩,λg=>⟨_,B,_,rfl,by omega,by simp only;omega,?_⟩⟩;have g:=ι g;refine sq (b:=u) (o:=k) (by rw [N4,xZ];simp [od];omega) h.qu (by simp [gK];exact A) ?_;refine .inl ⟨⟨by omega,by omega,g⟩,rfl,⟨h.zb,h.zu,aC h.le h.zu,h.ne,?_,?_⟩,λx C=>aw _ _ C⟩
 ·rw [aw _ _ h.ne.symm];exact h.qb
 ·show (F.set u (mX ((gK n W).toArray.setIfInBounds k (.bool nZ)) 4)) u=_;rw [FS n W k A];exact aq _ _ _
theorem Jp {s:Sl} {b u n E j:Nat} {W:Φ} {x:Nd} {ok:Bool} {N:Ω} {R:ξ->Ψ} (h:Usd F0 F b u n W) (q6:F E=mB (mX x.arr 225)) (O:j<=n) (Y:u≠E)
  (bad:¬(ok=nZ/\(ar x.k<1->x.a=0)/\(ar x.k<2->x.b=0)/\(1<=ar x.k->0<=x.a/\x.a<j/\x.a ∉ W)/\(2<=ar x.k->0<=x.b/\x.b<j/\x.b ∉ x.a::W))->∀C,F0.le C->R (vi 40) C)
  (A:(ok=nZ/\(ar x.k<1->x.a=0)/\(ar x.k<2->x.b=0)/\(1<=ar x.k->0<=x.a/\x.a<j/\x.a ∉ W)/\(2<=ar x.k->0<=x.b/\x.b<j/\x.b ∉ x.a::W))->∀C,Usd F0 C b u n (us x++W)->N (i64.wrap ((j:Int)+1)) C):
  fC N s b j E (ar x.k) ok R F:=by
 have M:∀{C:PH},C E=mB (mX x.arr 225)->C.cell (pd E 3 nC)=mB (vi x.a):=λh=>by rw [av h];rfl
 have Q:∀{C:PH},C E=mB (mX x.arr 225)->C.cell (pd E 4 nC)=mB (vi x.b):=λh=>by rw [av h];rfl
 unfold fC;refine ⟨λL=>bad (λg=>by rw [g.1] at L;cases L) _ h.le,λL=> ?_⟩;have H:ok=nZ:=by simpa using L
 refine ⟨λX=>⟨_,M q6,λV=>bad (λg=>V (g.2.1 X)) _ h.le,λV=>⟨λI=>⟨_,Q q6,λJ=>bad (λg=>J (g.2.2.1 I)) _ h.le,λJ=>⟨λr=>absurd r (by omega),λr=>⟨λw=>absurd w (by omega),λw=> ?_⟩⟩⟩,λI=>absurd I (by omega)⟩⟩,
  λX=>⟨λI=>⟨_,Q q6,λJ=>bad (λg=>J (g.2.2.1 I)) _ h.le,λJ=>⟨λr=>⟨_,M q6,?_⟩,λr=>absurd r (by omega)⟩⟩,λI=>⟨λr=>⟨_,M q6,?_⟩,λr=>absurd r (by omega)⟩⟩⟩
 ·unfold bY;refine A ⟨H,λ_=>by omega,λ_=>by omega,λh=>by omega,λh=>by omega⟩ _ ?_;have:us x=[]:=by unfold us;rw [Υ w,Υ r]
  rw [this];exact h
 ·refine (rV h x.a O).mono ?_;rintro _ F2 (⟨g,rfl,D,K⟩|⟨g,rfl,rfl⟩)
  ·refine ⟨_,rfl,λh=>by simp at h,λ_=>⟨λw=>absurd w (by omega),λw=> ?_⟩⟩;unfold bY;refine A ⟨H,λ_=>by omega,λ_=>by omega,λ_=>g,λh=>by omega⟩ _ ?_;have:us x=[x.a]:=by unfold us;rw [Υ w,Χ r]
   rw [this];exact D
  ·exact ⟨_,rfl,λ_=>bad (λB=>g (B.2.2.2.1 r)) _ h.le,λh=>by simp at h⟩
 ·refine (rV h x.a O).mono ?_;rintro _ F2 (⟨g,rfl,D,K⟩|⟨g,rfl,rfl⟩)
  ·have U:F2 E=mB (mX x.arr 225):=(K _ Y.symm).trans q6;refine ⟨_,rfl,λh=>by simp at h,λ_=>⟨λw=>⟨_,Q U,?_⟩,λw=>absurd w (by omega)⟩⟩;refine (rV D x.b O).mono ?_;rintro _ F3 (⟨G,rfl,P,Z⟩|⟨G,rfl,rfl⟩)
   ·refine ⟨_,rfl,λh=>by simp at h,λ_=> ?_⟩;unfold bY;refine A ⟨H,λ_=>by omega,λ_=>by omega,λ_=>g,λ_=>G⟩ _ ?_;have:us x=[x.b,x.a]:=by unfold us;rw [Χ w]
    rw [this];exact P
   ·exact ⟨_,rfl,λ_=>bad (λB=>G (B.2.2.2.2 w)) _ D.le,λh=>by simp at h⟩
  ·exact ⟨_,rfl,λ_=>bad (λB=>g (B.2.2.2.1 r)) _ h.le,λh=>by simp at h⟩
end
theorem qgc:vV prog 4=mB (1,1):=by kernel_rfl
theorem qgd:bv prog 4=mB (.bool nS):=by kernel_rfl
structure GoodTo (l:List Nd) (j:Nat):Prop where
 ok:∀i x,i<j->l[i]? =mB x->y5 i x
 nd:(xz (l.take j)).Nodup
theorem GoodTo.zero (l:List Nd):GoodTo l 0:=⟨λi x h=>by omega,by simp [xz]⟩
theorem yR {j:Nat} {x:Nd} {W:Φ}:(y5 j x/\(us x++W).Nodup)↔W.Nodup/\(0<=ar x.k/\(x.k=1->0<=x.lo/\x.lo<=x.hi/\x.hi<=255)/\(x.k≠1->x.lo=0/\x.hi=0))/\
  (ar x.k<1->x.a=0)/\(ar x.k<2->x.b=0)/\(1<=ar x.k->0<=x.a/\x.a<j/\x.a ∉ W)/\(2<=ar x.k->0<=x.b/\x.b<j/\x.b ∉ x.a::W):=by
 unfold y5 us;by_cases E:2<=ar x.k
 ·rw [Χ E];simp only [zH,zr,Wx,tQ,not_or];constructor
  ·rintro ⟨⟨r,B,w,C,A,g,D⟩,⟨n1,n2⟩,n3,n4⟩;exact ⟨n4,⟨r,B,w⟩,C,A,λh=>⟨(g h).1,(g h).2,n3⟩,λh=>⟨(D h).1,(D h).2,n1,n2⟩⟩
  ·rintro ⟨n4,⟨r,B,w⟩,C,A,g,D⟩;exact ⟨⟨r,B,w,C,A,λh=>⟨(g h).1,(g h).2.1⟩,λh=>⟨(D h).1,(D h).2.1⟩⟩,⟨(D E).2.2.1,(D E).2.2.2⟩,(g (by omega)).2.2,n4⟩
 ·rw [Υ E];by_cases G:1<=ar x.k
  ·rw [Χ G];simp only [zH,zr,Wx];constructor
   ·rintro ⟨⟨r,B,w,C,A,g,D⟩,n3,n4⟩;exact ⟨n4,⟨r,B,w⟩,C,A,λh=>⟨(g h).1,(g h).2,n3⟩,λh=>absurd h E⟩
   ·rintro ⟨n4,⟨r,B,w⟩,C,A,g,D⟩;exact ⟨⟨r,B,w,C,A,λh=>⟨(g h).1,(g h).2.1⟩,λh=>absurd h E⟩,(g G).2.2,n4⟩
  ·rw [Υ G];simp only [zr];constructor
   ·rintro ⟨⟨r,B,w,C,A,g,D⟩,n4⟩;exact ⟨n4,⟨r,B,w⟩,C,A,λh=>absurd h G,λh=>absurd h E⟩
   ·rintro ⟨n4,⟨r,B,w⟩,C,A,g,D⟩;exact ⟨⟨r,B,w,C,A,λh=>absurd h G,λh=>absurd h E⟩,n4⟩
theorem GoodTo.succ {l:List Nd} {j:Nat} {x:Nd} (w:l[j]? =mB x):GoodTo l (j+1)↔GoodTo l j/\y5 j x/\(us x++xz (l.take j)).Nodup:=by
 have e:l.take (j+1)=l.take j++[x]:=by rw [Wj,w];rfl
 constructor
 ·rintro ⟨r,h⟩;rw [e,jc] at h;exact ⟨⟨λi y hi g=>r i y (by omega) g,(VC.1 h).2.1⟩,r j x (by omega) w,h⟩
 ·rintro ⟨⟨r,h⟩,C,B⟩;refine ⟨λi y hi g=> ?_,by rw [e,jc];exact B⟩;by_cases A:i=j
  ·subst A;rw [w] at g;cases g;exact C
  ·exact r i y (by omega) g
theorem ZT (l:List Nd):GoodL l↔GoodTo l l.length/\(∀i:Nat,i+1<l.length->(i:Int)∈xz l)/\l≠[]:=by
 constructor
 ·rintro ⟨A,w,h,r⟩;exact ⟨⟨λi x _ g=>w i x g,by rw [wV];exact h⟩,r,A⟩
 ·rintro ⟨⟨w,h⟩,r,A⟩;rw [wV] at h;exact ⟨A,λi x g=>w i x (by have:=(N6.1 g).1;omega) g,h,r⟩
theorem yS {l:List Nd} (g:l.length<=512) (h:¬GoodL l):fD l=40:=by unfold fD;rw [Υ (by omega),Υ h]
theorem uz {l:List Nd} (g:l.length<=512) (h:GoodL l):fD l=0:=by unfold fD;rw [Υ (by omega),Χ h]
section
variable {F:PH}
theorem oF {s:Sl} {l:List Nd} (hs:RdS F s 5 (dC l)):ν 172 #[s.v] F λr A=>r=vi (fD l)/\F.le A:=by
 have w:=hs.nlen;refine qc9 ?_;unfold O4;refine ⟨λh=>⟨?_,au F⟩,λh=> ?_⟩
 ·have e:fD l=2:=by unfold fD;rw [Χ (by omega)]
  rw [e]
 have hl:l.length<=512:=by omega
 refine bQ underlying297 qgc qgd rfl (by omega) (Vr _) (by omega) (by omega) ?_;intro u hu;rw [ZS _ rfl,N4,w];have em:(List.replicate l.length (Value.bool nS)).toArray=(gK l.length []).toArray:=by
  congr 1;apply Wp;intro j;by_cases hj:j<l.length
  ·simp [gK,hj]
  ·rw [VP (by simp;omega),VP (by simp [gK];omega)]
 rw [em];refine ⟨_,rfl,λD J=> ?_⟩;refine tP ?_;have K:u≠D:=λe=>by rw [e,aq] at J;cases J
 have G:F D=nC:=by rwa [aw _ _ K.symm] at J
 refine Wb (aq _ _ _) (by simp) ?_;rw [aS];have hU:Usd F ((F.set u (mX (gK l.length []).toArray 4)).set D (mX #[nV ⟨mB ⟨u,0,nC⟩,l.length,l.length⟩] 297)) D u l.length []:=
  ⟨G,hu,aC (ae _ hu) G,K,aq _ _ _,by rw [aw _ _ K];exact aq _ _ _⟩
 show ∃(I2:Nat->Ω) (m2:Nat),_;have e0:(#[Value.slice nC 0 0]:Γ).setIfInBounds 0 (nV ⟨mB ⟨u,0,nC⟩,l.length,l.length⟩)= #[nV ⟨mB ⟨u,0,nC⟩,l.length,l.length⟩]:=rfl;rw [e0];generalize (F.set u (mX (gK l.length []).toArray 4)).set D (mX #[nV ⟨mB ⟨u,0,nC⟩,l.length,l.length⟩] 297)=F1 at*;have bad:∀{A:PH},¬GoodL l->F.le A->vi 40=vi (fD l)/\F.le A:=λh L=>⟨by rw [yS hl h],L⟩;refine ⟨λm i A=>∃j:Nat,i=j/\j<=l.length/\m=l.length - j/\GoodTo l j/\Usd F A D u l.length (xz (l.take j)),l.length,⟨0,rfl,by omega,rfl,GoodTo.zero l,by simpa [xz] using hU⟩,?_⟩;rintro _ _ F2 ⟨j,rfl,hj,rfl,hg,g⟩;unfold DS;refine ⟨λa4=> ?_,λa3=> ?_⟩
 ·have B:j<l.length:=by omega
  have P:l[j]? =mB l[j]:=N5 B;generalize l[j]=x at P;obtain ⟨a,ha,Y⟩:=W4 (hs.le g.le) P;refine ⟨a,ha,by omega,by omega,x.arr,rfl,Y,λI M=> ?_⟩;refine tP ?_;refine Vd (aq _ _ _) rfl rfl (gj x) ?_;rw [aS];have W:u≠I:=aI M g.qu;have a2:Usd F (F2.set I (mX x.arr 225)) D u l.length (xz (l.take j)):=⟨g.zb,g.zu,aC g.le (aU g.le M),g.ne,by rw [aw _ _ (aI M g.qb)];exact g.qb,by rw [aw _ _ W];exact g.qu⟩;have q6:=aq F2 I (mX x.arr 225);generalize F2.set I (mX x.arr 225)=X at*;have O:∀ok:Bool,(ok=nZ↔(0<=ar x.k/\(x.k=1->0<=x.lo/\x.lo<=x.hi/\x.hi<=255)/\(x.k≠1->x.lo=0/\x.hi=0)))->
    fC (λQ F=>∃m',m'<l.length - j/\∃j:Nat,Q=j/\j<=l.length/\m'=l.length - j/\GoodTo l j/\Usd _ F D u l.length (xz (l.take j))) s D j I (ar x.k) ok (λr A=>r=vi (fD l)/\PH.le _ A) X:=λok U=>by
   refine Jp a2 q6 (by omega) W (λhn A L=>bad (λZ=>hn ?_) L) λhy A a5=> ?_
   ·obtain ⟨hgt,_,_⟩:=(ZT l).1 Z
    have C:GoodTo l (j+1):=⟨λi y hi hy=>hgt.ok i y (by omega) hy,by
     have:=hgt.nd;rw [wV] at this;have e:xz l=xz (l.drop (j+1))++xz (l.take (j+1))\/True:=.inr trivial;have V:∀(p q:List Nd),xz (p++q)=xz q++xz p:=by
      intro p q;induction p with
      |nil=>simp [xz]
      |cons y p ih=>simp [xz,ih]
     rw [<- WY (j+1) l,V] at this
     exact (VC.1 this).2.1⟩
    obtain ⟨_,H⟩:=(GoodTo.succ P).1 C;obtain ⟨h4,h5,h6⟩:=yR.1 H;exact ⟨U.2 h5,h6⟩
   ·refine ⟨l.length - (j+1),by omega,j+1,ff (by omega),B,rfl,?_,?_⟩
    ·exact (GoodTo.succ P).2 ⟨hg,yR.2 ⟨hg.nd,U.1 hy.1,hy.2⟩⟩
    ·rw [Wj,P];show Usd F A D u l.length (xz (l.take j++[x]));rw [jc];exact a5
  have c0:X.cell (pd I 0 nC)=mB (vi x.k):=by rw [av q6];rfl
  have c1:X.cell (pd I 1 nC)=mB (vi x.lo):=by rw [av q6];rfl
  have c2:X.cell (pd I 2 nC)=mB (vi x.hi):=by rw [av q6];rfl
  have a1:x.k=1->ar x.k=0:=λh=>by unfold ar;rw [Υ (by omega),Υ (by omega),Χ (by omega)]
  refine ⟨_,c0,?_⟩;refine (BE _).mono ?_;rintro _ a6 ⟨rfl,e⟩;obtain rfl:=e.symm;refine ⟨_,rfl,_,c0,λC=>⟨_,c1,λN=>⟨_,c1,_,c2,λH=>⟨_,c2,O _ ?_⟩,λH=>O _ ?_⟩,λN=>O _ ?_⟩,λC=>⟨_,c1,λN=>O _ ?_,λN=>⟨_,c2,λH=>O _ ?_,λH=>O _ ?_⟩⟩⟩
  ·have:=a1 C;rw [δ];exact ⟨λh=>⟨by omega,λ_=>⟨N,H,h⟩,λh=>absurd C h⟩,λh=>(h.2.1 C).2.2⟩
  ·exact ⟨λh=>(by cases h),λh=>absurd (h.2.1 C).2.1 H⟩
  ·exact ⟨λh=>(by cases h),λh=>absurd (h.2.1 C).1 N⟩
  ·exact ⟨λh=>(by cases h),λh=>absurd (h.2.2 C).1 N⟩
  ·exact ⟨λh=>(by cases h),λh=>absurd (h.2.2 C).2 H⟩
  ·rw [δ];exact ⟨λh=>⟨h,λh=>absurd h C,λ_=>⟨by omega,by omega⟩⟩,λh=>h.1⟩
 ·obtain rfl:j=l.length:=by omega
  rw [wV] at g;unfold DQ;have ew:i64.wrap ((s.len:Int) - 1)=(l.length:Int) - 1:=by rw [w,aL (by omega)]
  refine ⟨λm i A=>∃j:Nat,i=j/\j<=l.length/\m=l.length - j/\A=F2/\∀i:Nat,i<j->(i:Int)∈xz l,l.length,⟨0,rfl,by omega,rfl,rfl,λi hi=>by omega⟩,?_⟩;rintro _ _ X ⟨j,rfl,a7,rfl,e3,E⟩;obtain rfl:=e3.symm;unfold DP;rw [ew];refine ⟨λa4=> ?_,λa3=> ?_⟩
  ·have B:j<l.length:=by omega
   have hr:F2.cell ((pd u 0 nC).add (pc (j:Int)*1))=mB (.bool (decide ((j:Int)∈xz l))):=by rw [N4,xZ,show (pd u 0 nC).add j=⟨u,j,nC⟩ by simp [od];omega,av g.qu];exact uy B
   refine ⟨_,by rw [av g.qb];rfl,_,rfl,by omega,by simp only;omega,_,hr,λhm=>bad (λZ=> ?_) g.le,λhm=>⟨l.length - (j+1),by omega,j+1,ff (by omega),B,rfl,rfl,λi hi=> ?_⟩⟩
   ·have:=Z.all j (by omega);simp [this] at hm
   ·by_cases a0:i=j
    ·subst a0;simpa using hm
    ·exact E i (by omega)
  ·unfold DO;refine ⟨λh0=>bad (λZ=>Z.ne (X1.1 (by omega))) g.le,λh0=>⟨?_,g.le⟩⟩;rw [uz hl ((ZT l).2 ⟨hg,λi hi=>E i (by omega),λe=>by rw [e] at w;simp at w;omega⟩)]
end
def Par (l:List Nd) (j k:Nat):Prop:=∃x,l[k]? =mB x/\(j:Int)∈us x
inductive Up (l:List Nd):Nat->Nat->Prop where
 |refl (j:Nat):Up l j j
 |step {j k m:Nat}:Up l j k->Par l k m->Up l j m
inductive cL (l:List Nd):Nat->Lt->Δ->Prop where
 |emp {i:Nat} {x:Nd}:l[i]? =mB x->x.k=0->cL l i .emp [i]
 |rng {i lo hi:Nat} {x:Nd}:l[i]? =mB x->x.k=1->x.lo=lo->x.hi=hi->lo<=hi->hi<=255->cL l i (.rng i lo hi) [i]
 |seq {i a b:Nat} {x:Nd} {t u:Lt} {na nb:Δ}:l[i]? =mB x->x.k=2->x.a=a->x.b=b->cL l a t na->cL l b u nb->cL l i (.seq t u) (i::na++nb)
 |alt {i a b:Nat} {x:Nd} {t u:Lt} {na nb:Δ}:l[i]? =mB x->x.k=3->x.a=a->x.b=b->cL l a t na->cL l b u nb->cL l i (.alt t u) (i::na++nb)
 |rep {i a:Nat} {x:Nd} {t:Lt} {na:Δ}:l[i]? =mB x->x.k=4->x.a=a->cL l a t na->cL l i (.rep t) (i::na)
theorem im {x:Nd} (h:x.k=2\/x.k=3):us x=[x.b,x.a]:=by
 have:ar x.k=2:=by unfold ar;rw [Υ (by omega),Χ h]
 unfold us;rw [this];rfl
theorem Jq {x:Nd} (h:x.k=4):us x=[x.a]:=by
 have:ar x.k=1:=by unfold ar;rw [Χ h]
 unfold us;rw [this];rfl
theorem rW {k:Int} (h:0<=ar k):k=0\/k=1\/k=2\/k=3\/k=4:=by
 unfold ar at h;split at h
 ·omega
 ·split at h
  ·omega
  ·split at h<;>omega
theorem wj {k:Int} (h:k=2\/k=3):ar k=2:=by unfold ar;rw [Υ (by omega),Χ h]
theorem Jr {k:Int} (h:k=4):ar k=1:=by unfold ar;rw [Χ h]
theorem Ed {k:Int} (h:k=0\/k=1):ar k=0:=by unfold ar;rw [Υ (by omega),Υ (by omega),Χ h]
section
variable {l:List Nd} (hG:GoodL l)
include hG
theorem Ee:∀(n i:Nat),i<n->i<l.length->∃t ns,cL l i t ns:=by
 intro n;induction n with
 |zero=>intro i h;omega
 |succ n ih=>
  intro i hi L;have r:=N5 L;have D:=hG.ok i _ r;generalize l[i]=x at r D;obtain ⟨M,J,P,N,O,A,G⟩:=D;rcases rW M with g|g|g|g|g
  ·exact ⟨_,_,.emp r g⟩
  ·obtain ⟨a,b,c⟩:=J g;exact ⟨_,_,.rng (lo:=x.lo.toNat) (hi:=x.hi.toNat) r g (by omega) (by omega) (by omega) (by omega)⟩
  ·have e:=wj (k:=x.k) (.inl g);obtain ⟨C,E⟩:=A (by omega);obtain ⟨I,K⟩:=G (by omega);obtain ⟨t,H,w⟩:=ih x.a.toNat (by omega) (by omega);obtain ⟨u,nb,B⟩:=ih x.b.toNat (by omega) (by omega);exact ⟨_,_,.seq r g (by omega) (by omega) w B⟩
  ·have e:=wj (k:=x.k) (.inr g);obtain ⟨C,E⟩:=A (by omega);obtain ⟨I,K⟩:=G (by omega);obtain ⟨t,H,w⟩:=ih x.a.toNat (by omega) (by omega);obtain ⟨u,nb,B⟩:=ih x.b.toNat (by omega) (by omega);exact ⟨_,_,.alt r g (by omega) (by omega) w B⟩
  ·have e:=Jr (k:=x.k) g;obtain ⟨C,E⟩:=A (by omega);obtain ⟨t,H,w⟩:=ih x.a.toNat (by omega) (by omega);exact ⟨_,_,.rep r g (by omega) w⟩
theorem Par.lt {j k:Nat} (h:Par l j k):j<k/\k<l.length:=by
 obtain ⟨x,A,r⟩:=h;have D:=(N6.1 A).1;obtain ⟨C,I,G,H,E,w,B⟩:=hG.ok k x A;rcases rW C with g|g|g|g|g
 ·have e:=Ed (k:=x.k) (.inl g);unfold us at r;rw [e] at r;simp at r
 ·have e:=Ed (k:=x.k) (.inr g);unfold us at r;rw [e] at r;simp at r
 ·have e:=wj (k:=x.k) (.inl g);rw [im (.inl g)] at r;have:=w (by omega);have:=B (by omega);simp at r;omega
 ·have e:=wj (k:=x.k) (.inr g);rw [im (.inr g)] at r;have:=w (by omega);have:=B (by omega);simp at r;omega
 ·have e:=Jr (k:=x.k) g;rw [Jq g] at r;have:=w (by omega);simp at r;omega
omit hG in
theorem wm {j:Int}:∀(l:List Nd) {k:Nat} {x:Nd},l[k]? =mB x->j∈us x->j∈xz l
 |y::l,0,x,h,hm=>by simp at h;subst h;simp [xz,hm]
 |y::l,k+1,x,h,hm=>by simp at h;simp only [xz,vl];exact .inl (wm l h hm)
omit hG in
theorem yT {j:Int}:∀(l:List Nd),(xz l).Nodup->∀{k m:Nat} {x y:Nd},l[k]? =mB x->l[m]? =mB y->j∈us x->j∈us y->k=m
 |z::l,hn,0,0,x,y,h1,h2,h3,h4=>rfl
 |z::l,hn,0,m+1,x,y,h1,h2,h3,h4=>by simp at h1 h2;subst h1;rw [xz] at hn;exact absurd rfl ((VC.1 hn).2.2 j (wm l h2 h4) j h3)
 |z::l,hn,k+1,0,x,y,h1,h2,h3,h4=>by simp at h1 h2;subst h2;rw [xz] at hn;exact absurd rfl ((VC.1 hn).2.2 j (wm l h1 h3) j h4)
 |z::l,hn,k+1,m+1,x,y,h1,h2,h3,h4=>by simp at h1 h2;rw [xz] at hn;rw [yT l (VC.1 hn).1 h1 h2 h3 h4]
theorem Par.uniq {j k m:Nat} (w:Par l j k) (r:Par l j m):k=m:=by obtain ⟨x,g,h⟩:=w;obtain ⟨y,B,A⟩:=r;exact yT l hG.nd g B h A
omit hG in
theorem Up.head {j m:Nat} (h:Up l j m):j=m\/∃k,Par l j k/\Up l k m:=by
 induction h with
 |refl=>exact .inl rfl
 | @step k m h g ih=>
  rcases ih with rfl|⟨c,w,r⟩
  ·exact .inr ⟨m,g,.refl m⟩
  ·exact .inr ⟨c,w,r.step g⟩
theorem Up.le {j m:Nat} (h:Up l j m):j<=m:=by
 induction h with
 |refl=>exact tI _
 |step _ g ih=>have:=g.lt hG;omega
theorem Up.chain {j a b:Nat} (A:Up l j a) (B:Up l j b):Up l a b\/Up l b a:=by
 induction A with
 |refl=>exact .inl B
 | @step k m h g ih=>
  rcases ih with r|r
  ·rcases r.head with rfl|⟨c,C,w⟩
   ·exact .inr ((Up.refl k).step g)
   ·rw [C.uniq hG g] at w;exact .inl w
  ·exact .inr (r.step g)
omit hG in
theorem p6 {i:Nat} {t:Lt} {ns:Δ} (h:cL l i t ns):∀j∈ns,Up l j i:=by
 induction h with
 | @emp i x r w=>intro j g;simp at g;subst g;exact .refl _
 | @rng i lo hi x r w _ _ _ _=>intro j g;simp at g;subst g;exact .refl _
 | @seq i a b x t u G nb r w A C E H B D=>
  intro j g;simp only [zH,tQ,vl] at g;rcases g with rfl|g|g
  ·exact .refl _
  ·exact (B j g).step ⟨x,r,by rw [im (.inl w),A];simp⟩
  ·exact (D j g).step ⟨x,r,by rw [im (.inl w),C];simp⟩
 | @alt i a b x t u G nb r w A C E H B D=>
  intro j g;simp only [zH,tQ,vl] at g;rcases g with rfl|g|g
  ·exact .refl _
  ·exact (B j g).step ⟨x,r,by rw [im (.inr w),A];simp⟩
  ·exact (D j g).step ⟨x,r,by rw [im (.inr w),C];simp⟩
 | @rep i a x t G r w A E B=>
  intro j g;simp only [tQ] at g;rcases g with rfl|g
  ·exact .refl _
  ·exact (B j g).step ⟨x,r,by rw [Jq w,A];simp⟩
theorem qec {i a b:Nat} {x:Nd} (w:l[i]? =mB x) (B:x.k=2\/x.k=3) (A:x.a=a) (C:x.b=b):a≠b:=by
 intro e;have r:=hG.nd;have g:∀(l:List Nd) (i:Nat),l[i]? =mB x->(xz l).Nodup->(us x).Nodup:=by
  intro l;induction l with
  |nil=>intro i h;simp at h
  |cons y l ih=>
   intro i h r;rw [xz] at r;cases i with
   |zero=>simp at h;subst h;exact (VC.1 r).2.1
   |succ i=>simp at h;exact ih i h (VC.1 r).1
 have:=g l i w r;rw [im B,A,C,e] at this;simp at this
theorem Pw {i a b j:Nat} {x:Nd} (w:l[i]? =mB x) (A:x.k=2\/x.k=3) (C:x.a=a) (E:x.b=b) (H:Up l j a) (G:Up l j b):False:=by
 have pa:Par l a i:=⟨x,w,by rw [im A,C];simp⟩;have D:Par l b i:=⟨x,w,by rw [im A,E];simp⟩;have r:=qec hG w A C E;rcases H.chain hG G with h|h
 ·rcases h.head with e|⟨c,B,g⟩
  ·exact r e
  ·rw [B.uniq hG pa] at g;have:=g.le hG;have:=D.lt hG;omega
 ·rcases h.head with e|⟨c,B,g⟩
  ·exact r e.symm
  ·rw [B.uniq hG D] at g;have:=g.le hG;have:=pa.lt hG;omega
end
section
variable {F:PH}
open Classical in
def bN (l:List Nd):Lt:=if h:GoodL l then (Ee h (l.length) (l.length - 1) (by have:=Yr.2 h.ne;omega) (by have:=Yr.2 h.ne;omega)).choose else .emp
theorem io {l:List Nd} (h:GoodL l):∃ns,cL l (l.length - 1) (bN l) ns:=by unfold bN;rw [dif_pos h];exact (Ee h (l.length) (l.length - 1) (by have:=Yr.2 h.ne;omega) (by have:=Yr.2 h.ne;omega)).choose_spec
theorem uA {l:List Nd} (h:fD l=0):GoodL l/\l.length<=512:=by
 unfold fD at h;split at h
 ·omega
 ·split at h
  ·rename_i g;exact ⟨g,by omega⟩
  ·omega
end
structure Lo (G F:PH) (xs:List (Nat×Γ×TypeId)):Prop where
 le:G.le F
 z:∀p∈xs,F p.1=mB (mX p.2.1 p.2.2)/\G p.1=nC
 nd:(xs.map (·.1)).Nodup
theorem Lo.start (F:PH):Lo F F []:=⟨au F,λp g=>(by cases g),List.nodup_nil⟩
section
variable {F G:PH} {xs:List (Nat×Γ×TypeId)}
theorem Lo.get (h:Lo G F xs) {b:Nat} {w:Γ} {e:TypeId} (g:(b,w,e)∈xs):F b=mB (mX w e):=(h.z _ g).1
theorem Lo.row (h:Lo G F xs) {b:Nat} {w:Γ} {e:TypeId} (g:(b,w,e)∈xs):F.row (pd b 0 nC) w:=ai (h.z _ g).1
theorem Lo.cell (h:Lo G F xs) {b i:Nat} {w:Γ} {e:TypeId} (g:(b,w,e)∈xs):F.cell (pd b i nC)=w[i]? :=av (h.z _ g).1
theorem Lo.ro (h:Lo G F xs) (i:Nat) {b:Nat} {w:Γ} {e:TypeId} (hi:xs[i]? =mB (b,w,e)):F.row (pd b 0 nC) w:=h.row (wh hi)
theorem Lo.cl (h:Lo G F xs) (i:Nat) {b k:Nat} {w:Γ} {e:TypeId} {v:ξ} (hi:xs[i]? =mB (b,w,e)) (g:w[k]? =mB v):F.cell (pd b k nC)=mB v:=(h.cell (wh hi)).trans g
theorem Lo.call {f:FuncId} {args:Γ} {P:ξ->Ψ} (h:Lo G F xs) (s:aj prog f args G P):aj prog f args F λr A=>∃g,P r g/\Lo g A xs:=
 (s.upon h.le).mono λr A ⟨g,w,B,C⟩=>⟨g,w,B,λp w=>by
  obtain ⟨a,b⟩:=h.z p w
  exact C _ _ b a,h.nd⟩
theorem Lo.new (h:Lo G F xs) (c:Γ) (e:TypeId) {K:Nat->Ψ} (k:∀b A,Lo G A ((b,c,e)::xs)->K b A):∀b,F b=nC->wn (F.set b (mX c e)) (K b):=by
 intro b w;refine tP ?_;have r:∀p∈xs,p.1≠b:=λp g=>aI w (h.z p g).1;refine k b _ ⟨aa h.le (ae _ w),λp g=> ?_,?_⟩
 ·rcases tQ.1 g with rfl|g
  ·exact ⟨aq _ _ _,aU h.le w⟩
  ·obtain ⟨a,c⟩:=h.z p g;exact ⟨(aw _ _ (r p g)).trans a,c⟩
 ·rw [xV,Wx];refine ⟨λB=> ?_,h.nd⟩;obtain ⟨p,g,e⟩:=xR.1 B;exact r p g e
theorem Lo.upd (E D:List (Nat×Γ×TypeId)) {b:Nat} {w0 w:Γ} {e:TypeId} (h:Lo G F (E++(b,w0,e)::D)) {B:PH} (J:B b=mB (mX w e)) (I:dh (λx=>x=b) F B):Lo G B (E++(b,w,e)::D):=by
 obtain ⟨q,g⟩:=h.z (b,w0,e) (by simp);have nd:=h.nd;rw [yO,xV] at nd;have H:∀p,p∈E\/p∈D->p.1≠b:=λp r e=>by
  obtain ⟨_,n2,n3⟩:=VC.1 nd;rcases r with r|r
  ·exact n3 p.1 (xR.2 ⟨p,r,rfl⟩) b (by simp) e
  ·exact (Wx.1 n2).1 (xR.2 ⟨p,r,e⟩)
 have A:∀p,p∈E\/p∈D->B p.1=mB (mX p.2.1 p.2.2)/\G p.1=nC:=λp r=>by obtain ⟨a,c⟩:=h.z p (by simp only [vl,tQ];rcases r with r|r<;>simp [r]);exact ⟨I _ _ a (H p r),c⟩
 refine ⟨λx o C=>I x o (h.le x o C) λe=>(by rw [e] at C;rw [g] at C;cases C),λp r=> ?_,by rw [yO,xV];exact nd⟩;rcases vl.1 r with r|r
 ·exact A p (.inl r)
 ·rcases tQ.1 r with rfl|r
  ·exact ⟨J,g⟩
  ·exact A p (.inr r)
theorem Lo.put (B r:List (Nat×Γ×TypeId)) {b n:Nat} {w0 w:Γ} {e:TypeId} (h:Lo G F (B++(b,w0,e)::r)) (E:w.size=n) (D:w0.size=n) (A:∀v∈w.toList,ak v)
  {K:Ψ} (k:∀C,Lo G C (B++(b,w,e)::r)->K C):
  w.size=n/\(∀v∈w.toList,ak v)/\∃c e,F (pd b 0 nC).block=mB (mX c e (0,0))/\(pd b 0 nC).spot=nC/\(pd b 0 nC).off+n<=c.size/\
   wn (F.set (pd b 0 nC).block (mX (wr c (pd b 0 nC).off w.toList) e)) K:=by
 obtain ⟨q,g⟩:=h.z (b,w0,e) (by simp);refine Vd q E D A (k _ (h.upd B r (aq _ _ _) (dh.set _ (.inl rfl))))
theorem Lo.put1 (A r:List (Nat×Γ×TypeId)) {b i:Nat} {w0 w:Γ} {v:ξ} {e:TypeId} (h:Lo G F (A++(b,w0,e)::r)) (C:i<w0.size) (D:w0.setIfInBounds i v=w)
  {K:Ψ} (k:∀B,Lo G B (A++(b,w,e)::r)->K B):
  ∃c e,F (pd b i nC).block=mB (mX c e (0,0))/\(pd b i nC).spot=nC/\(pd b i nC).off<c.size/\
   wn (F.set (pd b i nC).block (mX (c.setIfInBounds (pd b i nC).off v) e)) K:=by
 obtain ⟨q,g⟩:=h.z (b,w0,e) (by simp);subst D;exact Wb (o:=i) q C (k _ (h.upd A r (aq _ _ _) (dh.set _ (.inl rfl))))
theorem Lo.join (A w:List (Nat×Γ×TypeId)) {b:Nat} {P Q:Nat->Bool} (h:Lo G F (A++(b,sS P,302)::w)):
  ν 235 #[pa b,.agg (sS Q)] F λr B=>r=.tuple #[]/\Lo G B (A++(b,sS (λi=>P i || Q i),302)::w):=by
 obtain ⟨q,g⟩:=h.z (b,sS P,302) (by simp);refine (uv (Q:=Q) (jZ.own.2 q)).mono ?_;rintro _ B ⟨rfl,D,C⟩;exact ⟨rfl,h.upd A w (jZ.own.1 D) C⟩
theorem Lo.add (w A:List (Nat×Γ×TypeId)) {b i:Nat} {P:Nat->Bool} (hi:i<512) (h:Lo G F (w++(b,sS P,302)::A)):
  ν 237 #[pa b,vi i] F λr B=>r=.tuple #[]/\Lo G B (w++(b,sS (λj=>P j || decide (j=i)),302)::A):=by
 obtain ⟨q,g⟩:=h.z (b,sS P,302) (by simp);refine (FR hi q).mono ?_;rintro _ B ⟨rfl,rfl⟩;exact ⟨rfl,h.upd w A (aq _ _ _) (dh.set _ (.inl rfl))⟩
theorem Lo.q0 {l:List (Nat×Γ×TypeId)} {b:Nat} {P Q:Nat->Bool} (h:Lo G F ((b,sS P,302)::l)) {K:Ψ} (k:∀g,Lo G g ((b,sS Q,302)::l)->K g):aB F (pd b 0 nC) 8 (sS Q) K:=Lo.put (n:=8) (w0:=sS P) (w:=sS Q) [] l h rfl rfl (fM _) k
theorem Lo.q1 {l:List (Nat×Γ×TypeId)} {g:Nat×Γ×TypeId} {b:Nat} {P Q:Nat->Bool} (h:Lo G F (g::(b,sS P,302)::l)) {K:Ψ} (k:∀r,Lo G r (g::(b,sS Q,302)::l)->K r):aB F (pd b 0 nC) 8 (sS Q) K:=Lo.put (n:=8) (w0:=sS P) (w:=sS Q) [g] l h rfl rfl (fM _) k
theorem Lo.q2 {l:List (Nat×Γ×TypeId)} {r g:Nat×Γ×TypeId} {b:Nat} {P Q:Nat->Bool} (h:Lo G F (r::g::(b,sS P,302)::l)) {K:Ψ} (k:∀A,Lo G A (r::g::(b,sS Q,302)::l)->K A):aB F (pd b 0 nC) 8 (sS Q) K:=Lo.put (n:=8) (w0:=sS P) (w:=sS Q) [r,g] l h rfl rfl (fM _) k
theorem Lo.q3 {l:List (Nat×Γ×TypeId)} {r g A:Nat×Γ×TypeId} {b:Nat} {P Q:Nat->Bool} (h:Lo G F (r::g::A::(b,sS P,302)::l)) {K:Ψ} (k:∀B,Lo G B (r::g::A::(b,sS Q,302)::l)->K B):aB F (pd b 0 nC) 8 (sS Q) K:=Lo.put (n:=8) (w0:=sS P) (w:=sS Q) [r,g,A] l h rfl rfl (fM _) k
theorem Lo.q4 {l:List (Nat×Γ×TypeId)} {g r B A:Nat×Γ×TypeId} {b:Nat} {P Q:Nat->Bool} (h:Lo G F (g::r::B::A::(b,sS P,302)::l)) {K:Ψ} (k:∀C,Lo G C (g::r::B::A::(b,sS Q,302)::l)->K C):aB F (pd b 0 nC) 8 (sS Q) K:=Lo.put (n:=8) (w0:=sS P) (w:=sS Q) [g,r,B,A] l h rfl rfl (fM _) k
theorem Lo.q5 {l:List (Nat×Γ×TypeId)} {g A C B r:Nat×Γ×TypeId} {b:Nat} {P Q:Nat->Bool} (h:Lo G F (g::A::C::B::r::(b,sS P,302)::l)) {K:Ψ} (k:∀D,Lo G D (g::A::C::B::r::(b,sS Q,302)::l)->K D):aB F (pd b 0 nC) 8 (sS Q) K:=Lo.put (n:=8) (w0:=sS P) (w:=sS Q) [g,A,C,B,r] l h rfl rfl (fM _) k
theorem Lo.q6 {l:List (Nat×Γ×TypeId)} {g A D B r C:Nat×Γ×TypeId} {b:Nat} {P Q:Nat->Bool} (h:Lo G F (g::A::D::B::r::C::(b,sS P,302)::l)) {K:Ψ} (k:∀E,Lo G E (g::A::D::B::r::C::(b,sS Q,302)::l)->K E):aB F (pd b 0 nC) 8 (sS Q) K:=Lo.put (n:=8) (w0:=sS P) (w:=sS Q) [g,A,D,B,r,C] l h rfl rfl (fM _) k
theorem Lo.jn0 {l:List (Nat×Γ×TypeId)} {b:Nat} {P Q:Nat->Bool} (h:Lo G F ((b,sS P,302)::l)):ν 235 #[pa b,.agg (sS Q)] F λr g=>r=.tuple #[]/\Lo G g ((b,sS (λi=>P i || Q i),302)::l):=Lo.join [] l h
theorem Lo.jn2 {l:List (Nat×Γ×TypeId)} {w g:Nat×Γ×TypeId} {b:Nat} {P Q:Nat->Bool} (h:Lo G F (w::g::(b,sS P,302)::l)):ν 235 #[pa b,.agg (sS Q)] F λr A=>r=.tuple #[]/\Lo G A (w::g::(b,sS (λi=>P i || Q i),302)::l):=Lo.join [w,g] l h
theorem Lo.jn3 {l:List (Nat×Γ×TypeId)} {w g A:Nat×Γ×TypeId} {b:Nat} {P Q:Nat->Bool} (h:Lo G F (w::g::A::(b,sS P,302)::l)):ν 235 #[pa b,.agg (sS Q)] F λr B=>r=.tuple #[]/\Lo G B (w::g::A::(b,sS (λi=>P i || Q i),302)::l):=Lo.join [w,g,A] l h
theorem Lo.ad2 {l:List (Nat×Γ×TypeId)} {w g:Nat×Γ×TypeId} {b i:Nat} {P:Nat->Bool} (hi:i<512) (h:Lo G F (w::g::(b,sS P,302)::l)):ν 237 #[pa b,vi i] F λr A=>r=.tuple #[]/\Lo G A (w::g::(b,sS (λj=>P j || decide (j=i)),302)::l):=Lo.add [w,g] l hi h
end
def cZ (n:Nat) (R:Nat->Nat->Bool):Ξ:=(List.range n).flatMap λi=>(sS (R i)).toList
theorem qhI (n:Nat) (R:Nat->Nat->Bool):(cZ n R).length=n*8:=by
 unfold cZ;induction n with
 |zero=>rfl
 |succ n ih=>rw [List.range_succ,XV,tT,ih];simp [sS];omega
theorem rX {f g:Nat->Ξ}:∀{l:Δ},(∀j∈l,f j=g j)->l.flatMap f=l.flatMap g
 |[],_=>rfl
 |a::l,h=>by rw [VD,VD,h a (by simp),rX λj r=>h j (by simp [r])]
theorem yU (f:Nat->Ξ) {n i:Nat} (hi:i<n):(List.range n).flatMap f=(List.range i).flatMap f++f i++((List.range (n - i - 1)).map (· +(i+1))).flatMap f:=by
 have:List.range n=List.range i++[i]++(List.range (n - i - 1)).map (· +(i+1)):=by
  have g:n=(i+1)+(n - i - 1):=by omega
  rw [g,List.range_add,List.range_succ,show i+1+(n - i - 1) - i - 1=n - i - 1 by omega];congr 1;apply List.map_congr_left;intro a _;omega
 rw [this,XV,XV,VD,List.flatMap_nil,yD]
theorem oG {n:Nat} {R S:Nat->Nat->Bool} (h:∀i,i<n->R i=S i):cZ n R=cZ n S:=by unfold cZ;exact rX λj g=>by rw [h j (Wy.1 g)]
theorem oH {n i:Nat} (hi:i<n) (R:Nat->Nat->Bool):∃pre post,pre.length=i*8/\cZ n R=pre++(sS (R i)).toList++post/\∀g,(∀j,j≠i->g j=R j)->cZ n g=pre++(sS (g i)).toList++post:=by
 refine ⟨cZ i R,((List.range (n - i - 1)).map (· +(i+1))).flatMap (λj=>(sS (R j)).toList),qhI i R,yU _ hi,λg h=> ?_⟩;have e:=yU (λj=>(sS (g j)).toList) hi;have w:cZ i g=cZ i R:=oG λj r=>h j (by omega);have A:((List.range (n - i - 1)).map (· +(i+1))).flatMap (λj=>(sS (g j)).toList)=((List.range (n - i - 1)).map (· +(i+1))).flatMap (λj=>(sS (R j)).toList):=rX λj r=>by obtain ⟨a,_,rfl⟩:=xR.1 r;rw [h _ (by omega)]
 rw [A] at e;rw [<- w];exact e
structure Lnk (F:PH) (b3 bm bf n:Nat) (R:Nat->Nat->Bool):Prop where
 tab:Tab F
 q3:F b3=mB (mX #[pa bm] 299)
 q17:∃mc,F bm=mB (mX mc 305)/\mc[17]? =mB (nV ⟨mB ⟨bf,0,nC⟩,n,n⟩)
 qf:F bf=mB (mX (cZ n R).toArray 302)
theorem Lnk.keep {F r:PH} {G bm g n:Nat} {R E:Nat->Nat->Bool} (h:Lnk F G bm g n R) (w:dh (λx=>x=g) F r) (I:r g=mB (mX (cZ n E).toArray 302)) (K:g≠0):Lnk r G bm g n E:=by
 obtain ⟨B,q3,⟨H,C,A⟩,D⟩:=h;refine ⟨λk v J=> ?_,w _ _ q3 λe=> ?_,⟨H,w _ _ C λe=> ?_,A⟩,I⟩
 ·have:=B k v J;unfold PH.cell at this ⊢;cases hz:F 0 with
  |none=>rw [hz] at this;cases this
  |some o=>rw [hz] at this;rw [w _ _ hz K.symm];exact this
 ·rw [e,D] at q3;simp at q3
 ·rw [e,D] at C;simp at C
theorem Lnk.le {F A:PH} {B bm C n:Nat} {R:Nat->Nat->Bool} (h:Lnk F B bm C n R) (g:F.le A):Lnk A B bm C n R:=by obtain ⟨w,q3,⟨E,G,r⟩,D⟩:=h;exact ⟨w.le g,g _ _ q3,⟨E,g _ _ G,r⟩,g _ _ D⟩
section
variable {F:PH} {b3 bm bf n:Nat} {R:Nat->Nat->Bool}
theorem BF (h:Lnk F b3 bm bf n R) (Z:bf≠0) {i bt:Nat} {Q:Nat->Bool} (hi:i<n) (U:F bt=mB (mX (sS Q) 302)) (X:bt≠bf):
  ν 234 #[vi i,pa b3,pa bt] F λr A=>r=.tuple #[]/\Lnk A b3 bm bf n (λk j=>R k j || (decide (k=i) && Q j))/\dh (λx=>x=bf) F A:=by
 obtain ⟨O,q3,⟨mc,Y,I⟩,P⟩:=id h;refine qcN ?_;unfold Pd;obtain ⟨w,g,C,L,K⟩:=oH hi R;have V:F.cell (pd b3 0 nC)=mB (pa bm):=by rw [av q3];rfl
 have H:F.cell ((pd bm 0 nC).add 17)=mB (nV ⟨mB ⟨bf,0,nC⟩,n,n⟩):=by rw [cx,yp,av Y];exact I
 refine ⟨_,rfl,_,V,_,rfl,_,H,_,rfl,by omega,by simp only;omega,_,rfl,sS Q,rfl,ai U,?_⟩;have W:(pd bf 0 nC).add (pc (i:Int)*8)=⟨bf,w.length,nC⟩:=by rw [cx,yp,N4,C]
 rw [W];have M:jZ F bf 302 w (R i) g:=by unfold jZ;rw [<- L];exact P
 refine (uv (Q:=Q) M).mono ?_;rintro _ A ⟨rfl,E,D⟩;have e:∀k,k≠i->(λk j=>R k j || (decide (k=i) && Q j)) k=R k:=λk D=>by funext j;simp [D]
 have G:Lnk A b3 bm bf n (λk j=>R k j || (decide (k=i) && Q j)):=h.keep D (by
  rw [K _ e];have:(λj=>R i j || (decide (i=i) && Q j))=λj=>R i j || Q j:=by funext j;simp
  show A bf=mB (mX (w++(sS (λj=>R i j || (decide (i=i) && Q j))).toList++g).toArray 302);rw [this]
  exact E) Z
 obtain ⟨N,J,B⟩:=G.q17;exact ⟨rfl,by rw [cx,yp,av J];exact B,by rw [av G.q3];rfl,rfl,G,D⟩
theorem R7:aG prog 234=nZ:=by kernel_rfl
theorem uB (h:Lnk F b3 bm bf n R) (W:bf≠0) (L:n<=512) {P Q:Nat->Bool} (O:∀i,P i=nZ->i<n):
  ν 232 #[.agg (sS P),.agg (sS Q),pa b3] F λr g=>r=.tuple #[]/\Lnk g b3 bm bf n (λk j=>R k j || (P k && Q j))/\dh (λx=>x=bf) F g:=by
 refine qcL ?_;unfold Pb;intro c E;refine tP ?_;have K:=ae (mX (sS P) 302) E;have N:=aq F c (mX (sS P) 302);generalize F.set c (mX (sS P) 302)=J at*;intro d hd;refine tP ?_;have ld:=ae (mX (sS Q) 302) hd;have U:=aq J d (mX (sS Q) 302);have H:=ld _ _ N;generalize J.set d (mX (sS Q) 302)=F2 at*;have G:c≠bf:=λe=>by rw [e,h.qf] at E;cases E
 have C:d≠bf:=λe=>by rw [e,K _ _ h.qf] at hd;cases hd
 have I:=aa K ld
 refine (uw (a:=⟨c,0,nC⟩) (P:=P) (k:=234) (cap:= #[pa b3,pa d]) (Inv:=λm g=>Lnk g b3 bm bf n (λk j=>R k j || (decide (k<m) && P k && Q j))/\dh (λx=>x=bf) F2 g) R7 rfl
  (λm g w=>⟨w.1.tab,ai (w.2 _ _ H G)⟩) (λi g hi D w=> ?_) (λi g hi D w=> ?_) ⟨?_,dh.refl _ _⟩).mono ?_
 ·refine ⟨?_,w.2⟩;have:(λk j=>R k j || (decide (k<i+1) && P k && Q j))=λk j=>R k j || (decide (k<i) && P k && Q j):=by
   funext k j;by_cases A:k=i
   ·subst A;simp [D]
   ·rw [show decide (k<i+1)=decide (k<i) by rw [wR];simp;omega]
  rw [this];exact w.1
 ·refine (BF w.1 W (O i D) (w.2 _ _ U C) C).mono ?_;rintro _ V ⟨rfl,B,A⟩;refine ⟨rfl,?_,w.2.trans A⟩;have:(λk j=>(R k j || (decide (k<i) && P k && Q j)) || (decide (k=i) && Q j))=λk j=>R k j || (decide (k<i+1) && P k && Q j):=by
   funext k j;by_cases A:k=i
   ·subst A;simp [D]
   ·rw [show decide (k<i+1)=decide (k<i) by rw [wR];simp;omega];simp [A]
  rw [<- this];exact B
 ·have:(λk j=>R k j || (decide (k<0) && P k && Q j))=R:=by funext k j;simp
  rw [this];exact h.le I
 ·rintro _ g ⟨rfl,B,A⟩;refine ⟨rfl,rfl,?_,λx o M L=>A x o (I _ _ M) L⟩;have:Lnk g b3 bm bf n (λk j=>R k j || (P k && Q j)):=by
   refine ⟨B.tab,B.q3,B.q17,?_⟩;have e:cZ n (λk j=>R k j || (P k && Q j))=cZ n (λk j=>R k j || (decide (k<512) && P k && Q j)):=by refine oG λi hi=> ?_;funext j;rw [show decide (i<512)=nZ by simp;omega,V8]
   rw [e];exact B.qf
  exact this
end
theorem Js:aG prog 232=nZ:=by kernel_rfl
theorem nQ:aG prog 236=nZ:=by kernel_rfl
open Classical in
def fB (t:Lt):Nat->Bool:=λj=>decide (t.first j)
open Classical in
def lB (t:Lt):Nat->Bool:=λj=>decide (t.last j)
open Classical in
def yZ (t:Lt):Nat->Nat->Bool:=λi j=>decide (t.fol i j)
theorem dL {t:Lt} {j:Nat}:fB t j=nZ↔t.first j:=by simp [fB]
theorem dg {t:Lt} {j:Nat}:lB t j=nZ↔t.last j:=by simp [lB]
theorem jD {t:Lt} {i j:Nat}:yZ t i j=nZ↔t.fol i j:=by simp [yZ]
theorem R8:fB .emp=noP:=by funext j;rw [wR,dL];simp [Lt.first,noP]
theorem R9:lB .emp=noP:=by funext j;rw [wR,dg];simp [Lt.last,noP]
theorem MJ (i j:Nat):yZ .emp i j=nS:=by rw [<- Yw,jD];exact id
theorem Sa {i lo hi:Nat}:fB (.rng i lo hi)=λj=>noP j || decide (j=i):=by funext j;rw [wR,dL];simp [Lt.first,noP];exact eq_comm
theorem Sc {i lo hi:Nat}:lB (.rng i lo hi)=λj=>noP j || decide (j=i):=by funext j;rw [wR,dg];simp [Lt.last,noP];exact eq_comm
theorem MK {i lo hi:Nat} (k j:Nat):yZ (.rng i lo hi) k j=nS:=by rw [<- Yw,jD];exact id
theorem ML {t u:Lt} (h:t.nul=nZ):fB (.seq t u)=λi=>fB t i || fB u i:=by funext j;rw [wR,WM,dL,dL,dL];simp [Lt.first,h]
theorem MM {t u:Lt} (h:t.nul=nS):fB (.seq t u)=fB t:=by funext j;rw [wR,dL,dL];simp [Lt.first,h]
theorem MN {t u:Lt} (h:u.nul=nZ):lB (.seq t u)=λi=>lB u i || lB t i:=by funext j;rw [wR,WM,dg,dg,dg];simp [Lt.last,h]
theorem MO {t u:Lt} (h:u.nul=nS):lB (.seq t u)=lB u:=by funext j;rw [wR,dg,dg];simp [Lt.last,h]
theorem MP {t u:Lt} (k j:Nat):yZ (.seq t u) k j=(yZ t k j || (yZ u k j || (lB t k && fB u j))):=by rw [wR];simp only [WM,Vv,jD,dg,dL,Lt.fol]
theorem Sd {t u:Lt}:fB (.alt t u)=λi=>fB t i || fB u i:=by funext j;rw [wR,WM,dL,dL,dL];simp [Lt.first]
theorem Se {t u:Lt}:lB (.alt t u)=λi=>lB t i || lB u i:=by funext j;rw [wR,WM,dg,dg,dg];simp [Lt.last]
theorem MQ {t u:Lt} (k j:Nat):yZ (.alt t u) k j=(yZ t k j || yZ u k j):=by rw [wR];simp only [WM,jD,Lt.fol]
theorem Sf {t:Lt}:fB (.rep t)=fB t:=by funext j;rw [wR,dL,dL];simp [Lt.first]
theorem Sg {t:Lt}:lB (.rep t)=lB t:=by funext j;rw [wR,dg,dg];simp [Lt.last]
theorem MR {t:Lt} (k j:Nat):yZ (.rep t) k j=(yZ t k j || (lB t k && fB t j)):=by rw [wR];simp only [WM,Vv,jD,dg,dL,Lt.fol]
theorem dE {l:List Nd} {i:Nat} {t:Lt} {ns:Δ} (h:cL l i t ns):(∀j∈ns,j<l.length)/\∀j,t.lab j->j∈ns:=by
 induction h with
 |emp r B=>exact ⟨λj g=>by simp at g;subst g;exact (N6.1 r).1,λj h=>h.elim⟩
 |rng r B _ _ _ _=>exact ⟨λj g=>by simp at g;subst g;exact (N6.1 r).1,λj h=>by rw [show j=_ from h.symm];simp⟩
 |seq r B _ _ _ _ w A=>
  refine ⟨λj g=> ?_,λj h=> ?_⟩
  ·simp only [zH,tQ,vl] at g;rcases g with rfl|g|g
   ·exact (N6.1 r).1
   ·exact w.1 j g
   ·exact A.1 j g
  ·simp only [zH,tQ,vl];exact .inr (h.elim (λh=> .inl (w.2 j h)) λh=> .inr (A.2 j h))
 |alt r B _ _ _ _ w A=>
  refine ⟨λj g=> ?_,λj h=> ?_⟩
  ·simp only [zH,tQ,vl] at g;rcases g with rfl|g|g
   ·exact (N6.1 r).1
   ·exact w.1 j g
   ·exact A.1 j g
  ·simp only [zH,tQ,vl];exact .inr (h.elim (λh=> .inl (w.2 j h)) λh=> .inr (A.2 j h))
 |rep r B _ _ w=>
  refine ⟨λj g=> ?_,λj h=> ?_⟩
  ·simp only [tQ] at g;rcases g with rfl|g
   ·exact (N6.1 r).1
   ·exact w.1 j g
  ·exact VB _ (w.2 j h)
theorem Ef {l:List Nd} {i:Nat} {t:Lt} {ns:Δ} (h:cL l i t ns) {j:Nat} (g:lB t j=nZ):j<l.length:=(dE h).1 j ((dE h).2 j (t.last_lab (dg.1 g)))
theorem RdS.keep {F r:PH} {s:Sl} {size:Nat} {vs:Ξ} (h:RdS F s size vs) (A:∀a,s.qa5=mB a->∀o,F a.block=mB o->r a.block=mB o):RdS r s size vs:=by
 refine ⟨h.len,h.cap,λB=> ?_⟩;obtain ⟨b,o,w,C⟩:=h.cells B;refine ⟨b,o,w,λi hi=> ?_⟩;have g:=C i hi;unfold PH.cell at g ⊢;cases hz:F b with
 |none=>simp only [hz] at g;cases g
 |some D=>simp only [hz] at g;simp only [A _ w D hz];exact g
structure Cmp (F:PH) (b1 b3 b4 b5 bm bf:Nat) (l:List Nd) (R:Nat->Nat->Bool):Prop where
 lnk:Lnk F b3 bm bf l.length R
 q1:∃s:Sl,F b1=mB (mX #[s.v] 164)/\RdS F s 5 (dC l)/\∀a,s.qa5=mB a->a.block≠bf
 q4:F b4=mB (mX #[.func (.func 236) #[] #[pa b1,pa b4,pa b5]] 329)
 q5:F b5=mB (mX #[.func (.func 232) #[] #[pa b3]] 332)
section
variable {F F':PH} {b1 b3 b4 b5 bm bf:Nat} {l:List Nd} {R R':Nat->Nat->Bool}
theorem Cmp.le (h:Cmp F b1 b3 b4 b5 bm bf l R) (g:F.le F'):Cmp F' b1 b3 b4 b5 bm bf l R:=by obtain ⟨s,a,b,c⟩:=h.q1;exact ⟨h.lnk.le g,⟨s,g _ _ a,b.le g,c⟩,g _ _ h.q4,g _ _ h.q5⟩
theorem Cmp.keep (h:Cmp F b1 b3 b4 b5 bm bf l R) (r:dh (λx=>x=bf) F F') (C:Lnk F' b3 bm bf l.length R'):Cmp F' b1 b3 b4 b5 bm bf l R':=by
 obtain ⟨s,a,b,c⟩:=h.q1;have g:∀{x:Nat} {D:Γ} {e:TypeId},e≠302->F x=mB (mX D e)->x≠bf:=λG w e=>by rw [e,h.lnk.qf] at w;simp at w;exact G w.2.symm
 exact ⟨C,⟨s,r _ _ a (g (by decide) a),b.keep λE A o B=>r _ _ B (c E A),c⟩,r _ _ h.q4 (g (by decide) h.q4),r _ _ h.q5 (g (by decide) h.q5)⟩
theorem Cmp.to (h:Cmp F b1 b3 b4 b5 bm bf l R) (e:∀k j,R k j=R' k j):Cmp F b1 b3 b4 b5 bm bf l R':=by
 have:R=R':=by funext k j;exact e k j
 rw [<- this];exact h
set_option maxHeartbeats 4000000 in
theorem FT (E:l.length<=512) (h0:bf≠0) {i:Nat} {t:Lt} {ns:Δ} (h:cL l i t ns):∀{F:PH} {R:Nat->Nat->Bool},Cmp F b1 b3 b4 b5 bm bf l R->
    ν 236 #[vi i,pa b1,pa b4,pa b5] F λr F'=>r=.tuple #[.agg (sS (fB t)),.agg (sS (lB t)),.bool t.nul]/\Cmp F' b1 b3 b4 b5 bm bf l (λk j=>R k j || yZ t k j)/\dh (λx=>x=bf) F F':=by
  induction h with
    (intro F R C
     obtain ⟨s,q1,hs,c3⟩:=C.q1;have a8:=hs.nlen;have c8:=(N6.1 M).1;obtain ⟨ad,a4,Z⟩:=W4 hs M;refine qcP ?_;unfold Pf;have h:=Lo.start F;refine h.new _ _ λr1 F1 h=>h.new _ _ λr2 F2 h=> ?_;rw [<- dD] at h;refine ⟨_,rfl,s,by rw [av (h.le _ _ q1)];rfl,ad,a4,by omega,by omega,x.arr,rfl,λk g=>aK h.le (Z k g),?_⟩;refine h.new _ _ λb8 F3 h=>Lo.put [] _ (w:=x.arr) (n:=5) h rfl rfl (gj x) λF4 h=> ?_;refine ⟨x.k,h.cl 0 rfl rfl,?_⟩
     have D:dh (λx=>x=bf) F F:=dh.refl _ _)
  | @emp i x M J=>refine ⟨λh=>absurd h (by omega),λ_=>⟨λh=>absurd h (by omega),λ_=>⟨λh=>absurd h (by omega),λ_=>⟨λh=>absurd h (by omega),λ_=> ?_⟩⟩⟩⟩;refine ⟨sS noP,rfl,h.ro 2 rfl,sS noP,rfl,h.ro 1 rfl,?_⟩;refine h.q2 λF5 h=>⟨h.ro 1 rfl,h.q1 λF6 h=>⟨sS noP,rfl,h.ro 2 rfl,sS noP,rfl,h.ro 1 rfl,?_,(C.le h.le).to (λk j=>by rw [MJ,YC]),λy o H E=>h.le _ _ (D y o H E)⟩⟩;rw [R8,R9,Lt.nul]
  | @rng i lo hi x M J b6 c2 b0 a9=>refine ⟨λ_=> ?_,λh=>absurd J h⟩;refine (h.ad2 (by omega)).mono ?_;rintro _ F5 ⟨rfl,h⟩;refine ⟨rfl,_,rfl,h.ro 2 rfl,_,rfl,h.ro 2 rfl,?_⟩;refine h.q2 λF6 h=>h.q1 λF7 h=>⟨_,rfl,h.ro 2 rfl,_,rfl,h.ro 1 rfl,?_,(C.le h.le).to (λk j=>by rw [MK,YC]),λy o H E=>h.le _ _ (D y o H E)⟩;rw [Sa,Sc,Lt.nul]
  | @seq i a b x t u na nb M J G L ht hu it iu=>
    refine ⟨λh=>absurd h (by omega),λ_=>⟨λ_=> ?_,λh=>absurd J h⟩⟩;refine ⟨_,rfl,_,by rw [av (h.le _ _ C.q4)];rfl,_,h.cl 0 rfl rfl,236,#[],_,rfl,nQ,?_⟩;rw [G];refine (h.call (it C)).mono ?_;rintro _ F5 ⟨G5,⟨rfl,C,g⟩,h⟩;have D:=D.trans g;refine ⟨_,_,_,rfl,?_⟩;refine h.new _ _ λb9 F6 h=>h.new _ _ λK F7 h=> ?_;rw [<- dD] at h;refine h.q1 λF8 h=>h.q0 λF9 h=> ?_;refine ⟨_,by rw [av (h.le _ _ C.q4)];rfl,_,h.cl 2 rfl rfl,236,#[],_,rfl,nQ,?_⟩;rw [L];refine (h.call (iu C)).mono ?_;rintro _ X ⟨U,⟨rfl,C,g⟩,h⟩;have D:=D.trans g;refine ⟨_,_,_,rfl,?_⟩;refine h.new _ _ λY W h=>h.new _ _ λI V h=> ?_;rw [<- dD] at h;refine h.q1 λa2 h=>h.q0 λa6 h=> ?_;refine ⟨_,rfl,_,by rw [av (h.le _ _ C.q5)];rfl,sS (lB t),rfl,h.ro 2 rfl,sS (fB u),rfl,h.ro 1 rfl,232,#[],_,rfl,Js,?_⟩;refine (h.call (uB (P:=lB t) (Q:=fB u) C.lnk h0 E (λj hj=>Ef ht hj))).mono ?_;rintro _ a3 ⟨a0,⟨rfl,hL,g⟩,h⟩;have C:=C.keep g hL;have D:=D.trans g;refine ⟨rfl,?_⟩;have N:∀k j,(R k j || yZ t k j || yZ u k j || (lB t k && fB u j))=(R k j || yZ (.seq t u) k j):=λk j=>by rw [MP];simp only [Bool.or_assoc]
    have j2:∀{A B:Nat->Bool} {F':PH},fB (.seq t u)=A->lB (.seq t u)=B->Lo a0 F' [(I,sS B,302),(Y,sS (fB u),302),(K,sS (lB t),302),(b9,sS A,302),(b8,x.arr,225),(r2,sS noP,302),(r1,sS noP,302)]->pS r1 r2 b9 t.nul I u.nul (λr F'=>r=.tuple #[.agg (sS (fB (.seq t u))),.agg (sS (lB (.seq t u))),.bool (Lt.nul (.seq t u))]/\Cmp F' b1 b3 b4 b5 bm bf l (λk j=>R k j || yZ (.seq t u) k j)/\dh (λx=>x=bf) F F') F':=λ{A B F'} e1 e2 h=>by
      unfold pS;rw [e1,e2];refine ⟨_,rfl,h.ro 3 rfl,_,rfl,h.ro 0 rfl,λO=> ?_,λO=> ?_⟩;all_goals
        refine h.q6 λa1 h=>h.q5 λc5 h=>⟨_,rfl,h.ro 6 rfl,_,rfl,h.ro 5 rfl,?_,(C.le h.le).to N,λy o H E=>h.le _ _ (D y o H E)⟩;simp only [Lt.nul,O];rfl
    have j1:∀{A:Nat->Bool} {F':PH},fB (.seq t u)=A->Lo a0 F' [(I,sS (lB u),302),(Y,sS (fB u),302),(K,sS (lB t),302),(b9,sS A,302),(b8,x.arr,225),(r2,sS noP,302),(r1,sS noP,302)]->pT r1 r2 b9 K t.nul I u.nul (λr F'=>r=.tuple #[.agg (sS (fB (.seq t u))),.agg (sS (lB (.seq t u))),.bool (Lt.nul (.seq t u))]/\Cmp F' b1 b3 b4 b5 bm bf l (λk j=>R k j || yZ (.seq t u) k j)/\dh (λx=>x=bf) F F') F':=λ{A F'} e1 h=>by unfold pT;refine ⟨λhb=>⟨_,rfl,h.ro 2 rfl,(h.jn0).mono ?_⟩,λhb=>j2 e1 (MO hb) h⟩;rintro _ a5 ⟨rfl,h⟩;exact ⟨rfl,j2 e1 (MN hb) h⟩
    refine ⟨λHA=>⟨_,rfl,h.ro 1 rfl,(h.jn3).mono ?_⟩,λHA=>j1 (MM HA) h⟩;rintro _ a7 ⟨rfl,h⟩;exact ⟨rfl,j1 (ML HA) h⟩
  | @alt i a b x t u na nb M J G L ht hu it iu=>
    refine ⟨λh=>absurd h (by omega),λ_=>⟨λh=>absurd h (by omega),λ_=>⟨λ_=> ?_,λh=>absurd J h⟩⟩⟩;refine ⟨_,rfl,_,by rw [av (h.le _ _ C.q4)];rfl,_,h.cl 0 rfl rfl,236,#[],_,rfl,nQ,?_⟩;rw [G];refine (h.call (it C)).mono ?_;rintro _ F5 ⟨G5,⟨rfl,C,g⟩,h⟩;have D:=D.trans g;refine ⟨_,_,_,rfl,?_⟩;refine h.new _ _ λc7 F6 h=>h.new _ _ λb7 F7 h=> ?_;rw [<- dD] at h;refine h.q1 λF8 h=>h.q0 λF9 h=> ?_;refine ⟨_,by rw [av (h.le _ _ C.q4)];rfl,_,h.cl 2 rfl rfl,236,#[],_,rfl,nQ,?_⟩;rw [L];refine (h.call (iu C)).mono ?_;rintro _ X ⟨U,⟨rfl,C,g⟩,h⟩;have D:=D.trans g;refine ⟨_,_,_,rfl,?_⟩;refine h.new _ _ λc9 W h=>h.new _ _ λc6 V h=> ?_;rw [<- dD] at h;refine h.q1 λa2 h=>h.q0 λa6 h=> ?_;refine ⟨_,rfl,h.ro 1 rfl,(h.jn3).mono ?_⟩;rintro _ a3 ⟨rfl,h⟩;refine ⟨rfl,_,rfl,h.ro 0 rfl,(h.jn2).mono ?_⟩;rintro _ a7 ⟨rfl,h⟩;have N:∀k j,(R k j || yZ t k j || yZ u k j)=(R k j || yZ (.alt t u) k j):=λk j=>by rw [MQ,Bool.or_assoc]
    refine ⟨rfl,_,rfl,h.ro 3 rfl,_,rfl,h.ro 2 rfl,λO=> ?_,λO=> ?_⟩;all_goals
      refine h.q6 λa5 h=>h.q5 λa1 h=>⟨_,rfl,h.ro 6 rfl,_,rfl,h.ro 5 rfl,?_,(C.le h.le).to N,λy o H E=>h.le _ _ (D y o H E)⟩;rw [Sd,Se];simp only [Lt.nul,O];rfl
  | @rep i a x t na M J G ht it=>
    refine ⟨λh=>absurd h (by omega),λ_=>⟨λh=>absurd h (by omega),λ_=>⟨λh=>absurd h (by omega),λ_=>⟨λ_=> ?_,λh=>absurd J h⟩⟩⟩⟩;refine ⟨_,rfl,_,by rw [av (h.le _ _ C.q4)];rfl,_,h.cl 0 rfl rfl,236,#[],_,rfl,nQ,?_⟩;rw [G];refine (h.call (it C)).mono ?_;rintro _ F5 ⟨G5,⟨rfl,C,g⟩,h⟩;have D:=D.trans g;refine ⟨_,_,_,rfl,?_⟩;refine h.new _ _ λb2 F6 h=>h.new _ _ λc4 F7 h=> ?_;rw [<- dD] at h;refine h.q1 λF8 h=>h.q0 λF9 h=> ?_;refine ⟨_,rfl,_,by rw [av (h.le _ _ C.q5)];rfl,sS (lB t),rfl,h.ro 0 rfl,sS (fB t),rfl,h.ro 1 rfl,232,#[],_,rfl,Js,?_⟩;refine (h.call (uB (P:=lB t) (Q:=fB t) C.lnk h0 E (λj hj=>Ef ht hj))).mono ?_;rintro _ X ⟨U,⟨rfl,hL,g⟩,h⟩;have C:=C.keep g hL;have D:=D.trans g;have N:∀k j,(R k j || yZ t k j || (lB t k && fB t j))=(R k j || yZ (.rep t) k j):=λk j=>by rw [MR];simp only [Bool.or_assoc]
    refine ⟨rfl,_,rfl,h.ro 1 rfl,_,rfl,h.ro 0 rfl,?_⟩;refine h.q4 λW h=>⟨h.ro 0 rfl,h.q3 λV h=>⟨_,rfl,h.ro 4 rfl,_,rfl,h.ro 3 rfl,?_,(C.le h.le).to N,λy o H E=>h.le _ _ (D y o H E)⟩⟩;rw [Sf,Sg,Lt.nul]
end
def bK (s:Sl) (P Q:Nat->Bool) (bf n:Nat) (e:Bool):Γ:=
 #[s.v,cT (wd P 0),cT (wd P 1),cT (wd P 2),cT (wd P 3),cT (wd P 4),cT (wd P 5),cT (wd P 6),cT (wd P 7),
  cT (wd Q 0),cT (wd Q 1),cT (wd Q 2),cT (wd Q 3),cT (wd Q 4),cT (wd Q 5),cT (wd Q 6),cT (wd Q 7),nV ⟨mB ⟨bf,0,nC⟩,n,n⟩,.bool e]
theorem qed (H Q U a3 Y V W Z X J A r C D B g h E w K N I G M L P O:ξ):wr (#[H,Q,U,a3,Y,V,W,Z,X,J,A,r,C,D,B,g,h,E,w]:Γ) 1 [K,N,I,G,M,L,P,O]= #[H,K,N,I,G,M,L,P,O,J,A,r,C,D,B,g,h,E,w]:=
 (jL [K,N,I,G,M,L,P,O] [H,Q,U,a3,Y,V,W,Z,X,J,A,r,C,D,B,g,h,E,w] 1 (by show 9<=19;omega)).trans rfl
theorem qee (J G H Z X L M Y P a9 B A D E C r w h g N U K I Q O W V:ξ):wr (#[J,G,H,Z,X,L,M,Y,P,a9,B,A,D,E,C,r,w,h,g]:Γ) 9 [N,U,K,I,Q,O,W,V]= #[J,G,H,Z,X,L,M,Y,P,N,U,K,I,Q,O,W,V,h,g]:=
 (jL [N,U,K,I,Q,O,W,V] [J,G,H,Z,X,L,M,Y,P,a9,B,A,D,E,C,r,w,h,g] 9 (by show 17<=19;omega)).trans rfl
theorem qef (s:Sl) (P h Q:Nat->Bool) (g n:Nat) (e:Bool):wr (bK s h Q g n e) 1 (sS P).toList=bK s P Q g n e:=qed _ _ _ _ _ _ _ _ _ _ _ _ _ _ _ _ _ _ _ _ _ _ _ _ _ _ _
theorem qeg (s:Sl) (P h Q:Nat->Bool) (g n:Nat) (e:Bool):wr (bK s P h g n e) 9 (sS Q).toList=bK s P Q g n e:=qee _ _ _ _ _ _ _ _ _ _ _ _ _ _ _ _ _ _ _ _ _ _ _ _ _ _ _
theorem qeh (s:Sl) (P Q:Nat->Bool) (g n:Nat) (e e':Bool):(bK s P Q g n e).setIfInBounds 18 (.bool e')=bK s P Q g n e':=rfl
def Vi:Nat->Nat->Bool:=λ_ _=>nS
theorem uC:∀n:Nat,cZ n Vi=List.replicate (n*8) (.int .u64 0)
 |0=>rfl
 |n+1=>by
  have:=uC n;unfold cZ at this ⊢;rw [List.range_succ,XV,this,VD,List.flatMap_nil,yD];have e:(sS (Vi n)).toList=List.replicate 8 (.int .u64 0):=by show (sS noP).toList=_;rw [dD];rfl
  rw [e,List.replicate_append_replicate];congr 1;omega
theorem Jt:vV prog 302=mB (8,64):=by kernel_rfl
theorem Ju:bv prog 302=mB (.agg #[.int .u64 0,.int .u64 0,.int .u64 0,.int .u64 0,.int .u64 0,.int .u64 0,.int .u64 0,.int .u64 0]):=by kernel_rfl
theorem Z7 (n:Nat):Builtin.zeroCells (Value.agg #[.int .u64 0,.int .u64 0,.int .u64 0,.int .u64 0,.int .u64 0,.int .u64 0,.int .u64 0,.int .u64 0]).cells n=(cZ n Vi).toArray:=by
 rw [uC];have g:(Value.agg #[.int .u64 0,.int .u64 0,.int .u64 0,.int .u64 0,.int .u64 0,.int .u64 0,.int .u64 0,.int .u64 0]).cells=(List.replicate 8 (Value.int .u64 0)).toArray:=rfl;rw [g];apply Array.ext
 ·simp [Builtin.zeroCells]
 ·intro i r h;simp only [Builtin.zeroCells,Array.getElem_map,Array.getElem_range,List.getElem_toArray,List.getElem_replicate];have:i % (List.replicate 8 (Value.int .u64 0)).toArray.size<8:=VU _ (by decide);rw [getElem!_pos _ _ (by simpa using this)];simp only [XH,Xn,List.getElem_toArray,List.getElem_replicate]
structure Mch (F:PH) (bm:Nat) (l:List Nd) (t:Lt):Prop where
 ex:∃(s:Sl) (bf:Nat),F bm=mB (mX (bK s (fB t) (lB t) bf l.length t.nul) 305)/\RdS F s 5 (dC l)/\F bf=mB (mX (cZ l.length (yZ t)).toArray 302)
theorem Mch.le {F G:PH} {bm:Nat} {l:List Nd} {t:Lt} (h:Mch F bm l t) (g:F.le G):Mch G bm l t:=by obtain ⟨s,r,a,b,c⟩:=h.ex;exact ⟨s,r,g _ _ a,b.le g,g _ _ c⟩
theorem Tab.zero {F:PH} (h:Tab F):∃o,F 0=mB o:=by
 have:=h 0 0 rfl;unfold PH.cell at this;cases hz:F 0 with
 |none=>rw [hz] at this;cases this
 |some o=>exact ⟨o,rfl⟩
theorem RdS.block {F:PH} {s:Sl} {size:Nat} {vs:Ξ} (h:RdS F s size vs) (D:0<vs.length) {a:Addr} (A:s.qa5=mB a):∃o,F a.block=mB o:=by
 have B:0<s.len:=by
  rcases XL s.len with r|r
  ·have:=h.len;rw [r,V9] at this;omega
  ·exact r
 obtain ⟨b,o,w,C⟩:=h.cells B;rw [A] at w;cases w;have g:=C 0 D;unfold PH.cell at g;cases hz:F b with
 |none=>simp only [hz] at g;cases g
 |some E=>exact ⟨E,rfl⟩
theorem Lo.new' {G F:PH} {xs:List (Nat×Γ×TypeId)} (h:Lo G F xs) (c:Γ) (e:TypeId) {b:Nat} (r:F b=nC):Lo G (F.set b (mX c e)) ((b,c,e)::xs):=
 Yo (h.new c e (K:=λb g=>Lo G g ((b,c,e)::xs)) (λ_ _ h=>h) b r)
section
variable {F0 F:PH} {l:List Nd}
set_option maxHeartbeats 1000000 in
theorem BG {s:Sl} {C A bm g:Nat} (hT:Tab F0) (hG:GoodL l) (hl:l.length<=512) (hs:RdS F0 s 5 (dC l)) (le:F0.le F) (q1:F C=mB (mX #[s.v] 164)) (q3:F A=mB (mX #[pa bm] 299))
  (B:F bm=mB (mX (bK s noP noP g l.length nS) 305)) (E:F g=mB (mX (cZ l.length Vi).toArray 302)) (zm:F0 bm=nC) (zf:F0 g=nC) {R:ξ->Ψ}
  (k:∀F',Mch F' bm l (bN l)->F0.le F'->R (pa bm) F'):jB C (mB ⟨A,0,nC⟩) R F:=by
 obtain ⟨ns,ht⟩:=io hG;have a2:=hs.nlen;have c2:=Yr.2 hG.ne;have h0:g≠0:=λe=>by obtain ⟨o,J⟩:=hT.zero;rw [e,J] at zf;cases zf
 unfold jB;intro w Z;refine tP ?_;have l4:=ae (mX #[.nilFunc] 329) Z;have q4:=aq F w (mX #[.nilFunc] 329);have a1:=aa le l4;have q1:=l4 _ _ q1;have q3:=l4 _ _ q3;have B:=l4 _ _ B;have E:=l4 _ _ E;have z4:F0 w=nC:=aU le Z;clear l4 Z le;generalize F.set w (mX #[.nilFunc] 329)=F1 at*;intro r M;refine tP ?_;have X:=ae (mX #[.nilFunc] 332) M;have q5:=aq F1 r (mX #[.nilFunc] 332);have a6:=aa a1 X;have q1:=X _ _ q1;have q3:=X _ _ q3;have B:=X _ _ B;have E:=X _ _ E;have a5:w≠r:=aI M q4;have q4:=X _ _ q4;have z5:F0 r=nC:=aU a1 M;clear X M a1;generalize F1.set r (mX #[.nilFunc] 332)=F2 at*;have ne:∀{x y:Nat} {c d:Γ} {e e':TypeId},e≠e'->F2 x=mB (mX c e)->F2 y=mB (mX d e')->x≠y:=λhe H Q e=>by rw [e,Q] at H;simp at H;exact he H.2.symm
 refine Wb (o:=0) q5 (by simp) ?_;show ∃c e,_;have e5:(#[Value.nilFunc]:Γ).setIfInBounds 0 (.func (.func 232) #[] #[pa A])= #[.func (.func 232) #[] #[pa A]]:=rfl;rw [e5];have a8:=aC (o:=mX #[.func (.func 232) #[] #[pa A]] 332) a6 z5;have P:(F2.set r (mX #[.func (.func 232) #[] #[pa A]] 332)) C=_:=(aw _ _ (ne (by decide) q1 q5)).trans q1;have Y:(F2.set r (mX #[.func (.func 232) #[] #[pa A]] 332)) A=_:=(aw _ _ (ne (by decide) q3 q5)).trans q3;have W:(F2.set r (mX #[.func (.func 232) #[] #[pa A]] 332)) bm=_:=(aw _ _ (ne (by decide) B q5)).trans B;have a0:(F2.set r (mX #[.func (.func 232) #[] #[pa A]] 332)) g=_:=(aw _ _ (ne (by decide) E q5)).trans E;have D:(F2.set r (mX #[.func (.func 232) #[] #[pa A]] 332)) w=_:=(aw _ _ a5).trans q4;have a4:=aq F2 r (mX #[.func (.func 232) #[] #[pa A]] 332);clear q1 q3 B E q4 q5 a6 ne;generalize F2.set r (mX #[.func (.func 232) #[] #[pa A]] 332)=K at*;have ne:∀{x y:Nat} {c d:Γ} {e e':TypeId},e≠e'->K x=mB (mX c e)->K y=mB (mX d e')->x≠y:=λhe H Q e=>by rw [e,Q] at H;simp at H;exact he H.2.symm
 refine Wb (o:=0) D (by simp) ?_;have e4:(#[Value.nilFunc]:Γ).setIfInBounds 0 (.func (.func 236) #[] #[pa C,pa w,pa r])= #[.func (.func 236) #[] #[pa C,pa w,pa r]]:=rfl;rw [e4];have V:=aC (o:=mX #[.func (.func 236) #[] #[pa C,pa w,pa r]] 329) a8 z4;have q1:(K.set w (mX #[.func (.func 236) #[] #[pa C,pa w,pa r]] 329)) C=_:=(aw _ _ (ne (by decide) P D)).trans P;have q3:(K.set w (mX #[.func (.func 236) #[] #[pa C,pa w,pa r]] 329)) A=_:=(aw _ _ (ne (by decide) Y D)).trans Y;have B:(K.set w (mX #[.func (.func 236) #[] #[pa C,pa w,pa r]] 329)) bm=_:=(aw _ _ (ne (by decide) W D)).trans W;have E:(K.set w (mX #[.func (.func 236) #[] #[pa C,pa w,pa r]] 329)) g=_:=(aw _ _ (ne (by decide) a0 D)).trans a0;have q5:(K.set w (mX #[.func (.func 236) #[] #[pa C,pa w,pa r]] 329)) r=_:=(aw _ _ a5.symm).trans a4;have q4:=aq K w (mX #[.func (.func 236) #[] #[pa C,pa w,pa r]] 329);clear P Y W a0 D a4 a8 ne;generalize K.set w (mX #[.func (.func 236) #[] #[pa C,pa w,pa r]] 329)=F4 at*;have b8:=hs.le V;have hC:Cmp F4 C A w r bm g l Vi:=by refine ⟨⟨hT.le V,q3,⟨_,B,rfl⟩,E⟩,⟨s,q1,b8,λa ha e=> ?_⟩,q4,q5⟩;obtain ⟨o,J⟩:=hs.block (by rw [ik];omega) ha;rw [e,zf] at J;cases J
 have I:F4.cell (pd A 0 nC)=mB (pa bm):=by rw [av q3];rfl
 refine ⟨_,rfl,_,I,_,I,_,I,_,by rw [av q4];rfl,s,by rw [av q1];rfl,236,#[],_,rfl,nQ,?_⟩;have ew:i64.wrap ((s.len:Int) - 1)=((l.length - 1:Nat):Int):=by rw [a2,aL (by omega)];omega
 rw [ew];refine (FT hl h0 ht hC).mono ?_;rintro _ N ⟨rfl,U,hK⟩;have L:∀{x:Nat} {c:Γ} {e:TypeId},e≠302->F4 x=mB (mX c e)->x≠g:=λhe H e=>by rw [e,E] at H;simp at H;exact he H.2.symm
 have q1:=hK _ _ q1 (L (by decide) q1);have q3:=hK _ _ q3 (L (by decide) q3);have B:=hK _ _ B (L (by decide) B);have a3:F0.le N:=λy o Q=>hK y o (V y o Q) λe=>by rw [e,zf] at Q;cases Q
 have I:∀{G:PH},G A=mB (mX #[pa bm] 299)->G.cell (pd A 0 nC)=mB (pa bm):=λh=>by rw [av h];rfl
 have O:A≠bm:=λe=>by rw [e,B] at q3;simp at q3
 have b7:g≠bm:=λe=>by rw [<- e,U.lnk.qf] at B;simp at B
 have a9:∀a,s.qa5=mB a->a.block≠bm:=λa ha e=>by obtain ⟨o,J⟩:=hs.block (by rw [ik];omega) ha;rw [e,zm] at J;cases J
 have E:=U.lnk.qf;have b9:=hs.le a3;clear hC U hK L;refine ⟨_,_,_,rfl,by rw [av q1];rfl,I q3,I q3,I q3,_,rfl,rfl,fM _,_,_,B,rfl,(by show 9<=19;omega),?_⟩;refine tP ?_;have w1:wr (bK s noP noP g l.length nS) ((pd bm 0 nC).add 1).off (sS (fB (bN l))).toList=bK s (fB (bN l)) noP g l.length nS:=qef _ _ _ _ _ _ _;rw [w1];show (N.set bm _).cell _=_/\_;have a7:(N.set bm (mX (bK s (fB (bN l)) noP g l.length nS) 305)) A=_:=(aw _ _ O).trans q3;have b0:=aq N bm (mX (bK s (fB (bN l)) noP g l.length nS) 305);refine ⟨I a7,I a7,_,rfl,rfl,fM _,_,_,b0,rfl,(by show 17<=19;omega),?_⟩;refine tP ?_;have w2:wr (bK s (fB (bN l)) noP g l.length nS) ((pd bm 0 nC).add 9).off (sS (lB (bN l))).toList=bK s (fB (bN l)) (lB (bN l)) g l.length nS:=qeg _ _ _ _ _ _ _;rw [w2];rw [show ((N.set ((pd bm 0 nC).add 1).block (mX (bK s (fB (bN l)) noP g l.length nS) 305)).set ((pd bm 0 nC).add 9).block (mX (bK s (fB (bN l)) (lB (bN l)) g l.length nS) 305))=N.set bm (mX (bK s (fB (bN l)) (lB (bN l)) g l.length nS) 305) from aS _ _ _ _];have b2:(N.set bm (mX (bK s (fB (bN l)) (lB (bN l)) g l.length nS) 305)) A=_:=(aw _ _ O).trans q3;have b6:=aq N bm (mX (bK s (fB (bN l)) (lB (bN l)) g l.length nS) 305);refine ⟨I b2,_,rfl,?_⟩;refine sq (b:=bm) (o:=18) rfl b6 (by show 18<19;omega) ?_;rw [aS];have w3:(bK s (fB (bN l)) (lB (bN l)) g l.length nS).setIfInBounds 18 (.bool (bN l).nul)=bK s (fB (bN l)) (lB (bN l)) g l.length (bN l).nul:=qeh _ _ _ _ _ _ _;rw [w3];refine ⟨_,I ((aw _ _ O).trans q3),k _ ⟨s,g,aq _ _ _,b9.keep λa ha o J=>(aw _ _ (a9 a ha)).trans J,?_⟩ (aC a3 zm)⟩;rw [aw _ _ b7,E];congr 3
theorem qhJ {s:Sl} (U:Tab F) (X:GoodL l) (V:l.length<=512) (K:RdS F s 5 (dC l)):ν 205 #[s.v] F λr C=>(∃bm,r=pa bm/\Mch C bm l (bN l))/\F.le C:=by
 have B:=K.nlen;refine qcI ?_;unfold O8;have fin:∀{C:PH} {G:List (Nat×Γ×TypeId)} {A g bm D:Nat},Lo F C G->(A,#[s.v],164)∈G->(D,#[pa bm],299)∈G->
   (bm,(#[s.v,.int .u64 0,.int .u64 0,.int .u64 0,.int .u64 0,.int .u64 0,.int .u64 0,.int .u64 0,.int .u64 0,.int .u64 0,.int .u64 0,.int .u64 0,.int .u64 0,.int .u64 0,.int .u64 0,.int .u64 0,.int .u64 0,nV ⟨mB ⟨g,0,nC⟩,s.len,s.len⟩,.bool nS]:Γ),305)∈G->
   (g,(cZ s.len Vi).toArray,302)∈G->jB A (mB ⟨D,0,nC⟩) (λr C=>(∃bm,r=pa bm/\Mch C bm l (bN l))/\F.le C) C:=λh P O I H=>by
  have Q:∀g:Nat,(#[s.v,.int .u64 0,.int .u64 0,.int .u64 0,.int .u64 0,.int .u64 0,.int .u64 0,.int .u64 0,.int .u64 0,.int .u64 0,.int .u64 0,.int .u64 0,.int .u64 0,.int .u64 0,.int .u64 0,.int .u64 0,.int .u64 0,nV ⟨mB ⟨g,0,nC⟩,s.len,s.len⟩,.bool nS]:Γ)=bK s noP noP g l.length nS:=λg=>by unfold bK noP;simp only [wC,B];rfl
  rw [Q] at I;rw [B] at H;exact BG U X V K h.le (h.get P) (h.get O) (h.get I) (h.get H) (h.z _ I).2 (h.z _ H).2 λW a b=>⟨⟨_,rfl,a⟩,b⟩
 have h:=Lo.start F;refine h.new _ _ λA M h=> ?_;have c1:M.cell (pd A 0 nC)=mB s.v:=by rw [h.cell (b:=A) (w:= #[s.v]) (e:=164) (by simp)];rfl
 refine ⟨s,c1,s,c1,?_,?_⟩
 ·refine bQ underlying303 Jt Ju rfl (by omega) (Vr _) (by omega) (by omega) ?_;intro g E;rw [Z7,N4];have h:=h.new' (cZ s.len Vi).toArray 302 E;generalize M.set g (mX (cZ s.len Vi).toArray 302)=F2 at*;have c1:F2.cell (pd A 0 nC)=mB s.v:=by rw [h.cell (b:=A) (w:= #[s.v]) (e:=164) (by simp)];rfl
  refine ⟨_,rfl,c1,c1,?_,?_⟩
  ·refine h.new _ _ λbm J h=> ?_;refine h.new _ _ λD N h=> ?_;refine Lo.put1 [] [(bm,_,305),(g,_,302),(A,_,164)] (b:=D) (i:=0) (w0:= #[.pointer nC]) (w:= #[pa bm]) (e:=299) h (by simp) rfl λL h=> ?_;exact fin h (.tail _ (.tail _ (.tail _ (.head _)))) (.head _) (.tail _ (.head _)) (.tail _ (.tail _ (.head _)))
  ·refine h.new _ _ λD J h=> ?_;refine h.new _ _ λbm N h=> ?_;refine Lo.put1 [(bm,_,305)] [(g,_,302),(A,_,164)] (b:=D) (i:=0) (w0:= #[.pointer nC]) (w:= #[pa bm]) (e:=299) h (by simp) rfl λL h=> ?_;exact fin h (.tail _ (.tail _ (.tail _ (.head _)))) (.tail _ (.head _)) (.head _) (.tail _ (.tail _ (.head _)))
 ·refine h.new _ _ λD F2 h=> ?_;refine bQ underlying303 Jt Ju rfl (by omega) (Vr _) (by omega) (by omega) ?_;intro g E;rw [Z7,N4];have h:=h.new' (cZ s.len Vi).toArray 302 E;generalize F2.set g (mX (cZ s.len Vi).toArray 302)=J at*;have c1:J.cell (pd A 0 nC)=mB s.v:=by rw [h.cell (b:=A) (w:= #[s.v]) (e:=164) (by simp)];rfl
  refine ⟨_,rfl,c1,c1,?_⟩;refine h.new _ _ λbm N h=> ?_;refine Lo.put1 [(bm,_,305),(g,_,302)] [(A,_,164)] (b:=D) (i:=0) (w0:= #[.pointer nC]) (w:= #[pa bm]) (e:=299) h (by simp) rfl λL h=> ?_;exact fin h (.tail _ (.tail _ (.tail _ (.head _)))) (.tail _ (.tail _ (.head _))) (.head _) (.tail _ (.head _))
end
abbrev ZW:=ForInStep (Option Bool×Unit)
section
variable {F:PH}
theorem BH {P:Program} {α:Type} (step:α->Option Bool×Unit->Sem ZW) (g:α->Bool):∀(l:List α),(∀a∈l,s9 P (step a (nC,())) F (if g a then .yield (nC,()) else .done (mB nS,())))->
  s9 P (forIn l (nC,()) step) F (if l.all g then (nC,()) else (mB nS,()))
 |[],_=>rfl
 |a::l,h=>by
  rw [Yz,am];refine ⟨_,h a (by simp),?_⟩;rw [Xj];cases g a with
  |false=>rfl
  |true=>rw [V8];exact BH step g l λb r=>h b (by simp [r])
theorem Eg (t:TypeId) (k:IntKind) (g:prog.underlying t=mB (.int k)) (d:Nat) (a b:Int):s9 prog (Op.equalIn (d+1) t (.int k a) (.int k b)) F (decide (a=b)):=by simp only [Op.equalIn,am];refine ⟨_,(aA g _).2 rfl,?_⟩;simp only [if_true,cH];by_cases h:a=b<;>simp [h]
theorem uD (t:TypeId) (k:IntKind) (g:prog.underlying t=mB (.int k)) {cs:Γ} {off:Nat} {v:ξ} (h:cs[off]? =mB v):s9 prog (part t cs off) F v:=by unfold part;simp only [am];refine ⟨nS,(dm g _).2 rfl,?_⟩;simp only [VQ,if_false,h];rfl
theorem Jv (t:TypeId) (k:IntKind) (g:prog.underlying t=mB (.int k)) (n off:Nat) (cs ds:Γ) (x y:Int) (A:cs[off]? =mB (.int k x)) (w:ds[off]? =mB (.int k y)):
  s9 prog (do
   let a <- part t cs off
   let b <- part t ds off
   let r <- Op.equalIn (n+1) t a b
   if (!r)=nZ then pure (ForInStep.done (mB nS,())) else pure (ForInStep.yield (nC,())):Sem ZW) F (if decide (x=y)=nZ then .yield (nC,()) else .done (mB nS,())):=by
 simp only [am];refine ⟨_,uD t k g A,_,uD t k g w,_,Eg t k g n x y,?_⟩;by_cases h:x=y<;>simp [h]
theorem qei:vV prog 40=mB (1,8):=by kernel_rfl
theorem qge {cs ds:Γ} {f g:Nat->Int} (B:∀k,k<8->cs[k]? =mB (.int .u64 (f k))) (A:∀k,k<8->ds[k]? =mB (.int .u64 (g k))):
  s9 prog (Op.equal 302 (.agg cs) (.agg ds)) F ((List.range 8).all λk=>decide (f k=g k)):=by
 unfold Op.equal Op.maxDepth;show s9 prog (Op.equalIn (9998+1+1) 302 _ _) _ _;unfold Op.equalIn;simp only [am];refine ⟨_,(aA underlying302 _).2 rfl,?_⟩;dsimp only;refine (am _ _ _ _).2 ⟨1,(bu qei _).2 rfl,?_⟩;rw [Std.Legacy.Range.forIn_eq_forIn_range'];simp only [Std.Legacy.Range.size,VV,Zm,Nat.div_one];rw [am];refine ⟨_,BH _ (λk=>decide (f k=g k)) _ λk w=> ?_,?_⟩
 ·have h:k<8:=by have:=List.mem_range'.1 w;omega
  rw [xZ];exact Jv 40 .u64 underlying40 9998 k cs ds _ _ (B k h) (A k h)
 ·have r:List.range' 0 8 1=List.range 8:=rfl;rw [r];cases (List.range 8).all (λk=>decide (f k=g k))<;>rfl
theorem qgf (P Q:Nat->Bool):s9 prog (Op.equal 302 (.agg (sS P)) (.agg (sS Q))) F ((List.range 8).all λk=>decide ((wd P k:Int)=(wd Q k:Int))):=
 qge (λ_ h=>eS P h) (λ_ h=>eS Q h)
theorem FU (P:Nat->Bool):((List.range 8).all λk=>decide ((wd P k:Int)=(wd noP k:Int)))=nZ↔∀i,i<512->P i=nS:=by
 rw [Vq];have g:∀k,wd noP k=0:=λk=>wC k;constructor
 ·intro h i hi;have:=ζ (h (i / 64) (Wy.2 (by omega)));rw [g] at this;have A:wd P (i / 64)=0:=by omega
  have:=iw.1 A (i % 64) (by omega);rwa [show 64*(i / 64)+i % 64=i by omega] at this
 ·intro h k w;have r:=Wy.1 w;have:wd P k=0:=iw.2 λj B=>h _ (by omega);rw [g,this];rfl
end
def Nx (acc fol:Nat->Nat->Prop):(Nat->Prop)->Δ->Nat->Prop
 |S,[],j=>S j
 |S,b::w,j=>Nx acc fol (λj=>∃i,S i/\acc i b/\fol i j) w j
section
variable {acc fol:Nat->Nat->Prop} {e:Nat->Prop}
theorem nR:∀(w u:Δ) (S:Nat->Prop) (j:Nat),Nx acc fol S (w++u) j↔Nx acc fol (Nx acc fol S w) u j
 |[],_,S,j=>Iff.rfl
 |b::w,u,S,j=>nR w u _ j
theorem Eh (w:Δ) (b:Nat) (S:Nat->Prop) (j:Nat):Nx acc fol S (w++[b]) j↔∃i,Nx acc fol S w i/\acc i b/\fol i j:=by rw [nR];rfl
theorem Ei:∀(w:Δ) (S:Nat->Prop),(∀j,¬S j)->∀j,¬Nx acc fol S w j
 |[],S,h,j=>h j
 |b::w,S,h,j=>Ei w _ (λj ⟨i,hi,_⟩=>h i hi) j
theorem Jw:∀(w:Δ) (b:Nat) (S:Nat->Prop),(∃i,S i/\Pth acc fol e i (w++[b]))↔∃j,Nx acc fol S w j/\acc j b/\e j
 |[],b,S=>by
  constructor
  ·rintro ⟨i,r,h,⟨_,g⟩|⟨j,_,g⟩⟩
   ·exact ⟨i,r,h,g⟩
   ·exact g.elim
  ·rintro ⟨i,r,h,g⟩;exact ⟨i,r,h,.inl ⟨rfl,g⟩⟩
 |c::w,b,S=>by
  have ih:=Jw w b (λj=>∃i,S i/\acc i c/\fol i j);show _↔∃j,Nx acc fol (λj=>∃i,S i/\acc i c/\fol i j) w j/\acc j b/\e j;rw [<- ih];constructor
  ·rintro ⟨i,r,h,⟨g,_⟩|⟨j,g,A⟩⟩
   ·exact absurd g (by simp)
   ·exact ⟨j,⟨i,r,h,g⟩,A⟩
  ·rintro ⟨j,⟨i,r,h,g⟩,A⟩;exact ⟨i,r,h,.inr ⟨j,g,A⟩⟩
end
def mq (l:List Nd) (i b:Nat):Prop:=∃x,l[i]? =mB x/\x.lo<=(b:Int)/\(b:Int)<=x.hi
theorem FV {l:List Nd} (H:GoodL l) {i:Nat} {t:Lt} {ns:Δ} (h:cL l i t ns):t.fits (mq l):=by
 induction h with
 |emp=>trivial
 | @rng i lo hi x w E N L K I=>
  intro b;constructor
  ·rintro ⟨y,J,C,B⟩;rw [w] at J;cases J;omega
  ·rintro ⟨C,B⟩;exact ⟨x,w,by omega,by omega⟩
 | @seq i a b x t u M nb w E g r A D it G=>exact ⟨it,G,λj C B=>Pw H w (.inl E) g r (p6 A j ((dE A).2 j C)) (p6 D j ((dE D).2 j B))⟩
 | @alt i a b x t u M nb w E g r A D it G=>exact ⟨it,G,λj C B=>Pw H w (.inr E) g r (p6 A j ((dE A).2 j C)) (p6 D j ((dE D).2 j B))⟩
 |rep _ _ _ _ it=>exact it
abbrev mv (l:List Nd) (t:Lt) (w:Δ):Nat->Prop:=Nx (mq l) t.fol t.first w
theorem Ej {l:List Nd} {t:Lt} (g:t.fits (mq l)) (w:Δ) (b:Nat):Lg t.pat (w++[b])↔∃j,mv l t w j/\mq l j b/\t.last j:=by rw [t.places g _ (by simp)];exact Jw w b t.first
theorem jE {g:Δ} {n:Nat} (h:n<g.length):g.take (n+1)=g.take n++[g[n]]:=by rw [Wj,N5 h];rfl
theorem Jy {l:List Nd} {t:Lt} (H:t.fits (mq l)) {g:Δ} {n:Nat} (h:n<g.length) (C:∀j,¬(mv l t (g.take n) j/\mq l j g[n])) {m:Nat} (J:n<m) (D:m<=g.length):¬Lg t.pat (g.take m):=by
 obtain ⟨m,rfl⟩:∃E,m=E+1:=⟨m - 1,by omega⟩;have w:m<g.length:=by omega
 rw [jE w,Ej H];rintro ⟨j,r,G,_⟩;by_cases e:m=n
 ·subst e;exact C j ⟨r,G⟩
 ·have I:∀j,¬mv l t (g.take (n+1)) j:=λj B=>by rw [jE h] at B;obtain ⟨i,a,b,_⟩:=(Eh _ _ _ _).1 B;exact C i ⟨a,b⟩
  have:g.take m=g.take (n+1)++(g.take m).drop (n+1):=by have:=WY (n+1) (g.take m);rw [List.take_take,show min (n+1) m=n+1 by omega] at this;exact this.symm
  rw [this] at r;have A:=(nR _ _ _ _).1 r;exact Ei _ _ I j A
open Classical in
def pe (l:List Nd) (t:Lt) (w:Δ):Nat->Bool:=λj=>decide (mv l t w j)
open Classical in
def wq (l:List Nd) (b:Nat):Nat->Bool:=λi=>decide (mq l i b)
theorem mw {l:List Nd} {t:Lt} {w:Δ} {j:Nat}:pe l t w j=nZ↔mv l t w j:=by simp [pe]
theorem mz {l:List Nd} {b i:Nat}:wq l b i=nZ↔mq l i b:=by simp [wq]
theorem qej (I G H P N K L O M J A r C D B g h E w:ξ):(#[I,G,H,P,N,K,L,O,M,J,A,r,C,D,B,g,h,E,w]:Γ)[1]? =mB G:=rfl
theorem qek (I H G P N K L O M J A r C D B g h E w:ξ):(#[I,H,G,P,N,K,L,O,M,J,A,r,C,D,B,g,h,E,w]:Γ)[2]? =mB G:=rfl
theorem qel (J H I G O L M P N K A r C D B g h E w:ξ):(#[J,H,I,G,O,L,M,P,N,K,A,r,C,D,B,g,h,E,w]:Γ)[3]? =mB G:=rfl
theorem qem (J H I P G L M O N K A r C D B g h E w:ξ):(#[J,H,I,P,G,L,M,O,N,K,A,r,C,D,B,g,h,E,w]:Γ)[4]? =mB G:=rfl
theorem qen (J H I P N G L O M K A r C D B g h E w:ξ):(#[J,H,I,P,N,G,L,O,M,K,A,r,C,D,B,g,h,E,w]:Γ)[5]? =mB G:=rfl
theorem qeo (J H I P N L G O M K A r C D B g h E w:ξ):(#[J,H,I,P,N,L,G,O,M,K,A,r,C,D,B,g,h,E,w]:Γ)[6]? =mB G:=rfl
theorem qep (J H I P O L M G N K A r C D B g h E w:ξ):(#[J,H,I,P,O,L,M,G,N,K,A,r,C,D,B,g,h,E,w]:Γ)[7]? =mB G:=rfl
theorem qeq (J H I P N L M O G K A r C D B g h E w:ξ):(#[J,H,I,P,N,L,M,O,G,K,A,r,C,D,B,g,h,E,w]:Γ)[8]? =mB G:=rfl
theorem qer (J H I P N K L O M G A r C D B g h E w:ξ):(#[J,H,I,P,N,K,L,O,M,G,A,r,C,D,B,g,h,E,w]:Γ)[9]? =mB G:=rfl
theorem Sh (I G H P N K L O M J g w C D B h r E A:ξ):(#[I,G,H,P,N,K,L,O,M,J,g,w,C,D,B,h,r,E,A]:Γ)[10]? =mB g:=rfl
theorem Si (I G H P N K L O M J A g C D B h r E w:ξ):(#[I,G,H,P,N,K,L,O,M,J,A,g,C,D,B,h,r,E,w]:Γ)[11]? =mB g:=rfl
theorem Sj (I G H P N K L O M J B w g D C h r E A:ξ):(#[I,G,H,P,N,K,L,O,M,J,B,w,g,D,C,h,r,E,A]:Γ)[12]? =mB g:=rfl
theorem Sk (I G H P N K L O M J B w D g C h r E A:ξ):(#[I,G,H,P,N,K,L,O,M,J,B,w,D,g,C,h,r,E,A]:Γ)[13]? =mB g:=rfl
theorem Sm (I G H P N K L O M J B w C D g h r E A:ξ):(#[I,G,H,P,N,K,L,O,M,J,B,w,C,D,g,h,r,E,A]:Γ)[14]? =mB g:=rfl
theorem Sn (I G H P N K L O M J A r C D B g h E w:ξ):(#[I,G,H,P,N,K,L,O,M,J,A,r,C,D,B,g,h,E,w]:Γ)[15]? =mB g:=rfl
theorem So (I G H P N K L O M J A r C D B h g E w:ξ):(#[I,G,H,P,N,K,L,O,M,J,A,r,C,D,B,h,g,E,w]:Γ)[16]? =mB g:=rfl
theorem Jz {s:Sl} {P Q:Nat->Bool} {g n:Nat} {e:Bool} {i:Nat} (hi:i<8):(bK s P Q g n e)[1+i]? =mB (cT (wd P i))/\(bK s P Q g n e)[9+i]? =mB (cT (wd Q i)):=by
 have:i=0\/i=1\/i=2\/i=3\/i=4\/i=5\/i=6\/i=7:=by omega
 unfold bK;rcases this with rfl|rfl|rfl|rfl|rfl|rfl|rfl|rfl
 ·exact ⟨qej _ _ _ _ _ _ _ _ _ _ _ _ _ _ _ _ _ _ _,qer _ _ _ _ _ _ _ _ _ _ _ _ _ _ _ _ _ _ _⟩
 ·exact ⟨qek _ _ _ _ _ _ _ _ _ _ _ _ _ _ _ _ _ _ _,Sh _ _ _ _ _ _ _ _ _ _ _ _ _ _ _ _ _ _ _⟩
 ·exact ⟨qel _ _ _ _ _ _ _ _ _ _ _ _ _ _ _ _ _ _ _,Si _ _ _ _ _ _ _ _ _ _ _ _ _ _ _ _ _ _ _⟩
 ·exact ⟨qem _ _ _ _ _ _ _ _ _ _ _ _ _ _ _ _ _ _ _,Sj _ _ _ _ _ _ _ _ _ _ _ _ _ _ _ _ _ _ _⟩
 ·exact ⟨qen _ _ _ _ _ _ _ _ _ _ _ _ _ _ _ _ _ _ _,Sk _ _ _ _ _ _ _ _ _ _ _ _ _ _ _ _ _ _ _⟩
 ·exact ⟨qeo _ _ _ _ _ _ _ _ _ _ _ _ _ _ _ _ _ _ _,Sm _ _ _ _ _ _ _ _ _ _ _ _ _ _ _ _ _ _ _⟩
 ·exact ⟨qep _ _ _ _ _ _ _ _ _ _ _ _ _ _ _ _ _ _ _,Sn _ _ _ _ _ _ _ _ _ _ _ _ _ _ _ _ _ _ _⟩
 ·exact ⟨qeq _ _ _ _ _ _ _ _ _ _ _ _ _ _ _ _ _ _ _,So _ _ _ _ _ _ _ _ _ _ _ _ _ _ _ _ _ _ _⟩
theorem JA {F:PH} {bm:Nat} {s:Sl} {P Q:Nat->Bool} {r n:Nat} {e:Bool} (h:F bm=mB (mX (bK s P Q r n e) 305)):F.row ((pd bm 0 nC).add 1) (sS P)/\F.row ((pd bm 0 nC).add 9) (sS Q):=by
 constructor
 ·intro i hi;have g:i<8:=hi;rw [cx,cx,av h,<- Wh hi,eS P g,yp];exact (Jz g).1
 ·intro i hi;have g:i<8:=hi;rw [cx,cx,av h,<- Wh hi,eS Q g,yp];exact (Jz g).2
theorem JB {F:PH} {A n i:Nat} {R:Nat->Nat->Bool} (h:F A=mB (mX (cZ n R).toArray 302)) (hi:i<n):F.row ((pd A 0 nC).add (i*8)) (sS (R i)):=by
 obtain ⟨w,g,r,B,_⟩:=oH hi R;have C:jZ F A 302 w (R i) g:=by unfold jZ;rw [<- B];exact h
 have:=C.row;rw [r] at this;rw [cx,yp];exact this
theorem qgg {F:PH} {s:Sl} {l:List Nd} (h:RdS F s 5 (dC l)) {i:Nat} {x:Nd} (r:l[i]? =mB x):∃a,s.qa5=mB a/\F.row (a.add (i*5)) x.arr/\F.cell ((a.add (i*5)).add 1)=mB (vi x.lo)/\F.cell ((a.add (i*5)).add 2)=mB (vi x.hi):=by obtain ⟨a,w,g⟩:=W4 h r;exact ⟨a,w,g,by have:=g 1 (by simp);simpa using this,by have:=g 2 (by simp);simpa using this⟩
theorem Lo.sub {G F:PH} {xs g:List (Nat×Γ×TypeId)} (h:Lo G F xs) (r:g.Sublist xs):Lo G F g:=⟨h.le,λp w=>h.z p (r.subset w),h.nd.sublist (r.map _)⟩
section
variable {G F:PH} {l:List Nd} {t:Lt} {bm b3 b4 b6 b7 b8 b9 n:Nat} {st:ο} {N P8 P9:Nat->Bool}
theorem FW (hM:Mch G bm l t) (hl:l.length<=512) (h:Lo G F [(b9,sS P9,302),(b8,sS P8,302),(b7,#[vi n],3),(b6,sS N,302),(b4,#[.string st],9),(b3,#[pa bm],299)]) (hn:n<st.size) (_:st.size<=9223372036854775807) {i:Nat} (hi:i<l.length):
  ν 238 #[vi i,pa b4,pa b7,pa b3,pa b8,pa b9] F λr U=>r=.tuple #[]/\
   Lo G U [(b9,sS (λj=>P9 j || (wq l (cb st n) i && yZ t i j)),302),(b8,sS (λj=>P8 j || (decide (j=i) && wq l (cb st n) i)),302),(b7,#[vi n],3),(b6,sS N,302),(b4,#[.string st],9),(b3,#[pa bm],299)]:=by
 obtain ⟨s,bf,qm,Z,qf⟩:=(hM.le h.le).ex;have Y:=Z.nlen;refine qcR ?_;unfold Ph;have B:l[i]? =mB l[i]:=N5 hi;generalize l[i]=x at B;obtain ⟨a,X,_,E,J⟩:=qgg Z B;have c3:F.cell (pd b3 0 nC)=mB (pa bm):=by rw [h.cell (b:=b3) (w:= #[pa bm]) (e:=299) (by simp)];rfl
 have cm:F.cell (pd bm 0 nC)=mB s.v:=by rw [av qm];rfl
 have O:pc (i:Int)=i:=N4 i;refine ⟨_,rfl,st,by rw [h.cell (b:=b4) (w:= #[.string st]) (e:=9) (by simp)];rfl,_,rfl,(n:Int),by rw [h.cell (b:=b7) (w:= #[vi n]) (e:=3) (by simp)];rfl,by omega,by omega,by simpa using hn,_,rfl,_,rfl,_,c3,_,rfl,s,cm,a,X,by omega,by omega,x.lo,by rw [O];exact E,?_⟩;rw [R0 rfl hn,WW (by have:=MD st n;omega)]
 have j1:∀H:Bool,H=wq l (cb st n) i->pU i (mB ⟨b3,0,nC⟩) (mB ⟨b8,0,nC⟩) (mB ⟨b9,0,nC⟩) H (λr U=>r=.tuple #[]/\
   Lo G U [(b9,sS (λj=>P9 j || (wq l (cb st n) i && yZ t i j)),302),(b8,sS (λj=>P8 j || (decide (j=i) && wq l (cb st n) i)),302),(b7,#[vi n],3),(b6,sS N,302),(b4,#[.string st],9),(b3,#[pa bm],299)]) F:=λH A=>by
  unfold pU;refine ⟨λI=> ?_,λI=> ?_⟩
  ·rw [I] at A;rw [<- A];refine (Lo.add [(b9,sS P9,302)] _ (b:=b8) (P:=P8) (by omega) h).mono ?_;rintro _ F2 ⟨rfl,g⟩;replace g:Lo G F2 [(b9,sS P9,302),(b8,sS (λj=>P8 j || decide (j=i)),302),(b7,#[vi n],3),(b6,sS N,302),(b4,#[.string st],9),(b3,#[pa bm],299)]:=g;obtain ⟨s2,a1,V,a2,K⟩:=(hM.le g.le).ex;have D:F2.cell (pd b3 0 nC)=mB (pa bm):=by rw [g.cell (b:=b3) (w:= #[pa bm]) (e:=299) (by simp)];rfl
   refine ⟨rfl,_,rfl,_,D,_,rfl,_,by rw [cx,yp,av V];rfl,_,rfl,by omega,by simp only;omega,sS (yZ t i),rfl,by rw [O];exact JB K hi,?_⟩;refine (Lo.join [] _ (b:=b9) (P:=P9) (Q:=yZ t i) g).mono ?_;rintro _ F3 ⟨rfl,h3⟩;have L:(λj=>P9 j || (nZ && yZ t i j))=λj=>P9 j || yZ t i j:=by funext j;simp
   have W:(λj=>P8 j || (decide (j=i) && nZ))=λj=>P8 j || decide (j=i):=by funext j;simp
   rw [L,W];exact ⟨rfl,rfl,h3⟩
  ·rw [I] at A;rw [<- A];have L:(λj=>P9 j || (nS && yZ t i j))=P9:=by funext j;simp
   have W:(λj=>P8 j || (decide (j=i) && nS))=P8:=by funext j;simp
   rw [L,W];exact ⟨rfl,h⟩
 refine ⟨λM=>⟨_,c3,_,rfl,s,cm,a,X,by omega,by omega,x.hi,by rw [O];exact J,j1 _ ?_⟩,λM=>j1 _ ?_⟩
 ·rw [wR,δ,mz];constructor
  ·exact λg=>⟨x,B,M,g⟩
  ·rintro ⟨y,C,_,g⟩;rw [B] at C;cases C;exact g
 ·symm;rw [<- Yw,mz];rintro ⟨y,C,g,_⟩;rw [B] at C;cases C;exact M g
theorem Sq:aG prog 238=nZ:=by kernel_rfl
theorem JC {g fol:Nat->Nat->Prop} {P:Nat->Prop} (r:∀i j,fol i j->P j):∀(w:Δ) (S:Nat->Prop),(∀j,S j->P j)->∀j,Nx g fol S w j->P j
 |[],S,hS,j,h=>hS j h
 |b::w,S,_,j,h=>JC r w _ (λj ⟨i,_,_,h⟩=>r i j h) j h
theorem rY {l:List Nd} {r:Nat} {t:Lt} {ns:Δ} (g:cL l r t ns) {w:Δ} {j:Nat} (h:mv l t w j):j<l.length:=
 JC (P:=λj=>j<l.length) (λi j h=>(dE g).1 j ((dE g).2 j (t.fol_lab h).2)) w t.first (λj h=>(dE g).1 j ((dE g).2 j (t.first_lab h))) j h
theorem JD {l:List Nd} {t:Lt} (w:Δ) (b j:Nat):mv l t (w++[b]) j↔∃i,mv l t w i/\mq l i b/\t.fol i j:=Eh w b _ j
theorem Lo.le' {G F g:PH} {xs:List (Nat×Γ×TypeId)} (h:Lo G F xs) (r:F.le g):Lo G g xs:=⟨aa h.le r,λp w=>⟨r _ _ (h.z p w).1,(h.z p w).2⟩,h.nd⟩
open Classical in
def XN (l:List Nd) (t:Lt) (w:Δ) (b m:Nat):Nat->Bool:=λj=>decide (j<m/\mv l t w j/\mq l j b)
theorem jF {l:List Nd} {t:Lt} {w:Δ} {b m j:Nat}:XN l t w b m j=nZ↔j<m/\mv l t w j/\mq l j b:=by simp [XN]
open Classical in
def XE (l:List Nd) (t:Lt) (w:Δ) (b m:Nat):Nat->Bool:=λj=>decide (∃i,i<m/\mv l t w i/\mq l i b/\t.fol i j)
theorem jG {l:List Nd} {t:Lt} {w:Δ} {b m j:Nat}:XE l t w b m j=nZ↔∃i,i<m/\mv l t w i/\mq l i b/\t.fol i j:=by simp [XE]
set_option maxHeartbeats 1000000 in
theorem JE {k:FuncId} {cap:Γ} {Inv:Nat->Ψ} (hk:aG prog k=nZ) (hl:l.length<=512) (hG:GoodL l) {ns:Δ} {i0:Nat} (Z:cL l i0 t ns) (c4:st.size<=9223372036854775806)
  (hI:∀n F,Inv n F->Tab F/\Mch F bm l t)
  (H:∀n F (q:Bool),n<st.size->(q=nZ↔Lg t.pat ((bs st).take (n+1)))->Inv n F->aj prog k (#[vi ((n+1:Nat):Int),.bool q]++cap) F λr A=>r=.bool nZ/\Inv (n+1) A) (hF:Inv 0 F):
  ν 206 #[pa bm,.string st,.func (.func k) #[] cap] F λr A=>r=.tuple #[]/\∃n G,n<=st.size/\Inv n G/\G.le A/\(n=st.size\/∀m,n<m->m<=st.size->¬Lg t.pat ((bs st).take m)):=by
 have X:=FV hG Z;refine qcJ ?_;unfold O9;have h:=Lo.start F;refine h.new _ _ λb3 F1 h=> ?_;refine h.new _ _ λb4 F2 h=> ?_;obtain ⟨s,bf,qm,hs,qf⟩:=((hI 0 F hF).2.le h.le).ex;refine ⟨_,by rw [h.cell (b:=b3) (w:= #[pa bm]) (e:=299) (by simp)];rfl,_,rfl,sS (fB t),rfl,(JA qm).1,?_⟩;refine h.new _ _ λb6 F3 h=> ?_;rw [<- dD] at h;refine Lo.put [] _ (n:=8) (b:=b6) (w0:=sS noP) (w:=sS (fB t)) (e:=302) h rfl rfl (fM _) λF4 h=> ?_;replace h:Lo F F4 [(b6,sS (fB t),302),(b4,#[.string st],9),(b3,#[pa bm],299)]:=h;have e0:fB t=pe l t ((bs st).take 0):=by funext j;rw [wR,dL,mw];rfl
 rw [e0] at h;refine ⟨st,by rw [h.cell (b:=b4) (w:= #[.string st]) (e:=9) (by simp)];rfl,λM v A=>∃n G,v=((n:Nat):Int)/\n<=st.size/\M=st.size - n/\Inv n G/\Lo G A [(b6,sS (pe l t ((bs st).take n)),302),(b4,#[.string st],9),(b3,#[pa bm],299)],st.size,⟨0,F,rfl,yM _,rfl,hF,h⟩,?_⟩;clear h qm hs qf e0;rintro _ _ F5 ⟨n,G,rfl,hn,rfl,U,h⟩;unfold DT;refine ⟨λO=> ?_,λb5=>⟨rfl,n,G,hn,U,h.le,.inl (by omega)⟩⟩;have O:n<st.size:=by omega
 have C:n<(bs st).length:=by rw [dc];exact O
 have Y:cb st n=(bs st)[n]:=by rw [Jh,Vb,N5 C];rfl
 refine h.new _ _ λb7 F6 h=> ?_;refine Lo.put1 [] _ (b:=b7) (i:=0) (w0:= #[vi 0]) (w:= #[vi n]) (e:=3) h (by simp) rfl λF7 h=> ?_;replace h:Lo G F7 [(b7,#[vi n],3),(b6,sS (pe l t ((bs st).take n)),302),(b4,#[.string st],9),(b3,#[pa bm],299)]:=h;refine h.new _ _ λb8 F8 h=> ?_;refine h.new _ _ λb9 F9 h=> ?_;rw [<- dD] at h;obtain ⟨hT,hM⟩:=hI n G U
 refine (uw (a:=⟨b6,0,nC⟩) (P:=pe l t ((bs st).take n)) (k:=238) (cap:= #[pa b4,pa b7,pa b3,pa b8,pa b9])
  (Inv:=λm A=>Lo G A [(b9,sS (XE l t ((bs st).take n) (cb st n) m),302),(b8,sS (XN l t ((bs st).take n) (cb st n) m),302),(b7,#[vi n],3),(b6,sS (pe l t ((bs st).take n)),302),(b4,#[.string st],9),(b3,#[pa bm],299)])
  Sq rfl (λm A I=>⟨hT.le I.le,I.row (b:=b6) (w:=sS (pe l t ((bs st).take n))) (e:=302) (by simp)⟩) ?_ ?_ ?_).mono ?_
 ·intro i A hi hp I;have D:¬mv l t ((bs st).take n) i:=λh=>by rw [mw.2 h] at hp;cases hp
  have e9:XE l t ((bs st).take n) (cb st n) (i+1)=XE l t ((bs st).take n) (cb st n) i:=by
   funext j;rw [wR,jG,jG];constructor
   ·rintro ⟨E,H,g,B⟩;have:E≠i:=λe=>D (e▸g);exact ⟨E,by omega,g,B⟩
   ·rintro ⟨E,H,g,B⟩;exact ⟨E,by omega,g,B⟩
  have e8:XN l t ((bs st).take n) (cb st n) (i+1)=XN l t ((bs st).take n) (cb st n) i:=by
   funext j;rw [wR,jF,jF];constructor
   ·rintro ⟨H,g,B⟩;have:j≠i:=λe=>D (e▸g);exact ⟨by omega,g,B⟩
   ·rintro ⟨H,g,B⟩;exact ⟨by omega,g,B⟩
  rw [e9,e8];exact I
 ·intro i A hi hp I;have D:=mw.1 hp;have a2:=rY Z D;refine (FW hM hl I O (by omega) a2).mono ?_;rintro _ c2 ⟨rfl,g⟩;refine ⟨rfl,?_⟩;have e9:(λj=>XE l t ((bs st).take n) (cb st n) i j || (wq l (cb st n) i && yZ t i j))=XE l t ((bs st).take n) (cb st n) (i+1):=by
   funext j;rw [wR,WM,Vv,jG,jG,mz,jD];constructor
   ·rintro (⟨E,H,g⟩|⟨H,g⟩)
    ·exact ⟨E,by omega,g⟩
    ·exact ⟨i,by omega,D,H,g⟩
   ·rintro ⟨E,H,g,B⟩;by_cases e:E=i
    ·subst e;exact .inr B
    ·exact .inl ⟨E,by omega,g,B⟩
  have e8:(λj=>XN l t ((bs st).take n) (cb st n) i j || (decide (j=i) && wq l (cb st n) i))=XN l t ((bs st).take n) (cb st n) (i+1):=by
   funext j;rw [wR,WM,Vv,jF,jF,δ,mz];constructor
   ·rintro (⟨H,g⟩|⟨H,g⟩)
    ·exact ⟨by omega,g⟩
    ·subst H;exact ⟨by omega,D,g⟩
   ·rintro ⟨H,g,B⟩;by_cases e:j=i
    ·subst e;exact .inr ⟨rfl,B⟩
    ·exact .inl ⟨by omega,g,B⟩
  rw [e9,e8] at g;exact g
 ·have e9:XE l t ((bs st).take n) (cb st n) 0=noP:=by funext j;show _=nS;rw [<- Yw,jG];rintro ⟨i,h,_⟩;omega
  have e8:XN l t ((bs st).take n) (cb st n) 0=noP:=by funext j;show _=nS;rw [<- Yw,jF];rintro ⟨h,_⟩;omega
  rw [e9,e8];exact h
 ·clear h;rintro _ b2 ⟨rfl,h⟩;generalize a5:XN l t ((bs st).take n) (cb st n) 512=J at h;generalize a3:XE l t ((bs st).take n) (cb st n) 512=V at h;have L:∀j,J j=nZ↔mv l t ((bs st).take n) j/\mq l j (cb st n):=λj=>by rw [<- a5,jF];exact ⟨λh=>h.2,λh=>⟨by have:=rY Z h.1;omega,h⟩⟩
  have a0:V=pe l t ((bs st).take (n+1)):=by
   rw [<- a3];funext j;rw [wR,jG,mw,jE C,JD,<- Y];constructor
   ·rintro ⟨E,_,g⟩;exact ⟨E,g⟩
   ·rintro ⟨E,g⟩;exact ⟨E,by have:=rY Z g.1;omega,g⟩
  refine ⟨rfl,sS J,rfl,h.row (b:=b8) (w:=sS J) (e:=302) (by simp),_,λF=>by have:=qgf (F:=F) J noP;rw [dD] at this;exact this,λhz=> ?_,λhz=> ?_⟩
  ·have a6:=(FU J).1 hz;refine ⟨rfl,n,G,hn,U,h.le,.inr λm hm a9=>Jy X C (λj hj=> ?_) hm (by rw [dc];exact a9)⟩;rw [<- Y] at hj;have:=a6 j (by have:=rY Z hj.1;omega);rw [(L j).2 hj] at this;cases this
  ·obtain ⟨s,bf,qm,hs,qf⟩:=(hM.le h.le).ex;have c7:∀{A W:PH},Lo W A [(b9,sS V,302),(b8,sS J,302),(b7,#[vi n],3),(b6,sS (pe l t ((bs st).take n)),302),(b4,#[.string st],9),(b3,#[pa bm],299)]->A.cell (pd b7 0 nC)=mB (vi n):=λh=>by rw [h.cell (b:=b7) (w:= #[vi n]) (e:=3) (by simp)];rfl
   have c3:∀{A W:PH},Lo W A [(b9,sS V,302),(b8,sS J,302),(b7,#[vi n],3),(b6,sS (pe l t ((bs st).take n)),302),(b4,#[.string st],9),(b3,#[pa bm],299)]->A.cell (pd b3 0 nC)=mB (pa bm):=λh=>by rw [h.cell (b:=b3) (w:= #[pa bm]) (e:=299) (by simp)];rfl
   refine ⟨_,c7 h,_,c3 h,_,rfl,sS (lB t),rfl,(JA qm).2,?_⟩;refine (qh0 (pre:=[]) (post:=[]) (Q:=lB t) (jZ.own.2 (h.get (b:=b8) (w:=sS J) (e:=302) (by simp)))).mono ?_;rintro _ b1 ⟨⟨q,rfl,hq⟩,a7⟩;have h:=h.le' a7;have a8:q=nZ↔Lg t.pat ((bs st).take (n+1)):=by
    rw [hq,jE C,Ej X,<- Y];constructor
    ·rintro ⟨i,_,g,B⟩;obtain ⟨h4,h5⟩:=(L i).1 g;exact ⟨i,h4,h5,dg.1 B⟩
    ·rintro ⟨i,h4,h5,B⟩;exact ⟨i,by have:=rY Z h4;omega,(L i).2 ⟨h4,h5⟩,dg.2 B⟩
   refine ⟨q,rfl,c3 h,c7 h,h.row (b:=b8) (w:=sS J) (e:=302) (by simp),k,#[],cap,rfl,hk,?_⟩;have K:=h.call (H n G q O a8 U);rw [ff (by omega)];refine aj.mono (R:=λr A=>∃W,(r=.bool nZ/\Inv (n+1) W)/\Lo W A _) (by simpa using K) ?_;clear K h;rintro _ b0 ⟨W,⟨rfl,a1⟩,h⟩;refine ⟨nZ,rfl,c3 h,c7 h,h.row (b:=b8) (w:=sS J) (e:=302) (by simp),λhh=>by simp at hh,λ_=>⟨sS V,rfl,h.row (b:=b9) (w:=sS V) (e:=302) (by simp),?_⟩⟩;refine Lo.put [(b9,sS V,302),(b8,sS J,302),(b7,#[vi n],3)] _ (n:=8) (b:=b6) (w0:=sS (pe l t ((bs st).take n))) (w:=sS V) (e:=302) h rfl rfl (fM _) λa4 h=> ?_;replace h:Lo W a4 [(b9,sS V,302),(b8,sS J,302),(b7,#[vi n],3),(b6,sS V,302),(b4,#[.string st],9),(b3,#[pa bm],299)]:=h;rw [a0] at h;exact ⟨st.size - (n+1),by omega,n+1,W,rfl,O,rfl,a1,h.sub (.cons _ (.cons _ (.cons _ (List.Sublist.refl _))))⟩
end
end
