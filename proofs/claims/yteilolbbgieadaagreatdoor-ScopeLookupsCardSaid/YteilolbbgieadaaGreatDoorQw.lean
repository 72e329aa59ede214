/-
  Running a machine.
-/
import Derived.Test.YteilolbbgieadaaGreatDoorPhx
import Derived.Test.YteilolbbgieadaaGreatDoorTie
import Derived.Test.YteilolbbgieadaaGreatDoorCards
import Derived.LaidMore
import Derived.Lay
import Derived.SevenTiedAt
import Derived.Stop.Joined
set_option maxRecDepth 10000
open Option renaming some->V,none->I
open Go.Obj renaming cells->Y
open Bool renaming false->mz,true->mY
open Go.Addr renaming add->nR,mk->ou
open Int renaming toNat->nT,tmod->sq
noncomputable section
namespace Go.Proofs.YteilolbbgieadaaGreatDoor.Rx
open Go
section
variable {P:Program} {n:Nat} {σ σ0:Sy} {E:En} {F:PH} {K:CK}
theorem eR {c:Code} {Q A:Exit->En->Ψ} (h:HC P n c Q E F) (k:∀x E F,Q x E F->A x E F):HC P n c A E F:=λe a w B st=>
 wp_mono (h e a w B st) λ_ _ _ ⟨D,C,g,r,q⟩=>⟨D,C,g,r,k _ _ _ q⟩
theorem Rel.hav (r:Rel σ E) {M:Δ} {g:En} (fr:Fr M E g):Rel (σ.hav M) g:=by
 refine ⟨λt=> ?_,r.top⟩;show V1 σ.T (bif pq M t then .unk else σ.S t) (g t);cases h:pq M t with
 |true=>exact True.intro
 |false=>rw [fr t h];exact r.val t
theorem xz {t:Nat} {k:Kd} {B:k.T->Prop} (h:Zy (σ.vw t) k B) (r:Rel σ E):∃x,E t=k.v x/\B x/\∀A:k.T->Prop,A x->Zy (σ.vw t) k A:=by
 cases k<;>simp only [Zy] at h ⊢
 case int k=>
  split at h
  ·rename_i D x g;split at h
   ·rename_i C;obtain rfl:=ζ C;exact ⟨x,cZ r g rfl,h,λA w=>w⟩
   ·exact h.elim
  ·exact h.elim
 case bool=>
  split at h
  ·rename_i b g;exact ⟨b,cZ r g rfl,h,λ_ w=>w⟩
  ·rename_i i b g;exact ⟨b,cZ r g rfl,h,λ_ w=>w⟩
  ·rename_i i p d g;exact ⟨_,cZ r g rfl,h,λ_ w=>w⟩
  ·exact h.elim
 case ptr=>
  split at h
  ·rename_i a g;exact ⟨V a,cZ r g rfl,h,λ_ w=>w⟩
  ·rename_i i p g;exact ⟨p,cZ r g rfl,h,λ_ w=>w⟩
  ·rename_i p g;exact ⟨p,cZ r g rfl,h,λ_ w=>w⟩
  ·exact h.elim
 case sl=>
  split at h
  ·rename_i b l c g;exact ⟨⟨b,l,c⟩,cZ r g rfl,h,λ_ w=>w⟩
  ·exact h.elim
 case str=>
  split at h
  ·rename_i s g;exact ⟨s,cZ r g rfl,h,λ_ w=>w⟩
  ·exact h.elim
 case map=>
  split at h
  ·rename_i s g;exact ⟨s,cZ r g rfl,h,λ_ w=>w⟩
  ·exact h.elim
 case agg=>
  split at h
  ·rename_i s g;exact ⟨s,cZ r g rfl,h,λ_ w=>w⟩
  ·exact h.elim
 case any=>
  split at h
  ·rename_i v g;exact ⟨v,cZ r rfl g,h,λ_ w=>w⟩
  ·exact h.elim
theorem Kf (r:Rel σ0 E) {t:Nat} {k:Kd} {x:k.T} (g:E t=k.v x):Rel (σ0.put t (k.nv x)) E:=by have:=r.put (d:=t) (tM (T:=σ0.T) k x);rw [Ae g] at this;exact this
theorem EC {f:Sy->Ψ} (r:Rel σ E):∀(l:List (Nat×Kd)) {A:Tl l} {σ0:Sy},TB f l A σ0->Rel σ0 E->W1 σ l A F->∃w,Rel w E/\f w F
 |[],A,σ0,h,r0,g=>⟨σ0,r0,h F g⟩
 | (t,k)::l,A,σ0,h,r0,g=>by obtain ⟨x,B,g,_⟩:=xz g r;exact EC r l (h x) (Kf r0 B) g
theorem Co {f:Sy->Ψ} (r:Rel σ E):∀(l:List (Nat×Kd)) {σ0:Sy},Rel σ0 E->W1 σ l (Zv f l σ0) F->∃g,Rel g E/\f g F
 |[],σ0,r0,h=>⟨σ0,r0,h⟩
 | (t,k)::l,σ0,r0,h=>by obtain ⟨x,w,h,_⟩:=xz h r;exact Co r l (Kf r0 w) h
theorem ED (r:Rel σ E):∀(l:List (Nat×Kd)) {w A:Tl l},TC l w A->W1 σ l w F->W1 σ l A F
 |[],w,A,h,g=>h F g
 | (t,k)::l,w,A,h,g=>by obtain ⟨x,C,g,B⟩:=xz g r;exact B _ (ED r l (h x) g)
theorem Kg (r:Rel σ E):∀(l:List (Nat×Kd)) {g:Nat->Tl l} {m:Nat},W1 σ l (ZL l g m) F->∃w,w<m/\W1 σ l (g w) F
 |[],g,m,h=>h
 | (t,k)::l,g,m,h=>by obtain ⟨x,D,A,C⟩:=xz h r;obtain ⟨w,B,A⟩:=Kg r l A;exact ⟨w,B,C _ A⟩
theorem xA {f:Sy->Ψ} (h:jW K):jW (Yy f K):=h
theorem SH {g:Nat} (h:jW K):jW (Z6 g K):=h
theorem kE:∀(c:Code) (h:iX) (K:CK) (σ:Sy) (E:En) (F:PH),jW K->sx P n c h K σ F->Rel σ E->HC P n c (QK (iY c) E K) E F
 | .skip,_,K,σ,E,F,_,h,r=>NF ⟨⟨σ,r,h⟩,.refl⟩
 | .ret,_,K,σ,E,F,_,h,r=>Ta ⟨⟨σ,r,h⟩,.refl⟩
 | .exit i,_,K,σ,E,F,_,h,r=>NG ⟨⟨σ,r,h⟩,.refl⟩
 | .region id ⟨ops⟩ mz,_,K,σ,E,F,hK,h,r=>GL (CT ops σ E F (λo ho t G=>Aj ho G) .refl h r)
 | .region id ops mY,_,K,σ,E,F,hK,h,r=>by unfold sx at h;obtain ⟨hm,h⟩:=eC h;exact NL hm (lA hK (λo ho t G=>Aj ho G) _ _ _ _ _ _ _ _ .refl .nil QX h r)
 | .seq a b,hh,K,σ,E,F,hK,h,r=>by
  have other:∀{f:Sy->Ψ} (x:Exit) (A:En) (B:PH),x≠.normal->QK (iY a) E (Yy f K) x A B->QK (iY (.seq a b)) E K x A B:=by intro f x A B hx ⟨⟨g,D,C⟩,w⟩;refine ⟨⟨g,D,?_⟩,w.left⟩;cases x<;>first|exact absurd rfl hx|exact C
  have J:∀{g:Sy} {A:En} {B:PH},Fr (iY a) E A->Rel g A->sx P n b hh.snd K g B->HC P n b (QK (iY (.seq a b)) E K) A B:=by intro g A B w D C;exact eR (kE b _ K g A B hK C D) λx X a0 ⟨W,H⟩=>⟨W,w.left.trans H.right⟩
  unfold sx at h;split at h
  ·refine CA (eR (kE a _ _ σ E F (xA hK) h r) λx A B q=> ?_);cases x with
   |normal=>obtain ⟨⟨g,D,C⟩,w⟩:=q;exact J w D C
   |_=>exact other _ _ _ (by intro e;cases e) q
  ·rename_i l _;refine CA (eR (kE a _ _ σ E F (xA hK) h r) λx A B q=> ?_);cases x with
   |normal=>obtain ⟨⟨g,D,C⟩,w⟩:=q;obtain ⟨M,O,N⟩:=Co D l (r.hav w) C;exact J w O N
   |_=>exact other _ _ _ (by intro e;cases e) q
  ·rename_i l _;obtain ⟨z1,hJ,h⟩:=h;refine CA (eR (kE a _ _ σ E F (xA hK) h r) λx A B q=> ?_);cases x with
   |normal=>obtain ⟨⟨g,D,C⟩,w⟩:=q;obtain ⟨M,O,N⟩:=Co D l (r.hav w) (ED D l hJ C);exact J w O N
   |_=>exact other _ _ _ (by intro e;cases e) q
 | .cond c a b,hh,K,σ,E,F,hK,h,r=>by
  have ha:sx P n a hh.fst K σ F->HC P n a (QK (iY (.cond c a b)) E K) E F:=λh=>eR (kE a _ K σ E F hK h r) λx A B ⟨W,w⟩=>⟨W,w.left⟩;have R:sx P n b hh.snd K σ F->HC P n b (QK (iY (.cond c a b)) E K) E F:=λh=>eR (kE b _ K σ E F hK h r) λx A B ⟨W,w⟩=>⟨W,w.right⟩;unfold sx at h;split at h
  ·rename_i L;exact Ld (aZ r L rfl) (ha h)
  ·rename_i L;exact Le (aZ r L rfl) (R h)
  ·rename_i i t L;exact qH (aZ r L rfl) (λG=>ha (h.1 G)) (λG=>R (h.2 G))
  ·rename_i i p d L;exact qH (t:= @decide p d) (aZ r L rfl) (λG=>ha (h.1 (ζ G))) (λG=>R (h.2 (ι G)))
  ·exact h.elim
 | .block id c,hh,K,σ,E,F,hK,h,r=>by
  refine KQ (eR (kE c hh _ σ E F (SH hK) h r) λx A B q=> ?_);obtain ⟨⟨g,D,C⟩,w⟩:=q;cases x with
  |exit i=>
   show bif Nat.beq i id then QK _ E K .normal A B else QK _ E K (.exit i) A B
   have C:bif Nat.beq i id then K .normal g B else K (.exit i) g B:=C
   cases R:Nat.beq i id<;>rw [R] at C<;>exact ⟨⟨g,D,C⟩,w⟩
  |_=>exact ⟨⟨g,D,C⟩,w⟩
 | .loop c,hh,K,σ,E,F,hK,h,r=>by
  obtain ⟨z0,m,h0,hr⟩:=h;refine NH (λm A B=>(∃g,Rel g A/\W1 g hh.lv (z0 m) B)/\Fr (iY c) E A) m ⟨⟨σ,r,h0⟩,.refl⟩ ?_;rintro m A B ⟨⟨g,D,hj⟩,w⟩;obtain ⟨M,O,N⟩:=EC D _ (hr m) (r.hav w) hj;refine eR (kE c _ _ M A B (xA hK) N O) λx X a0 q=> ?_;obtain ⟨⟨Q,r3,h3⟩,H⟩:=q;cases x with
  |normal=>obtain ⟨m',hm,a1⟩:=Kg r3 _ h3;exact ⟨m',hm,⟨Q,r3,a1⟩,w.trans H⟩
  |_=>exact ⟨⟨Q,r3,h3⟩,w.trans H⟩
 | .rangeFunc ..,_,_,_,_,_,_,h,_=>h.elim
 | .label _,_,K,σ,E,F,_,h,r=>KO ⟨⟨σ,r,h⟩,.refl⟩
 | .scope c,hh,K,σ,E,F,hK,h,r=>by
  refine KP (eR (kE c hh (Z5 K) σ E F (λc σ F h=>hK c σ F h) h r) λx A B q=> ?_);obtain ⟨⟨g,D,C⟩,w⟩:=q;cases x with
  |goto l=>exact C.elim
  |_=>exact ⟨⟨g,D,C⟩,w⟩
 | .goto _,_,_,_,_,_,_,h,_=>h.elim
 | .refuse _,_,_,_,_,_,_,h,_=>h.elim
inductive RVs (P:Program) (E:En) (F:PH):List ResultVar->Ξ->Prop
 |nil:RVs P E F [] []
 |cons {r:ResultVar} {v:ξ} {l:List ResultVar} {vs:Ξ} (h:gX P E F r v) (t:RVs P E F l vs):RVs P E F (r::l) (v::vs)
theorem jl (r:Rel σ E):∀(l:List ResultVar) {K:Ξ->Prop},tL P σ l F K->∃vs,RVs P E F l vs/\K vs
 |[],K,h=>⟨[],.nil,h⟩
 | .tmp t::l,K,h=>by
  unfold tL at h;split at h
  ·rename_i v H;obtain ⟨vs,g,A⟩:=jl r l h;exact ⟨v::vs,.cons (xN (cZ r rfl H)) g,A⟩
  ·exact h.elim
 | .cell x t::l,K,h=>by
  unfold tL at h;split at h
  ·rename_i a D;split at h
   ·exact h.elim
   ·rename_i d hd;split at h
    ·rename_i w;split at h
     ·rename_i m b G;obtain ⟨v,g,A,h⟩:=h;obtain ⟨vs,B,C⟩:=jl r l h;exact ⟨_,.cons (Ll (cZ r D rfl) hd (xZ w) G g A) B,C⟩
     ·exact h.elim
    ·rename_i w;obtain ⟨v,g,h⟩:=h;obtain ⟨vs,B,C⟩:=jl r l h;exact ⟨_,.cons (Lm (cZ r D rfl) hd (qN w) g) B,C⟩
  ·exact h.elim
theorem aau {O:Func} {r X C W R:ResultVar} {v Q H v3 N:ξ} (h:O.results= #[r,X,C,W,R]) (hv:gX P E F r v) (G:gX P E F X Q) (g:gX P E F C H) (D:gX P E F W v3) (B:gX P E F R N):oU P O E F (.tuple #[v,Q,H,v3,N]):=λe w M st A=>by have k:=dP hv st A;have k':=dP G st A;have J:=dP g st A;have k3:=dP D st A;have k4:=dP B st A;clear A hv G g D B;rcases k with ⟨t,rfl,h1⟩|⟨x,t,a,rfl,h1,h2⟩<;>rcases k' with ⟨t',rfl,h3⟩|⟨x',t',a',rfl,h3,h4⟩<;>rcases J with ⟨L,rfl,h5⟩|⟨a0,L,a2,rfl,h5,h6⟩<;>rcases k3 with ⟨t3,rfl,h7⟩|⟨x3,t3,a3,rfl,h7,h8⟩<;>rcases k4 with ⟨t4,rfl,h9⟩|⟨x4,t4,a4,rfl,h9,a1⟩<;>simp [results,asAddr, *]
theorem Kh {r:Func} {vs:Ξ} (h:RVs P E F r.results.toList vs) (D:Nat.ble r.results.size 5=mY):oU P r E F (YU vs):=by
 have D:=Ze D;have key:∀l,r.results.toList=l->r.results=l.toArray:=λl h=>by rw [<- h]
 generalize H:r.results.toList=l at h;have g:=key _ H;have w:l.length<=5:=by rw [<- H];simpa using D
 cases h with
 |nil=>exact aaF g
 |cons A t=>
  cases t with
  |nil=>exact Yz g A
  |cons B t=>
   cases t with
   |nil=>exact YA g A B
   |cons C t=>
    cases t with
    |nil=>exact aaG g A B C
    |cons G t=>
     cases t with
     |nil=>exact aaU g A B C G
     |cons J t=>
      cases t with
      |nil=>exact aau g A B C G J
      |cons L t=>simp at w
theorem SI {B:Func} {R:ξ->Ψ} {x:Exit} {M:Δ} {C:En} (h:QK M C (YV P B R) x E F):NJ P B R x E F:=by
 obtain ⟨⟨σ,r,h⟩,_⟩:=h;cases x with
 |normal=>obtain ⟨A,h⟩:=eC h;obtain ⟨vs,w,g⟩:=jl r _ h;exact ⟨_,Kh w A,g⟩
 |ret=>obtain ⟨A,h⟩:=eC h;obtain ⟨vs,w,g⟩:=jl r _ h;exact ⟨_,Kh w A,g⟩
 |_=>exact h.elim
theorem s9:∀(vs:Ξ) (g:List TypeId) (i:Nat) (σ:Sy),(∀j v,vs[j]? =V v->E (i+j)=v)->Rel σ E->Rel (FC P i g vs σ) E
 |[],g,i,σ,_,r=>by cases g<;>exact r
 |v::vs,g,i,σ,h,r=>by
  have hi:E i=v:=h 0 v rfl;have step:∀k:Kd,Rel (σ.put i (Y6 k v)) E:=λk=>by have:=r.put (d:=i) (LI (T:=σ.T) k v);rw [Ae hi] at this;exact this
  have w:∀j u,vs[j]? =V u->E (i+1+j)=u:=λj u A=>by have:=h (j+1) u (by simpa using A);rw [show i+1+j=i+(j+1) by omega];exact this
  cases g with
  |nil=>exact s9 vs [] (i+1) _ w (step _)
  |cons t g=>exact s9 vs g (i+1) _ w (step _)
theorem SJ {k:Nat} {h:iX} {args:Ξ} {R:ξ->Ψ} (g:ZB P k h args R F):aj P k args.toArray F R:=by
 unfold ZB at g;split at g
 ·exact g.elim
 ·rename_i C B;split at g
  ·exact g.elim
  ·rename_i c A;obtain ⟨r,g⟩:=eC g;refine NK B A rfl r (eR (kE c h _ _ (S9 args) F (λc σ F h=>h) g (s9 args _ 0 _ (λj v w=> ?_) ⟨λt=>True.intro,λj _=>rfl⟩)) λx E F q=>SI q);simp only [ye];show args.getD j undef=v;rw [Q0,w];rfl
theorem sxC {k:Nat} (h:iX) {args:Ξ} {R:ξ->Ψ} {b:Prop} (e:b=ZB P k h args R F) (g:b):aj P k args.toArray F R:=SJ (e▸g)
theorem Λ {k:Nat} (h:iX) {args:Ξ} {R:ξ->Ψ} {b:Prop} (g:b) (e:b=ZB P k h args R F:=by kernel_rfl):aj P k args.toArray F R:=sxC h e g
end
end Go.Proofs.YteilolbbgieadaaGreatDoor.Rx
namespace Go.Proofs.YteilolbbgieadaaGreatDoor
open Go.IntKind (i64 u8 u64)
open Sl renaming v->nE,nil->pi
open Go Go.Proofs.Tryz
section
abbrev Z (b o:Nat):Addr:=ou b o I
abbrev Pp (b:Nat):Value:=.pointer (V (Z b 0))
abbrev U (n:Int):Value:=.int .i64 n
abbrev Sb (b n:Nat):Sl:=Sl.mk (V (Z b 0)) n n
abbrev zG:Γ:= #[.slice I 0 0,.slice I 0 0,.int .i64 0,.slice I 0 0,.slice I 0 0,.slice I 0 0,.int .i64 0,.slice I 0 0,.slice I 0 0]
abbrev zP:Γ:= #[.string ⟨#[]⟩,.int .i64 0,.slice I 0 0,.slice I 0 0,.int .i64 0,.bool mz,.int .i64 0,.slice I 0 0,.bool mz,.int .i64 0,.int .i64 0,.int .i64 0,.int .i64 0]
abbrev zT:Γ:= #[.string ⟨#[]⟩,.int .i64 0,.string ⟨#[]⟩,.slice I 0 0,.string ⟨#[]⟩,.slice I 0 0,.int .i64 0]
abbrev zF:Γ:= #[.int .i64 0,.int .i64 0,.int .i64 0,.int .i64 0,.int .i64 0,.int .i64 0,.slice I 0 0,.slice I 0 0,.int .i64 0]
abbrev zL:Γ:= #[.slice I 0 0,.int .i64 0,.slice I 0 0,.int .i64 0]
abbrev zD:Γ:= #[.slice I 0 0,.int .i64 0]
section
variable (F:PH) (a:Addr)
abbrev Rr (n:Nat) (a:Addr) (R:VR) (F:PH):Prop:=∃v:Γ,v.size=n/\F.row a v/\R (.agg v) F
abbrev Lr (n:Nat) (a:Addr) (K:Γ->Prop):Prop:=∃v:Γ,v.size=n/\F.row a v/\K v
abbrev Li (K:Int->Prop):Prop:=∃v:Int,F.cell a=V (.int .i64 v)/\K v
abbrev Lk (k:IntKind) (a:Addr) (K:Int->Prop):Prop:=∃v:Int,F.cell a=V (.int k v)/\K v
abbrev Lq (K:Θ->Prop):Prop:=∃v:Θ,F.cell a=V (.pointer v)/\K v
abbrev Ls (K:Sl->Prop):Prop:=∃v:Sl,F.cell a=V (nE v)/\K v
abbrev Lb (K:Bool->Prop):Prop:=∃v:Bool,F.cell a=V (.bool v)/\K v
abbrev Lx (K:ByteArray->Prop):Prop:=∃v:ByteArray,F.cell a=V (.string v)/\K v
end
abbrev Ix (s:Sl) (i:Int) (K:Addr->Prop):Prop:=∃a:Addr,s.qa5=V a/\0<=i/\i<(s.len:Int)/\K a
abbrev Fn (f:Value) (K:Nat->Γ->Γ->Prop):Prop:=∃(k:Nat) (fst cap:Γ),f=.func (.func k) fst cap/\aF prog k=mY/\K k fst cap
section
variable (k:Nat) (ar:Γ) (F:PH)
abbrev Ap (K:Sl->Ψ):Prop:=aG prog (Builtin.append_ #[k,k] k ar) F λv F=>∃x:Sl,v=nE x/\K x F
abbrev Ca (K:Γ->Ψ):Prop:=aj prog k ar F λv F=>∃x:Γ,v=.agg x/\K x F
abbrev Ci (K:Ω):Prop:=aj prog k ar F λv F=>∃x:Int,v=.int .i64 x/\K x F
abbrev ud (K:Bool->Ψ):Prop:=aj prog k ar F λv F=>∃x:Bool,v=.bool x/\K x F
abbrev Cs (K:Sl->Ψ):Prop:=aj prog k ar F λv F=>∃x:Sl,v=nE x/\K x F
abbrev Cx (K:ByteArray->Ψ):Prop:=aj prog k ar F λv F=>∃x:ByteArray,v=.string x/\K x F
abbrev Cu (K:Ψ):Prop:=aj prog k ar F λv F=>v=Value.tuple #[]/\K F
end
abbrev Nb (F:PH) (o:Obj) (K:Nat->Ψ):Prop:=∀b,F b=I->xG (F.set b o) (K b)
abbrev Bc (c A B:Prop):Prop:=(c->A)/\(¬c->B)
abbrev Bb (c:Bool) (A B:Prop):Prop:=(c=mY->A)/\(c=mz->B)
abbrev Lp {α:Type} (x:α) (F:PH) (B:(α->Ψ)->α->Ψ):Prop:=∃(z0:Nat->α->Ψ) (m:Nat),z0 m x F/\∀m x F,z0 m x F->B (λy F=>∃m',m'<m/\z0 m' y F) x F
variable {R:VR} {F:PH}
set_option maxHeartbeats 4000000
def Ki (a:Int) (R:VR) (F:PH):Prop:=R (.bool (decide (a=1))) F
def Kj (j:Ω) (i:Int) (k:Nat) (R:VR) (a:Int) (F:PH):Prop:=Bc (1<a) (Ls F (Z k 0) λd=>Ix d (i64.wrap (a - 2)) λe=>∃b,b.size=3/\F.row (nR e (nT (i64.wrap (a - 2))*3)) b/\Nb F (Y (#[U 0,U 0,U 0]) 201) λh F=>aA F (Z h 0) 3 b λF=>Li F (Z h 0) λc=>0<=c/\Bc ((u64.wrap ((BitVec.ofInt (u64).bits (Int.fdiv i (2 ^ (min (nT c) (u64).bits))) &&& BitVec.ofInt (u64).bits 1).toNat))=1) (Li F (Z h 2) λf=>j f F) (Li F (Z h 1) λg=>j g F)) (Ki a R F)
def Xa (c:Γ) (d:Int) (R:VR) (F:PH):Prop:=Nb F (Y c 33) λe F=>Lr F 2 (Z e 0) λf=>Ci 106 #[.agg f] F λg F=>Bc (g≠0) (R (.bool mz) F) (Li F (Z e 1) λb=>Lp b F λN a F=>Kj N d e R a F)
abbrev ν:=aj prog
theorem aav {a:Γ} {b:Int} (h:Xa a b R F):ν 76 #[.agg a,.int .u64 b] F R:=Rx.Λ (.qa8 (.qa8 (.qa8 (.J mz [(5,.int .i64)] (.L [(5,.int .i64)] .N) .N)))) h
def EE (f:Nat) (R:VR) (F:PH):Prop:=Li F (Z f 1) λg=>Bc (g<0) (R (U 20) F) (Li F (Z f 1) λh=>Ls F (Z f 0) λi=>Bc ((i64.wrap ((i.len:Int)+1))<h) (R (U 20) F) (Ls F (Z f 0) λj=>Nb F (Y (#[nE j,.map I]:Γ) 248) λk F=>Li F (Z f 1) λa=>Ca 147 #[(Pp k),(U a)] F λb F=>Nb F (Y zD 33) λl F=>aA F (Z l 0) 2 b λF=>Lr F 2 (Z l 0) λc=>Lr F 2 (Z f 0) λd=>ud 117 #[.agg c,.agg d] F λe F=>Bb ((!e)) (R (U 20) F) (R (U 0) F)))
def EF (A:Ω) (z g:Nat) (d:Sl) (R:VR) (a:Int) (F:PH):Prop:=Bc (a<(d.len:Int)) (Ix d a λh=>Lr F 3 (nR h (nT a*3)) λi=>Nb F (Y (#[U 0,U 0,U 0]) 201) λb F=>aA F (Z b 0) 3 i λF=>Li F (Z b 0) λj=>Bc (j<0) (R (U 20) F) (Li F (Z b 0) λk=>Bc (63<k) (R (U 20) F) (Li F (Z b 1) λl=>Bc (l<0) (R (U 20) F) (Li F (Z b 2) λm=>Bc (m<0) (R (U 20) F) (Li F (Z b 1) λn=>Bc ((i64.wrap (a+1))<n) (R (U 20) F) (Li F (Z b 2) λo=>Bc ((i64.wrap (a+1))<o) (R (U 20) F) (Li F (Z b 1) λp=>Li F (Z b 2) λq=>Bc (p=q) (R (U 20) F) (Lr F 3 (Z b 0) λr=>∃e,pn prog (Instr.lookup 243 (.map (V g)) (.agg r) mz) F (.bool e)/\Bb (e) (R (U 20) F) (Lr F 2 (Z z 0) λs=>Li F (Z b 1) λt=>Li F (Z b 0) λc=>Ci 146 #[.agg s,(U t)] F λu F=>F.cell (Z b 0)=V (U c)/\Bc (u<=c) (R (U 20) F) (Lr F 2 (Z z 0) λv=>Li F (Z b 2) λw=>Li F (Z b 0) λf=>Ci 146 #[.agg v,(U w)] F λx F=>F.cell (Z b 0)=V (U f)/\F.cell (Z b 0)=V (U c)/\Bc (x<=f) (R (U 20) F) (Lr F 3 (Z b 0) λy=>aG prog (Instr.mapUpdate 243 (.map (V g)) (.agg y) (.bool mY)) F λ_ F=>A (i64.wrap (a+1)) F))))))))))) (EE z R F)
def PS (c:Γ) (R:VR) (F:PH):Prop:=Nb F (Y c 33) λd F=>Ls F (Z d 0) λe=>Bc ((4096:Int)<(e.len:Int)) (R (U 2) F) (Nb F (.map #[] 0) λf F=>Ls F (Z d 0) λa=>Lp 0 F λN b F=>EF N d f a R b F)
theorem qeR {a:Γ} (h:PS a R F):ν 106 #[.agg a] F R:=Rx.Λ (.qa8 (.qa8 (.qa8 (.J mz [] (.qa8 (.L [(15,.int .i64)] .N)) .N)))) h
def PT (d e:Γ) (R:VR) (F:PH):Prop:=Nb F (Y d 33) λi F=>Nb F (Y e 33) λj F=>Nb F (Y zD 33) λh F=>Lr F 2 (Z i 0) λf=>Lr F 2 (Z j 0) λg=>ν 148 #[.agg f,.agg g,.func (.func 149) #[] #[]] F λv F=>∃c,∃a,v=(.tuple #[.agg c,(U a)])/\aA F (Z h 0) 2 c λF=>Lr F 2 (Z h 0) λb=>R (.tuple #[.agg b,(U a)]) F
theorem qeS {a:Γ} {b:Γ} (h:PT a b R F):ν 109 #[.agg a,.agg b] F R:=Rx.Λ .N h
def PU (a:Bool) (R:VR) (F:PH):Prop:=Nb F (Y zD 33) λb F=>Bb (a) (aA F (Z b 0) 2 (#[.slice I 0 0,(U 1)]:Γ) λF=>Rr 2 (Z b 0) R F) (aA F (Z b 0) 2 zD λF=>Rr 2 (Z b 0) R F)
theorem qeT {a:Bool} (h:PU a R F):ν 112 #[.bool a] F R:=Rx.Λ .N h
def PV (d e:Γ) (R:VR) (F:PH):Prop:=Nb F (Y d 33) λi F=>Nb F (Y e 33) λj F=>Nb F (Y zD 33) λh F=>Lr F 2 (Z i 0) λf=>Lr F 2 (Z j 0) λg=>ν 148 #[.agg f,.agg g,.func (.func 152) #[] #[]] F λv F=>∃c,∃a,v=(.tuple #[.agg c,(U a)])/\aA F (Z h 0) 2 c λF=>Lr F 2 (Z h 0) λb=>R (.tuple #[.agg b,(U a)]) F
theorem qeU {a:Γ} {b:Γ} (h:PV a b R F):ν 113 #[.agg a,.agg b] F R:=Rx.Λ .N h
def PX (d e:Γ) (R:VR) (F:PH):Prop:=Nb F (Y d 33) λh F=>Nb F (Y e 33) λi F=>Li F (Z h 1) λf=>Li F (Z i 1) λg=>Bc (f=g) (Ls F (Z h 0) λa=>Ls F (Z i 0) λb=>ud 153 #[nE a,nE b] F λc F=>R (.bool c) F) (R (.bool mz) F)
theorem qeV {a:Γ} {b:Γ} (h:PX a b R F):ν 117 #[.agg a,.agg b] F R:=Rx.Λ .N h
def PY (d:Γ) (b:Int) (R:VR) (F:PH):Prop:=Nb F (Y d 33) λf F=>Bc (b<2) (R (U 64) F) (Ls F (Z f 0) λe=>Ix e (i64.wrap (b - 2)) λc=>∃a,F.cell (nR c (nT (i64.wrap (b - 2))*3))=V (U a)/\R (U a) F)
theorem qeW {a:Γ} {b:Int} (h:PY a b R F):ν 146 #[.agg a,(U b)] F R:=Rx.Λ .N h
def PZ (h:Θ) (a:Int) (R:VR) (F:PH):Prop:=Nb F (Y #[.pointer h] 245) λn F=>Nb F (Y zD 33) λl F=>Nb F (Y zD 33) λg F=>aA F (Z g 0) 2 zD λF=>Nb F (.map #[] 0) λi F=>aG prog (Instr.mapUpdate 278 (.map (V i)) (U 0) (U 0)) F λ_ F=>aG prog (Instr.mapUpdate 278 (.map (V i)) (U 1) (U 1)) F λ_ F=>Nb F (Y (#[.map I]) 278) λm F=>qW F (Z m 0) (.map (V i)) λF=>Nb F (Y (#[.nilFunc]) 149) λj F=>qW F (Z j 0) (.func (.func 182) #[] #[(Pp m),(Pp n),(Pp j),(Pp g)]) λF=>∃b:ξ,F.cell (Z j 0)=V b/\Fn b λk d e=>aj prog k (d++([(U a)]).toArray++e) F λv F=>∃c,v=(U c)/\qW F (Z g 1) (U c) λF=>Lr F 2 (Z g 0) λf=>aA F (Z l 0) 2 f λF=>Rr 2 (Z l 0) R F
theorem qeX {b:Θ} {a:Int} (h:PZ b a R F):ν 147 #[.pointer b,(U a)] F R:=Rx.Λ .N h
def P0 (m n:Γ) (c:ξ) (R:VR) (F:PH):Prop:=Nb F (Y m 33) λp F=>Nb F (Y n 33) λq F=>c.cells= #[c]/\Nb F (Y #[c] 250) λr F=>Nb F (Y zD 33) λl F=>Lr F 2 (Z p 0) λj=>Lr F 2 (Z q 0) λe=>j.size=2/\e.size=2/\Nb F (Y (wr (wr zL 0 j.toList) 2 e.toList) 33) λo F=>Ci 183 #[nE (Sb o 2)] F λf F=>Bc (f≠0) (aA F (Z l 0) 2 zD λF=>Lr F 2 (Z l 0) λd=>R (.tuple #[.agg d,(U f)]) F) (Lr F 2 (Z p 0) λg=>Lr F 2 (Z q 0) λh=>g.size=2/\h.size=2/\zD.size=2/\Ca 185 #[.agg (wr (wr (wr (#[.slice I 0 0,U 0,.slice I 0 0,U 0,.slice I 0 0,U 0]:Γ) 0 g.toList) 2 h.toList) 4 zD.toList),.func (.func 186) #[] #[(Pp r)]] F λk F=>ν 184 #[.agg k] F λv F=>∃i,∃a,v=(.tuple #[.agg i,(U a)])/\aA F (Z l 0) 2 i λF=>Lr F 2 (Z l 0) λb=>R (.tuple #[.agg b,(U a)]) F)
theorem qeY {b:Γ} {c:Γ} {a:ξ} (h:P0 b c a R F):ν 148 #[.agg b,.agg c,a] F R:=Rx.Λ .N h
def P5 (a b:Bool) (R:VR) (F:PH):Prop:=Bb (a) (R (.bool b) F) (R (.bool mz) F)
theorem qeZ {a:Bool} {b:Bool} (h:P5 a b R F):ν 149 #[.bool a,.bool b] F R:=Rx.Λ .N h
def P6 (a b:Bool) (R:VR) (F:PH):Prop:=Bb (a) (R (.bool mY) F) (R (.bool b) F)
theorem qe0 {a:Bool} {b:Bool} (h:P6 a b R F):ν 152 #[.bool a,.bool b] F R:=Rx.Λ .N h
def Kk (c:Int) (H z0 z1 K:Θ) (R:VR) (F:PH):Prop:=∃a,H=V a/\∃j:Option Nat,F.cell a=V (.map j)/\∃(k:Int) (d:Bool),pn prog (Instr.lookup 278 (.map j) (U c) mY) F (.tuple #[(U k),.bool d])/\Bb (d) (R (U k) F) (∃l,z0=V l/\Lq F l λx=>∃e,x=V e/\Ls F e λy=>Ix y (i64.wrap (c - 2)) λz=>∃f,f.size=3/\F.row (nR z (nT (i64.wrap (c - 2))*3)) f/\Nb F (Y (#[U 0,U 0,U 0]) 201) λG F=>aA F (Z G 0) 3 f λF=>∃g,z1=V g/\∃m:ξ,F.cell g=V m/\Li F (Z G 1) λA=>Fn m λL s t=>aj prog L (s++([(U A)]).toArray++t) F λv F=>∃h,v=(U h)/\∃n:ξ,F.cell g=V n/\Li F (Z G 2) λB=>Fn n λM u w=>aj prog M (u++([(U B)]).toArray++w) F λv F=>∃i,v=(U i)/\∃b,K=V b/\Ls F b λC=>Li F (Z G 0) λo=>(#[(U o),(U h),(U i)]:Γ).size=3/\Nb F (Y (#[(U o),(U h),(U i)]:Γ) 201) λN F=>Ap 31 #[nE C,nE (Sb N 1)] F λD F=>qW F b (nE D) λF=>∃p:Option Nat,F.cell a=V (.map p)/\Ls F b λE=>aG prog (Instr.mapUpdate 278 (.map p) (U c) (U (i64.wrap ((E.len:Int)+1)))) F λ_ F=>∃q:Option Nat,F.cell a=V (.map q)/\∃r,pn prog (Instr.lookup 278 (.map q) (U c) mz) F (U r)/\R (U r) F)
theorem P7 {a:Int} {b:Θ} {c:Θ} {d:Θ} {e:Θ} (h:Kk a b c d e R F):ν 182 #[(U a),.pointer b,.pointer c,.pointer d,.pointer e] F R:=Rx.Λ .N h
def EG (R:VR) (F:PH):Prop:=R (U 0) F
def EH (h:Ω) (c:Sl) (R:VR) (a:Int) (F:PH):Prop:=Bc (a<(c.len:Int)) (Ix c a λd=>Lr F 2 (nR d (nT a*2)) λe=>Nb F (Y zD 33) λg F=>aA F (Z g 0) 2 e λF=>Lr F 2 (Z g 0) λf=>Ci 106 #[.agg f] F λb F=>Bc (b≠0) (R (U b) F) (h (i64.wrap (a+1)) F)) (EG R F)
def Qa (a:Sl) (R:VR) (F:PH):Prop:=Lp 0 F λN b F=>EH N a R b F
theorem qe1 {a:Sl} (h:Qa a R F):ν 183 #[nE a] F R:=Rx.Λ (.qa8 (.J mz [] (.qa8 (.L [(8,.int .i64)] .N)) .N)) h
def Qb (d:Γ) (R:VR) (F:PH):Prop:=Nb F (Y d 33) λg F=>Nb F (Y zD 33) λc F=>Ls F (Z g 0) λe=>Bc ((4096:Int)<(e.len:Int)) (aA F (Z c 0) 2 zD λF=>Lr F 2 (Z c 0) λb=>R (.tuple #[.agg b,(U 2)]) F) (Lr F 2 (Z g 0) λf=>aA F (Z c 0) 2 f λF=>Lr F 2 (Z c 0) λa=>R (.tuple #[.agg a,(U 0)]) F)
theorem qe2 {a:Γ} (h:Qb a R F):ν 184 #[.agg a] F R:=Rx.Λ .N h
def Qc (n:Γ) (d:ξ) (R:VR) (F:PH):Prop:=Nb F (Y n 282) λe F=>d.cells= #[d]/\Nb F (Y #[d] 283) λs F=>Nb F (Y zD 33) λq F=>ν 211 #[] F λv F=>∃k,v=(.pointer k)/\Nb F (Y (#[.pointer I]) 245) λm F=>qW F (Z m 0) (.pointer k) λF=>Nb F (.map #[] 0) λt F=>Nb F (Y (#[.map I]) 311) λr F=>qW F (Z r 0) (.map (V t)) λF=>Nb F (Y (#[.nilFunc]) 312) λo F=>qW F (Z o 0) (.func (.func 212) #[] #[(Pp s),(Pp r),(Pp e),(Pp o),(Pp m)]) λF=>Lq F (Z m 0) λf=>∃g:ξ,F.cell (Z o 0)=V g/\0<=(0:Int)/\(0:Int)<3/\∃a,F.cell (nR (nR (Z e 0) (nT 0*2)) 1)=V (U a)/\0<=(1:Int)/\(1:Int)<3/\∃b,F.cell (nR (nR (Z e 0) (nT 1*2)) 1)=V (U b)/\0<=(2:Int)/\(2:Int)<3/\∃c,F.cell (nR (nR (Z e 0) (nT 2*2)) 1)=V (U c)/\Fn g λp i j=>aj prog p (i++([(Value.agg (#[(U a),(U b),(U c)]:Γ))]).toArray++j) F λv F=>∃h,v=(U h)/\F.cell (nR (nR (Z e 0) (nT 2*2)) 1)=V (U c)/\F.cell (nR (nR (Z e 0) (nT 1*2)) 1)=V (U b)/\F.cell (nR (nR (Z e 0) (nT 0*2)) 1)=V (U a)/\F.cell (Z m 0)=V (.pointer f)/\Ca 147 #[.pointer f,(U h)] F λl F=>F.cell (nR (nR (Z e 0) (nT 2*2)) 1)=V (U c)/\F.cell (nR (nR (Z e 0) (nT 1*2)) 1)=V (U b)/\F.cell (nR (nR (Z e 0) (nT 0*2)) 1)=V (U a)/\aA F (Z q 0) 2 l λF=>Rr 2 (Z q 0) R F
theorem qe3 {b:Γ} {a:ξ} (h:Qc b a R F):ν 185 #[.agg b,a] F R:=Rx.Λ .N h
def Qd (f g _:Bool) (h:Θ) (R:VR) (F:PH):Prop:=∃a,h=V a/\∃e:ξ,F.cell a=V e/\Fn e λi c d=>aj prog i (c++([(Value.bool f),(Value.bool g)]).toArray++d) F λv F=>∃b,v=(Value.bool b)/\R (.bool b) F
theorem qe4 {a:Bool} {b:Bool} {c:Bool} {d:Θ} (h:Qd a b c d R F):ν 186 #[.bool a,.bool b,.bool c,.pointer d] F R:=Rx.Λ .N h
def Qe (R:VR) (F:PH):Prop:=Nb F (.map #[] 0) λa F=>Nb F (Y (#[.slice I 0 0,.map (V a)]:Γ) 248) λb F=>R (Pp b) F
theorem qe5 (h:Qe R F):ν 211 #[] F R:=Rx.Λ .N h
def EI (n:Addr) (u w:Θ) (B:Nat) (o p q:Int) (x y:Nat) (R:VR) (F:PH):Prop:=∃a,u=V a/\∃c:ξ,F.cell a=V c/\Lr F 3 (Z x 0) λr=>Fn c λz j k=>aj prog z (j++([(Value.agg r)]).toArray++k) F λv F=>∃d,v=(U d)/\∃b,w=V b/\Lq F b λe=>∃f:ξ,F.cell a=V f/\Lr F 3 (Z y 0) λs=>Fn f λA l m=>aj prog A (l++([(Value.agg s)]).toArray++m) F λv F=>∃g,v=(U g)/\F.cell b=V (.pointer e)/\Ci 214 #[.pointer e,(U (min (min o p) q)),(U d),(U g)] F λh F=>∃i:Option Nat,F.cell n=V (.map i)/\Lr F 3 (Z B 0) λt=>aG prog (Instr.mapUpdate 311 (.map i) (.agg t) (U h)) F λ_ F=>R (U h) F
def EJ (p:Ω) (g h:Addr) (m n:Θ) (o:Nat) (c d e:Int) (i j:Nat) (R:VR) (a:Int) (F:PH):Prop:=Bc (a<3) (0<=a/\a<3/\Lr F 2 (nR h (nT a*2)) λk=>0<=a/\a<3/\Li F (nR (Z o 0) (nT a*1)) λl=>ν 213 #[.agg k,(U l),(U (min (min c d) e))] F λv F=>∃f,∃b,v=(.tuple #[(U f),(U b)])/\0<=a/\a<3/\qW F (nR (Z i 0) (nT a*1)) (U f) λF=>0<=a/\a<3/\qW F (nR (Z j 0) (nT a*1)) (U b) λF=>p (i64.wrap (a+1)) F) (EI g m n o c d e i j R F)
def gj (B C D E G:Θ) (b:Nat) (p:Bool) (R:VR) (F:PH):Prop:=Bb (p) (∃g,B=V g/\∃h:ξ,F.cell g=V h/\0<=(0:Int)/\(0:Int)<3/\Li F (nR (Z b 0) (nT 0*1)) λq=>0<=(1:Int)/\(1:Int)<3/\Li F (nR (Z b 0) (nT 1*1)) λr=>0<=(2:Int)/\(2:Int)<3/\Li F (nR (Z b 0) (nT 2*1)) λs=>Fn h λH n o=>aj prog H (n++([(Value.bool (decide (q=1))),(Value.bool (decide (r=1))),(Value.bool (decide (s=1)))]).toArray++o) F λv F=>∃i,v=(Value.bool i)/\Bb (i) (R (U 1) F) (R (U 0) F)) (∃c,C=V c/\∃j:Option Nat,F.cell c=V (.map j)/\Lr F 3 (Z b 0) λt=>∃(k:Int) (d:Bool),pn prog (Instr.lookup 311 (.map j) (.agg t) mY) F (.tuple #[(U k),.bool d])/\Bb (d) (R (U k) F) (∃a,D=V a/\0<=(0:Int)/\(0:Int)<3/\Lr F 2 (nR a (nT 0*2)) λu=>0<=(0:Int)/\(0:Int)<3/\Li F (nR (Z b 0) (nT 0*1)) λw=>0<=(1:Int)/\(1:Int)<3/\Lr F 2 (nR a (nT 1*2)) λl=>0<=(1:Int)/\(1:Int)<3/\Li F (nR (Z b 0) (nT 1*1)) λm=>0<=(2:Int)/\(2:Int)<3/\Lr F 2 (nR a (nT 2*2)) λe=>0<=(2:Int)/\(2:Int)<3/\Li F (nR (Z b 0) (nT 2*1)) λf=>Ci 146 #[.agg u,(U w)] F λx F=>F.cell (nR (Z b 0) (nT 2*1))=V (U f)/\F.row (nR a (nT 2*2)) e/\F.cell (nR (Z b 0) (nT 1*1))=V (U m)/\F.row (nR a (nT 1*2)) l/\Ci 146 #[.agg l,(U m)] F λy F=>F.cell (nR (Z b 0) (nT 2*1))=V (U f)/\F.row (nR a (nT 2*2)) e/\Ci 146 #[.agg e,(U f)] F λz F=>Nb F (Y (#[U 0,U 0,U 0]) 313) λz0 F=>Nb F (Y (#[U 0,U 0,U 0]) 313) λz1 F=>Lp 0 F λN A F=>EJ N c a E G b x y z z0 z1 R A F))
def Qf (j:Γ) (a b c d e:Θ) (R:VR) (F:PH):Prop:=Nb F (Y j 313) λf F=>0<=(0:Int)/\(0:Int)<3/\Li F (nR (Z f 0) (nT 0*1)) λg=>Bc (g<2) (0<=(1:Int)/\(1:Int)<3/\Li F (nR (Z f 0) (nT 1*1)) λh=>Bc (h<2) (0<=(2:Int)/\(2:Int)<3/\Li F (nR (Z f 0) (nT 2*1)) λi=>gj a b c d e f (decide (i<2)) R F) (gj a b c d e f mz R F)) (gj a b c d e f mz R F)
theorem qe6 {a:Γ} {b:Θ} {c:Θ} {d:Θ} {e:Θ} {f:Θ} (h:Qf a b c d e f R F):ν 212 #[.agg a,.pointer b,.pointer c,.pointer d,.pointer e,.pointer f] F R:=Rx.Λ (.qa8 (.T (.J mz [(28,.bool)] .N .N) (.qa8 (.qa8 (.qa8 (.J mz [] (.qa8 (.L [(64,.int .i64)] .N)) .N)))))) h
def Qg (i:Γ) (a j:Int) (R:VR) (F:PH):Prop:=Nb F (Y i 33) λk F=>Lr F 2 (Z k 0) λl=>Ci 146 #[.agg l,(U a)] F λd F=>Bc (d≠j) (R (.tuple #[(U a),(U a)]) F) (Ls F (Z k 0) λe=>Ix e (i64.wrap (a - 2)) λf=>∃b,F.cell (nR (nR f (nT (i64.wrap (a - 2))*3)) 1)=V (U b)/\Ls F (Z k 0) λg=>Ix g (i64.wrap (a - 2)) λh=>∃c,F.cell (nR (nR h (nT (i64.wrap (a - 2))*3)) 2)=V (U c)/\R (.tuple #[(U b),(U c)]) F)
theorem qe7 {a:Γ} {b:Int} {c:Int} (h:Qg a b c R F):ν 213 #[.agg a,(U b),(U c)] F R:=Rx.Λ .N h
def Qh (o:Θ) (p b c:Int) (R:VR) (F:PH):Prop:=Bc (b=c) (R (U b) F) (Nb F (Y (#[U 0,U 0,U 0]) 201) λn F=>aA F (Z n 0) 3 (#[(U p),(U b),(U c)]:Γ) λF=>∃a,o=V a/\∃e:Option Nat,F.cell (nR a 1)=V (.map e)/\Lr F 3 (Z n 0) λj=>∃(f:Int) (d:Bool),pn prog (Instr.lookup 246 (.map e) (.agg j) mY) F (.tuple #[(U f),.bool d])/\Bb ((!d)) (Ls F a λk=>Lr F 3 (Z n 0) λg=>g.size=3/\Nb F (Y g 201) λq F=>Ap 31 #[nE k,nE (Sb q 1)] F λl F=>qW F a (nE l) λF=>Ls F a λh=>∃i:Option Nat,F.cell (nR a 1)=V (.map i)/\Lr F 3 (Z n 0) λm=>aG prog (Instr.mapUpdate 246 (.map i) (.agg m) (U (i64.wrap ((h.len:Int)+1)))) F λ_ F=>R (U (i64.wrap ((h.len:Int)+1))) F) (R (U f) F))
theorem qe8 {c:Θ} {d:Int} {b:Int} {a:Int} (h:Qh c d b a R F):ν 214 #[.pointer c,(U d),(U b),(U a)] F R:=Rx.Λ .N h
variable {R:VR} {F:PH}
set_option maxHeartbeats 4000000
def Xt (a:ξ) (R:VR) (F:PH):Prop:=Cs 83 #[nE pi,a] F λb F=>R (nE b) F
theorem aaw {a:ξ} (h:Xt a R F):ν 49 #[a] F R:=Rx.Λ .N h
def Ni (R:VR) (F:PH):Prop:=R (.bool mY) F
def EL (i:Ω) (b d:Sl) (R:VR) (a:Int) (F:PH):Prop:=Bc (a<(b.len:Int)) (Ix b a λe=>Lr F 3 (nR e (nT a*3)) λf=>Ix d a λg=>Lr F 3 (nR g (nT a*3)) λh=>∃c,(∀F,pn prog (Op.equal 201 (.agg f) (.agg h)) F c)/\Bb ((!c)) (R (.bool mz) F) (i (i64.wrap (a+1)) F)) (Ni R F)
def Qi (a b:Sl) (R:VR) (F:PH):Prop:=Bc ((a.len:Int)≠(b.len:Int)) (R (.bool mz) F) (Lp 0 F λN c F=>EL N a b R c F)
theorem qe9 {a:Sl} {b:Sl} (h:Qi a b R F):ν 153 #[nE a,nE b] F R:=Rx.Λ (.qa8 (.qa8 (.J mz [] (.qa8 (.L [(13,.int .i64)] .N)) .N))) h
def Qj (a:Sl) (b:ξ) (R:VR) (F:PH):Prop:=Ci 199 #[nE a,b] F λc F=>R (.bool (decide (0<=c))) F
theorem qfa {a:Sl} {b:ξ} (h:Qj a b R F):ν 167 #[nE a,b] F R:=Rx.Λ .N h
def Qk (a:Sl) (b:ξ) (R:VR) (F:PH):Prop:=Ci 208 #[nE a,b] F λc F=>R (.bool (decide (0<=c))) F
theorem qfb {a:Sl} {b:ξ} (h:Qk a b R F):ν 176 #[nE a,b] F R:=Rx.Λ .N h
def Nj (R:VR) (F:PH):Prop:=R (U (-1:Int)) F
def Nk (j:Ω) (e:Sl) (h:ξ) (R:VR) (a:Int) (F:PH):Prop:=Bc (a<(e.len:Int)) (Ix e a λf=>Lr F 13 (nR f (nT a*13)) λg=>Fn h λi c d=>aj prog i (c++([(Value.agg g)]).toArray++d) F λv F=>∃b,v=(Value.bool b)/\Bb (b) (R (U a) F) (j (i64.wrap (a+1)) F)) (Nj R F)
def qfc (a:Sl) (b:ξ) (R:VR) (F:PH):Prop:=Lp 0 F λN c F=>Nk N a b R c F
theorem qfd {a:Sl} {b:ξ} (h:qfc a b R F):ν 199 #[nE a,b] F R:=Rx.Λ (.qa8 (.J mz [] (.qa8 (.L [(8,.int .i64)] .N)) .N)) h
def Ql (a:Sl) (b:ξ) (R:VR) (F:PH):Prop:=Ci 231 #[nE a,b] F λc F=>R (.bool (decide (0<=c))) F
theorem qfe {a:Sl} {b:ξ} (h:Ql a b R F):ν 201 #[nE a,b] F R:=Rx.Λ .N h
def Nl (R:VR) (F:PH):Prop:=R (U (-1:Int)) F
def Nm (j:Ω) (e:Sl) (h:ξ) (R:VR) (a:Int) (F:PH):Prop:=Bc (a<(e.len:Int)) (Ix e a λf=>Lr F 2 (nR f (nT a*2)) λg=>Fn h λi c d=>aj prog i (c++([(Value.agg g)]).toArray++d) F λv F=>∃b,v=(Value.bool b)/\Bb (b) (R (U a) F) (j (i64.wrap (a+1)) F)) (Nl R F)
def qer (a:Sl) (b:ξ) (R:VR) (F:PH):Prop:=Lp 0 F λN c F=>Nm N a b R c F
theorem qes {a:Sl} {b:ξ} (h:qer a b R F):ν 208 #[nE a,b] F R:=Rx.Λ (.qa8 (.J mz [] (.qa8 (.L [(8,.int .i64)] .N)) .N)) h
def Nn (R:VR) (F:PH):Prop:=R (U (-1:Int)) F
def No (j:Ω) (e:Sl) (h:ξ) (R:VR) (a:Int) (F:PH):Prop:=Bc (a<(e.len:Int)) (Ix e a λf=>Lr F 3 (nR f (nT a*3)) λg=>Fn h λi c d=>aj prog i (c++([(Value.agg g)]).toArray++d) F λv F=>∃b,v=(Value.bool b)/\Bb (b) (R (U a) F) (j (i64.wrap (a+1)) F)) (Nn R F)
def qet (a:Sl) (b:ξ) (R:VR) (F:PH):Prop:=Lp 0 F λN c F=>No N a b R c F
theorem qeu {a:Sl} {b:ξ} (h:qet a b R F):ν 231 #[nE a,b] F R:=Rx.Λ (.qa8 (.J mz [] (.qa8 (.L [(8,.int .i64)] .N)) .N)) h
end
open Tr
abbrev x7 (n:Nat):Prop:=n<=1000000000000
def dh (b:Br):Ξ:=[U b.v,U b.l,U b.h]
def aV (l:List Br):Ξ:=l.flatMap dh
abbrev aW (b:Br):Γ:= #[U b.v,U b.l,U b.h]
theorem qhT (l:List Br):(aV l).length=l.length*3:=by
 induction l with
 |nil=>rfl
 |cons b l ih=>simp only [aV,Vx,tT,wc] at ih ⊢;rw [ih];simp [dh];omega
theorem d9 (l m:List Br):aV (l++m)=aV l++aV m:=by simp [aV]
theorem uK:∀(l:List Br) (i:Nat) (hi:i<l.length),((aV l).drop (i*3)).take 3=dh l[i]
 |b::l,0,_=>by simp [aV,dh]
 |b::l,i+1,hi=>by
  have e:(i+1)*3=3+i*3:=by omega
  have:aV (b::l)=dh b++aV l:=by simp [aV]
  rw [this,e,<- XJ,List.drop_left' (by simp [dh])];simpa using uK l i (by simpa using hi)
theorem jm (l:List Br):∀v∈aV l,ak v:=by intro v h;obtain ⟨b,_,g⟩:=XV.1 h;simp only [dh,tD,Wx,or_false] at g;rcases g with rfl|rfl|rfl<;>exact jt
theorem iC (b:Br):∀v∈(aW b).toList,ak v:=by intro v g;simp only [tD,Wx,or_false] at g;rcases g with rfl|rfl|rfl<;>exact jt
theorem RdS.blen {F:PH} {s:Sl} {l:List Br} (h:RdS F s 3 (aV l)):s.len=l.length:=by have:=h.len;rw [qhT] at this;omega
theorem VQ {F:PH} {s:Sl} {l:List Br} (h:RdS F s 3 (aV l)) {i:Nat} {x:Br} (r:l[i]? =V x):∃a,s.qa5=V a/\F.row (a.add (i*3)) (aW x)/\
  F.cell (a.add (i*3))=V (U x.v)/\F.cell ((a.add (i*3)).add 1)=V (U x.l)/\F.cell ((a.add (i*3)).add 2)=V (U x.h):=by
 obtain ⟨hi,r⟩:=N6.1 r;subst r;have A:=h.blen;obtain ⟨b,o,w,_⟩:=h.cells (by omega)
 have g:=h.row w (i*3) (aW l[i]) (by
  have:=uK l i hi
  simpa [aW,dh] using this.symm)
 refine ⟨_,w,g,?_,?_,?_⟩
 ·have:=g 0 (by simp);simpa using this
 ·have:=g 1 (by simp);simpa using this
 ·have:=g 2 (by simp);simpa using this
def DV (F:PH) (v:Γ) (d:vE):Prop:=∃s:Sl,v= #[s.v,U d.2]/\RdS F s 3 (aV d.1)
theorem DV.le {F G:PH} {v:Γ} {d:vE} (h:DV F v d) (w:F.le G):DV G v d:=by obtain ⟨s,g,r⟩:=h;exact ⟨s,g,r.le w⟩
theorem DV.size {F:PH} {v:Γ} {d:vE} (h:DV F v d):v.size=2:=by obtain ⟨s,rfl,_⟩:=h;rfl
theorem DV.st {F:PH} {v:Γ} {d:vE} (h:DV F v d):∀x∈v.toList,ak x:=by
 obtain ⟨s,rfl,_⟩:=h;intro x g;simp only [tD,Wx,or_false] at g;rcases g with rfl|rfl
 ·exact Lu
 ·exact jt
theorem PH.le_rfl {F:PH}:F.le F:=λ_ _ h=>h
theorem gl {S:List Tr} {d:List Br} (g:brs S<+:d) {k:Nat} {t:Tr} (h:S[k]? =V t):d[k]? =V (br S t):=by obtain ⟨r,rfl⟩:=g;rw [zR (by rw [aO];exact (N6.1 h).1)];exact jT h
theorem oQ {n:Nat} (h:x7 n) (g:2<=n):i64.wrap ((n:Int) - 2)=((n - 2:Nat):Int):=by rw [aJ (by omega)];omega
section
variable {F:PH} {v:Γ} {d:vE} {S:List Tr} {t:Tr}
theorem qt (h:brs S<+:d.1) (r:inn S t) (w:x7 (d.1.length+2)):x7 (num S t)/\num S t<=d.1.length+1:=by have A:=dQ r;have g:=h.length_le;rw [aO] at g;omega
theorem eK (hd:DV F v d) (D:brs S<+:d.1) (G:inn S t) (M:x7 (d.1.length+2)):
  ν 146 #[.agg v,U (num S t)] F λr K=>r=U t.top/\F.le K:=by
 obtain ⟨A,J⟩:=qt D G M;obtain ⟨s,rfl,E⟩:=hd;refine qeW ?_;unfold PY;intro P C;refine tR ?_;have g:=ae (Y #[s.v,U d.2] 33) C;refine ⟨λh=> ?_,λh=> ?_⟩
 ·have L:=qK (S:=S) (t:=t) (by omega);cases t with
  |qa6 b=>exact ⟨rfl,g⟩
  |qa7 _ _ _=>cases L
 ·cases t with
  |qa6 b=>have:=cK S b;omega
  |qa7 w l r=>have O:=gl D (eA (cC G rfl) rfl);obtain ⟨a,N,_,H,_⟩:=VQ (E.le g) O;have B:=oQ A (cY (S:=S) (t:=qa7 w l r) rfl);have Q:=cY (S:=S) (t:=qa7 w l r) rfl;refine ⟨s,by simp,a,N,by rw [B];omega,by rw [B,E.blen];omega,_,by rw [B];exact H,rfl,g⟩
theorem Cp (hd:DV F v d) (H:brs S<+:d.1) (G:inn S t) (M:x7 (d.1.length+2)) {w:Nat} (B:w<64):
  ν 213 #[.agg v,U (num S t),U w] F λr X=>r=.tuple #[U (num S (lo w t)),U (num S (hi w t))]/\F.le X:=by
 obtain ⟨C,R⟩:=qt H G M;have L:=hd;obtain ⟨s,rfl,J⟩:=hd;refine qe7 ?_;unfold Qg;intro P K;refine tR ?_;have E:=ae (Y #[s.v,U d.2] 33) K;refine ⟨_,rfl,ai (aq _ _ _),?_⟩;refine (eK (L.le E) H G M).mono ?_;rintro _ F2 ⟨rfl,A⟩;have O:F2 P=V _:=A _ _ (aq _ _ _);have g:F.le F2:=λb o h=>A b o (E b o h);refine ⟨_,rfl,λh=> ?_,λh=> ?_⟩
 ·refine ⟨?_,g⟩;cases t with
  |qa6 b=>rfl
  |qa7 D l r=>have:¬D=w:=λe=>h (by simp [Tr.top,e]);simp [lo,hi,this]
 ·cases t with
  |qa6 b=>simp only [Tr.top] at h;omega
  |qa7 D l r=>
   have e:D=w:=by simp only [Tr.top] at h;omega
   subst e;have W:=gl H (eA (cC G rfl) rfl);obtain ⟨a,N,_,_,h3,Q⟩:=VQ (J.le g) W;have B:=oQ C (cY (S:=S) (t:=qa7 D l r) rfl);have hg:=cY (S:=S) (t:=qa7 D l r) rfl
   refine ⟨s,by rw [av O];rfl,a,N,by rw [B];omega,by rw [B,J.blen];omega,_,by rw [B];exact h3,
    s,by rw [av O];rfl,a,N,by rw [B];omega,by rw [B,J.blen];omega,_,by rw [B];exact Q,?_,g⟩
   simp [lo,hi,br]
end
inductive Pat where
 |emp:Pat
 |rng:Nat->Nat->Pat
 |seq:Pat->Pat->Pat
 |alt:Pat->Pat->Pat
 |rep:Pat->Pat
deriving DecidableEq
inductive ki (P:Δ->Prop):Δ->Prop where
 |nil:ki P []
 |cons {u v:Δ}:P u->ki P v->ki P (u++v)
def Lg:Pat->Δ->Prop
 | .emp,w=>w=[]
 | .rng lo hi,w=>∃b,w=[b]/\lo<=b/\b<=hi
 | .seq x y,w=>∃u v,w=u++v/\Lg x u/\Lg y v
 | .alt x y,w=>Lg x w\/Lg y w
 | .rep x,w=>ki (Lg x) w
inductive Lt where
 |emp:Lt
 |rng:Nat->Nat->Nat->Lt
 |seq:Lt->Lt->Lt
 |alt:Lt->Lt->Lt
 |rep:Lt->Lt
namespace Lt
def pat:Lt->Pat
 |emp=> .emp
 |rng _ lo hi=> .rng lo hi
 |seq x y=> .seq x.pat y.pat
 |alt x y=> .alt x.pat y.pat
 |rep x=> .rep x.pat
def nul:Lt->Bool
 |emp=>mY
 |rng _ _ _=>mz
 |seq x y=>x.nul && y.nul
 |alt x y=>x.nul || y.nul
 |rep _=>mY
def first:Lt->Nat->Prop
 |emp,_=>False
 |rng i _ _,j=>i=j
 |seq x y,j=>x.first j\/(x.nul=mY/\y.first j)
 |alt x y,j=>x.first j\/y.first j
 |rep x,j=>x.first j
def last:Lt->Nat->Prop
 |emp,_=>False
 |rng i _ _,j=>i=j
 |seq x y,j=>y.last j\/(y.nul=mY/\x.last j)
 |alt x y,j=>x.last j\/y.last j
 |rep x,j=>x.last j
def fol:Lt->Nat->Nat->Prop
 |emp,_,_=>False
 |rng _ _ _,_,_=>False
 |seq x y,i,j=>x.fol i j\/y.fol i j\/(x.last i/\y.first j)
 |alt x y,i,j=>x.fol i j\/y.fol i j
 |rep x,i,j=>x.fol i j\/(x.last i/\x.first j)
def lab:Lt->Nat->Prop
 |emp,_=>False
 |rng i _ _,j=>i=j
 |seq x y,j=>x.lab j\/y.lab j
 |alt x y,j=>x.lab j\/y.lab j
 |rep x,j=>x.lab j
def fits (acc:Nat->Nat->Prop):Lt->Prop
 |emp=>True
 |rng i lo hi=>∀b,acc i b↔lo<=b/\b<=hi
 |seq x y=>x.fits acc/\y.fits acc/\∀i,x.lab i->¬y.lab i
 |alt x y=>x.fits acc/\y.fits acc/\∀i,x.lab i->¬y.lab i
 |rep x=>x.fits acc
theorem first_lab:∀(t:Lt) {i:Nat},t.first i->t.lab i
 |rng _ _ _,_,h=>h
 |seq x y,_,h=>h.elim (λh=> .inl (x.first_lab h)) λh=> .inr (y.first_lab h.2)
 |alt x y,_,h=>h.elim (λh=> .inl (x.first_lab h)) λh=> .inr (y.first_lab h)
 |rep x,_,h=>x.first_lab h
theorem last_lab:∀(t:Lt) {i:Nat},t.last i->t.lab i
 |rng _ _ _,_,h=>h
 |seq x y,_,h=>h.elim (λh=> .inr (y.last_lab h)) λh=> .inl (x.last_lab h.2)
 |alt x y,_,h=>h.elim (λh=> .inl (x.last_lab h)) λh=> .inr (y.last_lab h)
 |rep x,_,h=>x.last_lab h
theorem fol_lab:∀(t:Lt) {i j:Nat},t.fol i j->t.lab i/\t.lab j
 |seq x y,_,_,h=>by
  rcases h with h|h|⟨h,g⟩
  ·exact ⟨.inl (x.fol_lab h).1,.inl (x.fol_lab h).2⟩
  ·exact ⟨.inr (y.fol_lab h).1,.inr (y.fol_lab h).2⟩
  ·exact ⟨.inl (x.last_lab h),.inr (y.first_lab g)⟩
 |alt x y,_,_,h=>by
  rcases h with h|h
  ·exact ⟨.inl (x.fol_lab h).1,.inl (x.fol_lab h).2⟩
  ·exact ⟨.inr (y.fol_lab h).1,.inr (y.fol_lab h).2⟩
 |rep x,_,_,h=>by
  rcases h with h|⟨h,g⟩
  ·exact x.fol_lab h
  ·exact ⟨x.last_lab h,x.first_lab g⟩
end Lt
def Pth (acc fol:Nat->Nat->Prop) (e:Nat->Prop):Nat->Δ->Prop
 |_,[]=>False
 |i,b::w=>acc i b/\((w=[]/\e i)\/∃j,fol i j/\Pth acc fol e j w)
section
variable {acc fol fol':Nat->Nat->Prop} {e e':Nat->Prop}
theorem Pth.ne {i:Nat} {w:Δ} (h:Pth acc fol e i w):w≠[]:=by rintro rfl;exact h
theorem Pth.mono (r:∀i j,fol i j->fol' i j) (g:∀i,e i->e' i):∀(w:Δ) (i:Nat),Pth acc fol e i w->Pth acc fol' e' i w
 |[],_,h=>h
 |_::w,_,⟨h,k⟩=>⟨h,k.elim (λk=> .inl ⟨k.1,g _ k.2⟩) λ⟨j,A,B⟩=> .inr ⟨j,r _ _ A,Pth.mono r g w j B⟩⟩
theorem Pth.inside (P:Nat->Prop) (g:∀i j,P i->fol i j->P j/\fol' i j) (r:∀i,P i->e i->e' i):∀(w:Δ) (i:Nat),P i->Pth acc fol e i w->Pth acc fol' e' i w
 |[],_,_,h=>h
 |_::w,i,hp,⟨h,k⟩=>⟨h,k.elim (λk=> .inl ⟨k.1,r _ hp k.2⟩) λ⟨j,A,B⟩=> .inr ⟨j,(g i j hp A).2,Pth.inside P g r w j (g i j hp A).1 B⟩⟩
theorem Pth.link {l g:Nat->Prop}:∀(w:Δ) (i:Nat),Pth acc (λi j=>fol i j\/(l i/\g j)) e i w->
  Pth acc fol e i w\/∃u v j,w=u++v/\Pth acc fol l i u/\g j/\Pth acc (λi j=>fol i j\/(l i/\g j)) e j v
 |[],_,h=>h.elim
 |b::w,i,⟨h,k⟩=>by
  rcases k with ⟨rfl,k⟩|⟨j,r|⟨r,B⟩,A⟩
  ·exact .inl ⟨h,.inl ⟨rfl,k⟩⟩
  ·rcases Pth.link w j A with q|⟨u,v,m,rfl,q1,q2,q3⟩
   ·exact .inl ⟨h,.inr ⟨j,r,q⟩⟩
   ·exact .inr ⟨b::u,v,m,rfl,⟨h,.inr ⟨j,r,q1⟩⟩,q2,q3⟩
  ·exact .inr ⟨[b],w,j,rfl,⟨h,.inl ⟨rfl,r⟩⟩,B,A⟩
theorem Pth.append {l g:Nat->Prop} (r:∀i j,fol i j->fol' i j) (A:∀i j,l i->g j->fol' i j) {v:Δ} {j:Nat} (B:g j) (w:Pth acc fol' e j v):
  ∀(u:Δ) (i:Nat),Pth acc fol l i u->Pth acc fol' e i (u++v)
 |[],_,h=>h.elim
 |b::u,i,⟨h,k⟩=>by
  rcases k with ⟨rfl,k⟩|⟨m,D,C⟩
  ·exact ⟨h,.inr ⟨j,A i j k B,w⟩⟩
  ·exact ⟨h,.inr ⟨m,r _ _ D,Pth.append r A B w u m C⟩⟩
end
namespace Lt
variable {acc:Nat->Nat->Prop}
theorem nul_iff:∀(t:Lt),t.nul=mY↔Lg t.pat []
 |emp=>⟨λ_=>rfl,λ_=>rfl⟩
 |rng i lo hi=>⟨λh=>(by cases h),λ⟨b,h,_⟩=>(by cases h)⟩
 |seq x y=>by
  have A:=nul_iff x;have w:=nul_iff y;simp only [nul,pat,Lg,VO,A,w];constructor
  ·rintro ⟨r,g⟩;exact ⟨[],[],rfl,r,g⟩
  ·rintro ⟨u,v,h,r,g⟩;obtain ⟨rfl,rfl⟩:=List.append_eq_nil_iff.1 h.symm;exact ⟨r,g⟩
 |alt x y=>by simp only [nul,pat,Lg,W8,nul_iff x,nul_iff y]
 |rep x=>⟨λ_=>ki.nil,λ_=>rfl⟩
theorem places:∀(t:Lt),t.fits acc->∀w,w≠[]->(Lg t.pat w↔∃i,t.first i/\Pth acc t.fol t.last i w)
 |emp,_,w,hw=>⟨λh=>absurd h hw,λ⟨i,h,_⟩=>h.elim⟩
 |rng i lo hi,hf,w,hw=>by
  constructor
  ·rintro ⟨b,rfl,h⟩;exact ⟨i,rfl,(hf b).2 h,.inl ⟨rfl,rfl⟩⟩
  ·rintro ⟨j,rfl,h⟩;cases w with
   |nil=>exact h.elim
   |cons b w=>
    obtain ⟨r,⟨rfl,_⟩|⟨j,A,_⟩⟩:=h
    ·exact ⟨b,rfl,(hf b).1 r⟩
    ·exact A.elim
 |alt x y,⟨fx,fy,hd⟩,w,hw=>by
  have ix:=places x fx w hw;have E:=places y fy w hw;constructor
  ·rintro (h|h)
   ·obtain ⟨i,r,A⟩:=ix.1 h;exact ⟨i,.inl r,A.mono (λ_ _ h=> .inl h) (λ_ h=> .inl h) w i⟩
   ·obtain ⟨i,r,A⟩:=E.1 h;exact ⟨i,.inr r,A.mono (λ_ _ h=> .inr h) (λ_ h=> .inr h) w i⟩
  ·rintro ⟨i,r|r,A⟩
   ·refine .inl (ix.2 ⟨i,r,A.inside x.lab (λi j B h=> ?_) (λi B h=> ?_) w i (x.first_lab r)⟩)
    ·exact h.elim (λh=>⟨(x.fol_lab h).2,h⟩) λh=>absurd (y.fol_lab h).1 (hd i B)
    ·exact h.elim id λh=>absurd (y.last_lab h) (hd i B)
   ·refine .inr (E.2 ⟨i,r,A.inside y.lab (λi j B h=> ?_) (λi B h=> ?_) w i (y.first_lab r)⟩)
    ·exact h.elim (λh=>absurd B (hd i (x.fol_lab h).1)) λh=>⟨(y.fol_lab h).2,h⟩
    ·exact h.elim (λh=>absurd B (hd i (x.last_lab h))) id
 |seq x y,⟨fx,fy,hd⟩,w,hw=>by
  have ix:=places x fx;have E:=places y fy
  have G:∀w i,y.lab i->Pth acc (seq x y).fol (seq x y).last i w->Pth acc y.fol y.last i w:=λw i hi h=>h.inside y.lab (λi j B h=>by
    rcases h with h|h|⟨h,_⟩
    ·exact absurd B (hd i (x.fol_lab h).1)
    ·exact ⟨(y.fol_lab h).2,h⟩
    ·exact absurd B (hd i (x.last_lab h))) (λi B h=>h.elim id λh=>absurd B (hd i (x.last_lab h.2))) w i hi
  constructor
  ·rintro ⟨u,v,rfl,H,K⟩;by_cases C:u=[]
   ·subst C;obtain ⟨i,r,A⟩:=(E _ hw).1 K;exact ⟨i,.inr ⟨(nul_iff x).2 H,r⟩,A.mono (λ_ _ h=> .inr (.inl h)) (λ_ h=> .inl h) _ i⟩
   ·obtain ⟨i,r,A⟩:=(ix u C).1 H;refine ⟨i,.inl r,?_⟩;by_cases D:v=[]
    ·subst D;rw [yn];exact A.mono (λ_ _ h=> .inl h) (λ_ h=> .inr ⟨(nul_iff y).2 K,h⟩) _ i
    ·obtain ⟨j,L,N⟩:=(E v D).1 K;exact Pth.append (λ_ _ h=> .inl h) (λ_ _ h M=> .inr (.inr ⟨h,M⟩)) L (N.mono (λ_ _ h=> .inr (.inl h)) (λ_ h=> .inl h) v j) u i A
  ·rintro ⟨i,r,A⟩;rcases r with r|⟨Q,r⟩
   ·have k:Pth acc (λi j=>(x.fol i j\/y.fol i j)\/(x.last i/\y.first j)) (seq x y).last i w:=A.mono (λi j h=>by
     rcases h with h|h|h
     ·exact .inl (.inl h)
     ·exact .inl (.inr h)
     ·exact .inr h) (λ_ h=>h) w i
    have F:∀{e e':Nat->Prop} w i,(∀i,x.lab i->e i->e' i)->x.lab i->Pth acc (λi j=>x.fol i j\/y.fol i j) e i w->Pth acc x.fol e' i w:=λw i P hi h=>h.inside x.lab (λi j B h=>
     h.elim (λh=>⟨(x.fol_lab h).2,h⟩) λh=>absurd (y.fol_lab h).1 (hd i B)) P w i hi
    rcases k.link w i with q|⟨u,v,j,rfl,q1,q2,q3⟩
    ·by_cases O:y.nul=mY
     ·exact ⟨w,[],(yn w).symm,(ix w hw).2 ⟨i,r,F w i (λi B h=>h.elim (λh=>absurd (y.last_lab h) (hd i B)) λh=>h.2) (x.first_lab r) q⟩,(nul_iff y).1 O⟩
     ·exfalso;have z:=F (e':=λ_=>False) w i (λi B h=>h.elim (λh=>absurd (y.last_lab h) (hd i B)) λh=>O h.1) (x.first_lab r) q;have I:∀(w:Δ) (i:Nat),¬Pth acc x.fol (λ_=>False) i w:=by
       intro w;induction w with
       |nil=>exact λ_ h=>h
       |cons b w ih=>
        rintro i ⟨_,⟨_,h⟩|⟨j,_,h⟩⟩
        ·exact h
        ·exact ih j h
      exact I w i z
    ·refine ⟨u,v,rfl,(ix u q1.ne).2 ⟨i,r,F u i (λ_ _ h=>h) (x.first_lab r) q1⟩,(E v q3.ne).2 ⟨j,q2,G v j (y.first_lab q2) (q3.mono (λi j h=> ?_) (λ_ h=>h) v j)⟩⟩;rcases h with (h|h)|h
     ·exact .inl h
     ·exact .inr (.inl h)
     ·exact .inr (.inr h)
   ·obtain q:=G w i (y.first_lab r) A;exact ⟨[],w,rfl,(nul_iff x).1 Q,(E w hw).2 ⟨i,r,q⟩⟩
 |rep x,fx,w,hw=>by
  have ix:=places x fx;constructor
  ·intro h;change ki (Lg x.pat) w at h;have key:∀w,ki (Lg x.pat) w->w≠[]->∃i,x.first i/\Pth acc (rep x).fol x.last i w:=by
    intro w h;induction h with
    |nil=>exact λh=>absurd rfl h
    | @cons u v H K ih=>
     intro J;by_cases C:u=[]
     ·subst C;exact ih J
     ·obtain ⟨i,r,A⟩:=(ix u C).1 H;refine ⟨i,r,?_⟩;by_cases D:v=[]
      ·subst D;rw [yn];exact A.mono (λ_ _ h=> .inl h) (λ_ h=>h) _ i
      ·obtain ⟨j,L,N⟩:=ih D;exact Pth.append (λ_ _ h=> .inl h) (λ_ _ h M=> .inr ⟨h,M⟩) L N u i A
   exact key w h hw
  ·rintro ⟨i,r,A⟩;have key:∀(n:Nat) (w:Δ) (i:Nat),w.length<=n->x.first i->Pth acc (rep x).fol x.last i w->ki (Lg x.pat) w:=by
    intro n;induction n with
    |zero=>intro w i J _ h;exact absurd (XY.1 (by omega)) h.ne
    |succ n ih=>
     intro w i J r A;rcases Pth.link (fol:=x.fol) (l:=x.last) (g:=x.first) w i A with q|⟨u,v,j,rfl,q1,q2,q3⟩
     ·have:=ki.cons ((ix w q.ne).2 ⟨i,r,q⟩) ki.nil;rwa [yn] at this
     ·have H:0<u.length:=Yg.2 q1.ne;rw [tT] at J;exact .cons ((ix u q1.ne).2 ⟨i,r,q1⟩) (ih v j (by omega) q2 q3)
   exact key w.length w i (qX _) r A
end Lt
structure Nd where
 k:Int
 lo:Int
 hi:Int
 a:Int
 b:Int
deriving DecidableEq
namespace Pat
end Pat
namespace Pat
end Pat
section
abbrev pa (b:Nat):Value:=.pointer (V ⟨b,0,I⟩)
abbrev Nd.arr (x:Nd):Γ:= #[U x.k,U x.lo,U x.hi,U x.a,U x.b]
def Nd.cells (x:Nd):Ξ:=[U x.k,U x.lo,U x.hi,U x.a,U x.b]
def dE (l:List Nd):Ξ:=l.flatMap Nd.cells
theorem iD (l:List Nd):(dE l).length=l.length*5:=by
 induction l with
 |nil=>rfl
 |cons b l ih=>simp only [dE,Vx,tT,wc] at ih ⊢;rw [ih];simp [Nd.cells];omega
theorem uL:∀(l:List Nd) (i:Nat) (hi:i<l.length),((dE l).drop (i*5)).take 5=l[i].cells
 |b::l,0,_=>by simp [dE,Nd.cells]
 |b::l,i+1,hi=>by
  have e:(i+1)*5=5+i*5:=by omega
  have:dE (b::l)=b.cells++dE l:=by simp [dE]
  rw [this,e,<- XJ,List.drop_left' (by simp [Nd.cells])];simpa using uL l i (by simpa using hi)
theorem gm (b:Nd):∀v∈b.arr.toList,ak v:=by intro v g;simp only [tD,Wx,or_false] at g;rcases g with rfl|rfl|rfl|rfl|rfl<;>exact jt
theorem RdS.nlen {F:PH} {s:Sl} {l:List Nd} (h:RdS F s 5 (dE l)):s.len=l.length:=by have:=h.len;rw [iD] at this;omega
def cb (st:ο) (i:Nat):Nat:=if h:i<st.size then (st[i]'h).toNat else 0
theorem qev {st:ο} {i:Nat} (h:i<st.size):cb st i=(st[i]'h).toNat:=dif_pos h
theorem Np (st:ο) (i:Nat):cb st i<256:=by
 unfold cb;split
 ·exact UInt8.toNat_lt _
 ·omega
section
variable {F0 F:PH} {b i:Nat} {st:ο} {out:List Nd} {w:Bool}
theorem bP.som {F:PH} {e size:Nat} {s:Sl} {vs:Ξ} (h:bP F e size s vs) {a:Addr} (g:s.qa5=V a):∃o,F a.block=V o:=by
 rcases h with ⟨rfl,_⟩|⟨b,A,r,B,_⟩
 ·cases g
 ·rw [g] at r;cases r;exact ⟨_,B⟩
end
section
variable {F0 F:PH} {b i:Nat} {st:ο} {out:List Nd} {w:Bool}
theorem SK {st:ο} {x:Int} {i:Nat} (r:x=i) (h:i<st.size) (g:nT x<st.size):((st[nT x]' g).toNat:Int)=(cb st i:Int):=by subst r;rw [qev h];rfl
end
def bs (s:ο):Δ:=s.data.toList.map UInt8.toNat
theorem df (s:ο):(bs s).length=s.size:=by simp [bs]
theorem Cq {s t:ο} (h:bs s=bs t):s=t:=by unfold bs at h;have:s.data.toList=t.data.toList:=List.map_inj_right (λa b e=>UInt8.toNat_inj.1 e) |>.1 h;cases s;cases t;congr;exact Array.toList_inj.1 this
theorem Kl (s:ο) (i:Nat):cb s i=(bs s).getD i 0:=by
 unfold cb bs;by_cases h:i<s.size
 ·rw [dif_pos h];have g:i<s.data.toList.length:=by simpa using h
  rw [Q0,yc,N5 g];rfl
 ·rw [dif_neg h,Q0,yc,VM (by simpa using h)];rfl
theorem qew (s:ο):∀b∈bs s,b<256:=by intro b g;obtain ⟨x,_,rfl⟩:=w9.1 g;exact UInt8.toNat_lt x
theorem Nq (s:ο):∀(n i:Nat) (r:List UInt8),s.size - i=n->ByteArray.toList.loop s i r=r.reverse++s.data.toList.drop i:=by
 intro n;induction n with
 |zero=>intro i r h;unfold ByteArray.toList.loop;rw [Υ (by omega),Ye (by simp at h ⊢;omega),yn]
 |succ n ih=>
  intro i r h;have hi:i<s.size:=by omega
  have g:i<s.data.toList.length:=by simpa using hi
  unfold ByteArray.toList.loop;rw [Χ hi,ih (i+1) _ (by omega),Xi g,List.reverse_cons,xK];congr 1;rw [List.singleton_append];congr 1;simp [ByteArray.get!,getElem!_pos,hi]
theorem jo (s:ο):s.toList=s.data.toList:=by unfold ByteArray.toList;rw [Nq s _ 0 [] rfl];rfl
theorem uM (s:ο):s.toList.map UInt8.toNat=bs s:=by rw [jo];rfl
theorem Km (s t:ο):(s.toList==t.toList)=decide (bs s=bs t):=by
 rw [wi,δ,beq_iff_eq];constructor
 ·intro h;rw [<- uM,<- uM,h]
 ·intro h;rw [Cq h]
variable {R:VR} {F:PH}
set_option maxHeartbeats 4000000
def Qm (a:Int) (R:VR) (F:PH):Prop:=Bc (a=0) (R (U 64) F) (0<=(Int.fdiv (u64.wrap ((u64.wrap ((BitVec.ofInt (u64).bits a &&& BitVec.ofInt (u64).bits (u64.wrap (0 - a))).toNat))*285870213051353865)) (2 ^ (min (nT 58) (u64).bits)))/\(Int.fdiv (u64.wrap ((u64.wrap ((BitVec.ofInt (u64).bits a &&& BitVec.ofInt (u64).bits (u64.wrap (0 - a))).toNat))*285870213051353865)) (2 ^ (min (nT 58) (u64).bits)))<64/\∃b,F.cell (nR (ou 0 0 I) (nT (Int.fdiv (u64.wrap ((u64.wrap ((BitVec.ofInt (u64).bits a &&& BitVec.ofInt (u64).bits (u64.wrap (0 - a))).toNat))*285870213051353865)) (2 ^ (min (nT 58) (u64).bits)))*1))=V (.int .u8 b)/\R (U (i64.wrap b)) F)
theorem qex {a:Int} (h:Qm a R F):ν 252 #[.int .u64 a] F R:=Rx.Λ .N h
variable {R:VR} {F:PH}
set_option maxHeartbeats 4000000
def EM (a:Sl) (R:VR) (F:PH):Prop:=Bc ((a.len:Int)=0) (R (U 40) F) (R (U 0) F)
def EN (f:Ω) (e:Sl) (g:Nat) (R:VR) (a:Int) (F:PH):Prop:=Bc (a<(i64.wrap ((e.len:Int) - 1))) (Ls F (Z g 0) λb=>Ix b a λc=>Lb F (nR c (nT a*1)) λd=>Bb ((!d)) (R (U 40) F) (f (i64.wrap (a+1)) F)) (EM e R F)
def EO (b:Sl) (c:Nat) (R:VR) (F:PH):Prop:=Lp 0 F λN a F=>EN N b c R a F
def cg (b:Ω) (_:Sl) (_:Nat) (a:Int) (_:VR) (F:PH):Prop:=b (i64.wrap (a+1)) F
def fD (e:Ω) (c:Sl) (d:Nat) (a:Int) (f:Nat) (b:Int) (B:Bool) (R:VR) (F:PH):Prop:=Bb ((!B)) (R (U 40) F) (Bc (b<1) (Li F (Z f 3) λC=>Bc (C≠0) (R (U 40) F) (Bc (b<2) (Li F (Z f 4) λD=>Bc (D≠0) (R (U 40) F) (Bc (1<=b) (Li F (Z f 3) λE=>ud 203 #[(U E),(U a),(Pp d)] F λG F=>Bb ((!G)) (R (U 40) F) (Bc (2<=b) (Li F (Z f 4) λH=>ud 203 #[(U H),(U a),(Pp d)] F λz0 F=>Bb ((!z0)) (R (U 40) F) (cg e c d a R F)) (cg e c d a R F))) (Bc (2<=b) (Li F (Z f 4) λg=>ud 203 #[(U g),(U a),(Pp d)] F λh F=>Bb ((!h)) (R (U 40) F) (cg e c d a R F)) (cg e c d a R F)))) (Bc (1<=b) (Li F (Z f 3) λi=>ud 203 #[(U i),(U a),(Pp d)] F λj F=>Bb ((!j)) (R (U 40) F) (Bc (2<=b) (Li F (Z f 4) λk=>ud 203 #[(U k),(U a),(Pp d)] F λl F=>Bb ((!l)) (R (U 40) F) (cg e c d a R F)) (cg e c d a R F))) (Bc (2<=b) (Li F (Z f 4) λm=>ud 203 #[(U m),(U a),(Pp d)] F λn F=>Bb ((!n)) (R (U 40) F) (cg e c d a R F)) (cg e c d a R F))))) (Bc (b<2) (Li F (Z f 4) λo=>Bc (o≠0) (R (U 40) F) (Bc (1<=b) (Li F (Z f 3) λp=>ud 203 #[(U p),(U a),(Pp d)] F λq F=>Bb ((!q)) (R (U 40) F) (Bc (2<=b) (Li F (Z f 4) λr=>ud 203 #[(U r),(U a),(Pp d)] F λs F=>Bb ((!s)) (R (U 40) F) (cg e c d a R F)) (cg e c d a R F))) (Bc (2<=b) (Li F (Z f 4) λt=>ud 203 #[(U t),(U a),(Pp d)] F λu F=>Bb ((!u)) (R (U 40) F) (cg e c d a R F)) (cg e c d a R F)))) (Bc (1<=b) (Li F (Z f 3) λv=>ud 203 #[(U v),(U a),(Pp d)] F λw F=>Bb ((!w)) (R (U 40) F) (Bc (2<=b) (Li F (Z f 4) λx=>ud 203 #[(U x),(U a),(Pp d)] F λy F=>Bb ((!y)) (R (U 40) F) (cg e c d a R F)) (cg e c d a R F))) (Bc (2<=b) (Li F (Z f 4) λz=>ud 203 #[(U z),(U a),(Pp d)] F λA F=>Bb ((!A)) (R (U 40) F) (cg e c d a R F)) (cg e c d a R F)))))
def EP (f:Ω) (c:Sl) (e:Nat) (R:VR) (a:Int) (F:PH):Prop:=Bc (a<(c.len:Int)) (Ix c a λg=>Lr F 5 (nR g (nT a*5)) λh=>Nb F (Y (#[U 0,U 0,U 0,U 0,U 0]) 225) λd F=>aA F (Z d 0) 5 h λF=>Li F (Z d 0) λi=>Ci 204 #[(U i)] F λb F=>Li F (Z d 0) λj=>Bc (j=1) (Li F (Z d 1) λk=>Bc (0<=k) (Li F (Z d 1) λl=>Li F (Z d 2) λm=>Bc (l<=m) (Li F (Z d 2) λn=>fD f c e a d b (decide (n<=(255:Int))) R F) (fD f c e a d b mz R F)) (fD f c e a d b mz R F)) (Li F (Z d 1) λo=>Bc (o≠0) (fD f c e a d b mz R F) (Li F (Z d 2) λp=>Bc (p≠0) (fD f c e a d b mz R F) (fD f c e a d b (decide (0<=b)) R F)))) (EO c e R F)
def Qn (a:Sl) (R:VR) (F:PH):Prop:=Bc ((512:Int)<(a.len:Int)) (R (U 2) F) (aG prog (Instr.makeSlice 297 (U (a.len:Int)) (U (a.len:Int))) F λv F=>∃b,v=(nE b)/\Nb F (Y (#[.slice I 0 0]) 297) λd F=>qW F (Z d 0) (nE b) λF=>Lp 0 F λN c F=>EP N a d R c F)
theorem qey {a:Sl} (h:Qn a R F):ν 172 #[nE a] F R:=Rx.Λ (.qa8 (.qa8 (.qa8 (.qa8 (.J mz [] (.qa8 (.L [(19,.int .i64)] (.qa8 (.qa8 (.J mz [] (.qa8 (.qa8 (.qa8 (.J mz [(8,.bool)] .N .N)))) .N))))) (.J mz [] (.qa8 (.L [(105,.int .i64)] .N)) .N)))))) h
def qv (f:Nat) (c b:Θ) (R:VR) (F:PH):Prop:=Lx F (Z f 0) λd=>Cu 206 #[.pointer c,.string d,.func (.func 207) #[] #[(Pp f),.pointer b]] F λF=>∃a,b=V a/\Lb F a λe=>R (.bool e) F
def Qo (d:Sl) (g:ο) (R:VR) (F:PH):Prop:=Nb F (Y #[.string g] 9) λh F=>Ci 172 #[nE d] F λi F=>Bc (i≠0) (R (.bool mz) F) (ν 205 #[nE d] F λv F=>∃b,v=(.pointer b)/\Lx F (Z h 0) λe=>Bb ((e.toList==(ByteArray.mk #[]).toList)) (∃a,b=V a/\Lb F (nR a 18) λf=>Nb F (Y (#[.bool mz]) 4) λj F=>qW F (Z j 0) (.bool f) λF=>qv h (V a) (V (Z j 0)) R F) (Nb F (Y (#[.bool mz]) 4) λc F=>qW F (Z c 0) (.bool mz) λF=>qv h b (V (Z c 0)) R F))
theorem qez {a:Sl} {b:ο} (h:Qo a b R F):ν 173 #[nE a,.string b] F R:=Rx.Λ (.qa8 (.qa8 (.qa8 (.J mz [(5,.ptr),(6,.ptr)] .N .N)))) h
def Qp (a c:Int) (i:Θ) (R:VR) (F:PH):Prop:=Bc (a<0) (R (.bool mz) F) (Bc (c<=a) (R (.bool mz) F) (∃b,i=V b/\Ls F b λd=>Ix d a λe=>Lb F (nR e (nT a*1)) λf=>Bb (f) (R (.bool mz) F) (Ls F b λg=>Ix g a λh=>qW F (nR h (nT a*1)) (.bool mY) λF=>R (.bool mY) F)))
theorem qeA {b:Int} {a:Int} {c:Θ} (h:Qp b a c R F):ν 203 #[(U b),(U a),.pointer c] F R:=Rx.Λ .N h
def qw (a:Int) (b:Bool) (R:VR) (F:PH):Prop:=Bb (b) (R (U 0) F) (Bc (a=4) (R (U 1) F) (Bc (a=2) (Bc (a=2) (R (U 2) F) (R (U (-1:Int)) F)) (Bc (a=3) (R (U 2) F) (R (U (-1:Int)) F))))
def Qq (a:Int) (R:VR) (F:PH):Prop:=Bc (a=0) (qw a (decide (a=0)) R F) (qw a (decide (a=1)) R F)
theorem qeB {a:Int} (h:Qq a R F):ν 204 #[(U a)] F R:=Rx.Λ (.qa8 (.T (.qa8 (.J mz [(4,.bool)] .N .N)) .N)) h
def jI (q:Nat) (i:Θ) (R:VR) (F:PH):Prop:=Nb F (Y (#[.nilFunc]) 329) λr F=>Nb F (Y (#[.nilFunc]) 332) λt F=>qW F (Z t 0) (.func (.func 232) #[] #[.pointer i]) λF=>qW F (Z r 0) (.func (.func 236) #[] #[(Pp q),(Pp r),(Pp t)]) λF=>∃a,i=V a/\Lq F a λj=>Lq F a λe=>Lq F a λb=>∃k:ξ,F.cell (Z r 0)=V k/\Ls F (Z q 0) λl=>Fn k λs n o=>aj prog s (n++([(U (i64.wrap ((l.len:Int) - 1)))]).toArray++o) F λv F=>∃m,∃c,∃d,v=(Value.tuple #[(Value.agg m),(Value.agg c),(Value.bool d)])/\F.cell (Z q 0)=V (nE l)/\F.cell a=V (.pointer b)/\F.cell a=V (.pointer e)/\F.cell a=V (.pointer j)/\∃f,j=V f/\aA F (nR f 1) 8 m λF=>F.cell a=V (.pointer b)/\F.cell a=V (.pointer e)/\∃g,e=V g/\aA F (nR g 9) 8 c λF=>F.cell a=V (.pointer b)/\∃h,b=V h/\qW F (nR h 18) (.bool d) λF=>Lq F a λp=>R (.pointer p) F
def Qr (j:Sl) (R:VR) (F:PH):Prop:=Nb F (Y #[nE j] 164) λd F=>Ls F (Z d 0) λb=>Ls F (Z d 0) λa=>((aG prog (Instr.makeSlice 303 (U (a.len:Int)) (U (a.len:Int))) F λv F=>∃g,v=(nE g)/\F.cell (Z d 0)=V (nE a)/\F.cell (Z d 0)=V (nE b)/\((Nb F (Y (#[nE b,.int .u64 0,.int .u64 0,.int .u64 0,.int .u64 0,.int .u64 0,.int .u64 0,.int .u64 0,.int .u64 0,.int .u64 0,.int .u64 0,.int .u64 0,.int .u64 0,.int .u64 0,.int .u64 0,.int .u64 0,.int .u64 0,nE g,.bool mz]:Γ) 305) λk F=>Nb F (Y (#[.pointer I]) 299) λl F=>qW F (Z l 0) (Pp k) λF=>jI d (V (Z l 0)) R F)/\(Nb F (Y (#[.pointer I]) 299) λe F=>Nb F (Y (#[nE b,.int .u64 0,.int .u64 0,.int .u64 0,.int .u64 0,.int .u64 0,.int .u64 0,.int .u64 0,.int .u64 0,.int .u64 0,.int .u64 0,.int .u64 0,.int .u64 0,.int .u64 0,.int .u64 0,.int .u64 0,.int .u64 0,nE g,.bool mz]:Γ) 305) λh F=>qW F (Z e 0) (Pp h) λF=>jI d (V (Z e 0)) R F)))/\(Nb F (Y (#[.pointer I]) 299) λf F=>aG prog (Instr.makeSlice 303 (U (a.len:Int)) (U (a.len:Int))) F λv F=>∃c,v=(nE c)/\F.cell (Z d 0)=V (nE a)/\F.cell (Z d 0)=V (nE b)/\Nb F (Y (#[nE b,.int .u64 0,.int .u64 0,.int .u64 0,.int .u64 0,.int .u64 0,.int .u64 0,.int .u64 0,.int .u64 0,.int .u64 0,.int .u64 0,.int .u64 0,.int .u64 0,.int .u64 0,.int .u64 0,.int .u64 0,.int .u64 0,nE c,.bool mz]:Γ) 305) λi F=>qW F (Z f 0) (Pp i) λF=>jI d (V (Z f 0)) R F))
theorem qeC {a:Sl} (h:Qr a R F):ν 205 #[nE a] F R:=Rx.Λ (.qa8 (.J mz [(3,.ptr)] .N .N)) h
def EQ (u:Ω) (q:ξ) (p w s:Nat) (j:ο) (R:VR) (a:Int) (F:PH):Prop:=Bc (a<(j.size:Int)) (Nb F (Y (#[U 0]) 3) λk F=>qW F (Z k 0) (U a) λF=>Nb F (Y (#[.int .u64 0,.int .u64 0,.int .u64 0,.int .u64 0,.int .u64 0,.int .u64 0,.int .u64 0,.int .u64 0]) 302) λl F=>Nb F (Y (#[.int .u64 0,.int .u64 0,.int .u64 0,.int .u64 0,.int .u64 0,.int .u64 0,.int .u64 0,.int .u64 0]) 302) λt F=>Cu 233 #[(Pp s),.func (.func 238) #[] #[(Pp w),(Pp k),(Pp p),(Pp l),(Pp t)]] F λF=>Lr F 8 (Z l 0) λb=>∃f,(∀F,pn prog (Op.equal 302 (.agg b) (.agg (#[.int .u64 0,.int .u64 0,.int .u64 0,.int .u64 0,.int .u64 0,.int .u64 0,.int .u64 0,.int .u64 0]:Γ))) F f)/\Bb (f) (R (.tuple #[]) F) (Li F (Z k 0) λc=>Lq F (Z p 0) λd=>∃e,d=V e/\Lr F 8 (nR e 9) λm=>ud 239 #[(Pp l),.agg m] F λn F=>F.cell (Z p 0)=V (Value.pointer d)/\F.cell (Z k 0)=V (U c)/\F.row (Z l 0) b/\Fn q λr h i=>aj prog r (h++([(U (i64.wrap (c+1))),(Value.bool n)]).toArray++i) F λv F=>∃g,v=(Value.bool g)/\F.cell (Z p 0)=V (.pointer d)/\F.cell (Z k 0)=V (U c)/\F.row (Z l 0) b/\Bb ((!g)) (R (.tuple #[]) F) (Lr F 8 (Z t 0) λo=>aA F (Z s 0) 8 o λF=>u (i64.wrap (a+1)) F))) (R (.tuple #[]) F)
def Qt (b:Θ) (g:ο) (h:ξ) (R:VR) (F:PH):Prop:=Nb F (Y #[.pointer b] 299) λi F=>Nb F (Y #[.string g] 9) λj F=>Lq F (Z i 0) λc=>∃a,c=V a/\Lr F 8 (nR a 1) λd=>Nb F (Y (#[.int .u64 0,.int .u64 0,.int .u64 0,.int .u64 0,.int .u64 0,.int .u64 0,.int .u64 0,.int .u64 0]) 302) λk F=>aA F (Z k 0) 8 d λF=>Lx F (Z j 0) λe=>Lp 0 F λN f F=>EQ N h i j k e R f F
theorem qeD {a:Θ} {b:ο} {c:ξ} (h:Qt a b c R F):ν 206 #[.pointer a,.string b,c] F R:=Rx.Λ (.qa8 (.qa8 (.qa8 (.L [(16,.int .i64)] .N)))) h
def Qu (f:Int) (d:Bool) (g e:Θ) (R:VR) (F:PH):Prop:=∃b,g=V b/\Lx F b λh=>Bc (f=(h.size:Int)) (∃c,e=V c/\qW F c (.bool d) λF=>R (.bool mY) F) (∃a,e=V a/\qW F a (.bool mz) λF=>R (.bool mY) F)
theorem qeE {b:Int} {a:Bool} {c:Θ} {d:Θ} (h:Qu b a c d R F):ν 207 #[(U b),.bool a,.pointer c,.pointer d] F R:=Rx.Λ .N h
def Qv (a b:Γ) (c:Θ) (R:VR) (F:PH):Prop:=Nb F (Y a 302) λd F=>Nb F (Y b 302) λe F=>Cu 233 #[(Pp d),.func (.func 234) #[] #[.pointer c,(Pp e)]] F λF=>R (.tuple #[]) F
theorem qeF {a:Γ} {b:Γ} {c:Θ} (h:Qv a b c R F):ν 232 #[.agg a,.agg b,.pointer c] F R:=Rx.Λ .N h
def ER (b:Ω) (_:ξ) (_:Θ) (a:Int) (_:VR) (F:PH):Prop:=b (i64.wrap (a+1)) F
def ES (i j:Ω) (d:ξ) (e:Int) (f:Addr) (R:VR) (a:Int) (F:PH):Prop:=Bc (a≠0) (Ci 252 #[.int .u64 a] F λg F=>Fn d λh b c=>aj prog h (b++([(U (i64.wrap ((i64.wrap (64*e))+g)))]).toArray++c) F λv F=>v=(Value.tuple #[])/\j (u64.wrap ((BitVec.ofInt (u64).bits a &&& BitVec.ofInt (u64).bits (u64.wrap (a - 1))).toNat)) F) (ER i d (V f) e R F)
def ET (i:Ω) (f:ξ) (g:Θ) (R:VR) (a:Int) (F:PH):Prop:=Bc (a<8) (∃b,g=V b/\0<=a/\a<8/\Lk F .u64 (nR b (nT a*1)) λc=>(∃(h:Nat->Ω) (e:Nat),h e c F/\∀e d F,h e d F-> ES i (Xg h e) f a b R d F)) (R (.tuple #[]) F)
def Qw (a:Θ) (b:ξ) (R:VR) (F:PH):Prop:=Lp 0 F λN c F=>ET N b a R c F
theorem qeG {a:Θ} {b:ξ} (h:Qw a b R F):ν 233 #[.pointer a,b] F R:=Rx.Λ (.qa8 (.L [(7,.int .i64)] (.qa8 (.qa8 (.J mz [(6,.ptr)] (.qa8 (.L [(5,.int .u64)] .N)) .N))))) h
def Qx (d:Int) (h i:Θ) (R:VR) (F:PH):Prop:=∃a,h=V a/\Lq F a λe=>∃b,e=V b/\Ls F (nR b 17) λf=>Ix f d λj=>∃c,i=V c/\Lr F 8 c λg=>Cu 235 #[.pointer (V (nR j (nT d*8))),.agg g] F λF=>F.cell (nR b 17)=V (nE f)/\F.cell a=V (.pointer e)/\R (.tuple #[]) F
theorem qeH {a:Int} {b:Θ} {c:Θ} (h:Qx a b c R F):ν 234 #[(U a),.pointer b,.pointer c] F R:=Rx.Λ .N h
def EU (f:Ω) (e:Θ) (g:Nat) (R:VR) (a:Int) (F:PH):Prop:=Bc (a<8) (∃b,e=V b/\0<=a/\a<8/\Lk F .u64 (nR b (nT a*1)) λc=>0<=a/\a<8/\Lk F .u64 (nR (Z g 0) (nT a*1)) λd=>0<=a/\a<8/\qW F (nR b (nT a*1)) (.int .u64 (u64.wrap ((BitVec.ofInt (u64).bits c ||| BitVec.ofInt (u64).bits d).toNat))) λF=>f (i64.wrap (a+1)) F) (R (.tuple #[]) F)
def Qy (a:Θ) (b:Γ) (R:VR) (F:PH):Prop:=Nb F (Y b 302) λd F=>Lp 0 F λN c F=>EU N a d R c F
theorem qeI {a:Θ} {b:Γ} (h:Qy a b R F):ν 235 #[.pointer a,.agg b] F R:=Rx.Λ (.qa8 (.qa8 (.L [(5,.int .i64)] .N))) h
def qx (i j l:Nat) (e:Bool) (k:Nat) (f:Bool) (R:VR) (F:PH):Prop:=Lr F 8 (Z l 0) λg=>Lr F 8 (Z k 0) λh=>Bb (e) (aA F (Z i 0) 8 g λF=>aA F (Z j 0) 8 h λF=>Lr F 8 (Z i 0) λa=>Lr F 8 (Z j 0) λb=>R (.tuple #[.agg a,.agg b,.bool f]) F) (aA F (Z i 0) 8 g λF=>aA F (Z j 0) 8 h λF=>Lr F 8 (Z i 0) λc=>Lr F 8 (Z j 0) λd=>R (.tuple #[.agg c,.agg d,.bool mz]) F)
def qy (f g h e:Nat) (b:Bool) (c:Nat) (a:Bool) (R:VR) (F:PH):Prop:=Bb (a) (Lr F 8 (Z e 0) λd=>Cu 235 #[(Pp c),.agg d] F λF=>qx f g h b c a R F) (qx f g h b c a R F)
def Qz (ac:Int) (aX ad aD:Θ) (R:VR) (F:PH):Prop:=Nb F (Y (#[.int .u64 0,.int .u64 0,.int .u64 0,.int .u64 0,.int .u64 0,.int .u64 0,.int .u64 0,.int .u64 0]) 302) λe F=>Nb F (Y (#[.int .u64 0,.int .u64 0,.int .u64 0,.int .u64 0,.int .u64 0,.int .u64 0,.int .u64 0,.int .u64 0]) 302) λf F=>∃O,aX=V O/\Ls F O λaE=>Ix aE ac λaF=>Lr F 5 (nR aF (nT ac*5)) λaG=>Nb F (Y (#[U 0,U 0,U 0,U 0,U 0]) 225) λb8 F=>aA F (Z b8 0) 5 aG λF=>Li F (Z b8 0) λg=>Bc (g=1) (Cu 237 #[(Pp e),(U ac)] F λF=>Lr F 8 (Z e 0) λaH=>Lr F 8 (Z e 0) λaI=>aA F (Z e 0) 8 aH λF=>aA F (Z f 0) 8 aI λF=>Lr F 8 (Z e 0) λG=>Lr F 8 (Z f 0) λH=>R (.tuple #[.agg G,.agg H,.bool mz]) F) (Bc (g=2) (∃y,ad=V y/\∃P:ξ,F.cell y=V P/\Li F (Z b8 3) λaJ=>Fn P λaY af ag=>aj prog aY (af++([(U aJ)]).toArray++ag) F λv F=>∃Q,∃h,∃a,v=(Value.tuple #[(Value.agg Q),(Value.agg h),(Value.bool a)])/\Nb F (Y (#[.int .u64 0,.int .u64 0,.int .u64 0,.int .u64 0,.int .u64 0,.int .u64 0,.int .u64 0,.int .u64 0]) 302) λb9 F=>Nb F (Y (#[.int .u64 0,.int .u64 0,.int .u64 0,.int .u64 0,.int .u64 0,.int .u64 0,.int .u64 0,.int .u64 0]) 302) λz4 F=>aA F (Z b9 0) 8 Q λF=>aA F (Z z4 0) 8 h λF=>∃S:ξ,F.cell y=V S/\Li F (Z b8 4) λaK=>Fn S λaZ ah ai=>aj prog aZ (ah++([(U aK)]).toArray++ai) F λv F=>∃T,∃i,∃b,v=(Value.tuple #[(Value.agg T),(Value.agg i),(Value.bool b)])/\Nb F (Y (#[.int .u64 0,.int .u64 0,.int .u64 0,.int .u64 0,.int .u64 0,.int .u64 0,.int .u64 0,.int .u64 0]) 302) λak F=>Nb F (Y (#[.int .u64 0,.int .u64 0,.int .u64 0,.int .u64 0,.int .u64 0,.int .u64 0,.int .u64 0,.int .u64 0]) 302) λal F=>aA F (Z ak 0) 8 T λF=>aA F (Z al 0) 8 i λF=>∃z0,aD=V z0/\∃z1:ξ,F.cell z0=V z1/\Lr F 8 (Z z4 0) λaL=>Lr F 8 (Z ak 0) λaM=>Fn z1 λa0 am an=>aj prog a0 (am++([(Value.agg aL),(Value.agg aM)]).toArray++an) F λv F=>v=(Value.tuple #[])/\Bb (a) (Lr F 8 (Z ak 0) λaN=>Cu 235 #[(Pp b9),.agg aN] F λF=>qy e f b9 z4 a al b R F) (qy e f b9 z4 a al b R F)) (Bc (g=3) (∃c,ad=V c/\∃W:ξ,F.cell c=V W/\Li F (Z b8 3) λaO=>Fn W λa1 ao ap=>aj prog a1 (ao++([(U aO)]).toArray++ap) F λv F=>∃X,∃j,∃k,v=(Value.tuple #[(Value.agg X),(Value.agg j),(Value.bool k)])/\Nb F (Y (#[.int .u64 0,.int .u64 0,.int .u64 0,.int .u64 0,.int .u64 0,.int .u64 0,.int .u64 0,.int .u64 0]) 302) λaq F=>Nb F (Y (#[.int .u64 0,.int .u64 0,.int .u64 0,.int .u64 0,.int .u64 0,.int .u64 0,.int .u64 0,.int .u64 0]) 302) λar F=>aA F (Z aq 0) 8 X λF=>aA F (Z ar 0) 8 j λF=>∃z3:ξ,F.cell c=V z3/\Li F (Z b8 4) λaP=>Fn z3 λa2 au av=>aj prog a2 (au++([(U aP)]).toArray++av) F λv F=>∃z2,∃l,∃m,v=(Value.tuple #[(Value.agg z2),(Value.agg l),(Value.bool m)])/\Nb F (Y (#[.int .u64 0,.int .u64 0,.int .u64 0,.int .u64 0,.int .u64 0,.int .u64 0,.int .u64 0,.int .u64 0]) 302) λaQ F=>Nb F (Y (#[.int .u64 0,.int .u64 0,.int .u64 0,.int .u64 0,.int .u64 0,.int .u64 0,.int .u64 0,.int .u64 0]) 302) λaR F=>aA F (Z aQ 0) 8 z2 λF=>aA F (Z aR 0) 8 l λF=>Lr F 8 (Z aQ 0) λaS=>Cu 235 #[(Pp aq),.agg aS] F λF=>Lr F 8 (Z aR 0) λaT=>Cu 235 #[(Pp ar),.agg aT] F λF=>Lr F 8 (Z aq 0) λaa=>Lr F 8 (Z ar 0) λab=>Bb (k) (aA F (Z e 0) 8 aa λF=>aA F (Z f 0) 8 ab λF=>Lr F 8 (Z e 0) λp=>Lr F 8 (Z f 0) λq=>R (.tuple #[.agg p,.agg q,.bool mY]) F) (aA F (Z e 0) 8 aa λF=>aA F (Z f 0) 8 ab λF=>Lr F 8 (Z e 0) λr=>Lr F 8 (Z f 0) λs=>R (.tuple #[.agg r,.agg s,.bool m]) F)) (Bc (g=4) (∃n,ad=V n/\∃z:ξ,F.cell n=V z/\Li F (Z b8 3) λaw=>Fn z λaU z5 K=>aj prog aU (z5++([(U aw)]).toArray++K) F λv F=>∃A,∃d,∃B,v=(Value.tuple #[(Value.agg A),(Value.agg d),(Value.bool B)])/\Nb F (Y (#[.int .u64 0,.int .u64 0,.int .u64 0,.int .u64 0,.int .u64 0,.int .u64 0,.int .u64 0,.int .u64 0]) 302) λax F=>Nb F (Y (#[.int .u64 0,.int .u64 0,.int .u64 0,.int .u64 0,.int .u64 0,.int .u64 0,.int .u64 0,.int .u64 0]) 302) λL F=>aA F (Z ax 0) 8 A λF=>aA F (Z L 0) 8 d λF=>∃o,aD=V o/\∃C:ξ,F.cell o=V C/\Lr F 8 (Z L 0) λay=>Lr F 8 (Z ax 0) λaz=>Fn C λaV M N=>aj prog aV (M++([(Value.agg ay),(Value.agg az)]).toArray++N) F λv F=>v=(Value.tuple #[])/\Lr F 8 (Z ax 0) λaB=>Lr F 8 (Z L 0) λD=>aA F (Z e 0) 8 aB λF=>F.row (Z L 0) D/\aA F (Z f 0) 8 D λF=>Lr F 8 (Z e 0) λt=>Lr F 8 (Z f 0) λu=>R (.tuple #[.agg t,.agg u,.bool mY]) F) (Lr F 8 (Z e 0) λaC=>Lr F 8 (Z f 0) λE=>aA F (Z e 0) 8 aC λF=>F.row (Z f 0) E/\aA F (Z f 0) 8 E λF=>Lr F 8 (Z e 0) λw=>Lr F 8 (Z f 0) λx=>R (.tuple #[.agg w,.agg x,.bool mY]) F))))
theorem qeJ {a:Int} {b:Θ} {c:Θ} {d:Θ} (h:Qz a b c d R F):ν 236 #[(U a),.pointer b,.pointer c,.pointer d] F R:=Rx.Λ (.qa8 (.qa8 (.T (.qa8 (.qa8 (.qa8 (.qa8 (.T (.qa8 (.qa8 (.qa8 (.J mz [] .N (.J mz [] .N .N))))) .N))))) .N))) h
def QA (d:Θ) (a:Int) (R:VR) (F:PH):Prop:=∃b,d=V b/\0<=(i64.wrap (Int.tdiv a 64))/\(i64.wrap (Int.tdiv a 64))<8/\∃c,F.cell (nR b (nT (i64.wrap (Int.tdiv a 64))*1))=V (.int .u64 c)/\0<=(sq a 64)/\0<=(i64.wrap (Int.tdiv a 64))/\(i64.wrap (Int.tdiv a 64))<8/\qW F (nR b (nT (i64.wrap (Int.tdiv a 64))*1)) (.int .u64 (u64.wrap ((BitVec.ofInt (u64).bits c ||| BitVec.ofInt (u64).bits (u64.wrap (1*2 ^ (min (nT (sq a 64)) (u64).bits)))).toNat))) λF=>R (.tuple #[]) F
theorem qeK {a:Θ} {b:Int} (h:QA a b R F):ν 237 #[.pointer a,(U b)] F R:=Rx.Λ .N h
def qz (c:Int) (i j k:Θ) (d:Bool) (R:VR) (F:PH):Prop:=Bb (d) (Cu 237 #[.pointer j,(U c)] F λF=>∃b,i=V b/\Lq F b λe=>∃a,e=V a/\Ls F (nR a 17) λf=>Ix f c λg=>Lr F 8 (nR g (nT c*8)) λh=>Cu 235 #[.pointer k,.agg h] F λF=>R (.tuple #[]) F) (R (.tuple #[]) F)
def QB (b:Int) (t u v j k:Θ) (R:VR) (F:PH):Prop:=∃g,t=V g/\Lx F g λi=>∃h,u=V h/\Li F h λf=>0<=f/\f<(i.size:Int)/\∃(hx:nT f<i.size) (c:Int),c=((i[nT f]'hx).toNat:Int)/\∃a,v=V a/\Lq F a λl=>∃d,l=V d/\Ls F d λm=>Ix m b λn=>Li F (nR (nR n (nT b*5)) 1) λo=>Bc (o<=(i64.wrap c)) (Lq F a λp=>∃e,p=V e/\Ls F e λq=>Ix q b λr=>Li F (nR (nR r (nT b*5)) 2) λs=>qz b (V a) j k (decide ((i64.wrap c)<=s)) R F) (qz b (V a) j k mz R F)
theorem qeL {a:Int} {b:Θ} {c:Θ} {d:Θ} {e:Θ} {f:Θ} (h:QB a b c d e f R F):ν 238 #[(U a),.pointer b,.pointer c,.pointer d,.pointer e,.pointer f] F R:=Rx.Λ (.qa8 (.J mz [(3,.ptr),(33,.bool)] .N .N)) h
def EV (R:VR) (F:PH):Prop:=R (.bool mz) F
def EW (f:Ω) (e:Θ) (g:Nat) (R:VR) (a:Int) (F:PH):Prop:=Bc (a<8) (∃b,e=V b/\0<=a/\a<8/\Lk F .u64 (nR b (nT a*1)) λc=>0<=a/\a<8/\Lk F .u64 (nR (Z g 0) (nT a*1)) λd=>Bc ((u64.wrap ((BitVec.ofInt (u64).bits c &&& BitVec.ofInt (u64).bits d).toNat))≠0) (R (.bool mY) F) (f (i64.wrap (a+1)) F)) (EV R F)
def QC (a:Θ) (b:Γ) (R:VR) (F:PH):Prop:=Nb F (Y b 302) λd F=>Lp 0 F λN c F=>EW N a d R c F
theorem qeM {a:Θ} {b:Γ} (h:QC a b R F):ν 239 #[.pointer a,.agg b] F R:=Rx.Λ (.qa8 (.J mz [] (.qa8 (.L [(6,.int .i64)] .N)) .N)) h
abbrev cX (n:Nat):Value:=.int .u64 (n:Int)
def pm (P:Nat->Bool):Γ:= #[cX (wd P 0),cX (wd P 1),cX (wd P 2),cX (wd P 3),cX (wd P 4),cX (wd P 5),cX (wd P 6),cX (wd P 7)]
def noP:Nat->Bool:=λ_=>mz
theorem dF:pm noP= #[.int .u64 0,.int .u64 0,.int .u64 0,.int .u64 0,.int .u64 0,.int .u64 0,.int .u64 0,.int .u64 0]:=by unfold pm noP;simp only [xP];rfl
theorem Kn (P:Nat->Bool):(pm P).size=8:=rfl
theorem eS (P:Nat->Bool) {k:Nat} (h:k<8):(pm P)[k]? =V (cX (wd P k)):=by
 have:k=0\/k=1\/k=2\/k=3\/k=4\/k=5\/k=6\/k=7:=by omega
 rcases this with rfl|rfl|rfl|rfl|rfl|rfl|rfl|rfl<;>rfl
theorem fQ (P:Nat->Bool):∀v∈(pm P).toList,ak v:=by intro v g;simp only [pm,tD,Wx,or_false] at g;rcases g with rfl|rfl|rfl|rfl|rfl|rfl|rfl|rfl<;>exact jt
def t8 (P Q:Nat->Bool) (k:Nat):Ξ:=(List.range 8).map λj=>if j<k then cX (wd Q j) else cX (wd P j)
theorem GE (P Q:Nat->Bool):t8 P Q 0=(pm P).toList:=rfl
theorem Ko (P Q:Nat->Bool):t8 P Q 8=(pm Q).toList:=rfl
theorem Kp (P Q:Nat->Bool) {k:Nat} (g:k<8):(t8 P Q k).set k (cX (wd Q k))=t8 P Q (k+1):=by
 have:k=0\/k=1\/k=2\/k=3\/k=4\/k=5\/k=6\/k=7:=by omega
 rcases this with rfl|rfl|rfl|rfl|rfl|rfl|rfl|rfl<;>rfl
theorem Kq (P Q:Nat->Bool) {k:Nat} (g:k<8):(t8 P Q k)[k]? =V (cX (wd P k)):=by
 have:k=0\/k=1\/k=2\/k=3\/k=4\/k=5\/k=6\/k=7:=by omega
 rcases this with rfl|rfl|rfl|rfl|rfl|rfl|rfl|rfl<;>rfl
theorem cz (b o k:Nat):(ou b o I).add k=⟨b,o+k,I⟩:=by
 by_cases h:k=0
 ·subst h;rfl
 ·simp [nR,h]
def kj (F:PH) (b:Nat) (e:TypeId) (pre:Ξ) (P:Nat->Bool) (post:Ξ):Prop:=F b=V (Y (pre++(pm P).toList++post).toArray e)
theorem kj.row {F:PH} {b:Nat} {e:TypeId} {pre post:Ξ} {P:Nat->Bool} (h:kj F b e pre P post):F.row ⟨b,pre.length,I⟩ (pm P):=by intro i hi;have g:i<8:=hi;rw [cz,av h];rw [List.getElem?_toArray,xK,UR (by omega),Zc,zR (by exact g)];simp
theorem kj.own {F:PH} {b:Nat} {e:TypeId} {P:Nat->Bool}:kj F b e [] P []↔F b=V (Y (pm P) e):=by unfold kj;simp
section
variable {F:PH}
theorem uN {b:Nat} {e:TypeId} {pre post:Ξ} {P Q:Nat->Bool} (h:kj F b e pre P post):
  ν 235 #[.pointer (V ⟨b,pre.length,I⟩),.agg (pm Q)] F λr w=>r=.tuple #[]/\kj w b e pre (λi=>P i || Q i) post/\dk (λx=>x=b) F w:=by
 refine qeI ?_;unfold Qy;intro g B;refine tR ?_;have N:∃o,F b=V o:=⟨_,h⟩;have J:=ae (Y (pm Q) 302) B;have q3:=aq F g (Y (pm Q) 302);have W:(F.set g (Y (pm Q) 302)) b=V (Y (pre++t8 P (λi=>P i || Q i) 0++post).toArray e):=by rw [GE];exact J _ _ h
 have E:b≠g:=aH B h;generalize F.set g (Y (pm Q) 302)=F3 at*;refine ⟨λm i w=>∃k:Nat,i=k/\k<=8/\m=8 - k/\w g=V (Y (pm Q) 302)/\w b=V (Y (pre++t8 P (λi=>P i || Q i) k++post).toArray e)/\dk (λx=>x=b) F w,8,⟨0,rfl,by omega,rfl,q3,W,dk.of_le J⟩,?_⟩;rintro _ _ K ⟨k,rfl,hk,rfl,q4,C,A⟩;unfold EU;refine ⟨λM=> ?_,λL=> ?_⟩
 ·have D:k<8:=by omega
  have H:(t8 P (λi=>P i || Q i) k).length=8:=by simp [t8]
  have hg:(pre++t8 P (λi=>P i || Q i) k++post).toArray[pre.length+k]? =V (cX (wd P k)):=by rw [List.getElem?_toArray,xK,UR (by omega),Zc,zR (by omega)];exact Kq P _ D
  have O:nT (k:Int)*1=k:=by rw [N4,xB]
  rw [O];have X:K.cell ((ou b pre.length I).add k)=V (cX (wd P k)):=by rw [cz,av C];exact hg
  have G:K.cell ((ou g 0 I).add k)=V (cX (wd Q k)):=by rw [cz,ye,av q4];exact eS Q D
  refine ⟨_,rfl,by omega,by omega,_,X,by omega,by omega,_,G,by omega,by omega,?_⟩;refine tG (b:=b) (o:=pre.length+k) (cz b pre.length k) C (by simp [H];omega) ?_;rw [Ly (oW P k) (oW Q k),<- qfp];refine ⟨8 - (k+1),by omega,k+1,ff (by omega),D,rfl,?_,?_,A.trans (dk.set _ (.inl rfl))⟩
  ·rw [aw _ _ E.symm];exact q4
  ·rw [aq];congr 2;rw [List.setIfInBounds_toArray];congr 1;rw [xK,List.set_append_right _ _ (by omega),Zc,List.set_append_left _ _ (by omega),xK];congr 2;exact Kp P (λi=>P i || Q i) D
 ·obtain rfl:k=8:=by omega
  rw [Ko] at C;exact ⟨rfl,C,A⟩
theorem qin {b:Nat} {e:TypeId} {pre post:Ξ} {P Q:Nat->Bool} (h:kj F b e pre P post):
  ν 239 #[.pointer (V ⟨b,pre.length,I⟩),.agg (pm Q)] F λr J=>(∃t:Bool,r=.bool t/\(t=mY↔∃i,i<512/\P i=mY/\Q i=mY))/\F.le J:=by
 refine qeM ?_;unfold QC;intro C G;refine tR ?_;have H:=ae (Y (pm Q) 302) G;have q3:=aq F C (Y (pm Q) 302);have h3:kj (F.set C (Y (pm Q) 302)) b e pre P post:=H _ _ h;generalize F.set C (Y (pm Q) 302)=E at*;refine ⟨λm i J=>∃k:Nat,i=k/\k<=8/\m=8 - k/\J=E/\∀i,i<64*k->¬(P i=mY/\Q i=mY),8,⟨0,rfl,by omega,rfl,rfl,λi hi=>by omega⟩,?_⟩;rintro _ _ F4 ⟨k,rfl,hk,rfl,e4,g⟩;obtain rfl:=e4.symm;unfold EW;refine ⟨λW=> ?_,λN=> ?_⟩
 ·have w:k<8:=by omega
  have ek:nT (k:Int)*1=k:=by rw [N4,xB]
  rw [ek];have hc:E.cell ((ou b pre.length I).add k)=V (cX (wd P k)):=by have:=h3.row k w;rw [this];have e:=eS P w;rw [Wt (by exact w)] at e;exact e
  have K:E.cell ((ou C 0 I).add k)=V (cX (wd Q k)):=by rw [cz,ye,av q3];exact eS Q w
  refine ⟨_,rfl,by omega,by omega,_,hc,by omega,by omega,_,K,?_⟩;dsimp only;rw [xQ (oW P k) (oW Q k),<- Ts];refine ⟨λO=>⟨⟨mY,rfl,?_⟩,H⟩,λhe=>⟨8 - (k+1),by omega,k+1,ff (by omega),w,rfl,rfl,λi hi=> ?_⟩⟩
  ·refine ⟨λ_=> ?_,λ_=>rfl⟩;have D:¬wd (λi=>P i && Q i) k=0:=by omega
   rw [iL] at D;have:∃j,¬(j<64->(P (64*k+j) && Q (64*k+j))=mz):=Classical.not_forall.1 D;obtain ⟨j,L⟩:=this;have M:j<64:=Classical.byContradiction λh=>L λh'=>absurd h' h;have B:¬(P (64*k+j) && Q (64*k+j))=mz:=λh=>L λ_=>h;simp at B;exact ⟨64*k+j,by omega,B⟩
  ·by_cases A:i<64*k
   ·exact g i A
   ·have D:wd (λi=>P i && Q i) k=0:=by omega
    have:=iL.1 D (i - 64*k) (by omega);rw [show 64*k+(i - 64*k)=i by omega] at this;rintro ⟨a,c⟩;rw [a,c] at this;cases this
 ·obtain rfl:k=8:=by omega
  unfold EV;exact ⟨⟨mz,rfl,λh=>(by cases h),λ⟨i,hi,X⟩=>absurd X (g i (by omega))⟩,H⟩
theorem GF {b:Nat} {P:Nat->Bool} {i:Nat} (hi:i<512) (h:F b=V (Y (pm P) 302)):
  ν 237 #[pa b,U i] F λr J=>r=.tuple #[]/\J=F.set b (Y (pm λj=>P j || decide (j=i)) 302):=by
 refine qeK ?_;unfold QA;have M:i64.wrap (Int.tdiv (i:Int) 64)=((i / 64:Nat):Int):=by rw [show Int.tdiv (i:Int) 64=((i / 64:Nat):Int) from rfl,aJ (by omega)]
 have G:sq (i:Int) 64=((i % 64:Nat):Int):=rfl;rw [M,G];have L:nT ((i / 64:Nat):Int)*1=i / 64:=by rw [N4,xB]
 rw [L];have A:i / 64<8:=by omega
 have O:F.cell ((ou b 0 I).add (i / 64))=V (cX (wd P (i / 64))):=by rw [cz,ye,av h];exact eS P A
 refine ⟨_,rfl,by omega,by omega,_,O,by omega,by omega,by omega,?_⟩;refine tG (b:=b) (o:=i / 64) (by rw [cz,ye]) h (by rw [Kn];exact A) ⟨rfl,?_⟩;have B:2 ^ (i % 64)<18446744073709551616:=by have:2 ^ (i % 64)<2 ^ 64:=Nat.pow_lt_pow_right (by omega) (by omega);exact this
 have K:u64.wrap ((1:Int)*2 ^ (min (nT ((i % 64:Nat):Int)) (u64).bits))=((2 ^ (i % 64):Nat):Int):=by
  have H:min (nT ((i % 64:Nat):Int)) (u64).bits=i % 64:=by rw [N4];show min (i % 64) 64=i % 64;omega
  rw [H];have:(1:Int)*2 ^ (i % 64)=((2 ^ (i % 64):Nat):Int):=by simp
  rw [this];exact nj (Int.natCast_nonneg _) (Int.ofNat_lt.2 B)
 rw [K,Ly (oW P _) B];congr 2;have N:wd P (i / 64) ||| 2 ^ (i % 64)=wd (λj=>P j || decide (j=i)) (i / 64):=by refine u9 (Nat.or_lt_two_pow (oW P _) B) λj E=> ?_;rw [Nat.testBit_or,iK P _ E,Zi];congr 1;rw [wi];simp;omega
 rw [N];have W:∀k,k≠i / 64->k<8->wd P k=wd (λj=>P j || decide (j=i)) k:=λk X _=>Lw λj E=>by show P (64*k+j)=(P (64*k+j) || decide (64*k+j=i));rw [show decide (64*k+j=i)=mz by simp;omega,Yp]
 apply Array.ext';apply WJ;intro k;rw [Array.toList_setIfInBounds,Yj];by_cases w:k<8
 ·have D:∀(Q:Nat->Bool),(pm Q).toList[k]? =V (cX (wd Q k)):=λQ=>by rw [YG];exact eS Q w
  rw [D,D];by_cases g:i / 64=k
  ·rw [Χ g,Χ (by exact A),g]
  ·rw [Υ g,W k (λe=>g e.symm) w]
 ·have C:∀(Q:Nat->Bool),(pm Q).toList[k]? =I:=λQ=>VM (by show 8<=k;omega);rw [C,C,Υ (by omega)]
def Tab (F:PH):Prop:=∀k v,Af[k]? =V v->F.cell ⟨0,k,I⟩=V (.int .u8 ((v:Nat):Int))
theorem Tab.le {F G:PH} (h:Tab F) (g:F.le G):Tab G:=λk v r=>aK g (h k v r)
theorem Nr (H:Tab F) {x t:Nat} (A:x<18446744073709551616) (h:Low x t):ν 252 #[.int .u64 x] F λr E=>r=U t/\E=F:=by
 refine qex ?_;unfold Qm;have w:=h.pos;refine ⟨λD=>absurd D (by omega),λ_=> ?_⟩;have K:t<64:=by
  rcases Nat.lt_or_ge t 64 with g|g
  ·exact g
  ·obtain ⟨m,rfl⟩:=h;have:2 ^ 64<=2 ^ t:=Wu (by omega) g;omega
 have J:u64.wrap (0 - (x:Int))=((2 ^ 64 - x:Nat):Int):=by
  unfold IntKind.wrap;simp only [IntKind.bits,IntKind.signed];simp only [W5,VN,if_false];have:(2:Nat) ^ 64=18446744073709551616:=by decide
  omega
 have B:2 ^ 64 - x<18446744073709551616:=by omega
 rw [J,xQ A B,h.neg A];have G:=qfq t K;have L:u64.wrap (((2 ^ t:Nat):Int)*285870213051353865)=((2 ^ t*285870213051353865 % 18446744073709551616:Nat):Int):=by
  unfold IntKind.wrap;simp only [IntKind.bits,IntKind.signed];simp only [W5,VN,if_false];have:((2:Nat) ^ 64:Nat)=18446744073709551616:=by decide
  omega
 rw [L];generalize M:2 ^ t*285870213051353865 % 18446744073709551616=y at*;have C:Int.fdiv ((y:Nat):Int) (2 ^ (min (nT (58:Int)) (u64).bits))=((y / 288230376151711744:Nat):Int):=by
  have:(2:Int) ^ (min (nT (58:Int)) (u64).bits)=288230376151711744:=by decide
  rw [this,YB _ (by decide)];omega
 rw [C,N4,xB,cz,ye];refine ⟨by omega,by omega,_,H _ _ G.2,?_,rfl⟩;rw [YD (by omega)]
theorem uO {a:Addr} {P:Nat->Bool} {k:FuncId} {cap:Γ} {Inv:Nat->Ψ} (hk:aF prog k=mY) (_:a.spot=I)
  (hI:∀n F,Inv n F->Tab F/\F.row a (pm P)) (h0:∀i F,i<512->P i=mz->Inv i F->Inv (i+1) F)
  (h1:∀i F,i<512->P i=mY->Inv i F->aj prog k (#[U i]++cap) F λr D=>r=.tuple #[]/\Inv (i+1) D) (hF:Inv 0 F):
  ν 233 #[.pointer (V a),.func (.func k) #[] cap] F λr D=>r=.tuple #[]/\Inv 512 D:=by
 refine qeG ?_;unfold Qw;refine ⟨λm i D=>∃w:Nat,i=w/\w<=8/\m=8 - w/\Inv (64*w) D,8,⟨0,rfl,by omega,rfl,hF⟩,?_⟩;rintro _ _ F1 ⟨w,rfl,hw,rfl,G⟩;unfold ET;refine ⟨λa2=> ?_,λa0=> ?_⟩
 ·have L:w<8:=by omega
  have ek:nT (w:Int)*1=w:=by rw [N4,xB]
  rw [ek];have hc:F1.cell (a.add w)=V (cX (wd P w)):=by rw [(hI _ _ G).2 w L];have e:=eS P L;rw [Wt (by exact L)] at e;exact e
  refine ⟨a,rfl,by omega,by omega,_,hc,?_⟩;refine ⟨λm x D=>∃j y:Nat,x=y/\j<=64/\m=64 - j/\y<18446744073709551616/\(∀i,y.testBit i=((wd P w).testBit i && decide (j<=i)))/\Inv (64*w+j) D,64,⟨0,wd P w,rfl,by omega,rfl,oW P w,λi=>by simp,G⟩,?_⟩;rintro _ _ F2 ⟨j,y,rfl,hj,rfl,W,g,K⟩;unfold ES;have skip:∀(t:Nat),j<=t->t<=64->(∀i,j<=i->i<t->P (64*w+i)=mz)->Inv (64*w+t) F2:=by
   intro t;induction t with
   |zero=>
    intro h _ _;obtain rfl:j=0:=by omega
    exact K
   |succ t ih=>
    intro h h2 h3;by_cases e:j=t+1
    ·subst e;exact K
    ·have:=ih (by omega) (by omega) λi a c=>h3 i a (by omega);exact h0 (64*w+t) F2 (by omega) (h3 t (by omega) (by omega)) this
  refine ⟨λa1=> ?_,λhe=> ?_⟩
  ·
   have O:∃t,y.testBit t=mY:=Classical.byContradiction λhn=>by
    have:y=0:=Nat.eq_of_testBit_eq λi=>by rw [Nat.zero_testBit];exact XU.2 λh=>hn ⟨i,h⟩
    omega
   obtain ⟨t,E,B⟩:∃t,y.testBit t=mY/\∀i,i<t->y.testBit i=mz:=by
    obtain ⟨t,E⟩:=O;have key:∀n t,t<=n->y.testBit t=mY->∃t,y.testBit t=mY/\∀i,i<t->y.testBit i=mz:=by
     intro n;induction n with
     |zero=>
      intro t h E;obtain rfl:t=0:=by omega
      exact ⟨0,E,λi hi=>by omega⟩
     |succ n ih=>
      intro t h E;by_cases hl:∃i,i<t/\y.testBit i=mY
      ·obtain ⟨i,h1,h2⟩:=hl;exact ih i (by omega) h2
      ·exact ⟨t,E,λi hi=>XU.2 λh=>hl ⟨i,hi,h⟩⟩
    exact key t t (qX _) E
   have C:Low y t:=Low.of E B;have A:=g t;rw [E] at A;simp at A;have J:t<64:=by
    rcases Nat.lt_or_ge t 64 with h|h
    ·exact h
    ·rw [Nat.testBit_lt_two_pow (Nat.lt_of_lt_of_le (oW P w) (by have:2 ^ 64<=2 ^ t:=Wu (by omega) h;exact this))] at A;simp at A
   have N:P (64*w+t)=mY:=by rw [<- iK P w J];exact A.1
   have hz:∀i,j<=i->i<t->P (64*w+i)=mz:=λi a c=>by have:=g i;rw [B i c,iK P w (by omega)] at this;simp only [ε a,Bool.and_true] at this;exact this.symm
   have H:=skip t A.2 (by omega) hz;refine (Nr (hI _ _ H).1 W C).mono ?_;rintro _ F3 ⟨rfl,e3⟩;obtain rfl:=e3.symm;have ei:i64.wrap (i64.wrap ((64:Int)*(w:Int))+(t:Int))=((64*w+t:Nat):Int):=by rw [aJ (x:=(64:Int)*w) (by omega) (by omega),aJ (by omega)];omega
   refine ⟨_,rfl,k,#[],cap,rfl,hk,?_⟩;rw [ei];have:=h1 (64*w+t) F2 (by omega) N H;refine aj.mono (R:=λr D=>r=.tuple #[]/\Inv (64*w+t+1) D) (by simpa using this) ?_;rintro _ F4 ⟨rfl,M⟩;refine ⟨rfl,64 - (t+1),by omega,t+1,y &&& (y - 1),?_,by omega,rfl,Nat.lt_of_le_of_lt Nat.and_le_left W,λi=> ?_,M⟩
   ·have e:u64.wrap ((y:Int) - 1)=((y - 1:Nat):Int):=by have:=C.pos;rw [nj (by omega) (by omega)];omega
    rw [e,xQ W (by omega)]
   ·rw [C.clear,g i];by_cases X:i<t
    ·have:=B i X;rw [g i] at this;rw [this];simp;omega
    ·by_cases e:i=t
     ·subst e;simp
     ·have:j<=i:=by omega
      simp [this,e];omega
  ·have Q:y=0:=by omega
   subst Q;unfold ER;refine ⟨8 - (w+1),by omega,w+1,ff (by omega),L,rfl,?_⟩;rw [show 64*(w+1)=64*w+64 by omega];refine skip 64 hj (qX _) λi a c=> ?_;have:=g i;rw [Nat.zero_testBit,iK P w c] at this;simp only [ε a,Bool.and_true] at this;exact this.symm
 ·obtain rfl:w=8:=by omega
  exact ⟨rfl,G⟩
end
end
open Go.ChangeShapes Go.WideShapes Go.ChangeAt Go.RowKit
set_option maxRecDepth 100000
abbrev te:List (String×DataW Unit):=[("math/bits.deBruijn64tab",Rows.laid_math_bits_deBruijn64tab)]
theorem og:prog.cellsOf 5=1:=by kernel_rfl
theorem qeN:ownKnob prog.godebug=I:=by kernel_rfl
theorem Nt:laidOutB prog=mY:=by kernel_rfl
theorem SL:(Rows.laid_math_bits_deBruijn64tab:DataW Unit)=.agg (Af.map λ(n:Nat)=> .lit (.int .u8 (n:Int))):=by kernel_rfl
theorem qio {W:World} (h:laidMetH prog te W):Tab (hF W):=by
 intro r v hv;have hr:r<64:=(N6.1 hv).1;rw [MakeChecks.laidMetH_plain _ _ _ (by kernel_rfl)] at h;obtain ⟨ps,⟨g,t,cs,fuel,p,q,hg,ht,hw,hd,_,_⟩,_,_⟩:=h;obtain rfl:=yC ((show prog.globalNamed "math/bits.deBruijn64tab"=V 0 by kernel_rfl).symm.trans hg);obtain rfl:=yC ((show (prog.globals[0]?).map (·.type)=V 347 by kernel_rfl).symm.trans ht);obtain ⟨xs,m,_,ex,_,hl,hel⟩:=DataW.trod_array underlying347 hd;have hE:=hel r hr;rw [og,xB,N5 (by omega)] at hE;obtain ⟨z,e1,e2,_⟩:=DataW.trod_int underlying5 hE;rw [SL] at ex;have e3:(xs.map (·.1))=Af.map λ(n:Nat)=> .lit (.int .u8 (n:Int)):=(DataW.agg.inj (Prod.mk.inj ex).1).symm;have e4:(xs.map (·.1))[r]? =(Af.map λ(n:Nat)=>(DataW.lit (.int .u8 (n:Int)):DataW Unit))[r]? :=by rw [e3]
 rw [yc,yc,N5 (by omega:r<xs.length),hv,e2] at e4;have hz:z=(v:Int):=by simp only [Vz,Option.some.injEq,DataW.lit.injEq,Lit.int.injEq,true_and] at e4;exact e4
 refine Fx ?_;rw [World.var?_cell hg hw r,<- hz];have:cs.toList[r]? =V (.int .u8 z):=by
  have h0:((cs.toList.drop r).take 1)[0]? =V (.int .u8 z):=by rw [e1];rfl
  simpa using h0
 simpa using this
theorem Kr (os:Os) (args:Γ):laidMetH prog te ((World.laidAll prog os te).forCall (λ_ _=>0) ⟨#[],args,[]⟩).memory:=by rw [MakeChecks.laidMetH_plain _ _ _ (by kernel_rfl)];exact laidMet_laidAll _ (by kernel_rfl) (by kernel_rfl)
open Go.Deep
section
section
variable {H:Type} {enc:TypeId×ξ->H} {P:Program} {W:World}
theorem Kt {t e fuel:Nat} {k:IntKind} {c:ξ} {x:DataW H×List MemPlace} (C:P.underlying t=V (.slice e)) (O:P.underlying e=V (.int k)) (hc:P.cellsOf e=1)
  (h:DataW.trod enc P W 0 (λ_=>mY) mY fuel t [c]=V x) (A:(x.1.weights P t).all (·<=reachBytes)=mY):
  ∃(sl:Sl) (E:Φ),c=nE sl/\RdS (hF W) sl 1 (E.map (Value.int k))/\(∀z∈E,(Lit.int k z).wf=mY)/\sl.len*P.bytesOf e<=reachBytes/\sl.cap*P.bytesOf e<=reachBytes:=by
 rcases open_slice1 C hc h with ⟨g,rfl⟩|⟨a,len,cap,m,n,M,D,Pl,g,_,L,hm,r,rfl,B⟩
 ·cases g;exact ⟨pi,[],rfl,RdS.nil _ _,by simp,by simp [pi],by simp [pi]⟩
 ·cases g;simp only [if_true] at r;subst r;have w:∀i,i<m->∃z,M i=.int k z/\(Lit.int k z).wf=mY:=λi hi=>by obtain ⟨z,R,_,X⟩:=DataW.trod_int O (B i hi).2;exact ⟨z,by simpa using R,X⟩
  obtain ⟨Q,G⟩:=choose_lt w;have F:m*P.bytesOf e<=reachBytes:=by simp only [DataW.weights,C,Xv,VO,δ,ub,V4] at A;rw [show len+(m - len)=m by omega] at A;exact A.1
  refine ⟨⟨V a,len,m⟩,(List.range len).map Q,rfl,⟨by simp,L,λN=> ?_⟩,?_,Wz (Xj _ L) F,F⟩
  ·have J:=World.cell?_spot (B 0 (by simp only at N;omega)).1;obtain ⟨b,o,K⟩:=a;simp only [nR] at J;subst J;refine ⟨b,o,rfl,λi hi=> ?_⟩;simp at hi;have:=Fx (B i (by omega)).1;rw [(G i (by omega)).1] at this;rw [aI] at this;simpa using this
  ·intro z w;simp only [w9,WU] at w;obtain ⟨i,hi,rfl⟩:=w;exact (G i (by omega)).2
end
theorem SM {z:Int} (h:(Lit.int .u8 z).wf=mY):0<=z/\z<=255:=bounds_u8 h
theorem Nu {F:PH} {sl:Sl} {g:Φ} (h:RdS F sl 1 (g.map (Value.int .u8))) (r:sl.len*prog.bytesOf 5<=reachBytes):g.length<=9000000000000000:=by
 have:=h.len;rw [ub] at this;have e:prog.bytesOf 5=1:=by kernel_rfl
 have w:reachBytes=140737488351232:=rfl;rw [e,w] at r;omega
class Mem (α:Type) where
 n:Nat
 rep:PH->α->Γ->Prop
 len:∀{F:PH} {x:α} {c:Γ},rep F x c->c.size=n
 le:∀{F G:PH} {x:α} {c:Γ},F.le G->rep F x c->rep G x c
 st:∀{F:PH} {x:α} {c:Γ},rep F x c->∀v∈c.toList,ak v
def tZ (vs:List Γ):Ξ:=vs.flatMap Array.toList
theorem cH (c:Γ) (vs:List Γ):tZ (c::vs)=c.toList++tZ vs:=rfl
theorem ba (a b:List Γ):tZ (a++b)=tZ a++tZ b:=by simp [tZ]
theorem cI (c:Γ):tZ [c]=c.toList:=by simp [tZ]
inductive bS {α:Type} [Mem α] (F:PH):List α->List Γ->Prop
 |nil:bS F [] []
 |cons {x:α} {c:Γ} {l:List α} {vs:List Γ}:Mem.rep F x c->bS F l vs->bS F (x::l) (c::vs)
namespace bS
section
variable {α:Type} [Mem α] {F G:PH} {l m:List α} {vs ws:List Γ}
theorem le (g:F.le G) (h:bS F l vs):bS G l vs:=by
 induction h with
 |nil=>exact .nil
 |cons h _ ih=>exact .cons (Mem.le g h) ih
theorem length (h:bS F l vs):vs.length=l.length:=by
 induction h with
 |nil=>rfl
 |cons _ _ ih=>simp [ih]
theorem cat_len (h:bS F l vs):(tZ vs).length=l.length*Mem.n α:=by
 induction h with
 |nil=>simp [tZ]
 |cons h _ ih=>rw [cH,tT,ih,zN,Mem.len h,wc,WL,XK]
theorem append (h:bS F l vs) (k:bS F m ws):bS F (l++m) (vs++ws):=by
 induction h with
 |nil=>exact k
 |cons h _ ih=>exact .cons h ih
theorem st (h:bS F l vs):∀v∈tZ vs,ak v:=by
 induction h with
 |nil=>intro v g;cases g
 |cons h _ ih=>
  intro v g;rw [cH,vd] at g;rcases g with g|g
  ·exact Mem.st h v g
  ·exact ih v g
theorem get (h:bS F l vs):∀{i:Nat} {x:α},l[i]? =V x->∃c,vs[i]? =V c/\Mem.rep F x c/\((tZ vs).drop (i*Mem.n α)).take (Mem.n α)=c.toList:=by
 induction h with
 |nil=>intro i x r;simp at r
 | @cons y c l vs h C ih=>
  intro i x r;have g:=Mem.len h;cases i with
  |zero=>simp at r;subst r;refine ⟨c,rfl,h,?_⟩;rw [V9,Vf,cH,Xh (by simp [g]),zc (by simp [g])]
  |succ i=>simp at r;obtain ⟨d,B,w,A⟩:=ih r;refine ⟨d,by simpa using B,w,?_⟩;rw [cH,WL,List.drop_append,Ye (by simp [g]),zE];rw [show i*Mem.n α+Mem.n α - c.toList.length=i*Mem.n α by simp [g]];exact A
theorem take (h:bS F l vs) (k:Nat):bS F (l.take k) (vs.take k):=by
 induction h generalizing k with
 |nil=>simp only [List.take_nil];exact .nil
 |cons h _ ih=>
  cases k with
  |zero=>exact .nil
  |succ k=>exact .cons h (ih k)
theorem drop (h:bS F l vs) (k:Nat):bS F (l.drop k) (vs.drop k):=by
 induction h generalizing k with
 |nil=>simp only [List.drop_nil];exact .nil
 |cons h g ih=>
  cases k with
  |zero=>exact .cons h g
  |succ k=>exact ih k
theorem cat_take (h:bS F l vs) (k:Nat):(tZ vs).take (k*Mem.n α)=tZ (vs.take k):=by
 induction h generalizing k with
 |nil=>simp [tZ]
 |cons h _ ih=>
  cases k with
  |zero=>simp [tZ]
  |succ k=>have g:=Mem.len h;rw [Yh,cH,cH,WL,List.take_append,zc (by simp [g])];congr 1;rw [show k*Mem.n α+Mem.n α - (Array.toList _).length=k*Mem.n α by simp [g]];exact ih k
theorem cat_drop (h:bS F l vs) (k:Nat):(tZ vs).drop (k*Mem.n α)=tZ (vs.drop k):=by
 induction h generalizing k with
 |nil=>simp [tZ]
 |cons h _ ih=>
  cases k with
  |zero=>simp [tZ]
  |succ k=>have g:=Mem.len h;rw [Xy,cH,WL,List.drop_append,Ye (by simp [g]),zE];rw [show k*Mem.n α+Mem.n α - (Array.toList _).length=k*Mem.n α by simp [g]];exact ih k
theorem set (h:bS F l vs) {i:Nat} {x:α} {c:Γ} (g:Mem.rep F x c):bS F (l.set i x) (vs.set i c):=by
 induction h generalizing i with
 |nil=>simp only [List.set_nil];exact .nil
 |cons h r ih=>
  cases i with
  |zero=>exact .cons g r
  |succ i=>exact .cons h ih
end
end bS
def RL {α:Type} [Mem α] (F:PH) (s:Sl) (l:List α):Prop:=∃vs,bS F l vs/\RdS F s (Mem.n α) (tZ vs)
namespace RL
section
variable {α:Type} [Mem α] {F G:PH} {s:Sl} {l:List α}
theorem le (h:RL F s l) (g:F.le G):RL G s l:=by obtain ⟨vs,r,w⟩:=h;exact ⟨vs,r.le g,w.le g⟩
theorem nil (F:PH):RL F pi ([]:List α):=⟨[],.nil,RdS.nil F _⟩
theorem len (h:RL F s l) (g:0<Mem.n α:=by decide):s.len=l.length:=by obtain ⟨vs,w,r⟩:=h;have:=r.len;rw [w.cat_len] at this;exact (Nat.eq_of_mul_eq_mul_right g this).symm
theorem cap (h:RL F s l):s.len<=s.cap:=by obtain ⟨vs,r,g⟩:=h;exact g.cap
theorem get (h:RL F s l) (D:0<Mem.n α) {i:Nat} {x:α} (A:l[i]? =V x):∃a c,s.qa5=V a/\F.row (a.add (i*Mem.n α)) c/\Mem.rep F x c:=by
 obtain ⟨vs,B,r⟩:=h;obtain ⟨c,J,C,E⟩:=B.get A;have hi:i<l.length:=(N6.1 A).1;have g:=r.len;rw [B.cat_len] at g;have H:0<s.len:=by have:=Nat.eq_of_mul_eq_mul_right D g;omega
 obtain ⟨b,o,w,_⟩:=r.cells H;refine ⟨⟨b,o,I⟩,c,w,r.row w _ c ?_,C⟩;rw [Mem.len C];exact E.symm
end
end RL
instance:Mem Int where
 n:=1
 rep _ x c:=c= #[U x]
 len h:=by rw [h];rfl
 le _ h:=h
 st h:=by rw [h];simp [ak]
instance:Mem ο where
 n:=1
 rep _ x c:=c= #[.string x]
 len h:=by rw [h];rfl
 le _ h:=h
 st h:=by rw [h];simp [ak]
instance:Mem Br where
 n:=3
 rep _ x c:=c=aW x
 len h:=by rw [h];rfl
 le _ h:=h
 st h:=by rw [h];simp [ak]
instance:Mem Nd where
 n:=5
 rep _ x c:=c=x.arr
 len h:=by rw [h];rfl
 le _ h:=h
 st h:=by rw [h];simp [ak]
structure Sy where
 t:Bool
 i:Int
deriving DecidableEq
abbrev Sy.arr (x:Sy):Γ:= #[.bool x.t,U x.i]
instance:Mem Sy where
 n:=2
 rep _ x c:=c=x.arr
 len h:=by rw [h];rfl
 le _ h:=h
 st h:=by rw [h];simp [ak]
structure Cn where
 k:Int
 a:Int
 b:Int
deriving DecidableEq
abbrev Cn.arr (x:Cn):Γ:= #[U x.k,U x.a,U x.b]
instance:Mem Cn where
 n:=3
 rep _ x c:=c=x.arr
 len h:=by rw [h];rfl
 le _ h:=h
 st h:=by rw [h];simp [ak]
theorem RL.flat {α:Type} [Mem α] {f:α->Γ} (w:∀F x c,Mem.rep F x c↔c=f x) {F:PH} {s:Sl} {l:List α}:RL F s l↔RdS F s (Mem.n α) (l.flatMap λx=>(f x).toList):=by
 have key:∀(l:List α) (vs:List Γ),bS F l vs↔vs=l.map f:=by
  intro l;induction l with
  |nil=>intro vs;exact ⟨λh=>by cases h;rfl,λh=>by rw [h];exact .nil⟩
  |cons x l ih=>
   intro vs;constructor
   ·intro h;cases h with
    |cons r g=>rw [(w _ _ _).1 r,(ih _).1 g];rfl
   ·intro h;rw [h];exact .cons ((w _ _ _).2 rfl) ((ih _).2 rfl)
 have e:tZ (l.map f)=l.flatMap λx=>(f x).toList:=by simp [tZ,List.flatMap_map]
 constructor
 ·rintro ⟨vs,r,g⟩;rw [(key l vs).1 r,e] at g;exact g
 ·intro h;exact ⟨_,(key l _).2 rfl,by rw [e];exact h⟩
theorem RL.brs {F:PH} {s:Sl} {l:List Br}:RL F s l↔RdS F s 3 (aV l):=RL.flat (f:=aW) (λ_ _ _=>Iff.rfl)
theorem RL.nds {F:PH} {s:Sl} {l:List Nd}:RL F s l↔RdS F s 5 (dE l):=RL.flat (f:=Nd.arr) (λ_ _ _=>Iff.rfl)
theorem Ku {α:Type} (f:α->ξ) (l:List α):(l.flatMap λx=>(#[f x]:Γ).toList)=l.map f:=by
 induction l with
 |nil=>rfl
 |cons x l ih=>rw [Vx,ih];rfl
theorem RL.ints {F:PH} {s:Sl} {l:Φ}:RL F s l↔RdS F s 1 (l.map U):=by rw [RL.flat (f:=λx=> #[U x]) (λ_ _ _=>Iff.rfl),Ku];rfl
theorem RL.strs {F:PH} {s:Sl} {l:List ο}:RL F s l↔RdS F s 1 (l.map Value.string):=by rw [RL.flat (f:=λx=> #[.string x]) (λ_ _ _=>Iff.rfl),Ku];rfl
theorem DV.mk {F:PH} {s:Sl} {d:vE} (h:RL F s d.1):DV F #[s.v,U d.2] d:=⟨s,rfl,RL.brs.1 h⟩
structure Tk where
 name:ο
 cls:Int
 lit:ο
 pat:List Nd
 smp:ο
 cond:vE
structure Sco where
 o:Bool
 d:Int
 k:Int
 u:Int
 a:Int
deriving DecidableEq
structure Pr where
 name:ο
 left:Int
 right:List Sy
 cond:vE
 brk:Bool
 rank:Int
 lay:List Cn
 sco:Sco
structure Lv where
 ps:Φ
 assoc:Int
 cond:vE
structure Fi where
 k:Int
 par:Int
 pos:Int
 ch:Int
 left:Int
 tok:Int
 qa2:Φ
 cond:vE
structure Gr where
 qa4:List ο
 fam:vE
 qa2:List Tk
 qa1:List ο
 qa0:List Pr
 start:Int
 lvs:List Lv
 fils:List Fi
deriving instance DecidableEq for Tk,Pr,Lv,Fi,Gr
abbrev Tk.arr (x:Tk) (p n:Sl):Γ:= #[.string x.name,U x.cls,.string x.lit,p.v,.string x.smp,n.v,U x.cond.2]
abbrev Pr.arr (x:Pr) (r n l:Sl):Γ:= #[.string x.name,U x.left,r.v,n.v,U x.cond.2,.bool x.brk,U x.rank,l.v,.bool x.sco.o,U x.sco.d,U x.sco.k,U x.sco.u,U x.sco.a]
abbrev Lv.arr (x:Lv) (p n:Sl):Γ:= #[p.v,U x.assoc,n.v,U x.cond.2]
abbrev Fi.arr (x:Fi) (t n:Sl):Γ:= #[U x.k,U x.par,U x.pos,U x.ch,U x.left,U x.tok,t.v,n.v,U x.cond.2]
abbrev Gr.arr (g:Gr) (c n t s p l f:Sl):Γ:= #[c.v,n.v,U g.fam.2,t.v,s.v,p.v,U g.start,l.v,f.v]
instance:Mem Tk where
 n:=7
 rep F x c:=∃p n,c=x.arr p n/\RL F p x.pat/\RL F n x.cond.1
 len h:=by obtain ⟨p,n,rfl,_⟩:=h;rfl
 le hl h:=by obtain ⟨p,n,h1,h2,h3⟩:=h;exact ⟨p,n,h1,h2.le hl,h3.le hl⟩
 st h:=by obtain ⟨p,n,rfl,_⟩:=h;simp [ak,nE]
instance:Mem Pr where
 n:=13
 rep F x c:=∃r n l,c=x.arr r n l/\RL F r x.right/\RL F n x.cond.1/\RL F l x.lay
 len h:=by obtain ⟨r,n,l,rfl,_⟩:=h;rfl
 le hl h:=by obtain ⟨r,n,l,h1,h2,h3,h4⟩:=h;exact ⟨r,n,l,h1,h2.le hl,h3.le hl,h4.le hl⟩
 st h:=by obtain ⟨r,n,l,rfl,_⟩:=h;simp [ak,nE]
instance:Mem Lv where
 n:=4
 rep F x c:=∃p n,c=x.arr p n/\RL F p x.ps/\RL F n x.cond.1
 len h:=by obtain ⟨p,n,rfl,_⟩:=h;rfl
 le hl h:=by obtain ⟨p,n,h1,h2,h3⟩:=h;exact ⟨p,n,h1,h2.le hl,h3.le hl⟩
 st h:=by obtain ⟨p,n,rfl,_⟩:=h;simp [ak,nE]
instance:Mem Fi where
 n:=9
 rep F x c:=∃t n,c=x.arr t n/\RL F t x.qa2/\RL F n x.cond.1
 len h:=by obtain ⟨p,n,rfl,_⟩:=h;rfl
 le hl h:=by obtain ⟨p,n,h1,h2,h3⟩:=h;exact ⟨p,n,h1,h2.le hl,h3.le hl⟩
 st h:=by obtain ⟨p,n,rfl,_⟩:=h;simp [ak,nE]
structure GS (F:PH) (g:Gr) (c n t s p l f:Sl):Prop where
 c:RL F c g.qa4
 n:RL F n g.fam.1
 t:RL F t g.qa2
 s:RL F s g.qa1
 p:RL F p g.qa0
 l:RL F l g.lvs
 f:RL F f g.fils
theorem GS.le {F G:PH} {g:Gr} {c n t s p l f:Sl} (h:GS F g c n t s p l f) (r:F.le G):GS G g c n t s p l f:=
 ⟨h.c.le r,h.n.le r,h.t.le r,h.s.le r,h.p.le r,h.l.le r,h.f.le r⟩
def GV (F:PH) (v:Γ) (g:Gr):Prop:=∃c n t s p l f,v=g.arr c n t s p l f/\GS F g c n t s p l f
theorem GV.le {F G:PH} {v:Γ} {g:Gr} (h:GV F v g) (A:F.le G):GV G v g:=by obtain ⟨c,n,t,s,p,l,f,r,w⟩:=h;exact ⟨c,n,t,s,p,l,f,r,w.le A⟩
theorem GV.size {F:PH} {v:Γ} {g:Gr} (h:GV F v g):v.size=9:=by obtain ⟨c,n,t,s,p,l,f,rfl,_⟩:=h;rfl
theorem GV.st {F:PH} {v:Γ} {g:Gr} (h:GV F v g):∀x∈v.toList,ak x:=by obtain ⟨c,n,t,s,p,l,f,rfl,_⟩:=h;simp [ak,nE]
variable {R:VR} {F:PH}
set_option maxHeartbeats 4000000
def QD (a:Sl) (b:ο) (R:VR) (F:PH):Prop:=Ci 154 #[nE a] F λe F=>Bc (e=0) (Nb F (Y #[(U 0)] 3) λf F=>Cs 156 #[nE a,(U (i64.wrap ((a.len:Int) - 1))),.string b,nE (Sb f 1)] F λc F=>ud 155 #[nE c,(U (b.size:Int))] F λd F=>R (.bool d) F) (R (.bool mz) F)
theorem qeO {a:Sl} {b:ο} (h:QD a b R F):ν 121 #[nE a,.string b] F R:=Rx.Λ .N h
def EX (a:Sl) (R:VR) (F:PH):Prop:=Bc ((a.len:Int)=0) (R (U 40) F) (R (U 0) F)
def EY (f:Ω) (b c:Sl) (R:VR) (a:Int) (F:PH):Prop:=Bc (a<(i64.wrap ((b.len:Int) - 1))) (Ix c a λd=>Li F (nR d (nT a*1)) λe=>Bc (e≠1) (R (U 40) F) (f (i64.wrap (a+1)) F)) (EX b R F)
def EZ (b a:Sl) (R:VR) (F:PH):Prop:=Lp 0 F λN c F=>EY N b a R c F
def qA (c:Ω) (_ _:Sl) (a:Int) (_:VR) (F:PH):Prop:=c (i64.wrap (a+1)) F
def qB (j:Ω) (d a:Sl) (c e:Int) (R:VR) (F:PH):Prop:=Bc (2<=e) (Ix d c λf=>Li F (nR (nR f (nT c*5)) 4) λb=>Ix a b λg=>Li F (nR g (nT b*1)) λh=>Ix a b λi=>qW F (nR i (nT b*1)) (U (i64.wrap (h+1))) λF=>qA j d a c R F) (qA j d a c R F)
def E6 (n:Ω) (c a:Sl) (R:VR) (b:Int) (F:PH):Prop:=Bc (b<(c.len:Int)) (ud 188 #[nE c,(U b)] F λg F=>Bb ((!g)) (R (U 40) F) (Ix c b λh=>Li F (nR h (nT b*5)) λi=>ν 189 #[(U i)] F λv F=>∃d,∃f,v=(.tuple #[(U d),.bool f])/\Bc (1<=d) (Ix c b λj=>Li F (nR (nR j (nT b*5)) 3) λe=>Ix a e λk=>Li F (nR k (nT e*1)) λl=>Ix a e λm=>qW F (nR m (nT e*1)) (U (i64.wrap (l+1))) λF=>qB n c a b d R F) (qB n c a b d R F))) (EZ c a R F)
def QE (a:Sl) (R:VR) (F:PH):Prop:=Bc ((512:Int)<(a.len:Int)) (R (U 2) F) (aG prog (Instr.makeSlice 76 (U (a.len:Int)) (U (a.len:Int))) F λv F=>∃b,v=(nE b)/\Lp 0 F λN c F=>E6 N a b R c F)
theorem qeP {a:Sl} (h:QE a R F):ν 154 #[nE a] F R:=Rx.Λ (.qa8 (.qa8 (.qa8 (.J mz [] (.qa8 (.L [(4,.int .i64)] (.qa8 (.J mz [] (.qa8 (.qa8 (.J mz [] .N .N))) .N)))) (.J mz [] (.qa8 (.L [(7,.int .i64)] .N)) .N))))) h
def E8 (R:VR) (F:PH):Prop:=R (.bool mz) F
def E9 (f:Ω) (b:Sl) (e:Int) (R:VR) (a:Int) (F:PH):Prop:=Bc (a<(b.len:Int)) (Ix b a λc=>Li F (nR c (nT a*1)) λd=>Bc (d=e) (R (.bool mY) F) (f (i64.wrap (a+1)) F)) (E8 R F)
def QF (a:Sl) (b:Int) (R:VR) (F:PH):Prop:=Lp 0 F λN c F=>E9 N a b R c F
theorem qeQ {a:Sl} {b:Int} (h:QF a b R F):ν 155 #[nE a,(U b)] F R:=Rx.Λ (.qa8 (.J mz [] (.qa8 (.L [(5,.int .i64)] .N)) .N)) h
def Fb (a:Sl) (R:VR) (F:PH):Prop:=R (nE a) F
def Fc (h:Sl->Ω) (f:Sl) (g:ο) (i:Nat) (R:VR) (a:Sl) (e:Int) (F:PH):Prop:=Bc (e<(a.len:Int)) (Li F (Z i 3) λb=>Cs 156 #[nE f,(U b),.string g,nE a] F λc F=>Cs 190 #[nE a,nE c] F λd F=>h d (a.len:Int) F) (Fb a R F)
def Fd (e:Sl) (f:ο) (b:Sl) (h:Nat) (R:VR) (F:PH):Prop:=(∃(g:Nat->Sl->Ω) (d:Nat),g d b (-1:Int) F/\∀d a c F,g d a c F-> Fc (VL g d) e f h R a c F)
def Ff (a:Sl) (R:VR) (F:PH):Prop:=R (nE a) F
def qC (d:Sl->Ω) (_:ο) (_:Sl) (_:Nat) (b:Int) (a:Sl) (_:VR) (F:PH):Prop:=d a (i64.wrap (b+1)) F
def mQ (j:Sl->Ω) (d:ο) (b:Sl) (k:Nat) (a:Sl) (c:Int) (e:Bool) (R:VR) (F:PH):Prop:=Bb (e) (Ix b c λf=>Li F (nR f (nT c*1)) λg=>Nb F (Y #[(U (i64.wrap (g+1)))] 3) λi F=>Ap 76 #[nE a,nE (Sb i 1)] F λh F=>qC j d b k c h R F) (qC j d b k c a R F)
def xC (p:Sl->Ω) (d:ο) (a:Sl) (i:Nat) (R:VR) (b:Sl) (c:Int) (F:PH):Prop:=Bc (c<(a.len:Int)) (Ix a c λj=>Li F (nR j (nT c*1)) λk=>Bc (k<(d.size:Int)) (Ix a c λl=>Li F (nR l (nT c*1)) λe=>0<=e/\e<(d.size:Int)/\∃(hx:nT e<d.size) (g:Int),g=((d[nT e]'hx).toNat:Int)/\Li F (Z i 1) λm=>Bc (m<=(i64.wrap g)) (Ix a c λn=>Li F (nR n (nT c*1)) λf=>0<=f/\f<(d.size:Int)/\∃(hx:nT f<d.size) (h:Int),h=((d[nT f]'hx).toNat:Int)/\Li F (Z i 2) λo=>mQ p d a i b c (decide ((i64.wrap h)<=o)) R F) (mQ p d a i b c mz R F)) (mQ p d a i b c mz R F)) (Ff b R F)
def uP (d:Sl) (j:Int) (e:ο) (a:Sl) (R:VR) (F:PH):Prop:=Ix d j λk=>Lr F 5 (nR k (nT j*5)) λl=>Nb F (Y (#[U 0,U 0,U 0,U 0,U 0]) 225) λf F=>aA F (Z f 0) 5 l λF=>Nb F (Y #[] 3) λu F=>Li F (Z f 0) λc=>Bc (c=0) (R (nE a) F) (Bc (c=1) ((∃(v:Nat->Sl->Ω) (t:Nat),v t (Sb u 0) 0 F/\∀t b g F,v t b g F-> xC (VL v t) e a f R b g F)) (Bc (c=2) (Li F (Z f 4) λh=>Li F (Z f 3) λm=>Cs 156 #[nE d,(U m),.string e,nE a] F λn F=>F.cell (Z f 4)=V (U h)/\Cs 156 #[nE d,(U h),.string e,nE n] F λo F=>R (nE o) F) (Bc (c=3) (Li F (Z f 3) λp=>Li F (Z f 4) λi=>Cs 156 #[nE d,(U p),.string e,nE a] F λq F=>F.cell (Z f 4)=V (U i)/\Cs 156 #[nE d,(U i),.string e,nE a] F λr F=>Cs 190 #[nE q,nE r] F λs F=>R (nE s) F) (Fd d e a f R F))))
theorem zU {b:Sl} {c:Int} {d:ο} {a:Sl} (h:uP b c d a R F):ν 156 #[nE b,(U c),.string d,nE a] F R:=Rx.Λ (.qa8 (.qa8 (.qa8 (.J mz [] (.qa8 (.qa8 (.qa8 (.qa8 (.T (.J mz [(10,.sl)] (.qa8 (.L [(10,.sl),(11,.int .i64)] (.qa8 (.J mz [(10,.sl)] (.J mz [(61,.bool)] .N .N) .N)))) .N) .N))))) (.qa8 (.qa8 (.J mz [(10,.sl)] (.L [(10,.sl),(12,.int .i64)] .N) .N))))))) h
def jJ (d:Int) (e:Nat) (a:Int) (R:VR) (F:PH):Prop:=Bc (a<1) (Bc (a<2) (R (.bool mY) F) (Li F (Z e 4) λf=>Bc (0<=f) (Li F (Z e 4) λg=>R (.bool (decide (g<d))) F) (R (.bool mz) F))) (Li F (Z e 3) λh=>Bc (0<=h) (Li F (Z e 3) λi=>Bc (i<d) (Bc (a<2) (R (.bool mY) F) (Li F (Z e 4) λb=>Bc (0<=b) (Li F (Z e 4) λc=>R (.bool (decide (c<d))) F) (R (.bool mz) F))) (R (.bool mz) F)) (R (.bool mz) F))
def qD (b:Int) (d:Nat) (a:Int) (R:VR) (F:PH):Prop:=Bc (a<1) (Li F (Z d 3) λe=>Bc (e≠0) (R (.bool mz) F) (Bc (a<2) (Li F (Z d 4) λf=>Bc (f≠0) (R (.bool mz) F) (jJ b d a R F)) (jJ b d a R F))) (Bc (a<2) (Li F (Z d 4) λc=>Bc (c≠0) (R (.bool mz) F) (jJ b d a R F)) (jJ b d a R F))
def QG (s:Sl) (d:Int) (R:VR) (F:PH):Prop:=Ix s d λi=>Lr F 5 (nR i (nT d*5)) λj=>Nb F (Y (#[U 0,U 0,U 0,U 0,U 0]) 225) λa F=>aA F (Z a 0) 5 j λF=>Li F (Z a 0) λk=>ν 189 #[(U k)] F λv F=>∃c,∃b,v=(.tuple #[(U c),.bool b])/\Bb ((!b)) (R (.bool mz) F) (Li F (Z a 0) λl=>Bc (l≠1) (Li F (Z a 1) λm=>Bc (m≠0) (R (.bool mz) F) (Li F (Z a 2) λn=>Bc (n≠0) (R (.bool mz) F) (Li F (Z a 1) λo=>Bc (o<0) (R (.bool mz) F) (Li F (Z a 1) λp=>Li F (Z a 2) λq=>Bc (q<p) (R (.bool mz) F) (Li F (Z a 2) λr=>Bc (255<r) (R (.bool mz) F) (qD d a c R F)))))) (Li F (Z a 1) λe=>Bc (e<0) (R (.bool mz) F) (Li F (Z a 1) λf=>Li F (Z a 2) λg=>Bc (g<f) (R (.bool mz) F) (Li F (Z a 2) λh=>Bc (255<h) (R (.bool mz) F) (qD d a c R F)))))
theorem qeh {a:Sl} {b:Int} (h:QG a b R F):ν 188 #[nE a,(U b)] F R:=Rx.Λ (.qa8 (.qa8 (.qa8 (.J mz [] .N (.J mz [] .N .N))))) h
def qE (a:Int) (b:Bool) (R:VR) (F:PH):Prop:=Bb (b) (R (.tuple #[(U 0),.bool mY]) F) (Bc (a=4) (R (.tuple #[(U 1),.bool mY]) F) (Bc (a=2) (Bc (a=2) (R (.tuple #[(U 2),.bool mY]) F) (R (.tuple #[(U 0),.bool mz]) F)) (Bc (a=3) (R (.tuple #[(U 2),.bool mY]) F) (R (.tuple #[(U 0),.bool mz]) F))))
def QH (a:Int) (R:VR) (F:PH):Prop:=Bc (a=0) (qE a (decide (a=0)) R F) (qE a (decide (a=1)) R F)
theorem qei {a:Int} (h:QH a R F):ν 189 #[(U a)] F R:=Rx.Λ (.qa8 (.T (.qa8 (.J mz [(5,.bool)] .N .N)) .N)) h
def Fh (a:Sl) (R:VR) (F:PH):Prop:=R (nE a) F
def qF (d:Sl->Ω) (_:Sl) (b:Int) (a:Sl) (_:VR) (F:PH):Prop:=d a (i64.wrap (b+1)) F
def Fj (k:Sl->Ω) (b:Sl) (R:VR) (a:Sl) (c:Int) (F:PH):Prop:=Bc (c<(b.len:Int)) (Ix b c λd=>Li F (nR d (nT c*1)) λe=>ud 155 #[nE a,(U e)] F λf F=>Bb ((!f)) (Ix b c λg=>Li F (nR g (nT c*1)) λh=>Nb F (Y #[(U h)] 3) λj F=>Ap 76 #[nE a,nE (Sb j 1)] F λi F=>qF k b c i R F) (qF k b c a R F)) (Fh a R F)
def QI (e b:Sl) (R:VR) (F:PH):Prop:=Nb F (Y #[] 3) λh F=>Ap 76 #[nE (Sb h 0),nE e] F λf F=>(∃(g:Nat->Sl->Ω) (d:Nat),g d f 0 F/\∀d a c F,g d a c F-> Fj (VL g d) b R a c F)
theorem qej {b:Sl} {a:Sl} (h:QI b a R F):ν 190 #[nE b,nE a] F R:=Rx.Λ (.qa8 (.qa8 (.J mz [(5,.sl)] (.qa8 (.L [(5,.sl),(6,.int .i64)] (.qa8 (.J mz [(5,.sl)] .N .N)))) .N))) h
section
variable {F:PH}
theorem Xl {s:Sl} {l:List Nd} (h:RdS F s 5 (dE l)) {i:Nat} {x:Nd} (g:l[i]? =V x):∃a,s.qa5=V a/\F.row (a.add (i*5)) x.arr:=by
 obtain ⟨hi,g⟩:=N6.1 g;subst g;have w:=h.nlen;obtain ⟨b,o,r,_⟩:=h.cells (by omega)
 exact ⟨_,r,h.row r (i*5) l[i].arr (by
  have:=uL l i hi
  simpa [Nd.arr,Nd.cells] using this.symm)⟩
def mR (k:Int):Int:=if k=4 then 1 else if k=2\/k=3 then 2 else 0
def ee (k:Int):Bool:=decide (0<=k/\k<=4)
theorem kF (F:PH) (k:Int):ν 189 #[U k] F λr A=>r=.tuple #[U (mR k),.bool (ee k)]/\A=F:=by
 refine qei ?_;unfold QH;have C:∀t:Bool,t=decide (k=0\/k=1)->qE k t (λr A=>r=.tuple #[U (mR k),.bool (ee k)]/\A=F) F:=λt D=>by
  unfold qE;refine ⟨λh=>⟨?_,rfl⟩,λh=> ?_⟩
  ·have:=ζ (D.symm.trans h);have w:mR k=0:=by unfold mR;rw [Υ (by omega),Υ (by omega)]
   have g:ee k=mY:=by unfold ee;simp;omega
   rw [w,g]
  ·have E:=ι (D.symm.trans h);refine ⟨λH=>⟨?_,rfl⟩,λH=>⟨λB=>⟨λ_=>⟨?_,rfl⟩,λh=>absurd B h⟩,λB=>⟨λG=>⟨?_,rfl⟩,λG=>⟨?_,rfl⟩⟩⟩⟩
   ·have w:mR k=1:=by unfold mR;rw [Χ (by omega)]
    have g:ee k=mY:=by unfold ee;simp;omega
    rw [w,g]
   ·have w:mR k=2:=by unfold mR;rw [Υ (by omega),Χ (by omega)]
    have g:ee k=mY:=by unfold ee;simp;omega
    rw [w,g]
   ·have w:mR k=2:=by unfold mR;rw [Υ (by omega),Χ (by omega)]
    have g:ee k=mY:=by unfold ee;simp;omega
    rw [w,g]
   ·have w:mR k=0:=by unfold mR;rw [Υ (by omega),Υ (by omega)]
    have g:ee k=mz:=by unfold ee;simp;omega
    rw [w,g]
 refine ⟨λh=>C _ ?_,λh=>C _ ?_⟩
 ·rw [wi];simp;omega
 ·rw [wi];simp;omega
end
def ar (k:Int):Int:=if k=4 then 1 else if k=2\/k=3 then 2 else if k=0\/k=1 then 0 else -1
def yY (i:Nat) (x:Nd):Prop:=0<=ar x.k/\(x.k=1->0<=x.lo/\x.lo<=x.hi/\x.hi<=255)/\(x.k≠1->x.lo=0/\x.hi=0)/\(ar x.k<1->x.a=0)/\(ar x.k<2->x.b=0)/\
 (1<=ar x.k->0<=x.a/\x.a<i)/\(2<=ar x.k->0<=x.b/\x.b<i)
def us (x:Nd):Φ:=if 2<=ar x.k then [x.b,x.a] else if 1<=ar x.k then [x.a] else []
def w7:List Nd->Φ
 |[]=>[]
 |x::l=>w7 l++us x
theorem jp (l:List Nd) (x:Nd):w7 (l++[x])=us x++w7 l:=by
 induction l with
 |nil=>simp [w7]
 |cons y l ih=>simp [w7,ih]
structure GoodL (l:List Nd):Prop where
 ne:l≠[]
 ok:∀i x,l[i]? =V x->yY i x
 nd:(w7 l).Nodup
 all:∀i:Nat,i+1<l.length->(i:Int)∈w7 l
open Classical in
def fE (l:List Nd):Int:=if 512<l.length then 2 else if GoodL l then 0 else 40
section
variable {F0 F:PH}
theorem Cr (k:Int):ν 204 #[U k] F λr w=>r=U (ar k)/\w=F:=by
 refine qeB ?_;unfold Qq;have B:∀t:Bool,t=decide (k=0\/k=1)->qw k t (λr w=>r=U (ar k)/\w=F) F:=λt C=>by
  unfold qw;refine ⟨λh=>⟨?_,rfl⟩,λh=> ?_⟩
  ·have:=ζ (C.symm.trans h);have g:ar k=0:=by unfold ar;rw [Υ (by omega),Υ (by omega),Χ (by omega)]
   rw [g]
  ·have D:=ι (C.symm.trans h);refine ⟨λG=>⟨?_,rfl⟩,λG=>⟨λA=>⟨λ_=>⟨?_,rfl⟩,λh=>absurd A h⟩,λA=>⟨λE=>⟨?_,rfl⟩,λE=>⟨?_,rfl⟩⟩⟩⟩
   ·have g:ar k=1:=by unfold ar;rw [Χ (by omega)]
    rw [g]
   ·have g:ar k=2:=by unfold ar;rw [Υ (by omega),Χ (by omega)]
    rw [g]
   ·have g:ar k=2:=by unfold ar;rw [Υ (by omega),Χ (by omega)]
    rw [g]
   ·have g:ar k= -1:=by unfold ar;rw [Υ (by omega),Υ (by omega),Υ (by omega)]
    rw [g]
 refine ⟨λh=>B _ ?_,λh=>B _ ?_⟩
 ·rw [wi];simp;omega
 ·rw [wi];simp;omega
def gV (n:Nat) (W:Φ):Ξ:=(List.range n).map λ(i:Nat)=>Value.bool (decide ((i:Int)∈W))
structure Usd (F0 F:PH) (b u n:Nat) (W:Φ):Prop where
 zb:F0 b=I
 zu:F0 u=I
 le:F0.le F
 ne:u≠b
 qb:F b=V (Y #[nE ⟨V ⟨u,0,I⟩,n,n⟩] 297)
 qu:F u=V (Y (gV n W).toArray 4)
theorem GG (n:Nat) (W:Φ) (i:Nat) (hi:i<n):(gV n W).toArray.setIfInBounds i (.bool mY)=(gV n ((i:Int)::W)).toArray:=by
 apply Array.ext';rw [Array.toList_setIfInBounds];apply WJ;intro j;rw [Yj];simp only [gV,ub,V4,yc];by_cases h:i=j
 ·subst h;rw [Χ rfl,Χ hi,Xz hi];simp
 ·rw [Υ h];by_cases g:j<n
  ·rw [Xz g];simp only [Vz,tD];congr 2;rw [wi];simp only [δ];constructor
   ·exact .inr
   ·rintro (e|e)
    ·omega
    ·exact e
  ·rw [VM (by simp;omega)];rfl
theorem uQ {n:Nat} {W:Φ} {i:Nat} (hi:i<n):(gV n W).toArray[i]? =V (.bool (decide ((i:Int)∈W))):=by simp [gV,hi]
theorem tf {b u n:Nat} {W:Φ} (h:Usd F0 F b u n W) (i:Int) {at_:Nat} (J:at_<=n):
  ν 203 #[U i,U at_,pa b] F λr A=>((0<=i/\i<at_/\i ∉ W)/\r=.bool mY/\Usd F0 A b u n (i::W)/\∀x,x≠u->A x=F x)\/(¬(0<=i/\i<at_/\i ∉ W)/\r=.bool mz/\A=F):=by
 refine qeA ?_;unfold Qp;refine ⟨λD=> .inr ⟨by omega,rfl,rfl⟩,λD=>⟨λG=> .inr ⟨by omega,rfl,rfl⟩,λG=> ?_⟩⟩;obtain ⟨k,rfl⟩:=Xw (by omega:0<=i);have w:k<n:=by omega
 have E:F.cell ((ou u 0 I).add (nT (k:Int)*1))=V (.bool (decide ((k:Int)∈W))):=by rw [N4,xB,show (ou u 0 I).add k=⟨u,k,I⟩ by simp [nR];omega,av h.qu];exact uQ w
 have B:F.cell ⟨b,0,I⟩=V (nE ⟨V ⟨u,0,I⟩,n,n⟩):=by rw [av h.qb];rfl
 refine ⟨_,rfl,_,B,_,rfl,by omega,by simp only;omega,_,E,λg=> .inr ⟨λC=>C.2.2 (ζ g),rfl,rfl⟩,λg=>⟨_,B,_,rfl,by omega,by simp only;omega,?_⟩⟩;have g:=ι g;refine tG (b:=u) (o:=k) (by rw [N4,xB];simp [nR];omega) h.qu (by simp [gV];exact w) ?_;refine .inl ⟨⟨by omega,by omega,g⟩,rfl,⟨h.zb,h.zu,aB h.le h.zu,h.ne,?_,?_⟩,λx H=>aw _ _ H⟩
 ·rw [aw _ _ h.ne.symm];exact h.qb
 ·show (F.set u (Y ((gV n W).toArray.setIfInBounds k (.bool mY)) 4)) u=_;rw [GG n W k w];exact aq _ _ _
theorem Kv {s:Sl} {b u n E j:Nat} {W:Φ} {x:Nd} {ok:Bool} {N:Ω} {R:ξ->Ψ} (h:Usd F0 F b u n W) (q6:F E=V (Y x.arr 225)) (X:j<=n) (hu:u≠E)
  (bad:¬(ok=mY/\(ar x.k<1->x.a=0)/\(ar x.k<2->x.b=0)/\(1<=ar x.k->0<=x.a/\x.a<j/\x.a ∉ W)/\(2<=ar x.k->0<=x.b/\x.b<j/\x.b ∉ x.a::W))->∀B,F0.le B->R (U 40) B)
  (A:(ok=mY/\(ar x.k<1->x.a=0)/\(ar x.k<2->x.b=0)/\(1<=ar x.k->0<=x.a/\x.a<j/\x.a ∉ W)/\(2<=ar x.k->0<=x.b/\x.b<j/\x.b ∉ x.a::W))->∀B,Usd F0 B b u n (us x++W)->N (i64.wrap ((j:Int)+1)) B):
  fD N s b j E (ar x.k) ok R F:=by
 have Q:∀{B:PH},B E=V (Y x.arr 225)->B.cell (ou E 3 I)=V (U x.a):=λh=>by rw [av h];rfl
 have cB:∀{B:PH},B E=V (Y x.arr 225)->B.cell (ou E 4 I)=V (U x.b):=λh=>by rw [av h];rfl
 unfold fD;refine ⟨λM=>bad (λg=>by rw [g.1] at M;cases M) _ h.le,λM=> ?_⟩;have G:ok=mY:=by simpa using M
 refine ⟨λh1=>⟨_,Q q6,λha=>bad (λg=>ha (g.2.1 h1)) _ h.le,λha=>⟨λJ=>⟨_,cB q6,λK=>bad (λg=>K (g.2.2.1 J)) _ h.le,λK=>⟨λw=>absurd w (by omega),λw=>⟨λr=>absurd r (by omega),λr=> ?_⟩⟩⟩,λJ=>absurd J (by omega)⟩⟩,
  λh1=>⟨λJ=>⟨_,cB q6,λK=>bad (λg=>K (g.2.2.1 J)) _ h.le,λK=>⟨λw=>⟨_,Q q6,?_⟩,λw=>absurd w (by omega)⟩⟩,λJ=>⟨λw=>⟨_,Q q6,?_⟩,λw=>absurd w (by omega)⟩⟩⟩
 ·unfold cg;refine A ⟨G,λ_=>by omega,λ_=>by omega,λh=>by omega,λh=>by omega⟩ _ ?_;have:us x=[]:=by unfold us;rw [Υ r,Υ w]
  rw [this];exact h
 ·refine (tf h x.a X).mono ?_;rintro _ F2 (⟨g,rfl,D,L⟩|⟨g,rfl,rfl⟩)
  ·refine ⟨_,rfl,λh=>by simp at h,λ_=>⟨λr=>absurd r (by omega),λr=> ?_⟩⟩;unfold cg;refine A ⟨G,λ_=>by omega,λ_=>by omega,λ_=>g,λh=>by omega⟩ _ ?_;have:us x=[x.a]:=by unfold us;rw [Υ r,Χ w]
   rw [this];exact D
  ·exact ⟨_,rfl,λ_=>bad (λC=>g (C.2.2.2.1 w)) _ h.le,λh=>by simp at h⟩
 ·refine (tf h x.a X).mono ?_;rintro _ F2 (⟨g,rfl,D,L⟩|⟨g,rfl,rfl⟩)
  ·have O:F2 E=V (Y x.arr 225):=(L _ hu.symm).trans q6;refine ⟨_,rfl,λh=>by simp at h,λ_=>⟨λr=>⟨_,cB O,?_⟩,λr=>absurd r (by omega)⟩⟩;refine (tf D x.b X).mono ?_;rintro _ F3 (⟨H,rfl,P,a0⟩|⟨H,rfl,rfl⟩)
   ·refine ⟨_,rfl,λh=>by simp at h,λ_=> ?_⟩;unfold cg;refine A ⟨G,λ_=>by omega,λ_=>by omega,λ_=>g,λ_=>H⟩ _ ?_;have:us x=[x.b,x.a]:=by unfold us;rw [Χ r]
    rw [this];exact P
   ·exact ⟨_,rfl,λ_=>bad (λC=>H (C.2.2.2.2 r)) _ D.le,λh=>by simp at h⟩
  ·exact ⟨_,rfl,λ_=>bad (λC=>g (C.2.2.2.1 w)) _ h.le,λh=>by simp at h⟩
end
theorem aax:vA prog 4=V (1,1):=by kernel_rfl
theorem aay:bu prog 4=V (.bool mz):=by kernel_rfl
structure GoodTo (l:List Nd) (j:Nat):Prop where
 ok:∀i x,i<j->l[i]? =V x->yY i x
 nd:(w7 (l.take j)).Nodup
theorem GoodTo.zero (l:List Nd):GoodTo l 0:=⟨λi x h=>by omega,by simp [w7]⟩
theorem zV {j:Nat} {x:Nd} {W:Φ}:(yY j x/\(us x++W).Nodup)↔W.Nodup/\(0<=ar x.k/\(x.k=1->0<=x.lo/\x.lo<=x.hi/\x.hi<=255)/\(x.k≠1->x.lo=0/\x.hi=0))/\
  (ar x.k<1->x.a=0)/\(ar x.k<2->x.b=0)/\(1<=ar x.k->0<=x.a/\x.a<j/\x.a ∉ W)/\(2<=ar x.k->0<=x.b/\x.b<j/\x.b ∉ x.a::W):=by
 unfold yY us;by_cases E:2<=ar x.k
 ·rw [Χ E];simp only [zK,zE,WT,tD,not_or];constructor
  ·rintro ⟨⟨D,B,A,C,r,g,w⟩,⟨n1,n2⟩,n3,n4⟩;exact ⟨n4,⟨D,B,A⟩,C,r,λh=>⟨(g h).1,(g h).2,n3⟩,λh=>⟨(w h).1,(w h).2,n1,n2⟩⟩
  ·rintro ⟨n4,⟨D,B,A⟩,C,r,g,w⟩;exact ⟨⟨D,B,A,C,r,λh=>⟨(g h).1,(g h).2.1⟩,λh=>⟨(w h).1,(w h).2.1⟩⟩,⟨(w E).2.2.1,(w E).2.2.2⟩,(g (by omega)).2.2,n4⟩
 ·rw [Υ E];by_cases G:1<=ar x.k
  ·rw [Χ G];simp only [zK,zE,WT];constructor
   ·rintro ⟨⟨D,B,A,C,r,g,w⟩,n3,n4⟩;exact ⟨n4,⟨D,B,A⟩,C,r,λh=>⟨(g h).1,(g h).2,n3⟩,λh=>absurd h E⟩
   ·rintro ⟨n4,⟨D,B,A⟩,C,r,g,w⟩;exact ⟨⟨D,B,A,C,r,λh=>⟨(g h).1,(g h).2.1⟩,λh=>absurd h E⟩,(g G).2.2,n4⟩
  ·rw [Υ G];simp only [zE];constructor
   ·rintro ⟨⟨D,B,A,C,r,g,w⟩,n4⟩;exact ⟨n4,⟨D,B,A⟩,C,r,λh=>absurd h G,λh=>absurd h E⟩
   ·rintro ⟨n4,⟨D,B,A⟩,C,r,g,w⟩;exact ⟨⟨D,B,A,C,r,λh=>absurd h G,λh=>absurd h E⟩,n4⟩
theorem GoodTo.succ {l:List Nd} {j:Nat} {x:Nd} (A:l[j]? =V x):GoodTo l (j+1)↔GoodTo l j/\yY j x/\(us x++w7 (l.take j)).Nodup:=by
 have e:l.take (j+1)=l.take j++[x]:=by rw [Wv,A];rfl
 constructor
 ·rintro ⟨r,h⟩;rw [e,jp] at h;exact ⟨⟨λi y hi g=>r i y (by omega) g,(Vw.1 h).2.1⟩,r j x (by omega) A,h⟩
 ·rintro ⟨⟨r,h⟩,B,C⟩;refine ⟨λi y hi g=> ?_,by rw [e,jp];exact C⟩;by_cases w:i=j
  ·subst w;rw [A] at g;cases g;exact B
  ·exact r i y (by omega) g
theorem ZS (l:List Nd):GoodL l↔GoodTo l l.length/\(∀i:Nat,i+1<l.length->(i:Int)∈w7 l)/\l≠[]:=by
 constructor
 ·rintro ⟨A,w,g,r⟩;exact ⟨⟨λi x _ h=>w i x h,by rw [wy];exact g⟩,r,A⟩
 ·rintro ⟨⟨w,g⟩,r,A⟩;rw [wy] at g;exact ⟨A,λi x h=>w i x (by have:=(N6.1 h).1;omega) h,g,r⟩
theorem zW {l:List Nd} (g:l.length<=512) (h:¬GoodL l):fE l=40:=by unfold fE;rw [Υ (by omega),Υ h]
theorem uR {l:List Nd} (g:l.length<=512) (h:GoodL l):fE l=0:=by unfold fE;rw [Υ (by omega),Χ h]
section
variable {F:PH}
theorem oR {s:Sl} {l:List Nd} (hs:RdS F s 5 (dE l)):ν 172 #[s.v] F λr A=>r=U (fE l)/\F.le A:=by
 have w:=hs.nlen;refine qey ?_;unfold Qn;refine ⟨λh=>⟨?_,au F⟩,λh=> ?_⟩
 ·have e:fE l=2:=by unfold fE;rw [Χ (by omega)]
  rw [e]
 have hl:l.length<=512:=by omega
 refine bT underlying297 aax aay rfl (by omega) (Va _) (by omega) (by omega) ?_;intro u hu;rw [ZR _ rfl,N4,w];have em:(List.replicate l.length (Value.bool mz)).toArray=(gV l.length []).toArray:=by
  congr 1;apply WJ;intro j;by_cases hj:j<l.length
  ·simp [gV,hj]
  ·rw [VM (by simp;omega),VM (by simp [gV];omega)]
 rw [em];refine ⟨_,rfl,λD M=> ?_⟩;refine tR ?_;have K:u≠D:=λe=>by rw [e,aq] at M;cases M
 have H:F D=I:=by rwa [aw _ _ K.symm] at M
 refine Wp (aq _ _ _) (by simp) ?_;rw [aR];have hU:Usd F ((F.set u (Y (gV l.length []).toArray 4)).set D (Y #[nE ⟨V ⟨u,0,I⟩,l.length,l.length⟩] 297)) D u l.length []:=
  ⟨H,hu,aB (ae _ hu) H,K,aq _ _ _,by rw [aw _ _ K];exact aq _ _ _⟩
 show ∃(I2:Nat->Ω) (m2:Nat),_;have e0:(#[Value.slice I 0 0]:Γ).setIfInBounds 0 (nE ⟨V ⟨u,0,I⟩,l.length,l.length⟩)= #[nE ⟨V ⟨u,0,I⟩,l.length,l.length⟩]:=rfl;rw [e0];generalize (F.set u (Y (gV l.length []).toArray 4)).set D (Y #[nE ⟨V ⟨u,0,I⟩,l.length,l.length⟩] 297)=F1 at*;have bad:∀{A:PH},¬GoodL l->F.le A->U 40=U (fE l)/\F.le A:=λh N=>⟨by rw [zW hl h],N⟩;refine ⟨λm i A=>∃j:Nat,i=j/\j<=l.length/\m=l.length - j/\GoodTo l j/\Usd F A D u l.length (w7 (l.take j)),l.length,⟨0,rfl,by omega,rfl,GoodTo.zero l,by simpa [w7] using hU⟩,?_⟩;rintro _ _ F2 ⟨j,rfl,hj,rfl,hg,g⟩;unfold EP;refine ⟨λa6=> ?_,λa5=> ?_⟩
 ·have B:j<l.length:=by omega
  have hx:l[j]? =V l[j]:=N5 B;generalize l[j]=x at hx;obtain ⟨a,ha,a2⟩:=Xl (hs.le g.le) hx;refine ⟨a,ha,by omega,by omega,x.arr,rfl,a2,λG L=> ?_⟩;refine tR ?_;refine Ud (aq _ _ _) rfl rfl (gm x) ?_;rw [aR];have W:u≠G:=aH L g.qu;have a7:Usd F (F2.set G (Y x.arr 225)) D u l.length (w7 (l.take j)):=⟨g.zb,g.zu,aB g.le (aT g.le L),g.ne,by rw [aw _ _ (aH L g.qb)];exact g.qb,by rw [aw _ _ W];exact g.qu⟩;have q6:=aq F2 G (Y x.arr 225);generalize F2.set G (Y x.arr 225)=X at*;have P:∀ok:Bool,(ok=mY↔(0<=ar x.k/\(x.k=1->0<=x.lo/\x.lo<=x.hi/\x.hi<=255)/\(x.k≠1->x.lo=0/\x.hi=0)))->
    fD (λa4 F=>∃m',m'<l.length - j/\∃j:Nat,a4=j/\j<=l.length/\m'=l.length - j/\GoodTo l j/\Usd _ F D u l.length (w7 (l.take j))) s D j G (ar x.k) ok (λr A=>r=U (fE l)/\PH.le _ A) X:=λok a3=>by
   refine Kv a7 q6 (by omega) W (λhn A N=>bad (λQ=>hn ?_) N) λhy A a8=> ?_
   ·obtain ⟨hgt,_,_⟩:=(ZS l).1 Q
    have C:GoodTo l (j+1):=⟨λi y hi hy=>hgt.ok i y (by omega) hy,by
     have:=hgt.nd;rw [wy] at this;have e:w7 l=w7 (l.drop (j+1))++w7 (l.take (j+1))\/True:=.inr trivial;have a0:∀(p q:List Nd),w7 (p++q)=w7 q++w7 p:=by
      intro p q;induction p with
      |nil=>simp [w7]
      |cons y p ih=>simp [w7,ih]
     rw [<- WI (j+1) l,a0] at this
     exact (Vw.1 this).2.1⟩
    obtain ⟨_,J⟩:=(GoodTo.succ hx).1 C;obtain ⟨h4,h5,h6⟩:=zV.1 J;exact ⟨a3.2 h5,h6⟩
   ·refine ⟨l.length - (j+1),by omega,j+1,ff (by omega),B,rfl,?_,?_⟩
    ·exact (GoodTo.succ hx).2 ⟨hg,zV.2 ⟨hg.nd,a3.1 hy.1,hy.2⟩⟩
    ·rw [Wv,hx];show Usd F A D u l.length (w7 (l.take j++[x]));rw [jp];exact a8
  have c0:X.cell (ou G 0 I)=V (U x.k):=by rw [av q6];rfl
  have c1:X.cell (ou G 1 I)=V (U x.lo):=by rw [av q6];rfl
  have c2:X.cell (ou G 2 I)=V (U x.hi):=by rw [av q6];rfl
  have a1:x.k=1->ar x.k=0:=λh=>by unfold ar;rw [Υ (by omega),Υ (by omega),Χ (by omega)]
  refine ⟨_,c0,?_⟩;refine (Cr _).mono ?_;rintro _ b1 ⟨rfl,e⟩;obtain rfl:=e.symm;refine ⟨_,rfl,_,c0,λC=>⟨_,c1,λO=>⟨_,c1,_,c2,λJ=>⟨_,c2,P _ ?_⟩,λJ=>P _ ?_⟩,λO=>P _ ?_⟩,λC=>⟨_,c1,λO=>P _ ?_,λO=>⟨_,c2,λJ=>P _ ?_,λJ=>P _ ?_⟩⟩⟩
  ·have:=a1 C;rw [δ];exact ⟨λh=>⟨by omega,λ_=>⟨O,J,h⟩,λh=>absurd C h⟩,λh=>(h.2.1 C).2.2⟩
  ·exact ⟨λh=>(by cases h),λh=>absurd (h.2.1 C).2.1 J⟩
  ·exact ⟨λh=>(by cases h),λh=>absurd (h.2.1 C).1 O⟩
  ·exact ⟨λh=>(by cases h),λh=>absurd (h.2.2 C).1 O⟩
  ·exact ⟨λh=>(by cases h),λh=>absurd (h.2.2 C).2 J⟩
  ·rw [δ];exact ⟨λh=>⟨h,λh=>absurd h C,λ_=>⟨by omega,by omega⟩⟩,λh=>h.1⟩
 ·obtain rfl:j=l.length:=by omega
  rw [wy] at g;unfold EO;have ew:i64.wrap ((s.len:Int) - 1)=(l.length:Int) - 1:=by rw [w,aJ (by omega)]
  refine ⟨λm i A=>∃j:Nat,i=j/\j<=l.length/\m=l.length - j/\A=F2/\∀i:Nat,i<j->(i:Int)∈w7 l,l.length,⟨0,rfl,by omega,rfl,rfl,λi hi=>by omega⟩,?_⟩;rintro _ _ X ⟨j,rfl,b0,rfl,e3,E⟩;obtain rfl:=e3.symm;unfold EN;rw [ew];refine ⟨λa6=> ?_,λa5=> ?_⟩
  ·have B:j<l.length:=by omega
   have hr:F2.cell ((ou u 0 I).add (nT (j:Int)*1))=V (.bool (decide ((j:Int)∈w7 l))):=by rw [N4,xB,show (ou u 0 I).add j=⟨u,j,I⟩ by simp [nR];omega,av g.qu];exact uQ B
   refine ⟨_,by rw [av g.qb];rfl,_,rfl,by omega,by simp only;omega,_,hr,λhm=>bad (λQ=> ?_) g.le,λhm=>⟨l.length - (j+1),by omega,j+1,ff (by omega),B,rfl,rfl,λi hi=> ?_⟩⟩
   ·have:=Q.all j (by omega);simp [this] at hm
   ·by_cases a9:i=j
    ·subst a9;simpa using hm
    ·exact E i (by omega)
  ·unfold EM;refine ⟨λh0=>bad (λQ=>Q.ne (XY.1 (by omega))) g.le,λh0=>⟨?_,g.le⟩⟩;rw [uR hl ((ZS l).2 ⟨hg,λi hi=>E i (by omega),λe=>by rw [e] at w;simp at w;omega⟩)]
end
def Par (l:List Nd) (j k:Nat):Prop:=∃x,l[k]? =V x/\(j:Int)∈us x
inductive Up (l:List Nd):Nat->Nat->Prop where
 |refl (j:Nat):Up l j j
 |step {j k m:Nat}:Up l j k->Par l k m->Up l j m
inductive cQ (l:List Nd):Nat->Lt->Δ->Prop where
 |emp {i:Nat} {x:Nd}:l[i]? =V x->x.k=0->cQ l i .emp [i]
 |rng {i lo hi:Nat} {x:Nd}:l[i]? =V x->x.k=1->x.lo=lo->x.hi=hi->lo<=hi->hi<=255->cQ l i (.rng i lo hi) [i]
 |seq {i a b:Nat} {x:Nd} {t u:Lt} {na nb:Δ}:l[i]? =V x->x.k=2->x.a=a->x.b=b->cQ l a t na->cQ l b u nb->cQ l i (.seq t u) (i::na++nb)
 |alt {i a b:Nat} {x:Nd} {t u:Lt} {na nb:Δ}:l[i]? =V x->x.k=3->x.a=a->x.b=b->cQ l a t na->cQ l b u nb->cQ l i (.alt t u) (i::na++nb)
 |rep {i a:Nat} {x:Nd} {t:Lt} {na:Δ}:l[i]? =V x->x.k=4->x.a=a->cQ l a t na->cQ l i (.rep t) (i::na)
theorem iE {x:Nd} (h:x.k=2\/x.k=3):us x=[x.b,x.a]:=by
 have:ar x.k=2:=by unfold ar;rw [Υ (by omega),Χ h]
 unfold us;rw [this];rfl
theorem Kw {x:Nd} (h:x.k=4):us x=[x.a]:=by
 have:ar x.k=1:=by unfold ar;rw [Χ h]
 unfold us;rw [this];rfl
theorem ti {k:Int} (h:0<=ar k):k=0\/k=1\/k=2\/k=3\/k=4:=by
 unfold ar at h;split at h
 ·omega
 ·split at h
  ·omega
  ·split at h<;>omega
theorem xE {k:Int} (h:k=2\/k=3):ar k=2:=by unfold ar;rw [Υ (by omega),Χ h]
theorem Kx {k:Int} (h:k=4):ar k=1:=by unfold ar;rw [Χ h]
theorem Fk {k:Int} (h:k=0\/k=1):ar k=0:=by unfold ar;rw [Υ (by omega),Υ (by omega),Χ h]
section
variable {l:List Nd} (hG:GoodL l)
include hG
theorem Fl:∀(n i:Nat),i<n->i<l.length->∃t ns,cQ l i t ns:=by
 intro n;induction n with
 |zero=>intro i h;omega
 |succ n ih=>
  intro i hi N;have r:=N5 N;have G:=hG.ok i _ r;generalize l[i]=x at r G;obtain ⟨J,K,O,Q,P,A,D⟩:=G;rcases ti J with g|g|g|g|g
  ·exact ⟨_,_,.emp r g⟩
  ·obtain ⟨a,b,c⟩:=K g;exact ⟨_,_,.rng (lo:=x.lo.toNat) (hi:=x.hi.toNat) r g (by omega) (by omega) (by omega) (by omega)⟩
  ·have e:=xE (k:=x.k) (.inl g);obtain ⟨C,H⟩:=A (by omega);obtain ⟨L,M⟩:=D (by omega);obtain ⟨t,E,w⟩:=ih x.a.toNat (by omega) (by omega);obtain ⟨u,nb,B⟩:=ih x.b.toNat (by omega) (by omega);exact ⟨_,_,.seq r g (by omega) (by omega) w B⟩
  ·have e:=xE (k:=x.k) (.inr g);obtain ⟨C,H⟩:=A (by omega);obtain ⟨L,M⟩:=D (by omega);obtain ⟨t,E,w⟩:=ih x.a.toNat (by omega) (by omega);obtain ⟨u,nb,B⟩:=ih x.b.toNat (by omega) (by omega);exact ⟨_,_,.alt r g (by omega) (by omega) w B⟩
  ·have e:=Kx (k:=x.k) g;obtain ⟨C,H⟩:=A (by omega);obtain ⟨t,E,w⟩:=ih x.a.toNat (by omega) (by omega);exact ⟨_,_,.rep r g (by omega) w⟩
theorem Par.lt {j k:Nat} (h:Par l j k):j<k/\k<l.length:=by
 obtain ⟨x,A,r⟩:=h;have D:=(N6.1 A).1;obtain ⟨C,G,E,H,J,w,B⟩:=hG.ok k x A;rcases ti C with g|g|g|g|g
 ·have e:=Fk (k:=x.k) (.inl g);unfold us at r;rw [e] at r;simp at r
 ·have e:=Fk (k:=x.k) (.inr g);unfold us at r;rw [e] at r;simp at r
 ·have e:=xE (k:=x.k) (.inl g);rw [iE (.inl g)] at r;have:=w (by omega);have:=B (by omega);simp at r;omega
 ·have e:=xE (k:=x.k) (.inr g);rw [iE (.inr g)] at r;have:=w (by omega);have:=B (by omega);simp at r;omega
 ·have e:=Kx (k:=x.k) g;rw [Kw g] at r;have:=w (by omega);simp at r;omega
omit hG in
theorem xF {j:Int}:∀(l:List Nd) {k:Nat} {x:Nd},l[k]? =V x->j∈us x->j∈w7 l
 |y::l,0,x,h,hm=>by simp at h;subst h;simp [w7,hm]
 |y::l,k+1,x,h,hm=>by simp at h;simp only [w7,vd];exact .inl (xF l h hm)
omit hG in
theorem zX {j:Int}:∀(l:List Nd),(w7 l).Nodup->∀{k m:Nat} {x y:Nd},l[k]? =V x->l[m]? =V y->j∈us x->j∈us y->k=m
 |z::l,hn,0,0,x,y,h1,h2,h3,h4=>rfl
 |z::l,hn,0,m+1,x,y,h1,h2,h3,h4=>by simp at h1 h2;subst h1;rw [w7] at hn;exact absurd rfl ((Vw.1 hn).2.2 j (xF l h2 h4) j h3)
 |z::l,hn,k+1,0,x,y,h1,h2,h3,h4=>by simp at h1 h2;subst h2;rw [w7] at hn;exact absurd rfl ((Vw.1 hn).2.2 j (xF l h1 h3) j h4)
 |z::l,hn,k+1,m+1,x,y,h1,h2,h3,h4=>by simp at h1 h2;rw [w7] at hn;rw [zX l (Vw.1 hn).1 h1 h2 h3 h4]
theorem Par.uniq {j k m:Nat} (A:Par l j k) (h:Par l j m):k=m:=by obtain ⟨x,B,r⟩:=A;obtain ⟨y,w,g⟩:=h;exact zX l hG.nd B w r g
omit hG in
theorem Up.head {j m:Nat} (h:Up l j m):j=m\/∃k,Par l j k/\Up l k m:=by
 induction h with
 |refl=>exact .inl rfl
 | @step k m h g ih=>
  rcases ih with rfl|⟨c,r,w⟩
  ·exact .inr ⟨m,g,.refl m⟩
  ·exact .inr ⟨c,r,w.step g⟩
theorem Up.le {j m:Nat} (h:Up l j m):j<=m:=by
 induction h with
 |refl=>exact qX _
 |step _ g ih=>have:=g.lt hG;omega
theorem Up.chain {j a b:Nat} (C:Up l j a) (B:Up l j b):Up l a b\/Up l b a:=by
 induction C with
 |refl=>exact .inl B
 | @step k m h g ih=>
  rcases ih with r|r
  ·rcases r.head with rfl|⟨c,A,w⟩
   ·exact .inr ((Up.refl k).step g)
   ·rw [A.uniq hG g] at w;exact .inl w
  ·exact .inr (r.step g)
omit hG in
theorem qG {i:Nat} {t:Lt} {ns:Δ} (h:cQ l i t ns):∀j∈ns,Up l j i:=by
 induction h with
 | @emp i x w r=>intro j g;simp at g;subst g;exact .refl _
 | @rng i lo hi x w r _ _ _ _=>intro j g;simp at g;subst g;exact .refl _
 | @seq i a b x t u E nb w r B D G H A C=>
  intro j g;simp only [zK,tD,vd] at g;rcases g with rfl|g|g
  ·exact .refl _
  ·exact (A j g).step ⟨x,w,by rw [iE (.inl r),B];simp⟩
  ·exact (C j g).step ⟨x,w,by rw [iE (.inl r),D];simp⟩
 | @alt i a b x t u E nb w r B D G H A C=>
  intro j g;simp only [zK,tD,vd] at g;rcases g with rfl|g|g
  ·exact .refl _
  ·exact (A j g).step ⟨x,w,by rw [iE (.inr r),B];simp⟩
  ·exact (C j g).step ⟨x,w,by rw [iE (.inr r),D];simp⟩
 | @rep i a x t E w r B G A=>
  intro j g;simp only [tD] at g;rcases g with rfl|g
  ·exact .refl _
  ·exact (A j g).step ⟨x,w,by rw [Kw r,B];simp⟩
theorem qek {i a b:Nat} {x:Nd} (C:l[i]? =V x) (w:x.k=2\/x.k=3) (B:x.a=a) (A:x.b=b):a≠b:=by
 intro e;have g:=hG.nd;have r:∀(l:List Nd) (i:Nat),l[i]? =V x->(w7 l).Nodup->(us x).Nodup:=by
  intro l;induction l with
  |nil=>intro i h;simp at h
  |cons y l ih=>
   intro i h g;rw [w7] at g;cases i with
   |zero=>simp at h;subst h;exact (Vw.1 g).2.1
   |succ i=>simp at h;exact ih i h (Vw.1 g).1
 have:=r l i C g;rw [iE w,B,A,e] at this;simp at this
theorem QJ {i a b j:Nat} {x:Nd} (B:l[i]? =V x) (w:x.k=2\/x.k=3) (E:x.a=a) (D:x.b=b) (H:Up l j a) (G:Up l j b):False:=by
 have pa:Par l a i:=⟨x,B,by rw [iE w,E];simp⟩;have C:Par l b i:=⟨x,B,by rw [iE w,D];simp⟩;have r:=qek hG B w E D;rcases H.chain hG G with h|h
 ·rcases h.head with e|⟨c,A,g⟩
  ·exact r e
  ·rw [A.uniq hG pa] at g;have:=g.le hG;have:=C.lt hG;omega
 ·rcases h.head with e|⟨c,A,g⟩
  ·exact r e.symm
  ·rw [A.uniq hG C] at g;have:=g.le hG;have:=pa.lt hG;omega
end
section
variable {F:PH}
open Classical in
def bO (l:List Nd):Lt:=if h:GoodL l then (Fl h (l.length) (l.length - 1) (by have:=Yg.2 h.ne;omega) (by have:=Yg.2 h.ne;omega)).choose else .emp
theorem iF {l:List Nd} (h:GoodL l):∃ns,cQ l (l.length - 1) (bO l) ns:=by unfold bO;rw [dif_pos h];exact (Fl h (l.length) (l.length - 1) (by have:=Yg.2 h.ne;omega) (by have:=Yg.2 h.ne;omega)).choose_spec
theorem uS {l:List Nd} (h:fE l=0):GoodL l/\l.length<=512:=by
 unfold fE at h;split at h
 ·omega
 ·split at h
  ·rename_i g;exact ⟨g,by omega⟩
  ·omega
end
structure Lo (G F:PH) (xs:List (Nat×Γ×TypeId)):Prop where
 le:G.le F
 z:∀p∈xs,F p.1=V (Y p.2.1 p.2.2)/\G p.1=I
 nd:(xs.map (·.1)).Nodup
theorem Lo.start (F:PH):Lo F F []:=⟨au F,λp g=>(by cases g),List.nodup_nil⟩
section
variable {F G:PH} {xs:List (Nat×Γ×TypeId)}
theorem Lo.get (h:Lo G F xs) {b:Nat} {w:Γ} {e:TypeId} (g:(b,w,e)∈xs):F b=V (Y w e):=(h.z _ g).1
theorem Lo.row (h:Lo G F xs) {b:Nat} {w:Γ} {e:TypeId} (g:(b,w,e)∈xs):F.row (ou b 0 I) w:=ai (h.z _ g).1
theorem Lo.cell (h:Lo G F xs) {b i:Nat} {w:Γ} {e:TypeId} (g:(b,w,e)∈xs):F.cell (ou b i I)=w[i]? :=av (h.z _ g).1
theorem Lo.ro (h:Lo G F xs) (i:Nat) {b:Nat} {w:Γ} {e:TypeId} (hi:xs[i]? =V (b,w,e)):F.row (ou b 0 I) w:=h.row (vQ hi)
theorem Lo.cl (h:Lo G F xs) (i:Nat) {b k:Nat} {w:Γ} {e:TypeId} {v:ξ} (hi:xs[i]? =V (b,w,e)) (g:w[k]? =V v):F.cell (ou b k I)=V v:=(h.cell (vQ hi)).trans g
theorem Lo.call {f:FuncId} {args:Γ} {P:ξ->Ψ} (h:Lo G F xs) (s:aj prog f args G P):aj prog f args F λr A=>∃g,P r g/\Lo g A xs:=
 (s.upon h.le).mono λr A ⟨g,w,C,B⟩=>⟨g,w,C,λp w=>by
  obtain ⟨a,b⟩:=h.z p w
  exact B _ _ b a,h.nd⟩
theorem Lo.new (h:Lo G F xs) (c:Γ) (e:TypeId) {K:Nat->Ψ} (k:∀b A,Lo G A ((b,c,e)::xs)->K b A):∀b,F b=I->xG (F.set b (Y c e)) (K b):=by
 intro b w;refine tR ?_;have r:∀p∈xs,p.1≠b:=λp g=>aH w (h.z p g).1;refine k b _ ⟨aa h.le (ae _ w),λp g=> ?_,?_⟩
 ·rcases tD.1 g with rfl|g
  ·exact ⟨aq _ _ _,aT h.le w⟩
  ·obtain ⟨a,c⟩:=h.z p g;exact ⟨(aw _ _ (r p g)).trans a,c⟩
 ·rw [xw,WT];refine ⟨λB=> ?_,h.nd⟩;obtain ⟨p,g,e⟩:=w9.1 B;exact r p g e
theorem Lo.upd (D B:List (Nat×Γ×TypeId)) {b:Nat} {w0 w:Γ} {e:TypeId} (h:Lo G F (D++(b,w0,e)::B)) {C:PH} (K:C b=V (Y w e)) (J:dk (λx=>x=b) F C):Lo G C (D++(b,w,e)::B):=by
 obtain ⟨q,g⟩:=h.z (b,w0,e) (by simp);have nd:=h.nd;rw [yT,xw] at nd;have H:∀p,p∈D\/p∈B->p.1≠b:=λp r e=>by
  obtain ⟨_,n2,n3⟩:=Vw.1 nd;rcases r with r|r
  ·exact n3 p.1 (w9.2 ⟨p,r,rfl⟩) b (by simp) e
  ·exact (WT.1 n2).1 (w9.2 ⟨p,r,e⟩)
 have A:∀p,p∈D\/p∈B->C p.1=V (Y p.2.1 p.2.2)/\G p.1=I:=λp r=>by obtain ⟨a,c⟩:=h.z p (by simp only [vd,tD];rcases r with r|r<;>simp [r]);exact ⟨J _ _ a (H p r),c⟩
 refine ⟨λx o E=>J x o (h.le x o E) λe=>(by rw [e] at E;rw [g] at E;cases E),λp r=> ?_,by rw [yT,xw];exact nd⟩;rcases vd.1 r with r|r
 ·exact A p (.inl r)
 ·rcases tD.1 r with rfl|r
  ·exact ⟨K,g⟩
  ·exact A p (.inr r)
theorem Lo.put (A r:List (Nat×Γ×TypeId)) {b n:Nat} {w0 w:Γ} {e:TypeId} (h:Lo G F (A++(b,w0,e)::r)) (E:w.size=n) (D:w0.size=n) (B:∀v∈w.toList,ak v)
  {K:Ψ} (k:∀C,Lo G C (A++(b,w,e)::r)->K C):
  w.size=n/\(∀v∈w.toList,ak v)/\∃c e,F (ou b 0 I).block=V (Y c e (0,0))/\(ou b 0 I).spot=I/\(ou b 0 I).off+n<=c.size/\
   xG (F.set (ou b 0 I).block (Y (wr c (ou b 0 I).off w.toList) e)) K:=by
 obtain ⟨q,g⟩:=h.z (b,w0,e) (by simp);refine Ud q E D B (k _ (h.upd A r (aq _ _ _) (dk.set _ (.inl rfl))))
theorem Lo.put1 (A r:List (Nat×Γ×TypeId)) {b i:Nat} {w0 w:Γ} {v:ξ} {e:TypeId} (h:Lo G F (A++(b,w0,e)::r)) (C:i<w0.size) (D:w0.setIfInBounds i v=w)
  {K:Ψ} (k:∀B,Lo G B (A++(b,w,e)::r)->K B):
  ∃c e,F (ou b i I).block=V (Y c e (0,0))/\(ou b i I).spot=I/\(ou b i I).off<c.size/\
   xG (F.set (ou b i I).block (Y (c.setIfInBounds (ou b i I).off v) e)) K:=by
 obtain ⟨q,g⟩:=h.z (b,w0,e) (by simp);subst D;exact Wp (o:=i) q C (k _ (h.upd A r (aq _ _ _) (dk.set _ (.inl rfl))))
theorem Lo.join (A w:List (Nat×Γ×TypeId)) {b:Nat} {P Q:Nat->Bool} (h:Lo G F (A++(b,pm P,302)::w)):
  ν 235 #[pa b,.agg (pm Q)] F λr B=>r=.tuple #[]/\Lo G B (A++(b,pm (λi=>P i || Q i),302)::w):=by
 obtain ⟨q,g⟩:=h.z (b,pm P,302) (by simp);refine (uN (Q:=Q) (kj.own.2 q)).mono ?_;rintro _ B ⟨rfl,D,C⟩;exact ⟨rfl,h.upd A w (kj.own.1 D) C⟩
theorem Lo.add (w A:List (Nat×Γ×TypeId)) {b i:Nat} {P:Nat->Bool} (hi:i<512) (h:Lo G F (w++(b,pm P,302)::A)):
  ν 237 #[pa b,U i] F λr B=>r=.tuple #[]/\Lo G B (w++(b,pm (λj=>P j || decide (j=i)),302)::A):=by
 obtain ⟨q,g⟩:=h.z (b,pm P,302) (by simp);refine (GF hi q).mono ?_;rintro _ B ⟨rfl,rfl⟩;exact ⟨rfl,h.upd w A (aq _ _ _) (dk.set _ (.inl rfl))⟩
theorem Lo.q0 {l:List (Nat×Γ×TypeId)} {b:Nat} {P Q:Nat->Bool} (h:Lo G F ((b,pm P,302)::l)) {K:Ψ} (k:∀g,Lo G g ((b,pm Q,302)::l)->K g):aA F (ou b 0 I) 8 (pm Q) K:=Lo.put (n:=8) (w0:=pm P) (w:=pm Q) [] l h rfl rfl (fQ _) k
theorem Lo.q1 {l:List (Nat×Γ×TypeId)} {g:Nat×Γ×TypeId} {b:Nat} {P Q:Nat->Bool} (h:Lo G F (g::(b,pm P,302)::l)) {K:Ψ} (k:∀r,Lo G r (g::(b,pm Q,302)::l)->K r):aA F (ou b 0 I) 8 (pm Q) K:=Lo.put (n:=8) (w0:=pm P) (w:=pm Q) [g] l h rfl rfl (fQ _) k
theorem Lo.q2 {l:List (Nat×Γ×TypeId)} {g r:Nat×Γ×TypeId} {b:Nat} {P Q:Nat->Bool} (h:Lo G F (g::r::(b,pm P,302)::l)) {K:Ψ} (k:∀A,Lo G A (g::r::(b,pm Q,302)::l)->K A):aA F (ou b 0 I) 8 (pm Q) K:=Lo.put (n:=8) (w0:=pm P) (w:=pm Q) [g,r] l h rfl rfl (fQ _) k
theorem Lo.q3 {l:List (Nat×Γ×TypeId)} {A r g:Nat×Γ×TypeId} {b:Nat} {P Q:Nat->Bool} (h:Lo G F (A::r::g::(b,pm P,302)::l)) {K:Ψ} (k:∀B,Lo G B (A::r::g::(b,pm Q,302)::l)->K B):aA F (ou b 0 I) 8 (pm Q) K:=Lo.put (n:=8) (w0:=pm P) (w:=pm Q) [A,r,g] l h rfl rfl (fQ _) k
theorem Lo.q4 {l:List (Nat×Γ×TypeId)} {B g A r:Nat×Γ×TypeId} {b:Nat} {P Q:Nat->Bool} (h:Lo G F (B::g::A::r::(b,pm P,302)::l)) {K:Ψ} (k:∀C,Lo G C (B::g::A::r::(b,pm Q,302)::l)->K C):aA F (ou b 0 I) 8 (pm Q) K:=Lo.put (n:=8) (w0:=pm P) (w:=pm Q) [B,g,A,r] l h rfl rfl (fQ _) k
theorem Lo.q5 {l:List (Nat×Γ×TypeId)} {C r B A g:Nat×Γ×TypeId} {b:Nat} {P Q:Nat->Bool} (h:Lo G F (C::r::B::A::g::(b,pm P,302)::l)) {K:Ψ} (k:∀D,Lo G D (C::r::B::A::g::(b,pm Q,302)::l)->K D):aA F (ou b 0 I) 8 (pm Q) K:=Lo.put (n:=8) (w0:=pm P) (w:=pm Q) [C,r,B,A,g] l h rfl rfl (fQ _) k
theorem Lo.q6 {l:List (Nat×Γ×TypeId)} {D A C B g r:Nat×Γ×TypeId} {b:Nat} {P Q:Nat->Bool} (h:Lo G F (D::A::C::B::g::r::(b,pm P,302)::l)) {K:Ψ} (k:∀E,Lo G E (D::A::C::B::g::r::(b,pm Q,302)::l)->K E):aA F (ou b 0 I) 8 (pm Q) K:=Lo.put (n:=8) (w0:=pm P) (w:=pm Q) [D,A,C,B,g,r] l h rfl rfl (fQ _) k
theorem Lo.jn0 {l:List (Nat×Γ×TypeId)} {b:Nat} {P Q:Nat->Bool} (h:Lo G F ((b,pm P,302)::l)):ν 235 #[pa b,.agg (pm Q)] F λr g=>r=.tuple #[]/\Lo G g ((b,pm (λi=>P i || Q i),302)::l):=Lo.join [] l h
theorem Lo.jn2 {l:List (Nat×Γ×TypeId)} {g w:Nat×Γ×TypeId} {b:Nat} {P Q:Nat->Bool} (h:Lo G F (g::w::(b,pm P,302)::l)):ν 235 #[pa b,.agg (pm Q)] F λr A=>r=.tuple #[]/\Lo G A (g::w::(b,pm (λi=>P i || Q i),302)::l):=Lo.join [g,w] l h
theorem Lo.jn3 {l:List (Nat×Γ×TypeId)} {A w g:Nat×Γ×TypeId} {b:Nat} {P Q:Nat->Bool} (h:Lo G F (A::w::g::(b,pm P,302)::l)):ν 235 #[pa b,.agg (pm Q)] F λr B=>r=.tuple #[]/\Lo G B (A::w::g::(b,pm (λi=>P i || Q i),302)::l):=Lo.join [A,w,g] l h
theorem Lo.ad2 {l:List (Nat×Γ×TypeId)} {g w:Nat×Γ×TypeId} {b i:Nat} {P:Nat->Bool} (hi:i<512) (h:Lo G F (g::w::(b,pm P,302)::l)):ν 237 #[pa b,U i] F λr A=>r=.tuple #[]/\Lo G A (g::w::(b,pm (λj=>P j || decide (j=i)),302)::l):=Lo.add [g,w] l hi h
end
def de (n:Nat) (R:Nat->Nat->Bool):Ξ:=(List.range n).flatMap λi=>(pm (R i)).toList
theorem qhU (n:Nat) (R:Nat->Nat->Bool):(de n R).length=n*8:=by
 unfold de;induction n with
 |zero=>rfl
 |succ n ih=>rw [YM,XT,tT,ih];simp [pm];omega
theorem tj {f g:Nat->Ξ}:∀{l:Δ},(∀j∈l,f j=g j)->l.flatMap f=l.flatMap g
 |[],_=>rfl
 |a::l,h=>by rw [Vx,Vx,h a (by simp),tj λj r=>h j (by simp [r])]
theorem zY (f:Nat->Ξ) {n i:Nat} (hi:i<n):(List.range n).flatMap f=(List.range i).flatMap f++f i++((List.range (n - i - 1)).map (· +(i+1))).flatMap f:=by
 have:List.range n=List.range i++[i]++(List.range (n - i - 1)).map (· +(i+1)):=by
  have g:n=(i+1)+(n - i - 1):=by omega
  rw [g,List.range_add,YM,show i+1+(n - i - 1) - i - 1=n - i - 1 by omega];congr 1;apply List.map_congr_left;intro a _;omega
 rw [this,XT,XT,Vx,List.flatMap_nil,yn]
theorem oS {n:Nat} {R S:Nat->Nat->Bool} (h:∀i,i<n->R i=S i):de n R=de n S:=by unfold de;exact tj λj g=>by rw [h j (WU.1 g)]
theorem oT {n i:Nat} (hi:i<n) (R:Nat->Nat->Bool):∃pre post,pre.length=i*8/\de n R=pre++(pm (R i)).toList++post/\∀g,(∀j,j≠i->g j=R j)->de n g=pre++(pm (g i)).toList++post:=by
 refine ⟨de i R,((List.range (n - i - 1)).map (· +(i+1))).flatMap (λj=>(pm (R j)).toList),qhU i R,zY _ hi,λg h=> ?_⟩;have e:=zY (λj=>(pm (g j)).toList) hi;have A:de i g=de i R:=oS λj r=>h j (by omega);have w:((List.range (n - i - 1)).map (· +(i+1))).flatMap (λj=>(pm (g j)).toList)=((List.range (n - i - 1)).map (· +(i+1))).flatMap (λj=>(pm (R j)).toList):=tj λj r=>by obtain ⟨a,_,rfl⟩:=w9.1 r;rw [h _ (by omega)]
 rw [w] at e;rw [<- A];exact e
structure Lnk (F:PH) (b3 bm bf n:Nat) (R:Nat->Nat->Bool):Prop where
 tab:Tab F
 q3:F b3=V (Y #[pa bm] 299)
 q17:∃mc,F bm=V (Y mc 305)/\mc[17]? =V (nE ⟨V ⟨bf,0,I⟩,n,n⟩)
 qf:F bf=V (Y (de n R).toArray 302)
theorem Lnk.keep {F A:PH} {D bm g n:Nat} {R E:Nat->Nat->Bool} (h:Lnk F D bm g n R) (r:dk (λx=>x=g) F A) (K:A g=V (Y (de n E).toArray 302)) (H:g≠0):Lnk A D bm g n E:=by
 obtain ⟨w,q3,⟨J,B,C⟩,G⟩:=h;refine ⟨λk v L=> ?_,r _ _ q3 λe=> ?_,⟨J,r _ _ B λe=> ?_,C⟩,K⟩
 ·have:=w k v L;unfold PH.cell at this ⊢;cases hz:F 0 with
  |none=>rw [hz] at this;cases this
  |some o=>rw [hz] at this;rw [r _ _ hz H.symm];exact this
 ·rw [e,G] at q3;simp at q3
 ·rw [e,G] at B;simp at B
theorem Lnk.le {F A:PH} {B bm C n:Nat} {R:Nat->Nat->Bool} (h:Lnk F B bm C n R) (g:F.le A):Lnk A B bm C n R:=by obtain ⟨w,q3,⟨D,E,r⟩,G⟩:=h;exact ⟨w.le g,g _ _ q3,⟨D,g _ _ E,r⟩,g _ _ G⟩
section
variable {F:PH} {b3 bm bf n:Nat} {R:Nat->Nat->Bool}
theorem Ct (h:Lnk F b3 bm bf n R) (P:bf≠0) {i bt:Nat} {Q:Nat->Bool} (hi:i<n) (O:F bt=V (Y (pm Q) 302)) (_:bt≠bf):
  ν 234 #[U i,pa b3,pa bt] F λr B=>r=.tuple #[]/\Lnk B b3 bm bf n (λk j=>R k j || (decide (k=i) && Q j))/\dk (λx=>x=bf) F B:=by
 obtain ⟨a0,q3,⟨mc,X,M⟩,qf⟩:=id h;refine qeH ?_;unfold Qx;obtain ⟨w,g,A,L,K⟩:=oT hi R;have W:F.cell (ou b3 0 I)=V (pa bm):=by rw [av q3];rfl
 have H:F.cell ((ou bm 0 I).add 17)=V (nE ⟨V ⟨bf,0,I⟩,n,n⟩):=by rw [cz,ye,av X];exact M
 refine ⟨_,rfl,_,W,_,rfl,_,H,_,rfl,by omega,by simp only;omega,_,rfl,pm Q,rfl,ai O,?_⟩;have ea:(ou bf 0 I).add (nT (i:Int)*8)=⟨bf,w.length,I⟩:=by rw [cz,ye,N4,A]
 rw [ea];have hs:kj F bf 302 w (R i) g:=by unfold kj;rw [<- L];exact qf
 refine (uN (Q:=Q) hs).mono ?_;rintro _ B ⟨rfl,J,D⟩;have e:∀k,k≠i->(λk j=>R k j || (decide (k=i) && Q j)) k=R k:=λk D=>by funext j;simp [D]
 have E:Lnk B b3 bm bf n (λk j=>R k j || (decide (k=i) && Q j)):=h.keep D (by
  rw [K _ e];have:(λj=>R i j || (decide (i=i) && Q j))=λj=>R i j || Q j:=by funext j;simp
  show B bf=V (Y (w++(pm (λj=>R i j || (decide (i=i) && Q j))).toList++g).toArray 302);rw [this]
  exact J) P
 obtain ⟨a1,G,C⟩:=E.q17;exact ⟨rfl,by rw [cz,ye,av G];exact C,by rw [av E.q3];rfl,rfl,E,D⟩
theorem SN:aF prog 234=mY:=by kernel_rfl
theorem uT (h:Lnk F b3 bm bf n R) (O:bf≠0) (M:n<=512) {P Q:Nat->Bool} (hP:∀i,P i=mY->i<n):
  ν 232 #[.agg (pm P),.agg (pm Q),pa b3] F λr g=>r=.tuple #[]/\Lnk g b3 bm bf n (λk j=>R k j || (P k && Q j))/\dk (λx=>x=bf) F g:=by
 refine qeF ?_;unfold Qv;intro c H;refine tR ?_;have L:=ae (Y (pm P) 302) H;have qc:=aq F c (Y (pm P) 302);generalize F.set c (Y (pm P) 302)=J at*;intro d hd;refine tR ?_;have ld:=ae (Y (pm Q) 302) hd;have W:=aq J d (Y (pm Q) 302);have G:=ld _ _ qc;generalize J.set d (Y (pm Q) 302)=F2 at*;have E:c≠bf:=λe=>by rw [e,h.qf] at H;cases H
 have C:d≠bf:=λe=>by rw [e,L _ _ h.qf] at hd;cases hd
 have K:=aa L ld
 refine (uO (a:=⟨c,0,I⟩) (P:=P) (k:=234) (cap:= #[pa b3,pa d]) (Inv:=λm g=>Lnk g b3 bm bf n (λk j=>R k j || (decide (k<m) && P k && Q j))/\dk (λx=>x=bf) F2 g) SN rfl
  (λm g w=>⟨w.1.tab,ai (w.2 _ _ G E)⟩) (λi g hi D w=> ?_) (λi g hi D w=> ?_) ⟨?_,dk.refl _ _⟩).mono ?_
 ·refine ⟨?_,w.2⟩;have:(λk j=>R k j || (decide (k<i+1) && P k && Q j))=λk j=>R k j || (decide (k<i) && P k && Q j):=by
   funext k j;by_cases A:k=i
   ·subst A;simp [D]
   ·rw [show decide (k<i+1)=decide (k<i) by rw [wi];simp;omega]
  rw [this];exact w.1
 ·refine (Ct w.1 O (hP i D) (w.2 _ _ W C) C).mono ?_;rintro _ N ⟨rfl,B,A⟩;refine ⟨rfl,?_,w.2.trans A⟩;have:(λk j=>(R k j || (decide (k<i) && P k && Q j)) || (decide (k=i) && Q j))=λk j=>R k j || (decide (k<i+1) && P k && Q j):=by
   funext k j;by_cases A:k=i
   ·subst A;simp [D]
   ·rw [show decide (k<i+1)=decide (k<i) by rw [wi];simp;omega];simp [A]
  rw [<- this];exact B
 ·have:(λk j=>R k j || (decide (k<0) && P k && Q j))=R:=by funext k j;simp
  rw [this];exact h.le K
 ·rintro _ g ⟨rfl,B,A⟩;refine ⟨rfl,rfl,?_,λx o X M=>A x o (K _ _ X) M⟩;have:Lnk g b3 bm bf n (λk j=>R k j || (P k && Q j)):=by
   refine ⟨B.tab,B.q3,B.q17,?_⟩;have e:de n (λk j=>R k j || (P k && Q j))=de n (λk j=>R k j || (decide (k<512) && P k && Q j)):=by refine oS λi hi=> ?_;funext j;rw [show decide (i<512)=mY by simp;omega,Wy]
   rw [e];exact B.qf
  exact this
end
theorem Ky:aF prog 232=mY:=by kernel_rfl
theorem oo:aF prog 236=mY:=by kernel_rfl
open Classical in
def fB (t:Lt):Nat->Bool:=λj=>decide (t.first j)
open Classical in
def lB (t:Lt):Nat->Bool:=λj=>decide (t.last j)
open Classical in
def yW (t:Lt):Nat->Nat->Bool:=λi j=>decide (t.fol i j)
theorem dO {t:Lt} {j:Nat}:fB t j=mY↔t.first j:=by simp [fB]
theorem di {t:Lt} {j:Nat}:lB t j=mY↔t.last j:=by simp [lB]
theorem jK {t:Lt} {i j:Nat}:yW t i j=mY↔t.fol i j:=by simp [yW]
theorem SO:fB .emp=noP:=by funext j;rw [wi,dO];simp [Lt.first,noP]
theorem SP:lB .emp=noP:=by funext j;rw [wi,di];simp [Lt.last,noP]
theorem Nv (i j:Nat):yW .emp i j=mz:=by rw [<- Yk,jK];exact id
theorem SQ {i lo hi:Nat}:fB (.rng i lo hi)=λj=>noP j || decide (j=i):=by funext j;rw [wi,dO];simp [Lt.first,noP];exact eq_comm
theorem SR {i lo hi:Nat}:lB (.rng i lo hi)=λj=>noP j || decide (j=i):=by funext j;rw [wi,di];simp [Lt.last,noP];exact eq_comm
theorem Nw {i lo hi:Nat} (k j:Nat):yW (.rng i lo hi) k j=mz:=by rw [<- Yk,jK];exact id
theorem Ny {t u:Lt} (h:t.nul=mY):fB (.seq t u)=λi=>fB t i || fB u i:=by funext j;rw [wi,W8,dO,dO,dO];simp [Lt.first,h]
theorem Nz {t u:Lt} (h:t.nul=mz):fB (.seq t u)=fB t:=by funext j;rw [wi,dO,dO];simp [Lt.first,h]
theorem NA {t u:Lt} (h:u.nul=mY):lB (.seq t u)=λi=>lB u i || lB t i:=by funext j;rw [wi,W8,di,di,di];simp [Lt.last,h]
theorem NB {t u:Lt} (h:u.nul=mz):lB (.seq t u)=lB u:=by funext j;rw [wi,di,di];simp [Lt.last,h]
theorem NC {t u:Lt} (k j:Nat):yW (.seq t u) k j=(yW t k j || (yW u k j || (lB t k && fB u j))):=by rw [wi];simp only [W8,VO,jK,di,dO,Lt.fol]
theorem ST {t u:Lt}:fB (.alt t u)=λi=>fB t i || fB u i:=by funext j;rw [wi,W8,dO,dO,dO];simp [Lt.first]
theorem SU {t u:Lt}:lB (.alt t u)=λi=>lB t i || lB u i:=by funext j;rw [wi,W8,di,di,di];simp [Lt.last]
theorem ND {t u:Lt} (k j:Nat):yW (.alt t u) k j=(yW t k j || yW u k j):=by rw [wi];simp only [W8,jK,Lt.fol]
theorem SW {t:Lt}:fB (.rep t)=fB t:=by funext j;rw [wi,dO,dO];simp [Lt.first]
theorem SX {t:Lt}:lB (.rep t)=lB t:=by funext j;rw [wi,di,di];simp [Lt.last]
theorem NE {t:Lt} (k j:Nat):yW (.rep t) k j=(yW t k j || (lB t k && fB t j)):=by rw [wi];simp only [W8,VO,jK,di,dO,Lt.fol]
theorem dG {l:List Nd} {i:Nat} {t:Lt} {ns:Δ} (h:cQ l i t ns):(∀j∈ns,j<l.length)/\∀j,t.lab j->j∈ns:=by
 induction h with
 |emp r B=>exact ⟨λj g=>by simp at g;subst g;exact (N6.1 r).1,λj h=>h.elim⟩
 |rng r B _ _ _ _=>exact ⟨λj g=>by simp at g;subst g;exact (N6.1 r).1,λj h=>by rw [show j=_ from h.symm];simp⟩
 |seq r B _ _ _ _ w A=>
  refine ⟨λj g=> ?_,λj h=> ?_⟩
  ·simp only [zK,tD,vd] at g;rcases g with rfl|g|g
   ·exact (N6.1 r).1
   ·exact w.1 j g
   ·exact A.1 j g
  ·simp only [zK,tD,vd];exact .inr (h.elim (λh=> .inl (w.2 j h)) λh=> .inr (A.2 j h))
 |alt r B _ _ _ _ w A=>
  refine ⟨λj g=> ?_,λj h=> ?_⟩
  ·simp only [zK,tD,vd] at g;rcases g with rfl|g|g
   ·exact (N6.1 r).1
   ·exact w.1 j g
   ·exact A.1 j g
  ·simp only [zK,tD,vd];exact .inr (h.elim (λh=> .inl (w.2 j h)) λh=> .inr (A.2 j h))
 |rep r B _ _ w=>
  refine ⟨λj g=> ?_,λj h=> ?_⟩
  ·simp only [tD] at g;rcases g with rfl|g
   ·exact (N6.1 r).1
   ·exact w.1 j g
  ·exact Vm _ (w.2 j h)
theorem Fm {l:List Nd} {i:Nat} {t:Lt} {ns:Δ} (h:cQ l i t ns) {j:Nat} (g:lB t j=mY):j<l.length:=(dG h).1 j ((dG h).2 j (t.last_lab (di.1 g)))
theorem RdS.keep {F r:PH} {s:Sl} {size:Nat} {vs:Ξ} (h:RdS F s size vs) (A:∀a,s.qa5=V a->∀o,F a.block=V o->r a.block=V o):RdS r s size vs:=by
 refine ⟨h.len,h.cap,λD=> ?_⟩;obtain ⟨b,o,w,B⟩:=h.cells D;refine ⟨b,o,w,λi hi=> ?_⟩;have g:=B i hi;unfold PH.cell at g ⊢;cases hz:F b with
 |none=>simp only [hz] at g;cases g
 |some C=>simp only [hz] at g;simp only [A _ w C hz];exact g
structure Cmp (F:PH) (b1 b3 b4 b5 bm bf:Nat) (l:List Nd) (R:Nat->Nat->Bool):Prop where
 lnk:Lnk F b3 bm bf l.length R
 q1:∃s:Sl,F b1=V (Y #[s.v] 164)/\RdS F s 5 (dE l)/\∀a,s.qa5=V a->a.block≠bf
 q4:F b4=V (Y #[.func (.func 236) #[] #[pa b1,pa b4,pa b5]] 329)
 q5:F b5=V (Y #[.func (.func 232) #[] #[pa b3]] 332)
section
variable {F F':PH} {b1 b3 b4 b5 bm bf:Nat} {l:List Nd} {R R':Nat->Nat->Bool}
theorem Cmp.le (h:Cmp F b1 b3 b4 b5 bm bf l R) (g:F.le F'):Cmp F' b1 b3 b4 b5 bm bf l R:=by obtain ⟨s,a,b,c⟩:=h.q1;exact ⟨h.lnk.le g,⟨s,g _ _ a,b.le g,c⟩,g _ _ h.q4,g _ _ h.q5⟩
theorem Cmp.keep (h:Cmp F b1 b3 b4 b5 bm bf l R) (r:dk (λx=>x=bf) F F') (C:Lnk F' b3 bm bf l.length R'):Cmp F' b1 b3 b4 b5 bm bf l R':=by
 obtain ⟨s,a,b,c⟩:=h.q1;have g:∀{x:Nat} {E:Γ} {e:TypeId},e≠302->F x=V (Y E e)->x≠bf:=λB A e=>by rw [e,h.lnk.qf] at A;simp at A;exact B A.2.symm
 exact ⟨C,⟨s,r _ _ a (g (by decide) a),b.keep λG w o D=>r _ _ D (c G w),c⟩,r _ _ h.q4 (g (by decide) h.q4),r _ _ h.q5 (g (by decide) h.q5)⟩
theorem Cmp.to (h:Cmp F b1 b3 b4 b5 bm bf l R) (e:∀k j,R k j=R' k j):Cmp F b1 b3 b4 b5 bm bf l R':=by
 have:R=R':=by funext k j;exact e k j
 rw [<- this];exact h
set_option maxHeartbeats 4000000 in
theorem GH (E:l.length<=512) (h0:bf≠0) {i:Nat} {t:Lt} {ns:Δ} (h:cQ l i t ns):∀{F:PH} {R:Nat->Nat->Bool},Cmp F b1 b3 b4 b5 bm bf l R->
    ν 236 #[U i,pa b1,pa b4,pa b5] F λr F'=>r=.tuple #[.agg (pm (fB t)),.agg (pm (lB t)),.bool t.nul]/\Cmp F' b1 b3 b4 b5 bm bf l (λk j=>R k j || yW t k j)/\dk (λx=>x=bf) F F':=by
  induction h with
    (intro F R C
     obtain ⟨s,q1,hs,c7⟩:=C.q1;have b6:=hs.nlen;have c9:=(N6.1 N).1;obtain ⟨ad,a7,a1⟩:=Xl hs N;refine qeJ ?_;unfold Qz;have h:=Lo.start F;refine h.new _ _ λr1 F1 h=>h.new _ _ λr2 F2 h=> ?_;rw [<- dF] at h;refine ⟨_,rfl,s,by rw [av (h.le _ _ q1)];rfl,ad,a7,by omega,by omega,x.arr,rfl,λk g=>aK h.le (a1 k g),?_⟩;refine h.new _ _ λb8 F3 h=>Lo.put [] _ (w:=x.arr) (n:=5) h rfl rfl (gm x) λF4 h=> ?_;refine ⟨x.k,h.cl 0 rfl rfl,?_⟩
     have D:dk (λx=>x=bf) F F:=dk.refl _ _)
  | @emp i x N K=>refine ⟨λh=>absurd h (by omega),λ_=>⟨λh=>absurd h (by omega),λ_=>⟨λh=>absurd h (by omega),λ_=>⟨λh=>absurd h (by omega),λ_=> ?_⟩⟩⟩⟩;refine ⟨pm noP,rfl,h.ro 2 rfl,pm noP,rfl,h.ro 1 rfl,?_⟩;refine h.q2 λF5 h=>⟨h.ro 1 rfl,h.q1 λF6 h=>⟨pm noP,rfl,h.ro 2 rfl,pm noP,rfl,h.ro 1 rfl,?_,(C.le h.le).to (λk j=>by rw [Nv,Yp]),λy o H E=>h.le _ _ (D y o H E)⟩⟩;rw [SO,SP,Lt.nul]
  | @rng i lo hi x N K c8 c2 c4 b7=>refine ⟨λ_=> ?_,λh=>absurd K h⟩;refine (h.ad2 (by omega)).mono ?_;rintro _ F5 ⟨rfl,h⟩;refine ⟨rfl,_,rfl,h.ro 2 rfl,_,rfl,h.ro 2 rfl,?_⟩;refine h.q2 λF6 h=>h.q1 λF7 h=>⟨_,rfl,h.ro 2 rfl,_,rfl,h.ro 1 rfl,?_,(C.le h.le).to (λk j=>by rw [Nw,Yp]),λy o H E=>h.le _ _ (D y o H E)⟩;rw [SQ,SR,Lt.nul]
  | @seq i a b x t u na nb N K G M ht hu it iu=>
    refine ⟨λh=>absurd h (by omega),λ_=>⟨λ_=> ?_,λh=>absurd K h⟩⟩;refine ⟨_,rfl,_,by rw [av (h.le _ _ C.q4)];rfl,_,h.cl 0 rfl rfl,236,#[],_,rfl,oo,?_⟩;rw [G];refine (h.call (it C)).mono ?_;rintro _ F5 ⟨G5,⟨rfl,C,g⟩,h⟩;have D:=D.trans g;refine ⟨_,_,_,rfl,?_⟩;refine h.new _ _ λb9 F6 h=>h.new _ _ λL F7 h=> ?_;rw [<- dF] at h;refine h.q1 λF8 h=>h.q0 λF9 h=> ?_;refine ⟨_,by rw [av (h.le _ _ C.q4)];rfl,_,h.cl 2 rfl rfl,236,#[],_,rfl,oo,?_⟩;rw [M];refine (h.call (iu C)).mono ?_;rintro _ a0 ⟨a3,⟨rfl,C,g⟩,h⟩;have D:=D.trans g;refine ⟨_,_,_,rfl,?_⟩;refine h.new _ _ λO a2 h=>h.new _ _ λJ X h=> ?_;rw [<- dF] at h;refine h.q1 λb2 h=>h.q0 λa9 h=> ?_;refine ⟨_,rfl,_,by rw [av (h.le _ _ C.q5)];rfl,pm (lB t),rfl,h.ro 2 rfl,pm (fB u),rfl,h.ro 1 rfl,232,#[],_,rfl,Ky,?_⟩;refine (h.call (uT (P:=lB t) (Q:=fB u) C.lnk h0 E (λj hj=>Fm ht hj))).mono ?_;rintro _ a6 ⟨a4,⟨rfl,hL,g⟩,h⟩;have C:=C.keep g hL;have D:=D.trans g;refine ⟨rfl,?_⟩;have W:∀k j,(R k j || yW t k j || yW u k j || (lB t k && fB u j))=(R k j || yW (.seq t u) k j):=λk j=>by rw [NC];simp only [Bool.or_assoc]
    have j2:∀{A B:Nat->Bool} {F':PH},fB (.seq t u)=A->lB (.seq t u)=B->Lo a4 F' [(J,pm B,302),(O,pm (fB u),302),(L,pm (lB t),302),(b9,pm A,302),(b8,x.arr,225),(r2,pm noP,302),(r1,pm noP,302)]->qx r1 r2 b9 t.nul J u.nul (λr F'=>r=.tuple #[.agg (pm (fB (.seq t u))),.agg (pm (lB (.seq t u))),.bool (Lt.nul (.seq t u))]/\Cmp F' b1 b3 b4 b5 bm bf l (λk j=>R k j || yW (.seq t u) k j)/\dk (λx=>x=bf) F F') F':=λ{A B F'} e1 e2 h=>by
      unfold qx;rw [e1,e2];refine ⟨_,rfl,h.ro 3 rfl,_,rfl,h.ro 0 rfl,λha=> ?_,λha=> ?_⟩;all_goals
        refine h.q6 λb0 h=>h.q5 λd2 h=>⟨_,rfl,h.ro 6 rfl,_,rfl,h.ro 5 rfl,?_,(C.le h.le).to W,λy o H E=>h.le _ _ (D y o H E)⟩;simp only [Lt.nul,ha];rfl
    have j1:∀{A:Nat->Bool} {F':PH},fB (.seq t u)=A->Lo a4 F' [(J,pm (lB u),302),(O,pm (fB u),302),(L,pm (lB t),302),(b9,pm A,302),(b8,x.arr,225),(r2,pm noP,302),(r1,pm noP,302)]->qy r1 r2 b9 L t.nul J u.nul (λr F'=>r=.tuple #[.agg (pm (fB (.seq t u))),.agg (pm (lB (.seq t u))),.bool (Lt.nul (.seq t u))]/\Cmp F' b1 b3 b4 b5 bm bf l (λk j=>R k j || yW (.seq t u) k j)/\dk (λx=>x=bf) F F') F':=λ{A F'} e1 h=>by unfold qy;refine ⟨λhb=>⟨_,rfl,h.ro 2 rfl,(h.jn0).mono ?_⟩,λhb=>j2 e1 (NB hb) h⟩;rintro _ a5 ⟨rfl,h⟩;exact ⟨rfl,j2 e1 (NA hb) h⟩
    refine ⟨λHA=>⟨_,rfl,h.ro 1 rfl,(h.jn3).mono ?_⟩,λHA=>j1 (Nz HA) h⟩;rintro _ a8 ⟨rfl,h⟩;exact ⟨rfl,j1 (Ny HA) h⟩
  | @alt i a b x t u na nb N K G M ht hu it iu=>
    refine ⟨λh=>absurd h (by omega),λ_=>⟨λh=>absurd h (by omega),λ_=>⟨λ_=> ?_,λh=>absurd K h⟩⟩⟩;refine ⟨_,rfl,_,by rw [av (h.le _ _ C.q4)];rfl,_,h.cl 0 rfl rfl,236,#[],_,rfl,oo,?_⟩;rw [G];refine (h.call (it C)).mono ?_;rintro _ F5 ⟨G5,⟨rfl,C,g⟩,h⟩;have D:=D.trans g;refine ⟨_,_,_,rfl,?_⟩;refine h.new _ _ λd1 F6 h=>h.new _ _ λd3 F7 h=> ?_;rw [<- dF] at h;refine h.q1 λF8 h=>h.q0 λF9 h=> ?_;refine ⟨_,by rw [av (h.le _ _ C.q4)];rfl,_,h.cl 2 rfl rfl,236,#[],_,rfl,oo,?_⟩;rw [M];refine (h.call (iu C)).mono ?_;rintro _ a0 ⟨a3,⟨rfl,C,g⟩,h⟩;have D:=D.trans g;refine ⟨_,_,_,rfl,?_⟩;refine h.new _ _ λc3 a2 h=>h.new _ _ λd0 X h=> ?_;rw [<- dF] at h;refine h.q1 λb2 h=>h.q0 λa9 h=> ?_;refine ⟨_,rfl,h.ro 1 rfl,(h.jn3).mono ?_⟩;rintro _ a6 ⟨rfl,h⟩;refine ⟨rfl,_,rfl,h.ro 0 rfl,(h.jn2).mono ?_⟩;rintro _ a8 ⟨rfl,h⟩;have W:∀k j,(R k j || yW t k j || yW u k j)=(R k j || yW (.alt t u) k j):=λk j=>by rw [ND,Bool.or_assoc]
    refine ⟨rfl,_,rfl,h.ro 3 rfl,_,rfl,h.ro 2 rfl,λha=> ?_,λha=> ?_⟩;all_goals
      refine h.q6 λa5 h=>h.q5 λb0 h=>⟨_,rfl,h.ro 6 rfl,_,rfl,h.ro 5 rfl,?_,(C.le h.le).to W,λy o H E=>h.le _ _ (D y o H E)⟩;rw [ST,SU];simp only [Lt.nul,ha];rfl
  | @rep i a x t na N K G ht it=>
    refine ⟨λh=>absurd h (by omega),λ_=>⟨λh=>absurd h (by omega),λ_=>⟨λh=>absurd h (by omega),λ_=>⟨λ_=> ?_,λh=>absurd K h⟩⟩⟩⟩;refine ⟨_,rfl,_,by rw [av (h.le _ _ C.q4)];rfl,_,h.cl 0 rfl rfl,236,#[],_,rfl,oo,?_⟩;rw [G];refine (h.call (it C)).mono ?_;rintro _ F5 ⟨G5,⟨rfl,C,g⟩,h⟩;have D:=D.trans g;refine ⟨_,_,_,rfl,?_⟩;refine h.new _ _ λc5 F6 h=>h.new _ _ λc6 F7 h=> ?_;rw [<- dF] at h;refine h.q1 λF8 h=>h.q0 λF9 h=> ?_;refine ⟨_,rfl,_,by rw [av (h.le _ _ C.q5)];rfl,pm (lB t),rfl,h.ro 0 rfl,pm (fB t),rfl,h.ro 1 rfl,232,#[],_,rfl,Ky,?_⟩;refine (h.call (uT (P:=lB t) (Q:=fB t) C.lnk h0 E (λj hj=>Fm ht hj))).mono ?_;rintro _ a0 ⟨a3,⟨rfl,hL,g⟩,h⟩;have C:=C.keep g hL;have D:=D.trans g;have W:∀k j,(R k j || yW t k j || (lB t k && fB t j))=(R k j || yW (.rep t) k j):=λk j=>by rw [NE];simp only [Bool.or_assoc]
    refine ⟨rfl,_,rfl,h.ro 1 rfl,_,rfl,h.ro 0 rfl,?_⟩;refine h.q4 λa2 h=>⟨h.ro 0 rfl,h.q3 λX h=>⟨_,rfl,h.ro 4 rfl,_,rfl,h.ro 3 rfl,?_,(C.le h.le).to W,λy o H E=>h.le _ _ (D y o H E)⟩⟩;rw [SW,SX,Lt.nul]
end
def bL (s:Sl) (P Q:Nat->Bool) (bf n:Nat) (e:Bool):Γ:=
 #[s.v,cX (wd P 0),cX (wd P 1),cX (wd P 2),cX (wd P 3),cX (wd P 4),cX (wd P 5),cX (wd P 6),cX (wd P 7),
  cX (wd Q 0),cX (wd Q 1),cX (wd Q 2),cX (wd Q 3),cX (wd Q 4),cX (wd Q 5),cX (wd Q 6),cX (wd Q 7),nE ⟨V ⟨bf,0,I⟩,n,n⟩,.bool e]
theorem qel (M a1 a2 a3 a4 W X a7 a8 J A E g C h B r w D L N H P K Q G O:ξ):wr (#[M,a1,a2,a3,a4,W,X,a7,a8,J,A,E,g,C,h,B,r,w,D]:Γ) 1 [L,N,H,P,K,Q,G,O]= #[M,L,N,H,P,K,Q,G,O,J,A,E,g,C,h,B,r,w,D]:=
 (jS [L,N,H,P,K,Q,G,O] [M,a1,a2,a3,a4,W,X,a7,a8,J,A,E,g,C,h,B,r,w,D] 1 (by show 9<=19;omega)).trans rfl
theorem qem (O M a2 W P K L Q a8 a9 B E r D w C A g h N X H v3 J v5 G v7:ξ):wr (#[O,M,a2,W,P,K,L,Q,a8,a9,B,E,r,D,w,C,A,g,h]:Γ) 9 [N,X,H,v3,J,v5,G,v7]= #[O,M,a2,W,P,K,L,Q,a8,N,X,H,v3,J,v5,G,v7,g,h]:=
 (jS [N,X,H,v3,J,v5,G,v7] [O,M,a2,W,P,K,L,Q,a8,a9,B,E,r,D,w,C,A,g,h] 9 (by show 17<=19;omega)).trans rfl
theorem qen (s:Sl) (P h Q:Nat->Bool) (g n:Nat) (e:Bool):wr (bL s h Q g n e) 1 (pm P).toList=bL s P Q g n e:=qel _ _ _ _ _ _ _ _ _ _ _ _ _ _ _ _ _ _ _ _ _ _ _ _ _ _ _
theorem qeo (s:Sl) (P h Q:Nat->Bool) (g n:Nat) (e:Bool):wr (bL s P h g n e) 9 (pm Q).toList=bL s P Q g n e:=qem _ _ _ _ _ _ _ _ _ _ _ _ _ _ _ _ _ _ _ _ _ _ _ _ _ _ _
theorem qep (s:Sl) (P Q:Nat->Bool) (g n:Nat) (e e':Bool):(bL s P Q g n e).setIfInBounds 18 (.bool e')=bL s P Q g n e':=rfl
def UQ:Nat->Nat->Bool:=λ_ _=>mz
theorem uU:∀n:Nat,de n UQ=List.replicate (n*8) (.int .u64 0)
 |0=>rfl
 |n+1=>by
  have:=uU n;unfold de at this ⊢;rw [YM,XT,this,Vx,List.flatMap_nil,yn];have e:(pm (UQ n)).toList=List.replicate 8 (.int .u64 0):=by show (pm noP).toList=_;rw [dF];rfl
  rw [e,List.replicate_append_replicate];congr 1;omega
theorem Kz:vA prog 302=V (8,64):=by kernel_rfl
theorem KA:bu prog 302=V (.agg #[.int .u64 0,.int .u64 0,.int .u64 0,.int .u64 0,.int .u64 0,.int .u64 0,.int .u64 0,.int .u64 0]):=by kernel_rfl
theorem Z7 (n:Nat):Builtin.zeroCells (Value.agg #[.int .u64 0,.int .u64 0,.int .u64 0,.int .u64 0,.int .u64 0,.int .u64 0,.int .u64 0,.int .u64 0]).cells n=(de n UQ).toArray:=by
 rw [uU];have g:(Value.agg #[.int .u64 0,.int .u64 0,.int .u64 0,.int .u64 0,.int .u64 0,.int .u64 0,.int .u64 0,.int .u64 0]).cells=(List.replicate 8 (Value.int .u64 0)).toArray:=rfl;rw [g];apply Array.ext
 ·simp [Builtin.zeroCells]
 ·intro i h r;simp only [Builtin.zeroCells,Array.getElem_map,Array.getElem_range,List.getElem_toArray,List.getElem_replicate];have:i % (List.replicate 8 (Value.int .u64 0)).toArray.size<8:=V7 _ (by decide);rw [getElem!_pos _ _ (by simpa using this)];simp only [XB,Xx,List.getElem_toArray,List.getElem_replicate]
structure Mch (F:PH) (bm:Nat) (l:List Nd) (t:Lt):Prop where
 ex:∃(s:Sl) (bf:Nat),F bm=V (Y (bL s (fB t) (lB t) bf l.length t.nul) 305)/\RdS F s 5 (dE l)/\F bf=V (Y (de l.length (yW t)).toArray 302)
theorem Mch.le {F G:PH} {bm:Nat} {l:List Nd} {t:Lt} (h:Mch F bm l t) (g:F.le G):Mch G bm l t:=by obtain ⟨s,r,a,b,c⟩:=h.ex;exact ⟨s,r,g _ _ a,b.le g,g _ _ c⟩
theorem Tab.zero {F:PH} (h:Tab F):∃o,F 0=V o:=by
 have:=h 0 0 rfl;unfold PH.cell at this;cases hz:F 0 with
 |none=>rw [hz] at this;cases this
 |some o=>exact ⟨o,rfl⟩
theorem RdS.block {F:PH} {s:Sl} {size:Nat} {vs:Ξ} (h:RdS F s size vs) (E:0<vs.length) {a:Addr} (D:s.qa5=V a):∃o,F a.block=V o:=by
 have C:0<s.len:=by
  rcases Yi s.len with g|g
  ·have:=h.len;rw [g,V9] at this;omega
  ·exact g
 obtain ⟨b,o,w,A⟩:=h.cells C;rw [D] at w;cases w;have r:=A 0 E;unfold PH.cell at r;cases hz:F b with
 |none=>simp only [hz] at r;cases r
 |some B=>exact ⟨B,rfl⟩
theorem Lo.new' {G F:PH} {xs:List (Nat×Γ×TypeId)} (h:Lo G F xs) (c:Γ) (e:TypeId) {b:Nat} (g:F b=I):Lo G (F.set b (Y c e)) ((b,c,e)::xs):=
 Ya (h.new c e (K:=λb r=>Lo G r ((b,c,e)::xs)) (λ_ _ h=>h) b g)
section
variable {F0 F:PH} {l:List Nd}
set_option maxHeartbeats 1000000 in
theorem Cv {s:Sl} {C A bm r:Nat} (hT:Tab F0) (hG:GoodL l) (hl:l.length<=512) (hs:RdS F0 s 5 (dE l)) (le:F0.le F) (q1:F C=V (Y #[s.v] 164)) (q3:F A=V (Y #[pa bm] 299))
  (B:F bm=V (Y (bL s noP noP r l.length mz) 305)) (E:F r=V (Y (de l.length UQ).toArray 302)) (zm:F0 bm=I) (zf:F0 r=I) {R:ξ->Ψ}
  (k:∀F',Mch F' bm l (bO l)->F0.le F'->R (pa bm) F'):jI C (V ⟨A,0,I⟩) R F:=by
 obtain ⟨ns,ht⟩:=iF hG;have a8:=hs.nlen;have c7:=Yg.2 hG.ne;have h0:r≠0:=λe=>by obtain ⟨o,N⟩:=hT.zero;rw [e,N] at zf;cases zf
 unfold jI;intro w W;refine tR ?_;have l4:=ae (Y #[.nilFunc] 329) W;have q4:=aq F w (Y #[.nilFunc] 329);have a3:=aa le l4;have q1:=l4 _ _ q1;have q3:=l4 _ _ q3;have B:=l4 _ _ B;have E:=l4 _ _ E;have z4:F0 w=I:=aT le W;clear l4 W le;generalize F.set w (Y #[.nilFunc] 329)=F1 at*;intro g M;refine tR ?_;have Q:=ae (Y #[.nilFunc] 332) M;have q5:=aq F1 g (Y #[.nilFunc] 332);have a7:=aa a3 Q;have q1:=Q _ _ q1;have q3:=Q _ _ q3;have B:=Q _ _ B;have E:=Q _ _ E;have a6:w≠g:=aH M q4;have q4:=Q _ _ q4;have z5:F0 g=I:=aT a3 M;clear Q M a3;generalize F1.set g (Y #[.nilFunc] 332)=F2 at*;have ne:∀{x y:Nat} {c d:Γ} {e e':TypeId},e≠e'->F2 x=V (Y c e)->F2 y=V (Y d e')->x≠y:=λhe J hy e=>by rw [e,hy] at J;simp at J;exact he J.2.symm
 refine Wp (o:=0) q5 (by simp) ?_;show ∃c e,_;have e5:(#[Value.nilFunc]:Γ).setIfInBounds 0 (.func (.func 232) #[] #[pa A])= #[.func (.func 232) #[] #[pa A]]:=rfl;rw [e5];have b0:=aB (o:=Y #[.func (.func 232) #[] #[pa A]] 332) a7 z5;have a4:(F2.set g (Y #[.func (.func 232) #[] #[pa A]] 332)) C=_:=(aw _ _ (ne (by decide) q1 q5)).trans q1;have a5:(F2.set g (Y #[.func (.func 232) #[] #[pa A]] 332)) A=_:=(aw _ _ (ne (by decide) q3 q5)).trans q3;have X:(F2.set g (Y #[.func (.func 232) #[] #[pa A]] 332)) bm=_:=(aw _ _ (ne (by decide) B q5)).trans B;have P:(F2.set g (Y #[.func (.func 232) #[] #[pa A]] 332)) r=_:=(aw _ _ (ne (by decide) E q5)).trans E;have D:(F2.set g (Y #[.func (.func 232) #[] #[pa A]] 332)) w=_:=(aw _ _ a6).trans q4;have a9:=aq F2 g (Y #[.func (.func 232) #[] #[pa A]] 332);clear q1 q3 B E q4 q5 a7 ne;generalize F2.set g (Y #[.func (.func 232) #[] #[pa A]] 332)=L at*;have ne:∀{x y:Nat} {c d:Γ} {e e':TypeId},e≠e'->L x=V (Y c e)->L y=V (Y d e')->x≠y:=λhe J hy e=>by rw [e,hy] at J;simp at J;exact he J.2.symm
 refine Wp (o:=0) D (by simp) ?_;have e4:(#[Value.nilFunc]:Γ).setIfInBounds 0 (.func (.func 236) #[] #[pa C,pa w,pa g])= #[.func (.func 236) #[] #[pa C,pa w,pa g]]:=rfl;rw [e4];have a2:=aB (o:=Y #[.func (.func 236) #[] #[pa C,pa w,pa g]] 329) b0 z4;have q1:(L.set w (Y #[.func (.func 236) #[] #[pa C,pa w,pa g]] 329)) C=_:=(aw _ _ (ne (by decide) a4 D)).trans a4;have q3:(L.set w (Y #[.func (.func 236) #[] #[pa C,pa w,pa g]] 329)) A=_:=(aw _ _ (ne (by decide) a5 D)).trans a5;have B:(L.set w (Y #[.func (.func 236) #[] #[pa C,pa w,pa g]] 329)) bm=_:=(aw _ _ (ne (by decide) X D)).trans X;have E:(L.set w (Y #[.func (.func 236) #[] #[pa C,pa w,pa g]] 329)) r=_:=(aw _ _ (ne (by decide) P D)).trans P;have q5:(L.set w (Y #[.func (.func 236) #[] #[pa C,pa w,pa g]] 329)) g=_:=(aw _ _ a6.symm).trans a9;have q4:=aq L w (Y #[.func (.func 236) #[] #[pa C,pa w,pa g]] 329);clear a4 a5 X P D a9 b0 ne;generalize L.set w (Y #[.func (.func 236) #[] #[pa C,pa w,pa g]] 329)=F4 at*;have c6:=hs.le a2;have hC:Cmp F4 C A w g bm r l UQ:=by refine ⟨⟨hT.le a2,q3,⟨_,B,rfl⟩,E⟩,⟨s,q1,c6,λa ha e=> ?_⟩,q4,q5⟩;obtain ⟨o,N⟩:=hs.block (by rw [iD];omega) ha;rw [e,zf] at N;cases N
 have H:F4.cell (ou A 0 I)=V (pa bm):=by rw [av q3];rfl
 refine ⟨_,rfl,_,H,_,H,_,H,_,by rw [av q4];rfl,s,by rw [av q1];rfl,236,#[],_,rfl,oo,?_⟩;have ew:i64.wrap ((s.len:Int) - 1)=((l.length - 1:Nat):Int):=by rw [a8,aJ (by omega)];omega
 rw [ew];refine (GH hl h0 ht hC).mono ?_;rintro _ O ⟨rfl,a0,hK⟩;have K:∀{x:Nat} {c:Γ} {e:TypeId},e≠302->F4 x=V (Y c e)->x≠r:=λhe J e=>by rw [e,E] at J;simp at J;exact he J.2.symm
 have q1:=hK _ _ q1 (K (by decide) q1);have q3:=hK _ _ q3 (K (by decide) q3);have B:=hK _ _ B (K (by decide) B);have b2:F0.le O:=λy o hy=>hK y o (a2 y o hy) λe=>by rw [e,zf] at hy;cases hy
 have H:∀{G:PH},G A=V (Y #[pa bm] 299)->G.cell (ou A 0 I)=V (pa bm):=λh=>by rw [av h];rfl
 have a1:A≠bm:=λe=>by rw [e,B] at q3;simp at q3
 have b8:r≠bm:=λe=>by rw [<- e,a0.lnk.qf] at B;simp at B
 have c5:∀a,s.qa5=V a->a.block≠bm:=λa ha e=>by obtain ⟨o,N⟩:=hs.block (by rw [iD];omega) ha;rw [e,zm] at N;cases N
 have E:=a0.lnk.qf;have c4:=hs.le b2;clear hC a0 hK K;refine ⟨_,_,_,rfl,by rw [av q1];rfl,H q3,H q3,H q3,_,rfl,rfl,fQ _,_,_,B,rfl,(by show 9<=19;omega),?_⟩;refine tR ?_;have w1:wr (bL s noP noP r l.length mz) ((ou bm 0 I).add 1).off (pm (fB (bO l))).toList=bL s (fB (bO l)) noP r l.length mz:=qen _ _ _ _ _ _ _;rw [w1];show (O.set bm _).cell _=_/\_;have b6:(O.set bm (Y (bL s (fB (bO l)) noP r l.length mz) 305)) A=_:=(aw _ _ a1).trans q3;have b7:=aq O bm (Y (bL s (fB (bO l)) noP r l.length mz) 305);refine ⟨H b6,H b6,_,rfl,rfl,fQ _,_,_,b7,rfl,(by show 17<=19;omega),?_⟩;refine tR ?_;have w2:wr (bL s (fB (bO l)) noP r l.length mz) ((ou bm 0 I).add 9).off (pm (lB (bO l))).toList=bL s (fB (bO l)) (lB (bO l)) r l.length mz:=qeo _ _ _ _ _ _ _;rw [w2];rw [show ((O.set ((ou bm 0 I).add 1).block (Y (bL s (fB (bO l)) noP r l.length mz) 305)).set ((ou bm 0 I).add 9).block (Y (bL s (fB (bO l)) (lB (bO l)) r l.length mz) 305))=O.set bm (Y (bL s (fB (bO l)) (lB (bO l)) r l.length mz) 305) from aR _ _ _ _];have c2:(O.set bm (Y (bL s (fB (bO l)) (lB (bO l)) r l.length mz) 305)) A=_:=(aw _ _ a1).trans q3;have b9:=aq O bm (Y (bL s (fB (bO l)) (lB (bO l)) r l.length mz) 305);refine ⟨H c2,_,rfl,?_⟩;refine tG (b:=bm) (o:=18) rfl b9 (by show 18<19;omega) ?_;rw [aR];have w3:(bL s (fB (bO l)) (lB (bO l)) r l.length mz).setIfInBounds 18 (.bool (bO l).nul)=bL s (fB (bO l)) (lB (bO l)) r l.length (bO l).nul:=qep _ _ _ _ _ _ _;rw [w3];refine ⟨_,H ((aw _ _ a1).trans q3),k _ ⟨s,r,aq _ _ _,c4.keep λa ha o N=>(aw _ _ (c5 a ha)).trans N,?_⟩ (aB b2 zm)⟩;rw [aw _ _ b8,E];congr 3
theorem qhV {s:Sl} (hT:Tab F) (P:GoodL l) (hl:l.length<=512) (N:RdS F s 5 (dE l)):ν 205 #[s.v] F λr D=>(∃bm,r=pa bm/\Mch D bm l (bO l))/\F.le D:=by
 have C:=N.nlen;refine qeC ?_;unfold Qr;have fin:∀{D:PH} {G:List (Nat×Γ×TypeId)} {A g bm B:Nat},Lo F D G->(A,#[s.v],164)∈G->(B,#[pa bm],299)∈G->
   (bm,(#[s.v,.int .u64 0,.int .u64 0,.int .u64 0,.int .u64 0,.int .u64 0,.int .u64 0,.int .u64 0,.int .u64 0,.int .u64 0,.int .u64 0,.int .u64 0,.int .u64 0,.int .u64 0,.int .u64 0,.int .u64 0,.int .u64 0,nE ⟨V ⟨g,0,I⟩,s.len,s.len⟩,.bool mz]:Γ),305)∈G->
   (g,(de s.len UQ).toArray,302)∈G->jI A (V ⟨B,0,I⟩) (λr D=>(∃bm,r=pa bm/\Mch D bm l (bO l))/\F.le D) D:=λh X W K H=>by
  have em:∀g:Nat,(#[s.v,.int .u64 0,.int .u64 0,.int .u64 0,.int .u64 0,.int .u64 0,.int .u64 0,.int .u64 0,.int .u64 0,.int .u64 0,.int .u64 0,.int .u64 0,.int .u64 0,.int .u64 0,.int .u64 0,.int .u64 0,.int .u64 0,nE ⟨V ⟨g,0,I⟩,s.len,s.len⟩,.bool mz]:Γ)=bL s noP noP g l.length mz:=λg=>by unfold bL noP;simp only [xP,C];rfl
  rw [em] at K;rw [C] at H;exact Cv hT P hl N h.le (h.get X) (h.get W) (h.get K) (h.get H) (h.z _ K).2 (h.z _ H).2 λQ a b=>⟨⟨_,rfl,a⟩,b⟩
 have h:=Lo.start F;refine h.new _ _ λA M h=> ?_;have c1:M.cell (ou A 0 I)=V s.v:=by rw [h.cell (b:=A) (w:= #[s.v]) (e:=164) (by simp)];rfl
 refine ⟨s,c1,s,c1,?_,?_⟩
 ·refine bT underlying303 Kz KA rfl (by omega) (Va _) (by omega) (by omega) ?_;intro g E;rw [Z7,N4];have h:=h.new' (de s.len UQ).toArray 302 E;generalize M.set g (Y (de s.len UQ).toArray 302)=F2 at*;have c1:F2.cell (ou A 0 I)=V s.v:=by rw [h.cell (b:=A) (w:= #[s.v]) (e:=164) (by simp)];rfl
  refine ⟨_,rfl,c1,c1,?_,?_⟩
  ·refine h.new _ _ λbm J h=> ?_;refine h.new _ _ λB O h=> ?_;refine Lo.put1 [] [(bm,_,305),(g,_,302),(A,_,164)] (b:=B) (i:=0) (w0:= #[.pointer I]) (w:= #[pa bm]) (e:=299) h (by simp) rfl λL h=> ?_;exact fin h (.tail _ (.tail _ (.tail _ (.head _)))) (.head _) (.tail _ (.head _)) (.tail _ (.tail _ (.head _)))
  ·refine h.new _ _ λB J h=> ?_;refine h.new _ _ λbm O h=> ?_;refine Lo.put1 [(bm,_,305)] [(g,_,302),(A,_,164)] (b:=B) (i:=0) (w0:= #[.pointer I]) (w:= #[pa bm]) (e:=299) h (by simp) rfl λL h=> ?_;exact fin h (.tail _ (.tail _ (.tail _ (.head _)))) (.tail _ (.head _)) (.head _) (.tail _ (.tail _ (.head _)))
 ·refine h.new _ _ λB F2 h=> ?_;refine bT underlying303 Kz KA rfl (by omega) (Va _) (by omega) (by omega) ?_;intro g E;rw [Z7,N4];have h:=h.new' (de s.len UQ).toArray 302 E;generalize F2.set g (Y (de s.len UQ).toArray 302)=J at*;have c1:J.cell (ou A 0 I)=V s.v:=by rw [h.cell (b:=A) (w:= #[s.v]) (e:=164) (by simp)];rfl
  refine ⟨_,rfl,c1,c1,?_⟩;refine h.new _ _ λbm O h=> ?_;refine Lo.put1 [(bm,_,305),(g,_,302)] [(A,_,164)] (b:=B) (i:=0) (w0:= #[.pointer I]) (w:= #[pa bm]) (e:=299) h (by simp) rfl λL h=> ?_;exact fin h (.tail _ (.tail _ (.tail _ (.head _)))) (.tail _ (.tail _ (.head _))) (.head _) (.tail _ (.head _))
end
abbrev ZW:=ForInStep (Option Bool×Unit)
section
variable {F:PH}
theorem Cw {P:Program} {α:Type} (step:α->Option Bool×Unit->Sem ZW) (g:α->Bool):∀(l:List α),(∀a∈l,pn P (step a (I,())) F (if g a then .yield (I,()) else .done (V mz,())))->
  pn P (forIn l (I,()) step) F (if l.all g then (I,()) else (V mz,()))
 |[],_=>rfl
 |a::l,h=>by
  rw [Ym,am];refine ⟨_,h a (by simp),?_⟩;rw [Xv];cases g a with
  |false=>rfl
  |true=>rw [Wy];exact Cw step g l λb r=>h b (by simp [r])
theorem Fo (t:TypeId) (k:IntKind) (g:prog.underlying t=V (.int k)) (d:Nat) (a b:Int):pn prog (Op.equalIn (d+1) t (.int k a) (.int k b)) F (decide (a=b)):=by simp only [Op.equalIn,am];refine ⟨_,(az g _).2 rfl,?_⟩;simp only [if_true,cJ];by_cases h:a=b<;>simp [h]
theorem uV (t:TypeId) (k:IntKind) (g:prog.underlying t=V (.int k)) {cs:Γ} {off:Nat} {v:ξ} (h:cs[off]? =V v):pn prog (part t cs off) F v:=by unfold part;simp only [am];refine ⟨mz,(dr g _).2 rfl,?_⟩;simp only [VN,if_false,h];rfl
theorem KB (t:TypeId) (k:IntKind) (g:prog.underlying t=V (.int k)) (n off:Nat) (cs ds:Γ) (x y:Int) (w:cs[off]? =V (.int k x)) (A:ds[off]? =V (.int k y)):
  pn prog (do
   let a <- part t cs off
   let b <- part t ds off
   let r <- Op.equalIn (n+1) t a b
   if (!r)=mY then pure (ForInStep.done (V mz,())) else pure (ForInStep.yield (I,())):Sem ZW) F (if decide (x=y)=mY then .yield (I,()) else .done (V mz,())):=by
 simp only [am];refine ⟨_,uV t k g w,_,uV t k g A,_,Fo t k g n x y,?_⟩;by_cases h:x=y<;>simp [h]
theorem qeq:vA prog 40=V (1,8):=by kernel_rfl
theorem aaz {cs ds:Γ} {f g:Nat->Int} (A:∀k,k<8->cs[k]? =V (.int .u64 (f k))) (w:∀k,k<8->ds[k]? =V (.int .u64 (g k))):
  pn prog (Op.equal 302 (.agg cs) (.agg ds)) F ((List.range 8).all λk=>decide (f k=g k)):=by
 unfold Op.equal Op.maxDepth;show pn prog (Op.equalIn (9998+1+1) 302 _ _) _ _;unfold Op.equalIn;simp only [am];refine ⟨_,(az underlying302 _).2 rfl,?_⟩;dsimp only;refine (am _ _ _ _).2 ⟨1,(bq qeq _).2 rfl,?_⟩;rw [Std.Legacy.Range.forIn_eq_forIn_range'];simp only [Std.Legacy.Range.size,VP,Zk,Nat.div_one];rw [am];refine ⟨_,Cw _ (λk=>decide (f k=g k)) _ λk r=> ?_,?_⟩
 ·have h:k<8:=by have:=List.mem_range'.1 r;omega
  rw [xB];exact KB 40 .u64 underlying40 9998 k cs ds _ _ (A k h) (w k h)
 ·have B:List.range' 0 8 1=List.range 8:=rfl;rw [B];cases (List.range 8).all (λk=>decide (f k=g k))<;>rfl
theorem aaA (P Q:Nat->Bool):pn prog (Op.equal 302 (.agg (pm P)) (.agg (pm Q))) F ((List.range 8).all λk=>decide ((wd P k:Int)=(wd Q k:Int))):=
 aaz (λ_ h=>eS P h) (λ_ h=>eS Q h)
theorem GI (P:Nat->Bool):((List.range 8).all λk=>decide ((wd P k:Int)=(wd noP k:Int)))=mY↔∀i,i<512->P i=mz:=by
 rw [Vn];have g:∀k,wd noP k=0:=λk=>xP k;constructor
 ·intro h i hi;have:=ζ (h (i / 64) (WU.2 (by omega)));rw [g] at this;have w:wd P (i / 64)=0:=by omega
  have:=iL.1 w (i % 64) (by omega);rwa [show 64*(i / 64)+i % 64=i by omega] at this
 ·intro h k r;have A:=WU.1 r;have:wd P k=0:=iL.2 λj B=>h _ (by omega);rw [g,this];rfl
end
def Nx (acc fol:Nat->Nat->Prop):(Nat->Prop)->Δ->Nat->Prop
 |S,[],j=>S j
 |S,b::w,j=>Nx acc fol (λj=>∃i,S i/\acc i b/\fol i j) w j
section
variable {acc fol:Nat->Nat->Prop} {e:Nat->Prop}
theorem oq:∀(w u:Δ) (S:Nat->Prop) (j:Nat),Nx acc fol S (w++u) j↔Nx acc fol (Nx acc fol S w) u j
 |[],_,_,_=>Iff.rfl
 |_::w,u,_,j=>oq w u _ j
theorem Fp (w:Δ) (b:Nat) (S:Nat->Prop) (j:Nat):Nx acc fol S (w++[b]) j↔∃i,Nx acc fol S w i/\acc i b/\fol i j:=by rw [oq];rfl
theorem Fq:∀(w:Δ) (S:Nat->Prop),(∀j,¬S j)->∀j,¬Nx acc fol S w j
 |[],_,h,j=>h j
 |_::w,_,h,j=>Fq w _ (λ_ ⟨i,hi,_⟩=>h i hi) j
theorem KD:∀(w:Δ) (b:Nat) (S:Nat->Prop),(∃i,S i/\Pth acc fol e i (w++[b]))↔∃j,Nx acc fol S w j/\acc j b/\e j
 |[],b,S=>by
  constructor
  ·rintro ⟨i,h,r,⟨_,g⟩|⟨j,_,g⟩⟩
   ·exact ⟨i,h,r,g⟩
   ·exact g.elim
  ·rintro ⟨i,h,r,g⟩;exact ⟨i,h,r,.inl ⟨rfl,g⟩⟩
 |c::w,b,S=>by
  have ih:=KD w b (λj=>∃i,S i/\acc i c/\fol i j);show _↔∃j,Nx acc fol (λj=>∃i,S i/\acc i c/\fol i j) w j/\acc j b/\e j;rw [<- ih];constructor
  ·rintro ⟨i,h,r,⟨g,_⟩|⟨j,g,A⟩⟩
   ·exact absurd g (by simp)
   ·exact ⟨j,⟨i,h,r,g⟩,A⟩
  ·rintro ⟨j,⟨i,h,r,g⟩,A⟩;exact ⟨i,h,r,.inr ⟨j,g,A⟩⟩
end
def mT (l:List Nd) (i b:Nat):Prop:=∃x,l[i]? =V x/\x.lo<=(b:Int)/\(b:Int)<=x.hi
theorem GJ {l:List Nd} (H:GoodL l) {i:Nat} {t:Lt} {ns:Δ} (h:cQ l i t ns):t.fits (mT l):=by
 induction h with
 |emp=>trivial
 | @rng i lo hi x w E O M L K=>
  intro b;constructor
  ·rintro ⟨y,J,C,A⟩;rw [w] at J;cases J;omega
  ·rintro ⟨C,A⟩;exact ⟨x,w,by omega,by omega⟩
 | @seq i a b x t u N nb w E g r B D it G=>exact ⟨it,G,λj C A=>QJ H w (.inl E) g r (qG B j ((dG B).2 j C)) (qG D j ((dG D).2 j A))⟩
 | @alt i a b x t u N nb w E g r B D it G=>exact ⟨it,G,λj C A=>QJ H w (.inr E) g r (qG B j ((dG B).2 j C)) (qG D j ((dG D).2 j A))⟩
 |rep _ _ _ _ it=>exact it
abbrev mU (l:List Nd) (t:Lt) (w:Δ):Nat->Prop:=Nx (mT l) t.fol t.first w
theorem Fs {l:List Nd} {t:Lt} (g:t.fits (mT l)) (w:Δ) (b:Nat):Lg t.pat (w++[b])↔∃j,mU l t w j/\mT l j b/\t.last j:=by rw [t.places g _ (by simp)];exact KD w b t.first
theorem jL {g:Δ} {n:Nat} (h:n<g.length):g.take (n+1)=g.take n++[g[n]]:=by rw [Wv,N5 h];rfl
theorem KE {l:List Nd} {t:Lt} (G:t.fits (mT l)) {g:Δ} {n:Nat} (h:n<g.length) (B:∀j,¬(mU l t (g.take n) j/\mT l j g[n])) {m:Nat} (K:n<m) (H:m<=g.length):¬Lg t.pat (g.take m):=by
 obtain ⟨m,rfl⟩:∃J,m=J+1:=⟨m - 1,by omega⟩;have w:m<g.length:=by omega
 rw [jL w,Fs G];rintro ⟨j,A,D,_⟩;by_cases e:m=n
 ·subst e;exact B j ⟨A,D⟩
 ·have E:∀j,¬mU l t (g.take (n+1)) j:=λj C=>by rw [jL h] at C;obtain ⟨i,a,b,_⟩:=(Fp _ _ _ _).1 C;exact B i ⟨a,b⟩
  have:g.take m=g.take (n+1)++(g.take m).drop (n+1):=by have:=WI (n+1) (g.take m);rw [List.take_take,show min (n+1) m=n+1 by omega] at this;exact this.symm
  rw [this] at A;have r:=(oq _ _ _ _).1 A;exact Fq _ _ E j r
open Classical in
def po (l:List Nd) (t:Lt) (w:Δ):Nat->Bool:=λj=>decide (mU l t w j)
open Classical in
def xI (l:List Nd) (b:Nat):Nat->Bool:=λi=>decide (mT l i b)
theorem mV {l:List Nd} {t:Lt} {w:Δ} {j:Nat}:po l t w j=mY↔mU l t w j:=by simp [po]
theorem mW {l:List Nd} {b i:Nat}:xI l b i=mY↔mT l i b:=by simp [xI]
theorem qfG (L G Q O M J K N P H B E g C h A r w D:ξ):(#[L,G,Q,O,M,J,K,N,P,H,B,E,g,C,h,A,r,w,D]:Γ)[1]? =V G:=rfl
theorem qfH (M L G P N J K O Q H B E g C h A r w D:ξ):(#[M,L,G,P,N,J,K,O,Q,H,B,E,g,C,h,A,r,w,D]:Γ)[2]? =V G:=rfl
theorem qfI (M L Q G N J K O P H B E g C h A r w D:ξ):(#[M,L,Q,G,N,J,K,O,P,H,B,E,g,C,h,A,r,w,D]:Γ)[3]? =V G:=rfl
theorem qfJ (M L Q O G J K N P H B E g C h A r w D:ξ):(#[M,L,Q,O,G,J,K,N,P,H,B,E,g,C,h,A,r,w,D]:Γ)[4]? =V G:=rfl
theorem qfK (L K Q O M G J N P H B E g C h A r w D:ξ):(#[L,K,Q,O,M,G,J,N,P,H,B,E,g,C,h,A,r,w,D]:Γ)[5]? =V G:=rfl
theorem qfL (L K Q O M J G N P H B E g C h A r w D:ξ):(#[L,K,Q,O,M,J,G,N,P,H,B,E,g,C,h,A,r,w,D]:Γ)[6]? =V G:=rfl
theorem qfM (M L Q O N J K G P H B E g C h A r w D:ξ):(#[M,L,Q,O,N,J,K,G,P,H,B,E,g,C,h,A,r,w,D]:Γ)[7]? =V G:=rfl
theorem qfN (M L Q P N J K O G H B E g C h A r w D:ξ):(#[M,L,Q,P,N,J,K,O,G,H,B,E,g,C,h,A,r,w,D]:Γ)[8]? =V G:=rfl
theorem qfO (L K Q O M H J N P G B E g C h A r w D:ξ):(#[L,K,Q,O,M,H,J,N,P,G,B,E,g,C,h,A,r,w,D]:Γ)[9]? =V G:=rfl
theorem SY (L K Q O M H J N P G g E h C r B w A D:ξ):(#[L,K,Q,O,M,H,J,N,P,G,g,E,h,C,r,B,w,A,D]:Γ)[10]? =V g:=rfl
theorem SZ (L K Q O M H J N P G C g h D r B w A E:ξ):(#[L,K,Q,O,M,H,J,N,P,G,C,g,h,D,r,B,w,A,E]:Γ)[11]? =V g:=rfl
theorem S3 (L K Q O M H J N P G B E g C h A r w D:ξ):(#[L,K,Q,O,M,H,J,N,P,G,B,E,g,C,h,A,r,w,D]:Γ)[12]? =V g:=rfl
theorem S4 (L K Q O M H J N P G C E h g r B w A D:ξ):(#[L,K,Q,O,M,H,J,N,P,G,C,E,h,g,r,B,w,A,D]:Γ)[13]? =V g:=rfl
theorem S5 (L K Q O M H J N P G B E h C g A r w D:ξ):(#[L,K,Q,O,M,H,J,N,P,G,B,E,h,C,g,A,r,w,D]:Γ)[14]? =V g:=rfl
theorem S6 (L K Q O M H J N P G B E h C r g w A D:ξ):(#[L,K,Q,O,M,H,J,N,P,G,B,E,h,C,r,g,w,A,D]:Γ)[15]? =V g:=rfl
theorem S7 (L K Q O M H J N P G B E h C r A g w D:ξ):(#[L,K,Q,O,M,H,J,N,P,G,B,E,h,C,r,A,g,w,D]:Γ)[16]? =V g:=rfl
theorem KG {s:Sl} {P Q:Nat->Bool} {g n:Nat} {e:Bool} {i:Nat} (hi:i<8):(bL s P Q g n e)[1+i]? =V (cX (wd P i))/\(bL s P Q g n e)[9+i]? =V (cX (wd Q i)):=by
 have:i=0\/i=1\/i=2\/i=3\/i=4\/i=5\/i=6\/i=7:=by omega
 unfold bL;rcases this with rfl|rfl|rfl|rfl|rfl|rfl|rfl|rfl
 ·exact ⟨qfG _ _ _ _ _ _ _ _ _ _ _ _ _ _ _ _ _ _ _,qfO _ _ _ _ _ _ _ _ _ _ _ _ _ _ _ _ _ _ _⟩
 ·exact ⟨qfH _ _ _ _ _ _ _ _ _ _ _ _ _ _ _ _ _ _ _,SY _ _ _ _ _ _ _ _ _ _ _ _ _ _ _ _ _ _ _⟩
 ·exact ⟨qfI _ _ _ _ _ _ _ _ _ _ _ _ _ _ _ _ _ _ _,SZ _ _ _ _ _ _ _ _ _ _ _ _ _ _ _ _ _ _ _⟩
 ·exact ⟨qfJ _ _ _ _ _ _ _ _ _ _ _ _ _ _ _ _ _ _ _,S3 _ _ _ _ _ _ _ _ _ _ _ _ _ _ _ _ _ _ _⟩
 ·exact ⟨qfK _ _ _ _ _ _ _ _ _ _ _ _ _ _ _ _ _ _ _,S4 _ _ _ _ _ _ _ _ _ _ _ _ _ _ _ _ _ _ _⟩
 ·exact ⟨qfL _ _ _ _ _ _ _ _ _ _ _ _ _ _ _ _ _ _ _,S5 _ _ _ _ _ _ _ _ _ _ _ _ _ _ _ _ _ _ _⟩
 ·exact ⟨qfM _ _ _ _ _ _ _ _ _ _ _ _ _ _ _ _ _ _ _,S6 _ _ _ _ _ _ _ _ _ _ _ _ _ _ _ _ _ _ _⟩
 ·exact ⟨qfN _ _ _ _ _ _ _ _ _ _ _ _ _ _ _ _ _ _ _,S7 _ _ _ _ _ _ _ _ _ _ _ _ _ _ _ _ _ _ _⟩
theorem KH {F:PH} {bm:Nat} {s:Sl} {P Q:Nat->Bool} {r n:Nat} {e:Bool} (h:F bm=V (Y (bL s P Q r n e) 305)):F.row ((ou bm 0 I).add 1) (pm P)/\F.row ((ou bm 0 I).add 9) (pm Q):=by
 constructor
 ·intro i hi;have g:i<8:=hi;rw [cz,cz,av h,<- Wt hi,eS P g,ye];exact (KG g).1
 ·intro i hi;have g:i<8:=hi;rw [cz,cz,av h,<- Wt hi,eS Q g,ye];exact (KG g).2
theorem KI {F:PH} {B n i:Nat} {R:Nat->Nat->Bool} (h:F B=V (Y (de n R).toArray 302)) (hi:i<n):F.row ((ou B 0 I).add (i*8)) (pm (R i)):=by
 obtain ⟨w,r,g,A,_⟩:=oT hi R;have C:kj F B 302 w (R i) r:=by unfold kj;rw [<- A];exact h
 have:=C.row;rw [g] at this;rw [cz,ye];exact this
theorem aaB {F:PH} {s:Sl} {l:List Nd} (h:RdS F s 5 (dE l)) {i:Nat} {x:Nd} (w:l[i]? =V x):∃a,s.qa5=V a/\F.row (a.add (i*5)) x.arr/\F.cell ((a.add (i*5)).add 1)=V (U x.lo)/\F.cell ((a.add (i*5)).add 2)=V (U x.hi):=by obtain ⟨a,r,g⟩:=Xl h w;exact ⟨a,r,g,by have:=g 1 (by simp);simpa using this,by have:=g 2 (by simp);simpa using this⟩
theorem Lo.sub {G F:PH} {xs g:List (Nat×Γ×TypeId)} (h:Lo G F xs) (r:g.Sublist xs):Lo G F g:=⟨h.le,λp w=>h.z p (r.subset w),h.nd.sublist (r.map _)⟩
section
variable {G F:PH} {l:List Nd} {t:Lt} {bm b3 b4 b6 b7 b8 b9 n:Nat} {st:ο} {N P8 P9:Nat->Bool}
theorem GK (hM:Mch G bm l t) (hl:l.length<=512) (h:Lo G F [(b9,pm P9,302),(b8,pm P8,302),(b7,#[U n],3),(b6,pm N,302),(b4,#[.string st],9),(b3,#[pa bm],299)]) (hn:n<st.size) (_:st.size<=9223372036854775807) {i:Nat} (hi:i<l.length):
  ν 238 #[U i,pa b4,pa b7,pa b3,pa b8,pa b9] F λr F'=>r=.tuple #[]/\
   Lo G F' [(b9,pm (λj=>P9 j || (xI l (cb st n) i && yW t i j)),302),(b8,pm (λj=>P8 j || (decide (j=i) && xI l (cb st n) i)),302),(b7,#[U n],3),(b6,pm N,302),(b4,#[.string st],9),(b3,#[pa bm],299)]:=by
 obtain ⟨s,bf,qm,hs,qf⟩:=(hM.le h.le).ex;have a0:=hs.nlen;refine qeL ?_;unfold QB;have C:l[i]? =V l[i]:=N5 hi;generalize l[i]=x at C;obtain ⟨a,ha,_,W,D⟩:=aaB hs C;have c3:F.cell (ou b3 0 I)=V (pa bm):=by rw [h.cell (b:=b3) (w:= #[pa bm]) (e:=299) (by simp)];rfl
 have cm:F.cell (ou bm 0 I)=V s.v:=by rw [av qm];rfl
 have E:nT (i:Int)=i:=N4 i;refine ⟨_,rfl,st,by rw [h.cell (b:=b4) (w:= #[.string st]) (e:=9) (by simp)];rfl,_,rfl,(n:Int),by rw [h.cell (b:=b7) (w:= #[U n]) (e:=3) (by simp)];rfl,by omega,by omega,by simpa using hn,_,rfl,_,rfl,_,c3,_,rfl,s,cm,a,ha,by omega,by omega,x.lo,by rw [E];exact W,?_⟩;rw [SK rfl hn,YD (by have:=Np st n;omega)]
 have j1:∀H:Bool,H=xI l (cb st n) i->qz i (V ⟨b3,0,I⟩) (V ⟨b8,0,I⟩) (V ⟨b9,0,I⟩) H (λr F'=>r=.tuple #[]/\
   Lo G F' [(b9,pm (λj=>P9 j || (xI l (cb st n) i && yW t i j)),302),(b8,pm (λj=>P8 j || (decide (j=i) && xI l (cb st n) i)),302),(b7,#[U n],3),(b6,pm N,302),(b4,#[.string st],9),(b3,#[pa bm],299)]) F:=λH A=>by
  unfold qz;refine ⟨λM=> ?_,λM=> ?_⟩
  ·rw [M] at A;rw [<- A];refine (Lo.add [(b9,pm P9,302)] _ (b:=b8) (P:=P8) (by omega) h).mono ?_;rintro _ F2 ⟨rfl,g⟩;replace g:Lo G F2 [(b9,pm P9,302),(b8,pm (λj=>P8 j || decide (j=i)),302),(b7,#[U n],3),(b6,pm N,302),(b4,#[.string st],9),(b3,#[pa bm],299)]:=g;obtain ⟨s2,a3,J,a2,L⟩:=(hM.le g.le).ex;have X:F2.cell (ou b3 0 I)=V (pa bm):=by rw [g.cell (b:=b3) (w:= #[pa bm]) (e:=299) (by simp)];rfl
   refine ⟨rfl,_,rfl,_,X,_,rfl,_,by rw [cz,ye,av J];rfl,_,rfl,by omega,by simp only;omega,pm (yW t i),rfl,by rw [E];exact KI L hi,?_⟩;refine (Lo.join [] _ (b:=b9) (P:=P9) (Q:=yW t i) g).mono ?_;rintro _ F3 ⟨rfl,h3⟩;have K:(λj=>P9 j || (mY && yW t i j))=λj=>P9 j || yW t i j:=by funext j;simp
   have O:(λj=>P8 j || (decide (j=i) && mY))=λj=>P8 j || decide (j=i):=by funext j;simp
   rw [K,O];exact ⟨rfl,rfl,h3⟩
  ·rw [M] at A;rw [<- A];have K:(λj=>P9 j || (mz && yW t i j))=P9:=by funext j;simp
   have O:(λj=>P8 j || (decide (j=i) && mz))=P8:=by funext j;simp
   rw [K,O];exact ⟨rfl,h⟩
 refine ⟨λh1=>⟨_,c3,_,rfl,s,cm,a,ha,by omega,by omega,x.hi,by rw [E];exact D,j1 _ ?_⟩,λh1=>j1 _ ?_⟩
 ·rw [wi,δ,mW];constructor
  ·exact λg=>⟨x,C,h1,g⟩
  ·rintro ⟨y,B,_,g⟩;rw [C] at B;cases B;exact g
 ·symm;rw [<- Yk,mW];rintro ⟨y,B,g,_⟩;rw [C] at B;cases B;exact h1 g
theorem S8:aF prog 238=mY:=by kernel_rfl
theorem KJ {g fol:Nat->Nat->Prop} {P:Nat->Prop} (r:∀i j,fol i j->P j):∀(w:Δ) (S:Nat->Prop),(∀j,S j->P j)->∀j,Nx g fol S w j->P j
 |[],_,hS,j,h=>hS j h
 |_::w,_,_,j,h=>KJ r w _ (λj ⟨i,_,_,h⟩=>r i j h) j h
theorem tn {l:List Nd} {r:Nat} {t:Lt} {ns:Δ} (g:cQ l r t ns) {w:Δ} {j:Nat} (h:mU l t w j):j<l.length:=
 KJ (P:=λj=>j<l.length) (λ_ j h=>(dG g).1 j ((dG g).2 j (t.fol_lab h).2)) w t.first (λj h=>(dG g).1 j ((dG g).2 j (t.first_lab h))) j h
theorem KL {l:List Nd} {t:Lt} (w:Δ) (b j:Nat):mU l t (w++[b]) j↔∃i,mU l t w i/\mT l i b/\t.fol i j:=Fp w b _ j
theorem Lo.le' {G F r:PH} {xs:List (Nat×Γ×TypeId)} (h:Lo G F xs) (w:F.le r):Lo G r xs:=⟨aa h.le w,λp g=>⟨w _ _ (h.z p g).1,(h.z p g).2⟩,h.nd⟩
open Classical in
def XM (l:List Nd) (t:Lt) (w:Δ) (b m:Nat):Nat->Bool:=λj=>decide (j<m/\mU l t w j/\mT l j b)
theorem jM {l:List Nd} {t:Lt} {w:Δ} {b m j:Nat}:XM l t w b m j=mY↔j<m/\mU l t w j/\mT l j b:=by simp [XM]
open Classical in
def XG (l:List Nd) (t:Lt) (w:Δ) (b m:Nat):Nat->Bool:=λj=>decide (∃i,i<m/\mU l t w i/\mT l i b/\t.fol i j)
theorem jN {l:List Nd} {t:Lt} {w:Δ} {b m j:Nat}:XG l t w b m j=mY↔∃i,i<m/\mU l t w i/\mT l i b/\t.fol i j:=by simp [XG]
set_option maxHeartbeats 1000000 in
theorem KM {k:FuncId} {cap:Γ} {Inv:Nat->Ψ} (hk:aF prog k=mY) (hl:l.length<=512) (hG:GoodL l) {ns:Δ} {i0:Nat} (ht:cQ l i0 t ns) (c5:st.size<=9223372036854775806)
  (hI:∀n F,Inv n F->Tab F/\Mch F bm l t)
  (H:∀n F (q:Bool),n<st.size->(q=mY↔Lg t.pat ((bs st).take (n+1)))->Inv n F->aj prog k (#[U ((n+1:Nat):Int),.bool q]++cap) F λr A=>r=.bool mY/\Inv (n+1) A) (hF:Inv 0 F):
  ν 206 #[pa bm,.string st,.func (.func k) #[] cap] F λr A=>r=.tuple #[]/\∃n G,n<=st.size/\Inv n G/\G.le A/\(n=st.size\/∀m,n<m->m<=st.size->¬Lg t.pat ((bs st).take m)):=by
 have a1:=GJ hG ht;refine qeD ?_;unfold Qt;have h:=Lo.start F;refine h.new _ _ λb3 F1 h=> ?_;refine h.new _ _ λb4 F2 h=> ?_;obtain ⟨s,bf,qm,hs,qf⟩:=((hI 0 F hF).2.le h.le).ex;refine ⟨_,by rw [h.cell (b:=b3) (w:= #[pa bm]) (e:=299) (by simp)];rfl,_,rfl,pm (fB t),rfl,(KH qm).1,?_⟩;refine h.new _ _ λb6 F3 h=> ?_;rw [<- dF] at h;refine Lo.put [] _ (n:=8) (b:=b6) (w0:=pm noP) (w:=pm (fB t)) (e:=302) h rfl rfl (fQ _) λF4 h=> ?_;replace h:Lo F F4 [(b6,pm (fB t),302),(b4,#[.string st],9),(b3,#[pa bm],299)]:=h;have e0:fB t=po l t ((bs st).take 0):=by funext j;rw [wi,dO,mV];rfl
 rw [e0] at h;refine ⟨st,by rw [h.cell (b:=b4) (w:= #[.string st]) (e:=9) (by simp)];rfl,λM v A=>∃n G,v=((n:Nat):Int)/\n<=st.size/\M=st.size - n/\Inv n G/\Lo G A [(b6,pm (po l t ((bs st).take n)),302),(b4,#[.string st],9),(b3,#[pa bm],299)],st.size,⟨0,F,rfl,yv _,rfl,hF,h⟩,?_⟩;clear h qm hs qf e0;rintro _ _ F5 ⟨n,G,rfl,hn,rfl,a0,h⟩;unfold EQ;refine ⟨λO=> ?_,λb5=>⟨rfl,n,G,hn,a0,h.le,.inl (by omega)⟩⟩;have O:n<st.size:=by omega
 have C:n<(bs st).length:=by rw [df];exact O
 have a2:cb st n=(bs st)[n]:=by rw [Kl,Q0,N5 C];rfl
 refine h.new _ _ λb7 F6 h=> ?_;refine Lo.put1 [] _ (b:=b7) (i:=0) (w0:= #[U 0]) (w:= #[U n]) (e:=3) h (by simp) rfl λF7 h=> ?_;replace h:Lo G F7 [(b7,#[U n],3),(b6,pm (po l t ((bs st).take n)),302),(b4,#[.string st],9),(b3,#[pa bm],299)]:=h;refine h.new _ _ λb8 F8 h=> ?_;refine h.new _ _ λb9 F9 h=> ?_;rw [<- dF] at h;obtain ⟨hT,hM⟩:=hI n G a0
 refine (uO (a:=⟨b6,0,I⟩) (P:=po l t ((bs st).take n)) (k:=238) (cap:= #[pa b4,pa b7,pa b3,pa b8,pa b9])
  (Inv:=λm A=>Lo G A [(b9,pm (XG l t ((bs st).take n) (cb st n) m),302),(b8,pm (XM l t ((bs st).take n) (cb st n) m),302),(b7,#[U n],3),(b6,pm (po l t ((bs st).take n)),302),(b4,#[.string st],9),(b3,#[pa bm],299)])
  S8 rfl (λm A E=>⟨hT.le E.le,E.row (b:=b6) (w:=pm (po l t ((bs st).take n))) (e:=302) (by simp)⟩) ?_ ?_ ?_).mono ?_
 ·intro i A hi hp E;have D:¬mU l t ((bs st).take n) i:=λh=>by rw [mV.2 h] at hp;cases hp
  have e9:XG l t ((bs st).take n) (cb st n) (i+1)=XG l t ((bs st).take n) (cb st n) i:=by
   funext j;rw [wi,jN,jN];constructor
   ·rintro ⟨J,H,g,B⟩;have:J≠i:=λe=>D (e▸g);exact ⟨J,by omega,g,B⟩
   ·rintro ⟨J,H,g,B⟩;exact ⟨J,by omega,g,B⟩
  have e8:XM l t ((bs st).take n) (cb st n) (i+1)=XM l t ((bs st).take n) (cb st n) i:=by
   funext j;rw [wi,jM,jM];constructor
   ·rintro ⟨H,g,B⟩;have:j≠i:=λe=>D (e▸g);exact ⟨by omega,g,B⟩
   ·rintro ⟨H,g,B⟩;exact ⟨by omega,g,B⟩
  rw [e9,e8];exact E
 ·intro i A hi hp E;have D:=mV.1 hp;have b1:=tn ht D;refine (GK hM hl E O (by omega) b1).mono ?_;rintro _ c2 ⟨rfl,g⟩;refine ⟨rfl,?_⟩;have e9:(λj=>XG l t ((bs st).take n) (cb st n) i j || (xI l (cb st n) i && yW t i j))=XG l t ((bs st).take n) (cb st n) (i+1):=by
   funext j;rw [wi,W8,VO,jN,jN,mW,jK];constructor
   ·rintro (⟨J,H,g⟩|⟨H,g⟩)
    ·exact ⟨J,by omega,g⟩
    ·exact ⟨i,by omega,D,H,g⟩
   ·rintro ⟨J,H,g,B⟩;by_cases e:J=i
    ·subst e;exact .inr B
    ·exact .inl ⟨J,by omega,g,B⟩
  have e8:(λj=>XM l t ((bs st).take n) (cb st n) i j || (decide (j=i) && xI l (cb st n) i))=XM l t ((bs st).take n) (cb st n) (i+1):=by
   funext j;rw [wi,W8,VO,jM,jM,δ,mW];constructor
   ·rintro (⟨H,g⟩|⟨H,g⟩)
    ·exact ⟨by omega,g⟩
    ·subst H;exact ⟨by omega,D,g⟩
   ·rintro ⟨H,g,B⟩;by_cases e:j=i
    ·subst e;exact .inr ⟨rfl,B⟩
    ·exact .inl ⟨by omega,g,B⟩
  rw [e9,e8] at g;exact g
 ·have e9:XG l t ((bs st).take n) (cb st n) 0=noP:=by funext j;show _=mz;rw [<- Yk,jN];rintro ⟨i,h,_⟩;omega
  have e8:XM l t ((bs st).take n) (cb st n) 0=noP:=by funext j;show _=mz;rw [<- Yk,jM];rintro ⟨h,_⟩;omega
  rw [e9,e8];exact h
 ·clear h;rintro _ c6 ⟨rfl,h⟩;generalize a7:XM l t ((bs st).take n) (cb st n) 512=K at h;generalize a9:XG l t ((bs st).take n) (cb st n) 512=nx at h;have W:∀j,K j=mY↔mU l t ((bs st).take n) j/\mT l j (cb st n):=λj=>by rw [<- a7,jM];exact ⟨λh=>h.2,λh=>⟨by have:=tn ht h.1;omega,h⟩⟩
  have a4:nx=po l t ((bs st).take (n+1)):=by
   rw [<- a9];funext j;rw [wi,jN,mV,jL C,KL,<- a2];constructor
   ·rintro ⟨J,_,g⟩;exact ⟨J,g⟩
   ·rintro ⟨J,g⟩;exact ⟨J,by have:=tn ht g.1;omega,g⟩
  refine ⟨rfl,pm K,rfl,h.row (b:=b8) (w:=pm K) (e:=302) (by simp),_,λF=>by have:=aaA (F:=F) K noP;rw [dF] at this;exact this,λhz=> ?_,λhz=> ?_⟩
  ·have a8:=(GI K).1 hz;refine ⟨rfl,n,G,hn,a0,h.le,.inr λm hm b0=>KE a1 C (λj hj=> ?_) hm (by rw [df];exact b0)⟩;rw [<- a2] at hj;have:=a8 j (by have:=tn ht hj.1;omega);rw [(W j).2 hj] at this;cases this
  ·obtain ⟨s,bf,qm,hs,qf⟩:=(hM.le h.le).ex;have c7:∀{A X:PH},Lo X A [(b9,pm nx,302),(b8,pm K,302),(b7,#[U n],3),(b6,pm (po l t ((bs st).take n)),302),(b4,#[.string st],9),(b3,#[pa bm],299)]->A.cell (ou b7 0 I)=V (U n):=λh=>by rw [h.cell (b:=b7) (w:= #[U n]) (e:=3) (by simp)];rfl
   have c3:∀{A X:PH},Lo X A [(b9,pm nx,302),(b8,pm K,302),(b7,#[U n],3),(b6,pm (po l t ((bs st).take n)),302),(b4,#[.string st],9),(b3,#[pa bm],299)]->A.cell (ou b3 0 I)=V (pa bm):=λh=>by rw [h.cell (b:=b3) (w:= #[pa bm]) (e:=299) (by simp)];rfl
   refine ⟨_,c7 h,_,c3 h,_,rfl,pm (lB t),rfl,(KH qm).2,?_⟩;refine (qin (pre:=[]) (post:=[]) (Q:=lB t) (kj.own.2 (h.get (b:=b8) (w:=pm K) (e:=302) (by simp)))).mono ?_;rintro _ c8 ⟨⟨q,rfl,hq⟩,a6⟩;have h:=h.le' a6;have a5:q=mY↔Lg t.pat ((bs st).take (n+1)):=by
    rw [hq,jL C,Fs a1,<- a2];constructor
    ·rintro ⟨i,_,g,B⟩;obtain ⟨h4,h5⟩:=(W i).1 g;exact ⟨i,h4,h5,di.1 B⟩
    ·rintro ⟨i,h4,h5,B⟩;exact ⟨i,by have:=tn ht h4;omega,(W i).2 ⟨h4,h5⟩,di.2 B⟩
   refine ⟨q,rfl,c3 h,c7 h,h.row (b:=b8) (w:=pm K) (e:=302) (by simp),k,#[],cap,rfl,hk,?_⟩;have L:=h.call (H n G q O a5 a0);rw [ff (by omega)];refine aj.mono (R:=λr A=>∃X,(r=.bool mY/\Inv (n+1) X)/\Lo X A _) (by simpa using L) ?_;clear L h;rintro _ c4 ⟨X,⟨rfl,a3⟩,h⟩;refine ⟨mY,rfl,c3 h,c7 h,h.row (b:=b8) (w:=pm K) (e:=302) (by simp),λhh=>by simp at hh,λ_=>⟨pm nx,rfl,h.row (b:=b9) (w:=pm nx) (e:=302) (by simp),?_⟩⟩;refine Lo.put [(b9,pm nx,302),(b8,pm K,302),(b7,#[U n],3)] _ (n:=8) (b:=b6) (w0:=pm (po l t ((bs st).take n))) (w:=pm nx) (e:=302) h rfl rfl (fQ _) λb2 h=> ?_;replace h:Lo X b2 [(b9,pm nx,302),(b8,pm K,302),(b7,#[U n],3),(b6,pm nx,302),(b4,#[.string st],9),(b3,#[pa bm],299)]:=h;rw [a4] at h;exact ⟨st.size - (n+1),by omega,n+1,X,rfl,O,rfl,a3,h.sub (.cons _ (.cons _ (.cons _ (List.Sublist.refl _))))⟩
end
end
