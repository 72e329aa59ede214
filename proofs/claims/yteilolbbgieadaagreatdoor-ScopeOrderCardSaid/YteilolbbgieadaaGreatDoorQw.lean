/-
  Running a machine.
-/
import Derived.Test.YteilolbbgieadaaGreatDoorPhx
import Derived.Test.YteilolbbgieadaaGreatDoorTie
import Derived.Test.YteilolbbgieadaaGreatDoorCards
import Derived.LaidMore
import Derived.Lay
import Derived.SevenTiedAt
import Derived.Stop.Joined
set_option maxRecDepth 10000
open Option renaming some->V,none->I
open Go.Obj renaming cells->Y
open Bool renaming false->mD,true->nk
open Go.Addr renaming add->nV,mk->oB
open Int renaming toNat->nX,tmod->sj
noncomputable section
namespace Go.Proofs.YteilolbbgieadaaGreatDoor.Rx
open Go
section
variable {P:Program} {n:Nat} {σ σ0:Sy} {E:En} {F:PH} {K:CK}
theorem eY {c:Code} {Q A:Exit->En->Ψ} (h:HC P n c Q E F) (k:∀x E F,Q x E F->A x E F):HC P n c A E F:=λe a w D st=>
 wp_mono (h e a w D st) λ_ _ _ ⟨B,C,g,r,q⟩=>⟨B,C,g,r,k _ _ _ q⟩
theorem Rel.hav (r:Rel σ E) {M:Δ} {g:En} (fr:Fr M E g):Rel (σ.hav M) g:=by
 refine ⟨λt=> ?_,r.top⟩;show Wl σ.T (bif py M t then .unk else σ.S t) (g t);cases h:py M t with
 |true=>exact True.intro
 |false=>rw [fr t h];exact r.val t
theorem xy {t:Nat} {k:Kd} {B:k.T->Prop} (h:Zy (σ.vw t) k B) (r:Rel σ E):∃x,E t=k.v x/\B x/\∀A:k.T->Prop,A x->Zy (σ.vw t) k A:=by
 cases k<;>simp only [Zy] at h ⊢
 case int k=>
  split at h
  ·rename_i D x g;split at h
   ·rename_i C;obtain rfl:=ζ C;exact ⟨x,cZ r g rfl,h,λA w=>w⟩
   ·exact h.elim
  ·exact h.elim
 case bool=>
  split at h
  ·rename_i b g;exact ⟨b,cZ r g rfl,h,λ_ w=>w⟩
  ·rename_i i b g;exact ⟨b,cZ r g rfl,h,λ_ w=>w⟩
  ·rename_i i p d g;exact ⟨_,cZ r g rfl,h,λ_ w=>w⟩
  ·exact h.elim
 case ptr=>
  split at h
  ·rename_i a g;exact ⟨V a,cZ r g rfl,h,λ_ w=>w⟩
  ·rename_i i p g;exact ⟨p,cZ r g rfl,h,λ_ w=>w⟩
  ·rename_i p g;exact ⟨p,cZ r g rfl,h,λ_ w=>w⟩
  ·exact h.elim
 case sl=>
  split at h
  ·rename_i b l c g;exact ⟨⟨b,l,c⟩,cZ r g rfl,h,λ_ w=>w⟩
  ·exact h.elim
 case str=>
  split at h
  ·rename_i s g;exact ⟨s,cZ r g rfl,h,λ_ w=>w⟩
  ·exact h.elim
 case map=>
  split at h
  ·rename_i s g;exact ⟨s,cZ r g rfl,h,λ_ w=>w⟩
  ·exact h.elim
 case agg=>
  split at h
  ·rename_i s g;exact ⟨s,cZ r g rfl,h,λ_ w=>w⟩
  ·exact h.elim
 case any=>
  split at h
  ·rename_i v g;exact ⟨v,cZ r rfl g,h,λ_ w=>w⟩
  ·exact h.elim
theorem Kf (r:Rel σ0 E) {t:Nat} {k:Kd} {x:k.T} (g:E t=k.v x):Rel (σ0.put t (k.nv x)) E:=by have:=r.put (d:=t) (tL (T:=σ0.T) k x);rw [Ac g] at this;exact this
theorem EA {f:Sy->Ψ} (r:Rel σ E):∀(l:List (Nat×Kd)) {A:Tl l} {σ0:Sy},TA f l A σ0->Rel σ0 E->W1 σ l A F->∃w,Rel w E/\f w F
 |[],A,σ0,h,r0,g=>⟨σ0,r0,h F g⟩
 | (t,k)::l,A,σ0,h,r0,g=>by obtain ⟨x,B,g,_⟩:=xy g r;exact EA r l (h x) (Kf r0 B) g
theorem Ch {f:Sy->Ψ} (r:Rel σ E):∀(l:List (Nat×Kd)) {σ0:Sy},Rel σ0 E->W1 σ l (Zv f l σ0) F->∃h,Rel h E/\f h F
 |[],σ0,r0,g=>⟨σ0,r0,g⟩
 | (t,k)::l,σ0,r0,g=>by obtain ⟨x,w,g,_⟩:=xy g r;exact Ch r l (Kf r0 w) g
theorem EB (r:Rel σ E):∀(l:List (Nat×Kd)) {w A:Tl l},TB l w A->W1 σ l w F->W1 σ l A F
 |[],w,A,h,g=>h F g
 | (t,k)::l,w,A,h,g=>by obtain ⟨x,C,g,B⟩:=xy g r;exact B _ (EB r l (h x) g)
theorem Kg (r:Rel σ E):∀(l:List (Nat×Kd)) {g:Nat->Tl l} {m:Nat},W1 σ l (ZL l g m) F->∃w,w<m/\W1 σ l (g w) F
 |[],g,m,h=>h
 | (t,k)::l,g,m,h=>by obtain ⟨x,D,A,C⟩:=xy h r;obtain ⟨w,B,A⟩:=Kg r l A;exact ⟨w,B,C _ A⟩
theorem xz {f:Sy->Ψ} (h:j9 K):j9 (YE f K):=h
theorem SG {g:Nat} (h:j9 K):j9 (Z6 g K):=h
theorem kG:∀(c:Code) (h:iZ) (K:CK) (σ:Sy) (E:En) (F:PH),j9 K->sx P n c h K σ F->Rel σ E->HC P n c (QK (i6 c) E K) E F
 | .skip,_,K,σ,E,F,_,h,r=>NF ⟨⟨σ,r,h⟩,.refl⟩
 | .ret,_,K,σ,E,F,_,h,r=>S9 ⟨⟨σ,r,h⟩,.refl⟩
 | .exit i,_,K,σ,E,F,_,h,r=>NG ⟨⟨σ,r,h⟩,.refl⟩
 | .region id ⟨ops⟩ mD,_,K,σ,E,F,hK,h,r=>GH (CP ops σ E F (λo ho t G=>Ah ho G) .refl h r)
 | .region id ops nk,_,K,σ,E,F,hK,h,r=>by unfold sx at h;obtain ⟨X,h⟩:=eD h;exact NL X (lJ hK (λo ho t G=>Ah ho G) _ _ _ _ _ _ _ _ .refl .nil QU h r)
 | .seq a b,hh,K,σ,E,F,hK,h,r=>by
  have other:∀{f:Sy->Ψ} (x:Exit) (B:En) (A:PH),x≠.normal->QK (i6 a) E (YE f K) x B A->QK (i6 (.seq a b)) E K x B A:=by intro f x B A hx ⟨⟨g,D,C⟩,w⟩;refine ⟨⟨g,D,?_⟩,w.left⟩;cases x<;>first|exact absurd rfl hx|exact C
  have M:∀{g:Sy} {B:En} {A:PH},Fr (i6 a) E B->Rel g B->sx P n b hh.snd K g A->HC P n b (QK (i6 (.seq a b)) E K) B A:=by intro g B A w D C;exact eY (kG b _ K g B A hK C D) λx a2 a0 ⟨N,H⟩=>⟨N,w.left.trans H.right⟩
  unfold sx at h;split at h
  ·refine Cv (eY (kG a _ _ σ E F (xz hK) h r) λx B A q=> ?_);cases x with
   |normal=>obtain ⟨⟨g,D,C⟩,w⟩:=q;exact M w D C
   |_=>exact other _ _ _ (by intro e;cases e) q
  ·rename_i l _;refine Cv (eY (kG a _ _ σ E F (xz hK) h r) λx B A q=> ?_);cases x with
   |normal=>obtain ⟨⟨g,D,C⟩,w⟩:=q;obtain ⟨J,Q,O⟩:=Ch D l (r.hav w) C;exact M w Q O
   |_=>exact other _ _ _ (by intro e;cases e) q
  ·rename_i l _;obtain ⟨z1,hJ,h⟩:=h;refine Cv (eY (kG a _ _ σ E F (xz hK) h r) λx B A q=> ?_);cases x with
   |normal=>obtain ⟨⟨g,D,C⟩,w⟩:=q;obtain ⟨J,Q,O⟩:=Ch D l (r.hav w) (EB D l hJ C);exact M w Q O
   |_=>exact other _ _ _ (by intro e;cases e) q
 | .cond c a b,hh,K,σ,E,F,hK,h,r=>by
  have ha:sx P n a hh.fst K σ F->HC P n a (QK (i6 (.cond c a b)) E K) E F:=λh=>eY (kG a _ K σ E F hK h r) λx B A ⟨N,w⟩=>⟨N,w.left⟩;have W:sx P n b hh.snd K σ F->HC P n b (QK (i6 (.cond c a b)) E K) E F:=λh=>eY (kG b _ K σ E F hK h r) λx B A ⟨N,w⟩=>⟨N,w.right⟩;unfold sx at h;split at h
  ·rename_i L;exact Ld (aZ r L rfl) (ha h)
  ·rename_i L;exact Le (aZ r L rfl) (W h)
  ·rename_i i t L;exact qJ (aZ r L rfl) (λG=>ha (h.1 G)) (λG=>W (h.2 G))
  ·rename_i i p d L;exact qJ (t:= @decide p d) (aZ r L rfl) (λG=>ha (h.1 (ζ G))) (λG=>W (h.2 (ι G)))
  ·exact h.elim
 | .block id c,hh,K,σ,E,F,hK,h,r=>by
  refine KQ (eY (kG c hh _ σ E F (SG hK) h r) λx B A q=> ?_);obtain ⟨⟨g,D,C⟩,w⟩:=q;cases x with
  |exit i=>
   show bif Nat.beq i id then QK _ E K .normal B A else QK _ E K (.exit i) B A
   have C:bif Nat.beq i id then K .normal g A else K (.exit i) g A:=C
   cases W:Nat.beq i id<;>rw [W] at C<;>exact ⟨⟨g,D,C⟩,w⟩
  |_=>exact ⟨⟨g,D,C⟩,w⟩
 | .loop c,hh,K,σ,E,F,hK,h,r=>by
  obtain ⟨z0,m,h0,hr⟩:=h;refine NH (λm B A=>(∃g,Rel g B/\W1 g hh.lv (z0 m) A)/\Fr (i6 c) E B) m ⟨⟨σ,r,h0⟩,.refl⟩ ?_;rintro m B A ⟨⟨g,D,hj⟩,w⟩;obtain ⟨J,Q,O⟩:=EA D _ (hr m) (r.hav w) hj;refine eY (kG c _ _ J B A (xz hK) O Q) λx a2 a0 q=> ?_;obtain ⟨⟨R,r3,h3⟩,H⟩:=q;cases x with
  |normal=>obtain ⟨m',X,a1⟩:=Kg r3 _ h3;exact ⟨m',X,⟨R,r3,a1⟩,w.trans H⟩
  |_=>exact ⟨⟨R,r3,h3⟩,w.trans H⟩
 | .rangeFunc ..,_,_,_,_,_,_,h,_=>h.elim
 | .label _,_,K,σ,E,F,_,h,r=>KO ⟨⟨σ,r,h⟩,.refl⟩
 | .scope c,hh,K,σ,E,F,hK,h,r=>by
  refine KP (eY (kG c hh (Z5 K) σ E F (λc σ F h=>hK c σ F h) h r) λx B A q=> ?_);obtain ⟨⟨g,D,C⟩,w⟩:=q;cases x with
  |goto l=>exact C.elim
  |_=>exact ⟨⟨g,D,C⟩,w⟩
 | .goto _,_,_,_,_,_,_,h,_=>h.elim
 | .refuse _,_,_,_,_,_,_,h,_=>h.elim
inductive RVs (P:Program) (E:En) (F:PH):List ResultVar->Ξ->Prop
 |nil:RVs P E F [] []
 |cons {r:ResultVar} {v:ξ} {l:List ResultVar} {vs:Ξ} (h:ia P E F r v) (t:RVs P E F l vs):RVs P E F (r::l) (v::vs)
theorem jo (r:Rel σ E):∀(l:List ResultVar) {K:Ξ->Prop},tK P σ l F K->∃vs,RVs P E F l vs/\K vs
 |[],K,h=>⟨[],.nil,h⟩
 | .tmp t::l,K,h=>by
  unfold tK at h;split at h
  ·rename_i v G;obtain ⟨vs,g,w⟩:=jo r l h;exact ⟨v::vs,.cons (xM (cZ r rfl G)) g,w⟩
  ·exact h.elim
 | .cell x t::l,K,h=>by
  unfold tK at h;split at h
  ·rename_i a D;split at h
   ·exact h.elim
   ·rename_i d hd;split at h
    ·rename_i A;split at h
     ·rename_i m b H;obtain ⟨v,g,w,h⟩:=h;obtain ⟨vs,C,B⟩:=jo r l h;exact ⟨_,.cons (Ll (cZ r D rfl) hd (xY A) H g w) C,B⟩
     ·exact h.elim
    ·rename_i A;obtain ⟨v,g,h⟩:=h;obtain ⟨vs,C,B⟩:=jo r l h;exact ⟨_,.cons (Lm (cZ r D rfl) hd (qP A) g) C,B⟩
  ·exact h.elim
theorem aar {fn:Func} {r R B X Q:ResultVar} {v W D N v4:ξ} (h:fn.results= #[r,R,B,X,Q]) (O:ia P E F r v) (G:ia P E F R W) (g:ia P E F B D) (C:ia P E F X N) (H:ia P E F Q v4):oX P fn E F (.tuple #[v,W,D,N,v4]):=λe w M st A=>by have k:=dO O st A;have k':=dO G st A;have L:=dO g st A;have k3:=dO C st A;have k4:=dO H st A;clear A O G g C H;rcases k with ⟨t,rfl,h1⟩|⟨x,t,a,rfl,h1,h2⟩<;>rcases k' with ⟨t',rfl,h3⟩|⟨x',t',a',rfl,h3,h4⟩<;>rcases L with ⟨J,rfl,h5⟩|⟨a0,J,a2,rfl,h5,h6⟩<;>rcases k3 with ⟨t3,rfl,h7⟩|⟨x3,t3,a3,rfl,h7,h8⟩<;>rcases k4 with ⟨t4,rfl,h9⟩|⟨x4,t4,a4,rfl,h9,a1⟩<;>simp [results,asAddr, *]
theorem Kh {r:Func} {vs:Ξ} (h:RVs P E F r.results.toList vs) (D:Nat.ble r.results.size 5=nk):oX P r E F (YR vs):=by
 have D:=Zf D;have key:∀l,r.results.toList=l->r.results=l.toArray:=λl h=>by rw [<- h]
 generalize G:r.results.toList=l at h;have g:=key _ G;have A:l.length<=5:=by rw [<- G];simpa using D
 cases h with
 |nil=>exact aaC g
 |cons w t=>
  cases t with
  |nil=>exact Yw g w
  |cons B t=>
   cases t with
   |nil=>exact Yx g w B
   |cons C t=>
    cases t with
    |nil=>exact aaD g w B C
    |cons H t=>
     cases t with
     |nil=>exact aaR g w B C H
     |cons J t=>
      cases t with
      |nil=>exact aar g w B C H J
      |cons L t=>simp at A
theorem SH {B:Func} {R:ξ->Ψ} {x:Exit} {M:Δ} {C:En} (h:QK M C (YS P B R) x E F):NJ P B R x E F:=by
 obtain ⟨⟨σ,r,h⟩,_⟩:=h;cases x with
 |normal=>obtain ⟨A,h⟩:=eD h;obtain ⟨vs,g,w⟩:=jo r _ h;exact ⟨_,Kh g A,w⟩
 |ret=>obtain ⟨A,h⟩:=eD h;obtain ⟨vs,g,w⟩:=jo r _ h;exact ⟨_,Kh g A,w⟩
 |_=>exact h.elim
theorem s8:∀(vs:Ξ) (g:List TypeId) (i:Nat) (σ:Sy),(∀j v,vs[j]? =V v->E (i+j)=v)->Rel σ E->Rel (FA P i g vs σ) E
 |[],g,i,σ,_,r=>by cases g<;>exact r
 |v::vs,g,i,σ,h,r=>by
  have hi:E i=v:=h 0 v rfl;have step:∀k:Kd,Rel (σ.put i (Y8 k v)) E:=λk=>by have:=r.put (d:=i) (LI (T:=σ.T) k v);rw [Ac hi] at this;exact this
  have w:∀j u,vs[j]? =V u->E (i+1+j)=u:=λj u A=>by have:=h (j+1) u (by simpa using A);rw [show i+1+j=i+(j+1) by omega];exact this
  cases g with
  |nil=>exact s8 vs [] (i+1) _ w (step _)
  |cons t g=>exact s8 vs g (i+1) _ w (step _)
theorem SI {k:Nat} {h:iZ} {args:Ξ} {R:ξ->Ψ} (g:ZB P k h args R F):aj P k args.toArray F R:=by
 unfold ZB at g;split at g
 ·exact g.elim
 ·rename_i C r;split at g
  ·exact g.elim
  ·rename_i c w;obtain ⟨B,g⟩:=eD g;refine NK r w rfl B (eY (kG c h _ _ (S8 args) F (λc σ F h=>h) g (s8 args _ 0 _ (λj v A=> ?_) ⟨λt=>True.intro,λj _=>rfl⟩)) λx E F q=>SH q);simp only [x9];show args.getD j undef=v;rw [QX,A];rfl
theorem sxC {k:Nat} (h:iZ) {args:Ξ} {R:ξ->Ψ} {b:Prop} (e:b=ZB P k h args R F) (g:b):aj P k args.toArray F R:=SI (e▸g)
theorem Λ {k:Nat} (h:iZ) {args:Ξ} {R:ξ->Ψ} {b:Prop} (g:b) (e:b=ZB P k h args R F:=by kernel_rfl):aj P k args.toArray F R:=sxC h e g
end
end Go.Proofs.YteilolbbgieadaaGreatDoor.Rx
namespace Go.Proofs.YteilolbbgieadaaGreatDoor
open Go.IntKind (i64 u8 u64)
open Sl renaming v->nI,nil->pm
open Go Go.Proofs.Tryz
section
abbrev Z (b o:Nat):Addr:=oB b o I
abbrev Pp (b:Nat):Value:=.pointer (V (Z b 0))
abbrev U (n:Int):Value:=.int .i64 n
abbrev Sb (b n:Nat):Sl:=Sl.mk (V (Z b 0)) n n
abbrev zG:Γ:= #[.slice I 0 0,.slice I 0 0,.int .i64 0,.slice I 0 0,.slice I 0 0,.slice I 0 0,.int .i64 0,.slice I 0 0,.slice I 0 0]
abbrev zP:Γ:= #[.string ⟨#[]⟩,.int .i64 0,.slice I 0 0,.slice I 0 0,.int .i64 0,.bool mD,.int .i64 0,.slice I 0 0,.bool mD,.int .i64 0,.int .i64 0,.int .i64 0,.int .i64 0]
abbrev zT:Γ:= #[.string ⟨#[]⟩,.int .i64 0,.string ⟨#[]⟩,.slice I 0 0,.string ⟨#[]⟩,.slice I 0 0,.int .i64 0]
abbrev zF:Γ:= #[.int .i64 0,.int .i64 0,.int .i64 0,.int .i64 0,.int .i64 0,.int .i64 0,.slice I 0 0,.slice I 0 0,.int .i64 0]
abbrev zL:Γ:= #[.slice I 0 0,.int .i64 0,.slice I 0 0,.int .i64 0]
abbrev zD:Γ:= #[.slice I 0 0,.int .i64 0]
section
variable (F:PH) (a:Addr)
abbrev Rr (n:Nat) (a:Addr) (R:VR) (F:PH):Prop:=∃v:Γ,v.size=n/\F.row a v/\R (.agg v) F
abbrev Lr (n:Nat) (a:Addr) (K:Γ->Prop):Prop:=∃v:Γ,v.size=n/\F.row a v/\K v
abbrev Li (K:Int->Prop):Prop:=∃v:Int,F.cell a=V (.int .i64 v)/\K v
abbrev Lk (k:IntKind) (a:Addr) (K:Int->Prop):Prop:=∃v:Int,F.cell a=V (.int k v)/\K v
abbrev Lq (K:Θ->Prop):Prop:=∃v:Θ,F.cell a=V (.pointer v)/\K v
abbrev Ls (K:Sl->Prop):Prop:=∃v:Sl,F.cell a=V (nI v)/\K v
abbrev Lb (K:Bool->Prop):Prop:=∃v:Bool,F.cell a=V (.bool v)/\K v
abbrev Lx (K:ByteArray->Prop):Prop:=∃v:ByteArray,F.cell a=V (.string v)/\K v
end
abbrev Ix (s:Sl) (i:Int) (K:Addr->Prop):Prop:=∃a:Addr,s.qa5=V a/\0<=i/\i<(s.len:Int)/\K a
abbrev Fn (f:Value) (K:Nat->Γ->Γ->Prop):Prop:=∃(k:Nat) (fst cap:Γ),f=.func (.func k) fst cap/\aF prog k=nk/\K k fst cap
section
variable (k:Nat) (ar:Γ) (F:PH)
abbrev Ap (K:Sl->Ψ):Prop:=aG prog (Builtin.append_ #[k,k] k ar) F λv F=>∃x:Sl,v=nI x/\K x F
abbrev Ca (K:Γ->Ψ):Prop:=aj prog k ar F λv F=>∃x:Γ,v=.agg x/\K x F
abbrev Ci (K:Ω):Prop:=aj prog k ar F λv F=>∃x:Int,v=.int .i64 x/\K x F
abbrev vf (K:Bool->Ψ):Prop:=aj prog k ar F λv F=>∃x:Bool,v=.bool x/\K x F
abbrev Cs (K:Sl->Ψ):Prop:=aj prog k ar F λv F=>∃x:Sl,v=nI x/\K x F
abbrev Cx (K:ByteArray->Ψ):Prop:=aj prog k ar F λv F=>∃x:ByteArray,v=.string x/\K x F
abbrev Cu (K:Ψ):Prop:=aj prog k ar F λv F=>v=Value.tuple #[]/\K F
end
abbrev Nb (F:PH) (o:Obj) (K:Nat->Ψ):Prop:=∀b,F b=I->xJ (F.set b o) (K b)
abbrev Bc (c A B:Prop):Prop:=(c->A)/\(¬c->B)
abbrev Bb (c:Bool) (A B:Prop):Prop:=(c=nk->A)/\(c=mD->B)
abbrev Lp {α:Type} (x:α) (F:PH) (B:(α->Ψ)->α->Ψ):Prop:=∃(z0:Nat->α->Ψ) (m:Nat),z0 m x F/\∀m x F,z0 m x F->B (λy F=>∃m',m'<m/\z0 m' y F) x F
variable {R:VR} {F:PH}
set_option maxHeartbeats 4000000
def Ki (a:Int) (R:VR) (F:PH):Prop:=R (.bool (decide (a=1))) F
def Kj (j:Ω) (i:Int) (k:Nat) (R:VR) (a:Int) (F:PH):Prop:=Bc (1<a) (Ls F (Z k 0) λd=>Ix d (i64.wrap (a - 2)) λe=>∃b,b.size=3/\F.row (nV e (nX (i64.wrap (a - 2))*3)) b/\Nb F (Y (#[U 0,U 0,U 0]) 201) λh F=>aA F (Z h 0) 3 b λF=>Li F (Z h 0) λc=>0<=c/\Bc ((u64.wrap ((BitVec.ofInt (u64).bits (Int.fdiv i (2 ^ (min (nX c) (u64).bits))) &&& BitVec.ofInt (u64).bits 1).toNat))=1) (Li F (Z h 2) λf=>j f F) (Li F (Z h 1) λg=>j g F)) (Ki a R F)
def W7 (c:Γ) (d:Int) (R:VR) (F:PH):Prop:=Nb F (Y c 33) λe F=>Lr F 2 (Z e 0) λf=>Ci 106 #[.agg f] F λg F=>Bc (g≠0) (R (.bool mD) F) (Li F (Z e 1) λb=>Lp b F λN a F=>Kj N d e R a F)
abbrev ν:=aj prog
theorem aas {a:Γ} {b:Int} (h:W7 a b R F):ν 76 #[.agg a,.int .u64 b] F R:=Rx.Λ (.qa8 (.qa8 (.qa8 (.J mD [(5,.int .i64)] (.L [(5,.int .i64)] .N) .N)))) h
def EC (f:Nat) (R:VR) (F:PH):Prop:=Li F (Z f 1) λg=>Bc (g<0) (R (U 20) F) (Li F (Z f 1) λh=>Ls F (Z f 0) λi=>Bc ((i64.wrap ((i.len:Int)+1))<h) (R (U 20) F) (Ls F (Z f 0) λj=>Nb F (Y (#[nI j,.map I]:Γ) 248) λk F=>Li F (Z f 1) λa=>Ca 147 #[(Pp k),(U a)] F λb F=>Nb F (Y zD 33) λl F=>aA F (Z l 0) 2 b λF=>Lr F 2 (Z l 0) λc=>Lr F 2 (Z f 0) λd=>vf 117 #[.agg c,.agg d] F λe F=>Bb ((!e)) (R (U 20) F) (R (U 0) F)))
def ED (A:Ω) (z g:Nat) (d:Sl) (R:VR) (a:Int) (F:PH):Prop:=Bc (a<(d.len:Int)) (Ix d a λh=>Lr F 3 (nV h (nX a*3)) λi=>Nb F (Y (#[U 0,U 0,U 0]) 201) λb F=>aA F (Z b 0) 3 i λF=>Li F (Z b 0) λj=>Bc (j<0) (R (U 20) F) (Li F (Z b 0) λk=>Bc (63<k) (R (U 20) F) (Li F (Z b 1) λl=>Bc (l<0) (R (U 20) F) (Li F (Z b 2) λm=>Bc (m<0) (R (U 20) F) (Li F (Z b 1) λn=>Bc ((i64.wrap (a+1))<n) (R (U 20) F) (Li F (Z b 2) λo=>Bc ((i64.wrap (a+1))<o) (R (U 20) F) (Li F (Z b 1) λp=>Li F (Z b 2) λq=>Bc (p=q) (R (U 20) F) (Lr F 3 (Z b 0) λr=>∃e,qX prog (Instr.lookup 243 (.map (V g)) (.agg r) mD) F (.bool e)/\Bb (e) (R (U 20) F) (Lr F 2 (Z z 0) λs=>Li F (Z b 1) λt=>Li F (Z b 0) λc=>Ci 146 #[.agg s,(U t)] F λu F=>F.cell (Z b 0)=V (U c)/\Bc (u<=c) (R (U 20) F) (Lr F 2 (Z z 0) λv=>Li F (Z b 2) λw=>Li F (Z b 0) λf=>Ci 146 #[.agg v,(U w)] F λx F=>F.cell (Z b 0)=V (U f)/\F.cell (Z b 0)=V (U c)/\Bc (x<=f) (R (U 20) F) (Lr F 3 (Z b 0) λy=>aG prog (Instr.mapUpdate 243 (.map (V g)) (.agg y) (.bool nk)) F λ_ F=>A (i64.wrap (a+1)) F))))))))))) (EC z R F)
def PP (c:Γ) (R:VR) (F:PH):Prop:=Nb F (Y c 33) λd F=>Ls F (Z d 0) λe=>Bc ((4096:Int)<(e.len:Int)) (R (U 2) F) (Nb F (.map #[] 0) λf F=>Ls F (Z d 0) λa=>Lp 0 F λN b F=>ED N d f a R b F)
theorem qdz {a:Γ} (h:PP a R F):ν 106 #[.agg a] F R:=Rx.Λ (.qa8 (.qa8 (.qa8 (.J mD [] (.qa8 (.L [(15,.int .i64)] .N)) .N)))) h
def PQ (d e:Γ) (R:VR) (F:PH):Prop:=Nb F (Y d 33) λi F=>Nb F (Y e 33) λj F=>Nb F (Y zD 33) λh F=>Lr F 2 (Z i 0) λf=>Lr F 2 (Z j 0) λg=>ν 148 #[.agg f,.agg g,.func (.func 149) #[] #[]] F λv F=>∃c,∃a,v=(.tuple #[.agg c,(U a)])/\aA F (Z h 0) 2 c λF=>Lr F 2 (Z h 0) λb=>R (.tuple #[.agg b,(U a)]) F
theorem qdA {a:Γ} {b:Γ} (h:PQ a b R F):ν 109 #[.agg a,.agg b] F R:=Rx.Λ .N h
def PR (a:Bool) (R:VR) (F:PH):Prop:=Nb F (Y zD 33) λb F=>Bb (a) (aA F (Z b 0) 2 (#[.slice I 0 0,(U 1)]:Γ) λF=>Rr 2 (Z b 0) R F) (aA F (Z b 0) 2 zD λF=>Rr 2 (Z b 0) R F)
theorem qeI {a:Bool} (h:PR a R F):ν 112 #[.bool a] F R:=Rx.Λ .N h
def PS (d e:Γ) (R:VR) (F:PH):Prop:=Nb F (Y d 33) λi F=>Nb F (Y e 33) λj F=>Nb F (Y zD 33) λh F=>Lr F 2 (Z i 0) λf=>Lr F 2 (Z j 0) λg=>ν 148 #[.agg f,.agg g,.func (.func 152) #[] #[]] F λv F=>∃c,∃a,v=(.tuple #[.agg c,(U a)])/\aA F (Z h 0) 2 c λF=>Lr F 2 (Z h 0) λb=>R (.tuple #[.agg b,(U a)]) F
theorem qeJ {a:Γ} {b:Γ} (h:PS a b R F):ν 113 #[.agg a,.agg b] F R:=Rx.Λ .N h
def PT (d e:Γ) (R:VR) (F:PH):Prop:=Nb F (Y d 33) λh F=>Nb F (Y e 33) λi F=>Li F (Z h 1) λf=>Li F (Z i 1) λg=>Bc (f=g) (Ls F (Z h 0) λa=>Ls F (Z i 0) λb=>vf 153 #[nI a,nI b] F λc F=>R (.bool c) F) (R (.bool mD) F)
theorem qeK {a:Γ} {b:Γ} (h:PT a b R F):ν 117 #[.agg a,.agg b] F R:=Rx.Λ .N h
def PU (d:Γ) (b:Int) (R:VR) (F:PH):Prop:=Nb F (Y d 33) λf F=>Bc (b<2) (R (U 64) F) (Ls F (Z f 0) λe=>Ix e (i64.wrap (b - 2)) λc=>∃a,F.cell (nV c (nX (i64.wrap (b - 2))*3))=V (U a)/\R (U a) F)
theorem qeL {a:Γ} {b:Int} (h:PU a b R F):ν 146 #[.agg a,(U b)] F R:=Rx.Λ .N h
def PV (h:Θ) (a:Int) (R:VR) (F:PH):Prop:=Nb F (Y #[.pointer h] 245) λn F=>Nb F (Y zD 33) λl F=>Nb F (Y zD 33) λg F=>aA F (Z g 0) 2 zD λF=>Nb F (.map #[] 0) λi F=>aG prog (Instr.mapUpdate 278 (.map (V i)) (U 0) (U 0)) F λ_ F=>aG prog (Instr.mapUpdate 278 (.map (V i)) (U 1) (U 1)) F λ_ F=>Nb F (Y (#[.map I]) 278) λm F=>pv F (Z m 0) (.map (V i)) λF=>Nb F (Y (#[.nilFunc]) 149) λj F=>pv F (Z j 0) (.func (.func 182) #[] #[(Pp m),(Pp n),(Pp j),(Pp g)]) λF=>∃b:ξ,F.cell (Z j 0)=V b/\Fn b λk d e=>aj prog k (d++([(U a)]).toArray++e) F λv F=>∃c,v=(U c)/\pv F (Z g 1) (U c) λF=>Lr F 2 (Z g 0) λf=>aA F (Z l 0) 2 f λF=>Rr 2 (Z l 0) R F
theorem qeM {b:Θ} {a:Int} (h:PV b a R F):ν 147 #[.pointer b,(U a)] F R:=Rx.Λ .N h
def PX (m n:Γ) (c:ξ) (R:VR) (F:PH):Prop:=Nb F (Y m 33) λp F=>Nb F (Y n 33) λq F=>c.cells= #[c]/\Nb F (Y #[c] 250) λr F=>Nb F (Y zD 33) λl F=>Lr F 2 (Z p 0) λj=>Lr F 2 (Z q 0) λe=>j.size=2/\e.size=2/\Nb F (Y (wr (wr zL 0 j.toList) 2 e.toList) 33) λo F=>Ci 183 #[nI (Sb o 2)] F λf F=>Bc (f≠0) (aA F (Z l 0) 2 zD λF=>Lr F 2 (Z l 0) λd=>R (.tuple #[.agg d,(U f)]) F) (Lr F 2 (Z p 0) λg=>Lr F 2 (Z q 0) λh=>g.size=2/\h.size=2/\zD.size=2/\Ca 185 #[.agg (wr (wr (wr (#[.slice I 0 0,U 0,.slice I 0 0,U 0,.slice I 0 0,U 0]:Γ) 0 g.toList) 2 h.toList) 4 zD.toList),.func (.func 186) #[] #[(Pp r)]] F λk F=>ν 184 #[.agg k] F λv F=>∃i,∃a,v=(.tuple #[.agg i,(U a)])/\aA F (Z l 0) 2 i λF=>Lr F 2 (Z l 0) λb=>R (.tuple #[.agg b,(U a)]) F)
theorem qeN {b:Γ} {c:Γ} {a:ξ} (h:PX b c a R F):ν 148 #[.agg b,.agg c,a] F R:=Rx.Λ .N h
def PY (a b:Bool) (R:VR) (F:PH):Prop:=Bb (a) (R (.bool b) F) (R (.bool mD) F)
theorem qeO {a:Bool} {b:Bool} (h:PY a b R F):ν 149 #[.bool a,.bool b] F R:=Rx.Λ .N h
def PZ (a b:Bool) (R:VR) (F:PH):Prop:=Bb (a) (R (.bool nk) F) (R (.bool b) F)
theorem qeP {a:Bool} {b:Bool} (h:PZ a b R F):ν 152 #[.bool a,.bool b] F R:=Rx.Λ .N h
def Kk (c:Int) (H z0 z1 K:Θ) (R:VR) (F:PH):Prop:=∃a,H=V a/\∃j:Option Nat,F.cell a=V (.map j)/\∃(k:Int) (d:Bool),qX prog (Instr.lookup 278 (.map j) (U c) nk) F (.tuple #[(U k),.bool d])/\Bb (d) (R (U k) F) (∃l,z0=V l/\Lq F l λx=>∃e,x=V e/\Ls F e λy=>Ix y (i64.wrap (c - 2)) λz=>∃f,f.size=3/\F.row (nV z (nX (i64.wrap (c - 2))*3)) f/\Nb F (Y (#[U 0,U 0,U 0]) 201) λG F=>aA F (Z G 0) 3 f λF=>∃g,z1=V g/\∃m:ξ,F.cell g=V m/\Li F (Z G 1) λA=>Fn m λL s t=>aj prog L (s++([(U A)]).toArray++t) F λv F=>∃h,v=(U h)/\∃n:ξ,F.cell g=V n/\Li F (Z G 2) λB=>Fn n λM u w=>aj prog M (u++([(U B)]).toArray++w) F λv F=>∃i,v=(U i)/\∃b,K=V b/\Ls F b λC=>Li F (Z G 0) λo=>(#[(U o),(U h),(U i)]:Γ).size=3/\Nb F (Y (#[(U o),(U h),(U i)]:Γ) 201) λN F=>Ap 31 #[nI C,nI (Sb N 1)] F λD F=>pv F b (nI D) λF=>∃p:Option Nat,F.cell a=V (.map p)/\Ls F b λE=>aG prog (Instr.mapUpdate 278 (.map p) (U c) (U (i64.wrap ((E.len:Int)+1)))) F λ_ F=>∃q:Option Nat,F.cell a=V (.map q)/\∃r,qX prog (Instr.lookup 278 (.map q) (U c) mD) F (U r)/\R (U r) F)
theorem P0 {a:Int} {b:Θ} {c:Θ} {d:Θ} {e:Θ} (h:Kk a b c d e R F):ν 182 #[(U a),.pointer b,.pointer c,.pointer d,.pointer e] F R:=Rx.Λ .N h
def EE (R:VR) (F:PH):Prop:=R (U 0) F
def EF (h:Ω) (c:Sl) (R:VR) (a:Int) (F:PH):Prop:=Bc (a<(c.len:Int)) (Ix c a λd=>Lr F 2 (nV d (nX a*2)) λe=>Nb F (Y zD 33) λg F=>aA F (Z g 0) 2 e λF=>Lr F 2 (Z g 0) λf=>Ci 106 #[.agg f] F λb F=>Bc (b≠0) (R (U b) F) (h (i64.wrap (a+1)) F)) (EE R F)
def P5 (a:Sl) (R:VR) (F:PH):Prop:=Lp 0 F λN b F=>EF N a R b F
theorem qeQ {a:Sl} (h:P5 a R F):ν 183 #[nI a] F R:=Rx.Λ (.qa8 (.J mD [] (.qa8 (.L [(8,.int .i64)] .N)) .N)) h
def P6 (d:Γ) (R:VR) (F:PH):Prop:=Nb F (Y d 33) λg F=>Nb F (Y zD 33) λc F=>Ls F (Z g 0) λe=>Bc ((4096:Int)<(e.len:Int)) (aA F (Z c 0) 2 zD λF=>Lr F 2 (Z c 0) λb=>R (.tuple #[.agg b,(U 2)]) F) (Lr F 2 (Z g 0) λf=>aA F (Z c 0) 2 f λF=>Lr F 2 (Z c 0) λa=>R (.tuple #[.agg a,(U 0)]) F)
theorem qeR {a:Γ} (h:P6 a R F):ν 184 #[.agg a] F R:=Rx.Λ .N h
def P7 (n:Γ) (d:ξ) (R:VR) (F:PH):Prop:=Nb F (Y n 282) λe F=>d.cells= #[d]/\Nb F (Y #[d] 283) λs F=>Nb F (Y zD 33) λq F=>ν 211 #[] F λv F=>∃k,v=(.pointer k)/\Nb F (Y (#[.pointer I]) 245) λm F=>pv F (Z m 0) (.pointer k) λF=>Nb F (.map #[] 0) λt F=>Nb F (Y (#[.map I]) 311) λr F=>pv F (Z r 0) (.map (V t)) λF=>Nb F (Y (#[.nilFunc]) 312) λo F=>pv F (Z o 0) (.func (.func 212) #[] #[(Pp s),(Pp r),(Pp e),(Pp o),(Pp m)]) λF=>Lq F (Z m 0) λf=>∃g:ξ,F.cell (Z o 0)=V g/\0<=(0:Int)/\(0:Int)<3/\∃a,F.cell (nV (nV (Z e 0) (nX 0*2)) 1)=V (U a)/\0<=(1:Int)/\(1:Int)<3/\∃b,F.cell (nV (nV (Z e 0) (nX 1*2)) 1)=V (U b)/\0<=(2:Int)/\(2:Int)<3/\∃c,F.cell (nV (nV (Z e 0) (nX 2*2)) 1)=V (U c)/\Fn g λp i j=>aj prog p (i++([(Value.agg (#[(U a),(U b),(U c)]:Γ))]).toArray++j) F λv F=>∃h,v=(U h)/\F.cell (nV (nV (Z e 0) (nX 2*2)) 1)=V (U c)/\F.cell (nV (nV (Z e 0) (nX 1*2)) 1)=V (U b)/\F.cell (nV (nV (Z e 0) (nX 0*2)) 1)=V (U a)/\F.cell (Z m 0)=V (.pointer f)/\Ca 147 #[.pointer f,(U h)] F λl F=>F.cell (nV (nV (Z e 0) (nX 2*2)) 1)=V (U c)/\F.cell (nV (nV (Z e 0) (nX 1*2)) 1)=V (U b)/\F.cell (nV (nV (Z e 0) (nX 0*2)) 1)=V (U a)/\aA F (Z q 0) 2 l λF=>Rr 2 (Z q 0) R F
theorem qeS {b:Γ} {a:ξ} (h:P7 b a R F):ν 185 #[.agg b,a] F R:=Rx.Λ .N h
def Qa (f g _:Bool) (h:Θ) (R:VR) (F:PH):Prop:=∃a,h=V a/\∃e:ξ,F.cell a=V e/\Fn e λi c d=>aj prog i (c++([(Value.bool f),(Value.bool g)]).toArray++d) F λv F=>∃b,v=(Value.bool b)/\R (.bool b) F
theorem qeT {a:Bool} {b:Bool} {c:Bool} {d:Θ} (h:Qa a b c d R F):ν 186 #[.bool a,.bool b,.bool c,.pointer d] F R:=Rx.Λ .N h
def Qb (R:VR) (F:PH):Prop:=Nb F (.map #[] 0) λa F=>Nb F (Y (#[.slice I 0 0,.map (V a)]:Γ) 248) λb F=>R (Pp b) F
theorem qeU (h:Qb R F):ν 211 #[] F R:=Rx.Λ .N h
def EG (n:Addr) (u w:Θ) (B:Nat) (o p q:Int) (x y:Nat) (R:VR) (F:PH):Prop:=∃a,u=V a/\∃c:ξ,F.cell a=V c/\Lr F 3 (Z x 0) λr=>Fn c λz j k=>aj prog z (j++([(Value.agg r)]).toArray++k) F λv F=>∃d,v=(U d)/\∃b,w=V b/\Lq F b λe=>∃f:ξ,F.cell a=V f/\Lr F 3 (Z y 0) λs=>Fn f λA l m=>aj prog A (l++([(Value.agg s)]).toArray++m) F λv F=>∃g,v=(U g)/\F.cell b=V (.pointer e)/\Ci 214 #[.pointer e,(U (min (min o p) q)),(U d),(U g)] F λh F=>∃i:Option Nat,F.cell n=V (.map i)/\Lr F 3 (Z B 0) λt=>aG prog (Instr.mapUpdate 311 (.map i) (.agg t) (U h)) F λ_ F=>R (U h) F
def EH (p:Ω) (g h:Addr) (m n:Θ) (o:Nat) (c d e:Int) (i j:Nat) (R:VR) (a:Int) (F:PH):Prop:=Bc (a<3) (0<=a/\a<3/\Lr F 2 (nV h (nX a*2)) λk=>0<=a/\a<3/\Li F (nV (Z o 0) (nX a*1)) λl=>ν 213 #[.agg k,(U l),(U (min (min c d) e))] F λv F=>∃f,∃b,v=(.tuple #[(U f),(U b)])/\0<=a/\a<3/\pv F (nV (Z i 0) (nX a*1)) (U f) λF=>0<=a/\a<3/\pv F (nV (Z j 0) (nX a*1)) (U b) λF=>p (i64.wrap (a+1)) F) (EG g m n o c d e i j R F)
def gn (B C D E G:Θ) (b:Nat) (p:Bool) (R:VR) (F:PH):Prop:=Bb (p) (∃g,B=V g/\∃h:ξ,F.cell g=V h/\0<=(0:Int)/\(0:Int)<3/\Li F (nV (Z b 0) (nX 0*1)) λq=>0<=(1:Int)/\(1:Int)<3/\Li F (nV (Z b 0) (nX 1*1)) λr=>0<=(2:Int)/\(2:Int)<3/\Li F (nV (Z b 0) (nX 2*1)) λs=>Fn h λH n o=>aj prog H (n++([(Value.bool (decide (q=1))),(Value.bool (decide (r=1))),(Value.bool (decide (s=1)))]).toArray++o) F λv F=>∃i,v=(Value.bool i)/\Bb (i) (R (U 1) F) (R (U 0) F)) (∃c,C=V c/\∃j:Option Nat,F.cell c=V (.map j)/\Lr F 3 (Z b 0) λt=>∃(k:Int) (d:Bool),qX prog (Instr.lookup 311 (.map j) (.agg t) nk) F (.tuple #[(U k),.bool d])/\Bb (d) (R (U k) F) (∃a,D=V a/\0<=(0:Int)/\(0:Int)<3/\Lr F 2 (nV a (nX 0*2)) λu=>0<=(0:Int)/\(0:Int)<3/\Li F (nV (Z b 0) (nX 0*1)) λw=>0<=(1:Int)/\(1:Int)<3/\Lr F 2 (nV a (nX 1*2)) λl=>0<=(1:Int)/\(1:Int)<3/\Li F (nV (Z b 0) (nX 1*1)) λm=>0<=(2:Int)/\(2:Int)<3/\Lr F 2 (nV a (nX 2*2)) λe=>0<=(2:Int)/\(2:Int)<3/\Li F (nV (Z b 0) (nX 2*1)) λf=>Ci 146 #[.agg u,(U w)] F λx F=>F.cell (nV (Z b 0) (nX 2*1))=V (U f)/\F.row (nV a (nX 2*2)) e/\F.cell (nV (Z b 0) (nX 1*1))=V (U m)/\F.row (nV a (nX 1*2)) l/\Ci 146 #[.agg l,(U m)] F λy F=>F.cell (nV (Z b 0) (nX 2*1))=V (U f)/\F.row (nV a (nX 2*2)) e/\Ci 146 #[.agg e,(U f)] F λz F=>Nb F (Y (#[U 0,U 0,U 0]) 313) λz0 F=>Nb F (Y (#[U 0,U 0,U 0]) 313) λz1 F=>Lp 0 F λN A F=>EH N c a E G b x y z z0 z1 R A F))
def Qc (j:Γ) (a b c d e:Θ) (R:VR) (F:PH):Prop:=Nb F (Y j 313) λf F=>0<=(0:Int)/\(0:Int)<3/\Li F (nV (Z f 0) (nX 0*1)) λg=>Bc (g<2) (0<=(1:Int)/\(1:Int)<3/\Li F (nV (Z f 0) (nX 1*1)) λh=>Bc (h<2) (0<=(2:Int)/\(2:Int)<3/\Li F (nV (Z f 0) (nX 2*1)) λi=>gn a b c d e f (decide (i<2)) R F) (gn a b c d e f mD R F)) (gn a b c d e f mD R F)
theorem qeV {a:Γ} {b:Θ} {c:Θ} {d:Θ} {e:Θ} {f:Θ} (h:Qc a b c d e f R F):ν 212 #[.agg a,.pointer b,.pointer c,.pointer d,.pointer e,.pointer f] F R:=Rx.Λ (.qa8 (.T (.J mD [(28,.bool)] .N .N) (.qa8 (.qa8 (.qa8 (.J mD [] (.qa8 (.L [(64,.int .i64)] .N)) .N)))))) h
def Qd (i:Γ) (a j:Int) (R:VR) (F:PH):Prop:=Nb F (Y i 33) λk F=>Lr F 2 (Z k 0) λl=>Ci 146 #[.agg l,(U a)] F λd F=>Bc (d≠j) (R (.tuple #[(U a),(U a)]) F) (Ls F (Z k 0) λe=>Ix e (i64.wrap (a - 2)) λf=>∃b,F.cell (nV (nV f (nX (i64.wrap (a - 2))*3)) 1)=V (U b)/\Ls F (Z k 0) λg=>Ix g (i64.wrap (a - 2)) λh=>∃c,F.cell (nV (nV h (nX (i64.wrap (a - 2))*3)) 2)=V (U c)/\R (.tuple #[(U b),(U c)]) F)
theorem qeW {a:Γ} {b:Int} {c:Int} (h:Qd a b c R F):ν 213 #[.agg a,(U b),(U c)] F R:=Rx.Λ .N h
def Qe (o:Θ) (p b c:Int) (R:VR) (F:PH):Prop:=Bc (b=c) (R (U b) F) (Nb F (Y (#[U 0,U 0,U 0]) 201) λn F=>aA F (Z n 0) 3 (#[(U p),(U b),(U c)]:Γ) λF=>∃a,o=V a/\∃e:Option Nat,F.cell (nV a 1)=V (.map e)/\Lr F 3 (Z n 0) λj=>∃(f:Int) (d:Bool),qX prog (Instr.lookup 246 (.map e) (.agg j) nk) F (.tuple #[(U f),.bool d])/\Bb ((!d)) (Ls F a λk=>Lr F 3 (Z n 0) λg=>g.size=3/\Nb F (Y g 201) λq F=>Ap 31 #[nI k,nI (Sb q 1)] F λl F=>pv F a (nI l) λF=>Ls F a λh=>∃i:Option Nat,F.cell (nV a 1)=V (.map i)/\Lr F 3 (Z n 0) λm=>aG prog (Instr.mapUpdate 246 (.map i) (.agg m) (U (i64.wrap ((h.len:Int)+1)))) F λ_ F=>R (U (i64.wrap ((h.len:Int)+1))) F) (R (U f) F))
theorem qeX {c:Θ} {d:Int} {b:Int} {a:Int} (h:Qe c d b a R F):ν 214 #[.pointer c,(U d),(U b),(U a)] F R:=Rx.Λ .N h
variable {R:VR} {F:PH}
set_option maxHeartbeats 4000000
def Xq (a:ξ) (R:VR) (F:PH):Prop:=Cs 83 #[nI pm,a] F λb F=>R (nI b) F
theorem aat {a:ξ} (h:Xq a R F):ν 49 #[a] F R:=Rx.Λ .N h
def Ni (R:VR) (F:PH):Prop:=R (.bool nk) F
def EI (i:Ω) (b d:Sl) (R:VR) (a:Int) (F:PH):Prop:=Bc (a<(b.len:Int)) (Ix b a λe=>Lr F 3 (nV e (nX a*3)) λf=>Ix d a λg=>Lr F 3 (nV g (nX a*3)) λh=>∃c,(∀F,qX prog (Op.equal 201 (.agg f) (.agg h)) F c)/\Bb ((!c)) (R (.bool mD) F) (i (i64.wrap (a+1)) F)) (Ni R F)
def Qf (a b:Sl) (R:VR) (F:PH):Prop:=Bc ((a.len:Int)≠(b.len:Int)) (R (.bool mD) F) (Lp 0 F λN c F=>EI N a b R c F)
theorem qeY {a:Sl} {b:Sl} (h:Qf a b R F):ν 153 #[nI a,nI b] F R:=Rx.Λ (.qa8 (.qa8 (.J mD [] (.qa8 (.L [(13,.int .i64)] .N)) .N))) h
def Qg (a:Sl) (b:ξ) (R:VR) (F:PH):Prop:=Ci 199 #[nI a,b] F λc F=>R (.bool (decide (0<=c))) F
theorem qeZ {a:Sl} {b:ξ} (h:Qg a b R F):ν 167 #[nI a,b] F R:=Rx.Λ .N h
def Qh (a:Sl) (b:ξ) (R:VR) (F:PH):Prop:=Ci 208 #[nI a,b] F λc F=>R (.bool (decide (0<=c))) F
theorem qe0 {a:Sl} {b:ξ} (h:Qh a b R F):ν 176 #[nI a,b] F R:=Rx.Λ .N h
def Nj (R:VR) (F:PH):Prop:=R (U (-1:Int)) F
def Nk (j:Ω) (e:Sl) (h:ξ) (R:VR) (a:Int) (F:PH):Prop:=Bc (a<(e.len:Int)) (Ix e a λf=>Lr F 13 (nV f (nX a*13)) λg=>Fn h λi c d=>aj prog i (c++([(Value.agg g)]).toArray++d) F λv F=>∃b,v=(Value.bool b)/\Bb (b) (R (U a) F) (j (i64.wrap (a+1)) F)) (Nj R F)
def qe1 (a:Sl) (b:ξ) (R:VR) (F:PH):Prop:=Lp 0 F λN c F=>Nk N a b R c F
theorem qe2 {a:Sl} {b:ξ} (h:qe1 a b R F):ν 199 #[nI a,b] F R:=Rx.Λ (.qa8 (.J mD [] (.qa8 (.L [(8,.int .i64)] .N)) .N)) h
def Qi (a:Sl) (b:ξ) (R:VR) (F:PH):Prop:=Ci 231 #[nI a,b] F λc F=>R (.bool (decide (0<=c))) F
theorem qe3 {a:Sl} {b:ξ} (h:Qi a b R F):ν 201 #[nI a,b] F R:=Rx.Λ .N h
def Nl (R:VR) (F:PH):Prop:=R (U (-1:Int)) F
def Nm (j:Ω) (e:Sl) (h:ξ) (R:VR) (a:Int) (F:PH):Prop:=Bc (a<(e.len:Int)) (Ix e a λf=>Lr F 2 (nV f (nX a*2)) λg=>Fn h λi c d=>aj prog i (c++([(Value.agg g)]).toArray++d) F λv F=>∃b,v=(Value.bool b)/\Bb (b) (R (U a) F) (j (i64.wrap (a+1)) F)) (Nl R F)
def qe4 (a:Sl) (b:ξ) (R:VR) (F:PH):Prop:=Lp 0 F λN c F=>Nm N a b R c F
theorem qe5 {a:Sl} {b:ξ} (h:qe4 a b R F):ν 208 #[nI a,b] F R:=Rx.Λ (.qa8 (.J mD [] (.qa8 (.L [(8,.int .i64)] .N)) .N)) h
def Nn (R:VR) (F:PH):Prop:=R (U (-1:Int)) F
def No (j:Ω) (e:Sl) (h:ξ) (R:VR) (a:Int) (F:PH):Prop:=Bc (a<(e.len:Int)) (Ix e a λf=>Lr F 3 (nV f (nX a*3)) λg=>Fn h λi c d=>aj prog i (c++([(Value.agg g)]).toArray++d) F λv F=>∃b,v=(Value.bool b)/\Bb (b) (R (U a) F) (j (i64.wrap (a+1)) F)) (Nn R F)
def qe6 (a:Sl) (b:ξ) (R:VR) (F:PH):Prop:=Lp 0 F λN c F=>No N a b R c F
theorem qei {a:Sl} {b:ξ} (h:qe6 a b R F):ν 231 #[nI a,b] F R:=Rx.Λ (.qa8 (.J mD [] (.qa8 (.L [(8,.int .i64)] .N)) .N)) h
end
open Tr
abbrev yq (n:Nat):Prop:=n<=1000000000000
def dg (b:Br):Ξ:=[U b.v,U b.l,U b.h]
def aV (l:List Br):Ξ:=l.flatMap dg
abbrev aW (b:Br):Γ:= #[U b.v,U b.l,U b.h]
theorem qhL (l:List Br):(aV l).length=l.length*3:=by
 induction l with
 |nil=>rfl
 |cons b l ih=>simp only [aV,VC,tT,wg] at ih ⊢;rw [ih];simp [dg];omega
theorem ee (l m:List Br):aV (l++m)=aV l++aV m:=by simp [aV]
theorem uG:∀(l:List Br) (i:Nat) (hi:i<l.length),((aV l).drop (i*3)).take 3=dg l[i]
 |b::l,0,_=>by simp [aV,dg]
 |b::l,i+1,hi=>by
  have e:(i+1)*3=3+i*3:=by omega
  have:aV (b::l)=dg b++aV l:=by simp [aV]
  rw [this,e,<- XL,List.drop_left' (by simp [dg])];simpa using uG l i (by simpa using hi)
theorem jp (l:List Br):∀v∈aV l,ak v:=by intro v h;obtain ⟨b,_,g⟩:=XW.1 h;simp only [dg,tS,WO,or_false] at g;rcases g with rfl|rfl|rfl<;>exact jv
theorem iE (b:Br):∀v∈(aW b).toList,ak v:=by intro v g;simp only [tS,WO,or_false] at g;rcases g with rfl|rfl|rfl<;>exact jv
theorem RdS.blen {F:PH} {s:Sl} {l:List Br} (h:RdS F s 3 (aV l)):s.len=l.length:=by have:=h.len;rw [qhL] at this;omega
theorem VX {F:PH} {s:Sl} {l:List Br} (h:RdS F s 3 (aV l)) {i:Nat} {x:Br} (r:l[i]? =V x):∃a,s.qa5=V a/\F.row (a.add (i*3)) (aW x)/\
  F.cell (a.add (i*3))=V (U x.v)/\F.cell ((a.add (i*3)).add 1)=V (U x.l)/\F.cell ((a.add (i*3)).add 2)=V (U x.h):=by
 obtain ⟨hi,r⟩:=N6.1 r;subst r;have w:=h.blen;obtain ⟨b,o,A,_⟩:=h.cells (by omega)
 have g:=h.row A (i*3) (aW l[i]) (by
  have:=uG l i hi
  simpa [aW,dg] using this.symm)
 refine ⟨_,A,g,?_,?_,?_⟩
 ·have:=g 0 (by simp);simpa using this
 ·have:=g 1 (by simp);simpa using this
 ·have:=g 2 (by simp);simpa using this
def DV (F:PH) (v:Γ) (d:wa):Prop:=∃s:Sl,v= #[s.v,U d.2]/\RdS F s 3 (aV d.1)
theorem DV.le {F G:PH} {v:Γ} {d:wa} (h:DV F v d) (r:F.le G):DV G v d:=by obtain ⟨s,g,w⟩:=h;exact ⟨s,g,w.le r⟩
theorem DV.size {F:PH} {v:Γ} {d:wa} (h:DV F v d):v.size=2:=by obtain ⟨s,rfl,_⟩:=h;rfl
theorem DV.st {F:PH} {v:Γ} {d:wa} (h:DV F v d):∀x∈v.toList,ak x:=by
 obtain ⟨s,rfl,_⟩:=h;intro x g;simp only [tS,WO,or_false] at g;rcases g with rfl|rfl
 ·exact Lu
 ·exact jv
theorem PH.le_rfl {F:PH}:F.le F:=λ_ _ h=>h
theorem gq {S:List Tr} {d:List Br} (g:brs S<+:d) {k:Nat} {t:Tr} (h:S[k]? =V t):d[k]? =V (br S t):=by obtain ⟨r,rfl⟩:=g;rw [zM (by rw [aO];exact (N6.1 h).1)];exact jX h
theorem oT {n:Nat} (h:yq n) (g:2<=n):i64.wrap ((n:Int) - 2)=((n - 2:Nat):Int):=by rw [aJ (by omega)];omega
section
variable {F:PH} {v:Γ} {d:wa} {S:List Tr} {t:Tr}
theorem qw (g:brs S<+:d.1) (r:inn S t) (A:yq (d.1.length+2)):yq (num S t)/\num S t<=d.1.length+1:=by have w:=dP r;have h:=g.length_le;rw [aO] at h;omega
theorem eQ (hd:DV F v d) (D:brs S<+:d.1) (E:inn S t) (N:yq (d.1.length+2)):
  ν 146 #[.agg v,U (num S t)] F λr M=>r=U t.top/\F.le M:=by
 obtain ⟨A,L⟩:=qw D E N;obtain ⟨s,rfl,G⟩:=hd;refine qeL ?_;unfold PU;intro Q B;refine tR ?_;have g:=ae (Y #[s.v,U d.2] 33) B;refine ⟨λh=> ?_,λh=> ?_⟩
 ·have O:=qM (S:=S) (t:=t) (by omega);cases t with
  |qa6 b=>exact ⟨rfl,g⟩
  |qa7 _ _ _=>cases O
 ·cases t with
  |qa6 b=>have:=cK S b;omega
  |qa7 w l r=>have J:=gq D (eB (cC E rfl) rfl);obtain ⟨a,H,_,K,_⟩:=VX (G.le g) J;have C:=oT A (cY (S:=S) (t:=qa7 w l r) rfl);have P:=cY (S:=S) (t:=qa7 w l r) rfl;refine ⟨s,by simp,a,H,by rw [C];omega,by rw [C,G.blen];omega,_,by rw [C];exact K,rfl,g⟩
theorem Cj (hd:DV F v d) (K:brs S<+:d.1) (L:inn S t) (O:yq (d.1.length+2)) {w:Nat} (B:w<64):
  ν 213 #[.agg v,U (num S t),U w] F λr P=>r=.tuple #[U (num S (lo w t)),U (num S (hi w t))]/\F.le P:=by
 obtain ⟨C,a0⟩:=qw K L O;have H:=hd;obtain ⟨s,rfl,J⟩:=hd;refine qeW ?_;unfold Qd;intro X G;refine tR ?_;have D:=ae (Y #[s.v,U d.2] 33) G;refine ⟨_,rfl,ai (aq _ _ _),?_⟩;refine (eQ (H.le D) K L O).mono ?_;rintro _ F2 ⟨rfl,A⟩;have N:F2 X=V _:=A _ _ (aq _ _ _);have g:F.le F2:=λb o h=>A b o (D b o h);refine ⟨_,rfl,λh=> ?_,λh=> ?_⟩
 ·refine ⟨?_,g⟩;cases t with
  |qa6 b=>rfl
  |qa7 E l r=>have:¬E=w:=λe=>h (by simp [Tr.top,e]);simp [lo,hi,this]
 ·cases t with
  |qa6 b=>simp only [Tr.top] at h;omega
  |qa7 E l r=>
   have e:E=w:=by simp only [Tr.top] at h;omega
   subst e;have Q:=gq K (eB (cC L rfl) rfl);obtain ⟨a,M,_,_,W,R⟩:=VX (J.le g) Q;have B:=oT C (cY (S:=S) (t:=qa7 E l r) rfl);have hg:=cY (S:=S) (t:=qa7 E l r) rfl
   refine ⟨s,by rw [av N];rfl,a,M,by rw [B];omega,by rw [B,J.blen];omega,_,by rw [B];exact W,
    s,by rw [av N];rfl,a,M,by rw [B];omega,by rw [B,J.blen];omega,_,by rw [B];exact R,?_,g⟩
   simp [lo,hi,br]
end
inductive Pat where
 |emp:Pat
 |rng:Nat->Nat->Pat
 |seq:Pat->Pat->Pat
 |alt:Pat->Pat->Pat
 |rep:Pat->Pat
deriving DecidableEq
inductive ko (P:Δ->Prop):Δ->Prop where
 |nil:ko P []
 |cons {u v:Δ}:P u->ko P v->ko P (u++v)
def Lg:Pat->Δ->Prop
 | .emp,w=>w=[]
 | .rng lo hi,w=>∃b,w=[b]/\lo<=b/\b<=hi
 | .seq x y,w=>∃u v,w=u++v/\Lg x u/\Lg y v
 | .alt x y,w=>Lg x w\/Lg y w
 | .rep x,w=>ko (Lg x) w
inductive Lt where
 |emp:Lt
 |rng:Nat->Nat->Nat->Lt
 |seq:Lt->Lt->Lt
 |alt:Lt->Lt->Lt
 |rep:Lt->Lt
namespace Lt
def pat:Lt->Pat
 |emp=> .emp
 |rng _ lo hi=> .rng lo hi
 |seq x y=> .seq x.pat y.pat
 |alt x y=> .alt x.pat y.pat
 |rep x=> .rep x.pat
def nul:Lt->Bool
 |emp=>nk
 |rng _ _ _=>mD
 |seq x y=>x.nul && y.nul
 |alt x y=>x.nul || y.nul
 |rep _=>nk
def first:Lt->Nat->Prop
 |emp,_=>False
 |rng i _ _,j=>i=j
 |seq x y,j=>x.first j\/(x.nul=nk/\y.first j)
 |alt x y,j=>x.first j\/y.first j
 |rep x,j=>x.first j
def last:Lt->Nat->Prop
 |emp,_=>False
 |rng i _ _,j=>i=j
 |seq x y,j=>y.last j\/(y.nul=nk/\x.last j)
 |alt x y,j=>x.last j\/y.last j
 |rep x,j=>x.last j
def fol:Lt->Nat->Nat->Prop
 |emp,_,_=>False
 |rng _ _ _,_,_=>False
 |seq x y,i,j=>x.fol i j\/y.fol i j\/(x.last i/\y.first j)
 |alt x y,i,j=>x.fol i j\/y.fol i j
 |rep x,i,j=>x.fol i j\/(x.last i/\x.first j)
def lab:Lt->Nat->Prop
 |emp,_=>False
 |rng i _ _,j=>i=j
 |seq x y,j=>x.lab j\/y.lab j
 |alt x y,j=>x.lab j\/y.lab j
 |rep x,j=>x.lab j
def fits (acc:Nat->Nat->Prop):Lt->Prop
 |emp=>True
 |rng i lo hi=>∀b,acc i b↔lo<=b/\b<=hi
 |seq x y=>x.fits acc/\y.fits acc/\∀i,x.lab i->¬y.lab i
 |alt x y=>x.fits acc/\y.fits acc/\∀i,x.lab i->¬y.lab i
 |rep x=>x.fits acc
theorem first_lab:∀(t:Lt) {i:Nat},t.first i->t.lab i
 |rng _ _ _,_,h=>h
 |seq x y,_,h=>h.elim (λh=> .inl (x.first_lab h)) λh=> .inr (y.first_lab h.2)
 |alt x y,_,h=>h.elim (λh=> .inl (x.first_lab h)) λh=> .inr (y.first_lab h)
 |rep x,_,h=>x.first_lab h
theorem last_lab:∀(t:Lt) {i:Nat},t.last i->t.lab i
 |rng _ _ _,_,h=>h
 |seq x y,_,h=>h.elim (λh=> .inr (y.last_lab h)) λh=> .inl (x.last_lab h.2)
 |alt x y,_,h=>h.elim (λh=> .inl (x.last_lab h)) λh=> .inr (y.last_lab h)
 |rep x,_,h=>x.last_lab h
theorem fol_lab:∀(t:Lt) {i j:Nat},t.fol i j->t.lab i/\t.lab j
 |seq x y,_,_,h=>by
  rcases h with h|h|⟨h,g⟩
  ·exact ⟨.inl (x.fol_lab h).1,.inl (x.fol_lab h).2⟩
  ·exact ⟨.inr (y.fol_lab h).1,.inr (y.fol_lab h).2⟩
  ·exact ⟨.inl (x.last_lab h),.inr (y.first_lab g)⟩
 |alt x y,_,_,h=>by
  rcases h with h|h
  ·exact ⟨.inl (x.fol_lab h).1,.inl (x.fol_lab h).2⟩
  ·exact ⟨.inr (y.fol_lab h).1,.inr (y.fol_lab h).2⟩
 |rep x,_,_,h=>by
  rcases h with h|⟨h,g⟩
  ·exact x.fol_lab h
  ·exact ⟨x.last_lab h,x.first_lab g⟩
end Lt
def Pth (acc fol:Nat->Nat->Prop) (e:Nat->Prop):Nat->Δ->Prop
 |_,[]=>False
 |i,b::w=>acc i b/\((w=[]/\e i)\/∃j,fol i j/\Pth acc fol e j w)
section
variable {acc fol fol':Nat->Nat->Prop} {e e':Nat->Prop}
theorem Pth.ne {i:Nat} {w:Δ} (h:Pth acc fol e i w):w≠[]:=by rintro rfl;exact h
theorem Pth.mono (g:∀i j,fol i j->fol' i j) (r:∀i,e i->e' i):∀(w:Δ) (i:Nat),Pth acc fol e i w->Pth acc fol' e' i w
 |[],_,h=>h
 |_::w,_,⟨h,k⟩=>⟨h,k.elim (λk=> .inl ⟨k.1,r _ k.2⟩) λ⟨j,B,A⟩=> .inr ⟨j,g _ _ B,Pth.mono g r w j A⟩⟩
theorem Pth.inside (P:Nat->Prop) (g:∀i j,P i->fol i j->P j/\fol' i j) (r:∀i,P i->e i->e' i):∀(w:Δ) (i:Nat),P i->Pth acc fol e i w->Pth acc fol' e' i w
 |[],_,_,h=>h
 |_::w,i,hp,⟨h,k⟩=>⟨h,k.elim (λk=> .inl ⟨k.1,r _ hp k.2⟩) λ⟨j,A,B⟩=> .inr ⟨j,(g i j hp A).2,Pth.inside P g r w j (g i j hp A).1 B⟩⟩
theorem Pth.link {l g:Nat->Prop}:∀(w:Δ) (i:Nat),Pth acc (λi j=>fol i j\/(l i/\g j)) e i w->
  Pth acc fol e i w\/∃u v j,w=u++v/\Pth acc fol l i u/\g j/\Pth acc (λi j=>fol i j\/(l i/\g j)) e j v
 |[],_,h=>h.elim
 |b::w,i,⟨h,k⟩=>by
  rcases k with ⟨rfl,k⟩|⟨j,r|⟨r,B⟩,A⟩
  ·exact .inl ⟨h,.inl ⟨rfl,k⟩⟩
  ·rcases Pth.link w j A with q|⟨u,v,m,rfl,q1,q2,q3⟩
   ·exact .inl ⟨h,.inr ⟨j,r,q⟩⟩
   ·exact .inr ⟨b::u,v,m,rfl,⟨h,.inr ⟨j,r,q1⟩⟩,q2,q3⟩
  ·exact .inr ⟨[b],w,j,rfl,⟨h,.inl ⟨rfl,r⟩⟩,B,A⟩
theorem Pth.append {l g:Nat->Prop} (A:∀i j,fol i j->fol' i j) (B:∀i j,l i->g j->fol' i j) {v:Δ} {j:Nat} (r:g j) (w:Pth acc fol' e j v):
  ∀(u:Δ) (i:Nat),Pth acc fol l i u->Pth acc fol' e i (u++v)
 |[],_,h=>h.elim
 |b::u,i,⟨h,k⟩=>by
  rcases k with ⟨rfl,k⟩|⟨m,D,C⟩
  ·exact ⟨h,.inr ⟨j,B i j k r,w⟩⟩
  ·exact ⟨h,.inr ⟨m,A _ _ D,Pth.append A B r w u m C⟩⟩
end
namespace Lt
variable {acc:Nat->Nat->Prop}
theorem nul_iff:∀(t:Lt),t.nul=nk↔Lg t.pat []
 |emp=>⟨λ_=>rfl,λ_=>rfl⟩
 |rng i lo hi=>⟨λh=>(by cases h),λ⟨b,h,_⟩=>(by cases h)⟩
 |seq x y=>by
  have w:=nul_iff x;have A:=nul_iff y;simp only [nul,pat,Lg,VT,w,A];constructor
  ·rintro ⟨g,r⟩;exact ⟨[],[],rfl,g,r⟩
  ·rintro ⟨u,v,h,g,r⟩;obtain ⟨rfl,rfl⟩:=List.append_eq_nil_iff.1 h.symm;exact ⟨g,r⟩
 |alt x y=>by simp only [nul,pat,Lg,Xa,nul_iff x,nul_iff y]
 |rep x=>⟨λ_=>ko.nil,λ_=>rfl⟩
theorem places:∀(t:Lt),t.fits acc->∀w,w≠[]->(Lg t.pat w↔∃i,t.first i/\Pth acc t.fol t.last i w)
 |emp,_,w,hw=>⟨λh=>absurd h hw,λ⟨i,h,_⟩=>h.elim⟩
 |rng i lo hi,hf,w,hw=>by
  constructor
  ·rintro ⟨b,rfl,h⟩;exact ⟨i,rfl,(hf b).2 h,.inl ⟨rfl,rfl⟩⟩
  ·rintro ⟨j,rfl,h⟩;cases w with
   |nil=>exact h.elim
   |cons b w=>
    obtain ⟨r,⟨rfl,_⟩|⟨j,A,_⟩⟩:=h
    ·exact ⟨b,rfl,(hf b).1 r⟩
    ·exact A.elim
 |alt x y,⟨fx,fy,hd⟩,w,hw=>by
  have ix:=places x fx w hw;have F:=places y fy w hw;constructor
  ·rintro (h|h)
   ·obtain ⟨i,r,A⟩:=ix.1 h;exact ⟨i,.inl r,A.mono (λ_ _ h=> .inl h) (λ_ h=> .inl h) w i⟩
   ·obtain ⟨i,r,A⟩:=F.1 h;exact ⟨i,.inr r,A.mono (λ_ _ h=> .inr h) (λ_ h=> .inr h) w i⟩
  ·rintro ⟨i,r|r,A⟩
   ·refine .inl (ix.2 ⟨i,r,A.inside x.lab (λi j B h=> ?_) (λi B h=> ?_) w i (x.first_lab r)⟩)
    ·exact h.elim (λh=>⟨(x.fol_lab h).2,h⟩) λh=>absurd (y.fol_lab h).1 (hd i B)
    ·exact h.elim id λh=>absurd (y.last_lab h) (hd i B)
   ·refine .inr (F.2 ⟨i,r,A.inside y.lab (λi j B h=> ?_) (λi B h=> ?_) w i (y.first_lab r)⟩)
    ·exact h.elim (λh=>absurd B (hd i (x.fol_lab h).1)) λh=>⟨(y.fol_lab h).2,h⟩
    ·exact h.elim (λh=>absurd B (hd i (x.last_lab h))) id
 |seq x y,⟨fx,fy,hd⟩,w,hw=>by
  have ix:=places x fx;have F:=places y fy
  have G:∀w i,y.lab i->Pth acc (seq x y).fol (seq x y).last i w->Pth acc y.fol y.last i w:=λw i hi h=>h.inside y.lab (λi j B h=>by
    rcases h with h|h|⟨h,_⟩
    ·exact absurd B (hd i (x.fol_lab h).1)
    ·exact ⟨(y.fol_lab h).2,h⟩
    ·exact absurd B (hd i (x.last_lab h))) (λi B h=>h.elim id λh=>absurd B (hd i (x.last_lab h.2))) w i hi
  constructor
  ·rintro ⟨u,v,rfl,H,K⟩;by_cases C:u=[]
   ·subst C;obtain ⟨i,r,A⟩:=(F _ hw).1 K;exact ⟨i,.inr ⟨(nul_iff x).2 H,r⟩,A.mono (λ_ _ h=> .inr (.inl h)) (λ_ h=> .inl h) _ i⟩
   ·obtain ⟨i,r,A⟩:=(ix u C).1 H;refine ⟨i,.inl r,?_⟩;by_cases D:v=[]
    ·subst D;rw [yt];exact A.mono (λ_ _ h=> .inl h) (λ_ h=> .inr ⟨(nul_iff y).2 K,h⟩) _ i
    ·obtain ⟨j,N,M⟩:=(F v D).1 K;exact Pth.append (λ_ _ h=> .inl h) (λ_ _ h L=> .inr (.inr ⟨h,L⟩)) N (M.mono (λ_ _ h=> .inr (.inl h)) (λ_ h=> .inl h) v j) u i A
  ·rintro ⟨i,r,A⟩;rcases r with r|⟨P,r⟩
   ·have k:Pth acc (λi j=>(x.fol i j\/y.fol i j)\/(x.last i/\y.first j)) (seq x y).last i w:=A.mono (λi j h=>by
     rcases h with h|h|h
     ·exact .inl (.inl h)
     ·exact .inl (.inr h)
     ·exact .inr h) (λ_ h=>h) w i
    have E:∀{e e':Nat->Prop} w i,(∀i,x.lab i->e i->e' i)->x.lab i->Pth acc (λi j=>x.fol i j\/y.fol i j) e i w->Pth acc x.fol e' i w:=λw i Q hi h=>h.inside x.lab (λi j B h=>
     h.elim (λh=>⟨(x.fol_lab h).2,h⟩) λh=>absurd (y.fol_lab h).1 (hd i B)) Q w i hi
    rcases k.link w i with q|⟨u,v,j,rfl,q1,q2,q3⟩
    ·by_cases O:y.nul=nk
     ·exact ⟨w,[],(yt w).symm,(ix w hw).2 ⟨i,r,E w i (λi B h=>h.elim (λh=>absurd (y.last_lab h) (hd i B)) λh=>h.2) (x.first_lab r) q⟩,(nul_iff y).1 O⟩
     ·exfalso;have z:=E (e':=λ_=>False) w i (λi B h=>h.elim (λh=>absurd (y.last_lab h) (hd i B)) λh=>O h.1) (x.first_lab r) q;have I:∀(w:Δ) (i:Nat),¬Pth acc x.fol (λ_=>False) i w:=by
       intro w;induction w with
       |nil=>exact λ_ h=>h
       |cons b w ih=>
        rintro i ⟨_,⟨_,h⟩|⟨j,_,h⟩⟩
        ·exact h
        ·exact ih j h
      exact I w i z
    ·refine ⟨u,v,rfl,(ix u q1.ne).2 ⟨i,r,E u i (λ_ _ h=>h) (x.first_lab r) q1⟩,(F v q3.ne).2 ⟨j,q2,G v j (y.first_lab q2) (q3.mono (λi j h=> ?_) (λ_ h=>h) v j)⟩⟩;rcases h with (h|h)|h
     ·exact .inl h
     ·exact .inr (.inl h)
     ·exact .inr (.inr h)
   ·obtain q:=G w i (y.first_lab r) A;exact ⟨[],w,rfl,(nul_iff x).1 P,(F w hw).2 ⟨i,r,q⟩⟩
 |rep x,fx,w,hw=>by
  have ix:=places x fx;constructor
  ·intro h;change ko (Lg x.pat) w at h;have key:∀w,ko (Lg x.pat) w->w≠[]->∃i,x.first i/\Pth acc (rep x).fol x.last i w:=by
    intro w h;induction h with
    |nil=>exact λh=>absurd rfl h
    | @cons u v H K ih=>
     intro J;by_cases C:u=[]
     ·subst C;exact ih J
     ·obtain ⟨i,r,A⟩:=(ix u C).1 H;refine ⟨i,r,?_⟩;by_cases D:v=[]
      ·subst D;rw [yt];exact A.mono (λ_ _ h=> .inl h) (λ_ h=>h) _ i
      ·obtain ⟨j,N,M⟩:=ih D;exact Pth.append (λ_ _ h=> .inl h) (λ_ _ h L=> .inr ⟨h,L⟩) N M u i A
   exact key w h hw
  ·rintro ⟨i,r,A⟩;have key:∀(n:Nat) (w:Δ) (i:Nat),w.length<=n->x.first i->Pth acc (rep x).fol x.last i w->ko (Lg x.pat) w:=by
    intro n;induction n with
    |zero=>intro w i J _ h;exact absurd (XZ.1 (by omega)) h.ne
    |succ n ih=>
     intro w i J r A;rcases Pth.link (fol:=x.fol) (l:=x.last) (g:=x.first) w i A with q|⟨u,v,j,rfl,q1,q2,q3⟩
     ·have:=ko.cons ((ix w q.ne).2 ⟨i,r,q⟩) ko.nil;rwa [yt] at this
     ·have H:0<u.length:=Yg.2 q1.ne;rw [tT] at J;exact .cons ((ix u q1.ne).2 ⟨i,r,q1⟩) (ih v j (by omega) q2 q3)
   exact key w.length w i (ru _) r A
end Lt
structure Nd where
 k:Int
 lo:Int
 hi:Int
 a:Int
 b:Int
deriving DecidableEq
namespace Pat
end Pat
namespace Pat
end Pat
section
abbrev pa (b:Nat):Value:=.pointer (V ⟨b,0,I⟩)
abbrev Nd.arr (x:Nd):Γ:= #[U x.k,U x.lo,U x.hi,U x.a,U x.b]
def Nd.cells (x:Nd):Ξ:=[U x.k,U x.lo,U x.hi,U x.a,U x.b]
def dF (l:List Nd):Ξ:=l.flatMap Nd.cells
theorem iF (l:List Nd):(dF l).length=l.length*5:=by
 induction l with
 |nil=>rfl
 |cons b l ih=>simp only [dF,VC,tT,wg] at ih ⊢;rw [ih];simp [Nd.cells];omega
theorem uH:∀(l:List Nd) (i:Nat) (hi:i<l.length),((dF l).drop (i*5)).take 5=l[i].cells
 |b::l,0,_=>by simp [dF,Nd.cells]
 |b::l,i+1,hi=>by
  have e:(i+1)*5=5+i*5:=by omega
  have:dF (b::l)=b.cells++dF l:=by simp [dF]
  rw [this,e,<- XL,List.drop_left' (by simp [Nd.cells])];simpa using uH l i (by simpa using hi)
theorem gr (b:Nd):∀v∈b.arr.toList,ak v:=by intro v g;simp only [tS,WO,or_false] at g;rcases g with rfl|rfl|rfl|rfl|rfl<;>exact jv
theorem RdS.nlen {F:PH} {s:Sl} {l:List Nd} (h:RdS F s 5 (dF l)):s.len=l.length:=by have:=h.len;rw [iF] at this;omega
def cb (st:ο) (i:Nat):Nat:=if h:i<st.size then (st[i]'h).toNat else 0
theorem qej {st:ο} {i:Nat} (h:i<st.size):cb st i=(st[i]'h).toNat:=dif_pos h
theorem Np (st:ο) (i:Nat):cb st i<256:=by
 unfold cb;split
 ·exact UInt8.toNat_lt _
 ·omega
section
variable {F0 F:PH} {b i:Nat} {st:ο} {out:List Nd} {w:Bool}
theorem bO.som {F:PH} {e size:Nat} {s:Sl} {vs:Ξ} (h:bO F e size s vs) {a:Addr} (r:s.qa5=V a):∃o,F a.block=V o:=by
 rcases h with ⟨rfl,_⟩|⟨b,A,g,B,_⟩
 ·cases r
 ·rw [r] at g;cases g;exact ⟨_,B⟩
end
section
variable {F0 F:PH} {b i:Nat} {st:ο} {out:List Nd} {w:Bool}
theorem SJ {st:ο} {x:Int} {i:Nat} (g:x=i) (h:i<st.size) (r:nX x<st.size):((st[nX x]' r).toNat:Int)=(cb st i:Int):=by subst g;rw [qej h];rfl
end
def bs (s:ο):Δ:=s.data.toList.map UInt8.toNat
theorem de (s:ο):(bs s).length=s.size:=by simp [bs]
theorem Ck {s t:ο} (h:bs s=bs t):s=t:=by unfold bs at h;have:s.data.toList=t.data.toList:=List.map_inj_right (λa b e=>UInt8.toNat_inj.1 e) |>.1 h;cases s;cases t;congr;exact Array.toList_inj.1 this
theorem Kl (s:ο) (i:Nat):cb s i=(bs s).getD i 0:=by
 unfold cb bs;by_cases h:i<s.size
 ·rw [dif_pos h];have g:i<s.data.toList.length:=by simpa using h
  rw [QX,yw,N5 g];rfl
 ·rw [dif_neg h,QX,yw,VP (by simpa using h)];rfl
theorem qek (s:ο):∀b∈bs s,b<256:=by intro b g;obtain ⟨x,_,rfl⟩:=xv.1 g;exact UInt8.toNat_lt x
theorem Nq (s:ο):∀(n i:Nat) (r:List UInt8),s.size - i=n->ByteArray.toList.loop s i r=r.reverse++s.data.toList.drop i:=by
 intro n;induction n with
 |zero=>intro i r h;unfold ByteArray.toList.loop;rw [Υ (by omega),Ye (by simp at h ⊢;omega),yt]
 |succ n ih=>
  intro i r h;have hi:i<s.size:=by omega
  have g:i<s.data.toList.length:=by simpa using hi
  unfold ByteArray.toList.loop;rw [Χ hi,ih (i+1) _ (by omega),XJ g,List.reverse_cons,xZ];congr 1;rw [List.singleton_append];congr 1;simp [ByteArray.get!,getElem!_pos,hi]
theorem jq (s:ο):s.toList=s.data.toList:=by unfold ByteArray.toList;rw [Nq s _ 0 [] rfl];rfl
theorem uI (s:ο):s.toList.map UInt8.toNat=bs s:=by rw [jq];rfl
theorem Km (s t:ο):(s.toList==t.toList)=decide (bs s=bs t):=by
 rw [wm,δ,beq_iff_eq];constructor
 ·intro h;rw [<- uI,<- uI,h]
 ·intro h;rw [Ck h]
variable {R:VR} {F:PH}
set_option maxHeartbeats 4000000
def Qj (a:Int) (R:VR) (F:PH):Prop:=Bc (a=0) (R (U 64) F) (0<=(Int.fdiv (u64.wrap ((u64.wrap ((BitVec.ofInt (u64).bits a &&& BitVec.ofInt (u64).bits (u64.wrap (0 - a))).toNat))*285870213051353865)) (2 ^ (min (nX 58) (u64).bits)))/\(Int.fdiv (u64.wrap ((u64.wrap ((BitVec.ofInt (u64).bits a &&& BitVec.ofInt (u64).bits (u64.wrap (0 - a))).toNat))*285870213051353865)) (2 ^ (min (nX 58) (u64).bits)))<64/\∃b,F.cell (nV (oB 0 0 I) (nX (Int.fdiv (u64.wrap ((u64.wrap ((BitVec.ofInt (u64).bits a &&& BitVec.ofInt (u64).bits (u64.wrap (0 - a))).toNat))*285870213051353865)) (2 ^ (min (nX 58) (u64).bits)))*1))=V (.int .u8 b)/\R (U (i64.wrap b)) F)
theorem qel {a:Int} (h:Qj a R F):ν 252 #[.int .u64 a] F R:=Rx.Λ .N h
variable {R:VR} {F:PH}
set_option maxHeartbeats 4000000
def EJ (a:Sl) (R:VR) (F:PH):Prop:=Bc ((a.len:Int)=0) (R (U 40) F) (R (U 0) F)
def EL (f:Ω) (e:Sl) (g:Nat) (R:VR) (a:Int) (F:PH):Prop:=Bc (a<(i64.wrap ((e.len:Int) - 1))) (Ls F (Z g 0) λb=>Ix b a λc=>Lb F (nV c (nX a*1)) λd=>Bb ((!d)) (R (U 40) F) (f (i64.wrap (a+1)) F)) (EJ e R F)
def EM (b:Sl) (c:Nat) (R:VR) (F:PH):Prop:=Lp 0 F λN a F=>EL N b c R a F
def cd (b:Ω) (_:Sl) (_:Nat) (a:Int) (_:VR) (F:PH):Prop:=b (i64.wrap (a+1)) F
def fI (e:Ω) (c:Sl) (d:Nat) (a:Int) (f:Nat) (b:Int) (B:Bool) (R:VR) (F:PH):Prop:=Bb ((!B)) (R (U 40) F) (Bc (b<1) (Li F (Z f 3) λC=>Bc (C≠0) (R (U 40) F) (Bc (b<2) (Li F (Z f 4) λD=>Bc (D≠0) (R (U 40) F) (Bc (1<=b) (Li F (Z f 3) λE=>vf 203 #[(U E),(U a),(Pp d)] F λG F=>Bb ((!G)) (R (U 40) F) (Bc (2<=b) (Li F (Z f 4) λH=>vf 203 #[(U H),(U a),(Pp d)] F λz0 F=>Bb ((!z0)) (R (U 40) F) (cd e c d a R F)) (cd e c d a R F))) (Bc (2<=b) (Li F (Z f 4) λg=>vf 203 #[(U g),(U a),(Pp d)] F λh F=>Bb ((!h)) (R (U 40) F) (cd e c d a R F)) (cd e c d a R F)))) (Bc (1<=b) (Li F (Z f 3) λi=>vf 203 #[(U i),(U a),(Pp d)] F λj F=>Bb ((!j)) (R (U 40) F) (Bc (2<=b) (Li F (Z f 4) λk=>vf 203 #[(U k),(U a),(Pp d)] F λl F=>Bb ((!l)) (R (U 40) F) (cd e c d a R F)) (cd e c d a R F))) (Bc (2<=b) (Li F (Z f 4) λm=>vf 203 #[(U m),(U a),(Pp d)] F λn F=>Bb ((!n)) (R (U 40) F) (cd e c d a R F)) (cd e c d a R F))))) (Bc (b<2) (Li F (Z f 4) λo=>Bc (o≠0) (R (U 40) F) (Bc (1<=b) (Li F (Z f 3) λp=>vf 203 #[(U p),(U a),(Pp d)] F λq F=>Bb ((!q)) (R (U 40) F) (Bc (2<=b) (Li F (Z f 4) λr=>vf 203 #[(U r),(U a),(Pp d)] F λs F=>Bb ((!s)) (R (U 40) F) (cd e c d a R F)) (cd e c d a R F))) (Bc (2<=b) (Li F (Z f 4) λt=>vf 203 #[(U t),(U a),(Pp d)] F λu F=>Bb ((!u)) (R (U 40) F) (cd e c d a R F)) (cd e c d a R F)))) (Bc (1<=b) (Li F (Z f 3) λv=>vf 203 #[(U v),(U a),(Pp d)] F λw F=>Bb ((!w)) (R (U 40) F) (Bc (2<=b) (Li F (Z f 4) λx=>vf 203 #[(U x),(U a),(Pp d)] F λy F=>Bb ((!y)) (R (U 40) F) (cd e c d a R F)) (cd e c d a R F))) (Bc (2<=b) (Li F (Z f 4) λz=>vf 203 #[(U z),(U a),(Pp d)] F λA F=>Bb ((!A)) (R (U 40) F) (cd e c d a R F)) (cd e c d a R F)))))
def EN (f:Ω) (c:Sl) (e:Nat) (R:VR) (a:Int) (F:PH):Prop:=Bc (a<(c.len:Int)) (Ix c a λg=>Lr F 5 (nV g (nX a*5)) λh=>Nb F (Y (#[U 0,U 0,U 0,U 0,U 0]) 225) λd F=>aA F (Z d 0) 5 h λF=>Li F (Z d 0) λi=>Ci 204 #[(U i)] F λb F=>Li F (Z d 0) λj=>Bc (j=1) (Li F (Z d 1) λk=>Bc (0<=k) (Li F (Z d 1) λl=>Li F (Z d 2) λm=>Bc (l<=m) (Li F (Z d 2) λn=>fI f c e a d b (decide (n<=(255:Int))) R F) (fI f c e a d b mD R F)) (fI f c e a d b mD R F)) (Li F (Z d 1) λo=>Bc (o≠0) (fI f c e a d b mD R F) (Li F (Z d 2) λp=>Bc (p≠0) (fI f c e a d b mD R F) (fI f c e a d b (decide (0<=b)) R F)))) (EM c e R F)
def Qk (a:Sl) (R:VR) (F:PH):Prop:=Bc ((512:Int)<(a.len:Int)) (R (U 2) F) (aG prog (Instr.makeSlice 297 (U (a.len:Int)) (U (a.len:Int))) F λv F=>∃b,v=(nI b)/\Nb F (Y (#[.slice I 0 0]) 297) λd F=>pv F (Z d 0) (nI b) λF=>Lp 0 F λN c F=>EN N a d R c F)
theorem qem {a:Sl} (h:Qk a R F):ν 172 #[nI a] F R:=Rx.Λ (.qa8 (.qa8 (.qa8 (.qa8 (.J mD [] (.qa8 (.L [(19,.int .i64)] (.qa8 (.qa8 (.J mD [] (.qa8 (.qa8 (.qa8 (.J mD [(8,.bool)] .N .N)))) .N))))) (.J mD [] (.qa8 (.L [(105,.int .i64)] .N)) .N)))))) h
def qx (f:Nat) (c b:Θ) (R:VR) (F:PH):Prop:=Lx F (Z f 0) λd=>Cu 206 #[.pointer c,.string d,.func (.func 207) #[] #[(Pp f),.pointer b]] F λF=>∃a,b=V a/\Lb F a λe=>R (.bool e) F
def Ql (d:Sl) (g:ο) (R:VR) (F:PH):Prop:=Nb F (Y #[.string g] 9) λh F=>Ci 172 #[nI d] F λi F=>Bc (i≠0) (R (.bool mD) F) (ν 205 #[nI d] F λv F=>∃b,v=(.pointer b)/\Lx F (Z h 0) λe=>Bb ((e.toList==(ByteArray.mk #[]).toList)) (∃a,b=V a/\Lb F (nV a 18) λf=>Nb F (Y (#[.bool mD]) 4) λj F=>pv F (Z j 0) (.bool f) λF=>qx h (V a) (V (Z j 0)) R F) (Nb F (Y (#[.bool mD]) 4) λc F=>pv F (Z c 0) (.bool mD) λF=>qx h b (V (Z c 0)) R F))
theorem qen {a:Sl} {b:ο} (h:Ql a b R F):ν 173 #[nI a,.string b] F R:=Rx.Λ (.qa8 (.qa8 (.qa8 (.J mD [(5,.ptr),(6,.ptr)] .N .N)))) h
def Qm (a c:Int) (i:Θ) (R:VR) (F:PH):Prop:=Bc (a<0) (R (.bool mD) F) (Bc (c<=a) (R (.bool mD) F) (∃b,i=V b/\Ls F b λd=>Ix d a λe=>Lb F (nV e (nX a*1)) λf=>Bb (f) (R (.bool mD) F) (Ls F b λg=>Ix g a λh=>pv F (nV h (nX a*1)) (.bool nk) λF=>R (.bool nk) F)))
theorem qeo {b:Int} {a:Int} {c:Θ} (h:Qm b a c R F):ν 203 #[(U b),(U a),.pointer c] F R:=Rx.Λ .N h
def qy (a:Int) (b:Bool) (R:VR) (F:PH):Prop:=Bb (b) (R (U 0) F) (Bc (a=4) (R (U 1) F) (Bc (a=2) (Bc (a=2) (R (U 2) F) (R (U (-1:Int)) F)) (Bc (a=3) (R (U 2) F) (R (U (-1:Int)) F))))
def Qn (a:Int) (R:VR) (F:PH):Prop:=Bc (a=0) (qy a (decide (a=0)) R F) (qy a (decide (a=1)) R F)
theorem qep {a:Int} (h:Qn a R F):ν 204 #[(U a)] F R:=Rx.Λ (.qa8 (.T (.qa8 (.J mD [(4,.bool)] .N .N)) .N)) h
def jM (q:Nat) (i:Θ) (R:VR) (F:PH):Prop:=Nb F (Y (#[.nilFunc]) 329) λr F=>Nb F (Y (#[.nilFunc]) 332) λt F=>pv F (Z t 0) (.func (.func 232) #[] #[.pointer i]) λF=>pv F (Z r 0) (.func (.func 236) #[] #[(Pp q),(Pp r),(Pp t)]) λF=>∃a,i=V a/\Lq F a λj=>Lq F a λe=>Lq F a λb=>∃k:ξ,F.cell (Z r 0)=V k/\Ls F (Z q 0) λl=>Fn k λs n o=>aj prog s (n++([(U (i64.wrap ((l.len:Int) - 1)))]).toArray++o) F λv F=>∃m,∃c,∃d,v=(Value.tuple #[(Value.agg m),(Value.agg c),(Value.bool d)])/\F.cell (Z q 0)=V (nI l)/\F.cell a=V (.pointer b)/\F.cell a=V (.pointer e)/\F.cell a=V (.pointer j)/\∃f,j=V f/\aA F (nV f 1) 8 m λF=>F.cell a=V (.pointer b)/\F.cell a=V (.pointer e)/\∃g,e=V g/\aA F (nV g 9) 8 c λF=>F.cell a=V (.pointer b)/\∃h,b=V h/\pv F (nV h 18) (.bool d) λF=>Lq F a λp=>R (.pointer p) F
def Qo (j:Sl) (R:VR) (F:PH):Prop:=Nb F (Y #[nI j] 164) λd F=>Ls F (Z d 0) λb=>Ls F (Z d 0) λa=>((aG prog (Instr.makeSlice 303 (U (a.len:Int)) (U (a.len:Int))) F λv F=>∃g,v=(nI g)/\F.cell (Z d 0)=V (nI a)/\F.cell (Z d 0)=V (nI b)/\((Nb F (Y (#[nI b,.int .u64 0,.int .u64 0,.int .u64 0,.int .u64 0,.int .u64 0,.int .u64 0,.int .u64 0,.int .u64 0,.int .u64 0,.int .u64 0,.int .u64 0,.int .u64 0,.int .u64 0,.int .u64 0,.int .u64 0,.int .u64 0,nI g,.bool mD]:Γ) 305) λk F=>Nb F (Y (#[.pointer I]) 299) λl F=>pv F (Z l 0) (Pp k) λF=>jM d (V (Z l 0)) R F)/\(Nb F (Y (#[.pointer I]) 299) λe F=>Nb F (Y (#[nI b,.int .u64 0,.int .u64 0,.int .u64 0,.int .u64 0,.int .u64 0,.int .u64 0,.int .u64 0,.int .u64 0,.int .u64 0,.int .u64 0,.int .u64 0,.int .u64 0,.int .u64 0,.int .u64 0,.int .u64 0,.int .u64 0,nI g,.bool mD]:Γ) 305) λh F=>pv F (Z e 0) (Pp h) λF=>jM d (V (Z e 0)) R F)))/\(Nb F (Y (#[.pointer I]) 299) λf F=>aG prog (Instr.makeSlice 303 (U (a.len:Int)) (U (a.len:Int))) F λv F=>∃c,v=(nI c)/\F.cell (Z d 0)=V (nI a)/\F.cell (Z d 0)=V (nI b)/\Nb F (Y (#[nI b,.int .u64 0,.int .u64 0,.int .u64 0,.int .u64 0,.int .u64 0,.int .u64 0,.int .u64 0,.int .u64 0,.int .u64 0,.int .u64 0,.int .u64 0,.int .u64 0,.int .u64 0,.int .u64 0,.int .u64 0,.int .u64 0,nI c,.bool mD]:Γ) 305) λi F=>pv F (Z f 0) (Pp i) λF=>jM d (V (Z f 0)) R F))
theorem qeq {a:Sl} (h:Qo a R F):ν 205 #[nI a] F R:=Rx.Λ (.qa8 (.J mD [(3,.ptr)] .N .N)) h
def EO (u:Ω) (q:ξ) (p w s:Nat) (j:ο) (R:VR) (a:Int) (F:PH):Prop:=Bc (a<(j.size:Int)) (Nb F (Y (#[U 0]) 3) λk F=>pv F (Z k 0) (U a) λF=>Nb F (Y (#[.int .u64 0,.int .u64 0,.int .u64 0,.int .u64 0,.int .u64 0,.int .u64 0,.int .u64 0,.int .u64 0]) 302) λl F=>Nb F (Y (#[.int .u64 0,.int .u64 0,.int .u64 0,.int .u64 0,.int .u64 0,.int .u64 0,.int .u64 0,.int .u64 0]) 302) λt F=>Cu 233 #[(Pp s),.func (.func 238) #[] #[(Pp w),(Pp k),(Pp p),(Pp l),(Pp t)]] F λF=>Lr F 8 (Z l 0) λb=>∃f,(∀F,qX prog (Op.equal 302 (.agg b) (.agg (#[.int .u64 0,.int .u64 0,.int .u64 0,.int .u64 0,.int .u64 0,.int .u64 0,.int .u64 0,.int .u64 0]:Γ))) F f)/\Bb (f) (R (.tuple #[]) F) (Li F (Z k 0) λc=>Lq F (Z p 0) λd=>∃e,d=V e/\Lr F 8 (nV e 9) λm=>vf 239 #[(Pp l),.agg m] F λn F=>F.cell (Z p 0)=V (Value.pointer d)/\F.cell (Z k 0)=V (U c)/\F.row (Z l 0) b/\Fn q λr h i=>aj prog r (h++([(U (i64.wrap (c+1))),(Value.bool n)]).toArray++i) F λv F=>∃g,v=(Value.bool g)/\F.cell (Z p 0)=V (.pointer d)/\F.cell (Z k 0)=V (U c)/\F.row (Z l 0) b/\Bb ((!g)) (R (.tuple #[]) F) (Lr F 8 (Z t 0) λo=>aA F (Z s 0) 8 o λF=>u (i64.wrap (a+1)) F))) (R (.tuple #[]) F)
def Qp (b:Θ) (g:ο) (h:ξ) (R:VR) (F:PH):Prop:=Nb F (Y #[.pointer b] 299) λi F=>Nb F (Y #[.string g] 9) λj F=>Lq F (Z i 0) λc=>∃a,c=V a/\Lr F 8 (nV a 1) λd=>Nb F (Y (#[.int .u64 0,.int .u64 0,.int .u64 0,.int .u64 0,.int .u64 0,.int .u64 0,.int .u64 0,.int .u64 0]) 302) λk F=>aA F (Z k 0) 8 d λF=>Lx F (Z j 0) λe=>Lp 0 F λN f F=>EO N h i j k e R f F
theorem qer {a:Θ} {b:ο} {c:ξ} (h:Qp a b c R F):ν 206 #[.pointer a,.string b,c] F R:=Rx.Λ (.qa8 (.qa8 (.qa8 (.L [(16,.int .i64)] .N)))) h
def Qq (f:Int) (d:Bool) (g e:Θ) (R:VR) (F:PH):Prop:=∃b,g=V b/\Lx F b λh=>Bc (f=(h.size:Int)) (∃c,e=V c/\pv F c (.bool d) λF=>R (.bool nk) F) (∃a,e=V a/\pv F a (.bool mD) λF=>R (.bool nk) F)
theorem qes {b:Int} {a:Bool} {c:Θ} {d:Θ} (h:Qq b a c d R F):ν 207 #[(U b),.bool a,.pointer c,.pointer d] F R:=Rx.Λ .N h
def Qr (a b:Γ) (c:Θ) (R:VR) (F:PH):Prop:=Nb F (Y a 302) λd F=>Nb F (Y b 302) λe F=>Cu 233 #[(Pp d),.func (.func 234) #[] #[.pointer c,(Pp e)]] F λF=>R (.tuple #[]) F
theorem qet {a:Γ} {b:Γ} {c:Θ} (h:Qr a b c R F):ν 232 #[.agg a,.agg b,.pointer c] F R:=Rx.Λ .N h
def EP (b:Ω) (_:ξ) (_:Θ) (a:Int) (_:VR) (F:PH):Prop:=b (i64.wrap (a+1)) F
def EQ (i j:Ω) (d:ξ) (e:Int) (f:Addr) (R:VR) (a:Int) (F:PH):Prop:=Bc (a≠0) (Ci 252 #[.int .u64 a] F λg F=>Fn d λh b c=>aj prog h (b++([(U (i64.wrap ((i64.wrap (64*e))+g)))]).toArray++c) F λv F=>v=(Value.tuple #[])/\j (u64.wrap ((BitVec.ofInt (u64).bits a &&& BitVec.ofInt (u64).bits (u64.wrap (a - 1))).toNat)) F) (EP i d (V f) e R F)
def ER (i:Ω) (f:ξ) (g:Θ) (R:VR) (a:Int) (F:PH):Prop:=Bc (a<8) (∃b,g=V b/\0<=a/\a<8/\Lk F .u64 (nV b (nX a*1)) λc=>(∃(h:Nat->Ω) (e:Nat),h e c F/\∀e d F,h e d F-> EQ i (Xh h e) f a b R d F)) (R (.tuple #[]) F)
def Qt (a:Θ) (b:ξ) (R:VR) (F:PH):Prop:=Lp 0 F λN c F=>ER N b a R c F
theorem qeu {a:Θ} {b:ξ} (h:Qt a b R F):ν 233 #[.pointer a,b] F R:=Rx.Λ (.qa8 (.L [(7,.int .i64)] (.qa8 (.qa8 (.J mD [(6,.ptr)] (.qa8 (.L [(5,.int .u64)] .N)) .N))))) h
def Qu (d:Int) (h i:Θ) (R:VR) (F:PH):Prop:=∃a,h=V a/\Lq F a λe=>∃b,e=V b/\Ls F (nV b 17) λf=>Ix f d λj=>∃c,i=V c/\Lr F 8 c λg=>Cu 235 #[.pointer (V (nV j (nX d*8))),.agg g] F λF=>F.cell (nV b 17)=V (nI f)/\F.cell a=V (.pointer e)/\R (.tuple #[]) F
theorem qev {a:Int} {b:Θ} {c:Θ} (h:Qu a b c R F):ν 234 #[(U a),.pointer b,.pointer c] F R:=Rx.Λ .N h
def ES (f:Ω) (e:Θ) (g:Nat) (R:VR) (a:Int) (F:PH):Prop:=Bc (a<8) (∃b,e=V b/\0<=a/\a<8/\Lk F .u64 (nV b (nX a*1)) λc=>0<=a/\a<8/\Lk F .u64 (nV (Z g 0) (nX a*1)) λd=>0<=a/\a<8/\pv F (nV b (nX a*1)) (.int .u64 (u64.wrap ((BitVec.ofInt (u64).bits c ||| BitVec.ofInt (u64).bits d).toNat))) λF=>f (i64.wrap (a+1)) F) (R (.tuple #[]) F)
def Qv (a:Θ) (b:Γ) (R:VR) (F:PH):Prop:=Nb F (Y b 302) λd F=>Lp 0 F λN c F=>ES N a d R c F
theorem qew {a:Θ} {b:Γ} (h:Qv a b R F):ν 235 #[.pointer a,.agg b] F R:=Rx.Λ (.qa8 (.qa8 (.L [(5,.int .i64)] .N))) h
def qz (i j l:Nat) (e:Bool) (k:Nat) (f:Bool) (R:VR) (F:PH):Prop:=Lr F 8 (Z l 0) λg=>Lr F 8 (Z k 0) λh=>Bb (e) (aA F (Z i 0) 8 g λF=>aA F (Z j 0) 8 h λF=>Lr F 8 (Z i 0) λa=>Lr F 8 (Z j 0) λb=>R (.tuple #[.agg a,.agg b,.bool f]) F) (aA F (Z i 0) 8 g λF=>aA F (Z j 0) 8 h λF=>Lr F 8 (Z i 0) λc=>Lr F 8 (Z j 0) λd=>R (.tuple #[.agg c,.agg d,.bool mD]) F)
def qA (f g h e:Nat) (b:Bool) (c:Nat) (a:Bool) (R:VR) (F:PH):Prop:=Bb (a) (Lr F 8 (Z e 0) λd=>Cu 235 #[(Pp c),.agg d] F λF=>qz f g h b c a R F) (qz f g h b c a R F)
def Qw (ac:Int) (aX ad aD:Θ) (R:VR) (F:PH):Prop:=Nb F (Y (#[.int .u64 0,.int .u64 0,.int .u64 0,.int .u64 0,.int .u64 0,.int .u64 0,.int .u64 0,.int .u64 0]) 302) λe F=>Nb F (Y (#[.int .u64 0,.int .u64 0,.int .u64 0,.int .u64 0,.int .u64 0,.int .u64 0,.int .u64 0,.int .u64 0]) 302) λf F=>∃O,aX=V O/\Ls F O λaE=>Ix aE ac λaF=>Lr F 5 (nV aF (nX ac*5)) λaG=>Nb F (Y (#[U 0,U 0,U 0,U 0,U 0]) 225) λb8 F=>aA F (Z b8 0) 5 aG λF=>Li F (Z b8 0) λg=>Bc (g=1) (Cu 237 #[(Pp e),(U ac)] F λF=>Lr F 8 (Z e 0) λaH=>Lr F 8 (Z e 0) λaI=>aA F (Z e 0) 8 aH λF=>aA F (Z f 0) 8 aI λF=>Lr F 8 (Z e 0) λG=>Lr F 8 (Z f 0) λH=>R (.tuple #[.agg G,.agg H,.bool mD]) F) (Bc (g=2) (∃y,ad=V y/\∃P:ξ,F.cell y=V P/\Li F (Z b8 3) λaJ=>Fn P λaY af ag=>aj prog aY (af++([(U aJ)]).toArray++ag) F λv F=>∃Q,∃h,∃a,v=(Value.tuple #[(Value.agg Q),(Value.agg h),(Value.bool a)])/\Nb F (Y (#[.int .u64 0,.int .u64 0,.int .u64 0,.int .u64 0,.int .u64 0,.int .u64 0,.int .u64 0,.int .u64 0]) 302) λb9 F=>Nb F (Y (#[.int .u64 0,.int .u64 0,.int .u64 0,.int .u64 0,.int .u64 0,.int .u64 0,.int .u64 0,.int .u64 0]) 302) λz4 F=>aA F (Z b9 0) 8 Q λF=>aA F (Z z4 0) 8 h λF=>∃S:ξ,F.cell y=V S/\Li F (Z b8 4) λaK=>Fn S λaZ ah ai=>aj prog aZ (ah++([(U aK)]).toArray++ai) F λv F=>∃T,∃i,∃b,v=(Value.tuple #[(Value.agg T),(Value.agg i),(Value.bool b)])/\Nb F (Y (#[.int .u64 0,.int .u64 0,.int .u64 0,.int .u64 0,.int .u64 0,.int .u64 0,.int .u64 0,.int .u64 0]) 302) λak F=>Nb F (Y (#[.int .u64 0,.int .u64 0,.int .u64 0,.int .u64 0,.int .u64 0,.int .u64 0,.int .u64 0,.int .u64 0]) 302) λal F=>aA F (Z ak 0) 8 T λF=>aA F (Z al 0) 8 i λF=>∃z0,aD=V z0/\∃z1:ξ,F.cell z0=V z1/\Lr F 8 (Z z4 0) λaL=>Lr F 8 (Z ak 0) λaM=>Fn z1 λa0 am an=>aj prog a0 (am++([(Value.agg aL),(Value.agg aM)]).toArray++an) F λv F=>v=(Value.tuple #[])/\Bb (a) (Lr F 8 (Z ak 0) λaN=>Cu 235 #[(Pp b9),.agg aN] F λF=>qA e f b9 z4 a al b R F) (qA e f b9 z4 a al b R F)) (Bc (g=3) (∃c,ad=V c/\∃W:ξ,F.cell c=V W/\Li F (Z b8 3) λaO=>Fn W λa1 ao ap=>aj prog a1 (ao++([(U aO)]).toArray++ap) F λv F=>∃X,∃j,∃k,v=(Value.tuple #[(Value.agg X),(Value.agg j),(Value.bool k)])/\Nb F (Y (#[.int .u64 0,.int .u64 0,.int .u64 0,.int .u64 0,.int .u64 0,.int .u64 0,.int .u64 0,.int .u64 0]) 302) λaq F=>Nb F (Y (#[.int .u64 0,.int .u64 0,.int .u64 0,.int .u64 0,.int .u64 0,.int .u64 0,.int .u64 0,.int .u64 0]) 302) λar F=>aA F (Z aq 0) 8 X λF=>aA F (Z ar 0) 8 j λF=>∃z3:ξ,F.cell c=V z3/\Li F (Z b8 4) λaP=>Fn z3 λa2 au av=>aj prog a2 (au++([(U aP)]).toArray++av) F λv F=>∃z2,∃l,∃m,v=(Value.tuple #[(Value.agg z2),(Value.agg l),(Value.bool m)])/\Nb F (Y (#[.int .u64 0,.int .u64 0,.int .u64 0,.int .u64 0,.int .u64 0,.int .u64 0,.int .u64 0,.int .u64 0]) 302) λaQ F=>Nb F (Y (#[.int .u64 0,.int .u64 0,.int .u64 0,.int .u64 0,.int .u64 0,.int .u64 0,.int .u64 0,.int .u64 0]) 302) λaR F=>aA F (Z aQ 0) 8 z2 λF=>aA F (Z aR 0) 8 l λF=>Lr F 8 (Z aQ 0) λaS=>Cu 235 #[(Pp aq),.agg aS] F λF=>Lr F 8 (Z aR 0) λaT=>Cu 235 #[(Pp ar),.agg aT] F λF=>Lr F 8 (Z aq 0) λaa=>Lr F 8 (Z ar 0) λab=>Bb (k) (aA F (Z e 0) 8 aa λF=>aA F (Z f 0) 8 ab λF=>Lr F 8 (Z e 0) λp=>Lr F 8 (Z f 0) λq=>R (.tuple #[.agg p,.agg q,.bool nk]) F) (aA F (Z e 0) 8 aa λF=>aA F (Z f 0) 8 ab λF=>Lr F 8 (Z e 0) λr=>Lr F 8 (Z f 0) λs=>R (.tuple #[.agg r,.agg s,.bool m]) F)) (Bc (g=4) (∃n,ad=V n/\∃z:ξ,F.cell n=V z/\Li F (Z b8 3) λaw=>Fn z λaU z5 K=>aj prog aU (z5++([(U aw)]).toArray++K) F λv F=>∃A,∃d,∃B,v=(Value.tuple #[(Value.agg A),(Value.agg d),(Value.bool B)])/\Nb F (Y (#[.int .u64 0,.int .u64 0,.int .u64 0,.int .u64 0,.int .u64 0,.int .u64 0,.int .u64 0,.int .u64 0]) 302) λax F=>Nb F (Y (#[.int .u64 0,.int .u64 0,.int .u64 0,.int .u64 0,.int .u64 0,.int .u64 0,.int .u64 0,.int .u64 0]) 302) λL F=>aA F (Z ax 0) 8 A λF=>aA F (Z L 0) 8 d λF=>∃o,aD=V o/\∃C:ξ,F.cell o=V C/\Lr F 8 (Z L 0) λay=>Lr F 8 (Z ax 0) λaz=>Fn C λaV M N=>aj prog aV (M++([(Value.agg ay),(Value.agg az)]).toArray++N) F λv F=>v=(Value.tuple #[])/\Lr F 8 (Z ax 0) λaB=>Lr F 8 (Z L 0) λD=>aA F (Z e 0) 8 aB λF=>F.row (Z L 0) D/\aA F (Z f 0) 8 D λF=>Lr F 8 (Z e 0) λt=>Lr F 8 (Z f 0) λu=>R (.tuple #[.agg t,.agg u,.bool nk]) F) (Lr F 8 (Z e 0) λaC=>Lr F 8 (Z f 0) λE=>aA F (Z e 0) 8 aC λF=>F.row (Z f 0) E/\aA F (Z f 0) 8 E λF=>Lr F 8 (Z e 0) λw=>Lr F 8 (Z f 0) λx=>R (.tuple #[.agg w,.agg x,.bool nk]) F))))
theorem qex {a:Int} {b:Θ} {c:Θ} {d:Θ} (h:Qw a b c d R F):ν 236 #[(U a),.pointer b,.pointer c,.pointer d] F R:=Rx.Λ (.qa8 (.qa8 (.T (.qa8 (.qa8 (.qa8 (.qa8 (.T (.qa8 (.qa8 (.qa8 (.J mD [] .N (.J mD [] .N .N))))) .N))))) .N))) h
def Qx (d:Θ) (a:Int) (R:VR) (F:PH):Prop:=∃b,d=V b/\0<=(i64.wrap (Int.tdiv a 64))/\(i64.wrap (Int.tdiv a 64))<8/\∃c,F.cell (nV b (nX (i64.wrap (Int.tdiv a 64))*1))=V (.int .u64 c)/\0<=(sj a 64)/\0<=(i64.wrap (Int.tdiv a 64))/\(i64.wrap (Int.tdiv a 64))<8/\pv F (nV b (nX (i64.wrap (Int.tdiv a 64))*1)) (.int .u64 (u64.wrap ((BitVec.ofInt (u64).bits c ||| BitVec.ofInt (u64).bits (u64.wrap (1*2 ^ (min (nX (sj a 64)) (u64).bits)))).toNat))) λF=>R (.tuple #[]) F
theorem qey {a:Θ} {b:Int} (h:Qx a b R F):ν 237 #[.pointer a,(U b)] F R:=Rx.Λ .N h
def qB (c:Int) (i j k:Θ) (d:Bool) (R:VR) (F:PH):Prop:=Bb (d) (Cu 237 #[.pointer j,(U c)] F λF=>∃b,i=V b/\Lq F b λe=>∃a,e=V a/\Ls F (nV a 17) λf=>Ix f c λg=>Lr F 8 (nV g (nX c*8)) λh=>Cu 235 #[.pointer k,.agg h] F λF=>R (.tuple #[]) F) (R (.tuple #[]) F)
def Qy (b:Int) (t u v j k:Θ) (R:VR) (F:PH):Prop:=∃g,t=V g/\Lx F g λi=>∃h,u=V h/\Li F h λf=>0<=f/\f<(i.size:Int)/\∃(hx:nX f<i.size) (c:Int),c=((i[nX f]'hx).toNat:Int)/\∃a,v=V a/\Lq F a λl=>∃d,l=V d/\Ls F d λm=>Ix m b λn=>Li F (nV (nV n (nX b*5)) 1) λo=>Bc (o<=(i64.wrap c)) (Lq F a λp=>∃e,p=V e/\Ls F e λq=>Ix q b λr=>Li F (nV (nV r (nX b*5)) 2) λs=>qB b (V a) j k (decide ((i64.wrap c)<=s)) R F) (qB b (V a) j k mD R F)
theorem qez {a:Int} {b:Θ} {c:Θ} {d:Θ} {e:Θ} {f:Θ} (h:Qy a b c d e f R F):ν 238 #[(U a),.pointer b,.pointer c,.pointer d,.pointer e,.pointer f] F R:=Rx.Λ (.qa8 (.J mD [(3,.ptr),(33,.bool)] .N .N)) h
def ET (R:VR) (F:PH):Prop:=R (.bool mD) F
def EU (f:Ω) (e:Θ) (g:Nat) (R:VR) (a:Int) (F:PH):Prop:=Bc (a<8) (∃b,e=V b/\0<=a/\a<8/\Lk F .u64 (nV b (nX a*1)) λc=>0<=a/\a<8/\Lk F .u64 (nV (Z g 0) (nX a*1)) λd=>Bc ((u64.wrap ((BitVec.ofInt (u64).bits c &&& BitVec.ofInt (u64).bits d).toNat))≠0) (R (.bool nk) F) (f (i64.wrap (a+1)) F)) (ET R F)
def Qz (a:Θ) (b:Γ) (R:VR) (F:PH):Prop:=Nb F (Y b 302) λd F=>Lp 0 F λN c F=>EU N a d R c F
theorem qeA {a:Θ} {b:Γ} (h:Qz a b R F):ν 239 #[.pointer a,.agg b] F R:=Rx.Λ (.qa8 (.J mD [] (.qa8 (.L [(6,.int .i64)] .N)) .N)) h
abbrev cX (n:Nat):Value:=.int .u64 (n:Int)
def pq (P:Nat->Bool):Γ:= #[cX (wd P 0),cX (wd P 1),cX (wd P 2),cX (wd P 3),cX (wd P 4),cX (wd P 5),cX (wd P 6),cX (wd P 7)]
def noP:Nat->Bool:=λ_=>mD
theorem dG:pq noP= #[.int .u64 0,.int .u64 0,.int .u64 0,.int .u64 0,.int .u64 0,.int .u64 0,.int .u64 0,.int .u64 0]:=by unfold pq noP;simp only [xO];rfl
theorem Kn (P:Nat->Bool):(pq P).size=8:=rfl
theorem eZ (P:Nat->Bool) {k:Nat} (h:k<8):(pq P)[k]? =V (cX (wd P k)):=by
 have:k=0\/k=1\/k=2\/k=3\/k=4\/k=5\/k=6\/k=7:=by omega
 rcases this with rfl|rfl|rfl|rfl|rfl|rfl|rfl|rfl<;>rfl
theorem fW (P:Nat->Bool):∀v∈(pq P).toList,ak v:=by intro v g;simp only [pq,tS,WO,or_false] at g;rcases g with rfl|rfl|rfl|rfl|rfl|rfl|rfl|rfl<;>exact jv
def t6 (P Q:Nat->Bool) (k:Nat):Ξ:=(List.range 8).map λj=>if j<k then cX (wd Q j) else cX (wd P j)
theorem Gz (P Q:Nat->Bool):t6 P Q 0=(pq P).toList:=rfl
theorem Ko (P Q:Nat->Bool):t6 P Q 8=(pq Q).toList:=rfl
theorem Kp (P Q:Nat->Bool) {k:Nat} (g:k<8):(t6 P Q k).set k (cX (wd Q k))=t6 P Q (k+1):=by
 have:k=0\/k=1\/k=2\/k=3\/k=4\/k=5\/k=6\/k=7:=by omega
 rcases this with rfl|rfl|rfl|rfl|rfl|rfl|rfl|rfl<;>rfl
theorem Kq (P Q:Nat->Bool) {k:Nat} (g:k<8):(t6 P Q k)[k]? =V (cX (wd P k)):=by
 have:k=0\/k=1\/k=2\/k=3\/k=4\/k=5\/k=6\/k=7:=by omega
 rcases this with rfl|rfl|rfl|rfl|rfl|rfl|rfl|rfl<;>rfl
theorem cz (b o k:Nat):(oB b o I).add k=⟨b,o+k,I⟩:=by
 by_cases h:k=0
 ·subst h;rfl
 ·simp [nV,h]
def kq (F:PH) (b:Nat) (e:TypeId) (pre:Ξ) (P:Nat->Bool) (post:Ξ):Prop:=F b=V (Y (pre++(pq P).toList++post).toArray e)
theorem kq.row {F:PH} {b:Nat} {e:TypeId} {pre post:Ξ} {P:Nat->Bool} (h:kq F b e pre P post):F.row ⟨b,pre.length,I⟩ (pq P):=by intro i hi;have g:i<8:=hi;rw [cz,av h];rw [List.getElem?_toArray,xZ,Ua (by omega),Yi,zM (by exact g)];simp
theorem kq.own {F:PH} {b:Nat} {e:TypeId} {P:Nat->Bool}:kq F b e [] P []↔F b=V (Y (pq P) e):=by unfold kq;simp
section
variable {F:PH}
theorem uJ {b:Nat} {e:TypeId} {pre post:Ξ} {P Q:Nat->Bool} (h:kq F b e pre P post):
  ν 235 #[.pointer (V ⟨b,pre.length,I⟩),.agg (pq Q)] F λr g=>r=.tuple #[]/\kq g b e pre (λi=>P i || Q i) post/\dk (λx=>x=b) F g:=by
 refine qew ?_;unfold Qv;intro w A;refine tR ?_;have X:∃o,F b=V o:=⟨_,h⟩;have J:=ae (Y (pq Q) 302) A;have q3:=aq F w (Y (pq Q) 302);have O:(F.set w (Y (pq Q) 302)) b=V (Y (pre++t6 P (λi=>P i || Q i) 0++post).toArray e):=by rw [Gz];exact J _ _ h
 have G:b≠w:=aH A h;generalize F.set w (Y (pq Q) 302)=F3 at*;refine ⟨λm i g=>∃k:Nat,i=k/\k<=8/\m=8 - k/\g w=V (Y (pq Q) 302)/\g b=V (Y (pre++t6 P (λi=>P i || Q i) k++post).toArray e)/\dk (λx=>x=b) F g,8,⟨0,rfl,by omega,rfl,q3,O,dk.of_le J⟩,?_⟩;rintro _ _ K ⟨k,rfl,hk,rfl,q4,D,B⟩;unfold ES;refine ⟨λW=> ?_,λM=> ?_⟩
 ·have C:k<8:=by omega
  have E:(t6 P (λi=>P i || Q i) k).length=8:=by simp [t6]
  have L:(pre++t6 P (λi=>P i || Q i) k++post).toArray[pre.length+k]? =V (cX (wd P k)):=by rw [List.getElem?_toArray,xZ,Ua (by omega),Yi,zM (by omega)];exact Kq P _ C
  have ek:nX (k:Int)*1=k:=by rw [N4,xF]
  rw [ek];have N:K.cell ((oB b pre.length I).add k)=V (cX (wd P k)):=by rw [cz,av D];exact L
  have H:K.cell ((oB w 0 I).add k)=V (cX (wd Q k)):=by rw [cz,x9,av q4];exact eZ Q C
  refine ⟨_,rfl,by omega,by omega,_,N,by omega,by omega,_,H,by omega,by omega,?_⟩;refine tF (b:=b) (o:=pre.length+k) (cz b pre.length k) D (by simp [E];omega) ?_;rw [Ly (oZ P k) (oZ Q k),<- qfU];refine ⟨8 - (k+1),by omega,k+1,fo (by omega),C,rfl,?_,?_,B.trans (dk.set _ (.inl rfl))⟩
  ·rw [aw _ _ G.symm];exact q4
  ·rw [aq];congr 2;rw [List.setIfInBounds_toArray];congr 1;rw [xZ,List.set_append_right _ _ (by omega),Yi,List.set_append_left _ _ (by omega),xZ];congr 2;exact Kp P (λi=>P i || Q i) C
 ·obtain rfl:k=8:=by omega
  rw [Ko] at D;exact ⟨rfl,D,B⟩
theorem qih {b:Nat} {e:TypeId} {pre post:Ξ} {P Q:Nat->Bool} (h:kq F b e pre P post):
  ν 239 #[.pointer (V ⟨b,pre.length,I⟩),.agg (pq Q)] F λr G=>(∃t:Bool,r=.bool t/\(t=nk↔∃i,i<512/\P i=nk/\Q i=nk))/\F.le G:=by
 refine qeA ?_;unfold Qz;intro C E;refine tR ?_;have H:=ae (Y (pq Q) 302) E;have q3:=aq F C (Y (pq Q) 302);have h3:kq (F.set C (Y (pq Q) 302)) b e pre P post:=H _ _ h;generalize F.set C (Y (pq Q) 302)=J at*;refine ⟨λm i G=>∃k:Nat,i=k/\k<=8/\m=8 - k/\G=J/\∀i,i<64*k->¬(P i=nk/\Q i=nk),8,⟨0,rfl,by omega,rfl,rfl,λi hi=>by omega⟩,?_⟩;rintro _ _ F4 ⟨k,rfl,hk,rfl,O,g⟩;obtain rfl:=O.symm;unfold EU;refine ⟨λa1=> ?_,λN=> ?_⟩
 ·have w:k<8:=by omega
  have ek:nX (k:Int)*1=k:=by rw [N4,xF]
  rw [ek];have X:J.cell ((oB b pre.length I).add k)=V (cX (wd P k)):=by have:=h3.row k w;rw [this];have e:=eZ P w;rw [Wv (by exact w)] at e;exact e
  have K:J.cell ((oB C 0 I).add k)=V (cX (wd Q k)):=by rw [cz,x9,av q3];exact eZ Q w
  refine ⟨_,rfl,by omega,by omega,_,X,by omega,by omega,_,K,?_⟩;dsimp only;rw [xP (oZ P k) (oZ Q k),<- Tq];refine ⟨λa0=>⟨⟨nk,rfl,?_⟩,H⟩,λhe=>⟨8 - (k+1),by omega,k+1,fo (by omega),w,rfl,rfl,λi hi=> ?_⟩⟩
  ·refine ⟨λ_=> ?_,λ_=>rfl⟩;have D:¬wd (λi=>P i && Q i) k=0:=by omega
   rw [iN] at D;have:∃j,¬(j<64->(P (64*k+j) && Q (64*k+j))=mD):=Classical.not_forall.1 D;obtain ⟨j,M⟩:=this;have L:j<64:=Classical.byContradiction λh=>M λW=>absurd W h;have A:¬(P (64*k+j) && Q (64*k+j))=mD:=λh=>M λ_=>h;simp at A;exact ⟨64*k+j,by omega,A⟩
  ·by_cases B:i<64*k
   ·exact g i B
   ·have D:wd (λi=>P i && Q i) k=0:=by omega
    have:=iN.1 D (i - 64*k) (by omega);rw [show 64*k+(i - 64*k)=i by omega] at this;rintro ⟨a,c⟩;rw [a,c] at this;cases this
 ·obtain rfl:k=8:=by omega
  unfold ET;exact ⟨⟨mD,rfl,λh=>(by cases h),λ⟨i,hi,hp⟩=>absurd hp (g i (by omega))⟩,H⟩
theorem GA {b:Nat} {P:Nat->Bool} {i:Nat} (hi:i<512) (h:F b=V (Y (pq P) 302)):
  ν 237 #[pa b,U i] F λr N=>r=.tuple #[]/\N=F.set b (Y (pq λj=>P j || decide (j=i)) 302):=by
 refine qey ?_;unfold Qx;have J:i64.wrap (Int.tdiv (i:Int) 64)=((i / 64:Nat):Int):=by rw [show Int.tdiv (i:Int) 64=((i / 64:Nat):Int) from rfl,aJ (by omega)]
 have W:sj (i:Int) 64=((i % 64:Nat):Int):=rfl;rw [J,W];have L:nX ((i / 64:Nat):Int)*1=i / 64:=by rw [N4,xF]
 rw [L];have B:i / 64<8:=by omega
 have M:F.cell ((oB b 0 I).add (i / 64))=V (cX (wd P (i / 64))):=by rw [cz,x9,av h];exact eZ P B
 refine ⟨_,rfl,by omega,by omega,_,M,by omega,by omega,by omega,?_⟩;refine tF (b:=b) (o:=i / 64) (by rw [cz,x9]) h (by rw [Kn];exact B) ⟨rfl,?_⟩;have A:2 ^ (i % 64)<18446744073709551616:=by have:2 ^ (i % 64)<2 ^ 64:=Nat.pow_lt_pow_right (by omega) (by omega);exact this
 have K:u64.wrap ((1:Int)*2 ^ (min (nX ((i % 64:Nat):Int)) (u64).bits))=((2 ^ (i % 64):Nat):Int):=by
  have G:min (nX ((i % 64:Nat):Int)) (u64).bits=i % 64:=by rw [N4];show min (i % 64) 64=i % 64;omega
  rw [G];have:(1:Int)*2 ^ (i % 64)=((2 ^ (i % 64):Nat):Int):=by simp
  rw [this];exact nu (Int.natCast_nonneg _) (Int.ofNat_lt.2 A)
 rw [K,Ly (oZ P _) A];congr 2;have O:wd P (i / 64) ||| 2 ^ (i % 64)=wd (λj=>P j || decide (j=i)) (i / 64):=by refine uZ (Nat.or_lt_two_pow (oZ P _) A) λj E=> ?_;rw [Nat.testBit_or,iM P _ E,Zi];congr 1;rw [wm];simp;omega
 rw [O];have H:∀k,k≠i / 64->k<8->wd P k=wd (λj=>P j || decide (j=i)) k:=λk X _=>Lw λj E=>by show P (64*k+j)=(P (64*k+j) || decide (64*k+j=i));rw [show decide (64*k+j=i)=mD by simp;omega,Yr]
 apply Array.ext';apply WH;intro k;rw [Array.toList_setIfInBounds,Yk];by_cases w:k<8
 ·have C:∀(Q:Nat->Bool),(pq Q).toList[k]? =V (cX (wd Q k)):=λQ=>by rw [YI];exact eZ Q w
  rw [C,C];by_cases g:i / 64=k
  ·rw [Χ g,Χ (by exact B),g]
  ·rw [Υ g,H k (λe=>g e.symm) w]
 ·have D:∀(Q:Nat->Bool),(pq Q).toList[k]? =I:=λQ=>VP (by show 8<=k;omega);rw [D,D,Υ (by omega)]
def Tab (F:PH):Prop:=∀k v,Ad[k]? =V v->F.cell ⟨0,k,I⟩=V (.int .u8 ((v:Nat):Int))
theorem Tab.le {F G:PH} (h:Tab F) (g:F.le G):Tab G:=λk v r=>aK g (h k v r)
theorem Nr (B:Tab F) {x t:Nat} (w:x<18446744073709551616) (h:Low x t):ν 252 #[.int .u64 x] F λr H=>r=U t/\H=F:=by
 refine qel ?_;unfold Qj;have A:=h.pos;refine ⟨λK=>absurd K (by omega),λ_=> ?_⟩;have J:t<64:=by
  rcases Nat.lt_or_ge t 64 with g|g
  ·exact g
  ·obtain ⟨m,rfl⟩:=h;have:2 ^ 64<=2 ^ t:=Ww (by omega) g;omega
 have C:u64.wrap (0 - (x:Int))=((2 ^ 64 - x:Nat):Int):=by
  unfold IntKind.wrap;simp only [IntKind.bits,IntKind.signed];simp only [W6,VQ,if_false];have:(2:Nat) ^ 64=18446744073709551616:=by decide
  omega
 have G:2 ^ 64 - x<18446744073709551616:=by omega
 rw [C,xP w G,h.neg w];have D:=qfV t J;have E:u64.wrap (((2 ^ t:Nat):Int)*285870213051353865)=((2 ^ t*285870213051353865 % 18446744073709551616:Nat):Int):=by
  unfold IntKind.wrap;simp only [IntKind.bits,IntKind.signed];simp only [W6,VQ,if_false];have:((2:Nat) ^ 64:Nat)=18446744073709551616:=by decide
  omega
 rw [E];generalize M:2 ^ t*285870213051353865 % 18446744073709551616=y at*;have L:Int.fdiv ((y:Nat):Int) (2 ^ (min (nX (58:Int)) (u64).bits))=((y / 288230376151711744:Nat):Int):=by
  have:(2:Int) ^ (min (nX (58:Int)) (u64).bits)=288230376151711744:=by decide
  rw [this,Zb _ (by decide)];omega
 rw [L,N4,xF,cz,x9];refine ⟨by omega,by omega,_,B _ _ D.2,?_,rfl⟩;rw [YA (by omega)]
theorem uK {a:Addr} {P:Nat->Bool} {k:FuncId} {cap:Γ} {Inv:Nat->Ψ} (hk:aF prog k=nk) (_:a.spot=I)
  (hI:∀n F,Inv n F->Tab F/\F.row a (pq P)) (h0:∀i F,i<512->P i=mD->Inv i F->Inv (i+1) F)
  (h1:∀i F,i<512->P i=nk->Inv i F->aj prog k (#[U i]++cap) F λr D=>r=.tuple #[]/\Inv (i+1) D) (hF:Inv 0 F):
  ν 233 #[.pointer (V a),.func (.func k) #[] cap] F λr D=>r=.tuple #[]/\Inv 512 D:=by
 refine qeu ?_;unfold Qt;refine ⟨λm i D=>∃w:Nat,i=w/\w<=8/\m=8 - w/\Inv (64*w) D,8,⟨0,rfl,by omega,rfl,hF⟩,?_⟩;rintro _ _ F1 ⟨w,rfl,hw,rfl,G⟩;unfold ER;refine ⟨λa2=> ?_,λa0=> ?_⟩
 ·have L:w<8:=by omega
  have ek:nX (w:Int)*1=w:=by rw [N4,xF]
  rw [ek];have hc:F1.cell (a.add w)=V (cX (wd P w)):=by rw [(hI _ _ G).2 w L];have e:=eZ P L;rw [Wv (by exact L)] at e;exact e
  refine ⟨a,rfl,by omega,by omega,_,hc,?_⟩;refine ⟨λm x D=>∃j y:Nat,x=y/\j<=64/\m=64 - j/\y<18446744073709551616/\(∀i,y.testBit i=((wd P w).testBit i && decide (j<=i)))/\Inv (64*w+j) D,64,⟨0,wd P w,rfl,by omega,rfl,oZ P w,λi=>by simp,G⟩,?_⟩;rintro _ _ F2 ⟨j,y,rfl,hj,rfl,N,g,K⟩;unfold EQ;have skip:∀(t:Nat),j<=t->t<=64->(∀i,j<=i->i<t->P (64*w+i)=mD)->Inv (64*w+t) F2:=by
   intro t;induction t with
   |zero=>
    intro h _ _;obtain rfl:j=0:=by omega
    exact K
   |succ t ih=>
    intro h h2 h3;by_cases e:j=t+1
    ·subst e;exact K
    ·have:=ih (by omega) (by omega) λi a c=>h3 i a (by omega);exact h0 (64*w+t) F2 (by omega) (h3 t (by omega) (by omega)) this
  refine ⟨λa1=> ?_,λhe=> ?_⟩
  ·
   have W:∃t,y.testBit t=nk:=Classical.byContradiction λhn=>by
    have:y=0:=Nat.eq_of_testBit_eq λi=>by rw [Nat.zero_testBit];exact Yl.2 λh=>hn ⟨i,h⟩
    omega
   obtain ⟨t,E,B⟩:∃t,y.testBit t=nk/\∀i,i<t->y.testBit i=mD:=by
    obtain ⟨t,E⟩:=W;have key:∀n t,t<=n->y.testBit t=nk->∃t,y.testBit t=nk/\∀i,i<t->y.testBit i=mD:=by
     intro n;induction n with
     |zero=>
      intro t h E;obtain rfl:t=0:=by omega
      exact ⟨0,E,λi hi=>by omega⟩
     |succ n ih=>
      intro t h E;by_cases hl:∃i,i<t/\y.testBit i=nk
      ·obtain ⟨i,h1,h2⟩:=hl;exact ih i (by omega) h2
      ·exact ⟨t,E,λi hi=>Yl.2 λh=>hl ⟨i,hi,h⟩⟩
    exact key t t (ru _) E
   have C:Low y t:=Low.of E B;have A:=g t;rw [E] at A;simp at A;have J:t<64:=by
    rcases Nat.lt_or_ge t 64 with h|h
    ·exact h
    ·rw [Nat.testBit_lt_two_pow (Nat.lt_of_lt_of_le (oZ P w) (by have:2 ^ 64<=2 ^ t:=Ww (by omega) h;exact this))] at A;simp at A
   have X:P (64*w+t)=nk:=by rw [<- iM P w J];exact A.1
   have hz:∀i,j<=i->i<t->P (64*w+i)=mD:=λi a c=>by have:=g i;rw [B i c,iM P w (by omega)] at this;simp only [ε a,Bool.and_true] at this;exact this.symm
   have H:=skip t A.2 (by omega) hz;refine (Nr (hI _ _ H).1 N C).mono ?_;rintro _ F3 ⟨rfl,e3⟩;obtain rfl:=e3.symm;have ei:i64.wrap (i64.wrap ((64:Int)*(w:Int))+(t:Int))=((64*w+t:Nat):Int):=by rw [aJ (x:=(64:Int)*w) (by omega) (by omega),aJ (by omega)];omega
   refine ⟨_,rfl,k,#[],cap,rfl,hk,?_⟩;rw [ei];have:=h1 (64*w+t) F2 (by omega) X H;refine aj.mono (R:=λr D=>r=.tuple #[]/\Inv (64*w+t+1) D) (by simpa using this) ?_;rintro _ F4 ⟨rfl,O⟩;refine ⟨rfl,64 - (t+1),by omega,t+1,y &&& (y - 1),?_,by omega,rfl,Nat.lt_of_le_of_lt Nat.and_le_left N,λi=> ?_,O⟩
   ·have e:u64.wrap ((y:Int) - 1)=((y - 1:Nat):Int):=by have:=C.pos;rw [nu (by omega) (by omega)];omega
    rw [e,xP N (by omega)]
   ·rw [C.clear,g i];by_cases M:i<t
    ·have:=B i M;rw [g i] at this;rw [this];simp;omega
    ·by_cases e:i=t
     ·subst e;simp
     ·have:j<=i:=by omega
      simp [this,e];omega
  ·have Q:y=0:=by omega
   subst Q;unfold EP;refine ⟨8 - (w+1),by omega,w+1,fo (by omega),L,rfl,?_⟩;rw [show 64*(w+1)=64*w+64 by omega];refine skip 64 hj (ru _) λi a c=> ?_;have:=g i;rw [Nat.zero_testBit,iM P w c] at this;simp only [ε a,Bool.and_true] at this;exact this.symm
 ·obtain rfl:w=8:=by omega
  exact ⟨rfl,G⟩
end
end
open Go.ChangeShapes Go.WideShapes Go.ChangeAt Go.RowKit
set_option maxRecDepth 100000
abbrev s9:List (String×DataW Unit):=[("math/bits.deBruijn64tab",Rows.laid_math_bits_deBruijn64tab)]
theorem ow:prog.cellsOf 5=1:=by kernel_rfl
theorem qeB:ownKnob prog.godebug=I:=by kernel_rfl
theorem Nt:laidOutB prog=nk:=by kernel_rfl
theorem SK:(Rows.laid_math_bits_deBruijn64tab:DataW Unit)=.agg (Ad.map λ(n:Nat)=> .lit (.int .u8 (n:Int))):=by kernel_rfl
theorem qii {W:World} (h:laidMetH prog s9 W):Tab (hF W):=by
 intro r v hv;have hr:r<64:=(N6.1 hv).1;rw [MakeChecks.laidMetH_plain _ _ _ (by kernel_rfl)] at h;obtain ⟨ps,⟨g,t,cs,fuel,p,q,hg,ht,hw,hd,_,_⟩,_,_⟩:=h;obtain rfl:=yR ((show prog.globalNamed "math/bits.deBruijn64tab"=V 0 by kernel_rfl).symm.trans hg);obtain rfl:=yR ((show (prog.globals[0]?).map (·.type)=V 347 by kernel_rfl).symm.trans ht);obtain ⟨xs,m,_,ex,_,hl,hel⟩:=DataW.trod_array underlying347 hd;have hE:=hel r hr;rw [ow,xF,N5 (by omega)] at hE;obtain ⟨z,e1,e2,_⟩:=DataW.trod_int underlying5 hE;rw [SK] at ex;have e3:(xs.map (·.1))=Ad.map λ(n:Nat)=> .lit (.int .u8 (n:Int)):=(DataW.agg.inj (Prod.mk.inj ex).1).symm;have e4:(xs.map (·.1))[r]? =(Ad.map λ(n:Nat)=>(DataW.lit (.int .u8 (n:Int)):DataW Unit))[r]? :=by rw [e3]
 rw [yw,yw,N5 (by omega:r<xs.length),hv,e2] at e4;have hz:z=(v:Int):=by simp only [VD,Option.some.injEq,DataW.lit.injEq,Lit.int.injEq,true_and] at e4;exact e4
 refine Fv ?_;rw [World.var?_cell hg hw r,<- hz];have:cs.toList[r]? =V (.int .u8 z):=by
  have h0:((cs.toList.drop r).take 1)[0]? =V (.int .u8 z):=by rw [e1];rfl
  simpa using h0
 simpa using this
theorem Kr (os:Os) (args:Γ):laidMetH prog s9 ((World.laidAll prog os s9).forCall (λ_ _=>0) ⟨#[],args,[]⟩).memory:=by rw [MakeChecks.laidMetH_plain _ _ _ (by kernel_rfl)];exact laidMet_laidAll _ (by kernel_rfl) (by kernel_rfl)
open Go.Deep
section
section
variable {H:Type} {enc:TypeId×ξ->H} {P:Program} {W:World}
theorem Kt {t e fuel:Nat} {k:IntKind} {c:ξ} {x:DataW H×List MemPlace} (G:P.underlying t=V (.slice e)) (Q:P.underlying e=V (.int k)) (R:P.cellsOf e=1)
  (h:DataW.trod enc P W 0 (λ_=>nk) nk fuel t [c]=V x) (B:(x.1.weights P t).all (·<=reachBytes)=nk):
  ∃(sl:Sl) (C:Φ),c=nI sl/\RdS (hF W) sl 1 (C.map (Value.int k))/\(∀z∈C,(Lit.int k z).wf=nk)/\sl.len*P.bytesOf e<=reachBytes/\sl.cap*P.bytesOf e<=reachBytes:=by
 rcases open_slice1 G R h with ⟨g,rfl⟩|⟨a,len,cap,m,n,O,D,Pl,g,_,F,hm,r,rfl,A⟩
 ·cases g;exact ⟨pm,[],rfl,RdS.nil _ _,by simp,by simp [pm],by simp [pm]⟩
 ·cases g;simp only [if_true] at r;subst r;have w:∀i,i<m->∃z,O i=.int k z/\(Lit.int k z).wf=nk:=λi hi=>by obtain ⟨z,M,_,h3⟩:=DataW.trod_int Q (A i hi).2;exact ⟨z,by simpa using M,h3⟩
  obtain ⟨N,J⟩:=choose_lt w;have K:m*P.bytesOf e<=reachBytes:=by simp only [DataW.weights,G,Xw,VT,δ,ub,WI] at B;rw [show len+(m - len)=m by omega] at B;exact B.1
  refine ⟨⟨V a,len,m⟩,(List.range len).map N,rfl,⟨by simp,F,λX=> ?_⟩,?_,WA (Xj _ F) K,K⟩
  ·have E:=World.cell?_spot (A 0 (by simp only at X;omega)).1;obtain ⟨b,o,L⟩:=a;simp only [nV] at E;subst E;refine ⟨b,o,rfl,λi hi=> ?_⟩;simp at hi;have:=Fv (A i (by omega)).1;rw [(J i (by omega)).1] at this;rw [aI] at this;simpa using this
  ·intro z w;simp only [xv,WU] at w;obtain ⟨i,hi,rfl⟩:=w;exact (J i (by omega)).2
end
theorem SL {z:Int} (h:(Lit.int .u8 z).wf=nk):0<=z/\z<=255:=bounds_u8 h
theorem Nu {F:PH} {sl:Sl} {g:Φ} (h:RdS F sl 1 (g.map (Value.int .u8))) (w:sl.len*prog.bytesOf 5<=reachBytes):g.length<=9000000000000000:=by
 have:=h.len;rw [ub] at this;have e:prog.bytesOf 5=1:=by kernel_rfl
 have r:reachBytes=140737488351232:=rfl;rw [e,r] at w;omega
class Mem (α:Type) where
 n:Nat
 rep:PH->α->Γ->Prop
 len:∀{F:PH} {x:α} {c:Γ},rep F x c->c.size=n
 le:∀{F G:PH} {x:α} {c:Γ},F.le G->rep F x c->rep G x c
 st:∀{F:PH} {x:α} {c:Γ},rep F x c->∀v∈c.toList,ak v
def tZ (vs:List Γ):Ξ:=vs.flatMap Array.toList
theorem cH (c:Γ) (vs:List Γ):tZ (c::vs)=c.toList++tZ vs:=rfl
theorem ba (a b:List Γ):tZ (a++b)=tZ a++tZ b:=by simp [tZ]
theorem cI (c:Γ):tZ [c]=c.toList:=by simp [tZ]
inductive bS {α:Type} [Mem α] (F:PH):List α->List Γ->Prop
 |nil:bS F [] []
 |cons {x:α} {c:Γ} {l:List α} {vs:List Γ}:Mem.rep F x c->bS F l vs->bS F (x::l) (c::vs)
namespace bS
section
variable {α:Type} [Mem α] {F G:PH} {l m:List α} {vs ws:List Γ}
theorem le (g:F.le G) (h:bS F l vs):bS G l vs:=by
 induction h with
 |nil=>exact .nil
 |cons h _ ih=>exact .cons (Mem.le g h) ih
theorem length (h:bS F l vs):vs.length=l.length:=by
 induction h with
 |nil=>rfl
 |cons _ _ ih=>simp [ih]
theorem cat_len (h:bS F l vs):(tZ vs).length=l.length*Mem.n α:=by
 induction h with
 |nil=>simp [tZ]
 |cons h _ ih=>rw [cH,tT,ih,zQ,Mem.len h,wg,WJ,XM]
theorem append (h:bS F l vs) (k:bS F m ws):bS F (l++m) (vs++ws):=by
 induction h with
 |nil=>exact k
 |cons h _ ih=>exact .cons h ih
theorem st (h:bS F l vs):∀v∈tZ vs,ak v:=by
 induction h with
 |nil=>intro v g;cases g
 |cons h _ ih=>
  intro v g;rw [cH,vj] at g;rcases g with g|g
  ·exact Mem.st h v g
  ·exact ih v g
theorem get (h:bS F l vs):∀{i:Nat} {x:α},l[i]? =V x->∃c,vs[i]? =V c/\Mem.rep F x c/\((tZ vs).drop (i*Mem.n α)).take (Mem.n α)=c.toList:=by
 induction h with
 |nil=>intro i x r;simp at r
 | @cons y c l vs h C ih=>
  intro i x r;have g:=Mem.len h;cases i with
  |zero=>simp at r;subst r;refine ⟨c,rfl,h,?_⟩;rw [Wp,Vu,cH,Xi (by simp [g]),zh (by simp [g])]
  |succ i=>simp at r;obtain ⟨d,B,A,w⟩:=ih r;refine ⟨d,by simpa using B,A,?_⟩;rw [cH,WJ,List.drop_append,Ye (by simp [g]),zB];rw [show i*Mem.n α+Mem.n α - c.toList.length=i*Mem.n α by simp [g]];exact w
theorem take (h:bS F l vs) (k:Nat):bS F (l.take k) (vs.take k):=by
 induction h generalizing k with
 |nil=>simp only [List.take_nil];exact .nil
 |cons h _ ih=>
  cases k with
  |zero=>exact .nil
  |succ k=>exact .cons h (ih k)
theorem drop (h:bS F l vs) (k:Nat):bS F (l.drop k) (vs.drop k):=by
 induction h generalizing k with
 |nil=>simp only [List.drop_nil];exact .nil
 |cons h g ih=>
  cases k with
  |zero=>exact .cons h g
  |succ k=>exact ih k
theorem cat_take (h:bS F l vs) (k:Nat):(tZ vs).take (k*Mem.n α)=tZ (vs.take k):=by
 induction h generalizing k with
 |nil=>simp [tZ]
 |cons h _ ih=>
  cases k with
  |zero=>simp [tZ]
  |succ k=>have g:=Mem.len h;rw [XU,cH,cH,WJ,List.take_append,zh (by simp [g])];congr 1;rw [show k*Mem.n α+Mem.n α - (Array.toList _).length=k*Mem.n α by simp [g]];exact ih k
theorem cat_drop (h:bS F l vs) (k:Nat):(tZ vs).drop (k*Mem.n α)=tZ (vs.drop k):=by
 induction h generalizing k with
 |nil=>simp [tZ]
 |cons h _ ih=>
  cases k with
  |zero=>simp [tZ]
  |succ k=>have g:=Mem.len h;rw [Xy,cH,WJ,List.drop_append,Ye (by simp [g]),zB];rw [show k*Mem.n α+Mem.n α - (Array.toList _).length=k*Mem.n α by simp [g]];exact ih k
theorem set (h:bS F l vs) {i:Nat} {x:α} {c:Γ} (g:Mem.rep F x c):bS F (l.set i x) (vs.set i c):=by
 induction h generalizing i with
 |nil=>simp only [List.set_nil];exact .nil
 |cons h r ih=>
  cases i with
  |zero=>exact .cons g r
  |succ i=>exact .cons h ih
end
end bS
def RL {α:Type} [Mem α] (F:PH) (s:Sl) (l:List α):Prop:=∃vs,bS F l vs/\RdS F s (Mem.n α) (tZ vs)
namespace RL
section
variable {α:Type} [Mem α] {F G:PH} {s:Sl} {l:List α}
theorem le (h:RL F s l) (g:F.le G):RL G s l:=by obtain ⟨vs,r,w⟩:=h;exact ⟨vs,r.le g,w.le g⟩
theorem nil (F:PH):RL F pm ([]:List α):=⟨[],.nil,RdS.nil F _⟩
theorem len (h:RL F s l) (r:0<Mem.n α:=by decide):s.len=l.length:=by obtain ⟨vs,g,w⟩:=h;have:=w.len;rw [g.cat_len] at this;exact (Nat.eq_of_mul_eq_mul_right r this).symm
theorem cap (h:RL F s l):s.len<=s.cap:=by obtain ⟨vs,r,g⟩:=h;exact g.cap
theorem get (h:RL F s l) (D:0<Mem.n α) {i:Nat} {x:α} (A:l[i]? =V x):∃a c,s.qa5=V a/\F.row (a.add (i*Mem.n α)) c/\Mem.rep F x c:=by
 obtain ⟨vs,w,r⟩:=h;obtain ⟨c,J,C,H⟩:=w.get A;have hi:i<l.length:=(N6.1 A).1;have g:=r.len;rw [w.cat_len] at g;have E:0<s.len:=by have:=Nat.eq_of_mul_eq_mul_right D g;omega
 obtain ⟨b,o,B,_⟩:=r.cells E;refine ⟨⟨b,o,I⟩,c,B,r.row B _ c ?_,C⟩;rw [Mem.len C];exact H.symm
end
end RL
instance:Mem Int where
 n:=1
 rep _ x c:=c= #[U x]
 len h:=by rw [h];rfl
 le _ h:=h
 st h:=by rw [h];simp [ak]
instance:Mem ο where
 n:=1
 rep _ x c:=c= #[.string x]
 len h:=by rw [h];rfl
 le _ h:=h
 st h:=by rw [h];simp [ak]
instance:Mem Br where
 n:=3
 rep _ x c:=c=aW x
 len h:=by rw [h];rfl
 le _ h:=h
 st h:=by rw [h];simp [ak]
instance:Mem Nd where
 n:=5
 rep _ x c:=c=x.arr
 len h:=by rw [h];rfl
 le _ h:=h
 st h:=by rw [h];simp [ak]
structure Sy where
 t:Bool
 i:Int
deriving DecidableEq
abbrev Sy.arr (x:Sy):Γ:= #[.bool x.t,U x.i]
instance:Mem Sy where
 n:=2
 rep _ x c:=c=x.arr
 len h:=by rw [h];rfl
 le _ h:=h
 st h:=by rw [h];simp [ak]
structure Cn where
 k:Int
 a:Int
 b:Int
deriving DecidableEq
abbrev Cn.arr (x:Cn):Γ:= #[U x.k,U x.a,U x.b]
instance:Mem Cn where
 n:=3
 rep _ x c:=c=x.arr
 len h:=by rw [h];rfl
 le _ h:=h
 st h:=by rw [h];simp [ak]
theorem RL.flat {α:Type} [Mem α] {f:α->Γ} (w:∀F x c,Mem.rep F x c↔c=f x) {F:PH} {s:Sl} {l:List α}:RL F s l↔RdS F s (Mem.n α) (l.flatMap λx=>(f x).toList):=by
 have key:∀(l:List α) (vs:List Γ),bS F l vs↔vs=l.map f:=by
  intro l;induction l with
  |nil=>intro vs;exact ⟨λh=>by cases h;rfl,λh=>by rw [h];exact .nil⟩
  |cons x l ih=>
   intro vs;constructor
   ·intro h;cases h with
    |cons r g=>rw [(w _ _ _).1 r,(ih _).1 g];rfl
   ·intro h;rw [h];exact .cons ((w _ _ _).2 rfl) ((ih _).2 rfl)
 have e:tZ (l.map f)=l.flatMap λx=>(f x).toList:=by simp [tZ,List.flatMap_map]
 constructor
 ·rintro ⟨vs,r,g⟩;rw [(key l vs).1 r,e] at g;exact g
 ·intro h;exact ⟨_,(key l _).2 rfl,by rw [e];exact h⟩
theorem RL.brs {F:PH} {s:Sl} {l:List Br}:RL F s l↔RdS F s 3 (aV l):=RL.flat (f:=aW) (λ_ _ _=>Iff.rfl)
theorem RL.nds {F:PH} {s:Sl} {l:List Nd}:RL F s l↔RdS F s 5 (dF l):=RL.flat (f:=Nd.arr) (λ_ _ _=>Iff.rfl)
theorem Ku {α:Type} (f:α->ξ) (l:List α):(l.flatMap λx=>(#[f x]:Γ).toList)=l.map f:=by
 induction l with
 |nil=>rfl
 |cons x l ih=>rw [VC,ih];rfl
theorem RL.ints {F:PH} {s:Sl} {l:Φ}:RL F s l↔RdS F s 1 (l.map U):=by rw [RL.flat (f:=λx=> #[U x]) (λ_ _ _=>Iff.rfl),Ku];rfl
theorem RL.strs {F:PH} {s:Sl} {l:List ο}:RL F s l↔RdS F s 1 (l.map Value.string):=by rw [RL.flat (f:=λx=> #[.string x]) (λ_ _ _=>Iff.rfl),Ku];rfl
theorem DV.mk {F:PH} {s:Sl} {d:wa} (h:RL F s d.1):DV F #[s.v,U d.2] d:=⟨s,rfl,RL.brs.1 h⟩
structure Tk where
 name:ο
 cls:Int
 lit:ο
 pat:List Nd
 smp:ο
 cond:wa
structure Sco where
 o:Bool
 d:Int
 k:Int
 u:Int
 a:Int
deriving DecidableEq
structure Pr where
 name:ο
 left:Int
 right:List Sy
 cond:wa
 brk:Bool
 rank:Int
 lay:List Cn
 sco:Sco
structure Lv where
 ps:Φ
 assoc:Int
 cond:wa
structure Fi where
 k:Int
 par:Int
 pos:Int
 ch:Int
 left:Int
 tok:Int
 qa2:Φ
 cond:wa
structure Gr where
 qa4:List ο
 fam:wa
 qa2:List Tk
 qa1:List ο
 qa0:List Pr
 start:Int
 lvs:List Lv
 fils:List Fi
deriving instance DecidableEq for Tk,Pr,Lv,Fi,Gr
abbrev Tk.arr (x:Tk) (p n:Sl):Γ:= #[.string x.name,U x.cls,.string x.lit,p.v,.string x.smp,n.v,U x.cond.2]
abbrev Pr.arr (x:Pr) (r n l:Sl):Γ:= #[.string x.name,U x.left,r.v,n.v,U x.cond.2,.bool x.brk,U x.rank,l.v,.bool x.sco.o,U x.sco.d,U x.sco.k,U x.sco.u,U x.sco.a]
abbrev Lv.arr (x:Lv) (p n:Sl):Γ:= #[p.v,U x.assoc,n.v,U x.cond.2]
abbrev Fi.arr (x:Fi) (t n:Sl):Γ:= #[U x.k,U x.par,U x.pos,U x.ch,U x.left,U x.tok,t.v,n.v,U x.cond.2]
abbrev Gr.arr (g:Gr) (c n t s p l f:Sl):Γ:= #[c.v,n.v,U g.fam.2,t.v,s.v,p.v,U g.start,l.v,f.v]
instance:Mem Tk where
 n:=7
 rep F x c:=∃p n,c=x.arr p n/\RL F p x.pat/\RL F n x.cond.1
 len h:=by obtain ⟨p,n,rfl,_⟩:=h;rfl
 le hl h:=by obtain ⟨p,n,h1,h2,h3⟩:=h;exact ⟨p,n,h1,h2.le hl,h3.le hl⟩
 st h:=by obtain ⟨p,n,rfl,_⟩:=h;simp [ak,nI]
instance:Mem Pr where
 n:=13
 rep F x c:=∃r n l,c=x.arr r n l/\RL F r x.right/\RL F n x.cond.1/\RL F l x.lay
 len h:=by obtain ⟨r,n,l,rfl,_⟩:=h;rfl
 le hl h:=by obtain ⟨r,n,l,h1,h2,h3,h4⟩:=h;exact ⟨r,n,l,h1,h2.le hl,h3.le hl,h4.le hl⟩
 st h:=by obtain ⟨r,n,l,rfl,_⟩:=h;simp [ak,nI]
instance:Mem Lv where
 n:=4
 rep F x c:=∃p n,c=x.arr p n/\RL F p x.ps/\RL F n x.cond.1
 len h:=by obtain ⟨p,n,rfl,_⟩:=h;rfl
 le hl h:=by obtain ⟨p,n,h1,h2,h3⟩:=h;exact ⟨p,n,h1,h2.le hl,h3.le hl⟩
 st h:=by obtain ⟨p,n,rfl,_⟩:=h;simp [ak,nI]
instance:Mem Fi where
 n:=9
 rep F x c:=∃t n,c=x.arr t n/\RL F t x.qa2/\RL F n x.cond.1
 len h:=by obtain ⟨p,n,rfl,_⟩:=h;rfl
 le hl h:=by obtain ⟨p,n,h1,h2,h3⟩:=h;exact ⟨p,n,h1,h2.le hl,h3.le hl⟩
 st h:=by obtain ⟨p,n,rfl,_⟩:=h;simp [ak,nI]
structure GS (F:PH) (g:Gr) (c n t s p l f:Sl):Prop where
 c:RL F c g.qa4
 n:RL F n g.fam.1
 t:RL F t g.qa2
 s:RL F s g.qa1
 p:RL F p g.qa0
 l:RL F l g.lvs
 f:RL F f g.fils
theorem GS.le {F G:PH} {g:Gr} {c n t s p l f:Sl} (h:GS F g c n t s p l f) (r:F.le G):GS G g c n t s p l f:=
 ⟨h.c.le r,h.n.le r,h.t.le r,h.s.le r,h.p.le r,h.l.le r,h.f.le r⟩
def GV (F:PH) (v:Γ) (g:Gr):Prop:=∃c n t s p l f,v=g.arr c n t s p l f/\GS F g c n t s p l f
theorem GV.le {F G:PH} {v:Γ} {g:Gr} (h:GV F v g) (w:F.le G):GV G v g:=by obtain ⟨c,n,t,s,p,l,f,r,A⟩:=h;exact ⟨c,n,t,s,p,l,f,r,A.le w⟩
theorem GV.size {F:PH} {v:Γ} {g:Gr} (h:GV F v g):v.size=9:=by obtain ⟨c,n,t,s,p,l,f,rfl,_⟩:=h;rfl
theorem GV.st {F:PH} {v:Γ} {g:Gr} (h:GV F v g):∀x∈v.toList,ak x:=by obtain ⟨c,n,t,s,p,l,f,rfl,_⟩:=h;simp [ak,nI]
variable {R:VR} {F:PH}
set_option maxHeartbeats 4000000
def QA (a:Sl) (b:ο) (R:VR) (F:PH):Prop:=Ci 154 #[nI a] F λe F=>Bc (e=0) (Nb F (Y #[(U 0)] 3) λf F=>Cs 156 #[nI a,(U (i64.wrap ((a.len:Int) - 1))),.string b,nI (Sb f 1)] F λc F=>vf 155 #[nI c,(U (b.size:Int))] F λd F=>R (.bool d) F) (R (.bool mD) F)
theorem qeC {a:Sl} {b:ο} (h:QA a b R F):ν 121 #[nI a,.string b] F R:=Rx.Λ .N h
def EV (a:Sl) (R:VR) (F:PH):Prop:=Bc ((a.len:Int)=0) (R (U 40) F) (R (U 0) F)
def EW (f:Ω) (b c:Sl) (R:VR) (a:Int) (F:PH):Prop:=Bc (a<(i64.wrap ((b.len:Int) - 1))) (Ix c a λd=>Li F (nV d (nX a*1)) λe=>Bc (e≠1) (R (U 40) F) (f (i64.wrap (a+1)) F)) (EV b R F)
def EX (b a:Sl) (R:VR) (F:PH):Prop:=Lp 0 F λN c F=>EW N b a R c F
def qC (c:Ω) (_ _:Sl) (a:Int) (_:VR) (F:PH):Prop:=c (i64.wrap (a+1)) F
def qD (j:Ω) (d a:Sl) (c e:Int) (R:VR) (F:PH):Prop:=Bc (2<=e) (Ix d c λf=>Li F (nV (nV f (nX c*5)) 4) λb=>Ix a b λg=>Li F (nV g (nX b*1)) λh=>Ix a b λi=>pv F (nV i (nX b*1)) (U (i64.wrap (h+1))) λF=>qC j d a c R F) (qC j d a c R F)
def EY (n:Ω) (c a:Sl) (R:VR) (b:Int) (F:PH):Prop:=Bc (b<(c.len:Int)) (vf 188 #[nI c,(U b)] F λg F=>Bb ((!g)) (R (U 40) F) (Ix c b λh=>Li F (nV h (nX b*5)) λi=>ν 189 #[(U i)] F λv F=>∃d,∃f,v=(.tuple #[(U d),.bool f])/\Bc (1<=d) (Ix c b λj=>Li F (nV (nV j (nX b*5)) 3) λe=>Ix a e λk=>Li F (nV k (nX e*1)) λl=>Ix a e λm=>pv F (nV m (nX e*1)) (U (i64.wrap (l+1))) λF=>qD n c a b d R F) (qD n c a b d R F))) (EX c a R F)
def QB (a:Sl) (R:VR) (F:PH):Prop:=Bc ((512:Int)<(a.len:Int)) (R (U 2) F) (aG prog (Instr.makeSlice 76 (U (a.len:Int)) (U (a.len:Int))) F λv F=>∃b,v=(nI b)/\Lp 0 F λN c F=>EY N a b R c F)
theorem qeD {a:Sl} (h:QB a R F):ν 154 #[nI a] F R:=Rx.Λ (.qa8 (.qa8 (.qa8 (.J mD [] (.qa8 (.L [(4,.int .i64)] (.qa8 (.J mD [] (.qa8 (.qa8 (.J mD [] .N .N))) .N)))) (.J mD [] (.qa8 (.L [(7,.int .i64)] .N)) .N))))) h
def EZ (R:VR) (F:PH):Prop:=R (.bool mD) F
def E6 (f:Ω) (b:Sl) (e:Int) (R:VR) (a:Int) (F:PH):Prop:=Bc (a<(b.len:Int)) (Ix b a λc=>Li F (nV c (nX a*1)) λd=>Bc (d=e) (R (.bool nk) F) (f (i64.wrap (a+1)) F)) (EZ R F)
def QC (a:Sl) (b:Int) (R:VR) (F:PH):Prop:=Lp 0 F λN c F=>E6 N a b R c F
theorem qeE {a:Sl} {b:Int} (h:QC a b R F):ν 155 #[nI a,(U b)] F R:=Rx.Λ (.qa8 (.J mD [] (.qa8 (.L [(5,.int .i64)] .N)) .N)) h
def E8 (a:Sl) (R:VR) (F:PH):Prop:=R (nI a) F
def E9 (h:Sl->Ω) (f:Sl) (g:ο) (i:Nat) (R:VR) (a:Sl) (e:Int) (F:PH):Prop:=Bc (e<(a.len:Int)) (Li F (Z i 3) λb=>Cs 156 #[nI f,(U b),.string g,nI a] F λc F=>Cs 190 #[nI a,nI c] F λd F=>h d (a.len:Int) F) (E8 a R F)
def Fb (e:Sl) (f:ο) (b:Sl) (h:Nat) (R:VR) (F:PH):Prop:=(∃(g:Nat->Sl->Ω) (d:Nat),g d b (-1:Int) F/\∀d a c F,g d a c F-> E9 (V6 g d) e f h R a c F)
def Fc (a:Sl) (R:VR) (F:PH):Prop:=R (nI a) F
def qE (d:Sl->Ω) (_:ο) (_:Sl) (_:Nat) (b:Int) (a:Sl) (_:VR) (F:PH):Prop:=d a (i64.wrap (b+1)) F
def mV (j:Sl->Ω) (d:ο) (b:Sl) (k:Nat) (a:Sl) (c:Int) (e:Bool) (R:VR) (F:PH):Prop:=Bb (e) (Ix b c λf=>Li F (nV f (nX c*1)) λg=>Nb F (Y #[(U (i64.wrap (g+1)))] 3) λi F=>Ap 76 #[nI a,nI (Sb i 1)] F λh F=>qE j d b k c h R F) (qE j d b k c a R F)
def xB (p:Sl->Ω) (d:ο) (a:Sl) (i:Nat) (R:VR) (b:Sl) (c:Int) (F:PH):Prop:=Bc (c<(a.len:Int)) (Ix a c λj=>Li F (nV j (nX c*1)) λk=>Bc (k<(d.size:Int)) (Ix a c λl=>Li F (nV l (nX c*1)) λe=>0<=e/\e<(d.size:Int)/\∃(hx:nX e<d.size) (g:Int),g=((d[nX e]'hx).toNat:Int)/\Li F (Z i 1) λm=>Bc (m<=(i64.wrap g)) (Ix a c λn=>Li F (nV n (nX c*1)) λf=>0<=f/\f<(d.size:Int)/\∃(hx:nX f<d.size) (h:Int),h=((d[nX f]'hx).toNat:Int)/\Li F (Z i 2) λo=>mV p d a i b c (decide ((i64.wrap h)<=o)) R F) (mV p d a i b c mD R F)) (mV p d a i b c mD R F)) (Fc b R F)
def uL (d:Sl) (j:Int) (e:ο) (a:Sl) (R:VR) (F:PH):Prop:=Ix d j λk=>Lr F 5 (nV k (nX j*5)) λl=>Nb F (Y (#[U 0,U 0,U 0,U 0,U 0]) 225) λf F=>aA F (Z f 0) 5 l λF=>Nb F (Y #[] 3) λu F=>Li F (Z f 0) λc=>Bc (c=0) (R (nI a) F) (Bc (c=1) ((∃(v:Nat->Sl->Ω) (t:Nat),v t (Sb u 0) 0 F/\∀t b g F,v t b g F-> xB (V6 v t) e a f R b g F)) (Bc (c=2) (Li F (Z f 4) λh=>Li F (Z f 3) λm=>Cs 156 #[nI d,(U m),.string e,nI a] F λn F=>F.cell (Z f 4)=V (U h)/\Cs 156 #[nI d,(U h),.string e,nI n] F λo F=>R (nI o) F) (Bc (c=3) (Li F (Z f 3) λp=>Li F (Z f 4) λi=>Cs 156 #[nI d,(U p),.string e,nI a] F λq F=>F.cell (Z f 4)=V (U i)/\Cs 156 #[nI d,(U i),.string e,nI a] F λr F=>Cs 190 #[nI q,nI r] F λs F=>R (nI s) F) (Fb d e a f R F))))
theorem zR {b:Sl} {c:Int} {d:ο} {a:Sl} (h:uL b c d a R F):ν 156 #[nI b,(U c),.string d,nI a] F R:=Rx.Λ (.qa8 (.qa8 (.qa8 (.J mD [] (.qa8 (.qa8 (.qa8 (.qa8 (.T (.J mD [(10,.sl)] (.qa8 (.L [(10,.sl),(11,.int .i64)] (.qa8 (.J mD [(10,.sl)] (.J mD [(61,.bool)] .N .N) .N)))) .N) .N))))) (.qa8 (.qa8 (.J mD [(10,.sl)] (.L [(10,.sl),(12,.int .i64)] .N) .N))))))) h
def jN (d:Int) (e:Nat) (a:Int) (R:VR) (F:PH):Prop:=Bc (a<1) (Bc (a<2) (R (.bool nk) F) (Li F (Z e 4) λf=>Bc (0<=f) (Li F (Z e 4) λg=>R (.bool (decide (g<d))) F) (R (.bool mD) F))) (Li F (Z e 3) λh=>Bc (0<=h) (Li F (Z e 3) λi=>Bc (i<d) (Bc (a<2) (R (.bool nk) F) (Li F (Z e 4) λb=>Bc (0<=b) (Li F (Z e 4) λc=>R (.bool (decide (c<d))) F) (R (.bool mD) F))) (R (.bool mD) F)) (R (.bool mD) F))
def qF (b:Int) (d:Nat) (a:Int) (R:VR) (F:PH):Prop:=Bc (a<1) (Li F (Z d 3) λe=>Bc (e≠0) (R (.bool mD) F) (Bc (a<2) (Li F (Z d 4) λf=>Bc (f≠0) (R (.bool mD) F) (jN b d a R F)) (jN b d a R F))) (Bc (a<2) (Li F (Z d 4) λc=>Bc (c≠0) (R (.bool mD) F) (jN b d a R F)) (jN b d a R F))
def QD (s:Sl) (d:Int) (R:VR) (F:PH):Prop:=Ix s d λi=>Lr F 5 (nV i (nX d*5)) λj=>Nb F (Y (#[U 0,U 0,U 0,U 0,U 0]) 225) λa F=>aA F (Z a 0) 5 j λF=>Li F (Z a 0) λk=>ν 189 #[(U k)] F λv F=>∃c,∃b,v=(.tuple #[(U c),.bool b])/\Bb ((!b)) (R (.bool mD) F) (Li F (Z a 0) λl=>Bc (l≠1) (Li F (Z a 1) λm=>Bc (m≠0) (R (.bool mD) F) (Li F (Z a 2) λn=>Bc (n≠0) (R (.bool mD) F) (Li F (Z a 1) λo=>Bc (o<0) (R (.bool mD) F) (Li F (Z a 1) λp=>Li F (Z a 2) λq=>Bc (q<p) (R (.bool mD) F) (Li F (Z a 2) λr=>Bc (255<r) (R (.bool mD) F) (qF d a c R F)))))) (Li F (Z a 1) λe=>Bc (e<0) (R (.bool mD) F) (Li F (Z a 1) λf=>Li F (Z a 2) λg=>Bc (g<f) (R (.bool mD) F) (Li F (Z a 2) λh=>Bc (255<h) (R (.bool mD) F) (qF d a c R F)))))
theorem qeF {a:Sl} {b:Int} (h:QD a b R F):ν 188 #[nI a,(U b)] F R:=Rx.Λ (.qa8 (.qa8 (.qa8 (.J mD [] .N (.J mD [] .N .N))))) h
def qG (a:Int) (b:Bool) (R:VR) (F:PH):Prop:=Bb (b) (R (.tuple #[(U 0),.bool nk]) F) (Bc (a=4) (R (.tuple #[(U 1),.bool nk]) F) (Bc (a=2) (Bc (a=2) (R (.tuple #[(U 2),.bool nk]) F) (R (.tuple #[(U 0),.bool mD]) F)) (Bc (a=3) (R (.tuple #[(U 2),.bool nk]) F) (R (.tuple #[(U 0),.bool mD]) F))))
def QE (a:Int) (R:VR) (F:PH):Prop:=Bc (a=0) (qG a (decide (a=0)) R F) (qG a (decide (a=1)) R F)
theorem qeG {a:Int} (h:QE a R F):ν 189 #[(U a)] F R:=Rx.Λ (.qa8 (.T (.qa8 (.J mD [(5,.bool)] .N .N)) .N)) h
def Fd (a:Sl) (R:VR) (F:PH):Prop:=R (nI a) F
def qH (d:Sl->Ω) (_:Sl) (b:Int) (a:Sl) (_:VR) (F:PH):Prop:=d a (i64.wrap (b+1)) F
def Ff (k:Sl->Ω) (b:Sl) (R:VR) (a:Sl) (c:Int) (F:PH):Prop:=Bc (c<(b.len:Int)) (Ix b c λd=>Li F (nV d (nX c*1)) λe=>vf 155 #[nI a,(U e)] F λf F=>Bb ((!f)) (Ix b c λg=>Li F (nV g (nX c*1)) λh=>Nb F (Y #[(U h)] 3) λj F=>Ap 76 #[nI a,nI (Sb j 1)] F λi F=>qH k b c i R F) (qH k b c a R F)) (Fd a R F)
def QF (e b:Sl) (R:VR) (F:PH):Prop:=Nb F (Y #[] 3) λh F=>Ap 76 #[nI (Sb h 0),nI e] F λf F=>(∃(g:Nat->Sl->Ω) (d:Nat),g d f 0 F/\∀d a c F,g d a c F-> Ff (V6 g d) b R a c F)
theorem qeH {b:Sl} {a:Sl} (h:QF b a R F):ν 190 #[nI b,nI a] F R:=Rx.Λ (.qa8 (.qa8 (.J mD [(5,.sl)] (.qa8 (.L [(5,.sl),(6,.int .i64)] (.qa8 (.J mD [(5,.sl)] .N .N)))) .N))) h
section
variable {F:PH}
theorem Xl {s:Sl} {l:List Nd} (h:RdS F s 5 (dF l)) {i:Nat} {x:Nd} (g:l[i]? =V x):∃a,s.qa5=V a/\F.row (a.add (i*5)) x.arr:=by
 obtain ⟨hi,g⟩:=N6.1 g;subst g;have r:=h.nlen;obtain ⟨b,o,w,_⟩:=h.cells (by omega)
 exact ⟨_,w,h.row w (i*5) l[i].arr (by
  have:=uH l i hi
  simpa [Nd.arr,Nd.cells] using this.symm)⟩
def mW (k:Int):Int:=if k=4 then 1 else if k=2\/k=3 then 2 else 0
def eg (k:Int):Bool:=decide (0<=k/\k<=4)
theorem kH (F:PH) (k:Int):ν 189 #[U k] F λr A=>r=.tuple #[U (mW k),.bool (eg k)]/\A=F:=by
 refine qeG ?_;unfold QE;have C:∀t:Bool,t=decide (k=0\/k=1)->qG k t (λr A=>r=.tuple #[U (mW k),.bool (eg k)]/\A=F) F:=λt D=>by
  unfold qG;refine ⟨λh=>⟨?_,rfl⟩,λh=> ?_⟩
  ·have:=ζ (D.symm.trans h);have g:mW k=0:=by unfold mW;rw [Υ (by omega),Υ (by omega)]
   have w:eg k=nk:=by unfold eg;simp;omega
   rw [g,w]
  ·have E:=ι (D.symm.trans h);refine ⟨λG=>⟨?_,rfl⟩,λG=>⟨λB=>⟨λ_=>⟨?_,rfl⟩,λh=>absurd B h⟩,λB=>⟨λH=>⟨?_,rfl⟩,λH=>⟨?_,rfl⟩⟩⟩⟩
   ·have g:mW k=1:=by unfold mW;rw [Χ (by omega)]
    have w:eg k=nk:=by unfold eg;simp;omega
    rw [g,w]
   ·have g:mW k=2:=by unfold mW;rw [Υ (by omega),Χ (by omega)]
    have w:eg k=nk:=by unfold eg;simp;omega
    rw [g,w]
   ·have g:mW k=2:=by unfold mW;rw [Υ (by omega),Χ (by omega)]
    have w:eg k=nk:=by unfold eg;simp;omega
    rw [g,w]
   ·have g:mW k=0:=by unfold mW;rw [Υ (by omega),Υ (by omega)]
    have w:eg k=mD:=by unfold eg;simp;omega
    rw [g,w]
 refine ⟨λh=>C _ ?_,λh=>C _ ?_⟩
 ·rw [wm];simp;omega
 ·rw [wm];simp;omega
end
def ar (k:Int):Int:=if k=4 then 1 else if k=2\/k=3 then 2 else if k=0\/k=1 then 0 else -1
def za (i:Nat) (x:Nd):Prop:=0<=ar x.k/\(x.k=1->0<=x.lo/\x.lo<=x.hi/\x.hi<=255)/\(x.k≠1->x.lo=0/\x.hi=0)/\(ar x.k<1->x.a=0)/\(ar x.k<2->x.b=0)/\
 (1<=ar x.k->0<=x.a/\x.a<i)/\(2<=ar x.k->0<=x.b/\x.b<i)
def us (x:Nd):Φ:=if 2<=ar x.k then [x.b,x.a] else if 1<=ar x.k then [x.a] else []
def w8:List Nd->Φ
 |[]=>[]
 |x::l=>w8 l++us x
theorem jr (l:List Nd) (x:Nd):w8 (l++[x])=us x++w8 l:=by
 induction l with
 |nil=>simp [w8]
 |cons y l ih=>simp [w8,ih]
structure GoodL (l:List Nd):Prop where
 ne:l≠[]
 ok:∀i x,l[i]? =V x->za i x
 nd:(w8 l).Nodup
 all:∀i:Nat,i+1<l.length->(i:Int)∈w8 l
open Classical in
def fJ (l:List Nd):Int:=if 512<l.length then 2 else if GoodL l then 0 else 40
section
variable {F0 F:PH}
theorem Cm (k:Int):ν 204 #[U k] F λr w=>r=U (ar k)/\w=F:=by
 refine qep ?_;unfold Qn;have B:∀t:Bool,t=decide (k=0\/k=1)->qy k t (λr w=>r=U (ar k)/\w=F) F:=λt C=>by
  unfold qy;refine ⟨λh=>⟨?_,rfl⟩,λh=> ?_⟩
  ·have:=ζ (C.symm.trans h);have g:ar k=0:=by unfold ar;rw [Υ (by omega),Υ (by omega),Χ (by omega)]
   rw [g]
  ·have D:=ι (C.symm.trans h);refine ⟨λE=>⟨?_,rfl⟩,λE=>⟨λA=>⟨λ_=>⟨?_,rfl⟩,λh=>absurd A h⟩,λA=>⟨λG=>⟨?_,rfl⟩,λG=>⟨?_,rfl⟩⟩⟩⟩
   ·have g:ar k=1:=by unfold ar;rw [Χ (by omega)]
    rw [g]
   ·have g:ar k=2:=by unfold ar;rw [Υ (by omega),Χ (by omega)]
    rw [g]
   ·have g:ar k=2:=by unfold ar;rw [Υ (by omega),Χ (by omega)]
    rw [g]
   ·have g:ar k= -1:=by unfold ar;rw [Υ (by omega),Υ (by omega),Υ (by omega)]
    rw [g]
 refine ⟨λh=>B _ ?_,λh=>B _ ?_⟩
 ·rw [wm];simp;omega
 ·rw [wm];simp;omega
def gZ (n:Nat) (W:Φ):Ξ:=(List.range n).map λ(i:Nat)=>Value.bool (decide ((i:Int)∈W))
structure Usd (F0 F:PH) (b u n:Nat) (W:Φ):Prop where
 zb:F0 b=I
 zu:F0 u=I
 le:F0.le F
 ne:u≠b
 qb:F b=V (Y #[nI ⟨V ⟨u,0,I⟩,n,n⟩] 297)
 qu:F u=V (Y (gZ n W).toArray 4)
theorem GC (n:Nat) (W:Φ) (i:Nat) (hi:i<n):(gZ n W).toArray.setIfInBounds i (.bool nk)=(gZ n ((i:Int)::W)).toArray:=by
 apply Array.ext';rw [Array.toList_setIfInBounds];apply WH;intro j;rw [Yk];simp only [gZ,ub,WI,yw];by_cases h:i=j
 ·subst h;rw [Χ rfl,Χ hi,Xz hi];simp
 ·rw [Υ h];by_cases g:j<n
  ·rw [Xz g];simp only [VD,tS];congr 2;rw [wm];simp only [δ];constructor
   ·exact .inr
   ·rintro (e|e)
    ·omega
    ·exact e
  ·rw [VP (by simp;omega)];rfl
theorem uM {n:Nat} {W:Φ} {i:Nat} (hi:i<n):(gZ n W).toArray[i]? =V (.bool (decide ((i:Int)∈W))):=by simp [gZ,hi]
theorem te {b u n:Nat} {W:Φ} (h:Usd F0 F b u n W) (i:Int) {at_:Nat} (J:at_<=n):
  ν 203 #[U i,U at_,pa b] F λr w=>((0<=i/\i<at_/\i ∉ W)/\r=.bool nk/\Usd F0 w b u n (i::W)/\∀x,x≠u->w x=F x)\/(¬(0<=i/\i<at_/\i ∉ W)/\r=.bool mD/\w=F):=by
 refine qeo ?_;unfold Qm;refine ⟨λG=> .inr ⟨by omega,rfl,rfl⟩,λG=>⟨λC=> .inr ⟨by omega,rfl,rfl⟩,λC=> ?_⟩⟩;obtain ⟨k,rfl⟩:=Yj (by omega:0<=i);have A:k<n:=by omega
 have H:F.cell ((oB u 0 I).add (nX (k:Int)*1))=V (.bool (decide ((k:Int)∈W))):=by rw [N4,xF,show (oB u 0 I).add k=⟨u,k,I⟩ by simp [nV];omega,av h.qu];exact uM A
 have B:F.cell ⟨b,0,I⟩=V (nI ⟨V ⟨u,0,I⟩,n,n⟩):=by rw [av h.qb];rfl
 refine ⟨_,rfl,_,B,_,rfl,by omega,by simp only;omega,_,H,λg=> .inr ⟨λD=>D.2.2 (ζ g),rfl,rfl⟩,λg=>⟨_,B,_,rfl,by omega,by simp only;omega,?_⟩⟩;have g:=ι g;refine tF (b:=u) (o:=k) (by rw [N4,xF];simp [nV];omega) h.qu (by simp [gZ];exact A) ?_;refine .inl ⟨⟨by omega,by omega,g⟩,rfl,⟨h.zb,h.zu,aB h.le h.zu,h.ne,?_,?_⟩,λx E=>aw _ _ E⟩
 ·rw [aw _ _ h.ne.symm];exact h.qb
 ·show (F.set u (Y ((gZ n W).toArray.setIfInBounds k (.bool nk)) 4)) u=_;rw [GC n W k A];exact aq _ _ _
theorem Kv {s:Sl} {b u n E j:Nat} {W:Φ} {x:Nd} {ok:Bool} {N:Ω} {R:ξ->Ψ} (h:Usd F0 F b u n W) (q6:F E=V (Y x.arr 225)) (X:j<=n) (hu:u≠E)
  (bad:¬(ok=nk/\(ar x.k<1->x.a=0)/\(ar x.k<2->x.b=0)/\(1<=ar x.k->0<=x.a/\x.a<j/\x.a ∉ W)/\(2<=ar x.k->0<=x.b/\x.b<j/\x.b ∉ x.a::W))->∀A,F0.le A->R (U 40) A)
  (C:(ok=nk/\(ar x.k<1->x.a=0)/\(ar x.k<2->x.b=0)/\(1<=ar x.k->0<=x.a/\x.a<j/\x.a ∉ W)/\(2<=ar x.k->0<=x.b/\x.b<j/\x.b ∉ x.a::W))->∀A,Usd F0 A b u n (us x++W)->N (i64.wrap ((j:Int)+1)) A):
  fI N s b j E (ar x.k) ok R F:=by
 have cA:∀{A:PH},A E=V (Y x.arr 225)->A.cell (oB E 3 I)=V (U x.a):=λh=>by rw [av h];rfl
 have O:∀{A:PH},A E=V (Y x.arr 225)->A.cell (oB E 4 I)=V (U x.b):=λh=>by rw [av h];rfl
 unfold fI;refine ⟨λM=>bad (λg=>by rw [g.1] at M;cases M) _ h.le,λM=> ?_⟩;have H:ok=nk:=by simpa using M
 refine ⟨λh1=>⟨_,cA q6,λha=>bad (λg=>ha (g.2.1 h1)) _ h.le,λha=>⟨λJ=>⟨_,O q6,λL=>bad (λg=>L (g.2.2.1 J)) _ h.le,λL=>⟨λw=>absurd w (by omega),λw=>⟨λr=>absurd r (by omega),λr=> ?_⟩⟩⟩,λJ=>absurd J (by omega)⟩⟩,
  λh1=>⟨λJ=>⟨_,O q6,λL=>bad (λg=>L (g.2.2.1 J)) _ h.le,λL=>⟨λw=>⟨_,cA q6,?_⟩,λw=>absurd w (by omega)⟩⟩,λJ=>⟨λw=>⟨_,cA q6,?_⟩,λw=>absurd w (by omega)⟩⟩⟩
 ·unfold cd;refine C ⟨H,λ_=>by omega,λ_=>by omega,λh=>by omega,λh=>by omega⟩ _ ?_;have:us x=[]:=by unfold us;rw [Υ r,Υ w]
  rw [this];exact h
 ·refine (te h x.a X).mono ?_;rintro _ F2 (⟨g,rfl,D,K⟩|⟨g,rfl,rfl⟩)
  ·refine ⟨_,rfl,λh=>by simp at h,λ_=>⟨λr=>absurd r (by omega),λr=> ?_⟩⟩;unfold cd;refine C ⟨H,λ_=>by omega,λ_=>by omega,λ_=>g,λh=>by omega⟩ _ ?_;have:us x=[x.a]:=by unfold us;rw [Υ r,Χ w]
   rw [this];exact D
  ·exact ⟨_,rfl,λ_=>bad (λB=>g (B.2.2.2.1 w)) _ h.le,λh=>by simp at h⟩
 ·refine (te h x.a X).mono ?_;rintro _ F2 (⟨g,rfl,D,K⟩|⟨g,rfl,rfl⟩)
  ·have Q:F2 E=V (Y x.arr 225):=(K _ hu.symm).trans q6;refine ⟨_,rfl,λh=>by simp at h,λ_=>⟨λr=>⟨_,O Q,?_⟩,λr=>absurd r (by omega)⟩⟩;refine (te D x.b X).mono ?_;rintro _ F3 (⟨G,rfl,P,a0⟩|⟨G,rfl,rfl⟩)
   ·refine ⟨_,rfl,λh=>by simp at h,λ_=> ?_⟩;unfold cd;refine C ⟨H,λ_=>by omega,λ_=>by omega,λ_=>g,λ_=>G⟩ _ ?_;have:us x=[x.b,x.a]:=by unfold us;rw [Χ r]
    rw [this];exact P
   ·exact ⟨_,rfl,λ_=>bad (λB=>G (B.2.2.2.2 r)) _ D.le,λh=>by simp at h⟩
  ·exact ⟨_,rfl,λ_=>bad (λB=>g (B.2.2.2.1 w)) _ h.le,λh=>by simp at h⟩
end
theorem aau:vy prog 4=V (1,1):=by kernel_rfl
theorem aav:bv prog 4=V (.bool mD):=by kernel_rfl
structure GoodTo (l:List Nd) (j:Nat):Prop where
 ok:∀i x,i<j->l[i]? =V x->za i x
 nd:(w8 (l.take j)).Nodup
theorem GoodTo.zero (l:List Nd):GoodTo l 0:=⟨λi x h=>by omega,by simp [w8]⟩
theorem zS {j:Nat} {x:Nd} {W:Φ}:(za j x/\(us x++W).Nodup)↔W.Nodup/\(0<=ar x.k/\(x.k=1->0<=x.lo/\x.lo<=x.hi/\x.hi<=255)/\(x.k≠1->x.lo=0/\x.hi=0))/\
  (ar x.k<1->x.a=0)/\(ar x.k<2->x.b=0)/\(1<=ar x.k->0<=x.a/\x.a<j/\x.a ∉ W)/\(2<=ar x.k->0<=x.b/\x.b<j/\x.b ∉ x.a::W):=by
 unfold za us;by_cases E:2<=ar x.k
 ·rw [Χ E];simp only [zK,zB,WT,tS,not_or];constructor
  ·rintro ⟨⟨B,D,r,C,w,g,A⟩,⟨n1,n2⟩,n3,n4⟩;exact ⟨n4,⟨B,D,r⟩,C,w,λh=>⟨(g h).1,(g h).2,n3⟩,λh=>⟨(A h).1,(A h).2,n1,n2⟩⟩
  ·rintro ⟨n4,⟨B,D,r⟩,C,w,g,A⟩;exact ⟨⟨B,D,r,C,w,λh=>⟨(g h).1,(g h).2.1⟩,λh=>⟨(A h).1,(A h).2.1⟩⟩,⟨(A E).2.2.1,(A E).2.2.2⟩,(g (by omega)).2.2,n4⟩
 ·rw [Υ E];by_cases G:1<=ar x.k
  ·rw [Χ G];simp only [zK,zB,WT];constructor
   ·rintro ⟨⟨B,D,r,C,w,g,A⟩,n3,n4⟩;exact ⟨n4,⟨B,D,r⟩,C,w,λh=>⟨(g h).1,(g h).2,n3⟩,λh=>absurd h E⟩
   ·rintro ⟨n4,⟨B,D,r⟩,C,w,g,A⟩;exact ⟨⟨B,D,r,C,w,λh=>⟨(g h).1,(g h).2.1⟩,λh=>absurd h E⟩,(g G).2.2,n4⟩
  ·rw [Υ G];simp only [zB];constructor
   ·rintro ⟨⟨B,D,r,C,w,g,A⟩,n4⟩;exact ⟨n4,⟨B,D,r⟩,C,w,λh=>absurd h G,λh=>absurd h E⟩
   ·rintro ⟨n4,⟨B,D,r⟩,C,w,g,A⟩;exact ⟨⟨B,D,r,C,w,λh=>absurd h G,λh=>absurd h E⟩,n4⟩
theorem GoodTo.succ {l:List Nd} {j:Nat} {x:Nd} (w:l[j]? =V x):GoodTo l (j+1)↔GoodTo l j/\za j x/\(us x++w8 (l.take j)).Nodup:=by
 have e:l.take (j+1)=l.take j++[x]:=by rw [Wx,w];rfl
 constructor
 ·rintro ⟨h,r⟩;rw [e,jr] at r;exact ⟨⟨λi y hi g=>h i y (by omega) g,(VB.1 r).2.1⟩,h j x (by omega) w,r⟩
 ·rintro ⟨⟨h,r⟩,C,B⟩;refine ⟨λi y hi g=> ?_,by rw [e,jr];exact B⟩;by_cases A:i=j
  ·subst A;rw [w] at g;cases g;exact C
  ·exact h i y (by omega) g
theorem ZS (l:List Nd):GoodL l↔GoodTo l l.length/\(∀i:Nat,i+1<l.length->(i:Int)∈w8 l)/\l≠[]:=by
 constructor
 ·rintro ⟨r,w,h,A⟩;exact ⟨⟨λi x _ g=>w i x g,by rw [wB];exact h⟩,A,r⟩
 ·rintro ⟨⟨w,h⟩,A,r⟩;rw [wB] at h;exact ⟨r,λi x g=>w i x (by have:=(N6.1 g).1;omega) g,h,A⟩
theorem zU {l:List Nd} (g:l.length<=512) (h:¬GoodL l):fJ l=40:=by unfold fJ;rw [Υ (by omega),Υ h]
theorem uN {l:List Nd} (g:l.length<=512) (h:GoodL l):fJ l=0:=by unfold fJ;rw [Υ (by omega),Χ h]
section
variable {F:PH}
theorem oU {s:Sl} {l:List Nd} (hs:RdS F s 5 (dF l)):ν 172 #[s.v] F λr A=>r=U (fJ l)/\F.le A:=by
 have w:=hs.nlen;refine qem ?_;unfold Qk;refine ⟨λh=>⟨?_,au F⟩,λh=> ?_⟩
 ·have e:fJ l=2:=by unfold fJ;rw [Χ (by omega)]
  rw [e]
 have hl:l.length<=512:=by omega
 refine bT underlying297 aau aav rfl (by omega) (Vd _) (by omega) (by omega) ?_;intro u hu;rw [ZR _ rfl,N4,w];have em:(List.replicate l.length (Value.bool mD)).toArray=(gZ l.length []).toArray:=by
  congr 1;apply WH;intro j;by_cases hj:j<l.length
  ·simp [gZ,hj]
  ·rw [VP (by simp;omega),VP (by simp [gZ];omega)]
 rw [em];refine ⟨_,rfl,λD K=> ?_⟩;refine tR ?_;have N:u≠D:=λe=>by rw [e,aq] at K;cases K
 have E:F D=I:=by rwa [aw _ _ N.symm] at K
 refine Wq (aq _ _ _) (by simp) ?_;rw [aR];have hU:Usd F ((F.set u (Y (gZ l.length []).toArray 4)).set D (Y #[nI ⟨V ⟨u,0,I⟩,l.length,l.length⟩] 297)) D u l.length []:=
  ⟨E,hu,aB (ae _ hu) E,N,aq _ _ _,by rw [aw _ _ N];exact aq _ _ _⟩
 show ∃(I2:Nat->Ω) (m2:Nat),_;have e0:(#[Value.slice I 0 0]:Γ).setIfInBounds 0 (nI ⟨V ⟨u,0,I⟩,l.length,l.length⟩)= #[nI ⟨V ⟨u,0,I⟩,l.length,l.length⟩]:=rfl;rw [e0];generalize (F.set u (Y (gZ l.length []).toArray 4)).set D (Y #[nI ⟨V ⟨u,0,I⟩,l.length,l.length⟩] 297)=F1 at*;have bad:∀{A:PH},¬GoodL l->F.le A->U 40=U (fJ l)/\F.le A:=λh M=>⟨by rw [zU hl h],M⟩;refine ⟨λm i A=>∃j:Nat,i=j/\j<=l.length/\m=l.length - j/\GoodTo l j/\Usd F A D u l.length (w8 (l.take j)),l.length,⟨0,rfl,by omega,rfl,GoodTo.zero l,by simpa [w8] using hU⟩,?_⟩;rintro _ _ F2 ⟨j,rfl,hj,rfl,hg,g⟩;unfold EN;refine ⟨λa8=> ?_,λa5=> ?_⟩
 ·have C:j<l.length:=by omega
  have W:l[j]? =V l[j]:=N5 C;generalize l[j]=x at W;obtain ⟨a,ha,a4⟩:=Xl (hs.le g.le) W;refine ⟨a,ha,by omega,by omega,x.arr,rfl,a4,λG L=> ?_⟩;refine tR ?_;refine Uc (aq _ _ _) rfl rfl (gr x) ?_;rw [aR];have a2:u≠G:=aH L g.qu;have a9:Usd F (F2.set G (Y x.arr 225)) D u l.length (w8 (l.take j)):=⟨g.zb,g.zu,aB g.le (aT g.le L),g.ne,by rw [aw _ _ (aH L g.qb)];exact g.qb,by rw [aw _ _ a2];exact g.qu⟩;have q6:=aq F2 G (Y x.arr 225);generalize F2.set G (Y x.arr 225)=X at*;have P:∀ok:Bool,(ok=nk↔(0<=ar x.k/\(x.k=1->0<=x.lo/\x.lo<=x.hi/\x.hi<=255)/\(x.k≠1->x.lo=0/\x.hi=0)))->
    fI (λQ F=>∃m',m'<l.length - j/\∃j:Nat,Q=j/\j<=l.length/\m'=l.length - j/\GoodTo l j/\Usd _ F D u l.length (w8 (l.take j))) s D j G (ar x.k) ok (λr A=>r=U (fJ l)/\PH.le _ A) X:=λok a0=>by
   refine Kv a9 q6 (by omega) a2 (λhn A M=>bad (λhG=>hn ?_) M) λhy A a7=> ?_
   ·obtain ⟨hgt,_,_⟩:=(ZS l).1 hG
    have B:GoodTo l (j+1):=⟨λi y hi hy=>hgt.ok i y (by omega) hy,by
     have:=hgt.nd;rw [wB] at this;have e:w8 l=w8 (l.drop (j+1))++w8 (l.take (j+1))\/True:=.inr trivial;have a3:∀(p q:List Nd),w8 (p++q)=w8 q++w8 p:=by
      intro p q;induction p with
      |nil=>simp [w8]
      |cons y p ih=>simp [w8,ih]
     rw [<- W5 (j+1) l,a3] at this
     exact (VB.1 this).2.1⟩
    obtain ⟨_,H⟩:=(GoodTo.succ W).1 B;obtain ⟨h4,h5,h6⟩:=zS.1 H;exact ⟨a0.2 h5,h6⟩
   ·refine ⟨l.length - (j+1),by omega,j+1,fo (by omega),C,rfl,?_,?_⟩
    ·exact (GoodTo.succ W).2 ⟨hg,zS.2 ⟨hg.nd,a0.1 hy.1,hy.2⟩⟩
    ·rw [Wx,W];show Usd F A D u l.length (w8 (l.take j++[x]));rw [jr];exact a7
  have c0:X.cell (oB G 0 I)=V (U x.k):=by rw [av q6];rfl
  have c1:X.cell (oB G 1 I)=V (U x.lo):=by rw [av q6];rfl
  have c2:X.cell (oB G 2 I)=V (U x.hi):=by rw [av q6];rfl
  have a1:x.k=1->ar x.k=0:=λh=>by unfold ar;rw [Υ (by omega),Υ (by omega),Χ (by omega)]
  refine ⟨_,c0,?_⟩;refine (Cm _).mono ?_;rintro _ b1 ⟨rfl,e⟩;obtain rfl:=e.symm;refine ⟨_,rfl,_,c0,λB=>⟨_,c1,λO=>⟨_,c1,_,c2,λH=>⟨_,c2,P _ ?_⟩,λH=>P _ ?_⟩,λO=>P _ ?_⟩,λB=>⟨_,c1,λO=>P _ ?_,λO=>⟨_,c2,λH=>P _ ?_,λH=>P _ ?_⟩⟩⟩
  ·have:=a1 B;rw [δ];exact ⟨λh=>⟨by omega,λ_=>⟨O,H,h⟩,λh=>absurd B h⟩,λh=>(h.2.1 B).2.2⟩
  ·exact ⟨λh=>(by cases h),λh=>absurd (h.2.1 B).2.1 H⟩
  ·exact ⟨λh=>(by cases h),λh=>absurd (h.2.1 B).1 O⟩
  ·exact ⟨λh=>(by cases h),λh=>absurd (h.2.2 B).1 O⟩
  ·exact ⟨λh=>(by cases h),λh=>absurd (h.2.2 B).2 H⟩
  ·rw [δ];exact ⟨λh=>⟨h,λh=>absurd h B,λ_=>⟨by omega,by omega⟩⟩,λh=>h.1⟩
 ·obtain rfl:j=l.length:=by omega
  rw [wB] at g;unfold EM;have ew:i64.wrap ((s.len:Int) - 1)=(l.length:Int) - 1:=by rw [w,aJ (by omega)]
  refine ⟨λm i A=>∃j:Nat,i=j/\j<=l.length/\m=l.length - j/\A=F2/\∀i:Nat,i<j->(i:Int)∈w8 l,l.length,⟨0,rfl,by omega,rfl,rfl,λi hi=>by omega⟩,?_⟩;rintro _ _ X ⟨j,rfl,b0,rfl,e3,J⟩;obtain rfl:=e3.symm;unfold EL;rw [ew];refine ⟨λa8=> ?_,λa5=> ?_⟩
  ·have C:j<l.length:=by omega
   have hr:F2.cell ((oB u 0 I).add (nX (j:Int)*1))=V (.bool (decide ((j:Int)∈w8 l))):=by rw [N4,xF,show (oB u 0 I).add j=⟨u,j,I⟩ by simp [nV];omega,av g.qu];exact uM C
   refine ⟨_,by rw [av g.qb];rfl,_,rfl,by omega,by simp only;omega,_,hr,λhm=>bad (λhG=> ?_) g.le,λhm=>⟨l.length - (j+1),by omega,j+1,fo (by omega),C,rfl,rfl,λi hi=> ?_⟩⟩
   ·have:=hG.all j (by omega);simp [this] at hm
   ·by_cases a6:i=j
    ·subst a6;simpa using hm
    ·exact J i (by omega)
  ·unfold EJ;refine ⟨λh0=>bad (λhG=>hG.ne (XZ.1 (by omega))) g.le,λh0=>⟨?_,g.le⟩⟩;rw [uN hl ((ZS l).2 ⟨hg,λi hi=>J i (by omega),λe=>by rw [e] at w;simp at w;omega⟩)]
end
def Par (l:List Nd) (j k:Nat):Prop:=∃x,l[k]? =V x/\(j:Int)∈us x
inductive Up (l:List Nd):Nat->Nat->Prop where
 |refl (j:Nat):Up l j j
 |step {j k m:Nat}:Up l j k->Par l k m->Up l j m
inductive cP (l:List Nd):Nat->Lt->Δ->Prop where
 |emp {i:Nat} {x:Nd}:l[i]? =V x->x.k=0->cP l i .emp [i]
 |rng {i lo hi:Nat} {x:Nd}:l[i]? =V x->x.k=1->x.lo=lo->x.hi=hi->lo<=hi->hi<=255->cP l i (.rng i lo hi) [i]
 |seq {i a b:Nat} {x:Nd} {t u:Lt} {na nb:Δ}:l[i]? =V x->x.k=2->x.a=a->x.b=b->cP l a t na->cP l b u nb->cP l i (.seq t u) (i::na++nb)
 |alt {i a b:Nat} {x:Nd} {t u:Lt} {na nb:Δ}:l[i]? =V x->x.k=3->x.a=a->x.b=b->cP l a t na->cP l b u nb->cP l i (.alt t u) (i::na++nb)
 |rep {i a:Nat} {x:Nd} {t:Lt} {na:Δ}:l[i]? =V x->x.k=4->x.a=a->cP l a t na->cP l i (.rep t) (i::na)
theorem iI {x:Nd} (h:x.k=2\/x.k=3):us x=[x.b,x.a]:=by
 have:ar x.k=2:=by unfold ar;rw [Υ (by omega),Χ h]
 unfold us;rw [this];rfl
theorem Kw {x:Nd} (h:x.k=4):us x=[x.a]:=by
 have:ar x.k=1:=by unfold ar;rw [Χ h]
 unfold us;rw [this];rfl
theorem tf {k:Int} (h:0<=ar k):k=0\/k=1\/k=2\/k=3\/k=4:=by
 unfold ar at h;split at h
 ·omega
 ·split at h
  ·omega
  ·split at h<;>omega
theorem xC {k:Int} (h:k=2\/k=3):ar k=2:=by unfold ar;rw [Υ (by omega),Χ h]
theorem Kx {k:Int} (h:k=4):ar k=1:=by unfold ar;rw [Χ h]
theorem Fh {k:Int} (h:k=0\/k=1):ar k=0:=by unfold ar;rw [Υ (by omega),Υ (by omega),Χ h]
section
variable {l:List Nd} (hG:GoodL l)
include hG
theorem Fj:∀(n i:Nat),i<n->i<l.length->∃t ns,cP l i t ns:=by
 intro n;induction n with
 |zero=>intro i h;omega
 |succ n ih=>
  intro i hi K;have r:=N5 K;have E:=hG.ok i _ r;generalize l[i]=x at r E;obtain ⟨N,J,O,Q,P,A,D⟩:=E;rcases tf N with g|g|g|g|g
  ·exact ⟨_,_,.emp r g⟩
  ·obtain ⟨a,b,c⟩:=J g;exact ⟨_,_,.rng (lo:=x.lo.toNat) (hi:=x.hi.toNat) r g (by omega) (by omega) (by omega) (by omega)⟩
  ·have e:=xC (k:=x.k) (.inl g);obtain ⟨H,G⟩:=A (by omega);obtain ⟨M,L⟩:=D (by omega);obtain ⟨t,C,w⟩:=ih x.a.toNat (by omega) (by omega);obtain ⟨u,nb,B⟩:=ih x.b.toNat (by omega) (by omega);exact ⟨_,_,.seq r g (by omega) (by omega) w B⟩
  ·have e:=xC (k:=x.k) (.inr g);obtain ⟨H,G⟩:=A (by omega);obtain ⟨M,L⟩:=D (by omega);obtain ⟨t,C,w⟩:=ih x.a.toNat (by omega) (by omega);obtain ⟨u,nb,B⟩:=ih x.b.toNat (by omega) (by omega);exact ⟨_,_,.alt r g (by omega) (by omega) w B⟩
  ·have e:=Kx (k:=x.k) g;obtain ⟨H,G⟩:=A (by omega);obtain ⟨t,C,w⟩:=ih x.a.toNat (by omega) (by omega);exact ⟨_,_,.rep r g (by omega) w⟩
theorem Par.lt {j k:Nat} (h:Par l j k):j<k/\k<l.length:=by
 obtain ⟨x,A,g⟩:=h;have C:=(N6.1 A).1;obtain ⟨D,E,G,J,H,w,B⟩:=hG.ok k x A;rcases tf D with r|r|r|r|r
 ·have e:=Fh (k:=x.k) (.inl r);unfold us at g;rw [e] at g;simp at g
 ·have e:=Fh (k:=x.k) (.inr r);unfold us at g;rw [e] at g;simp at g
 ·have e:=xC (k:=x.k) (.inl r);rw [iI (.inl r)] at g;have:=w (by omega);have:=B (by omega);simp at g;omega
 ·have e:=xC (k:=x.k) (.inr r);rw [iI (.inr r)] at g;have:=w (by omega);have:=B (by omega);simp at g;omega
 ·have e:=Kx (k:=x.k) r;rw [Kw r] at g;have:=w (by omega);simp at g;omega
omit hG in
theorem xE {j:Int}:∀(l:List Nd) {k:Nat} {x:Nd},l[k]? =V x->j∈us x->j∈w8 l
 |y::l,0,x,h,hm=>by simp at h;subst h;simp [w8,hm]
 |y::l,k+1,x,h,hm=>by simp at h;simp only [w8,vj];exact .inl (xE l h hm)
omit hG in
theorem zV {j:Int}:∀(l:List Nd),(w8 l).Nodup->∀{k m:Nat} {x y:Nd},l[k]? =V x->l[m]? =V y->j∈us x->j∈us y->k=m
 |z::l,hn,0,0,x,y,h1,h2,h3,h4=>rfl
 |z::l,hn,0,m+1,x,y,h1,h2,h3,h4=>by simp at h1 h2;subst h1;rw [w8] at hn;exact absurd rfl ((VB.1 hn).2.2 j (xE l h2 h4) j h3)
 |z::l,hn,k+1,0,x,y,h1,h2,h3,h4=>by simp at h1 h2;subst h2;rw [w8] at hn;exact absurd rfl ((VB.1 hn).2.2 j (xE l h1 h3) j h4)
 |z::l,hn,k+1,m+1,x,y,h1,h2,h3,h4=>by simp at h1 h2;rw [w8] at hn;rw [zV l (VB.1 hn).1 h1 h2 h3 h4]
theorem Par.uniq {j k m:Nat} (g:Par l j k) (A:Par l j m):k=m:=by obtain ⟨x,r,h⟩:=g;obtain ⟨y,B,w⟩:=A;exact zV l hG.nd r B h w
omit hG in
theorem Up.head {j m:Nat} (h:Up l j m):j=m\/∃k,Par l j k/\Up l k m:=by
 induction h with
 |refl=>exact .inl rfl
 | @step k m h g ih=>
  rcases ih with rfl|⟨c,r,w⟩
  ·exact .inr ⟨m,g,.refl m⟩
  ·exact .inr ⟨c,r,w.step g⟩
theorem Up.le {j m:Nat} (h:Up l j m):j<=m:=by
 induction h with
 |refl=>exact ru _
 |step _ g ih=>have:=g.lt hG;omega
theorem Up.chain {j a b:Nat} (B:Up l j a) (C:Up l j b):Up l a b\/Up l b a:=by
 induction B with
 |refl=>exact .inl C
 | @step k m h r ih=>
  rcases ih with g|g
  ·rcases g.head with rfl|⟨c,A,w⟩
   ·exact .inr ((Up.refl k).step r)
   ·rw [A.uniq hG r] at w;exact .inl w
  ·exact .inr (g.step r)
omit hG in
theorem qI {i:Nat} {t:Lt} {ns:Δ} (h:cP l i t ns):∀j∈ns,Up l j i:=by
 induction h with
 | @emp i x r w=>intro j g;simp at g;subst g;exact .refl _
 | @rng i lo hi x r w _ _ _ _=>intro j g;simp at g;subst g;exact .refl _
 | @seq i a b x t u G nb r w A D E H B C=>
  intro j g;simp only [zK,tS,vj] at g;rcases g with rfl|g|g
  ·exact .refl _
  ·exact (B j g).step ⟨x,r,by rw [iI (.inl w),A];simp⟩
  ·exact (C j g).step ⟨x,r,by rw [iI (.inl w),D];simp⟩
 | @alt i a b x t u G nb r w A D E H B C=>
  intro j g;simp only [zK,tS,vj] at g;rcases g with rfl|g|g
  ·exact .refl _
  ·exact (B j g).step ⟨x,r,by rw [iI (.inr w),A];simp⟩
  ·exact (C j g).step ⟨x,r,by rw [iI (.inr w),D];simp⟩
 | @rep i a x t G r w A E B=>
  intro j g;simp only [tS] at g;rcases g with rfl|g
  ·exact .refl _
  ·exact (B j g).step ⟨x,r,by rw [Kw w,A];simp⟩
theorem qd8 {i a b:Nat} {x:Nd} (w:l[i]? =V x) (B:x.k=2\/x.k=3) (A:x.a=a) (C:x.b=b):a≠b:=by
 intro e;have g:=hG.nd;have r:∀(l:List Nd) (i:Nat),l[i]? =V x->(w8 l).Nodup->(us x).Nodup:=by
  intro l;induction l with
  |nil=>intro i h;simp at h
  |cons y l ih=>
   intro i h g;rw [w8] at g;cases i with
   |zero=>simp at h;subst h;exact (VB.1 g).2.1
   |succ i=>simp at h;exact ih i h (VB.1 g).1
 have:=r l i w g;rw [iI B,A,C,e] at this;simp at this
theorem QG {i a b j:Nat} {x:Nd} (w:l[i]? =V x) (A:x.k=2\/x.k=3) (E:x.a=a) (C:x.b=b) (G:Up l j a) (H:Up l j b):False:=by
 have pa:Par l a i:=⟨x,w,by rw [iI A,E];simp⟩;have D:Par l b i:=⟨x,w,by rw [iI A,C];simp⟩;have r:=qd8 hG w A E C;rcases G.chain hG H with h|h
 ·rcases h.head with e|⟨c,B,g⟩
  ·exact r e
  ·rw [B.uniq hG pa] at g;have:=g.le hG;have:=D.lt hG;omega
 ·rcases h.head with e|⟨c,B,g⟩
  ·exact r e.symm
  ·rw [B.uniq hG D] at g;have:=g.le hG;have:=pa.lt hG;omega
end
section
variable {F:PH}
open Classical in
def bN (l:List Nd):Lt:=if h:GoodL l then (Fj h (l.length) (l.length - 1) (by have:=Yg.2 h.ne;omega) (by have:=Yg.2 h.ne;omega)).choose else .emp
theorem iJ {l:List Nd} (h:GoodL l):∃ns,cP l (l.length - 1) (bN l) ns:=by unfold bN;rw [dif_pos h];exact (Fj h (l.length) (l.length - 1) (by have:=Yg.2 h.ne;omega) (by have:=Yg.2 h.ne;omega)).choose_spec
theorem uO {l:List Nd} (h:fJ l=0):GoodL l/\l.length<=512:=by
 unfold fJ at h;split at h
 ·omega
 ·split at h
  ·rename_i g;exact ⟨g,by omega⟩
  ·omega
end
structure Lo (G F:PH) (xs:List (Nat×Γ×TypeId)):Prop where
 le:G.le F
 z:∀p∈xs,F p.1=V (Y p.2.1 p.2.2)/\G p.1=I
 nd:(xs.map (·.1)).Nodup
theorem Lo.start (F:PH):Lo F F []:=⟨au F,λp g=>(by cases g),List.nodup_nil⟩
section
variable {F G:PH} {xs:List (Nat×Γ×TypeId)}
theorem Lo.get (h:Lo G F xs) {b:Nat} {w:Γ} {e:TypeId} (g:(b,w,e)∈xs):F b=V (Y w e):=(h.z _ g).1
theorem Lo.row (h:Lo G F xs) {b:Nat} {w:Γ} {e:TypeId} (g:(b,w,e)∈xs):F.row (oB b 0 I) w:=ai (h.z _ g).1
theorem Lo.cell (h:Lo G F xs) {b i:Nat} {w:Γ} {e:TypeId} (g:(b,w,e)∈xs):F.cell (oB b i I)=w[i]? :=av (h.z _ g).1
theorem Lo.ro (h:Lo G F xs) (i:Nat) {b:Nat} {w:Γ} {e:TypeId} (hi:xs[i]? =V (b,w,e)):F.row (oB b 0 I) w:=h.row (vO hi)
theorem Lo.cl (h:Lo G F xs) (i:Nat) {b k:Nat} {w:Γ} {e:TypeId} {v:ξ} (hi:xs[i]? =V (b,w,e)) (g:w[k]? =V v):F.cell (oB b k I)=V v:=(h.cell (vO hi)).trans g
theorem Lo.call {f:FuncId} {args:Γ} {P:ξ->Ψ} (h:Lo G F xs) (s:aj prog f args G P):aj prog f args F λr A=>∃g,P r g/\Lo g A xs:=
 (s.upon h.le).mono λr A ⟨g,w,C,B⟩=>⟨g,w,C,λp w=>by
  obtain ⟨a,b⟩:=h.z p w
  exact B _ _ b a,h.nd⟩
theorem Lo.new (h:Lo G F xs) (c:Γ) (e:TypeId) {K:Nat->Ψ} (k:∀b A,Lo G A ((b,c,e)::xs)->K b A):∀b,F b=I->xJ (F.set b (Y c e)) (K b):=by
 intro b w;refine tR ?_;have r:∀p∈xs,p.1≠b:=λp g=>aH w (h.z p g).1;refine k b _ ⟨aa h.le (ae _ w),λp g=> ?_,?_⟩
 ·rcases tS.1 g with rfl|g
  ·exact ⟨aq _ _ _,aT h.le w⟩
  ·obtain ⟨a,c⟩:=h.z p g;exact ⟨(aw _ _ (r p g)).trans a,c⟩
 ·rw [xA,WT];refine ⟨λB=> ?_,h.nd⟩;obtain ⟨p,g,e⟩:=xv.1 B;exact r p g e
theorem Lo.upd (E B:List (Nat×Γ×TypeId)) {b:Nat} {w0 w:Γ} {e:TypeId} (h:Lo G F (E++(b,w0,e)::B)) {D:PH} (K:D b=V (Y w e)) (J:dk (λx=>x=b) F D):Lo G D (E++(b,w,e)::B):=by
 obtain ⟨q,g⟩:=h.z (b,w0,e) (by simp);have nd:=h.nd;rw [yW,xA] at nd;have H:∀p,p∈E\/p∈B->p.1≠b:=λp r e=>by
  obtain ⟨_,n2,n3⟩:=VB.1 nd;rcases r with r|r
  ·exact n3 p.1 (xv.2 ⟨p,r,rfl⟩) b (by simp) e
  ·exact (WT.1 n2).1 (xv.2 ⟨p,r,e⟩)
 have A:∀p,p∈E\/p∈B->D p.1=V (Y p.2.1 p.2.2)/\G p.1=I:=λp r=>by obtain ⟨a,c⟩:=h.z p (by simp only [vj,tS];rcases r with r|r<;>simp [r]);exact ⟨J _ _ a (H p r),c⟩
 refine ⟨λx o C=>J x o (h.le x o C) λe=>(by rw [e] at C;rw [g] at C;cases C),λp r=> ?_,by rw [yW,xA];exact nd⟩;rcases vj.1 r with r|r
 ·exact A p (.inl r)
 ·rcases tS.1 r with rfl|r
  ·exact ⟨K,g⟩
  ·exact A p (.inr r)
theorem Lo.put (B r:List (Nat×Γ×TypeId)) {b n:Nat} {w0 w:Γ} {e:TypeId} (h:Lo G F (B++(b,w0,e)::r)) (D:w.size=n) (E:w0.size=n) (A:∀v∈w.toList,ak v)
  {K:Ψ} (k:∀C,Lo G C (B++(b,w,e)::r)->K C):
  w.size=n/\(∀v∈w.toList,ak v)/\∃c e,F (oB b 0 I).block=V (Y c e (0,0))/\(oB b 0 I).spot=I/\(oB b 0 I).off+n<=c.size/\
   xJ (F.set (oB b 0 I).block (Y (wr c (oB b 0 I).off w.toList) e)) K:=by
 obtain ⟨q,g⟩:=h.z (b,w0,e) (by simp);refine Uc q D E A (k _ (h.upd B r (aq _ _ _) (dk.set _ (.inl rfl))))
theorem Lo.put1 (A r:List (Nat×Γ×TypeId)) {b i:Nat} {w0 w:Γ} {v:ξ} {e:TypeId} (h:Lo G F (A++(b,w0,e)::r)) (D:i<w0.size) (C:w0.setIfInBounds i v=w)
  {K:Ψ} (k:∀B,Lo G B (A++(b,w,e)::r)->K B):
  ∃c e,F (oB b i I).block=V (Y c e (0,0))/\(oB b i I).spot=I/\(oB b i I).off<c.size/\
   xJ (F.set (oB b i I).block (Y (c.setIfInBounds (oB b i I).off v) e)) K:=by
 obtain ⟨q,g⟩:=h.z (b,w0,e) (by simp);subst C;exact Wq (o:=i) q D (k _ (h.upd A r (aq _ _ _) (dk.set _ (.inl rfl))))
theorem Lo.join (A w:List (Nat×Γ×TypeId)) {b:Nat} {P Q:Nat->Bool} (h:Lo G F (A++(b,pq P,302)::w)):
  ν 235 #[pa b,.agg (pq Q)] F λr B=>r=.tuple #[]/\Lo G B (A++(b,pq (λi=>P i || Q i),302)::w):=by
 obtain ⟨q,g⟩:=h.z (b,pq P,302) (by simp);refine (uJ (Q:=Q) (kq.own.2 q)).mono ?_;rintro _ B ⟨rfl,D,C⟩;exact ⟨rfl,h.upd A w (kq.own.1 D) C⟩
theorem Lo.add (A w:List (Nat×Γ×TypeId)) {b i:Nat} {P:Nat->Bool} (hi:i<512) (h:Lo G F (A++(b,pq P,302)::w)):
  ν 237 #[pa b,U i] F λr B=>r=.tuple #[]/\Lo G B (A++(b,pq (λj=>P j || decide (j=i)),302)::w):=by
 obtain ⟨q,g⟩:=h.z (b,pq P,302) (by simp);refine (GA hi q).mono ?_;rintro _ B ⟨rfl,rfl⟩;exact ⟨rfl,h.upd A w (aq _ _ _) (dk.set _ (.inl rfl))⟩
theorem Lo.q0 {l:List (Nat×Γ×TypeId)} {b:Nat} {P Q:Nat->Bool} (h:Lo G F ((b,pq P,302)::l)) {K:Ψ} (k:∀g,Lo G g ((b,pq Q,302)::l)->K g):aA F (oB b 0 I) 8 (pq Q) K:=Lo.put (n:=8) (w0:=pq P) (w:=pq Q) [] l h rfl rfl (fW _) k
theorem Lo.q1 {l:List (Nat×Γ×TypeId)} {g:Nat×Γ×TypeId} {b:Nat} {P Q:Nat->Bool} (h:Lo G F (g::(b,pq P,302)::l)) {K:Ψ} (k:∀r,Lo G r (g::(b,pq Q,302)::l)->K r):aA F (oB b 0 I) 8 (pq Q) K:=Lo.put (n:=8) (w0:=pq P) (w:=pq Q) [g] l h rfl rfl (fW _) k
theorem Lo.q2 {l:List (Nat×Γ×TypeId)} {g r:Nat×Γ×TypeId} {b:Nat} {P Q:Nat->Bool} (h:Lo G F (g::r::(b,pq P,302)::l)) {K:Ψ} (k:∀A,Lo G A (g::r::(b,pq Q,302)::l)->K A):aA F (oB b 0 I) 8 (pq Q) K:=Lo.put (n:=8) (w0:=pq P) (w:=pq Q) [g,r] l h rfl rfl (fW _) k
theorem Lo.q3 {l:List (Nat×Γ×TypeId)} {g A r:Nat×Γ×TypeId} {b:Nat} {P Q:Nat->Bool} (h:Lo G F (g::A::r::(b,pq P,302)::l)) {K:Ψ} (k:∀B,Lo G B (g::A::r::(b,pq Q,302)::l)->K B):aA F (oB b 0 I) 8 (pq Q) K:=Lo.put (n:=8) (w0:=pq P) (w:=pq Q) [g,A,r] l h rfl rfl (fW _) k
theorem Lo.q4 {l:List (Nat×Γ×TypeId)} {A r g B:Nat×Γ×TypeId} {b:Nat} {P Q:Nat->Bool} (h:Lo G F (A::r::g::B::(b,pq P,302)::l)) {K:Ψ} (k:∀C,Lo G C (A::r::g::B::(b,pq Q,302)::l)->K C):aA F (oB b 0 I) 8 (pq Q) K:=Lo.put (n:=8) (w0:=pq P) (w:=pq Q) [A,r,g,B] l h rfl rfl (fW _) k
theorem Lo.q5 {l:List (Nat×Γ×TypeId)} {A r g C B:Nat×Γ×TypeId} {b:Nat} {P Q:Nat->Bool} (h:Lo G F (A::r::g::C::B::(b,pq P,302)::l)) {K:Ψ} (k:∀D,Lo G D (A::r::g::C::B::(b,pq Q,302)::l)->K D):aA F (oB b 0 I) 8 (pq Q) K:=Lo.put (n:=8) (w0:=pq P) (w:=pq Q) [A,r,g,C,B] l h rfl rfl (fW _) k
theorem Lo.q6 {l:List (Nat×Γ×TypeId)} {B r g D C A:Nat×Γ×TypeId} {b:Nat} {P Q:Nat->Bool} (h:Lo G F (B::r::g::D::C::A::(b,pq P,302)::l)) {K:Ψ} (k:∀E,Lo G E (B::r::g::D::C::A::(b,pq Q,302)::l)->K E):aA F (oB b 0 I) 8 (pq Q) K:=Lo.put (n:=8) (w0:=pq P) (w:=pq Q) [B,r,g,D,C,A] l h rfl rfl (fW _) k
theorem Lo.jn0 {l:List (Nat×Γ×TypeId)} {b:Nat} {P Q:Nat->Bool} (h:Lo G F ((b,pq P,302)::l)):ν 235 #[pa b,.agg (pq Q)] F λr g=>r=.tuple #[]/\Lo G g ((b,pq (λi=>P i || Q i),302)::l):=Lo.join [] l h
theorem Lo.jn2 {l:List (Nat×Γ×TypeId)} {g w:Nat×Γ×TypeId} {b:Nat} {P Q:Nat->Bool} (h:Lo G F (g::w::(b,pq P,302)::l)):ν 235 #[pa b,.agg (pq Q)] F λr A=>r=.tuple #[]/\Lo G A (g::w::(b,pq (λi=>P i || Q i),302)::l):=Lo.join [g,w] l h
theorem Lo.jn3 {l:List (Nat×Γ×TypeId)} {g A w:Nat×Γ×TypeId} {b:Nat} {P Q:Nat->Bool} (h:Lo G F (g::A::w::(b,pq P,302)::l)):ν 235 #[pa b,.agg (pq Q)] F λr B=>r=.tuple #[]/\Lo G B (g::A::w::(b,pq (λi=>P i || Q i),302)::l):=Lo.join [g,A,w] l h
theorem Lo.ad2 {l:List (Nat×Γ×TypeId)} {g w:Nat×Γ×TypeId} {b i:Nat} {P:Nat->Bool} (hi:i<512) (h:Lo G F (g::w::(b,pq P,302)::l)):ν 237 #[pa b,U i] F λr A=>r=.tuple #[]/\Lo G A (g::w::(b,pq (λj=>P j || decide (j=i)),302)::l):=Lo.add [g,w] l hi h
end
def dc (n:Nat) (R:Nat->Nat->Bool):Ξ:=(List.range n).flatMap λi=>(pq (R i)).toList
theorem qhM (n:Nat) (R:Nat->Nat->Bool):(dc n R).length=n*8:=by
 unfold dc;induction n with
 |zero=>rfl
 |succ n ih=>rw [List.range_succ,XV,tT,ih];simp [pq];omega
theorem ti {f g:Nat->Ξ}:∀{l:Δ},(∀j∈l,f j=g j)->l.flatMap f=l.flatMap g
 |[],_=>rfl
 |a::l,h=>by rw [VC,VC,h a (by simp),ti λj r=>h j (by simp [r])]
theorem zW (f:Nat->Ξ) {n i:Nat} (hi:i<n):(List.range n).flatMap f=(List.range i).flatMap f++f i++((List.range (n - i - 1)).map (· +(i+1))).flatMap f:=by
 have:List.range n=List.range i++[i]++(List.range (n - i - 1)).map (· +(i+1)):=by
  have g:n=(i+1)+(n - i - 1):=by omega
  rw [g,List.range_add,List.range_succ,show i+1+(n - i - 1) - i - 1=n - i - 1 by omega];congr 1;apply List.map_congr_left;intro a _;omega
 rw [this,XV,XV,VC,List.flatMap_nil,yt]
theorem oV {n:Nat} {R S:Nat->Nat->Bool} (h:∀i,i<n->R i=S i):dc n R=dc n S:=by unfold dc;exact ti λj g=>by rw [h j (WU.1 g)]
theorem oW {n i:Nat} (hi:i<n) (R:Nat->Nat->Bool):∃pre post,pre.length=i*8/\dc n R=pre++(pq (R i)).toList++post/\∀g,(∀j,j≠i->g j=R j)->dc n g=pre++(pq (g i)).toList++post:=by
 refine ⟨dc i R,((List.range (n - i - 1)).map (· +(i+1))).flatMap (λj=>(pq (R j)).toList),qhM i R,zW _ hi,λg h=> ?_⟩;have e:=zW (λj=>(pq (g j)).toList) hi;have w:dc i g=dc i R:=oV λj r=>h j (by omega);have A:((List.range (n - i - 1)).map (· +(i+1))).flatMap (λj=>(pq (g j)).toList)=((List.range (n - i - 1)).map (· +(i+1))).flatMap (λj=>(pq (R j)).toList):=ti λj r=>by obtain ⟨a,_,rfl⟩:=xv.1 r;rw [h _ (by omega)]
 rw [A] at e;rw [<- w];exact e
structure Lnk (F:PH) (b3 bm bf n:Nat) (R:Nat->Nat->Bool):Prop where
 tab:Tab F
 q3:F b3=V (Y #[pa bm] 299)
 q17:∃mc,F bm=V (Y mc 305)/\mc[17]? =V (nI ⟨V ⟨bf,0,I⟩,n,n⟩)
 qf:F bf=V (Y (dc n R).toArray 302)
theorem Lnk.keep {F B:PH} {D bm g n:Nat} {R E:Nat->Nat->Bool} (h:Lnk F D bm g n R) (C:dk (λx=>x=g) F B) (L:B g=V (Y (dc n E).toArray 302)) (J:g≠0):Lnk B D bm g n E:=by
 obtain ⟨w,q3,⟨H,r,A⟩,G⟩:=h;refine ⟨λk v K=> ?_,C _ _ q3 λe=> ?_,⟨H,C _ _ r λe=> ?_,A⟩,L⟩
 ·have:=w k v K;unfold PH.cell at this ⊢;cases hz:F 0 with
  |none=>rw [hz] at this;cases this
  |some o=>rw [hz] at this;rw [C _ _ hz J.symm];exact this
 ·rw [e,G] at q3;simp at q3
 ·rw [e,G] at r;simp at r
theorem Lnk.le {F C:PH} {A bm B n:Nat} {R:Nat->Nat->Bool} (h:Lnk F A bm B n R) (g:F.le C):Lnk C A bm B n R:=by obtain ⟨r,q3,⟨E,D,w⟩,G⟩:=h;exact ⟨r.le g,g _ _ q3,⟨E,g _ _ D,w⟩,g _ _ G⟩
section
variable {F:PH} {b3 bm bf n:Nat} {R:Nat->Nat->Bool}
theorem Co (h:Lnk F b3 bm bf n R) (X:bf≠0) {i bt:Nat} {Q:Nat->Bool} (hi:i<n) (ht:F bt=V (Y (pq Q) 302)) (_:bt≠bf):
  ν 234 #[U i,pa b3,pa bt] F λr A=>r=.tuple #[]/\Lnk A b3 bm bf n (λk j=>R k j || (decide (k=i) && Q j))/\dk (λx=>x=bf) F A:=by
 obtain ⟨P,q3,⟨mc,qm,J⟩,qf⟩:=id h;refine qev ?_;unfold Qu;obtain ⟨w,g,C,L,E⟩:=oW hi R;have O:F.cell (oB b3 0 I)=V (pa bm):=by rw [av q3];rfl
 have G:F.cell ((oB bm 0 I).add 17)=V (nI ⟨V ⟨bf,0,I⟩,n,n⟩):=by rw [cz,x9,av qm];exact J
 refine ⟨_,rfl,_,O,_,rfl,_,G,_,rfl,by omega,by simp only;omega,_,rfl,pq Q,rfl,ai ht,?_⟩;have W:(oB bf 0 I).add (nX (i:Int)*8)=⟨bf,w.length,I⟩:=by rw [cz,x9,N4,C]
 rw [W];have N:kq F bf 302 w (R i) g:=by unfold kq;rw [<- L];exact qf
 refine (uJ (Q:=Q) N).mono ?_;rintro _ A ⟨rfl,H,D⟩;have e:∀k,k≠i->(λk j=>R k j || (decide (k=i) && Q j)) k=R k:=λk D=>by funext j;simp [D]
 have M:Lnk A b3 bm bf n (λk j=>R k j || (decide (k=i) && Q j)):=h.keep D (by
  rw [E _ e];have:(λj=>R i j || (decide (i=i) && Q j))=λj=>R i j || Q j:=by funext j;simp
  show A bf=V (Y (w++(pq (λj=>R i j || (decide (i=i) && Q j))).toList++g).toArray 302);rw [this]
  exact H) X
 obtain ⟨a0,K,B⟩:=M.q17;exact ⟨rfl,by rw [cz,x9,av K];exact B,by rw [av M.q3];rfl,rfl,M,D⟩
theorem SM:aF prog 234=nk:=by kernel_rfl
theorem uP (h:Lnk F b3 bm bf n R) (h0:bf≠0) (K:n<=512) {P Q:Nat->Bool} (hP:∀i,P i=nk->i<n):
  ν 232 #[.agg (pq P),.agg (pq Q),pa b3] F λr g=>r=.tuple #[]/\Lnk g b3 bm bf n (λk j=>R k j || (P k && Q j))/\dk (λx=>x=bf) F g:=by
 refine qet ?_;unfold Qr;intro c G;refine tR ?_;have M:=ae (Y (pq P) 302) G;have X:=aq F c (Y (pq P) 302);generalize F.set c (Y (pq P) 302)=J at*;intro d hd;refine tR ?_;have ld:=ae (Y (pq Q) 302) hd;have N:=aq J d (Y (pq Q) 302);have H:=ld _ _ X;generalize J.set d (Y (pq Q) 302)=F2 at*;have E:c≠bf:=λe=>by rw [e,h.qf] at G;cases G
 have C:d≠bf:=λe=>by rw [e,M _ _ h.qf] at hd;cases hd
 have L:=aa M ld
 refine (uK (a:=⟨c,0,I⟩) (P:=P) (k:=234) (cap:= #[pa b3,pa d]) (Inv:=λm g=>Lnk g b3 bm bf n (λk j=>R k j || (decide (k<m) && P k && Q j))/\dk (λx=>x=bf) F2 g) SM rfl
  (λm g w=>⟨w.1.tab,ai (w.2 _ _ H E)⟩) (λi g hi D w=> ?_) (λi g hi D w=> ?_) ⟨?_,dk.refl _ _⟩).mono ?_
 ·refine ⟨?_,w.2⟩;have:(λk j=>R k j || (decide (k<i+1) && P k && Q j))=λk j=>R k j || (decide (k<i) && P k && Q j):=by
   funext k j;by_cases A:k=i
   ·subst A;simp [D]
   ·rw [show decide (k<i+1)=decide (k<i) by rw [wm];simp;omega]
  rw [this];exact w.1
 ·refine (Co w.1 h0 (hP i D) (w.2 _ _ N C) C).mono ?_;rintro _ O ⟨rfl,B,A⟩;refine ⟨rfl,?_,w.2.trans A⟩;have:(λk j=>(R k j || (decide (k<i) && P k && Q j)) || (decide (k=i) && Q j))=λk j=>R k j || (decide (k<i+1) && P k && Q j):=by
   funext k j;by_cases A:k=i
   ·subst A;simp [D]
   ·rw [show decide (k<i+1)=decide (k<i) by rw [wm];simp;omega];simp [A]
  rw [<- this];exact B
 ·have:(λk j=>R k j || (decide (k<0) && P k && Q j))=R:=by funext k j;simp
  rw [this];exact h.le L
 ·rintro _ g ⟨rfl,B,A⟩;refine ⟨rfl,rfl,?_,λx o W K=>A x o (L _ _ W) K⟩;have:Lnk g b3 bm bf n (λk j=>R k j || (P k && Q j)):=by
   refine ⟨B.tab,B.q3,B.q17,?_⟩;have e:dc n (λk j=>R k j || (P k && Q j))=dc n (λk j=>R k j || (decide (k<512) && P k && Q j)):=by refine oV λi hi=> ?_;funext j;rw [show decide (i<512)=nk by simp;omega,Wz]
   rw [e];exact B.qf
  exact this
end
theorem Ky:aF prog 232=nk:=by kernel_rfl
theorem ox:aF prog 236=nk:=by kernel_rfl
open Classical in
def fB (t:Lt):Nat->Bool:=λj=>decide (t.first j)
open Classical in
def lB (t:Lt):Nat->Bool:=λj=>decide (t.last j)
open Classical in
def yY (t:Lt):Nat->Nat->Bool:=λi j=>decide (t.fol i j)
theorem dN {t:Lt} {j:Nat}:fB t j=nk↔t.first j:=by simp [fB]
theorem di {t:Lt} {j:Nat}:lB t j=nk↔t.last j:=by simp [lB]
theorem jO {t:Lt} {i j:Nat}:yY t i j=nk↔t.fol i j:=by simp [yY]
theorem SN:fB .emp=noP:=by funext j;rw [wm,dN];simp [Lt.first,noP]
theorem SO:lB .emp=noP:=by funext j;rw [wm,di];simp [Lt.last,noP]
theorem Nv (i j:Nat):yY .emp i j=mD:=by rw [<- Ym,jO];exact id
theorem SP {i lo hi:Nat}:fB (.rng i lo hi)=λj=>noP j || decide (j=i):=by funext j;rw [wm,dN];simp [Lt.first,noP];exact eq_comm
theorem SQ {i lo hi:Nat}:lB (.rng i lo hi)=λj=>noP j || decide (j=i):=by funext j;rw [wm,di];simp [Lt.last,noP];exact eq_comm
theorem Nw {i lo hi:Nat} (k j:Nat):yY (.rng i lo hi) k j=mD:=by rw [<- Ym,jO];exact id
theorem Ny {t u:Lt} (h:t.nul=nk):fB (.seq t u)=λi=>fB t i || fB u i:=by funext j;rw [wm,Xa,dN,dN,dN];simp [Lt.first,h]
theorem Nz {t u:Lt} (h:t.nul=mD):fB (.seq t u)=fB t:=by funext j;rw [wm,dN,dN];simp [Lt.first,h]
theorem NA {t u:Lt} (h:u.nul=nk):lB (.seq t u)=λi=>lB u i || lB t i:=by funext j;rw [wm,Xa,di,di,di];simp [Lt.last,h]
theorem NB {t u:Lt} (h:u.nul=mD):lB (.seq t u)=lB u:=by funext j;rw [wm,di,di];simp [Lt.last,h]
theorem NC {t u:Lt} (k j:Nat):yY (.seq t u) k j=(yY t k j || (yY u k j || (lB t k && fB u j))):=by rw [wm];simp only [Xa,VT,jO,di,dN,Lt.fol]
theorem SR {t u:Lt}:fB (.alt t u)=λi=>fB t i || fB u i:=by funext j;rw [wm,Xa,dN,dN,dN];simp [Lt.first]
theorem ST {t u:Lt}:lB (.alt t u)=λi=>lB t i || lB u i:=by funext j;rw [wm,Xa,di,di,di];simp [Lt.last]
theorem ND {t u:Lt} (k j:Nat):yY (.alt t u) k j=(yY t k j || yY u k j):=by rw [wm];simp only [Xa,jO,Lt.fol]
theorem SU {t:Lt}:fB (.rep t)=fB t:=by funext j;rw [wm,dN,dN];simp [Lt.first]
theorem SW {t:Lt}:lB (.rep t)=lB t:=by funext j;rw [wm,di,di];simp [Lt.last]
theorem NE {t:Lt} (k j:Nat):yY (.rep t) k j=(yY t k j || (lB t k && fB t j)):=by rw [wm];simp only [Xa,VT,jO,di,dN,Lt.fol]
theorem dH {l:List Nd} {i:Nat} {t:Lt} {ns:Δ} (h:cP l i t ns):(∀j∈ns,j<l.length)/\∀j,t.lab j->j∈ns:=by
 induction h with
 |emp r B=>exact ⟨λj g=>by simp at g;subst g;exact (N6.1 r).1,λj h=>h.elim⟩
 |rng r B _ _ _ _=>exact ⟨λj g=>by simp at g;subst g;exact (N6.1 r).1,λj h=>by rw [show j=_ from h.symm];simp⟩
 |seq r B _ _ _ _ w A=>
  refine ⟨λj g=> ?_,λj h=> ?_⟩
  ·simp only [zK,tS,vj] at g;rcases g with rfl|g|g
   ·exact (N6.1 r).1
   ·exact w.1 j g
   ·exact A.1 j g
  ·simp only [zK,tS,vj];exact .inr (h.elim (λh=> .inl (w.2 j h)) λh=> .inr (A.2 j h))
 |alt r B _ _ _ _ w A=>
  refine ⟨λj g=> ?_,λj h=> ?_⟩
  ·simp only [zK,tS,vj] at g;rcases g with rfl|g|g
   ·exact (N6.1 r).1
   ·exact w.1 j g
   ·exact A.1 j g
  ·simp only [zK,tS,vj];exact .inr (h.elim (λh=> .inl (w.2 j h)) λh=> .inr (A.2 j h))
 |rep r B _ _ w=>
  refine ⟨λj g=> ?_,λj h=> ?_⟩
  ·simp only [tS] at g;rcases g with rfl|g
   ·exact (N6.1 r).1
   ·exact w.1 j g
  ·exact Vz _ (w.2 j h)
theorem Fk {l:List Nd} {i:Nat} {t:Lt} {ns:Δ} (h:cP l i t ns) {j:Nat} (g:lB t j=nk):j<l.length:=(dH h).1 j ((dH h).2 j (t.last_lab (di.1 g)))
theorem RdS.keep {F w:PH} {s:Sl} {size:Nat} {vs:Ξ} (h:RdS F s size vs) (D:∀a,s.qa5=V a->∀o,F a.block=V o->w a.block=V o):RdS w s size vs:=by
 refine ⟨h.len,h.cap,λB=> ?_⟩;obtain ⟨b,o,r,A⟩:=h.cells B;refine ⟨b,o,r,λi hi=> ?_⟩;have g:=A i hi;unfold PH.cell at g ⊢;cases hz:F b with
 |none=>simp only [hz] at g;cases g
 |some C=>simp only [hz] at g;simp only [D _ r C hz];exact g
structure Cmp (F:PH) (b1 b3 b4 b5 bm bf:Nat) (l:List Nd) (R:Nat->Nat->Bool):Prop where
 lnk:Lnk F b3 bm bf l.length R
 q1:∃s:Sl,F b1=V (Y #[s.v] 164)/\RdS F s 5 (dF l)/\∀a,s.qa5=V a->a.block≠bf
 q4:F b4=V (Y #[.func (.func 236) #[] #[pa b1,pa b4,pa b5]] 329)
 q5:F b5=V (Y #[.func (.func 232) #[] #[pa b3]] 332)
section
variable {F F':PH} {b1 b3 b4 b5 bm bf:Nat} {l:List Nd} {R R':Nat->Nat->Bool}
theorem Cmp.le (h:Cmp F b1 b3 b4 b5 bm bf l R) (g:F.le F'):Cmp F' b1 b3 b4 b5 bm bf l R:=by obtain ⟨s,a,b,c⟩:=h.q1;exact ⟨h.lnk.le g,⟨s,g _ _ a,b.le g,c⟩,g _ _ h.q4,g _ _ h.q5⟩
theorem Cmp.keep (h:Cmp F b1 b3 b4 b5 bm bf l R) (r:dk (λx=>x=bf) F F') (C:Lnk F' b3 bm bf l.length R'):Cmp F' b1 b3 b4 b5 bm bf l R':=by
 obtain ⟨s,a,b,c⟩:=h.q1;have g:∀{x:Nat} {B:Γ} {e:TypeId},e≠302->F x=V (Y B e)->x≠bf:=λG w e=>by rw [e,h.lnk.qf] at w;simp at w;exact G w.2.symm
 exact ⟨C,⟨s,r _ _ a (g (by decide) a),b.keep λD A o E=>r _ _ E (c D A),c⟩,r _ _ h.q4 (g (by decide) h.q4),r _ _ h.q5 (g (by decide) h.q5)⟩
theorem Cmp.to (h:Cmp F b1 b3 b4 b5 bm bf l R) (e:∀k j,R k j=R' k j):Cmp F b1 b3 b4 b5 bm bf l R':=by
 have:R=R':=by funext k j;exact e k j
 rw [<- this];exact h
set_option maxHeartbeats 4000000 in
theorem GD (E:l.length<=512) (h0:bf≠0) {i:Nat} {t:Lt} {ns:Δ} (h:cP l i t ns):∀{F:PH} {R:Nat->Nat->Bool},Cmp F b1 b3 b4 b5 bm bf l R->
    ν 236 #[U i,pa b1,pa b4,pa b5] F λr F'=>r=.tuple #[.agg (pq (fB t)),.agg (pq (lB t)),.bool t.nul]/\Cmp F' b1 b3 b4 b5 bm bf l (λk j=>R k j || yY t k j)/\dk (λx=>x=bf) F F':=by
  induction h with
    (intro F R C
     obtain ⟨s,q1,hs,d3⟩:=C.q1;have b7:=hs.nlen;have d2:=(N6.1 N).1;obtain ⟨ad,b2,a4⟩:=Xl hs N;refine qex ?_;unfold Qw;have h:=Lo.start F;refine h.new _ _ λr1 F1 h=>h.new _ _ λr2 F2 h=> ?_;rw [<- dG] at h;refine ⟨_,rfl,s,by rw [av (h.le _ _ q1)];rfl,ad,b2,by omega,by omega,x.arr,rfl,λk g=>aK h.le (a4 k g),?_⟩;refine h.new _ _ λb8 F3 h=>Lo.put [] _ (w:=x.arr) (n:=5) h rfl rfl (gr x) λF4 h=> ?_;refine ⟨x.k,h.cl 0 rfl rfl,?_⟩
     have D:dk (λx=>x=bf) F F:=dk.refl _ _)
  | @emp i x N K=>refine ⟨λh=>absurd h (by omega),λ_=>⟨λh=>absurd h (by omega),λ_=>⟨λh=>absurd h (by omega),λ_=>⟨λh=>absurd h (by omega),λ_=> ?_⟩⟩⟩⟩;refine ⟨pq noP,rfl,h.ro 2 rfl,pq noP,rfl,h.ro 1 rfl,?_⟩;refine h.q2 λF5 h=>⟨h.ro 1 rfl,h.q1 λF6 h=>⟨pq noP,rfl,h.ro 2 rfl,pq noP,rfl,h.ro 1 rfl,?_,(C.le h.le).to (λk j=>by rw [Nv,Yr]),λy o J E=>h.le _ _ (D y o J E)⟩⟩;rw [SN,SO,Lt.nul]
  | @rng i lo hi x N K d1 c6 c9 b6=>refine ⟨λ_=> ?_,λh=>absurd K h⟩;refine (h.ad2 (by omega)).mono ?_;rintro _ F5 ⟨rfl,h⟩;refine ⟨rfl,_,rfl,h.ro 2 rfl,_,rfl,h.ro 2 rfl,?_⟩;refine h.q2 λF6 h=>h.q1 λF7 h=>⟨_,rfl,h.ro 2 rfl,_,rfl,h.ro 1 rfl,?_,(C.le h.le).to (λk j=>by rw [Nw,Yr]),λy o J E=>h.le _ _ (D y o J E)⟩;rw [SP,SQ,Lt.nul]
  | @seq i a b x t u na nb N K G L ht hu it iu=>
    refine ⟨λh=>absurd h (by omega),λ_=>⟨λ_=> ?_,λh=>absurd K h⟩⟩;refine ⟨_,rfl,_,by rw [av (h.le _ _ C.q4)];rfl,_,h.cl 0 rfl rfl,236,#[],_,rfl,ox,?_⟩;rw [G];refine (h.call (it C)).mono ?_;rintro _ F5 ⟨G5,⟨rfl,C,g⟩,h⟩;have D:=D.trans g;refine ⟨_,_,_,rfl,?_⟩;refine h.new _ _ λb9 F6 h=>h.new _ _ λM F7 h=> ?_;rw [<- dG] at h;refine h.q1 λF8 h=>h.q0 λF9 h=> ?_;refine ⟨_,by rw [av (h.le _ _ C.q4)];rfl,_,h.cl 2 rfl rfl,236,#[],_,rfl,ox,?_⟩;rw [L];refine (h.call (iu C)).mono ?_;rintro _ a2 ⟨a1,⟨rfl,C,g⟩,h⟩;have D:=D.trans g;refine ⟨_,_,_,rfl,?_⟩;refine h.new _ _ λO a3 h=>h.new _ _ λH a0 h=> ?_;rw [<- dG] at h;refine h.q1 λa5 h=>h.q0 λb0 h=> ?_;refine ⟨_,rfl,_,by rw [av (h.le _ _ C.q5)];rfl,pq (lB t),rfl,h.ro 2 rfl,pq (fB u),rfl,h.ro 1 rfl,232,#[],_,rfl,Ky,?_⟩;refine (h.call (uP (P:=lB t) (Q:=fB u) C.lnk h0 E (λj hj=>Fk ht hj))).mono ?_;rintro _ a8 ⟨W,⟨rfl,hL,g⟩,h⟩;have C:=C.keep g hL;have D:=D.trans g;refine ⟨rfl,?_⟩;have X:∀k j,(R k j || yY t k j || yY u k j || (lB t k && fB u j))=(R k j || yY (.seq t u) k j):=λk j=>by rw [NC];simp only [Bool.or_assoc]
    have j2:∀{A B:Nat->Bool} {F':PH},fB (.seq t u)=A->lB (.seq t u)=B->Lo W F' [(H,pq B,302),(O,pq (fB u),302),(M,pq (lB t),302),(b9,pq A,302),(b8,x.arr,225),(r2,pq noP,302),(r1,pq noP,302)]->qz r1 r2 b9 t.nul H u.nul (λr F'=>r=.tuple #[.agg (pq (fB (.seq t u))),.agg (pq (lB (.seq t u))),.bool (Lt.nul (.seq t u))]/\Cmp F' b1 b3 b4 b5 bm bf l (λk j=>R k j || yY (.seq t u) k j)/\dk (λx=>x=bf) F F') F':=λ{A B F'} e1 e2 h=>by
      unfold qz;rw [e1,e2];refine ⟨_,rfl,h.ro 3 rfl,_,rfl,h.ro 0 rfl,λha=> ?_,λha=> ?_⟩;all_goals
        refine h.q6 λa9 h=>h.q5 λc2 h=>⟨_,rfl,h.ro 6 rfl,_,rfl,h.ro 5 rfl,?_,(C.le h.le).to X,λy o J E=>h.le _ _ (D y o J E)⟩;simp only [Lt.nul,ha];rfl
    have j1:∀{A:Nat->Bool} {F':PH},fB (.seq t u)=A->Lo W F' [(H,pq (lB u),302),(O,pq (fB u),302),(M,pq (lB t),302),(b9,pq A,302),(b8,x.arr,225),(r2,pq noP,302),(r1,pq noP,302)]->qA r1 r2 b9 M t.nul H u.nul (λr F'=>r=.tuple #[.agg (pq (fB (.seq t u))),.agg (pq (lB (.seq t u))),.bool (Lt.nul (.seq t u))]/\Cmp F' b1 b3 b4 b5 bm bf l (λk j=>R k j || yY (.seq t u) k j)/\dk (λx=>x=bf) F F') F':=λ{A F'} e1 h=>by unfold qA;refine ⟨λhb=>⟨_,rfl,h.ro 2 rfl,(h.jn0).mono ?_⟩,λhb=>j2 e1 (NB hb) h⟩;rintro _ a7 ⟨rfl,h⟩;exact ⟨rfl,j2 e1 (NA hb) h⟩
    refine ⟨λHA=>⟨_,rfl,h.ro 1 rfl,(h.jn3).mono ?_⟩,λHA=>j1 (Nz HA) h⟩;rintro _ a6 ⟨rfl,h⟩;exact ⟨rfl,j1 (Ny HA) h⟩
  | @alt i a b x t u na nb N K G L ht hu it iu=>
    refine ⟨λh=>absurd h (by omega),λ_=>⟨λh=>absurd h (by omega),λ_=>⟨λ_=> ?_,λh=>absurd K h⟩⟩⟩;refine ⟨_,rfl,_,by rw [av (h.le _ _ C.q4)];rfl,_,h.cl 0 rfl rfl,236,#[],_,rfl,ox,?_⟩;rw [G];refine (h.call (it C)).mono ?_;rintro _ F5 ⟨G5,⟨rfl,C,g⟩,h⟩;have D:=D.trans g;refine ⟨_,_,_,rfl,?_⟩;refine h.new _ _ λc8 F6 h=>h.new _ _ λc4 F7 h=> ?_;rw [<- dG] at h;refine h.q1 λF8 h=>h.q0 λF9 h=> ?_;refine ⟨_,by rw [av (h.le _ _ C.q4)];rfl,_,h.cl 2 rfl rfl,236,#[],_,rfl,ox,?_⟩;rw [L];refine (h.call (iu C)).mono ?_;rintro _ a2 ⟨a1,⟨rfl,C,g⟩,h⟩;have D:=D.trans g;refine ⟨_,_,_,rfl,?_⟩;refine h.new _ _ λc7 a3 h=>h.new _ _ λd0 a0 h=> ?_;rw [<- dG] at h;refine h.q1 λa5 h=>h.q0 λb0 h=> ?_;refine ⟨_,rfl,h.ro 1 rfl,(h.jn3).mono ?_⟩;rintro _ a8 ⟨rfl,h⟩;refine ⟨rfl,_,rfl,h.ro 0 rfl,(h.jn2).mono ?_⟩;rintro _ a6 ⟨rfl,h⟩;have X:∀k j,(R k j || yY t k j || yY u k j)=(R k j || yY (.alt t u) k j):=λk j=>by rw [ND,Bool.or_assoc]
    refine ⟨rfl,_,rfl,h.ro 3 rfl,_,rfl,h.ro 2 rfl,λha=> ?_,λha=> ?_⟩;all_goals
      refine h.q6 λa7 h=>h.q5 λa9 h=>⟨_,rfl,h.ro 6 rfl,_,rfl,h.ro 5 rfl,?_,(C.le h.le).to X,λy o J E=>h.le _ _ (D y o J E)⟩;rw [SR,ST];simp only [Lt.nul,ha];rfl
  | @rep i a x t na N K G ht it=>
    refine ⟨λh=>absurd h (by omega),λ_=>⟨λh=>absurd h (by omega),λ_=>⟨λh=>absurd h (by omega),λ_=>⟨λ_=> ?_,λh=>absurd K h⟩⟩⟩⟩;refine ⟨_,rfl,_,by rw [av (h.le _ _ C.q4)];rfl,_,h.cl 0 rfl rfl,236,#[],_,rfl,ox,?_⟩;rw [G];refine (h.call (it C)).mono ?_;rintro _ F5 ⟨G5,⟨rfl,C,g⟩,h⟩;have D:=D.trans g;refine ⟨_,_,_,rfl,?_⟩;refine h.new _ _ λc3 F6 h=>h.new _ _ λc5 F7 h=> ?_;rw [<- dG] at h;refine h.q1 λF8 h=>h.q0 λF9 h=> ?_;refine ⟨_,rfl,_,by rw [av (h.le _ _ C.q5)];rfl,pq (lB t),rfl,h.ro 0 rfl,pq (fB t),rfl,h.ro 1 rfl,232,#[],_,rfl,Ky,?_⟩;refine (h.call (uP (P:=lB t) (Q:=fB t) C.lnk h0 E (λj hj=>Fk ht hj))).mono ?_;rintro _ a2 ⟨a1,⟨rfl,hL,g⟩,h⟩;have C:=C.keep g hL;have D:=D.trans g;have X:∀k j,(R k j || yY t k j || (lB t k && fB t j))=(R k j || yY (.rep t) k j):=λk j=>by rw [NE];simp only [Bool.or_assoc]
    refine ⟨rfl,_,rfl,h.ro 1 rfl,_,rfl,h.ro 0 rfl,?_⟩;refine h.q4 λa3 h=>⟨h.ro 0 rfl,h.q3 λa0 h=>⟨_,rfl,h.ro 4 rfl,_,rfl,h.ro 3 rfl,?_,(C.le h.le).to X,λy o J E=>h.le _ _ (D y o J E)⟩⟩;rw [SU,SW,Lt.nul]
end
def bK (s:Sl) (P Q:Nat->Bool) (bf n:Nat) (e:Bool):Γ:=
 #[s.v,cX (wd P 0),cX (wd P 1),cX (wd P 2),cX (wd P 3),cX (wd P 4),cX (wd P 5),cX (wd P 6),cX (wd P 7),
  cX (wd Q 0),cX (wd Q 1),cX (wd Q 2),cX (wd Q 3),cX (wd Q 4),cX (wd Q 5),cX (wd Q 6),cX (wd Q 7),nI ⟨V ⟨bf,0,I⟩,n,n⟩,.bool e]
theorem qd9 (P a1 a2 X a4 W a6 a7 a8 H h E g D A r w B C N O M J Q K G L:ξ):wr (#[P,a1,a2,X,a4,W,a6,a7,a8,H,h,E,g,D,A,r,w,B,C]:Γ) 1 [N,O,M,J,Q,K,G,L]= #[P,N,O,M,J,Q,K,G,L,H,h,E,g,D,A,r,w,B,C]:=
 (jW [N,O,M,J,Q,K,G,L] [P,a1,a2,X,a4,W,a6,a7,a8,H,h,E,g,D,A,r,w,B,C] 1 (by show 9<=19;omega)).trans rfl
theorem qea (a0 a1 W K a4 H a6 N X a9 w E r D C A B g h P Q O J v4 L G M:ξ):wr (#[a0,a1,W,K,a4,H,a6,N,X,a9,w,E,r,D,C,A,B,g,h]:Γ) 9 [P,Q,O,J,v4,L,G,M]= #[a0,a1,W,K,a4,H,a6,N,X,P,Q,O,J,v4,L,G,M,g,h]:=
 (jW [P,Q,O,J,v4,L,G,M] [a0,a1,W,K,a4,H,a6,N,X,a9,w,E,r,D,C,A,B,g,h] 9 (by show 17<=19;omega)).trans rfl
theorem qeb (s:Sl) (P h Q:Nat->Bool) (g n:Nat) (e:Bool):wr (bK s h Q g n e) 1 (pq P).toList=bK s P Q g n e:=qd9 _ _ _ _ _ _ _ _ _ _ _ _ _ _ _ _ _ _ _ _ _ _ _ _ _ _ _
theorem qec (s:Sl) (P h Q:Nat->Bool) (g n:Nat) (e:Bool):wr (bK s P h g n e) 9 (pq Q).toList=bK s P Q g n e:=qea _ _ _ _ _ _ _ _ _ _ _ _ _ _ _ _ _ _ _ _ _ _ _ _ _ _ _
theorem qed (s:Sl) (P Q:Nat->Bool) (g n:Nat) (e e':Bool):(bK s P Q g n e).setIfInBounds 18 (.bool e')=bK s P Q g n e':=rfl
def UV:Nat->Nat->Bool:=λ_ _=>mD
theorem uQ:∀n:Nat,dc n UV=List.replicate (n*8) (.int .u64 0)
 |0=>rfl
 |n+1=>by
  have:=uQ n;unfold dc at this ⊢;rw [List.range_succ,XV,this,VC,List.flatMap_nil,yt];have e:(pq (UV n)).toList=List.replicate 8 (.int .u64 0):=by show (pq noP).toList=_;rw [dG];rfl
  rw [e,List.replicate_append_replicate];congr 1;omega
theorem Kz:vy prog 302=V (8,64):=by kernel_rfl
theorem KA:bv prog 302=V (.agg #[.int .u64 0,.int .u64 0,.int .u64 0,.int .u64 0,.int .u64 0,.int .u64 0,.int .u64 0,.int .u64 0]):=by kernel_rfl
theorem Z7 (n:Nat):Builtin.zeroCells (Value.agg #[.int .u64 0,.int .u64 0,.int .u64 0,.int .u64 0,.int .u64 0,.int .u64 0,.int .u64 0,.int .u64 0]).cells n=(dc n UV).toArray:=by
 rw [uQ];have g:(Value.agg #[.int .u64 0,.int .u64 0,.int .u64 0,.int .u64 0,.int .u64 0,.int .u64 0,.int .u64 0,.int .u64 0]).cells=(List.replicate 8 (Value.int .u64 0)).toArray:=rfl;rw [g];apply Array.ext
 ·simp [Builtin.zeroCells]
 ·intro i h r;simp only [Builtin.zeroCells,Array.getElem_map,Array.getElem_range,List.getElem_toArray,List.getElem_replicate];have:i % (List.replicate 8 (Value.int .u64 0)).toArray.size<8:=VU _ (by decide);rw [getElem!_pos _ _ (by simpa using this)];simp only [XB,Xx,List.getElem_toArray,List.getElem_replicate]
structure Mch (F:PH) (bm:Nat) (l:List Nd) (t:Lt):Prop where
 ex:∃(s:Sl) (bf:Nat),F bm=V (Y (bK s (fB t) (lB t) bf l.length t.nul) 305)/\RdS F s 5 (dF l)/\F bf=V (Y (dc l.length (yY t)).toArray 302)
theorem Mch.le {F G:PH} {bm:Nat} {l:List Nd} {t:Lt} (h:Mch F bm l t) (g:F.le G):Mch G bm l t:=by obtain ⟨s,r,a,b,c⟩:=h.ex;exact ⟨s,r,g _ _ a,b.le g,g _ _ c⟩
theorem Tab.zero {F:PH} (h:Tab F):∃o,F 0=V o:=by
 have:=h 0 0 rfl;unfold PH.cell at this;cases hz:F 0 with
 |none=>rw [hz] at this;cases this
 |some o=>exact ⟨o,rfl⟩
theorem RdS.block {F:PH} {s:Sl} {size:Nat} {vs:Ξ} (h:RdS F s size vs) (C:0<vs.length) {a:Addr} (D:s.qa5=V a):∃o,F a.block=V o:=by
 have A:0<s.len:=by
  rcases Yh s.len with r|r
  ·have:=h.len;rw [r,Wp] at this;omega
  ·exact r
 obtain ⟨b,o,w,B⟩:=h.cells A;rw [D] at w;cases w;have g:=B 0 C;unfold PH.cell at g;cases hz:F b with
 |none=>simp only [hz] at g;cases g
 |some E=>exact ⟨E,rfl⟩
theorem Lo.new' {G F:PH} {xs:List (Nat×Γ×TypeId)} (h:Lo G F xs) (c:Γ) (e:TypeId) {b:Nat} (g:F b=I):Lo G (F.set b (Y c e)) ((b,c,e)::xs):=
 Yb (h.new c e (K:=λb r=>Lo G r ((b,c,e)::xs)) (λ_ _ h=>h) b g)
section
variable {F0 F:PH} {l:List Nd}
set_option maxHeartbeats 1000000 in
theorem Cp {s:Sl} {C A bm w:Nat} (hT:Tab F0) (hG:GoodL l) (hl:l.length<=512) (hs:RdS F0 s 5 (dF l)) (le:F0.le F) (q1:F C=V (Y #[s.v] 164)) (q3:F A=V (Y #[pa bm] 299))
  (B:F bm=V (Y (bK s noP noP w l.length mD) 305)) (E:F w=V (Y (dc l.length UV).toArray 302)) (zm:F0 bm=I) (zf:F0 w=I) {R:ξ->Ψ}
  (k:∀F',Mch F' bm l (bN l)->F0.le F'->R (pa bm) F'):jM C (V ⟨A,0,I⟩) R F:=by
 obtain ⟨ns,ht⟩:=iJ hG;have b2:=hs.nlen;have c6:=Yg.2 hG.ne;have h0:w≠0:=λe=>by obtain ⟨o,K⟩:=hT.zero;rw [e,K] at zf;cases zf
 unfold jM;intro r X;refine tR ?_;have l4:=ae (Y #[.nilFunc] 329) X;have q4:=aq F r (Y #[.nilFunc] 329);have P:=aa le l4;have q1:=l4 _ _ q1;have q3:=l4 _ _ q3;have B:=l4 _ _ B;have E:=l4 _ _ E;have z4:F0 r=I:=aT le X;clear l4 X le;generalize F.set r (Y #[.nilFunc] 329)=F1 at*;intro g N;refine tR ?_;have l5:=ae (Y #[.nilFunc] 332) N;have q5:=aq F1 g (Y #[.nilFunc] 332);have a5:=aa P l5;have q1:=l5 _ _ q1;have q3:=l5 _ _ q3;have B:=l5 _ _ B;have E:=l5 _ _ E;have b0:r≠g:=aH N q4;have q4:=l5 _ _ q4;have z5:F0 g=I:=aT P N;clear l5 N P;generalize F1.set g (Y #[.nilFunc] 332)=F2 at*;have ne:∀{x y:Nat} {c d:Γ} {e e':TypeId},e≠e'->F2 x=V (Y c e)->F2 y=V (Y d e')->x≠y:=λhe J hy e=>by rw [e,hy] at J;simp at J;exact he J.2.symm
 refine Wq (o:=0) q5 (by simp) ?_;show ∃c e,_;have e5:(#[Value.nilFunc]:Γ).setIfInBounds 0 (.func (.func 232) #[] #[pa A])= #[.func (.func 232) #[] #[pa A]]:=rfl;rw [e5];have a9:=aB (o:=Y #[.func (.func 232) #[] #[pa A]] 332) a5 z5;have a4:(F2.set g (Y #[.func (.func 232) #[] #[pa A]] 332)) C=_:=(aw _ _ (ne (by decide) q1 q5)).trans q1;have W:(F2.set g (Y #[.func (.func 232) #[] #[pa A]] 332)) A=_:=(aw _ _ (ne (by decide) q3 q5)).trans q3;have a1:(F2.set g (Y #[.func (.func 232) #[] #[pa A]] 332)) bm=_:=(aw _ _ (ne (by decide) B q5)).trans B;have Q:(F2.set g (Y #[.func (.func 232) #[] #[pa A]] 332)) w=_:=(aw _ _ (ne (by decide) E q5)).trans E;have D:(F2.set g (Y #[.func (.func 232) #[] #[pa A]] 332)) r=_:=(aw _ _ b0).trans q4;have a7:=aq F2 g (Y #[.func (.func 232) #[] #[pa A]] 332);clear q1 q3 B E q4 q5 a5 ne;generalize F2.set g (Y #[.func (.func 232) #[] #[pa A]] 332)=L at*;have ne:∀{x y:Nat} {c d:Γ} {e e':TypeId},e≠e'->L x=V (Y c e)->L y=V (Y d e')->x≠y:=λhe J hy e=>by rw [e,hy] at J;simp at J;exact he J.2.symm
 refine Wq (o:=0) D (by simp) ?_;have e4:(#[Value.nilFunc]:Γ).setIfInBounds 0 (.func (.func 236) #[] #[pa C,pa r,pa g])= #[.func (.func 236) #[] #[pa C,pa r,pa g]]:=rfl;rw [e4];have a0:=aB (o:=Y #[.func (.func 236) #[] #[pa C,pa r,pa g]] 329) a9 z4;have q1:(L.set r (Y #[.func (.func 236) #[] #[pa C,pa r,pa g]] 329)) C=_:=(aw _ _ (ne (by decide) a4 D)).trans a4;have q3:(L.set r (Y #[.func (.func 236) #[] #[pa C,pa r,pa g]] 329)) A=_:=(aw _ _ (ne (by decide) W D)).trans W;have B:(L.set r (Y #[.func (.func 236) #[] #[pa C,pa r,pa g]] 329)) bm=_:=(aw _ _ (ne (by decide) a1 D)).trans a1;have E:(L.set r (Y #[.func (.func 236) #[] #[pa C,pa r,pa g]] 329)) w=_:=(aw _ _ (ne (by decide) Q D)).trans Q;have q5:(L.set r (Y #[.func (.func 236) #[] #[pa C,pa r,pa g]] 329)) g=_:=(aw _ _ b0.symm).trans a7;have q4:=aq L r (Y #[.func (.func 236) #[] #[pa C,pa r,pa g]] 329);clear a4 W a1 Q D a7 a9 ne;generalize L.set r (Y #[.func (.func 236) #[] #[pa C,pa r,pa g]] 329)=F4 at*;have b6:=hs.le a0;have hC:Cmp F4 C A r g bm w l UV:=by refine ⟨⟨hT.le a0,q3,⟨_,B,rfl⟩,E⟩,⟨s,q1,b6,λa ha e=> ?_⟩,q4,q5⟩;obtain ⟨o,K⟩:=hs.block (by rw [iF];omega) ha;rw [e,zf] at K;cases K
 have H:F4.cell (oB A 0 I)=V (pa bm):=by rw [av q3];rfl
 refine ⟨_,rfl,_,H,_,H,_,H,_,by rw [av q4];rfl,s,by rw [av q1];rfl,236,#[],_,rfl,ox,?_⟩;have ew:i64.wrap ((s.len:Int) - 1)=((l.length - 1:Nat):Int):=by rw [b2,aJ (by omega)];omega
 rw [ew];refine (GD hl h0 ht hC).mono ?_;rintro _ O ⟨rfl,a2,hK⟩;have M:∀{x:Nat} {c:Γ} {e:TypeId},e≠302->F4 x=V (Y c e)->x≠w:=λhe J e=>by rw [e,E] at J;simp at J;exact he J.2.symm
 have q1:=hK _ _ q1 (M (by decide) q1);have q3:=hK _ _ q3 (M (by decide) q3);have B:=hK _ _ B (M (by decide) B);have a8:F0.le O:=λy o hy=>hK y o (a0 y o hy) λe=>by rw [e,zf] at hy;cases hy
 have H:∀{G:PH},G A=V (Y #[pa bm] 299)->G.cell (oB A 0 I)=V (pa bm):=λh=>by rw [av h];rfl
 have a3:A≠bm:=λe=>by rw [e,B] at q3;simp at q3
 have b9:w≠bm:=λe=>by rw [<- e,a2.lnk.qf] at B;simp at B
 have c2:∀a,s.qa5=V a->a.block≠bm:=λa ha e=>by obtain ⟨o,K⟩:=hs.block (by rw [iF];omega) ha;rw [e,zm] at K;cases K
 have E:=a2.lnk.qf;have b7:=hs.le a8;clear hC a2 hK M;refine ⟨_,_,_,rfl,by rw [av q1];rfl,H q3,H q3,H q3,_,rfl,rfl,fW _,_,_,B,rfl,(by show 9<=19;omega),?_⟩;refine tR ?_;have w1:wr (bK s noP noP w l.length mD) ((oB bm 0 I).add 1).off (pq (fB (bN l))).toList=bK s (fB (bN l)) noP w l.length mD:=qeb _ _ _ _ _ _ _;rw [w1];show (O.set bm _).cell _=_/\_;have a6:(O.set bm (Y (bK s (fB (bN l)) noP w l.length mD) 305)) A=_:=(aw _ _ a3).trans q3;have b8:=aq O bm (Y (bK s (fB (bN l)) noP w l.length mD) 305);refine ⟨H a6,H a6,_,rfl,rfl,fW _,_,_,b8,rfl,(by show 17<=19;omega),?_⟩;refine tR ?_;have w2:wr (bK s (fB (bN l)) noP w l.length mD) ((oB bm 0 I).add 9).off (pq (lB (bN l))).toList=bK s (fB (bN l)) (lB (bN l)) w l.length mD:=qec _ _ _ _ _ _ _;rw [w2];rw [show ((O.set ((oB bm 0 I).add 1).block (Y (bK s (fB (bN l)) noP w l.length mD) 305)).set ((oB bm 0 I).add 9).block (Y (bK s (fB (bN l)) (lB (bN l)) w l.length mD) 305))=O.set bm (Y (bK s (fB (bN l)) (lB (bN l)) w l.length mD) 305) from aR _ _ _ _];have c5:(O.set bm (Y (bK s (fB (bN l)) (lB (bN l)) w l.length mD) 305)) A=_:=(aw _ _ a3).trans q3;have c4:=aq O bm (Y (bK s (fB (bN l)) (lB (bN l)) w l.length mD) 305);refine ⟨H c5,_,rfl,?_⟩;refine tF (b:=bm) (o:=18) rfl c4 (by show 18<19;omega) ?_;rw [aR];have w3:(bK s (fB (bN l)) (lB (bN l)) w l.length mD).setIfInBounds 18 (.bool (bN l).nul)=bK s (fB (bN l)) (lB (bN l)) w l.length (bN l).nul:=qed _ _ _ _ _ _ _;rw [w3];refine ⟨_,H ((aw _ _ a3).trans q3),k _ ⟨s,w,aq _ _ _,b7.keep λa ha o K=>(aw _ _ (c2 a ha)).trans K,?_⟩ (aB a8 zm)⟩;rw [aw _ _ b9,E];congr 3
theorem qhN {s:Sl} (hT:Tab F) (hG:GoodL l) (W:l.length<=512) (M:RdS F s 5 (dF l)):ν 205 #[s.v] F λr B=>(∃bm,r=pa bm/\Mch B bm l (bN l))/\F.le B:=by
 have D:=M.nlen;refine qeq ?_;unfold Qo;have fin:∀{B:PH} {G:List (Nat×Γ×TypeId)} {A g bm C:Nat},Lo F B G->(A,#[s.v],164)∈G->(C,#[pa bm],299)∈G->
   (bm,(#[s.v,.int .u64 0,.int .u64 0,.int .u64 0,.int .u64 0,.int .u64 0,.int .u64 0,.int .u64 0,.int .u64 0,.int .u64 0,.int .u64 0,.int .u64 0,.int .u64 0,.int .u64 0,.int .u64 0,.int .u64 0,.int .u64 0,nI ⟨V ⟨g,0,I⟩,s.len,s.len⟩,.bool mD]:Γ),305)∈G->
   (g,(dc s.len UV).toArray,302)∈G->jM A (V ⟨C,0,I⟩) (λr B=>(∃bm,r=pa bm/\Mch B bm l (bN l))/\F.le B) B:=λh X Q K H=>by
  have em:∀g:Nat,(#[s.v,.int .u64 0,.int .u64 0,.int .u64 0,.int .u64 0,.int .u64 0,.int .u64 0,.int .u64 0,.int .u64 0,.int .u64 0,.int .u64 0,.int .u64 0,.int .u64 0,.int .u64 0,.int .u64 0,.int .u64 0,.int .u64 0,nI ⟨V ⟨g,0,I⟩,s.len,s.len⟩,.bool mD]:Γ)=bK s noP noP g l.length mD:=λg=>by unfold bK noP;simp only [xO,D];rfl
  rw [em] at K;rw [D] at H;exact Cp hT hG W M h.le (h.get X) (h.get Q) (h.get K) (h.get H) (h.z _ K).2 (h.z _ H).2 λP a b=>⟨⟨_,rfl,a⟩,b⟩
 have h:=Lo.start F;refine h.new _ _ λA L h=> ?_;have c1:L.cell (oB A 0 I)=V s.v:=by rw [h.cell (b:=A) (w:= #[s.v]) (e:=164) (by simp)];rfl
 refine ⟨s,c1,s,c1,?_,?_⟩
 ·refine bT underlying303 Kz KA rfl (by omega) (Vd _) (by omega) (by omega) ?_;intro g E;rw [Z7,N4];have h:=h.new' (dc s.len UV).toArray 302 E;generalize L.set g (Y (dc s.len UV).toArray 302)=F2 at*;have c1:F2.cell (oB A 0 I)=V s.v:=by rw [h.cell (b:=A) (w:= #[s.v]) (e:=164) (by simp)];rfl
  refine ⟨_,rfl,c1,c1,?_,?_⟩
  ·refine h.new _ _ λbm J h=> ?_;refine h.new _ _ λC O h=> ?_;refine Lo.put1 [] [(bm,_,305),(g,_,302),(A,_,164)] (b:=C) (i:=0) (w0:= #[.pointer I]) (w:= #[pa bm]) (e:=299) h (by simp) rfl λN h=> ?_;exact fin h (.tail _ (.tail _ (.tail _ (.head _)))) (.head _) (.tail _ (.head _)) (.tail _ (.tail _ (.head _)))
  ·refine h.new _ _ λC J h=> ?_;refine h.new _ _ λbm O h=> ?_;refine Lo.put1 [(bm,_,305)] [(g,_,302),(A,_,164)] (b:=C) (i:=0) (w0:= #[.pointer I]) (w:= #[pa bm]) (e:=299) h (by simp) rfl λN h=> ?_;exact fin h (.tail _ (.tail _ (.tail _ (.head _)))) (.tail _ (.head _)) (.head _) (.tail _ (.tail _ (.head _)))
 ·refine h.new _ _ λC F2 h=> ?_;refine bT underlying303 Kz KA rfl (by omega) (Vd _) (by omega) (by omega) ?_;intro g E;rw [Z7,N4];have h:=h.new' (dc s.len UV).toArray 302 E;generalize F2.set g (Y (dc s.len UV).toArray 302)=J at*;have c1:J.cell (oB A 0 I)=V s.v:=by rw [h.cell (b:=A) (w:= #[s.v]) (e:=164) (by simp)];rfl
  refine ⟨_,rfl,c1,c1,?_⟩;refine h.new _ _ λbm O h=> ?_;refine Lo.put1 [(bm,_,305),(g,_,302)] [(A,_,164)] (b:=C) (i:=0) (w0:= #[.pointer I]) (w:= #[pa bm]) (e:=299) h (by simp) rfl λN h=> ?_;exact fin h (.tail _ (.tail _ (.tail _ (.head _)))) (.tail _ (.tail _ (.head _))) (.head _) (.tail _ (.head _))
end
abbrev ZW:=ForInStep (Option Bool×Unit)
section
variable {F:PH}
theorem Cq {P:Program} {α:Type} (step:α->Option Bool×Unit->Sem ZW) (g:α->Bool):∀(l:List α),(∀a∈l,qX P (step a (I,())) F (if g a then .yield (I,()) else .done (V mD,())))->
  qX P (forIn l (I,()) step) F (if l.all g then (I,()) else (V mD,()))
 |[],_=>rfl
 |a::l,h=>by
  rw [Yo,am];refine ⟨_,h a (by simp),?_⟩;rw [Xw];cases g a with
  |false=>rfl
  |true=>rw [Wz];exact Cq step g l λb r=>h b (by simp [r])
theorem Fl (t:TypeId) (k:IntKind) (g:prog.underlying t=V (.int k)) (d:Nat) (a b:Int):qX prog (Op.equalIn (d+1) t (.int k a) (.int k b)) F (decide (a=b)):=by simp only [Op.equalIn,am];refine ⟨_,(az g _).2 rfl,?_⟩;simp only [if_true,cJ];by_cases h:a=b<;>simp [h]
theorem uR (t:TypeId) (k:IntKind) (g:prog.underlying t=V (.int k)) {cs:Γ} {off:Nat} {v:ξ} (h:cs[off]? =V v):qX prog (part t cs off) F v:=by unfold part;simp only [am];refine ⟨mD,(dr g _).2 rfl,?_⟩;simp only [VQ,if_false,h];rfl
theorem KB (t:TypeId) (k:IntKind) (g:prog.underlying t=V (.int k)) (n off:Nat) (cs ds:Γ) (x y:Int) (w:cs[off]? =V (.int k x)) (A:ds[off]? =V (.int k y)):
  qX prog (do
   let a <- part t cs off
   let b <- part t ds off
   let r <- Op.equalIn (n+1) t a b
   if (!r)=nk then pure (ForInStep.done (V mD,())) else pure (ForInStep.yield (I,())):Sem ZW) F (if decide (x=y)=nk then .yield (I,()) else .done (V mD,())):=by
 simp only [am];refine ⟨_,uR t k g w,_,uR t k g A,_,Fl t k g n x y,?_⟩;by_cases h:x=y<;>simp [h]
theorem qee:vy prog 40=V (1,8):=by kernel_rfl
theorem aaw {cs ds:Γ} {f g:Nat->Int} (r:∀k,k<8->cs[k]? =V (.int .u64 (f k))) (w:∀k,k<8->ds[k]? =V (.int .u64 (g k))):
  qX prog (Op.equal 302 (.agg cs) (.agg ds)) F ((List.range 8).all λk=>decide (f k=g k)):=by
 unfold Op.equal Op.maxDepth;show qX prog (Op.equalIn (9998+1+1) 302 _ _) _ _;unfold Op.equalIn;simp only [am];refine ⟨_,(az underlying302 _).2 rfl,?_⟩;dsimp only;refine (am _ _ _ _).2 ⟨1,(bu qee _).2 rfl,?_⟩;rw [Std.Legacy.Range.forIn_eq_forIn_range'];simp only [Std.Legacy.Range.size,VV,Zk,Nat.div_one];rw [am];refine ⟨_,Cq _ (λk=>decide (f k=g k)) _ λk A=> ?_,?_⟩
 ·have h:k<8:=by have:=List.mem_range'.1 A;omega
  rw [xF];exact KB 40 .u64 underlying40 9998 k cs ds _ _ (r k h) (w k h)
 ·have B:List.range' 0 8 1=List.range 8:=rfl;rw [B];cases (List.range 8).all (λk=>decide (f k=g k))<;>rfl
theorem aax (P Q:Nat->Bool):qX prog (Op.equal 302 (.agg (pq P)) (.agg (pq Q))) F ((List.range 8).all λk=>decide ((wd P k:Int)=(wd Q k:Int))):=
 aaw (λ_ h=>eZ P h) (λ_ h=>eZ Q h)
theorem GE (P:Nat->Bool):((List.range 8).all λk=>decide ((wd P k:Int)=(wd noP k:Int)))=nk↔∀i,i<512->P i=mD:=by
 rw [VA];have g:∀k,wd noP k=0:=λk=>xO k;constructor
 ·intro h i hi;have:=ζ (h (i / 64) (WU.2 (by omega)));rw [g] at this;have A:wd P (i / 64)=0:=by omega
  have:=iN.1 A (i % 64) (by omega);rwa [show 64*(i / 64)+i % 64=i by omega] at this
 ·intro h k w;have r:=WU.1 w;have:wd P k=0:=iN.2 λj B=>h _ (by omega);rw [g,this];rfl
end
def Nx (acc fol:Nat->Nat->Prop):(Nat->Prop)->Δ->Nat->Prop
 |S,[],j=>S j
 |S,b::w,j=>Nx acc fol (λj=>∃i,S i/\acc i b/\fol i j) w j
section
variable {acc fol:Nat->Nat->Prop} {e:Nat->Prop}
theorem oA:∀(w u:Δ) (S:Nat->Prop) (j:Nat),Nx acc fol S (w++u) j↔Nx acc fol (Nx acc fol S w) u j
 |[],_,_,_=>Iff.rfl
 |_::w,u,_,j=>oA w u _ j
theorem Fm (w:Δ) (b:Nat) (S:Nat->Prop) (j:Nat):Nx acc fol S (w++[b]) j↔∃i,Nx acc fol S w i/\acc i b/\fol i j:=by rw [oA];rfl
theorem Fo:∀(w:Δ) (S:Nat->Prop),(∀j,¬S j)->∀j,¬Nx acc fol S w j
 |[],_,h,j=>h j
 |_::w,_,h,j=>Fo w _ (λ_ ⟨i,hi,_⟩=>h i hi) j
theorem KD:∀(w:Δ) (b:Nat) (S:Nat->Prop),(∃i,S i/\Pth acc fol e i (w++[b]))↔∃j,Nx acc fol S w j/\acc j b/\e j
 |[],b,S=>by
  constructor
  ·rintro ⟨i,h,r,⟨_,g⟩|⟨j,_,g⟩⟩
   ·exact ⟨i,h,r,g⟩
   ·exact g.elim
  ·rintro ⟨i,h,r,g⟩;exact ⟨i,h,r,.inl ⟨rfl,g⟩⟩
 |c::w,b,S=>by
  have ih:=KD w b (λj=>∃i,S i/\acc i c/\fol i j);show _↔∃j,Nx acc fol (λj=>∃i,S i/\acc i c/\fol i j) w j/\acc j b/\e j;rw [<- ih];constructor
  ·rintro ⟨i,h,r,⟨g,_⟩|⟨j,g,A⟩⟩
   ·exact absurd g (by simp)
   ·exact ⟨j,⟨i,h,r,g⟩,A⟩
  ·rintro ⟨j,⟨i,h,r,g⟩,A⟩;exact ⟨i,h,r,.inr ⟨j,g,A⟩⟩
end
def mX (l:List Nd) (i b:Nat):Prop:=∃x,l[i]? =V x/\x.lo<=(b:Int)/\(b:Int)<=x.hi
theorem GF {l:List Nd} (K:GoodL l) {i:Nat} {t:Lt} {ns:Δ} (h:cP l i t ns):t.fits (mX l):=by
 induction h with
 |emp=>trivial
 | @rng i lo hi x w E O N L H=>
  intro b;constructor
  ·rintro ⟨y,J,A,B⟩;rw [w] at J;cases J;omega
  ·rintro ⟨A,B⟩;exact ⟨x,w,by omega,by omega⟩
 | @seq i a b x t u M nb w E g r C D it G=>exact ⟨it,G,λj A B=>QG K w (.inl E) g r (qI C j ((dH C).2 j A)) (qI D j ((dH D).2 j B))⟩
 | @alt i a b x t u M nb w E g r C D it G=>exact ⟨it,G,λj A B=>QG K w (.inr E) g r (qI C j ((dH C).2 j A)) (qI D j ((dH D).2 j B))⟩
 |rep _ _ _ _ it=>exact it
abbrev mY (l:List Nd) (t:Lt) (w:Δ):Nat->Prop:=Nx (mX l) t.fol t.first w
theorem Fp {l:List Nd} {t:Lt} (g:t.fits (mX l)) (w:Δ) (b:Nat):Lg t.pat (w++[b])↔∃j,mY l t w j/\mX l j b/\t.last j:=by rw [t.places g _ (by simp)];exact KD w b t.first
theorem jP {g:Δ} {n:Nat} (h:n<g.length):g.take (n+1)=g.take n++[g[n]]:=by rw [Wx,N5 h];rfl
theorem KE {l:List Nd} {t:Lt} (H:t.fits (mX l)) {g:Δ} {n:Nat} (h:n<g.length) (C:∀j,¬(mY l t (g.take n) j/\mX l j g[n])) {m:Nat} (K:n<m) (D:m<=g.length):¬Lg t.pat (g.take m):=by
 obtain ⟨m,rfl⟩:∃J,m=J+1:=⟨m - 1,by omega⟩;have w:m<g.length:=by omega
 rw [jP w,Fp H];rintro ⟨j,r,E,_⟩;by_cases e:m=n
 ·subst e;exact C j ⟨r,E⟩
 ·have G:∀j,¬mY l t (g.take (n+1)) j:=λj B=>by rw [jP h] at B;obtain ⟨i,a,b,_⟩:=(Fm _ _ _ _).1 B;exact C i ⟨a,b⟩
  have:g.take m=g.take (n+1)++(g.take m).drop (n+1):=by have:=W5 (n+1) (g.take m);rw [List.take_take,show min (n+1) m=n+1 by omega] at this;exact this.symm
  rw [this] at r;have A:=(oA _ _ _ _).1 r;exact Fo _ _ G j A
open Classical in
def px (l:List Nd) (t:Lt) (w:Δ):Nat->Bool:=λj=>decide (mY l t w j)
open Classical in
def xH (l:List Nd) (b:Nat):Nat->Bool:=λi=>decide (mX l i b)
theorem mZ {l:List Nd} {t:Lt} {w:Δ} {j:Nat}:px l t w j=nk↔mY l t w j:=by simp [px]
theorem ni {l:List Nd} {b i:Nat}:xH l b i=nk↔mX l i b:=by simp [xH]
theorem qef (O G M K Q H P L N J h E g D A r w B C:ξ):(#[O,G,M,K,Q,H,P,L,N,J,h,E,g,D,A,r,w,B,C]:Γ)[1]? =V G:=rfl
theorem qeg (N P G K Q H O L M J h E g D A r w B C:ξ):(#[N,P,G,K,Q,H,O,L,M,J,h,E,g,D,A,r,w,B,C]:Γ)[2]? =V G:=rfl
theorem qeh (N P L G Q H O K M J h E g D A r w B C:ξ):(#[N,P,L,G,Q,H,O,K,M,J,h,E,g,D,A,r,w,B,C]:Γ)[3]? =V G:=rfl
theorem qfz (O Q M K G H P L N J h E g D A r w B C:ξ):(#[O,Q,M,K,G,H,P,L,N,J,h,E,g,D,A,r,w,B,C]:Γ)[4]? =V G:=rfl
theorem qfA (N P L J Q G O K M H h E g D A r w B C:ξ):(#[N,P,L,J,Q,G,O,K,M,H,h,E,g,D,A,r,w,B,C]:Γ)[5]? =V G:=rfl
theorem qfB (O P M K Q H G L N J h E g D A r w B C:ξ):(#[O,P,M,K,Q,H,G,L,N,J,h,E,g,D,A,r,w,B,C]:Γ)[6]? =V G:=rfl
theorem qfC (N P L K Q H O G M J h E g D A r w B C:ξ):(#[N,P,L,K,Q,H,O,G,M,J,h,E,g,D,A,r,w,B,C]:Γ)[7]? =V G:=rfl
theorem qfD (N P M K Q H O L G J h E g D A r w B C:ξ):(#[N,P,M,K,Q,H,O,L,G,J,h,E,g,D,A,r,w,B,C]:Γ)[8]? =V G:=rfl
theorem qfE (N P L J Q H O K M G h E g D A r w B C:ξ):(#[N,P,L,J,Q,H,O,K,M,G,h,E,g,D,A,r,w,B,C]:Γ)[9]? =V G:=rfl
theorem SX (N P L J Q G O K M H g E h D A r w B C:ξ):(#[N,P,L,J,Q,G,O,K,M,H,g,E,h,D,A,r,w,B,C]:Γ)[10]? =V g:=rfl
theorem SY (N P L J Q G O K M H r g h E B w A C D:ξ):(#[N,P,L,J,Q,G,O,K,M,H,r,g,h,E,B,w,A,C,D]:Γ)[11]? =V g:=rfl
theorem SZ (N P L J Q G O K M H h E g D A r w B C:ξ):(#[N,P,L,J,Q,G,O,K,M,H,h,E,g,D,A,r,w,B,C]:Γ)[12]? =V g:=rfl
theorem S3 (N P L J Q G O K M H r E h g B w A C D:ξ):(#[N,P,L,J,Q,G,O,K,M,H,r,E,h,g,B,w,A,C,D]:Γ)[13]? =V g:=rfl
theorem S4 (N P L J Q G O K M H r E h D g w A B C:ξ):(#[N,P,L,J,Q,G,O,K,M,H,r,E,h,D,g,w,A,B,C]:Γ)[14]? =V g:=rfl
theorem S5 (N P L J Q G O K M H r E h D A g w B C:ξ):(#[N,P,L,J,Q,G,O,K,M,H,r,E,h,D,A,g,w,B,C]:Γ)[15]? =V g:=rfl
theorem S6 (N P L J Q G O K M H r E h D A w g B C:ξ):(#[N,P,L,J,Q,G,O,K,M,H,r,E,h,D,A,w,g,B,C]:Γ)[16]? =V g:=rfl
theorem KG {s:Sl} {P Q:Nat->Bool} {g n:Nat} {e:Bool} {i:Nat} (hi:i<8):(bK s P Q g n e)[1+i]? =V (cX (wd P i))/\(bK s P Q g n e)[9+i]? =V (cX (wd Q i)):=by
 have:i=0\/i=1\/i=2\/i=3\/i=4\/i=5\/i=6\/i=7:=by omega
 unfold bK;rcases this with rfl|rfl|rfl|rfl|rfl|rfl|rfl|rfl
 ·exact ⟨qef _ _ _ _ _ _ _ _ _ _ _ _ _ _ _ _ _ _ _,qfE _ _ _ _ _ _ _ _ _ _ _ _ _ _ _ _ _ _ _⟩
 ·exact ⟨qeg _ _ _ _ _ _ _ _ _ _ _ _ _ _ _ _ _ _ _,SX _ _ _ _ _ _ _ _ _ _ _ _ _ _ _ _ _ _ _⟩
 ·exact ⟨qeh _ _ _ _ _ _ _ _ _ _ _ _ _ _ _ _ _ _ _,SY _ _ _ _ _ _ _ _ _ _ _ _ _ _ _ _ _ _ _⟩
 ·exact ⟨qfz _ _ _ _ _ _ _ _ _ _ _ _ _ _ _ _ _ _ _,SZ _ _ _ _ _ _ _ _ _ _ _ _ _ _ _ _ _ _ _⟩
 ·exact ⟨qfA _ _ _ _ _ _ _ _ _ _ _ _ _ _ _ _ _ _ _,S3 _ _ _ _ _ _ _ _ _ _ _ _ _ _ _ _ _ _ _⟩
 ·exact ⟨qfB _ _ _ _ _ _ _ _ _ _ _ _ _ _ _ _ _ _ _,S4 _ _ _ _ _ _ _ _ _ _ _ _ _ _ _ _ _ _ _⟩
 ·exact ⟨qfC _ _ _ _ _ _ _ _ _ _ _ _ _ _ _ _ _ _ _,S5 _ _ _ _ _ _ _ _ _ _ _ _ _ _ _ _ _ _ _⟩
 ·exact ⟨qfD _ _ _ _ _ _ _ _ _ _ _ _ _ _ _ _ _ _ _,S6 _ _ _ _ _ _ _ _ _ _ _ _ _ _ _ _ _ _ _⟩
theorem KH {F:PH} {bm:Nat} {s:Sl} {P Q:Nat->Bool} {r n:Nat} {e:Bool} (h:F bm=V (Y (bK s P Q r n e) 305)):F.row ((oB bm 0 I).add 1) (pq P)/\F.row ((oB bm 0 I).add 9) (pq Q):=by
 constructor
 ·intro i hi;have g:i<8:=hi;rw [cz,cz,av h,<- Wv hi,eZ P g,x9];exact (KG g).1
 ·intro i hi;have g:i<8:=hi;rw [cz,cz,av h,<- Wv hi,eZ Q g,x9];exact (KG g).2
theorem KI {F:PH} {B n i:Nat} {R:Nat->Nat->Bool} (h:F B=V (Y (dc n R).toArray 302)) (hi:i<n):F.row ((oB B 0 I).add (i*8)) (pq (R i)):=by
 obtain ⟨A,g,r,w,_⟩:=oW hi R;have C:kq F B 302 A (R i) g:=by unfold kq;rw [<- w];exact h
 have:=C.row;rw [r] at this;rw [cz,x9];exact this
theorem aay {F:PH} {s:Sl} {l:List Nd} (h:RdS F s 5 (dF l)) {i:Nat} {x:Nd} (w:l[i]? =V x):∃a,s.qa5=V a/\F.row (a.add (i*5)) x.arr/\F.cell ((a.add (i*5)).add 1)=V (U x.lo)/\F.cell ((a.add (i*5)).add 2)=V (U x.hi):=by obtain ⟨a,r,g⟩:=Xl h w;exact ⟨a,r,g,by have:=g 1 (by simp);simpa using this,by have:=g 2 (by simp);simpa using this⟩
theorem Lo.sub {G F:PH} {xs r:List (Nat×Γ×TypeId)} (h:Lo G F xs) (g:r.Sublist xs):Lo G F r:=⟨h.le,λp w=>h.z p (g.subset w),h.nd.sublist (g.map _)⟩
section
variable {G F:PH} {l:List Nd} {t:Lt} {bm b3 b4 b6 b7 b8 b9 n:Nat} {st:ο} {N P8 P9:Nat->Bool}
theorem GG (hM:Mch G bm l t) (hl:l.length<=512) (h:Lo G F [(b9,pq P9,302),(b8,pq P8,302),(b7,#[U n],3),(b6,pq N,302),(b4,#[.string st],9),(b3,#[pa bm],299)]) (hn:n<st.size) (_:st.size<=9223372036854775807) {i:Nat} (hi:i<l.length):
  ν 238 #[U i,pa b4,pa b7,pa b3,pa b8,pa b9] F λr E=>r=.tuple #[]/\
   Lo G E [(b9,pq (λj=>P9 j || (xH l (cb st n) i && yY t i j)),302),(b8,pq (λj=>P8 j || (decide (j=i) && xH l (cb st n) i)),302),(b7,#[U n],3),(b6,pq N,302),(b4,#[.string st],9),(b3,#[pa bm],299)]:=by
 obtain ⟨s,bf,qm,hs,qf⟩:=(hM.le h.le).ex;have a2:=hs.nlen;refine qez ?_;unfold Qy;have B:l[i]? =V l[i]:=N5 hi;generalize l[i]=x at B;obtain ⟨a,ha,_,a1,H⟩:=aay hs B;have c3:F.cell (oB b3 0 I)=V (pa bm):=by rw [h.cell (b:=b3) (w:= #[pa bm]) (e:=299) (by simp)];rfl
 have cm:F.cell (oB bm 0 I)=V s.v:=by rw [av qm];rfl
 have J:nX (i:Int)=i:=N4 i;refine ⟨_,rfl,st,by rw [h.cell (b:=b4) (w:= #[.string st]) (e:=9) (by simp)];rfl,_,rfl,(n:Int),by rw [h.cell (b:=b7) (w:= #[U n]) (e:=3) (by simp)];rfl,by omega,by omega,by simpa using hn,_,rfl,_,rfl,_,c3,_,rfl,s,cm,a,ha,by omega,by omega,x.lo,by rw [J];exact a1,?_⟩;rw [SJ rfl hn,YA (by have:=Np st n;omega)]
 have j1:∀O:Bool,O=xH l (cb st n) i->qB i (V ⟨b3,0,I⟩) (V ⟨b8,0,I⟩) (V ⟨b9,0,I⟩) O (λr E=>r=.tuple #[]/\
   Lo G E [(b9,pq (λj=>P9 j || (xH l (cb st n) i && yY t i j)),302),(b8,pq (λj=>P8 j || (decide (j=i) && xH l (cb st n) i)),302),(b7,#[U n],3),(b6,pq N,302),(b4,#[.string st],9),(b3,#[pa bm],299)]) F:=λO A=>by
  unfold qB;refine ⟨λW=> ?_,λW=> ?_⟩
  ·rw [W] at A;rw [<- A];refine (Lo.add [(b9,pq P9,302)] _ (b:=b8) (P:=P8) (by omega) h).mono ?_;rintro _ F2 ⟨rfl,g⟩;replace g:Lo G F2 [(b9,pq P9,302),(b8,pq (λj=>P8 j || decide (j=i)),302),(b7,#[U n],3),(b6,pq N,302),(b4,#[.string st],9),(b3,#[pa bm],299)]:=g;obtain ⟨s2,a5,a0,a3,X⟩:=(hM.le g.le).ex;have K:F2.cell (oB b3 0 I)=V (pa bm):=by rw [g.cell (b:=b3) (w:= #[pa bm]) (e:=299) (by simp)];rfl
   refine ⟨rfl,_,rfl,_,K,_,rfl,_,by rw [cz,x9,av a0];rfl,_,rfl,by omega,by simp only;omega,pq (yY t i),rfl,by rw [J];exact KI X hi,?_⟩;refine (Lo.join [] _ (b:=b9) (P:=P9) (Q:=yY t i) g).mono ?_;rintro _ F3 ⟨rfl,h3⟩;have M:(λj=>P9 j || (nk && yY t i j))=λj=>P9 j || yY t i j:=by funext j;simp
   have L:(λj=>P8 j || (decide (j=i) && nk))=λj=>P8 j || decide (j=i):=by funext j;simp
   rw [M,L];exact ⟨rfl,rfl,h3⟩
  ·rw [W] at A;rw [<- A];have M:(λj=>P9 j || (mD && yY t i j))=P9:=by funext j;simp
   have L:(λj=>P8 j || (decide (j=i) && mD))=P8:=by funext j;simp
   rw [M,L];exact ⟨rfl,h⟩
 refine ⟨λD=>⟨_,c3,_,rfl,s,cm,a,ha,by omega,by omega,x.hi,by rw [J];exact H,j1 _ ?_⟩,λD=>j1 _ ?_⟩
 ·rw [wm,δ,ni];constructor
  ·exact λg=>⟨x,B,D,g⟩
  ·rintro ⟨y,C,_,g⟩;rw [B] at C;cases C;exact g
 ·symm;rw [<- Ym,ni];rintro ⟨y,C,g,_⟩;rw [B] at C;cases C;exact D g
theorem S7:aF prog 238=nk:=by kernel_rfl
theorem KJ {g fol:Nat->Nat->Prop} {P:Nat->Prop} (r:∀i j,fol i j->P j):∀(w:Δ) (S:Nat->Prop),(∀j,S j->P j)->∀j,Nx g fol S w j->P j
 |[],_,hS,j,h=>hS j h
 |_::w,_,_,j,h=>KJ r w _ (λj ⟨i,_,_,h⟩=>r i j h) j h
theorem tj {l:List Nd} {r:Nat} {t:Lt} {ns:Δ} (g:cP l r t ns) {w:Δ} {j:Nat} (h:mY l t w j):j<l.length:=
 KJ (P:=λj=>j<l.length) (λ_ j h=>(dH g).1 j ((dH g).2 j (t.fol_lab h).2)) w t.first (λj h=>(dH g).1 j ((dH g).2 j (t.first_lab h))) j h
theorem KL {l:List Nd} {t:Lt} (w:Δ) (b j:Nat):mY l t (w++[b]) j↔∃i,mY l t w i/\mX l i b/\t.fol i j:=Fm w b _ j
theorem Lo.le' {G F g:PH} {xs:List (Nat×Γ×TypeId)} (h:Lo G F xs) (r:F.le g):Lo G g xs:=⟨aa h.le r,λp w=>⟨r _ _ (h.z p w).1,(h.z p w).2⟩,h.nd⟩
open Classical in
def XN (l:List Nd) (t:Lt) (w:Δ) (b m:Nat):Nat->Bool:=λj=>decide (j<m/\mY l t w j/\mX l j b)
theorem jQ {l:List Nd} {t:Lt} {w:Δ} {b m j:Nat}:XN l t w b m j=nk↔j<m/\mY l t w j/\mX l j b:=by simp [XN]
open Classical in
def XH (l:List Nd) (t:Lt) (w:Δ) (b m:Nat):Nat->Bool:=λj=>decide (∃i,i<m/\mY l t w i/\mX l i b/\t.fol i j)
theorem jR {l:List Nd} {t:Lt} {w:Δ} {b m j:Nat}:XH l t w b m j=nk↔∃i,i<m/\mY l t w i/\mX l i b/\t.fol i j:=by simp [XH]
set_option maxHeartbeats 1000000 in
theorem KM {k:FuncId} {cap:Γ} {Inv:Nat->Ψ} (hk:aF prog k=nk) (hl:l.length<=512) (hG:GoodL l) {ns:Δ} {i0:Nat} (ht:cP l i0 t ns) (c8:st.size<=9223372036854775806)
  (hI:∀n F,Inv n F->Tab F/\Mch F bm l t)
  (D:∀n F (q:Bool),n<st.size->(q=nk↔Lg t.pat ((bs st).take (n+1)))->Inv n F->aj prog k (#[U ((n+1:Nat):Int),.bool q]++cap) F λr A=>r=.bool nk/\Inv (n+1) A) (hF:Inv 0 F):
  ν 206 #[pa bm,.string st,.func (.func k) #[] cap] F λr A=>r=.tuple #[]/\∃n G,n<=st.size/\Inv n G/\G.le A/\(n=st.size\/∀m,n<m->m<=st.size->¬Lg t.pat ((bs st).take m)):=by
 have a1:=GF hG ht;refine qer ?_;unfold Qp;have h:=Lo.start F;refine h.new _ _ λb3 F1 h=> ?_;refine h.new _ _ λb4 F2 h=> ?_;obtain ⟨s,bf,qm,hs,qf⟩:=((hI 0 F hF).2.le h.le).ex;refine ⟨_,by rw [h.cell (b:=b3) (w:= #[pa bm]) (e:=299) (by simp)];rfl,_,rfl,pq (fB t),rfl,(KH qm).1,?_⟩;refine h.new _ _ λb6 F3 h=> ?_;rw [<- dG] at h;refine Lo.put [] _ (n:=8) (b:=b6) (w0:=pq noP) (w:=pq (fB t)) (e:=302) h rfl rfl (fW _) λF4 h=> ?_;replace h:Lo F F4 [(b6,pq (fB t),302),(b4,#[.string st],9),(b3,#[pa bm],299)]:=h;have e0:fB t=px l t ((bs st).take 0):=by funext j;rw [wm,dN,mZ];rfl
 rw [e0] at h;refine ⟨st,by rw [h.cell (b:=b4) (w:= #[.string st]) (e:=9) (by simp)];rfl,λM v A=>∃n G,v=((n:Nat):Int)/\n<=st.size/\M=st.size - n/\Inv n G/\Lo G A [(b6,pq (px l t ((bs st).take n)),302),(b4,#[.string st],9),(b3,#[pa bm],299)],st.size,⟨0,F,rfl,yA _,rfl,hF,h⟩,?_⟩;clear h qm hs qf e0;rintro _ _ F5 ⟨n,G,rfl,hn,rfl,a0,h⟩;unfold EO;refine ⟨λO=> ?_,λb5=>⟨rfl,n,G,hn,a0,h.le,.inl (by omega)⟩⟩;have O:n<st.size:=by omega
 have C:n<(bs st).length:=by rw [de];exact O
 have a2:cb st n=(bs st)[n]:=by rw [Kl,QX,N5 C];rfl
 refine h.new _ _ λb7 F6 h=> ?_;refine Lo.put1 [] _ (b:=b7) (i:=0) (w0:= #[U 0]) (w:= #[U n]) (e:=3) h (by simp) rfl λF7 h=> ?_;replace h:Lo G F7 [(b7,#[U n],3),(b6,pq (px l t ((bs st).take n)),302),(b4,#[.string st],9),(b3,#[pa bm],299)]:=h;refine h.new _ _ λb8 F8 h=> ?_;refine h.new _ _ λb9 F9 h=> ?_;rw [<- dG] at h;obtain ⟨hT,hM⟩:=hI n G a0
 refine (uK (a:=⟨b6,0,I⟩) (P:=px l t ((bs st).take n)) (k:=238) (cap:= #[pa b4,pa b7,pa b3,pa b8,pa b9])
  (Inv:=λm A=>Lo G A [(b9,pq (XH l t ((bs st).take n) (cb st n) m),302),(b8,pq (XN l t ((bs st).take n) (cb st n) m),302),(b7,#[U n],3),(b6,pq (px l t ((bs st).take n)),302),(b4,#[.string st],9),(b3,#[pa bm],299)])
  S7 rfl (λm A E=>⟨hT.le E.le,E.row (b:=b6) (w:=pq (px l t ((bs st).take n))) (e:=302) (by simp)⟩) ?_ ?_ ?_).mono ?_
 ·intro i A hi hp E;have H:¬mY l t ((bs st).take n) i:=λh=>by rw [mZ.2 h] at hp;cases hp
  have e9:XH l t ((bs st).take n) (cb st n) (i+1)=XH l t ((bs st).take n) (cb st n) i:=by
   funext j;rw [wm,jR,jR];constructor
   ·rintro ⟨J,D,g,B⟩;have:J≠i:=λe=>H (e▸g);exact ⟨J,by omega,g,B⟩
   ·rintro ⟨J,D,g,B⟩;exact ⟨J,by omega,g,B⟩
  have e8:XN l t ((bs st).take n) (cb st n) (i+1)=XN l t ((bs st).take n) (cb st n) i:=by
   funext j;rw [wm,jQ,jQ];constructor
   ·rintro ⟨D,g,B⟩;have:j≠i:=λe=>H (e▸g);exact ⟨by omega,g,B⟩
   ·rintro ⟨D,g,B⟩;exact ⟨by omega,g,B⟩
  rw [e9,e8];exact E
 ·intro i A hi hp E;have H:=mZ.1 hp;have b1:=tj ht H;refine (GG hM hl E O (by omega) b1).mono ?_;rintro _ c2 ⟨rfl,g⟩;refine ⟨rfl,?_⟩;have e9:(λj=>XH l t ((bs st).take n) (cb st n) i j || (xH l (cb st n) i && yY t i j))=XH l t ((bs st).take n) (cb st n) (i+1):=by
   funext j;rw [wm,Xa,VT,jR,jR,ni,jO];constructor
   ·rintro (⟨J,D,g⟩|⟨D,g⟩)
    ·exact ⟨J,by omega,g⟩
    ·exact ⟨i,by omega,H,D,g⟩
   ·rintro ⟨J,D,g,B⟩;by_cases e:J=i
    ·subst e;exact .inr B
    ·exact .inl ⟨J,by omega,g,B⟩
  have e8:(λj=>XN l t ((bs st).take n) (cb st n) i j || (decide (j=i) && xH l (cb st n) i))=XN l t ((bs st).take n) (cb st n) (i+1):=by
   funext j;rw [wm,Xa,VT,jQ,jQ,δ,ni];constructor
   ·rintro (⟨D,g⟩|⟨D,g⟩)
    ·exact ⟨by omega,g⟩
    ·subst D;exact ⟨by omega,H,g⟩
   ·rintro ⟨D,g,B⟩;by_cases e:j=i
    ·subst e;exact .inr ⟨rfl,B⟩
    ·exact .inl ⟨by omega,g,B⟩
  rw [e9,e8] at g;exact g
 ·have e9:XH l t ((bs st).take n) (cb st n) 0=noP:=by funext j;show _=mD;rw [<- Ym,jR];rintro ⟨i,h,_⟩;omega
  have e8:XN l t ((bs st).take n) (cb st n) 0=noP:=by funext j;show _=mD;rw [<- Ym,jQ];rintro ⟨h,_⟩;omega
  rw [e9,e8];exact h
 ·clear h;rintro _ c5 ⟨rfl,h⟩;generalize b2:XN l t ((bs st).take n) (cb st n) 512=K at h;generalize a7:XH l t ((bs st).take n) (cb st n) 512=X at h;have L:∀j,K j=nk↔mY l t ((bs st).take n) j/\mX l j (cb st n):=λj=>by rw [<- b2,jQ];exact ⟨λh=>h.2,λh=>⟨by have:=tj ht h.1;omega,h⟩⟩
  have a3:X=px l t ((bs st).take (n+1)):=by
   rw [<- a7];funext j;rw [wm,jR,mZ,jP C,KL,<- a2];constructor
   ·rintro ⟨J,_,g⟩;exact ⟨J,g⟩
   ·rintro ⟨J,g⟩;exact ⟨J,by have:=tj ht g.1;omega,g⟩
  refine ⟨rfl,pq K,rfl,h.row (b:=b8) (w:=pq K) (e:=302) (by simp),_,λF=>by have:=aax (F:=F) K noP;rw [dG] at this;exact this,λhz=> ?_,λhz=> ?_⟩
  ·have a9:=(GE K).1 hz;refine ⟨rfl,n,G,hn,a0,h.le,.inr λm hm a8=>KE a1 C (λj hj=> ?_) hm (by rw [de];exact a8)⟩;rw [<- a2] at hj;have:=a9 j (by have:=tj ht hj.1;omega);rw [(L j).2 hj] at this;cases this
  ·obtain ⟨s,bf,qm,hs,qf⟩:=(hM.le h.le).ex;have c7:∀{A G':PH},Lo G' A [(b9,pq X,302),(b8,pq K,302),(b7,#[U n],3),(b6,pq (px l t ((bs st).take n)),302),(b4,#[.string st],9),(b3,#[pa bm],299)]->A.cell (oB b7 0 I)=V (U n):=λh=>by rw [h.cell (b:=b7) (w:= #[U n]) (e:=3) (by simp)];rfl
   have c3:∀{A G':PH},Lo G' A [(b9,pq X,302),(b8,pq K,302),(b7,#[U n],3),(b6,pq (px l t ((bs st).take n)),302),(b4,#[.string st],9),(b3,#[pa bm],299)]->A.cell (oB b3 0 I)=V (pa bm):=λh=>by rw [h.cell (b:=b3) (w:= #[pa bm]) (e:=299) (by simp)];rfl
   refine ⟨_,c7 h,_,c3 h,_,rfl,pq (lB t),rfl,(KH qm).2,?_⟩;refine (qih (pre:=[]) (post:=[]) (Q:=lB t) (kq.own.2 (h.get (b:=b8) (w:=pq K) (e:=302) (by simp)))).mono ?_;rintro _ c6 ⟨⟨q,rfl,hq⟩,b0⟩;have h:=h.le' b0;have a6:q=nk↔Lg t.pat ((bs st).take (n+1)):=by
    rw [hq,jP C,Fp a1,<- a2];constructor
    ·rintro ⟨i,_,g,B⟩;obtain ⟨h4,h5⟩:=(L i).1 g;exact ⟨i,h4,h5,di.1 B⟩
    ·rintro ⟨i,h4,h5,B⟩;exact ⟨i,by have:=tj ht h4;omega,(L i).2 ⟨h4,h5⟩,di.2 B⟩
   refine ⟨q,rfl,c3 h,c7 h,h.row (b:=b8) (w:=pq K) (e:=302) (by simp),k,#[],cap,rfl,hk,?_⟩;have W:=h.call (D n G q O a6 a0);rw [fo (by omega)];refine aj.mono (R:=λr A=>∃G',(r=.bool nk/\Inv (n+1) G')/\Lo G' A _) (by simpa using W) ?_;clear W h;rintro _ c4 ⟨G',⟨rfl,a4⟩,h⟩;refine ⟨nk,rfl,c3 h,c7 h,h.row (b:=b8) (w:=pq K) (e:=302) (by simp),λhh=>by simp at hh,λ_=>⟨pq X,rfl,h.row (b:=b9) (w:=pq X) (e:=302) (by simp),?_⟩⟩;refine Lo.put [(b9,pq X,302),(b8,pq K,302),(b7,#[U n],3)] _ (n:=8) (b:=b6) (w0:=pq (px l t ((bs st).take n))) (w:=pq X) (e:=302) h rfl rfl (fW _) λa5 h=> ?_;replace h:Lo G' a5 [(b9,pq X,302),(b8,pq K,302),(b7,#[U n],3),(b6,pq X,302),(b4,#[.string st],9),(b3,#[pa bm],299)]:=h;rw [a3] at h;exact ⟨st.size - (n+1),by omega,n+1,G',rfl,O,rfl,a4,h.sub (.cons _ (.cons _ (.cons _ (List.Sublist.refl _))))⟩
end
end
