/-
  The diagrams: how memory represents them; the level of a number, the two sides, equality.
-/
import Derived.Test.YtenpmjhnhepfdaaGreatDoorPhx
import Derived.Test.YtenpmjhnhepfdaaGreatDoorPhp
import Derived.Test.YtenpmjhnhepfdaaGreatDoorPhn
namespace Go.Proofs.YtenpmjhnhepfdaaGreatDoor.Rx
open Go
section
variable {P:Program} {n:Nat} {σ σ0:Sy} {E:En} {F:PH} {K:CK}
theorem fN {c:Code} {Q Q':Exit->En->Ψ} (h:HC P n c Q E F) (k:∀x E F,Q x E F->Q' x E F):HC P n c Q' E F:=λe a w ag st=>
 wp_mono (h e a w ag st) λ_ _ _ ⟨E',F',ag',st',q⟩=>⟨E',F',ag',st',k _ _ _ q⟩
theorem Rel.hav (r:Rel σ E) {M:Δ} {E':En} (fr:Fr M E E'):Rel (σ.hav M) E':=by
 refine ⟨λt=> ?_,r.top⟩;show okV σ.T (bif oC M t then .unk else σ.S t) (E' t);cases hm:oC M t with
 |true=>exact True.intro
 |false=>rw [fr t hm];exact r.val t
theorem vg {t:Nat} {k:Kd} {J:k.T->Prop} (h:pay (σ.vw t) k J) (r:Rel σ E):∃x,E t=k.v x/\J x/\∀J':k.T->Prop,J' x->pay (σ.vw t) k J':=by
 cases k<;>simp only [pay] at h ⊢
 case int k=>
  split at h
  ·rename_i k' x hw;split at h
   ·rename_i hk;obtain rfl:=of_decide_eq_true hk;exact ⟨x,cP r hw rfl,h,λJ' h'=>h'⟩
   ·exact h.elim
  ·exact h.elim
 case bool=>
  split at h
  ·rename_i b hw;exact ⟨b,cP r hw rfl,h,λ_ h'=>h'⟩
  ·rename_i i b hw;exact ⟨b,cP r hw rfl,h,λ_ h'=>h'⟩
  ·rename_i i p d hw;exact ⟨_,cP r hw rfl,h,λ_ h'=>h'⟩
  ·exact h.elim
 case ptr=>
  split at h
  ·rename_i a hw;exact ⟨some a,cP r hw rfl,h,λ_ h'=>h'⟩
  ·rename_i i p hw;exact ⟨p,cP r hw rfl,h,λ_ h'=>h'⟩
  ·rename_i p hw;exact ⟨p,cP r hw rfl,h,λ_ h'=>h'⟩
  ·exact h.elim
 case sl=>
  split at h
  ·rename_i b l c hw;exact ⟨⟨b,l,c⟩,cP r hw rfl,h,λ_ h'=>h'⟩
  ·exact h.elim
 case str=>
  split at h
  ·rename_i s hw;exact ⟨s,cP r hw rfl,h,λ_ h'=>h'⟩
  ·exact h.elim
 case map=>
  split at h
  ·rename_i s hw;exact ⟨s,cP r hw rfl,h,λ_ h'=>h'⟩
  ·exact h.elim
 case agg=>
  split at h
  ·rename_i s hw;exact ⟨s,cP r hw rfl,h,λ_ h'=>h'⟩
  ·exact h.elim
 case any=>
  split at h
  ·rename_i v hw;exact ⟨v,cP r rfl hw,h,λ_ h'=>h'⟩
  ·exact h.elim
theorem GG (r:Rel σ0 E) {t:Nat} {k:Kd} {x:k.T} (hx:E t=k.v x):Rel (σ0.put t (k.nv x)) E:=by have:=r.put (d:=t) (qU (T:=σ0.T) k x);rw [xY hx] at this;exact this
theorem BQ {f:Sy->Ψ} (r:Rel σ E):∀(l:List (Nat×Kd)) {J:Tl l} {σ0:Sy},Pg f l J σ0->Rel σ0 E->jap σ l J F->∃σ',Rel σ' E/\f σ' F
 |[],J,σ0,h,r0,hj=>⟨σ0,r0,h F hj⟩
 | (t,k)::l,J,σ0,h,r0,hj=>by obtain ⟨x,hx,hj,_⟩:=vg hj r;exact BQ r l (h x) (GG r0 hx) hj
theorem zo {f:Sy->Ψ} (r:Rel σ E):∀(l:List (Nat×Kd)) {σ0:Sy},Rel σ0 E->jap σ l (jbd f l σ0) F->∃σ',Rel σ' E/\f σ' F
 |[],σ0,r0,hj=>⟨σ0,r0,hj⟩
 | (t,k)::l,σ0,r0,hj=>by obtain ⟨x,hx,hj,_⟩:=vg hj r;exact zo r l (GG r0 hx) hj
theorem BR (r:Rel σ E):∀(l:List (Nat×Kd)) {J Y:Tl l},Ph l J Y->jap σ l J F->jap σ l Y F
 |[],J,Y,h,hj=>h F hj
 | (t,k)::l,J,Y,h,hj=>by obtain ⟨x,hx,hj,hp⟩:=vg hj r;exact hp _ (BR r l (h x) hj)
theorem GH (r:Rel σ E):∀(l:List (Nat×Kd)) {I:Nat->Tl l} {m:Nat},jap σ l (jdn l I m) F->∃m',m'<m/\jap σ l (I m') F
 |[],I,m,h=>h
 | (t,k)::l,I,m,h=>by obtain ⟨x,hx,hj,hp⟩:=vg h r;obtain ⟨m',hm,hj⟩:=GH r l hj;exact ⟨m',hm,hp _ hj⟩
theorem vj {f:Sy->Ψ} (h:jP K):jP (onN f K):=h
theorem O5 {id:Nat} (h:jP K):jP (onX id K):=h
theorem lN:∀(c:Code) (h:iP) (K:CK) (σ:Sy) (E:En) (F:PH),jP K->sx P n c h K σ F->Rel σ E->HC P n c (QK (jf c) E K) E F
 | .skip,_,K,σ,E,F,_,h,r=>Kt ⟨⟨σ,r,h⟩,.refl⟩
 | .ret,_,K,σ,E,F,_,h,r=>PD ⟨⟨σ,r,h⟩,.refl⟩
 | .exit i,_,K,σ,E,F,_,h,r=>Ku ⟨⟨σ,r,h⟩,.refl⟩
 | .region id ⟨ops⟩ false,_,K,σ,E,F,hK,h,r=>Es (zt ops σ E F (λo ho t ht=>xK ho ht) .refl h r)
 | .region id ops true,_,K,σ,E,F,hK,h,r=>by unfold sx at h;obtain ⟨hm,h⟩:=eV h;exact Kz hm (kC hK (λo ho t ht=>xK ho ht) _ _ _ _ _ _ _ _ .refl .nil MH h r)
 | .seq a b,hh,K,σ,E,F,hK,h,r=>by
  have other:∀{f:Sy->Ψ} (x:Exit) (E':En) (F':PH),x≠.normal->QK (jf a) E (onN f K) x E' F'->QK (jf (.seq a b)) E K x E' F':=by intro f x E' F' hx ⟨⟨σ',r',h'⟩,fr⟩;refine ⟨⟨σ',r',?_⟩,fr.left⟩;cases x<;>first|exact absurd rfl hx|exact h'
  have thn:∀{σ':Sy} {E':En} {F':PH},Fr (jf a) E E'->Rel σ' E'->sx P n b hh.snd K σ' F'->HC P n b (QK (jf (.seq a b)) E K) E' F':=by intro σ' E' F' fr r' h';exact fN (lN b _ K σ' E' F' hK h' r') λx E'' F'' ⟨h1,fr'⟩=>⟨h1,fr.left.trans fr'.right⟩
  unfold sx at h;split at h
  ·refine zO (fN (lN a _ _ σ E F (vj hK) h r) λx E' F' q=> ?_);cases x with
   |normal=>obtain ⟨⟨σ',r',h'⟩,fr⟩:=q;exact thn fr r' h'
   |_=>exact other _ _ _ (by intro e;cases e) q
  ·rename_i l _;refine zO (fN (lN a _ _ σ E F (vj hK) h r) λx E' F' q=> ?_);cases x with
   |normal=>obtain ⟨⟨σ',r',h'⟩,fr⟩:=q;obtain ⟨σ2,r2,h2⟩:=zo r' l (r.hav fr) h';exact thn fr r2 h2
   |_=>exact other _ _ _ (by intro e;cases e) q
  ·rename_i l _;obtain ⟨J,hJ,h⟩:=h;refine zO (fN (lN a _ _ σ E F (vj hK) h r) λx E' F' q=> ?_);cases x with
   |normal=>obtain ⟨⟨σ',r',h'⟩,fr⟩:=q;obtain ⟨σ2,r2,h2⟩:=zo r' l (r.hav fr) (BR r' l hJ h');exact thn fr r2 h2
   |_=>exact other _ _ _ (by intro e;cases e) q
 | .cond c a b,hh,K,σ,E,F,hK,h,r=>by
  have ha:sx P n a hh.fst K σ F->HC P n a (QK (jf (.cond c a b)) E K) E F:=λh=>fN (lN a _ K σ E F hK h r) λx E' F' ⟨h1,fr⟩=>⟨h1,fr.left⟩;have hb:sx P n b hh.snd K σ F->HC P n b (QK (jf (.cond c a b)) E K) E F:=λh=>fN (lN b _ K σ E F hK h r) λx E' F' ⟨h1,fr⟩=>⟨h1,fr.right⟩;unfold sx at h;split at h
  ·rename_i hw;exact Hq (aZ r hw rfl) (ha h)
  ·rename_i hw;exact Hr (aZ r hw rfl) (hb h)
  ·rename_i i t hw;exact o8 (aZ r hw rfl) (λht=>ha (h.1 ht)) (λht=>hb (h.2 ht))
  ·rename_i i p d hw;exact o8 (t:= @decide p d) (aZ r hw rfl) (λht=>ha (h.1 (of_decide_eq_true ht))) (λht=>hb (h.2 (of_decide_eq_false ht)))
  ·exact h.elim
 | .block id c,hh,K,σ,E,F,hK,h,r=>by
  refine Hz (fN (lN c hh _ σ E F (O5 hK) h r) λx E' F' q=> ?_);obtain ⟨⟨σ',r',h'⟩,fr⟩:=q;cases x with
  |exit i=>
   show bif Nat.beq i id then QK _ E K .normal E' F' else QK _ E K (.exit i) E' F'
   have h':bif Nat.beq i id then K .normal σ' F' else K (.exit i) σ' F':=h'
   cases hb:Nat.beq i id<;>rw [hb] at h'<;>exact ⟨⟨σ',r',h'⟩,fr⟩
  |_=>exact ⟨⟨σ',r',h'⟩,fr⟩
 | .loop c,hh,K,σ,E,F,hK,h,r=>by
  obtain ⟨I,m,h0,hr⟩:=h;refine Kv (λm E' F'=>(∃σ',Rel σ' E'/\jap σ' hh.lv (I m) F')/\Fr (jf c) E E') m ⟨⟨σ,r,h0⟩,.refl⟩ ?_;rintro m E' F' ⟨⟨σ',r',hj⟩,fr⟩;obtain ⟨σ2,r2,h2⟩:=BQ r' _ (hr m) (r.hav fr) hj;refine fN (lN c _ _ σ2 E' F' (vj hK) h2 r2) λx E'' F'' q=> ?_;obtain ⟨⟨σ3,r3,h3⟩,fr'⟩:=q;cases x with
  |normal=>obtain ⟨m',hm,hj'⟩:=GH r3 _ h3;exact ⟨m',hm,⟨σ3,r3,hj'⟩,fr.trans fr'⟩
  |_=>exact ⟨⟨σ3,r3,h3⟩,fr.trans fr'⟩
 | .rangeFunc ..,_,_,_,_,_,_,h,_=>h.elim
 | .scope _,_,_,_,_,_,_,h,_=>h.elim
 | .label _,_,_,_,_,_,_,h,_=>h.elim
 | .goto _,_,_,_,_,_,_,h,_=>h.elim
 | .refuse _,_,_,_,_,_,_,h,_=>h.elim
inductive RVs (P:Program) (E:En) (F:PH):List ResultVar->Ξ->Prop
 |nil:RVs P E F [] []
 |cons {r:ResultVar} {v:Value} {l:List ResultVar} {vs:Ξ} (h:kF P E F r v) (t:RVs P E F l vs):RVs P E F (r::l) (v::vs)
theorem jc (r:Rel σ E):∀(l:List ResultVar) {K:Ξ->Prop},qT P σ l F K->∃vs,RVs P E F l vs/\K vs
 |[],K,h=>⟨[],.nil,h⟩
 | .tmp t::l,K,h=>by
  unfold qT at h;split at h
  ·rename_i v hv;obtain ⟨vs,h1,h2⟩:=jc r l h;exact ⟨v::vs,.cons (vF (cP r rfl hv)) h1,h2⟩
  ·exact h.elim
 | .cell x t::l,K,h=>by
  unfold qT at h;split at h
  ·rename_i a hw;split at h
   ·exact h.elim
   ·rename_i d hd;split at h
    ·rename_i hk;split at h
     ·rename_i m b hz;obtain ⟨v,h1,h2,h⟩:=h;obtain ⟨vs,h3,h4⟩:=jc r l h;exact ⟨_,.cons (Hv (cP r hw rfl) hd (vm hk) hz h1 h2) h3,h4⟩
     ·exact h.elim
    ·rename_i hk;obtain ⟨v,h1,h⟩:=h;obtain ⟨vs,h3,h4⟩:=jc r l h;exact ⟨_,.cons (Hw (cP r hw rfl) hd (oT hk) h1) h3,h4⟩
  ·exact h.elim
theorem GI {fn:Func} {vs:Ξ} (h:RVs P E F fn.results.toList vs) (hl:Nat.ble fn.results.size 4=true):ru P fn E F (SD vs):=by
 have hl:=YY hl;have key:∀l,fn.results.toList=l->fn.results=l.toArray:=λl h=>by rw [<- h]
 generalize hg:fn.results.toList=l at h;have hk:=key _ hg;have hlen:l.length<=4:=by rw [<- hg];simpa using hl
 cases h with
 |nil=>exact Wx hk
 |cons h1 t=>
  cases t with
  |nil=>exact SX hk h1
  |cons h2 t=>
   cases t with
   |nil=>exact SY hk h1 h2
   |cons h3 t=>
    cases t with
    |nil=>exact Wy hk h1 h2 h3
    |cons h4 t=>
     cases t with
     |nil=>exact WP hk h1 h2 h3 h4
     |cons h5 t=>simp at hlen
theorem O6 {fn:Func} {R:Value->Ψ} {x:Exit} {M:Δ} {E0:En} (h:QK M E0 (SE P fn R) x E F):Kx P fn R x E F:=by
 obtain ⟨⟨σ,r,h⟩,_⟩:=h;cases x with
 |normal=>obtain ⟨hl,h⟩:=eV h;obtain ⟨vs,h1,h2⟩:=jc r _ h;exact ⟨_,GI h1 hl,h2⟩
 |ret=>obtain ⟨hl,h⟩:=eV h;obtain ⟨vs,h1,h2⟩:=jc r _ h;exact ⟨_,GI h1 hl,h2⟩
 |_=>exact h.elim
theorem qO:∀(vs:Ξ) (ts:List TypeId) (i:Nat) (σ:Sy),(∀j v,vs[j]? =some v->E (i+j)=v)->Rel σ E->Rel (BW P i ts vs σ) E
 |[],ts,i,σ,_,r=>by cases ts<;>exact r
 |v::vs,ts,i,σ,h,r=>by
  have hi:E i=v:=h 0 v rfl;have step:∀k:Kd,Rel (σ.put i (ofk k v)) E:=λk=>by have:=r.put (d:=i) (Ha (T:=σ.T) k v);rw [xY hi] at this;exact this
  have hn:∀j u,vs[j]? =some u->E (i+1+j)=u:=λj u hj=>by have:=h (j+1) u (by simpa using hj);rw [show i+1+j=i+(j+1) by omega];exact this
  cases ts with
  |nil=>exact qO vs [] (i+1) _ hn (step _)
  |cons t ts=>exact qO vs ts (i+1) _ hn (step _)
theorem O7 {k:Nat} {h:iP} {args:Ξ} {R:Value->Ψ} (hs:sxF P k h args R F):ae P k args.toArray F R:=by
 unfold sxF at hs;split at hs
 ·exact hs.elim
 ·rename_i fn hf;split at hs
  ·exact hs.elim
  ·rename_i c hb;obtain ⟨hl,hs⟩:=eV hs;refine Ky hf hb rfl hl (fN (lN c h _ _ (PC args) F (λc σ F h=>h) hs (qO args _ 0 _ (λj v hj=> ?_) ⟨λt=>True.intro,λj _=>rfl⟩)) λx E F q=>O6 q);simp only [XZ];show args.getD j undef=v;rw [XQ,hj];rfl
theorem sxC {k:Nat} (h:iP) {args:Ξ} {R:Value->Ψ} {b:Prop} (e:b=sxF P k h args R F) (hb:b):ae P k args.toArray F R:=O7 (e▸hb)
end
end Go.Proofs.YtenpmjhnhepfdaaGreatDoor.Rx
namespace Go.Proofs.YtenpmjhnhepfdaaGreatDoor
open Go.IntKind (i64 u8 u64)
open Go Go.Proofs.Tryz
abbrev Am (b o:Nat):Addr:=Addr.mk b o none
abbrev Pp (b:Nat):Value:=.pointer (some (Am b 0))
abbrev vi (n:Int):Value:=.int .i64 n
abbrev Sb (b n:Nat):Sl:=Sl.mk (some (Am b 0)) n n
abbrev zG:Γ:= #[.slice none 0 0,.slice none 0 0,.int .i64 0,.slice none 0 0,.slice none 0 0,.slice none 0 0,.int .i64 0,.slice none 0 0,.slice none 0 0]
abbrev zP:Γ:= #[.string ⟨#[]⟩,.int .i64 0,.slice none 0 0,.slice none 0 0,.int .i64 0,.bool false,.int .i64 0,.slice none 0 0,.bool false,.int .i64 0,.int .i64 0,.int .i64 0,.int .i64 0]
abbrev zT:Γ:= #[.string ⟨#[]⟩,.int .i64 0,.string ⟨#[]⟩,.slice none 0 0,.string ⟨#[]⟩,.slice none 0 0,.int .i64 0]
abbrev zF:Γ:= #[.int .i64 0,.int .i64 0,.int .i64 0,.int .i64 0,.int .i64 0,.int .i64 0,.slice none 0 0,.slice none 0 0,.int .i64 0]
abbrev zL:Γ:= #[.slice none 0 0,.int .i64 0,.slice none 0 0,.int .i64 0]
abbrev zD:Γ:= #[.slice none 0 0,.int .i64 0]
section
variable (F:PH) (a:Addr)
abbrev Rr (n:Nat) (a:Addr) (R:VR) (F:PH):Prop:=∃v:Γ,v.size=n/\F.row a v/\R (.agg v) F
abbrev Lr (n:Nat) (a:Addr) (K:Γ->Prop):Prop:=∃v:Γ,v.size=n/\F.row a v/\K v
abbrev Li (K:Int->Prop):Prop:=∃v:Int,F.cell a=some (.int .i64 v)/\K v
abbrev Lk (k:IntKind) (a:Addr) (K:Int->Prop):Prop:=∃v:Int,F.cell a=some (.int k v)/\K v
abbrev Lq (K:Θ->Prop):Prop:=∃v:Θ,F.cell a=some (.pointer v)/\K v
abbrev Ls (K:Sl->Prop):Prop:=∃v:Sl,F.cell a=some (Sl.v v)/\K v
abbrev Lb (K:Bool->Prop):Prop:=∃v:Bool,F.cell a=some (.bool v)/\K v
abbrev Lx (K:ByteArray->Prop):Prop:=∃v:ByteArray,F.cell a=some (.string v)/\K v
end
abbrev Ix (s:Sl) (i:Int) (K:Addr->Prop):Prop:=∃a:Addr,s.base=some a/\0<=i/\i<(s.len:Int)/\K a
abbrev Fn (f:Value) (K:Nat->Γ->Γ->Prop):Prop:=∃(k:Nat) (fst cap:Γ),f=.func (.func k) fst cap/\aB prog k=true/\K k fst cap
section
variable (k:Nat) (ar:Γ) (F:PH)
abbrev Ap (K:Sl->Ψ):Prop:=aG prog (Builtin.append_ #[k,k] k ar) F λv F=>∃x:Sl,v=Sl.v x/\K x F
abbrev Ca (K:Γ->Ψ):Prop:=ae prog k ar F λv F=>∃x:Γ,v=.agg x/\K x F
abbrev Ci (K:Ω):Prop:=ae prog k ar F λv F=>∃x:Int,v=.int .i64 x/\K x F
abbrev Cbo (K:Bool->Ψ):Prop:=ae prog k ar F λv F=>∃x:Bool,v=.bool x/\K x F
abbrev Cs (K:Sl->Ψ):Prop:=ae prog k ar F λv F=>∃x:Sl,v=Sl.v x/\K x F
abbrev Cx (K:ByteArray->Ψ):Prop:=ae prog k ar F λv F=>∃x:ByteArray,v=.string x/\K x F
abbrev Cu (K:Ψ):Prop:=ae prog k ar F λv F=>v=Value.tuple #[]/\K F
end
abbrev Nb (F:PH) (o:Obj) (K:Nat->Ψ):Prop:=∀b,F b=none->atF (F.set b o) (K b)
abbrev Bc (c A B:Prop):Prop:=(c->A)/\(¬c->B)
abbrev Bb (c:Bool) (A B:Prop):Prop:=(c=true->A)/\(c=false->B)
abbrev Lp {α:Type} (x:α) (F:PH) (B:(α->Ψ)->α->Ψ):Prop:=∃(I:Nat->α->Ψ) (m:Nat),I m x F/\∀m x F,I m x F->B (λy F=>∃m',m'<m/\I m' y F) x F
variable {R:VR} {F:PH}
set_option maxRecDepth 10000
set_option maxHeartbeats 4000000
def R6 (d e:Γ) (R:VR) (F:PH):Prop:=Nb F (.cells d 33) λh F=>Nb F (.cells e 33) λi F=>Li F (Am h 1) λf=>Li F (Am i 1) λg=>Bc (f=g) (Ls F (Am h 0) λa=>Ls F (Am i 0) λb=>Cbo 98 #[Sl.v a,Sl.v b] F λc F=>R (.bool c) F) (R (.bool false) F)
theorem Wq {a:Γ} {b:Γ} (h:R6 a b R F):ae prog 29 #[.agg a,.agg b] F R:=Rx.sxC (args:=[.agg a,.agg b]) .N (by kernel_rfl) h
def R7 (a:Bool) (R:VR) (F:PH):Prop:=Nb F (.cells zD 33) λb F=>Bb (a) (aw F (Am b 0) 2 (#[.slice none 0 0,(vi 1)]:Γ) λF=>Rr 2 (Am b 0) R F) (aw F (Am b 0) 2 zD λF=>Rr 2 (Am b 0) R F)
theorem Wr {a:Bool} (h:R7 a R F):ae prog 30 #[.bool a] F R:=Rx.sxC (args:=[.bool a]) .N (by kernel_rfl) h
def qP (j:Int) (d:Bool) (k i:Nat) (f:Bool) (R:VR) (F:PH):Prop:=Bb (f) (aw F (Am i 0) 2 zD λF=>Lr F 2 (Am i 0) λb=>R (.tuple #[.agg b,(vi 1)]) F) (Lr F 2 (Am k 0) λg=>Ca 161 #[.agg g,(vi j),.bool d] F λh F=>ae prog 160 #[.agg h] F λv F=>∃e,∃a,v=(.tuple #[.agg e,(vi a)])/\aw F (Am i 0) 2 e λF=>Lr F 2 (Am i 0) λc=>R (.tuple #[.agg c,(vi a)]) F)
def R8 (f:Γ) (b:Int) (a:Bool) (R:VR) (F:PH):Prop:=Nb F (.cells f 33) λg F=>Nb F (.cells zD 33) λe F=>Lr F 2 (Am g 0) λh=>Ci 99 #[.agg h] F λd F=>Bc (d≠0) (aw F (Am e 0) 2 zD λF=>Lr F 2 (Am e 0) λc=>R (.tuple #[.agg c,(vi d)]) F) (Bc (b<0) (qP b a g e true R F) (qP b a g e (decide (63<b)) R F))
theorem Wt {b:Γ} {c:Int} {a:Bool} (h:R8 b c a R F):ae prog 92 #[.agg b,(vi c),.bool a] F R:=Rx.sxC (args:=[.agg b,(vi c),.bool a]) (.T .N (.T .N (.T (.J false [(20,.bool)] .N .N) .N))) (by kernel_rfl) h
def GJ (f:Nat) (R:VR) (F:PH):Prop:=Li F (Am f 1) λg=>Bc (g<0) (R (vi 20) F) (Li F (Am f 1) λh=>Ls F (Am f 0) λi=>Bc ((i64.wrap ((i.len:Int)+1))<h) (R (vi 20) F) (Ls F (Am f 0) λj=>Nb F (.cells (#[Sl.v j,.map none]:Γ) 228) λk F=>Li F (Am f 1) λa=>Ca 167 #[(Pp k),(vi a)] F λb F=>Nb F (.cells zD 33) λl F=>aw F (Am l 0) 2 b λF=>Lr F 2 (Am l 0) λc=>Lr F 2 (Am f 0) λd=>Cbo 29 #[.agg c,.agg d] F λe F=>Bb ((!e)) (R (vi 20) F) (R (vi 0) F)))
def GK (A:Ω) (z g:Nat) (d:Sl) (R:VR) (a:Int) (F:PH):Prop:=Bc (a<(d.len:Int)) (Ix d a λh=>Lr F 3 (Addr.add h (Int.toNat a*3)) λi=>Nb F (.cells (#[vi 0,vi 0,vi 0]) 103) λb F=>aw F (Am b 0) 3 i λF=>Li F (Am b 0) λj=>Bc (j<0) (R (vi 20) F) (Li F (Am b 0) λk=>Bc (63<k) (R (vi 20) F) (Li F (Am b 1) λl=>Bc (l<0) (R (vi 20) F) (Li F (Am b 2) λm=>Bc (m<0) (R (vi 20) F) (Li F (Am b 1) λn=>Bc ((i64.wrap (a+1))<n) (R (vi 20) F) (Li F (Am b 2) λo=>Bc ((i64.wrap (a+1))<o) (R (vi 20) F) (Li F (Am b 1) λp=>Li F (Am b 2) λq=>Bc (p=q) (R (vi 20) F) (Lr F 3 (Am b 0) λr=>∃e,rdo prog (Instr.lookup 224 (.map (some g)) (.agg r) false) F (.bool e)/\Bb (e) (R (vi 20) F) (Lr F 2 (Am z 0) λs=>Li F (Am b 1) λt=>Li F (Am b 0) λc=>Ci 102 #[.agg s,(vi t)] F λu F=>F.cell (Am b 0)=some (vi c)/\Bc (u<=c) (R (vi 20) F) (Lr F 2 (Am z 0) λv=>Li F (Am b 2) λw=>Li F (Am b 0) λf=>Ci 102 #[.agg v,(vi w)] F λx F=>F.cell (Am b 0)=some (vi f)/\F.cell (Am b 0)=some (vi c)/\Bc (x<=f) (R (vi 20) F) (Lr F 3 (Am b 0) λy=>aG prog (Instr.mapUpdate 224 (.map (some g)) (.agg y) (.bool true)) F λ_ F=>A (i64.wrap (a+1)) F))))))))))) (GJ z R F)
def R9 (c:Γ) (R:VR) (F:PH):Prop:=Nb F (.cells c 33) λd F=>Ls F (Am d 0) λe=>Bc ((4096:Int)<(e.len:Int)) (R (vi 2) F) (Nb F (.map #[] 0) λf F=>Ls F (Am d 0) λa=>Lp 0 F λN b F=>GK N d f a R b F)
theorem Wu {a:Γ} (h:R9 a R F):ae prog 99 #[.agg a] F R:=Rx.sxC (args:=[.agg a]) (.T .N (.T .N (.T .N (.J false [] (.T .N (.L [(15,.int .i64)] .N)) .N)))) (by kernel_rfl) h
def Mm (d:Γ) (b:Int) (R:VR) (F:PH):Prop:=Nb F (.cells d 33) λf F=>Bc (b<2) (R (vi 64) F) (Ls F (Am f 0) λe=>Ix e (i64.wrap (b - 2)) λc=>∃a,F.cell (Addr.add c (Int.toNat (i64.wrap (b - 2))*3))=some (vi a)/\R (vi a) F)
theorem Sa {a:Γ} {b:Int} (h:Mm a b R F):ae prog 102 #[.agg a,(vi b)] F R:=Rx.sxC (args:=[.agg a,(vi b)]) .N (by kernel_rfl) h
def Mn (d:Γ) (R:VR) (F:PH):Prop:=Nb F (.cells d 33) λg F=>Nb F (.cells zD 33) λc F=>Ls F (Am g 0) λe=>Bc ((4096:Int)<(e.len:Int)) (aw F (Am c 0) 2 zD λF=>Lr F 2 (Am c 0) λb=>R (.tuple #[.agg b,(vi 2)]) F) (Lr F 2 (Am g 0) λf=>aw F (Am c 0) 2 f λF=>Lr F 2 (Am c 0) λa=>R (.tuple #[.agg a,(vi 0)]) F)
theorem Sc {a:Γ} (h:Mn a R F):ae prog 160 #[.agg a] F R:=Rx.sxC (args:=[.agg a]) .N (by kernel_rfl) h
def BS (h g:Nat) (b:Θ) (c:Sl) (R:VR) (F:PH):Prop:=Li F (Am h 1) λa=>Ix c a λd=>Li F (Addr.add d (Int.toNat a*1)) λe=>Ca 167 #[.pointer b,(vi e)] F λf F=>aw F (Am g 0) 2 f λF=>Rr 2 (Am g 0) R F
def lO (l:Ω) (m:Int) (d:Bool) (n o:Nat) (e:Θ) (f:Sl) (a:Int) (j:Nat) (k:Sl) (c b:Int) (R:VR) (F:PH):Prop:=Li F (Am j 0) λg=>Ci 210 #[.pointer e,(vi g),(vi c),(vi b)] F λh F=>Ix f (i64.wrap (a+2)) λi=>sto F (Addr.add i (Int.toNat (i64.wrap (a+2))*1)) (vi h) λF=>l (i64.wrap (a+1)) F
def BT (s:Ω) (i:Int) (a:Bool) (q r:Nat) (f:Θ) (b d:Sl) (R:VR) (c:Int) (F:PH):Prop:=Bc (c<(d.len:Int)) (Ix d c λl=>Lr F 3 (Addr.add l (Int.toNat c*3)) λm=>Nb F (.cells (#[vi 0,vi 0,vi 0]) 103) λe F=>aw F (Am e 0) 3 m λF=>Li F (Am e 1) λj=>Ix b j λn=>Li F (Addr.add n (Int.toNat j*1)) λg=>Li F (Am e 2) λk=>Ix b k λo=>Li F (Addr.add o (Int.toNat k*1)) λh=>Li F (Am e 0) λp=>Bc (p=i) (Bb (a) (lO s i a q r f b c e d h h R F) (lO s i a q r f b c e d g g R F)) (lO s i a q r f b c e d g h R F)) (BS q r f b R F)
def Mo (h:Γ) (i:Int) (a:Bool) (R:VR) (F:PH):Prop:=Nb F (.cells h 33) λj F=>Nb F (.cells zD 33) λk F=>ae prog 209 #[] F λv F=>∃c,v=(.pointer c)/\Ls F (Am j 0) λd=>aG prog (Instr.makeSlice 70 (vi (i64.wrap ((d.len:Int)+2))) (vi (i64.wrap ((d.len:Int)+2)))) F λv F=>∃b,v=(Sl.v b)/\Ix b 1 λe=>sto F (Addr.add e (Int.toNat 1*1)) (vi 1) λF=>Ls F (Am j 0) λf=>Lp 0 F λN g F=>BT N i a j k c b f R g F
theorem Sd {b:Γ} {c:Int} {a:Bool} (h:Mo b c a R F):ae prog 161 #[.agg b,(vi c),.bool a] F R:=Rx.sxC (args:=[.agg b,(vi c),.bool a]) (.T .N (.T .N (.T .N (.T .N (.J false [] (.T .N (.L [(24,.int .i64)] (.T .N (.T .N (.T (.T .N (.T .N (.J false [(11,.int .i64),(12,.int .i64)] .N .N))) .N))))) .N))))) (by kernel_rfl) h
def Mp (h:Θ) (a:Int) (R:VR) (F:PH):Prop:=Nb F (.cells #[.pointer h] 225) λn F=>Nb F (.cells zD 33) λl F=>Nb F (.cells zD 33) λg F=>aw F (Am g 0) 2 zD λF=>Nb F (.map #[] 0) λi F=>aG prog (Instr.mapUpdate 299 (.map (some i)) (vi 0) (vi 0)) F λ_ F=>aG prog (Instr.mapUpdate 299 (.map (some i)) (vi 1) (vi 1)) F λ_ F=>Nb F (.cells (#[.map none]) 299) λm F=>sto F (Am m 0) (.map (some i)) λF=>Nb F (.cells (#[.nilFunc]) 167) λj F=>sto F (Am j 0) (.func (.func 215) #[] #[(Pp m),(Pp n),(Pp j),(Pp g)]) λF=>∃b:Value,F.cell (Am j 0)=some b/\Fn b λk d e=>ae prog k (d++([(vi a)]).toArray++e) F λv F=>∃c,v=(vi c)/\sto F (Am g 1) (vi c) λF=>Lr F 2 (Am g 0) λf=>aw F (Am l 0) 2 f λF=>Rr 2 (Am l 0) R F
theorem Se {b:Θ} {a:Int} (h:Mp b a R F):ae prog 167 #[.pointer b,(vi a)] F R:=Rx.sxC (args:=[.pointer b,(vi a)]) .N (by kernel_rfl) h
def Mq (R:VR) (F:PH):Prop:=Nb F (.map #[] 0) λa F=>Nb F (.cells (#[.slice none 0 0,.map (some a)]:Γ) 228) λb F=>R (Pp b) F
theorem Sf (h:Mq R F):ae prog 209 #[] F R:=Rx.sxC (args:=[]) .N (by kernel_rfl) h
def Mr (o:Θ) (p b c:Int) (R:VR) (F:PH):Prop:=Bc (b=c) (R (vi b) F) (Nb F (.cells (#[vi 0,vi 0,vi 0]) 103) λn F=>aw F (Am n 0) 3 (#[(vi p),(vi b),(vi c)]:Γ) λF=>∃a,o=some a/\∃e:Option Nat,F.cell (Addr.add a 1)=some (.map e)/\Lr F 3 (Am n 0) λj=>∃(f:Int) (d:Bool),rdo prog (Instr.lookup 226 (.map e) (.agg j) true) F (.tuple #[(vi f),.bool d])/\Bb ((!d)) (Ls F a λk=>Lr F 3 (Am n 0) λg=>g.size=3/\Nb F (.cells g 103) λq F=>Ap 31 #[Sl.v k,Sl.v (Sb q 1)] F λl F=>sto F a (Sl.v l) λF=>Ls F a λh=>∃i:Option Nat,F.cell (Addr.add a 1)=some (.map i)/\Lr F 3 (Am n 0) λm=>aG prog (Instr.mapUpdate 226 (.map i) (.agg m) (vi (i64.wrap ((h.len:Int)+1)))) F λ_ F=>R (vi (i64.wrap ((h.len:Int)+1))) F) (R (vi f) F))
theorem Sg {c:Θ} {d:Int} {b:Int} {a:Int} (h:Mr c d b a R F):ae prog 210 #[.pointer c,(vi d),(vi b),(vi a)] F R:=Rx.sxC (args:=[.pointer c,(vi d),(vi b),(vi a)]) .N (by kernel_rfl) h
def GL (c:Int) (H I J K:Θ) (R:VR) (F:PH):Prop:=∃a,H=some a/\∃j:Option Nat,F.cell a=some (.map j)/\∃(k:Int) (d:Bool),rdo prog (Instr.lookup 299 (.map j) (vi c) true) F (.tuple #[(vi k),.bool d])/\Bb (d) (R (vi k) F) (∃l,I=some l/\Lq F l λx=>∃e,x=some e/\Ls F e λy=>Ix y (i64.wrap (c - 2)) λz=>∃f,f.size=3/\F.row (Addr.add z (Int.toNat (i64.wrap (c - 2))*3)) f/\Nb F (.cells (#[vi 0,vi 0,vi 0]) 103) λG F=>aw F (Am G 0) 3 f λF=>∃g,J=some g/\∃m:Value,F.cell g=some m/\Li F (Am G 1) λA=>Fn m λL s t=>ae prog L (s++([(vi A)]).toArray++t) F λv F=>∃h,v=(vi h)/\∃n:Value,F.cell g=some n/\Li F (Am G 2) λB=>Fn n λM u w=>ae prog M (u++([(vi B)]).toArray++w) F λv F=>∃i,v=(vi i)/\∃b,K=some b/\Ls F b λC=>Li F (Am G 0) λo=>(#[(vi o),(vi h),(vi i)]:Γ).size=3/\Nb F (.cells (#[(vi o),(vi h),(vi i)]:Γ) 103) λN F=>Ap 31 #[Sl.v C,Sl.v (Sb N 1)] F λD F=>sto F b (Sl.v D) λF=>∃p:Option Nat,F.cell a=some (.map p)/\Ls F b λE=>aG prog (Instr.mapUpdate 299 (.map p) (vi c) (vi (i64.wrap ((E.len:Int)+1)))) F λ_ F=>∃q:Option Nat,F.cell a=some (.map q)/\∃r,rdo prog (Instr.lookup 299 (.map q) (vi c) false) F (vi r)/\R (vi r) F)
theorem Ms {a:Int} {b:Θ} {c:Θ} {d:Θ} {e:Θ} (h:GL a b c d e R F):ae prog 215 #[(vi a),.pointer b,.pointer c,.pointer d,.pointer e] F R:=Rx.sxC (args:=[(vi a),.pointer b,.pointer c,.pointer d,.pointer e]) .N (by kernel_rfl) h
variable {R:VR} {F:PH}
set_option maxRecDepth 10000
set_option maxHeartbeats 4000000
def O8 (R:VR) (F:PH):Prop:=R (.bool true) F
def GM (i:Ω) (b d:Sl) (R:VR) (a:Int) (F:PH):Prop:=Bc (a<(b.len:Int)) (Ix b a λe=>Lr F 3 (Addr.add e (Int.toNat a*3)) λf=>Ix d a λg=>Lr F 3 (Addr.add g (Int.toNat a*3)) λh=>∃c,(∀F,rdo prog (Op.equal 103 (.agg f) (.agg h)) F c)/\Bb ((!c)) (R (.bool false) F) (i (i64.wrap (a+1)) F)) (O8 R F)
def Sh (a b:Sl) (R:VR) (F:PH):Prop:=Bc ((a.len:Int)≠(b.len:Int)) (R (.bool false) F) (Lp 0 F λN c F=>GM N a b R c F)
theorem Wv {a:Sl} {b:Sl} (h:Sh a b R F):ae prog 98 #[Sl.v a,Sl.v b] F R:=Rx.sxC (args:=[Sl.v a,Sl.v b]) (.T .N (.T .N (.J false [] (.T .N (.L [(13,.int .i64)] .N)) .N))) (by kernel_rfl) h
def Mt (a:Sl) (b:Value) (R:VR) (F:PH):Prop:=Ci 197 #[Sl.v a,b] F λc F=>R (.bool (decide (0<=c))) F
theorem Si {a:Sl} {b:Value} (h:Mt a b R F):ae prog 145 #[Sl.v a,b] F R:=Rx.sxC (args:=[Sl.v a,b]) .N (by kernel_rfl) h
def Mu (a:Sl) (b:Value) (R:VR) (F:PH):Prop:=Ci 206 #[Sl.v a,b] F λc F=>R (.bool (decide (0<=c))) F
theorem Sj {a:Sl} {b:Value} (h:Mu a b R F):ae prog 154 #[Sl.v a,b] F R:=Rx.sxC (args:=[Sl.v a,b]) .N (by kernel_rfl) h
def J2 (R:VR) (F:PH):Prop:=R (vi (-1:Int)) F
def J3 (j:Ω) (e:Sl) (h:Value) (R:VR) (a:Int) (F:PH):Prop:=Bc (a<(e.len:Int)) (Ix e a λf=>Lr F 13 (Addr.add f (Int.toNat a*13)) λg=>Fn h λi c d=>ae prog i (c++([(Value.agg g)]).toArray++d) F λv F=>∃b,v=(Value.bool b)/\Bb (b) (R (vi a) F) (j (i64.wrap (a+1)) F)) (J2 R F)
def Sk (a:Sl) (b:Value) (R:VR) (F:PH):Prop:=Lp 0 F λN c F=>J3 N a b R c F
theorem Sn {a:Sl} {b:Value} (h:Sk a b R F):ae prog 197 #[Sl.v a,b] F R:=Rx.sxC (args:=[Sl.v a,b]) (.T .N (.J false [] (.T .N (.L [(8,.int .i64)] .N)) .N)) (by kernel_rfl) h
def Mv (a:Sl) (b:Value) (R:VR) (F:PH):Prop:=Ci 221 #[Sl.v a,b] F λc F=>R (.bool (decide (0<=c))) F
theorem So {a:Sl} {b:Value} (h:Mv a b R F):ae prog 199 #[Sl.v a,b] F R:=Rx.sxC (args:=[Sl.v a,b]) .N (by kernel_rfl) h
def J4 (R:VR) (F:PH):Prop:=R (vi (-1:Int)) F
def J5 (j:Ω) (e:Sl) (h:Value) (R:VR) (a:Int) (F:PH):Prop:=Bc (a<(e.len:Int)) (Ix e a λf=>Lr F 2 (Addr.add f (Int.toNat a*2)) λg=>Fn h λi c d=>ae prog i (c++([(Value.agg g)]).toArray++d) F λv F=>∃b,v=(Value.bool b)/\Bb (b) (R (vi a) F) (j (i64.wrap (a+1)) F)) (J4 R F)
def Sq (a:Sl) (b:Value) (R:VR) (F:PH):Prop:=Lp 0 F λN c F=>J5 N a b R c F
theorem Sr {a:Sl} {b:Value} (h:Sq a b R F):ae prog 206 #[Sl.v a,b] F R:=Rx.sxC (args:=[Sl.v a,b]) (.T .N (.J false [] (.T .N (.L [(8,.int .i64)] .N)) .N)) (by kernel_rfl) h
def J6 (R:VR) (F:PH):Prop:=R (vi (-1:Int)) F
def J7 (j:Ω) (e:Sl) (h:Value) (R:VR) (a:Int) (F:PH):Prop:=Bc (a<(e.len:Int)) (Ix e a λf=>Lr F 3 (Addr.add f (Int.toNat a*3)) λg=>Fn h λi c d=>ae prog i (c++([(Value.agg g)]).toArray++d) F λv F=>∃b,v=(Value.bool b)/\Bb (b) (R (vi a) F) (j (i64.wrap (a+1)) F)) (J6 R F)
def Ss (a:Sl) (b:Value) (R:VR) (F:PH):Prop:=Lp 0 F λN c F=>J7 N a b R c F
theorem Su {a:Sl} {b:Value} (h:Ss a b R F):ae prog 221 #[Sl.v a,b] F R:=Rx.sxC (args:=[Sl.v a,b]) (.T .N (.J false [] (.T .N (.L [(8,.int .i64)] .N)) .N)) (by kernel_rfl) h
end Go.Proofs.YtenpmjhnhepfdaaGreatDoor
namespace Go.Proofs.YtenpmjhnhepfdaaGreatDoor
open Go.IntKind (i64 u8 u64)
open Go Go.Proofs.Tryz Tr
abbrev Fit (n:Nat):Prop:=n<=1000000000000
def di (b:Br):Ξ:=[vi b.v,vi b.l,vi b.h]
def aS (l:List Br):Ξ:=l.flatMap di
abbrev aR (b:Br):Γ:= #[vi b.v,vi b.l,vi b.h]
theorem lP (l:List Br):(aS l).length=l.length*3:=by
 induction l with
 |nil=>rfl
 |cons b l ih=>simp only [aS,XT,N3,XI] at ih ⊢;rw [ih];simp [di];omega
theorem eT (l m:List Br):aS (l++m)=aS l++aS m:=by simp [aS]
theorem tY:∀(l:List Br) (i:Nat) (hi:i<l.length),((aS l).drop (i*3)).take 3=di l[i]
 |b::l,0,_=>by simp [aS,di]
 |b::l,i+1,hi=>by
  have e:(i+1)*3=3+i*3:=by omega
  have:aS (b::l)=di b++aS l:=by simp [aS]
  rw [this,e,<- List.drop_drop,List.drop_left' (by simp [di])];simpa using tY l i (by simpa using hi)
theorem jd (l:List Br):∀v∈aS l,ai v:=by intro v hv;obtain ⟨b,_,hb⟩:=List.mem_flatMap.1 hv;simp only [di,XB,Yq,or_false] at hb;rcases hb with rfl|rfl|rfl<;>exact jl
theorem jO (b:Br):∀v∈(aR b).toList,ai v:=by intro v hv;simp only [XB,Yq,or_false] at hv;rcases hv with rfl|rfl|rfl<;>exact jl
theorem RdS.blen {F:PH} {s:Sl} {l:List Br} (h:RdS F s 3 (aS l)):s.len=l.length:=by have:=h.len;rw [lP] at this;omega
theorem rdb {F:PH} {s:Sl} {l:List Br} (h:RdS F s 3 (aS l)) {i:Nat} {x:Br} (hx:l[i]? =some x):∃a,s.base=some a/\F.row (a.add (i*3)) (aR x)/\
  F.cell (a.add (i*3))=some (vi x.v)/\F.cell ((a.add (i*3)).add 1)=some (vi x.l)/\F.cell ((a.add (i*3)).add 2)=some (vi x.h):=by
 obtain ⟨hi,hx⟩:=N6.1 hx;subst hx;have hlen:=h.blen;obtain ⟨b,o,hb,_⟩:=h.cells (by omega)
 have hr:=h.row hb (i*3) (aR l[i]) (by
  have:=tY l i hi
  simpa [aR,di] using this.symm)
 refine ⟨_,hb,hr,?_,?_,?_⟩
 ·have:=hr 0 (by simp);simpa using this
 ·have:=hr 1 (by simp);simpa using this
 ·have:=hr 2 (by simp);simpa using this
def DV (F:PH) (v:Γ) (d:Dia):Prop:=∃s:Sl,v= #[s.v,vi d.2]/\RdS F s 3 (aS d.1)
theorem DV.le {F G:PH} {v:Γ} {d:Dia} (h:DV F v d) (hl:F.le G):DV G v d:=by obtain ⟨s,h1,h2⟩:=h;exact ⟨s,h1,h2.le hl⟩
theorem DV.size {F:PH} {v:Γ} {d:Dia} (h:DV F v d):v.size=2:=by obtain ⟨s,rfl,_⟩:=h;rfl
theorem DV.st {F:PH} {v:Γ} {d:Dia} (h:DV F v d):∀x∈v.toList,ai x:=by
 obtain ⟨s,rfl,_⟩:=h;intro x hx;simp only [XB,Yq,or_false] at hx;rcases hx with rfl|rfl
 ·exact Hx
 ·exact jl
theorem PH.le_rfl {F:PH}:F.le F:=λ_ _ h=>h
theorem je {S:List Tr} {d:List Br} (hp:brs S<+:d) {k:Nat} {t:Tr} (h:S[k]? =some t):d[k]? =some (br S t):=by obtain ⟨r,rfl⟩:=hp;rw [X5 (by rw [aQ];exact (N6.1 h).1)];exact lW h
theorem xI {n:Nat} (h:Fit n) (h2:2<=n):i64.wrap ((n:Int) - 2)=((n - 2:Nat):Int):=by rw [aH (by omega) (by omega)];omega
section
variable {F:PH} {v:Γ} {d:Dia} {S:List Tr} {t:Tr}
theorem vk (hp:brs S<+:d.1) (ht:inn S t) (hf:Fit (d.1.length+2)):Fit (num S t)/\num S t<=d.1.length+1:=by have h1:=cS ht;have h2:=hp.length_le;rw [aQ] at h2;omega
theorem qQ (hd:DV F v d) (hp:brs S<+:d.1) (ht:inn S t) (hf:Fit (d.1.length+2)):
  ae prog 102 #[.agg v,vi (num S t)] F λr F'=>r=vi t.top/\F.le F':=by
 obtain ⟨hfit,hlt⟩:=vk hp ht hf;obtain ⟨s,rfl,hr⟩:=hd;refine Sa ?_;unfold Mm;intro b2 hb2;refine atI ?_;have hle:=ac (.cells #[s.v,vi d.2] 33) hb2;refine ⟨λh=> ?_,λh=> ?_⟩
 ·have hl:=vG (S:=S) (t:=t) (by omega);cases t with
  |leaf b=>exact ⟨rfl,hle⟩
  |node _ _ _=>cases hl
 ·cases t with
  |leaf b=>have:=dx S b;omega
  |node w l r=>have hx:=je hp (gg (cR ht rfl) rfl);obtain ⟨a,h1,_,h2,_⟩:=rdb (hr.le hle) hx;have hw:=xI hfit (eX (S:=S) (t:=node w l r) rfl);have hg:=eX (S:=S) (t:=node w l r) rfl;refine ⟨s,by simp,a,h1,by rw [hw];omega,by rw [hw,hr.blen];omega,_,by rw [hw];exact h2,rfl,hle⟩
end
end Go.Proofs.YtenpmjhnhepfdaaGreatDoor
