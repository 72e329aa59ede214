/-
  What functions of the program do, in a clean form, each with the proof that its code does so. Printed by a program.
-/
import Derived.Test.YtcemhghkipgdiaaGreatDoorPhx
import Derived.Test.YtcemhghkipgdiaaGreatDoorPhp
namespace Go.Proofs.YtcemhghkipgdiaaGreatDoor.Rx
open Go
section
variable {P:Program} {n:Nat} {σ σ0:Sy} {E:En} {F:PH} {K:CK}
theorem fg {c:Code} {Q Q':Exit->En->Ψ} (h:HC P n c Q E F) (k:∀x E F,Q x E F->Q' x E F):HC P n c Q' E F:=λe a w ag st=>
 wp_mono (h e a w ag st) λ_ _ _ ⟨E',F',ag',st',q⟩=>⟨E',F',ag',st',k _ _ _ q⟩
theorem Rel.hav (r:Rel σ E) {M:Δ} {E':En} (fr:Fr M E E'):Rel (σ.hav M) E':=by
 refine ⟨λt=> ?_,r.top⟩;show okV σ.T (bif oS M t then .unk else σ.S t) (E' t);cases hm:oS M t with
 |true=>exact True.intro
 |false=>rw [fr t hm];exact r.val t
theorem vb {t:Nat} {k:Kd} {J:k.T->Prop} (h:pay (σ.vw t) k J) (r:Rel σ E):∃x,E t=k.v x/\J x/\∀J':k.T->Prop,J' x->pay (σ.vw t) k J':=by
 cases k<;>simp only [pay] at h ⊢
 case int k=>
  split at h
  ·rename_i k' x hw;split at h
   ·rename_i hk;obtain rfl:=of_decide_eq_true hk;exact ⟨x,cX r hw rfl,h,λJ' h'=>h'⟩
   ·exact h.elim
  ·exact h.elim
 case bool=>
  split at h
  ·rename_i b hw;exact ⟨b,cX r hw rfl,h,λ_ h'=>h'⟩
  ·rename_i i b hw;exact ⟨b,cX r hw rfl,h,λ_ h'=>h'⟩
  ·rename_i i p d hw;exact ⟨_,cX r hw rfl,h,λ_ h'=>h'⟩
  ·exact h.elim
 case ptr=>
  split at h
  ·rename_i a hw;exact ⟨some a,cX r hw rfl,h,λ_ h'=>h'⟩
  ·rename_i i p hw;exact ⟨p,cX r hw rfl,h,λ_ h'=>h'⟩
  ·rename_i p hw;exact ⟨p,cX r hw rfl,h,λ_ h'=>h'⟩
  ·exact h.elim
 case sl=>
  split at h
  ·rename_i b l c hw;exact ⟨⟨b,l,c⟩,cX r hw rfl,h,λ_ h'=>h'⟩
  ·exact h.elim
 case str=>
  split at h
  ·rename_i s hw;exact ⟨s,cX r hw rfl,h,λ_ h'=>h'⟩
  ·exact h.elim
 case map=>
  split at h
  ·rename_i s hw;exact ⟨s,cX r hw rfl,h,λ_ h'=>h'⟩
  ·exact h.elim
 case agg=>
  split at h
  ·rename_i s hw;exact ⟨s,cX r hw rfl,h,λ_ h'=>h'⟩
  ·exact h.elim
 case any=>
  split at h
  ·rename_i v hw;exact ⟨v,cX r rfl hw,h,λ_ h'=>h'⟩
  ·exact h.elim
theorem EI (r:Rel σ0 E) {t:Nat} {k:Kd} {x:k.T} (hx:E t=k.v x):Rel (σ0.put t (k.nv x)) E:=by have:=r.put (d:=t) (qZ (T:=σ0.T) k x);rw [xv hx] at this;exact this
theorem Bi {f:Sy->Ψ} (r:Rel σ E):∀(l:List (Nat×Kd)) {J:Tl l} {σ0:Sy},My f l J σ0->Rel σ0 E->jap σ l J F->∃σ',Rel σ' E/\f σ' F
 |[],J,σ0,h,r0,hj=>⟨σ0,r0,h F hj⟩
 | (t,k)::l,J,σ0,h,r0,hj=>by obtain ⟨x,hx,hj,_⟩:=vb hj r;exact Bi r l (h x) (EI r0 hx) hj
theorem yX {f:Sy->Ψ} (r:Rel σ E):∀(l:List (Nat×Kd)) {σ0:Sy},Rel σ0 E->jap σ l (jbd f l σ0) F->∃σ',Rel σ' E/\f σ' F
 |[],σ0,r0,hj=>⟨σ0,r0,hj⟩
 | (t,k)::l,σ0,r0,hj=>by obtain ⟨x,hx,hj,_⟩:=vb hj r;exact yX r l (EI r0 hx) hj
theorem Bj (r:Rel σ E):∀(l:List (Nat×Kd)) {J Y:Tl l},Mz l J Y->jap σ l J F->jap σ l Y F
 |[],J,Y,h,hj=>h F hj
 | (t,k)::l,J,Y,h,hj=>by obtain ⟨x,hx,hj,hp⟩:=vb hj r;exact hp _ (Bj r l (h x) hj)
theorem EJ (r:Rel σ E):∀(l:List (Nat×Kd)) {I:Nat->Tl l} {m:Nat},jap σ l (jdn l I m) F->∃m',m'<m/\jap σ l (I m') F
 |[],I,m,h=>h
 | (t,k)::l,I,m,h=>by obtain ⟨x,hx,hj,hp⟩:=vb h r;obtain ⟨m',hm,hj⟩:=EJ r l hj;exact ⟨m',hm,hp _ hj⟩
theorem vc {f:Sy->Ψ} (h:jN K):jN (onN f K):=h
theorem Mo {id:Nat} (h:jN K):jN (onX id K):=h
theorem km:∀(c:Code) (h:i7) (K:CK) (σ:Sy) (E:En) (F:PH),jN K->sx P n c h K σ F->Rel σ E->HC P n c (QK (i8 c) E K) E F
 | .skip,_,K,σ,E,F,_,h,r=>HX ⟨⟨σ,r,h⟩,.refl⟩
 | .ret,_,K,σ,E,F,_,h,r=>Mi ⟨⟨σ,r,h⟩,.refl⟩
 | .exit i,_,K,σ,E,F,_,h,r=>HY ⟨⟨σ,r,h⟩,.refl⟩
 | .region id ⟨ops⟩ false,_,K,σ,E,F,hK,h,r=>CW (y5 ops σ E F (λo ho t ht=>xB ho ht) .refl h r)
 | .region id ops true,_,K,σ,E,F,hK,h,r=>by unfold sx at h;obtain ⟨hm,h⟩:=eO h;exact Ic hm (kL hK (λo ho t ht=>xB ho ht) _ _ _ _ _ _ _ _ .refl .nil JI h r)
 | .seq a b,hh,K,σ,E,F,hK,h,r=>by
  have other:∀{f:Sy->Ψ} (x:Exit) (E':En) (F':PH),x≠.normal->QK (i8 a) E (onN f K) x E' F'->QK (i8 (.seq a b)) E K x E' F':=by intro f x E' F' hx ⟨⟨σ',r',h'⟩,fr⟩;refine ⟨⟨σ',r',?_⟩,fr.left⟩;cases x<;>first|exact absurd rfl hx|exact h'
  have thn:∀{σ':Sy} {E':En} {F':PH},Fr (i8 a) E E'->Rel σ' E'->sx P n b hh.snd K σ' F'->HC P n b (QK (i8 (.seq a b)) E K) E' F':=by intro σ' E' F' fr r' h';exact fg (km b _ K σ' E' F' hK h' r') λx E'' F'' ⟨h1,fr'⟩=>⟨h1,fr.left.trans fr'.right⟩
  unfold sx at h;split at h
  ·refine yU (fg (km a _ _ σ E F (vc hK) h r) λx E' F' q=> ?_);cases x with
   |normal=>obtain ⟨⟨σ',r',h'⟩,fr⟩:=q;exact thn fr r' h'
   |_=>exact other _ _ _ (by intro e;cases e) q
  ·rename_i l _;refine yU (fg (km a _ _ σ E F (vc hK) h r) λx E' F' q=> ?_);cases x with
   |normal=>obtain ⟨⟨σ',r',h'⟩,fr⟩:=q;obtain ⟨σ2,r2,h2⟩:=yX r' l (r.hav fr) h';exact thn fr r2 h2
   |_=>exact other _ _ _ (by intro e;cases e) q
  ·rename_i l _;obtain ⟨J,hJ,h⟩:=h;refine yU (fg (km a _ _ σ E F (vc hK) h r) λx E' F' q=> ?_);cases x with
   |normal=>obtain ⟨⟨σ',r',h'⟩,fr⟩:=q;obtain ⟨σ2,r2,h2⟩:=yX r' l (r.hav fr) (Bj r' l hJ h');exact thn fr r2 h2
   |_=>exact other _ _ _ (by intro e;cases e) q
 | .cond c a b,hh,K,σ,E,F,hK,h,r=>by
  have ha:sx P n a hh.fst K σ F->HC P n a (QK (i8 (.cond c a b)) E K) E F:=λh=>fg (km a _ K σ E F hK h r) λx E' F' ⟨h1,fr⟩=>⟨h1,fr.left⟩;have hb:sx P n b hh.snd K σ F->HC P n b (QK (i8 (.cond c a b)) E K) E F:=λh=>fg (km b _ K σ E F hK h r) λx E' F' ⟨h1,fr⟩=>⟨h1,fr.right⟩;unfold sx at h;split at h
  ·rename_i hw;exact El (bl r hw rfl) (ha h)
  ·rename_i hw;exact Em (bl r hw rfl) (hb h)
  ·rename_i i t hw;exact pf (bl r hw rfl) (λht=>ha (h.1 ht)) (λht=>hb (h.2 ht))
  ·rename_i i p d hw;exact pf (t:= @decide p d) (bl r hw rfl) (λht=>ha (h.1 (of_decide_eq_true ht))) (λht=>hb (h.2 (of_decide_eq_false ht)))
  ·exact h.elim
 | .block id c,hh,K,σ,E,F,hK,h,r=>by
  refine Ey (fg (km c hh _ σ E F (Mo hK) h r) λx E' F' q=> ?_);obtain ⟨⟨σ',r',h'⟩,fr⟩:=q;cases x with
  |exit i=>
   show bif Nat.beq i id then QK _ E K .normal E' F' else QK _ E K (.exit i) E' F'
   have h':bif Nat.beq i id then K .normal σ' F' else K (.exit i) σ' F':=h'
   cases hb:Nat.beq i id<;>rw [hb] at h'<;>exact ⟨⟨σ',r',h'⟩,fr⟩
  |_=>exact ⟨⟨σ',r',h'⟩,fr⟩
 | .loop c,hh,K,σ,E,F,hK,h,r=>by
  obtain ⟨I,m,h0,hr⟩:=h;refine HZ (λm E' F'=>(∃σ',Rel σ' E'/\jap σ' hh.lv (I m) F')/\Fr (i8 c) E E') m ⟨⟨σ,r,h0⟩,.refl⟩ ?_;rintro m E' F' ⟨⟨σ',r',hj⟩,fr⟩;obtain ⟨σ2,r2,h2⟩:=Bi r' _ (hr m) (r.hav fr) hj;refine fg (km c _ _ σ2 E' F' (vc hK) h2 r2) λx E'' F'' q=> ?_;obtain ⟨⟨σ3,r3,h3⟩,fr'⟩:=q;cases x with
  |normal=>obtain ⟨m',hm,hj'⟩:=EJ r3 _ h3;exact ⟨m',hm,⟨σ3,r3,hj'⟩,fr.trans fr'⟩
  |_=>exact ⟨⟨σ3,r3,h3⟩,fr.trans fr'⟩
 | .rangeFunc ..,_,_,_,_,_,_,h,_=>h.elim
 | .label _,_,K,σ,E,F,_,h,r=>Ew ⟨⟨σ,r,h⟩,.refl⟩
 | .scope c,hh,K,σ,E,F,hK,h,r=>by
  refine Ex (fg (km c hh (noG K) σ E F (λc σ F h=>hK c σ F h) h r) λx E' F' q=> ?_);obtain ⟨⟨σ',r',h'⟩,fr⟩:=q;cases x with
  |goto l=>exact h'.elim
  |_=>exact ⟨⟨σ',r',h'⟩,fr⟩
 | .goto _,_,_,_,_,_,_,h,_=>h.elim
 | .refuse _,_,_,_,_,_,_,h,_=>h.elim
inductive RVs (P:Program) (E:En) (F:PH):List ResultVar->Ξ->Prop
 |nil:RVs P E F [] []
 |cons {r:ResultVar} {v:Value} {l:List ResultVar} {vs:Ξ} (h:kF P E F r v) (t:RVs P E F l vs):RVs P E F (r::l) (v::vs)
theorem jr (r:Rel σ E):∀(l:List ResultVar) {K:Ξ->Prop},qY P σ l F K->∃vs,RVs P E F l vs/\K vs
 |[],K,h=>⟨[],.nil,h⟩
 | .tmp t::l,K,h=>by
  unfold qY at h;split at h
  ·rename_i v hv;obtain ⟨vs,h1,h2⟩:=jr r l h;exact ⟨v::vs,.cons (u9 (cX r rfl hv)) h1,h2⟩
  ·exact h.elim
 | .cell x t::l,K,h=>by
  unfold qY at h;split at h
  ·rename_i a hw;split at h
   ·exact h.elim
   ·rename_i d hd;split at h
    ·rename_i hk;split at h
     ·rename_i m b hz;obtain ⟨v,h1,h2,h⟩:=h;obtain ⟨vs,h3,h4⟩:=jr r l h;exact ⟨_,.cons (Er (cX r hw rfl) hd (vd hk) hz h1 h2) h3,h4⟩
     ·exact h.elim
    ·rename_i hk;obtain ⟨v,h1,h⟩:=h;obtain ⟨vs,h3,h4⟩:=jr r l h;exact ⟨_,.cons (Es (cX r hw rfl) hd (pv hk) h1) h3,h4⟩
  ·exact h.elim
theorem EL {fn:Func} {vs:Ξ} (h:RVs P E F fn.results.toList vs) (hl:Nat.ble fn.results.size 4=true):qM P fn E F (Pj vs):=by
 have hl:=Wt hl;have key:∀l,fn.results.toList=l->fn.results=l.toArray:=λl h=>by rw [<- h]
 generalize hg:fn.results.toList=l at h;have hk:=key _ hg;have hlen:l.length<=4:=by rw [<- hg];simpa using hl
 cases h with
 |nil=>exact S6 hk
 |cons h1 t=>
  cases t with
  |nil=>exact Oh hk h1
  |cons h2 t=>
   cases t with
   |nil=>exact Oi hk h1 h2
   |cons h3 t=>
    cases t with
    |nil=>exact S7 hk h1 h2 h3
    |cons h4 t=>
     cases t with
     |nil=>exact Th hk h1 h2 h3 h4
     |cons h5 t=>simp at hlen
theorem Mp {fn:Func} {R:Value->Ψ} {x:Exit} {M:Δ} {E0:En} (h:QK M E0 (Pk P fn R) x E F):Ia P fn R x E F:=by
 obtain ⟨⟨σ,r,h⟩,_⟩:=h;cases x with
 |normal=>obtain ⟨hl,h⟩:=eO h;obtain ⟨vs,h1,h2⟩:=jr r _ h;exact ⟨_,EL h1 hl,h2⟩
 |ret=>obtain ⟨hl,h⟩:=eO h;obtain ⟨vs,h1,h2⟩:=jr r _ h;exact ⟨_,EL h1 hl,h2⟩
 |_=>exact h.elim
theorem qU:∀(vs:Ξ) (ts:List TypeId) (i:Nat) (σ:Sy),(∀j v,vs[j]? =some v->E (i+j)=v)->Rel σ E->Rel (Bu P i ts vs σ) E
 |[],ts,i,σ,_,r=>by cases ts<;>exact r
 |v::vs,ts,i,σ,h,r=>by
  have hi:E i=v:=h 0 v rfl;have step:∀k:Kd,Rel (σ.put i (ofk k v)) E:=λk=>by have:=r.put (d:=i) (E9 (T:=σ.T) k v);rw [xv hi] at this;exact this
  have hn:∀j u,vs[j]? =some u->E (i+1+j)=u:=λj u hj=>by have:=h (j+1) u (by simpa using hj);rw [show i+1+j=i+(j+1) by omega];exact this
  cases ts with
  |nil=>exact qU vs [] (i+1) _ hn (step _)
  |cons t ts=>exact qU vs ts (i+1) _ hn (step _)
theorem Mq {k:Nat} {h:i7} {args:Ξ} {R:Value->Ψ} (hs:sxF P k h args R F):ai P k args.toArray F R:=by
 unfold sxF at hs;split at hs
 ·exact hs.elim
 ·rename_i fn hf;split at hs
  ·exact hs.elim
  ·rename_i c hb;obtain ⟨hl,hs⟩:=eO hs;refine Ib hf hb rfl hl (fg (km c h _ _ (Mh args) F (λc σ F h=>h) hs (qU args _ 0 _ (λj v hj=> ?_) ⟨λt=>True.intro,λj _=>rfl⟩)) λx E F q=>Mp q);simp only [Vd];show args.getD j undef=v;rw [Vr,hj];rfl
theorem sxC {k:Nat} (h:i7) {args:Ξ} {R:Value->Ψ} {b:Prop} (e:b=sxF P k h args R F) (hb:b):ai P k args.toArray F R:=Mq (e▸hb)
end
end Go.Proofs.YtcemhghkipgdiaaGreatDoor.Rx
namespace Go.Proofs.YtcemhghkipgdiaaGreatDoor
open Go.IntKind (i64 u8 u64)
open Go Go.Proofs.Tryz
abbrev Am (b o:Nat):Addr:=Addr.mk b o none
abbrev Pp (b:Nat):Value:=.pointer (some (Am b 0))
abbrev vi (n:Int):Value:=.int .i64 n
abbrev Sb (b n:Nat):Sl:=Sl.mk (some (Am b 0)) n n
abbrev zG:Γ:= #[.slice none 0 0,.slice none 0 0,.int .i64 0,.slice none 0 0,.slice none 0 0,.slice none 0 0,.int .i64 0,.slice none 0 0,.slice none 0 0]
abbrev zP:Γ:= #[.string ⟨#[]⟩,.int .i64 0,.slice none 0 0,.slice none 0 0,.int .i64 0,.bool false,.int .i64 0,.slice none 0 0,.bool false,.int .i64 0,.int .i64 0,.int .i64 0,.int .i64 0]
abbrev zT:Γ:= #[.string ⟨#[]⟩,.int .i64 0,.string ⟨#[]⟩,.slice none 0 0,.string ⟨#[]⟩,.slice none 0 0,.int .i64 0]
abbrev zF:Γ:= #[.int .i64 0,.int .i64 0,.int .i64 0,.int .i64 0,.int .i64 0,.int .i64 0,.slice none 0 0,.slice none 0 0,.int .i64 0]
abbrev zL:Γ:= #[.slice none 0 0,.int .i64 0,.slice none 0 0,.int .i64 0]
abbrev zD:Γ:= #[.slice none 0 0,.int .i64 0]
section
variable (F:PH) (a:Addr)
abbrev Rr (n:Nat) (a:Addr) (R:VR) (F:PH):Prop:=∃v:Γ,v.size=n/\F.row a v/\R (.agg v) F
abbrev Lr (n:Nat) (a:Addr) (K:Γ->Prop):Prop:=∃v:Γ,v.size=n/\F.row a v/\K v
abbrev Li (K:Int->Prop):Prop:=∃v:Int,F.cell a=some (.int .i64 v)/\K v
abbrev Lk (k:IntKind) (a:Addr) (K:Int->Prop):Prop:=∃v:Int,F.cell a=some (.int k v)/\K v
abbrev Lq (K:Θ->Prop):Prop:=∃v:Θ,F.cell a=some (.pointer v)/\K v
abbrev Ls (K:Sl->Prop):Prop:=∃v:Sl,F.cell a=some (Sl.v v)/\K v
abbrev Lb (K:Bool->Prop):Prop:=∃v:Bool,F.cell a=some (.bool v)/\K v
abbrev Lx (K:ByteArray->Prop):Prop:=∃v:ByteArray,F.cell a=some (.string v)/\K v
end
abbrev Ix (s:Sl) (i:Int) (K:Addr->Prop):Prop:=∃a:Addr,s.base=some a/\0<=i/\i<(s.len:Int)/\K a
abbrev Fn (f:Value) (K:Nat->Γ->Γ->Prop):Prop:=∃(k:Nat) (fst cap:Γ),f=.func (.func k) fst cap/\aE prog k=true/\K k fst cap
section
variable (k:Nat) (ar:Γ) (F:PH)
abbrev Ap (K:Sl->Ψ):Prop:=aG prog (Builtin.append_ #[k,k] k ar) F λv F=>∃x:Sl,v=Sl.v x/\K x F
abbrev Ca (K:Γ->Ψ):Prop:=ai prog k ar F λv F=>∃x:Γ,v=.agg x/\K x F
abbrev Ci (K:Ω):Prop:=ai prog k ar F λv F=>∃x:Int,v=.int .i64 x/\K x F
abbrev Cbo (K:Bool->Ψ):Prop:=ai prog k ar F λv F=>∃x:Bool,v=.bool x/\K x F
abbrev Cs (K:Sl->Ψ):Prop:=ai prog k ar F λv F=>∃x:Sl,v=Sl.v x/\K x F
abbrev Cu (K:Ψ):Prop:=ai prog k ar F λv F=>v=Value.tuple #[]/\K F
end
abbrev Nb (F:PH) (o:Obj) (K:Nat->Ψ):Prop:=∀b,F b=none->atF (F.set b o) (K b)
abbrev Bc (c A B:Prop):Prop:=(c->A)/\(¬c->B)
abbrev Bb (c:Bool) (A B:Prop):Prop:=(c=true->A)/\(c=false->B)
abbrev Lp {α:Type} (x:α) (F:PH) (B:(α->Ψ)->α->Ψ):Prop:=∃(I:Nat->α->Ψ) (m:Nat),I m x F/\∀m x F,I m x F->B (λy F=>∃m',m'<m/\I m' y F) x F
variable {R:VR} {F:PH}
set_option maxRecDepth 10000
set_option maxHeartbeats 4000000
def OT (a:Bool) (R:VR) (F:PH):Prop:=Nb F (.cells zD 31) λb F=>Bb (a) (au F (Am b 0) 2 (#[.slice none 0 0,(vi 1)]:Γ) λF=>Rr 2 (Am b 0) R F) (au F (Am b 0) 2 zD λF=>Rr 2 (Am b 0) R F)
theorem Tj {a:Bool} (h:OT a R F):ai prog 27 #[.bool a] F R:=Rx.sxC (args:=[.bool a]) .N (by kernel_rfl) h
def OU (d e:Γ) (R:VR) (F:PH):Prop:=Nb F (.cells d 31) λi F=>Nb F (.cells e 31) λj F=>Nb F (.cells zD 31) λh F=>Lr F 2 (Am i 0) λf=>Lr F 2 (Am j 0) λg=>ai prog 77 #[.agg f,.agg g,.func (.func 78) #[] #[]] F λv F=>∃c,∃a,v=(.tuple #[.agg c,(vi a)])/\au F (Am h 0) 2 c λF=>Lr F 2 (Am h 0) λb=>R (.tuple #[.agg b,(vi a)]) F
theorem Tm {a:Γ} {b:Γ} (h:OU a b R F):ai prog 28 #[.agg a,.agg b] F R:=Rx.sxC (args:=[.agg a,.agg b]) .N (by kernel_rfl) h
def OV (d e:Γ) (R:VR) (F:PH):Prop:=Nb F (.cells d 31) λh F=>Nb F (.cells e 31) λi F=>Li F (Am h 1) λf=>Li F (Am i 1) λg=>Bc (f=g) (Ls F (Am h 0) λa=>Ls F (Am i 0) λb=>Cbo 79 #[Sl.v a,Sl.v b] F λc F=>R (.bool c) F) (R (.bool false) F)
theorem Tn {a:Γ} {b:Γ} (h:OV a b R F):ai prog 31 #[.agg a,.agg b] F R:=Rx.sxC (args:=[.agg a,.agg b]) .N (by kernel_rfl) h
def OW (d e:Γ) (R:VR) (F:PH):Prop:=Nb F (.cells d 31) λi F=>Nb F (.cells e 31) λj F=>Nb F (.cells zD 31) λh F=>Lr F 2 (Am i 0) λf=>Lr F 2 (Am j 0) λg=>ai prog 77 #[.agg f,.agg g,.func (.func 87) #[] #[]] F λv F=>∃c,∃a,v=(.tuple #[.agg c,(vi a)])/\au F (Am h 0) 2 c λF=>Lr F 2 (Am h 0) λb=>R (.tuple #[.agg b,(vi a)]) F
theorem To {a:Γ} {b:Γ} (h:OW a b R F):ai prog 35 #[.agg a,.agg b] F R:=Rx.sxC (args:=[.agg a,.agg b]) .N (by kernel_rfl) h
def EM (a:Int) (R:VR) (F:PH):Prop:=R (.bool (decide (a=1))) F
def EN (j:Ω) (i:Int) (k:Nat) (R:VR) (a:Int) (F:PH):Prop:=Bc (1<a) (Ls F (Am k 0) λd=>Ix d (i64.wrap (a - 2)) λe=>∃b,b.size=3/\F.row (Addr.add e (Int.toNat (i64.wrap (a - 2))*3)) b/\Nb F (.cells (#[vi 0,vi 0,vi 0]) 124) λh F=>au F (Am h 0) 3 b λF=>Li F (Am h 0) λc=>0<=c/\Bc ((u64.wrap ((BitVec.ofInt (u64).bits (Int.fdiv i (2 ^ (min (Int.toNat c) (u64).bits))) &&& BitVec.ofInt (u64).bits 1).toNat))=1) (Li F (Am h 2) λf=>j f F) (Li F (Am h 1) λg=>j g F)) (EM a R F)
def OX (c:Γ) (d:Int) (R:VR) (F:PH):Prop:=Nb F (.cells c 31) λe F=>Lr F 2 (Am e 0) λf=>Ci 100 #[.agg f] F λg F=>Bc (g≠0) (R (.bool false) F) (Li F (Am e 1) λb=>Lp b F λN a F=>EN N d e R a F)
theorem Tp {a:Γ} {b:Int} (h:OX a b R F):ai prog 41 #[.agg a,.int .u64 b] F R:=Rx.sxC (args:=[.agg a,.int .u64 b]) (.T .N (.T .N (.T .N (.J false [(5,.int .i64)] (.L [(5,.int .i64)] .N) .N)))) (by kernel_rfl) h
def OY (m n:Γ) (c:Value) (R:VR) (F:PH):Prop:=Nb F (.cells m 31) λp F=>Nb F (.cells n 31) λq F=>c.cells= #[c]/\Nb F (.cells #[c] 121) λr F=>Nb F (.cells zD 31) λl F=>Lr F 2 (Am p 0) λj=>Lr F 2 (Am q 0) λe=>j.size=2/\e.size=2/\Nb F (.cells (wr (wr zL 0 j.toList) 2 e.toList) 31) λo F=>Ci 95 #[Sl.v (Sb o 2)] F λf F=>Bc (f≠0) (au F (Am l 0) 2 zD λF=>Lr F 2 (Am l 0) λd=>R (.tuple #[.agg d,(vi f)]) F) (Lr F 2 (Am p 0) λg=>Lr F 2 (Am q 0) λh=>g.size=2/\h.size=2/\zD.size=2/\Ca 127 #[.agg (wr (wr (wr (#[.slice none 0 0,vi 0,.slice none 0 0,vi 0,.slice none 0 0,vi 0]:Γ) 0 g.toList) 2 h.toList) 4 zD.toList),.func (.func 128) #[] #[(Pp r)]] F λk F=>ai prog 126 #[.agg k] F λv F=>∃i,∃a,v=(.tuple #[.agg i,(vi a)])/\au F (Am l 0) 2 i λF=>Lr F 2 (Am l 0) λb=>R (.tuple #[.agg b,(vi a)]) F)
theorem Tq {b:Γ} {c:Γ} {a:Value} (h:OY b c a R F):ai prog 77 #[.agg b,.agg c,a] F R:=Rx.sxC (args:=[.agg b,.agg c,a]) .N (by kernel_rfl) h
def OZ (a b:Bool) (R:VR) (F:PH):Prop:=Bb (a) (R (.bool true) F) (R (.bool b) F)
theorem Ts {a:Bool} {b:Bool} (h:OZ a b R F):ai prog 78 #[.bool a,.bool b] F R:=Rx.sxC (args:=[.bool a,.bool b]) .N (by kernel_rfl) h
def O0 (a b:Bool) (R:VR) (F:PH):Prop:=Bb (a) (R (.bool b) F) (R (.bool false) F)
theorem Tt {a:Bool} {b:Bool} (h:O0 a b R F):ai prog 87 #[.bool a,.bool b] F R:=Rx.sxC (args:=[.bool a,.bool b]) .N (by kernel_rfl) h
def EO (R:VR) (F:PH):Prop:=R (vi 0) F
def EP (h:Ω) (c:Sl) (R:VR) (a:Int) (F:PH):Prop:=Bc (a<(c.len:Int)) (Ix c a λd=>Lr F 2 (Addr.add d (Int.toNat a*2)) λe=>Nb F (.cells zD 31) λg F=>au F (Am g 0) 2 e λF=>Lr F 2 (Am g 0) λf=>Ci 100 #[.agg f] F λb F=>Bc (b≠0) (R (vi b) F) (h (i64.wrap (a+1)) F)) (EO R F)
def O1 (a:Sl) (R:VR) (F:PH):Prop:=Lp 0 F λN b F=>EP N a R b F
theorem Tu {a:Sl} (h:O1 a R F):ai prog 95 #[Sl.v a] F R:=Rx.sxC (args:=[Sl.v a]) (.T .N (.J false [] (.T .N (.L [(8,.int .i64)] .N)) .N)) (by kernel_rfl) h
def qV (j:Int) (d:Bool) (k i:Nat) (f:Bool) (R:VR) (F:PH):Prop:=Bb (f) (au F (Am i 0) 2 zD λF=>Lr F 2 (Am i 0) λb=>R (.tuple #[.agg b,(vi 1)]) F) (Lr F 2 (Am k 0) λg=>Ca 157 #[.agg g,(vi j),.bool d] F λh F=>ai prog 126 #[.agg h] F λv F=>∃e,∃a,v=(.tuple #[.agg e,(vi a)])/\au F (Am i 0) 2 e λF=>Lr F 2 (Am i 0) λc=>R (.tuple #[.agg c,(vi a)]) F)
def O2 (f:Γ) (b:Int) (a:Bool) (R:VR) (F:PH):Prop:=Nb F (.cells f 31) λg F=>Nb F (.cells zD 31) λe F=>Lr F 2 (Am g 0) λh=>Ci 100 #[.agg h] F λd F=>Bc (d≠0) (au F (Am e 0) 2 zD λF=>Lr F 2 (Am e 0) λc=>R (.tuple #[.agg c,(vi d)]) F) (Bc (b<0) (qV b a g e true R F) (qV b a g e (decide (63<b)) R F))
theorem Tv {b:Γ} {c:Int} {a:Bool} (h:O2 b c a R F):ai prog 98 #[.agg b,(vi c),.bool a] F R:=Rx.sxC (args:=[.agg b,(vi c),.bool a]) (.T .N (.T .N (.T (.J false [(20,.bool)] .N .N) .N))) (by kernel_rfl) h
def Bk (f:Nat) (R:VR) (F:PH):Prop:=Li F (Am f 1) λg=>Bc (g<0) (R (vi 20) F) (Li F (Am f 1) λh=>Ls F (Am f 0) λi=>Bc ((i64.wrap ((i.len:Int)+1))<h) (R (vi 20) F) (Ls F (Am f 0) λj=>Nb F (.cells (#[Sl.v j,.map none]:Γ) 199) λk F=>Li F (Am f 1) λa=>Ca 159 #[(Pp k),(vi a)] F λb F=>Nb F (.cells zD 31) λl F=>au F (Am l 0) 2 b λF=>Lr F 2 (Am l 0) λc=>Lr F 2 (Am f 0) λd=>Cbo 31 #[.agg c,.agg d] F λe F=>Bb ((!e)) (R (vi 20) F) (R (vi 0) F)))
def Bl (A:Ω) (z g:Nat) (d:Sl) (R:VR) (a:Int) (F:PH):Prop:=Bc (a<(d.len:Int)) (Ix d a λh=>Lr F 3 (Addr.add h (Int.toNat a*3)) λi=>Nb F (.cells (#[vi 0,vi 0,vi 0]) 124) λb F=>au F (Am b 0) 3 i λF=>Li F (Am b 0) λj=>Bc (j<0) (R (vi 20) F) (Li F (Am b 0) λk=>Bc (63<k) (R (vi 20) F) (Li F (Am b 1) λl=>Bc (l<0) (R (vi 20) F) (Li F (Am b 2) λm=>Bc (m<0) (R (vi 20) F) (Li F (Am b 1) λn=>Bc ((i64.wrap (a+1))<n) (R (vi 20) F) (Li F (Am b 2) λo=>Bc ((i64.wrap (a+1))<o) (R (vi 20) F) (Li F (Am b 1) λp=>Li F (Am b 2) λq=>Bc (p=q) (R (vi 20) F) (Lr F 3 (Am b 0) λr=>∃e,rdo prog (Instr.lookup 195 (.map (some g)) (.agg r) false) F (.bool e)/\Bb (e) (R (vi 20) F) (Lr F 2 (Am z 0) λs=>Li F (Am b 1) λt=>Li F (Am b 0) λc=>Ci 155 #[.agg s,(vi t)] F λu F=>F.cell (Am b 0)=some (vi c)/\Bc (u<=c) (R (vi 20) F) (Lr F 2 (Am z 0) λv=>Li F (Am b 2) λw=>Li F (Am b 0) λf=>Ci 155 #[.agg v,(vi w)] F λx F=>F.cell (Am b 0)=some (vi f)/\F.cell (Am b 0)=some (vi c)/\Bc (x<=f) (R (vi 20) F) (Lr F 3 (Am b 0) λy=>aG prog (Instr.mapUpdate 195 (.map (some g)) (.agg y) (.bool true)) F λ_ F=>A (i64.wrap (a+1)) F))))))))))) (Bk z R F)
def J5 (c:Γ) (R:VR) (F:PH):Prop:=Nb F (.cells c 31) λd F=>Ls F (Am d 0) λe=>Bc ((4096:Int)<(e.len:Int)) (R (vi 2) F) (Nb F (.map #[] 0) λf F=>Ls F (Am d 0) λa=>Lp 0 F λN b F=>Bl N d f a R b F)
theorem O3 {a:Γ} (h:J5 a R F):ai prog 100 #[.agg a] F R:=Rx.sxC (args:=[.agg a]) (.T .N (.T .N (.T .N (.J false [] (.T .N (.L [(15,.int .i64)] .N)) .N)))) (by kernel_rfl) h
def J6 (d:Γ) (R:VR) (F:PH):Prop:=Nb F (.cells d 31) λg F=>Nb F (.cells zD 31) λc F=>Ls F (Am g 0) λe=>Bc ((4096:Int)<(e.len:Int)) (au F (Am c 0) 2 zD λF=>Lr F 2 (Am c 0) λb=>R (.tuple #[.agg b,(vi 2)]) F) (Lr F 2 (Am g 0) λf=>au F (Am c 0) 2 f λF=>Lr F 2 (Am c 0) λa=>R (.tuple #[.agg a,(vi 0)]) F)
theorem O4 {a:Γ} (h:J6 a R F):ai prog 126 #[.agg a] F R:=Rx.sxC (args:=[.agg a]) .N (by kernel_rfl) h
def J7 (n:Γ) (d:Value) (R:VR) (F:PH):Prop:=Nb F (.cells n 169) λe F=>d.cells= #[d]/\Nb F (.cells #[d] 170) λs F=>Nb F (.cells zD 31) λq F=>ai prog 172 #[] F λv F=>∃k,v=(.pointer k)/\Nb F (.cells (#[.pointer none]) 196) λm F=>sto F (Am m 0) (.pointer k) λF=>Nb F (.map #[] 0) λt F=>Nb F (.cells (#[.map none]) 213) λr F=>sto F (Am r 0) (.map (some t)) λF=>Nb F (.cells (#[.nilFunc]) 214) λo F=>sto F (Am o 0) (.func (.func 173) #[] #[(Pp s),(Pp r),(Pp e),(Pp o),(Pp m)]) λF=>Lq F (Am m 0) λf=>∃g:Value,F.cell (Am o 0)=some g/\0<=(0:Int)/\(0:Int)<3/\∃a,F.cell (Addr.add (Addr.add (Am e 0) (Int.toNat 0*2)) 1)=some (vi a)/\0<=(1:Int)/\(1:Int)<3/\∃b,F.cell (Addr.add (Addr.add (Am e 0) (Int.toNat 1*2)) 1)=some (vi b)/\0<=(2:Int)/\(2:Int)<3/\∃c,F.cell (Addr.add (Addr.add (Am e 0) (Int.toNat 2*2)) 1)=some (vi c)/\Fn g λp i j=>ai prog p (i++([(Value.agg (#[(vi a),(vi b),(vi c)]:Γ))]).toArray++j) F λv F=>∃h,v=(vi h)/\F.cell (Addr.add (Addr.add (Am e 0) (Int.toNat 2*2)) 1)=some (vi c)/\F.cell (Addr.add (Addr.add (Am e 0) (Int.toNat 1*2)) 1)=some (vi b)/\F.cell (Addr.add (Addr.add (Am e 0) (Int.toNat 0*2)) 1)=some (vi a)/\F.cell (Am m 0)=some (.pointer f)/\Ca 159 #[.pointer f,(vi h)] F λl F=>F.cell (Addr.add (Addr.add (Am e 0) (Int.toNat 2*2)) 1)=some (vi c)/\F.cell (Addr.add (Addr.add (Am e 0) (Int.toNat 1*2)) 1)=some (vi b)/\F.cell (Addr.add (Addr.add (Am e 0) (Int.toNat 0*2)) 1)=some (vi a)/\au F (Am q 0) 2 l λF=>Rr 2 (Am q 0) R F
theorem O5 {b:Γ} {a:Value} (h:J7 b a R F):ai prog 127 #[.agg b,a] F R:=Rx.sxC (args:=[.agg b,a]) .N (by kernel_rfl) h
def J8 (f g _:Bool) (h:Θ) (R:VR) (F:PH):Prop:=∃a,h=some a/\∃e:Value,F.cell a=some e/\Fn e λi c d=>ai prog i (c++([(Value.bool f),(Value.bool g)]).toArray++d) F λv F=>∃b,v=(Value.bool b)/\R (.bool b) F
theorem O6 {a:Bool} {b:Bool} {c:Bool} {d:Θ} (h:J8 a b c d R F):ai prog 128 #[.bool a,.bool b,.bool c,.pointer d] F R:=Rx.sxC (args:=[.bool a,.bool b,.bool c,.pointer d]) .N (by kernel_rfl) h
def J9 (d:Γ) (b:Int) (R:VR) (F:PH):Prop:=Nb F (.cells d 31) λf F=>Bc (b<2) (R (vi 64) F) (Ls F (Am f 0) λe=>Ix e (i64.wrap (b - 2)) λc=>∃a,F.cell (Addr.add c (Int.toNat (i64.wrap (b - 2))*3))=some (vi a)/\R (vi a) F)
theorem O7 {a:Γ} {b:Int} (h:J9 a b R F):ai prog 155 #[.agg a,(vi b)] F R:=Rx.sxC (args:=[.agg a,(vi b)]) .N (by kernel_rfl) h
def Ka (i:Γ) (a j:Int) (R:VR) (F:PH):Prop:=Nb F (.cells i 31) λk F=>Lr F 2 (Am k 0) λl=>Ci 155 #[.agg l,(vi a)] F λd F=>Bc (d≠j) (R (.tuple #[(vi a),(vi a)]) F) (Ls F (Am k 0) λe=>Ix e (i64.wrap (a - 2)) λf=>∃b,F.cell (Addr.add (Addr.add f (Int.toNat (i64.wrap (a - 2))*3)) 1)=some (vi b)/\Ls F (Am k 0) λg=>Ix g (i64.wrap (a - 2)) λh=>∃c,F.cell (Addr.add (Addr.add h (Int.toNat (i64.wrap (a - 2))*3)) 2)=some (vi c)/\R (.tuple #[(vi b),(vi c)]) F)
theorem O8 {a:Γ} {b:Int} {c:Int} (h:Ka a b c R F):ai prog 156 #[.agg a,(vi b),(vi c)] F R:=Rx.sxC (args:=[.agg a,(vi b),(vi c)]) .N (by kernel_rfl) h
def Bm (h g:Nat) (b:Θ) (c:Sl) (R:VR) (F:PH):Prop:=Li F (Am h 1) λa=>Ix c a λd=>Li F (Addr.add d (Int.toNat a*1)) λe=>Ca 159 #[.pointer b,(vi e)] F λf F=>au F (Am g 0) 2 f λF=>Rr 2 (Am g 0) R F
def lQ (l:Ω) (_:Int) (_:Bool) (_ _:Nat) (e:Θ) (f:Sl) (a:Int) (j:Nat) (_:Sl) (c b:Int) (_:VR) (F:PH):Prop:=Li F (Am j 0) λg=>Ci 174 #[.pointer e,(vi g),(vi c),(vi b)] F λh F=>Ix f (i64.wrap (a+2)) λi=>sto F (Addr.add i (Int.toNat (i64.wrap (a+2))*1)) (vi h) λF=>l (i64.wrap (a+1)) F
def Bn (s:Ω) (i:Int) (a:Bool) (q r:Nat) (f:Θ) (b d:Sl) (R:VR) (c:Int) (F:PH):Prop:=Bc (c<(d.len:Int)) (Ix d c λl=>Lr F 3 (Addr.add l (Int.toNat c*3)) λm=>Nb F (.cells (#[vi 0,vi 0,vi 0]) 124) λe F=>au F (Am e 0) 3 m λF=>Li F (Am e 1) λj=>Ix b j λn=>Li F (Addr.add n (Int.toNat j*1)) λg=>Li F (Am e 2) λk=>Ix b k λo=>Li F (Addr.add o (Int.toNat k*1)) λh=>Li F (Am e 0) λp=>Bc (p=i) (Bb (a) (lQ s i a q r f b c e d h h R F) (lQ s i a q r f b c e d g g R F)) (lQ s i a q r f b c e d g h R F)) (Bm q r f b R F)
def Kb (h:Γ) (i:Int) (a:Bool) (R:VR) (F:PH):Prop:=Nb F (.cells h 31) λj F=>Nb F (.cells zD 31) λk F=>ai prog 172 #[] F λv F=>∃c,v=(.pointer c)/\Ls F (Am j 0) λd=>aG prog (Instr.makeSlice 67 (vi (i64.wrap ((d.len:Int)+2))) (vi (i64.wrap ((d.len:Int)+2)))) F λv F=>∃b,v=(Sl.v b)/\Ix b 1 λe=>sto F (Addr.add e (Int.toNat 1*1)) (vi 1) λF=>Ls F (Am j 0) λf=>Lp 0 F λN g F=>Bn N i a j k c b f R g F
theorem O9 {b:Γ} {c:Int} {a:Bool} (h:Kb b c a R F):ai prog 157 #[.agg b,(vi c),.bool a] F R:=Rx.sxC (args:=[.agg b,(vi c),.bool a]) (.T .N (.T .N (.T .N (.T .N (.J false [] (.T .N (.L [(24,.int .i64)] (.T .N (.T .N (.T (.T .N (.T .N (.J false [(11,.int .i64),(12,.int .i64)] .N .N))) .N))))) .N))))) (by kernel_rfl) h
def Kc (h:Θ) (a:Int) (R:VR) (F:PH):Prop:=Nb F (.cells #[.pointer h] 196) λn F=>Nb F (.cells zD 31) λl F=>Nb F (.cells zD 31) λg F=>au F (Am g 0) 2 zD λF=>Nb F (.map #[] 0) λi F=>aG prog (Instr.mapUpdate 238 (.map (some i)) (vi 0) (vi 0)) F λ_ F=>aG prog (Instr.mapUpdate 238 (.map (some i)) (vi 1) (vi 1)) F λ_ F=>Nb F (.cells (#[.map none]) 238) λm F=>sto F (Am m 0) (.map (some i)) λF=>Nb F (.cells (#[.nilFunc]) 225) λj F=>sto F (Am j 0) (.func (.func 190) #[] #[(Pp m),(Pp n),(Pp j),(Pp g)]) λF=>∃b:Value,F.cell (Am j 0)=some b/\Fn b λk d e=>ai prog k (d++([(vi a)]).toArray++e) F λv F=>∃c,v=(vi c)/\sto F (Am g 1) (vi c) λF=>Lr F 2 (Am g 0) λf=>au F (Am l 0) 2 f λF=>Rr 2 (Am l 0) R F
theorem Pa {b:Θ} {a:Int} (h:Kc b a R F):ai prog 159 #[.pointer b,(vi a)] F R:=Rx.sxC (args:=[.pointer b,(vi a)]) .N (by kernel_rfl) h
def Ke (R:VR) (F:PH):Prop:=Nb F (.map #[] 0) λa F=>Nb F (.cells (#[.slice none 0 0,.map (some a)]:Γ) 199) λb F=>R (Pp b) F
theorem Pb (h:Ke R F):ai prog 172 #[] F R:=Rx.sxC (args:=[]) .N (by kernel_rfl) h
def Bo (n:Addr) (u w:Θ) (B:Nat) (o p q:Int) (x y:Nat) (R:VR) (F:PH):Prop:=∃a,u=some a/\∃c:Value,F.cell a=some c/\Lr F 3 (Am x 0) λr=>Fn c λz j k=>ai prog z (j++([(Value.agg r)]).toArray++k) F λv F=>∃d,v=(vi d)/\∃b,w=some b/\Lq F b λe=>∃f:Value,F.cell a=some f/\Lr F 3 (Am y 0) λs=>Fn f λA l m=>ai prog A (l++([(Value.agg s)]).toArray++m) F λv F=>∃g,v=(vi g)/\F.cell b=some (.pointer e)/\Ci 174 #[.pointer e,(vi (min (min o p) q)),(vi d),(vi g)] F λh F=>∃i:Option Nat,F.cell n=some (.map i)/\Lr F 3 (Am B 0) λt=>aG prog (Instr.mapUpdate 213 (.map i) (.agg t) (vi h)) F λ_ F=>R (vi h) F
def Bp (p:Ω) (g h:Addr) (m n:Θ) (o:Nat) (c d e:Int) (i j:Nat) (R:VR) (a:Int) (F:PH):Prop:=Bc (a<3) (0<=a/\a<3/\Lr F 2 (Addr.add h (Int.toNat a*2)) λk=>0<=a/\a<3/\Li F (Addr.add (Am o 0) (Int.toNat a*1)) λl=>ai prog 156 #[.agg k,(vi l),(vi (min (min c d) e))] F λv F=>∃f,∃b,v=(.tuple #[(vi f),(vi b)])/\0<=a/\a<3/\sto F (Addr.add (Am i 0) (Int.toNat a*1)) (vi f) λF=>0<=a/\a<3/\sto F (Addr.add (Am j 0) (Int.toNat a*1)) (vi b) λF=>p (i64.wrap (a+1)) F) (Bo g m n o c d e i j R F)
def gp (B C D E G:Θ) (b:Nat) (p:Bool) (R:VR) (F:PH):Prop:=Bb (p) (∃g,B=some g/\∃h:Value,F.cell g=some h/\0<=(0:Int)/\(0:Int)<3/\Li F (Addr.add (Am b 0) (Int.toNat 0*1)) λq=>0<=(1:Int)/\(1:Int)<3/\Li F (Addr.add (Am b 0) (Int.toNat 1*1)) λr=>0<=(2:Int)/\(2:Int)<3/\Li F (Addr.add (Am b 0) (Int.toNat 2*1)) λs=>Fn h λH n o=>ai prog H (n++([(Value.bool (decide (q=1))),(Value.bool (decide (r=1))),(Value.bool (decide (s=1)))]).toArray++o) F λv F=>∃i,v=(Value.bool i)/\Bb (i) (R (vi 1) F) (R (vi 0) F)) (∃c,C=some c/\∃j:Option Nat,F.cell c=some (.map j)/\Lr F 3 (Am b 0) λt=>∃(k:Int) (d:Bool),rdo prog (Instr.lookup 213 (.map j) (.agg t) true) F (.tuple #[(vi k),.bool d])/\Bb (d) (R (vi k) F) (∃a,D=some a/\0<=(0:Int)/\(0:Int)<3/\Lr F 2 (Addr.add a (Int.toNat 0*2)) λu=>0<=(0:Int)/\(0:Int)<3/\Li F (Addr.add (Am b 0) (Int.toNat 0*1)) λw=>0<=(1:Int)/\(1:Int)<3/\Lr F 2 (Addr.add a (Int.toNat 1*2)) λl=>0<=(1:Int)/\(1:Int)<3/\Li F (Addr.add (Am b 0) (Int.toNat 1*1)) λm=>0<=(2:Int)/\(2:Int)<3/\Lr F 2 (Addr.add a (Int.toNat 2*2)) λe=>0<=(2:Int)/\(2:Int)<3/\Li F (Addr.add (Am b 0) (Int.toNat 2*1)) λf=>Ci 155 #[.agg u,(vi w)] F λx F=>F.cell (Addr.add (Am b 0) (Int.toNat 2*1))=some (vi f)/\F.row (Addr.add a (Int.toNat 2*2)) e/\F.cell (Addr.add (Am b 0) (Int.toNat 1*1))=some (vi m)/\F.row (Addr.add a (Int.toNat 1*2)) l/\Ci 155 #[.agg l,(vi m)] F λy F=>F.cell (Addr.add (Am b 0) (Int.toNat 2*1))=some (vi f)/\F.row (Addr.add a (Int.toNat 2*2)) e/\Ci 155 #[.agg e,(vi f)] F λz F=>Nb F (.cells (#[vi 0,vi 0,vi 0]) 215) λI F=>Nb F (.cells (#[vi 0,vi 0,vi 0]) 215) λJ F=>Lp 0 F λN A F=>Bp N c a E G b x y z I J R A F))
def Kf (j:Γ) (a b c d e:Θ) (R:VR) (F:PH):Prop:=Nb F (.cells j 215) λf F=>0<=(0:Int)/\(0:Int)<3/\Li F (Addr.add (Am f 0) (Int.toNat 0*1)) λg=>Bc (g<2) (0<=(1:Int)/\(1:Int)<3/\Li F (Addr.add (Am f 0) (Int.toNat 1*1)) λh=>Bc (h<2) (0<=(2:Int)/\(2:Int)<3/\Li F (Addr.add (Am f 0) (Int.toNat 2*1)) λi=>gp a b c d e f (decide (i<2)) R F) (gp a b c d e f false R F)) (gp a b c d e f false R F)
theorem Pc {a:Γ} {b:Θ} {c:Θ} {d:Θ} {e:Θ} {f:Θ} (h:Kf a b c d e f R F):ai prog 173 #[.agg a,.pointer b,.pointer c,.pointer d,.pointer e,.pointer f] F R:=Rx.sxC (args:=[.agg a,.pointer b,.pointer c,.pointer d,.pointer e,.pointer f]) (.T .N (.T (.J false [(28,.bool)] .N .N) (.T .N (.T .N (.T .N (.J false [] (.T .N (.L [(64,.int .i64)] .N)) .N)))))) (by kernel_rfl) h
def Kg (o:Θ) (p b c:Int) (R:VR) (F:PH):Prop:=Bc (b=c) (R (vi b) F) (Nb F (.cells (#[vi 0,vi 0,vi 0]) 124) λn F=>au F (Am n 0) 3 (#[(vi p),(vi b),(vi c)]:Γ) λF=>∃a,o=some a/\∃e:Option Nat,F.cell (Addr.add a 1)=some (.map e)/\Lr F 3 (Am n 0) λj=>∃(f:Int) (d:Bool),rdo prog (Instr.lookup 197 (.map e) (.agg j) true) F (.tuple #[(vi f),.bool d])/\Bb ((!d)) (Ls F a λk=>Lr F 3 (Am n 0) λg=>g.size=3/\Nb F (.cells g 124) λq F=>Ap 29 #[Sl.v k,Sl.v (Sb q 1)] F λl F=>sto F a (Sl.v l) λF=>Ls F a λh=>∃i:Option Nat,F.cell (Addr.add a 1)=some (.map i)/\Lr F 3 (Am n 0) λm=>aG prog (Instr.mapUpdate 197 (.map i) (.agg m) (vi (i64.wrap ((h.len:Int)+1)))) F λ_ F=>R (vi (i64.wrap ((h.len:Int)+1))) F) (R (vi f) F))
theorem Pd {c:Θ} {d:Int} {b:Int} {a:Int} (h:Kg c d b a R F):ai prog 174 #[.pointer c,(vi d),(vi b),(vi a)] F R:=Rx.sxC (args:=[.pointer c,(vi d),(vi b),(vi a)]) .N (by kernel_rfl) h
def EQ (c:Int) (H I J K:Θ) (R:VR) (F:PH):Prop:=∃a,H=some a/\∃j:Option Nat,F.cell a=some (.map j)/\∃(k:Int) (d:Bool),rdo prog (Instr.lookup 238 (.map j) (vi c) true) F (.tuple #[(vi k),.bool d])/\Bb (d) (R (vi k) F) (∃l,I=some l/\Lq F l λx=>∃e,x=some e/\Ls F e λy=>Ix y (i64.wrap (c - 2)) λz=>∃f,f.size=3/\F.row (Addr.add z (Int.toNat (i64.wrap (c - 2))*3)) f/\Nb F (.cells (#[vi 0,vi 0,vi 0]) 124) λG F=>au F (Am G 0) 3 f λF=>∃g,J=some g/\∃m:Value,F.cell g=some m/\Li F (Am G 1) λA=>Fn m λL s t=>ai prog L (s++([(vi A)]).toArray++t) F λv F=>∃h,v=(vi h)/\∃n:Value,F.cell g=some n/\Li F (Am G 2) λB=>Fn n λM u w=>ai prog M (u++([(vi B)]).toArray++w) F λv F=>∃i,v=(vi i)/\∃b,K=some b/\Ls F b λC=>Li F (Am G 0) λo=>(#[(vi o),(vi h),(vi i)]:Γ).size=3/\Nb F (.cells (#[(vi o),(vi h),(vi i)]:Γ) 124) λN F=>Ap 29 #[Sl.v C,Sl.v (Sb N 1)] F λD F=>sto F b (Sl.v D) λF=>∃p:Option Nat,F.cell a=some (.map p)/\Ls F b λE=>aG prog (Instr.mapUpdate 238 (.map p) (vi c) (vi (i64.wrap ((E.len:Int)+1)))) F λ_ F=>∃q:Option Nat,F.cell a=some (.map q)/\∃r,rdo prog (Instr.lookup 238 (.map q) (vi c) false) F (vi r)/\R (vi r) F)
theorem Kh {a:Int} {b:Θ} {c:Θ} {d:Θ} {e:Θ} (h:EQ a b c d e R F):ai prog 190 #[(vi a),.pointer b,.pointer c,.pointer d,.pointer e] F R:=Rx.sxC (args:=[(vi a),.pointer b,.pointer c,.pointer d,.pointer e]) .N (by kernel_rfl) h
end Go.Proofs.YtcemhghkipgdiaaGreatDoor
