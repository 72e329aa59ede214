/-
  The diagrams: how memory represents them; the level of a number, the two sides, equality.
-/
import Derived.Test.YtenpmjhnhepfdaaGreatDoorPhx
import Derived.Test.YtenpmjhnhepfdaaGreatDoorPhp
namespace Go.Proofs.YtenpmjhnhepfdaaGreatDoor.Rx
open Go
section
variable {P:Program} {n:Nat} {σ σ0:Sy} {E:En} {F:PH} {K:CK}
theorem ft {c:Code} {Q Q':Exit->En->PH->Prop} (h:HC P n c Q E F) (k:∀x E F,Q x E F->Q' x E F):HC P n c Q' E F:=fun e a w ag st=>
 wp_mono (h e a w ag st) fun _ _ _ ⟨E',F',ag',st',q⟩=>⟨E',F',ag',st',k _ _ _ q⟩
theorem Rel.hav (r:Rel σ E) {M:List Nat} {E':En} (fr:Fr M E E'):Rel (σ.hav M) E':=by
 refine ⟨fun t=> ?_,r.top⟩
 show okV σ.T (bif mU M t then .unk else σ.S t) (E' t)
 cases hm:mU M t with
 |true=>exact True.intro
 |false=>rw [fr t hm];exact r.val t
theorem tU {t:Nat} {k:Kd} {J:k.T->Prop} (h:pay (σ.vw t) k J) (r:Rel σ E):∃x,E t=k.v x/\J x/\∀J':k.T->Prop,J' x->pay (σ.vw t) k J':=by
 cases k<;>simp only [pay] at h ⊢
 case int k=>
  split at h
  ·rename_i k' x hw
   split at h
   ·rename_i hk
    obtain rfl:=of_decide_eq_true hk
    exact ⟨x,cP r hw rfl,h,fun J' h'=>h'⟩
   ·exact h.elim
  ·exact h.elim
 case bool=>
  split at h
  ·rename_i b hw;exact ⟨b,cP r hw rfl,h,fun _ h'=>h'⟩
  ·rename_i i b hw;exact ⟨b,cP r hw rfl,h,fun _ h'=>h'⟩
  ·rename_i i p d hw;exact ⟨_,cP r hw rfl,h,fun _ h'=>h'⟩
  ·exact h.elim
 case ptr=>
  split at h
  ·rename_i a hw;exact ⟨some a,cP r hw rfl,h,fun _ h'=>h'⟩
  ·rename_i i p hw;exact ⟨p,cP r hw rfl,h,fun _ h'=>h'⟩
  ·rename_i p hw;exact ⟨p,cP r hw rfl,h,fun _ h'=>h'⟩
  ·exact h.elim
 case sl=>
  split at h
  ·rename_i b l c hw;exact ⟨⟨b,l,c⟩,cP r hw rfl,h,fun _ h'=>h'⟩
  ·exact h.elim
 case str=>
  split at h
  ·rename_i s hw;exact ⟨s,cP r hw rfl,h,fun _ h'=>h'⟩
  ·exact h.elim
 case map=>
  split at h
  ·rename_i s hw;exact ⟨s,cP r hw rfl,h,fun _ h'=>h'⟩
  ·exact h.elim
 case agg=>
  split at h
  ·rename_i s hw;exact ⟨s,cP r hw rfl,h,fun _ h'=>h'⟩
  ·exact h.elim
 case any=>
  split at h
  ·rename_i v hw;exact ⟨v,cP r rfl hw,h,fun _ h'=>h'⟩
  ·exact h.elim
theorem Ea (r:Rel σ0 E) {t:Nat} {k:Kd} {x:k.T} (hx:E t=k.v x):Rel (σ0.put t (k.nv x)) E:=by
 have:=r.put (d:=t) (pH (T:=σ0.T) k x)
 rw [vX hx] at this
 exact this
theorem zU {f:Sy->PH->Prop} (r:Rel σ E):∀(l:List (Nat×Kd)) {J:Tl l} {σ0:Sy},MW f l J σ0->Rel σ0 E->jap σ l J F->∃σ',Rel σ' E/\f σ' F
 |[],J,σ0,h,r0,hj=>⟨σ0,r0,h F hj⟩
 | (t,k)::l,J,σ0,h,r0,hj=>by
  obtain ⟨x,hx,hj,_⟩:=tU hj r
  exact zU r l (h x) (Ea r0 hx) hj
theorem xV {f:Sy->PH->Prop} (r:Rel σ E):∀(l:List (Nat×Kd)) {σ0:Sy},Rel σ0 E->jap σ l (jbd f l σ0) F->∃σ',Rel σ' E/\f σ' F
 |[],σ0,r0,hj=>⟨σ0,r0,hj⟩
 | (t,k)::l,σ0,r0,hj=>by
  obtain ⟨x,hx,hj,_⟩:=tU hj r
  exact xV r l (Ea r0 hx) hj
theorem zV (r:Rel σ E):∀(l:List (Nat×Kd)) {J Y:Tl l},MX l J Y->jap σ l J F->jap σ l Y F
 |[],J,Y,h,hj=>h F hj
 | (t,k)::l,J,Y,h,hj=>by
  obtain ⟨x,hx,hj,hp⟩:=tU hj r
  exact hp _ (zV r l (h x) hj)
theorem Eb (r:Rel σ E):∀(l:List (Nat×Kd)) {I:Nat->Tl l} {m:Nat},jap σ l (jdn l I m) F->∃m',m'<m/\jap σ l (I m') F
 |[],I,m,h=>h
 | (t,k)::l,I,m,h=>by
  obtain ⟨x,hx,hj,hp⟩:=tU h r
  obtain ⟨m',hm,hj⟩:=Eb r l hj
  exact ⟨m',hm,hp _ hj⟩
theorem tV {f:Sy->PH->Prop} (h:jj K):jj (onN f K):=h
theorem ML {id:Nat} (h:jj K):jj (onX id K):=h
theorem ku:∀(c:Code) (h:iq) (K:CK) (σ:Sy) (E:En) (F:PH),jj K->sx P n c h K σ F->Rel σ E->HC P n c (QK (iN c) E K) E F
 | .skip,_,K,σ,E,F,_,h,r=>HG ⟨⟨σ,r,h⟩,.refl⟩
 | .ret,_,K,σ,E,F,_,h,r=>MI ⟨⟨σ,r,h⟩,.refl⟩
 | .exit i,_,K,σ,E,F,_,h,r=>HH ⟨⟨σ,r,h⟩,.refl⟩
 | .region id ⟨ops⟩ false,_,K,σ,E,F,hK,h,r=>Cr (xZ ops σ E F (fun o ho t ht=>wl ho ht) .refl h r)
 | .region id ops true,_,K,σ,E,F,hK,h,r=>by
  unfold sx at h
  obtain ⟨hm,h⟩:=eg h
  exact HN hm (jW hK (fun o ho t ht=>wl ho ht) _ _ _ _ _ _ _ _ .refl .nil Jy h r)
 | .seq a b,hh,K,σ,E,F,hK,h,r=>by
  have other:∀{f:Sy->PH->Prop} (x:Exit) (E':En) (F':PH),x≠.normal->QK (iN a) E (onN f K) x E' F'->QK (iN (.seq a b)) E K x E' F':=by
   intro f x E' F' hx ⟨⟨σ',r',h'⟩,fr⟩
   refine ⟨⟨σ',r',?_⟩,fr.left⟩
   cases x<;>first|exact absurd rfl hx|exact h'
  have thn:∀{σ':Sy} {E':En} {F':PH},Fr (iN a) E E'->Rel σ' E'->sx P n b hh.snd K σ' F'->HC P n b (QK (iN (.seq a b)) E K) E' F':=by
   intro σ' E' F' fr r' h'
   exact ft (ku b _ K σ' E' F' hK h' r') fun x E'' F'' ⟨h1,fr'⟩=>⟨h1,fr.left.trans fr'.right⟩
  unfold sx at h
  split at h
  ·refine xS (ft (ku a _ _ σ E F (tV hK) h r) fun x E' F' q=> ?_)
   cases x with
   |normal=>obtain ⟨⟨σ',r',h'⟩,fr⟩:=q;exact thn fr r' h'
   |_=>exact other _ _ _ (by intro e;cases e) q
  ·rename_i l _
   refine xS (ft (ku a _ _ σ E F (tV hK) h r) fun x E' F' q=> ?_)
   cases x with
   |normal=>
    obtain ⟨⟨σ',r',h'⟩,fr⟩:=q
    obtain ⟨σ2,r2,h2⟩:=xV r' l (r.hav fr) h'
    exact thn fr r2 h2
   |_=>exact other _ _ _ (by intro e;cases e) q
  ·rename_i l _
   obtain ⟨J,hJ,h⟩:=h
   refine xS (ft (ku a _ _ σ E F (tV hK) h r) fun x E' F' q=> ?_)
   cases x with
   |normal=>
    obtain ⟨⟨σ',r',h'⟩,fr⟩:=q
    obtain ⟨σ2,r2,h2⟩:=xV r' l (r.hav fr) (zV r' l hJ h')
    exact thn fr r2 h2
   |_=>exact other _ _ _ (by intro e;cases e) q
 | .cond c a b,hh,K,σ,E,F,hK,h,r=>by
  have ha:sx P n a hh.fst K σ F->HC P n a (QK (iN (.cond c a b)) E K) E F:=fun h=>ft (ku a _ K σ E F hK h r) fun x E' F' ⟨h1,fr⟩=>⟨h1,fr.left⟩
  have hb:sx P n b hh.snd K σ F->HC P n b (QK (iN (.cond c a b)) E K) E F:=fun h=>ft (ku b _ K σ E F hK h r) fun x E' F' ⟨h1,fr⟩=>⟨h1,fr.right⟩
  unfold sx at h
  split at h
  ·rename_i hw;exact DM (aW r hw rfl) (ha h)
  ·rename_i hw;exact DN (aW r hw rfl) (hb h)
  ·rename_i i t hw;exact nz (aW r hw rfl) (fun ht=>ha (h.1 ht)) (fun ht=>hb (h.2 ht))
  ·rename_i i p d hw;exact nz (t:= @decide p d) (aW r hw rfl) (fun ht=>ha (h.1 (of_decide_eq_true ht))) (fun ht=>hb (h.2 (of_decide_eq_false ht)))
  ·exact h.elim
 | .block id c,hh,K,σ,E,F,hK,h,r=>by
  refine D9 (ft (ku c hh _ σ E F (ML hK) h r) fun x E' F' q=> ?_)
  obtain ⟨⟨σ',r',h'⟩,fr⟩:=q
  cases x with
  |exit i=>
   show bif Nat.beq i id then QK _ E K .normal E' F' else QK _ E K (.exit i) E' F'
   have h':bif Nat.beq i id then K .normal σ' F' else K (.exit i) σ' F':=h'
   cases hb:Nat.beq i id<;>rw [hb] at h'<;>exact ⟨⟨σ',r',h'⟩,fr⟩
  |_=>exact ⟨⟨σ',r',h'⟩,fr⟩
 | .loop c,hh,K,σ,E,F,hK,h,r=>by
  obtain ⟨I,m,h0,hr⟩:=h
  refine HI (fun m E' F'=>(∃σ',Rel σ' E'/\jap σ' hh.lv (I m) F')/\Fr (iN c) E E') m ⟨⟨σ,r,h0⟩,.refl⟩ ?_
  rintro m E' F' ⟨⟨σ',r',hj⟩,fr⟩
  obtain ⟨σ2,r2,h2⟩:=zU r' _ (hr m) (r.hav fr) hj
  refine ft (ku c _ _ σ2 E' F' (tV hK) h2 r2) fun x E'' F'' q=> ?_
  obtain ⟨⟨σ3,r3,h3⟩,fr'⟩:=q
  cases x with
  |normal=>
   obtain ⟨m',hm,hj'⟩:=Eb r3 _ h3
   exact ⟨m',hm,⟨σ3,r3,hj'⟩,fr.trans fr'⟩
  |_=>exact ⟨⟨σ3,r3,h3⟩,fr.trans fr'⟩
 | .rangeFunc ..,_,_,_,_,_,_,h,_=>h.elim
 | .scope _,_,_,_,_,_,_,h,_=>h.elim
 | .label _,_,_,_,_,_,_,h,_=>h.elim
 | .goto _,_,_,_,_,_,_,h,_=>h.elim
 | .refuse _,_,_,_,_,_,_,h,_=>h.elim
inductive RVs (P:Program) (E:En) (F:PH):List ResultVar->List Value->Prop
 |nil:RVs P E F [] []
 |cons {r:ResultVar} {v:Value} {l:List ResultVar} {vs:List Value} (h:jT P E F r v) (t:RVs P E F l vs):RVs P E F (r::l) (v::vs)
theorem iK (r:Rel σ E):∀(l:List ResultVar) {K:List Value->Prop},pG P σ l F K->∃vs,RVs P E F l vs/\K vs
 |[],K,h=>⟨[],.nil,h⟩
 | .tmp t::l,K,h=>by
  unfold pG at h
  split at h
  ·rename_i v hv
   obtain ⟨vs,h1,h2⟩:=iK r l h
   exact ⟨v::vs,.cons (tN (cP r rfl hv)) h1,h2⟩
  ·exact h.elim
 | .cell x t::l,K,h=>by
  unfold pG at h
  split at h
  ·rename_i a hw
   split at h
   ·exact h.elim
   ·rename_i d hd
    split at h
    ·rename_i hk
     split at h
     ·rename_i m b hz
      obtain ⟨v,h1,h2,h⟩:=h
      obtain ⟨vs,h3,h4⟩:=iK r l h
      exact ⟨_,.cons (DQ (cP r hw rfl) hd (tY hk) hz h1 h2) h3,h4⟩
     ·exact h.elim
    ·rename_i hk
     obtain ⟨v,h1,h⟩:=h
     obtain ⟨vs,h3,h4⟩:=iK r l h
     exact ⟨_,.cons (DS (cP r hw rfl) hd (nB hk) h1) h3,h4⟩
  ·exact h.elim
theorem Ec {fn:Func} {vs:List Value} (h:RVs P E F fn.results.toList vs) (hl:Nat.ble fn.results.size 4=true):pm P fn E F (O8 vs):=by
 have hl:=Nat.le_of_ble_eq_true hl
 have key:∀l,fn.results.toList=l->fn.results=l.toArray:=fun l h=>by rw [<- h]
 generalize hg:fn.results.toList=l at h
 have hk:=key _ hg
 have hlen:l.length<=4:=by rw [<- hg];simpa using hl
 cases h with
 |nil=>exact TH hk
 |cons h1 t=>
  cases t with
  |nil=>exact Ok hk h1
  |cons h2 t=>
   cases t with
   |nil=>exact Ol hk h1 h2
   |cons h3 t=>
    cases t with
    |nil=>exact TI hk h1 h2 h3
    |cons h4 t=>
     cases t with
     |nil=>exact TG hk h1 h2 h3 h4
     |cons h5 t=>simp at hlen
theorem MM {fn:Func} {R:Value->PH->Prop} {x:Exit} {M:List Nat} {E0:En} (h:QK M E0 (O9 P fn R) x E F):HK P fn R x E F:=by
 obtain ⟨⟨σ,r,h⟩,_⟩:=h
 cases x with
 |normal=>
  obtain ⟨hl,h⟩:=eg h
  obtain ⟨vs,h1,h2⟩:=iK r _ h
  exact ⟨_,Ec h1 hl,h2⟩
 |ret=>
  obtain ⟨hl,h⟩:=eg h
  obtain ⟨vs,h1,h2⟩:=iK r _ h
  exact ⟨_,Ec h1 hl,h2⟩
 |_=>exact h.elim
theorem px:∀(vs:List Value) (ts:List TypeId) (i:Nat) (σ:Sy),(∀j v,vs[j]? =some v->E (i+j)=v)->Rel σ E->Rel (z7 P i ts vs σ) E
 |[],ts,i,σ,_,r=>by cases ts<;>exact r
 |v::vs,ts,i,σ,h,r=>by
  have hi:E i=v:=h 0 v rfl
  have step:∀k:Kd,Rel (σ.put i (ofk k v)) E:=fun k=>by
   have:=r.put (d:=i) (Ey (T:=σ.T) k v)
   rw [vX hi] at this
   exact this
  have hn:∀j u,vs[j]? =some u->E (i+1+j)=u:=fun j u hj=>by
   have:=h (j+1) u (by simpa using hj)
   rw [show i+1+j=i+(j+1) by omega];exact this
  cases ts with
  |nil=>exact px vs [] (i+1) _ hn (step _)
  |cons t ts=>exact px vs ts (i+1) _ hn (step _)
theorem MN {k:Nat} {h:iq} {args:List Value} {R:Value->PH->Prop} (hs:sxF P k h args R F):ae P k args.toArray F R:=by
 unfold sxF at hs
 split at hs
 ·exact hs.elim
 ·rename_i fn hf
  split at hs
  ·exact hs.elim
  ·rename_i c hb
   obtain ⟨hl,hs⟩:=eg hs
   refine HM hf hb rfl hl (ft (ku c h _ _ (MH args) F (fun c σ F h=>h) hs (px args _ 0 _ (fun j v hj=> ?_) ⟨fun t=>True.intro,fun j _=>rfl⟩)) fun x E F q=>MM q)
   simp only [Nat.zero_add]
   show args.getD j undef=v
   rw [List.getD_eq_getElem?_getD,hj];rfl
theorem sxC {k:Nat} (h:iq) {args:List Value} {R:Value->PH->Prop} {b:Prop} (e:b=sxF P k h args R F) (hb:b):ae P k args.toArray F R:=MN (e▸hb)
end
end Go.Proofs.YtenpmjhnhepfdaaGreatDoor.Rx
namespace Go.Proofs.YtenpmjhnhepfdaaGreatDoor
open Go Go.Proofs.Tryz
abbrev Am (b o:Nat):Addr:=Addr.mk b o none
abbrev Sb (b n:Nat):Sl:=Sl.mk (some (Am b 0)) n n
abbrev zG:Array Value:= #[.slice none 0 0,.slice none 0 0,.int .i64 0,.slice none 0 0,.slice none 0 0,.slice none 0 0,.int .i64 0,.slice none 0 0,.slice none 0 0]
abbrev zP:Array Value:= #[.string ⟨#[]⟩,.int .i64 0,.slice none 0 0,.slice none 0 0,.int .i64 0,.bool false,.int .i64 0,.slice none 0 0,.bool false,.int .i64 0,.int .i64 0,.int .i64 0,.int .i64 0]
abbrev zT:Array Value:= #[.string ⟨#[]⟩,.int .i64 0,.string ⟨#[]⟩,.slice none 0 0,.string ⟨#[]⟩,.slice none 0 0,.int .i64 0]
abbrev zF:Array Value:= #[.int .i64 0,.int .i64 0,.int .i64 0,.int .i64 0,.int .i64 0,.int .i64 0,.slice none 0 0,.slice none 0 0,.int .i64 0]
abbrev zL:Array Value:= #[.slice none 0 0,.int .i64 0,.slice none 0 0,.int .i64 0]
abbrev zD:Array Value:= #[.slice none 0 0,.int .i64 0]
section
variable (F:PH) (a:Addr)
abbrev Rr (n:Nat) (a:Addr) (R:VR) (F:PH):Prop:=∃v:Array Value,v.size=n/\F.row a v/\R (.agg v) F
abbrev Lr (n:Nat) (a:Addr) (K:Array Value->Prop):Prop:=∃v:Array Value,v.size=n/\F.row a v/\K v
abbrev Li (K:Int->Prop):Prop:=∃v:Int,F.cell a=some (.int .i64 v)/\K v
abbrev Lk (k:IntKind) (a:Addr) (K:Int->Prop):Prop:=∃v:Int,F.cell a=some (.int k v)/\K v
abbrev Lq (K:Option Addr->Prop):Prop:=∃v:Option Addr,F.cell a=some (.pointer v)/\K v
abbrev Ls (K:Sl->Prop):Prop:=∃v:Sl,F.cell a=some (Sl.v v)/\K v
abbrev Lb (K:Bool->Prop):Prop:=∃v:Bool,F.cell a=some (.bool v)/\K v
abbrev Lx (K:ByteArray->Prop):Prop:=∃v:ByteArray,F.cell a=some (.string v)/\K v
end
abbrev Ix (s:Sl) (i:Int) (K:Addr->Prop):Prop:=∃a:Addr,s.base=some a/\0<=i/\i<(s.len:Int)/\K a
abbrev Fn (f:Value) (K:Nat->Array Value->Array Value->Prop):Prop:=∃(k:Nat) (fst cap:Array Value),f=.func (.func k) fst cap/\aC prog k=true/\K k fst cap
section
variable (k:Nat) (ar:Array Value) (F:PH)
abbrev Ap (K:Sl->PH->Prop):Prop:=aE prog (Builtin.append_ #[k,k] k ar) F fun v F=>∃x:Sl,v=Sl.v x/\K x F
abbrev Ca (K:Array Value->PH->Prop):Prop:=ae prog k ar F fun v F=>∃x:Array Value,v=.agg x/\K x F
abbrev Ci (K:Int->PH->Prop):Prop:=ae prog k ar F fun v F=>∃x:Int,v=.int .i64 x/\K x F
abbrev Cbo (K:Bool->PH->Prop):Prop:=ae prog k ar F fun v F=>∃x:Bool,v=.bool x/\K x F
abbrev Cs (K:Sl->PH->Prop):Prop:=ae prog k ar F fun v F=>∃x:Sl,v=Sl.v x/\K x F
abbrev Cu (K:PH->Prop):Prop:=ae prog k ar F fun v F=>v=Value.tuple #[]/\K F
end
abbrev Nb (F:PH) (o:Obj) (K:Nat->PH->Prop):Prop:=∀b,F b=none->atF (F.set b o) (K b)
abbrev Bc (c A B:Prop):Prop:=(c->A)/\(¬c->B)
abbrev Bb (c:Bool) (A B:Prop):Prop:=(c=true->A)/\(c=false->B)
abbrev Lp {α:Type} (x:α) (F:PH) (B:(α->PH->Prop)->α->PH->Prop):Prop:=∃(I:Nat->α->PH->Prop) (m:Nat),I m x F/\∀m x F,I m x F->B (fun y F=>∃m',m'<m/\I m' y F) x F
variable {R:VR} {F:PH}
set_option maxRecDepth 10000
set_option maxHeartbeats 4000000
def OJ (d e:Array Value) (R:VR) (F:PH):Prop:=Nb F (.cells d 33) fun h F=>Nb F (.cells e 33) fun i F=>Li F (Am h 1) fun f=>Li F (Am i 1) fun g=>Bc (f=g) (Ls F (Am h 0) fun a=>Ls F (Am i 0) fun b=>Cbo 98 #[Sl.v a,Sl.v b] F fun c F=>R (.bool c) F) (R (.bool false) F)
theorem TL {a:Array Value} {b:Array Value} (h:OJ a b R F):ae prog 29 #[.agg a,.agg b] F R:=Rx.sxC (args:=[.agg a,.agg b]) .N (by kernel_rfl) h
def OK (a:Bool) (R:VR) (F:PH):Prop:=Nb F (.cells zD 33) fun b F=>Bb (a) (au F (Am b 0) 2 (#[.slice none 0 0,.int .i64 1]:Array Value) fun F=>Rr 2 (Am b 0) R F) (au F (Am b 0) 2 zD fun F=>Rr 2 (Am b 0) R F)
theorem TM {a:Bool} (h:OK a R F):ae prog 30 #[.bool a] F R:=Rx.sxC (args:=[.bool a]) .N (by kernel_rfl) h
def Ed (a:Int) (R:VR) (F:PH):Prop:=R (.bool (decide (a=1))) F
def Ee (j:Int->PH->Prop) (i:Int) (k:Nat) (R:VR) (a:Int) (F:PH):Prop:=Bc (1<a) (Ls F (Am k 0) fun d=>Ix d (IntKind.i64.wrap (a - 2)) fun e=>∃b,b.size=3/\F.row (Addr.add e (Int.toNat (IntKind.i64.wrap (a - 2))*3)) b/\Nb F (.cells (#[.int .i64 0,.int .i64 0,.int .i64 0]) 103) fun h F=>au F (Am h 0) 3 b fun F=>Li F (Am h 0) fun c=>0<=c/\Bc ((IntKind.u64.wrap ((BitVec.ofInt (IntKind.u64).bits (Int.fdiv i (2 ^ (min (Int.toNat c) (IntKind.u64).bits))) &&& BitVec.ofInt (IntKind.u64).bits 1).toNat))=1) (Li F (Am h 2) fun f=>j f F) (Li F (Am h 1) fun g=>j g F)) (Ed a R F)
def OL (c:Array Value) (d:Int) (R:VR) (F:PH):Prop:=Nb F (.cells c 33) fun e F=>Lr F 2 (Am e 0) fun f=>Ci 99 #[.agg f] F fun g F=>Bc (g≠0) (R (.bool false) F) (Li F (Am e 1) fun b=>Lp b F fun N a F=>Ee N d e R a F)
theorem TN {a:Array Value} {b:Int} (h:OL a b R F):ae prog 31 #[.agg a,.int .u64 b] F R:=Rx.sxC (args:=[.agg a,.int .u64 b]) (.T .N (.T .N (.T .N (.J false [(5,.int .i64)] (.L [(5,.int .i64)] .N) .N)))) (by kernel_rfl) h
def py (j:Int) (d:Bool) (k i:Nat) (f:Bool) (R:VR) (F:PH):Prop:=Bb (f) (au F (Am i 0) 2 zD fun F=>Lr F 2 (Am i 0) fun b=>R (.tuple #[.agg b,.int .i64 1]) F) (Lr F 2 (Am k 0) fun g=>Ca 161 #[.agg g,.int .i64 j,.bool d] F fun h F=>ae prog 160 #[.agg h] F fun v F=>∃e,∃a,v=(.tuple #[.agg e,.int .i64 a])/\au F (Am i 0) 2 e fun F=>Lr F 2 (Am i 0) fun c=>R (.tuple #[.agg c,.int .i64 a]) F)
def OM (f:Array Value) (b:Int) (a:Bool) (R:VR) (F:PH):Prop:=Nb F (.cells f 33) fun g F=>Nb F (.cells zD 33) fun e F=>Lr F 2 (Am g 0) fun h=>Ci 99 #[.agg h] F fun d F=>Bc (d≠0) (au F (Am e 0) 2 zD fun F=>Lr F 2 (Am e 0) fun c=>R (.tuple #[.agg c,.int .i64 d]) F) (Bc (b<0) (py b a g e true R F) (py b a g e (decide (63<b)) R F))
theorem TO {b:Array Value} {c:Int} {a:Bool} (h:OM b c a R F):ae prog 92 #[.agg b,.int .i64 c,.bool a] F R:=Rx.sxC (args:=[.agg b,.int .i64 c,.bool a]) (.T .N (.T .N (.T (.J false [(20,.bool)] .N .N) .N))) (by kernel_rfl) h
def Ef (f:Nat) (R:VR) (F:PH):Prop:=Li F (Am f 1) fun g=>Bc (g<0) (R (.int .i64 20) F) (Li F (Am f 1) fun h=>Ls F (Am f 0) fun i=>Bc ((IntKind.i64.wrap ((i.len:Int)+1))<h) (R (.int .i64 20) F) (Ls F (Am f 0) fun j=>Nb F (.cells (#[Sl.v j,.map none]:Array Value) 228) fun k F=>Li F (Am f 1) fun a=>Ca 167 #[.pointer (some (Am k 0)),.int .i64 a] F fun b F=>Nb F (.cells zD 33) fun l F=>au F (Am l 0) 2 b fun F=>Lr F 2 (Am l 0) fun c=>Lr F 2 (Am f 0) fun d=>Cbo 29 #[.agg c,.agg d] F fun e F=>Bb ((!e)) (R (.int .i64 20) F) (R (.int .i64 0) F)))
def Eh (A:Int->PH->Prop) (z g:Nat) (d:Sl) (R:VR) (a:Int) (F:PH):Prop:=Bc (a<(d.len:Int)) (Ix d a fun h=>Lr F 3 (Addr.add h (Int.toNat a*3)) fun i=>Nb F (.cells (#[.int .i64 0,.int .i64 0,.int .i64 0]) 103) fun b F=>au F (Am b 0) 3 i fun F=>Li F (Am b 0) fun j=>Bc (j<0) (R (.int .i64 20) F) (Li F (Am b 0) fun k=>Bc (63<k) (R (.int .i64 20) F) (Li F (Am b 1) fun l=>Bc (l<0) (R (.int .i64 20) F) (Li F (Am b 2) fun m=>Bc (m<0) (R (.int .i64 20) F) (Li F (Am b 1) fun n=>Bc ((IntKind.i64.wrap (a+1))<n) (R (.int .i64 20) F) (Li F (Am b 2) fun o=>Bc ((IntKind.i64.wrap (a+1))<o) (R (.int .i64 20) F) (Li F (Am b 1) fun p=>Li F (Am b 2) fun q=>Bc (p=q) (R (.int .i64 20) F) (Lr F 3 (Am b 0) fun r=>∃e,rdo prog (Instr.lookup 224 (.map (some g)) (.agg r) false) F (.bool e)/\Bb (e) (R (.int .i64 20) F) (Lr F 2 (Am z 0) fun s=>Li F (Am b 1) fun t=>Li F (Am b 0) fun c=>Ci 102 #[.agg s,.int .i64 t] F fun u F=>F.cell (Am b 0)=some (.int .i64 c)/\Bc (u<=c) (R (.int .i64 20) F) (Lr F 2 (Am z 0) fun v=>Li F (Am b 2) fun w=>Li F (Am b 0) fun f=>Ci 102 #[.agg v,.int .i64 w] F fun x F=>F.cell (Am b 0)=some (.int .i64 f)/\F.cell (Am b 0)=some (.int .i64 c)/\Bc (x<=f) (R (.int .i64 20) F) (Lr F 3 (Am b 0) fun y=>aE prog (Instr.mapUpdate 224 (.map (some g)) (.agg y) (.bool true)) F fun _ F=>A (IntKind.i64.wrap (a+1)) F))))))))))) (Ef z R F)
def ON (c:Array Value) (R:VR) (F:PH):Prop:=Nb F (.cells c 33) fun d F=>Ls F (Am d 0) fun e=>Bc ((4096:Int)<(e.len:Int)) (R (.int .i64 2) F) (Nb F (.map #[] 0) fun f F=>Ls F (Am d 0) fun a=>Lp 0 F fun N b F=>Eh N d f a R b F)
theorem TP {a:Array Value} (h:ON a R F):ae prog 99 #[.agg a] F R:=Rx.sxC (args:=[.agg a]) (.T .N (.T .N (.T .N (.J false [] (.T .N (.L [(15,.int .i64)] .N)) .N)))) (by kernel_rfl) h
def JK (d:Array Value) (b:Int) (R:VR) (F:PH):Prop:=Nb F (.cells d 33) fun f F=>Bc (b<2) (R (.int .i64 64) F) (Ls F (Am f 0) fun e=>Ix e (IntKind.i64.wrap (b - 2)) fun c=>∃a,F.cell (Addr.add c (Int.toNat (IntKind.i64.wrap (b - 2))*3))=some (.int .i64 a)/\R (.int .i64 a) F)
theorem OO {a:Array Value} {b:Int} (h:JK a b R F):ae prog 102 #[.agg a,.int .i64 b] F R:=Rx.sxC (args:=[.agg a,.int .i64 b]) .N (by kernel_rfl) h
def JL (d:Array Value) (R:VR) (F:PH):Prop:=Nb F (.cells d 33) fun g F=>Nb F (.cells zD 33) fun c F=>Ls F (Am g 0) fun e=>Bc ((4096:Int)<(e.len:Int)) (au F (Am c 0) 2 zD fun F=>Lr F 2 (Am c 0) fun b=>R (.tuple #[.agg b,.int .i64 2]) F) (Lr F 2 (Am g 0) fun f=>au F (Am c 0) 2 f fun F=>Lr F 2 (Am c 0) fun a=>R (.tuple #[.agg a,.int .i64 0]) F)
theorem OP {a:Array Value} (h:JL a R F):ae prog 160 #[.agg a] F R:=Rx.sxC (args:=[.agg a]) .N (by kernel_rfl) h
def zW (h g:Nat) (b:Option Addr) (c:Sl) (R:VR) (F:PH):Prop:=Li F (Am h 1) fun a=>Ix c a fun d=>Li F (Addr.add d (Int.toNat a*1)) fun e=>Ca 167 #[.pointer b,.int .i64 e] F fun f F=>au F (Am g 0) 2 f fun F=>Rr 2 (Am g 0) R F
def kv (l:Int->PH->Prop) (m:Int) (d:Bool) (n o:Nat) (e:Option Addr) (f:Sl) (a:Int) (j:Nat) (k:Sl) (c b:Int) (R:VR) (F:PH):Prop:=Li F (Am j 0) fun g=>Ci 210 #[.pointer e,.int .i64 g,.int .i64 c,.int .i64 b] F fun h F=>Ix f (IntKind.i64.wrap (a+2)) fun i=>sto F (Addr.add i (Int.toNat (IntKind.i64.wrap (a+2))*1)) (.int .i64 h) fun F=>l (IntKind.i64.wrap (a+1)) F
def zX (s:Int->PH->Prop) (i:Int) (a:Bool) (q r:Nat) (f:Option Addr) (b d:Sl) (R:VR) (c:Int) (F:PH):Prop:=Bc (c<(d.len:Int)) (Ix d c fun l=>Lr F 3 (Addr.add l (Int.toNat c*3)) fun m=>Nb F (.cells (#[.int .i64 0,.int .i64 0,.int .i64 0]) 103) fun e F=>au F (Am e 0) 3 m fun F=>Li F (Am e 1) fun j=>Ix b j fun n=>Li F (Addr.add n (Int.toNat j*1)) fun g=>Li F (Am e 2) fun k=>Ix b k fun o=>Li F (Addr.add o (Int.toNat k*1)) fun h=>Li F (Am e 0) fun p=>Bc (p=i) (Bb (a) (kv s i a q r f b c e d h h R F) (kv s i a q r f b c e d g g R F)) (kv s i a q r f b c e d g h R F)) (zW q r f b R F)
def JM (h:Array Value) (i:Int) (a:Bool) (R:VR) (F:PH):Prop:=Nb F (.cells h 33) fun j F=>Nb F (.cells zD 33) fun k F=>ae prog 209 #[] F fun v F=>∃c,v=(.pointer c)/\Ls F (Am j 0) fun d=>aE prog (Instr.makeSlice 70 (.int .i64 (IntKind.i64.wrap ((d.len:Int)+2))) (.int .i64 (IntKind.i64.wrap ((d.len:Int)+2)))) F fun v F=>∃b,v=(Sl.v b)/\Ix b 1 fun e=>sto F (Addr.add e (Int.toNat 1*1)) (.int .i64 1) fun F=>Ls F (Am j 0) fun f=>Lp 0 F fun N g F=>zX N i a j k c b f R g F
theorem OQ {b:Array Value} {c:Int} {a:Bool} (h:JM b c a R F):ae prog 161 #[.agg b,.int .i64 c,.bool a] F R:=Rx.sxC (args:=[.agg b,.int .i64 c,.bool a]) (.T .N (.T .N (.T .N (.T .N (.J false [] (.T .N (.L [(24,.int .i64)] (.T .N (.T .N (.T (.T .N (.T .N (.J false [(11,.int .i64),(12,.int .i64)] .N .N))) .N))))) .N))))) (by kernel_rfl) h
def JN (h:Option Addr) (a:Int) (R:VR) (F:PH):Prop:=Nb F (.cells #[.pointer h] 225) fun n F=>Nb F (.cells zD 33) fun l F=>Nb F (.cells zD 33) fun g F=>au F (Am g 0) 2 zD fun F=>Nb F (.map #[] 0) fun i F=>aE prog (Instr.mapUpdate 299 (.map (some i)) (.int .i64 0) (.int .i64 0)) F fun _ F=>aE prog (Instr.mapUpdate 299 (.map (some i)) (.int .i64 1) (.int .i64 1)) F fun _ F=>Nb F (.cells (#[.map none]) 299) fun m F=>sto F (Am m 0) (.map (some i)) fun F=>Nb F (.cells (#[.nilFunc]) 167) fun j F=>sto F (Am j 0) (.func (.func 215) #[] #[.pointer (some (Am m 0)),.pointer (some (Am n 0)),.pointer (some (Am j 0)),.pointer (some (Am g 0))]) fun F=>∃b:Value,F.cell (Am j 0)=some b/\Fn b fun k d e=>ae prog k (d++([(Value.int .i64 a)]).toArray++e) F fun v F=>∃c,v=(Value.int .i64 c)/\sto F (Am g 1) (.int .i64 c) fun F=>Lr F 2 (Am g 0) fun f=>au F (Am l 0) 2 f fun F=>Rr 2 (Am l 0) R F
theorem OR {b:Option Addr} {a:Int} (h:JN b a R F):ae prog 167 #[.pointer b,.int .i64 a] F R:=Rx.sxC (args:=[.pointer b,.int .i64 a]) .N (by kernel_rfl) h
def JO (R:VR) (F:PH):Prop:=Nb F (.map #[] 0) fun a F=>Nb F (.cells (#[.slice none 0 0,.map (some a)]:Array Value) 228) fun b F=>R (.pointer (some (Am b 0))) F
theorem OS (h:JO R F):ae prog 209 #[] F R:=Rx.sxC (args:=[]) .N (by kernel_rfl) h
def JP (o:Option Addr) (p b c:Int) (R:VR) (F:PH):Prop:=Bc (b=c) (R (.int .i64 b) F) (Nb F (.cells (#[.int .i64 0,.int .i64 0,.int .i64 0]) 103) fun n F=>au F (Am n 0) 3 (#[.int .i64 p,.int .i64 b,.int .i64 c]:Array Value) fun F=>∃a,o=some a/\∃e:Option Nat,F.cell (Addr.add a 1)=some (.map e)/\Lr F 3 (Am n 0) fun j=>∃(f:Int) (d:Bool),rdo prog (Instr.lookup 226 (.map e) (.agg j) true) F (.tuple #[.int .i64 f,.bool d])/\Bb ((!d)) (Ls F a fun k=>Lr F 3 (Am n 0) fun g=>g.size=3/\Nb F (.cells g 103) fun q F=>Ap 31 #[Sl.v k,Sl.v (Sb q 1)] F fun l F=>sto F a (Sl.v l) fun F=>Ls F a fun h=>∃i:Option Nat,F.cell (Addr.add a 1)=some (.map i)/\Lr F 3 (Am n 0) fun m=>aE prog (Instr.mapUpdate 226 (.map i) (.agg m) (.int .i64 (IntKind.i64.wrap ((h.len:Int)+1)))) F fun _ F=>R (.int .i64 (IntKind.i64.wrap ((h.len:Int)+1))) F) (R (.int .i64 f) F))
theorem OT {c:Option Addr} {d:Int} {b:Int} {a:Int} (h:JP c d b a R F):ae prog 210 #[.pointer c,.int .i64 d,.int .i64 b,.int .i64 a] F R:=Rx.sxC (args:=[.pointer c,.int .i64 d,.int .i64 b,.int .i64 a]) .N (by kernel_rfl) h
def Ei (c:Int) (H I J K:Option Addr) (R:VR) (F:PH):Prop:=∃a,H=some a/\∃j:Option Nat,F.cell a=some (.map j)/\∃(k:Int) (d:Bool),rdo prog (Instr.lookup 299 (.map j) (.int .i64 c) true) F (.tuple #[.int .i64 k,.bool d])/\Bb (d) (R (.int .i64 k) F) (∃l,I=some l/\Lq F l fun x=>∃e,x=some e/\Ls F e fun y=>Ix y (IntKind.i64.wrap (c - 2)) fun z=>∃f,f.size=3/\F.row (Addr.add z (Int.toNat (IntKind.i64.wrap (c - 2))*3)) f/\Nb F (.cells (#[.int .i64 0,.int .i64 0,.int .i64 0]) 103) fun G F=>au F (Am G 0) 3 f fun F=>∃g,J=some g/\∃m:Value,F.cell g=some m/\Li F (Am G 1) fun A=>Fn m fun L s t=>ae prog L (s++([(Value.int .i64 A)]).toArray++t) F fun v F=>∃h,v=(Value.int .i64 h)/\∃n:Value,F.cell g=some n/\Li F (Am G 2) fun B=>Fn n fun M u w=>ae prog M (u++([(Value.int .i64 B)]).toArray++w) F fun v F=>∃i,v=(Value.int .i64 i)/\∃b,K=some b/\Ls F b fun C=>Li F (Am G 0) fun o=>(#[.int .i64 o,.int .i64 h,.int .i64 i]:Array Value).size=3/\Nb F (.cells (#[.int .i64 o,.int .i64 h,.int .i64 i]:Array Value) 103) fun N F=>Ap 31 #[Sl.v C,Sl.v (Sb N 1)] F fun D F=>sto F b (Sl.v D) fun F=>∃p:Option Nat,F.cell a=some (.map p)/\Ls F b fun E=>aE prog (Instr.mapUpdate 299 (.map p) (.int .i64 c) (.int .i64 (IntKind.i64.wrap ((E.len:Int)+1)))) F fun _ F=>∃q:Option Nat,F.cell a=some (.map q)/\∃r,rdo prog (Instr.lookup 299 (.map q) (.int .i64 c) false) F (.int .i64 r)/\R (.int .i64 r) F)
theorem JQ {a:Int} {b:Option Addr} {c:Option Addr} {d:Option Addr} {e:Option Addr} (h:Ei a b c d e R F):ae prog 215 #[.int .i64 a,.pointer b,.pointer c,.pointer d,.pointer e] F R:=Rx.sxC (args:=[.int .i64 a,.pointer b,.pointer c,.pointer d,.pointer e]) .N (by kernel_rfl) h
variable {R:VR} {F:PH}
set_option maxRecDepth 10000
set_option maxHeartbeats 4000000
def TQ (a:Sl) (R:VR) (F:PH):Prop:=Bb ((a.base.isNone)) (R (Sl.v Sl.nil) F) (Nb F (.cells #[] 9) fun c F=>Ap 30 #[Sl.v (Sb c 0),Sl.v a] F fun b F=>R (Sl.v b) F)
theorem TR {a:Sl} (h:TQ a R F):ae prog 83 #[Sl.v a] F R:=Rx.sxC (args:=[Sl.v a]) .N (by kernel_rfl) h
def TS (a:Sl) (R:VR) (F:PH):Prop:=Bb ((a.base.isNone)) (R (Sl.v Sl.nil) F) (Nb F (.cells #[] 97) fun c F=>Ap 77 #[Sl.v (Sb c 0),Sl.v a] F fun b F=>R (Sl.v b) F)
theorem TT {a:Sl} (h:TS a R F):ae prog 84 #[Sl.v a] F R:=Rx.sxC (args:=[Sl.v a]) .N (by kernel_rfl) h
def TU (a:Sl) (R:VR) (F:PH):Prop:=Bb ((a.base.isNone)) (R (Sl.v Sl.nil) F) (Nb F (.cells #[] 69) fun c F=>Ap 62 #[Sl.v (Sb c 0),Sl.v a] F fun b F=>R (Sl.v b) F)
theorem TV {a:Sl} (h:TU a R F):ae prog 85 #[Sl.v a] F R:=Rx.sxC (args:=[Sl.v a]) .N (by kernel_rfl) h
def TW (a:Sl) (R:VR) (F:PH):Prop:=Bb ((a.base.isNone)) (R (Sl.v Sl.nil) F) (Nb F (.cells #[] 101) fun c F=>Ap 63 #[Sl.v (Sb c 0),Sl.v a] F fun b F=>R (Sl.v b) F)
theorem TX {a:Sl} (h:TW a R F):ae prog 86 #[Sl.v a] F R:=Rx.sxC (args:=[Sl.v a]) .N (by kernel_rfl) h
def TY (a:Sl) (R:VR) (F:PH):Prop:=Bb ((a.base.isNone)) (R (Sl.v Sl.nil) F) (Nb F (.cells #[] 3) fun c F=>Ap 70 #[Sl.v (Sb c 0),Sl.v a] F fun b F=>R (Sl.v b) F)
theorem TZ {a:Sl} (h:TY a R F):ae prog 87 #[Sl.v a] F R:=Rx.sxC (args:=[Sl.v a]) .N (by kernel_rfl) h
def MO (R:VR) (F:PH):Prop:=R (.bool true) F
def Ej (i:Int->PH->Prop) (b d:Sl) (R:VR) (a:Int) (F:PH):Prop:=Bc (a<(b.len:Int)) (Ix b a fun e=>Lr F 3 (Addr.add e (Int.toNat a*3)) fun f=>Ix d a fun g=>Lr F 3 (Addr.add g (Int.toNat a*3)) fun h=>∃c,(∀F,rdo prog (Op.equal 103 (.agg f) (.agg h)) F c)/\Bb ((!c)) (R (.bool false) F) (i (IntKind.i64.wrap (a+1)) F)) (MO R F)
def OU (a b:Sl) (R:VR) (F:PH):Prop:=Bc ((a.len:Int)≠(b.len:Int)) (R (.bool false) F) (Lp 0 F fun N c F=>Ej N a b R c F)
theorem T0 {a:Sl} {b:Sl} (h:OU a b R F):ae prog 98 #[Sl.v a,Sl.v b] F R:=Rx.sxC (args:=[Sl.v a,Sl.v b]) (.T .N (.T .N (.J false [] (.T .N (.L [(13,.int .i64)] .N)) .N))) (by kernel_rfl) h
def JR (a:Sl) (b:Value) (R:VR) (F:PH):Prop:=Ci 197 #[Sl.v a,b] F fun c F=>R (.bool (decide (0<=c))) F
theorem OV {a:Sl} {b:Value} (h:JR a b R F):ae prog 145 #[Sl.v a,b] F R:=Rx.sxC (args:=[Sl.v a,b]) .N (by kernel_rfl) h
def JS (a:Sl) (b:Value) (R:VR) (F:PH):Prop:=Ci 206 #[Sl.v a,b] F fun c F=>R (.bool (decide (0<=c))) F
theorem OW {a:Sl} {b:Value} (h:JS a b R F):ae prog 154 #[Sl.v a,b] F R:=Rx.sxC (args:=[Sl.v a,b]) .N (by kernel_rfl) h
def HS (R:VR) (F:PH):Prop:=R (.int .i64 (-1:Int)) F
def HT (j:Int->PH->Prop) (e:Sl) (h:Value) (R:VR) (a:Int) (F:PH):Prop:=Bc (a<(e.len:Int)) (Ix e a fun f=>Lr F 13 (Addr.add f (Int.toNat a*13)) fun g=>Fn h fun i c d=>ae prog i (c++([(Value.agg g)]).toArray++d) F fun v F=>∃b,v=(Value.bool b)/\Bb (b) (R (.int .i64 a) F) (j (IntKind.i64.wrap (a+1)) F)) (HS R F)
def OX (a:Sl) (b:Value) (R:VR) (F:PH):Prop:=Lp 0 F fun N c F=>HT N a b R c F
theorem OY {a:Sl} {b:Value} (h:OX a b R F):ae prog 197 #[Sl.v a,b] F R:=Rx.sxC (args:=[Sl.v a,b]) (.T .N (.J false [] (.T .N (.L [(8,.int .i64)] .N)) .N)) (by kernel_rfl) h
def JT (a:Sl) (b:Value) (R:VR) (F:PH):Prop:=Ci 221 #[Sl.v a,b] F fun c F=>R (.bool (decide (0<=c))) F
theorem OZ {a:Sl} {b:Value} (h:JT a b R F):ae prog 199 #[Sl.v a,b] F R:=Rx.sxC (args:=[Sl.v a,b]) .N (by kernel_rfl) h
def HU (R:VR) (F:PH):Prop:=R (.int .i64 (-1:Int)) F
def HV (j:Int->PH->Prop) (e:Sl) (h:Value) (R:VR) (a:Int) (F:PH):Prop:=Bc (a<(e.len:Int)) (Ix e a fun f=>Lr F 2 (Addr.add f (Int.toNat a*2)) fun g=>Fn h fun i c d=>ae prog i (c++([(Value.agg g)]).toArray++d) F fun v F=>∃b,v=(Value.bool b)/\Bb (b) (R (.int .i64 a) F) (j (IntKind.i64.wrap (a+1)) F)) (HU R F)
def O0 (a:Sl) (b:Value) (R:VR) (F:PH):Prop:=Lp 0 F fun N c F=>HV N a b R c F
theorem O1 {a:Sl} {b:Value} (h:O0 a b R F):ae prog 206 #[Sl.v a,b] F R:=Rx.sxC (args:=[Sl.v a,b]) (.T .N (.J false [] (.T .N (.L [(8,.int .i64)] .N)) .N)) (by kernel_rfl) h
def HW (R:VR) (F:PH):Prop:=R (.int .i64 (-1:Int)) F
def HX (j:Int->PH->Prop) (e:Sl) (h:Value) (R:VR) (a:Int) (F:PH):Prop:=Bc (a<(e.len:Int)) (Ix e a fun f=>Lr F 3 (Addr.add f (Int.toNat a*3)) fun g=>Fn h fun i c d=>ae prog i (c++([(Value.agg g)]).toArray++d) F fun v F=>∃b,v=(Value.bool b)/\Bb (b) (R (.int .i64 a) F) (j (IntKind.i64.wrap (a+1)) F)) (HW R F)
def O2 (a:Sl) (b:Value) (R:VR) (F:PH):Prop:=Lp 0 F fun N c F=>HX N a b R c F
theorem O3 {a:Sl} {b:Value} (h:O2 a b R F):ae prog 221 #[Sl.v a,b] F R:=Rx.sxC (args:=[Sl.v a,b]) (.T .N (.J false [] (.T .N (.L [(8,.int .i64)] .N)) .N)) (by kernel_rfl) h
end Go.Proofs.YtenpmjhnhepfdaaGreatDoor
namespace Go.Proofs.YtenpmjhnhepfdaaGreatDoor
open Go Go.Proofs.Tryz Tr
abbrev vi (n:Int):Value:=.int .i64 n
abbrev Fit (n:Nat):Prop:=n<=1000000000000
def dc (b:Br):List Value:=[vi b.v,vi b.l,vi b.h]
def aS (l:List Br):List Value:=l.flatMap dc
abbrev aQ (b:Br):Array Value:= #[vi b.v,vi b.l,vi b.h]
theorem tW (l:List Br):(aS l).length=l.length*3:=by
 induction l with
 |nil=>rfl
 |cons b l ih=>simp only [aS,List.flatMap_cons,List.length_append,List.length_cons] at ih ⊢;rw [ih];simp [dc];omega
theorem ed (l m:List Br):aS (l++m)=aS l++aS m:=by simp [aS]
theorem so:∀(l:List Br) (i:Nat) (hi:i<l.length),((aS l).drop (i*3)).take 3=dc l[i]
 |b::l,0,_=>by simp [aS,dc]
 |b::l,i+1,hi=>by
  have e:(i+1)*3=3+i*3:=by omega
  have:aS (b::l)=dc b++aS l:=by simp [aS]
  rw [this,e,<- List.drop_drop,List.drop_left' (by simp [dc])]
  simpa using so l i (by simpa using hi)
theorem iL (l:List Br):∀v∈aS l,ai v:=by
 intro v hv
 obtain ⟨b,_,hb⟩:=List.mem_flatMap.1 hv
 simp only [dc,List.mem_cons,List.not_mem_nil,or_false] at hb
 rcases hb with rfl|rfl|rfl<;>exact iC
theorem fR (b:Br):∀v∈(aQ b).toList,ai v:=by
 intro v hv
 simp only [List.mem_cons,List.not_mem_nil,or_false] at hv
 rcases hv with rfl|rfl|rfl<;>exact iC
theorem RdS.blen {F:PH} {s:Sl} {l:List Br} (h:RdS F s 3 (aS l)):s.len=l.length:=by have:=h.len;rw [tW] at this;omega
theorem rdb {F:PH} {s:Sl} {l:List Br} (h:RdS F s 3 (aS l)) {i:Nat} {x:Br} (hx:l[i]? =some x):∃a,s.base=some a/\F.row (a.add (i*3)) (aQ x)/\
  F.cell (a.add (i*3))=some (vi x.v)/\F.cell ((a.add (i*3)).add 1)=some (vi x.l)/\F.cell ((a.add (i*3)).add 2)=some (vi x.h):=by
 obtain ⟨hi,hx⟩:=List.getElem?_eq_some_iff.1 hx
 subst hx
 have hlen:=h.blen
 obtain ⟨b,o,hb,_⟩:=h.cells (by omega)
 have hr:=h.row hb (i*3) (aQ l[i]) (by
  have:=so l i hi
  simpa [aQ,dc] using this.symm)
 refine ⟨_,hb,hr,?_,?_,?_⟩
 ·have:=hr 0 (by simp);simpa using this
 ·have:=hr 1 (by simp);simpa using this
 ·have:=hr 2 (by simp);simpa using this
def DV (F:PH) (v:Array Value) (d:Dia):Prop:=∃s:Sl,v= #[s.v,vi d.2]/\RdS F s 3 (aS d.1)
theorem DV.le {F G:PH} {v:Array Value} {d:Dia} (h:DV F v d) (hl:F.le G):DV G v d:=by
 obtain ⟨s,h1,h2⟩:=h
 exact ⟨s,h1,h2.le hl⟩
theorem DV.size {F:PH} {v:Array Value} {d:Dia} (h:DV F v d):v.size=2:=by
 obtain ⟨s,rfl,_⟩:=h
 rfl
theorem DV.st {F:PH} {v:Array Value} {d:Dia} (h:DV F v d):∀x∈v.toList,ai x:=by
 obtain ⟨s,rfl,_⟩:=h
 intro x hx
 simp only [List.mem_cons,List.not_mem_nil,or_false] at hx
 rcases hx with rfl|rfl
 ·exact DT
 ·exact iC
theorem PH.le_rfl {F:PH}:F.le F:=fun _ _ h=>h
theorem iM {S:List Tr} {d:List Br} (hp:brs S<+:d) {k:Nat} {t:Tr} (h:S[k]? =some t):d[k]? =some (br S t):=by
 obtain ⟨r,rfl⟩:=hp
 rw [List.getElem?_append_left (by rw [aO];exact (List.getElem?_eq_some_iff.1 h).1)]
 exact gL h
theorem pz {n:Nat} (h:Fit n) (h2:2<=n):IntKind.i64.wrap ((n:Int) - 2)=((n - 2:Nat):Int):=by
 rw [aN (by omega) (by omega)];omega
section
variable {F:PH} {v:Array Value} {d:Dia} {S:List Tr} {t:Tr}
theorem tX (hp:brs S<+:d.1) (ht:inn S t) (hf:Fit (d.1.length+2)):Fit (num S t)/\num S t<=d.1.length+1:=by
 have h1:=cY ht
 have h2:=hp.length_le
 rw [aO] at h2
 omega
theorem pC (hd:DV F v d) (hp:brs S<+:d.1) (ht:inn S t) (hf:Fit (d.1.length+2)):
  ae prog 102 #[.agg v,vi (num S t)] F fun r F'=>r=vi t.top/\F.le F':=by
 obtain ⟨hfit,hlt⟩:=tX hp ht hf
 obtain ⟨s,rfl,hr⟩:=hd
 refine OO ?_
 unfold JK
 intro b2 hb2
 refine atI ?_
 have hle:=ac (.cells #[s.v,vi d.2] 33) hb2
 refine ⟨fun h=> ?_,fun h=> ?_⟩
 ·have hl:=tL (S:=S) (t:=t) (by omega)
  cases t with
  |leaf b=>exact ⟨rfl,hle⟩
  |node _ _ _=>cases hl
 ·cases t with
  |leaf b=>have:=cd S b;omega
  |node w l r=>
   have hx:=iM hp (eQ (ca ht rfl) rfl)
   obtain ⟨a,h1,_,h2,_⟩:=rdb (hr.le hle) hx
   have hw:=pz hfit (cZ (S:=S) (t:=node w l r) rfl)
   have hg:=cZ (S:=S) (t:=node w l r) rfl
   refine ⟨s,by simp,a,h1,by rw [hw];omega,by rw [hw,hr.blen];omega,_,by rw [hw];exact h2,rfl,hle⟩
end
end Go.Proofs.YtenpmjhnhepfdaaGreatDoor
