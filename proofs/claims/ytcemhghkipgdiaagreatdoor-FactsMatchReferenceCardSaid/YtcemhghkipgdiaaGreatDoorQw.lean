/-
  Running a machine.
-/
import Derived.Test.YtcemhghkipgdiaaGreatDoorPhw
import Derived.Test.YtcemhghkipgdiaaGreatDoorTie
import Derived.Test.YtcemhghkipgdiaaGreatDoorCards
import Derived.LaidMore
import Derived.Lay
import Derived.SevenTiedAt
import Derived.Stop.Joined
set_option maxRecDepth 10000
open Option renaming some->ZO,none->ZR
open Go.Obj renaming cells->ZP
open Bool renaming false->ZQ,true->ZT
open Go.Addr renaming add->ZW,mk->ZX
open Int renaming toNat->ZY,tmod->Z5
noncomputable section
namespace Go.Proofs.YtcemhghkipgdiaaGreatDoor.Rx
open Go
inductive PW:Pn->cw->Prop
 |nil:PW [] []
 |cons {i:Nat} {c:Ψ} {S:World->Prop} {pend:Pn} {Sp:cw} (h:∀F,c F->AU F S) (t:PW pend Sp):PW ((i,c)::pend) ((i,S)::Sp)
theorem PW.rest {o:Oper} {pend:Pn} {Sp:cw} (h:PW pend Sp):PW (pend.filter λp=> !Oper.waits .any o p.1) (cw.rest .any o Sp):=by
 induction h with
 |nil=>exact .nil
 |cons h t ih=>
  rename_i i c S pend Sp;unfold cw.rest at*;simp only [List.filter_cons];cases Oper.waits .any o i
  ·exact .cons h ih
  ·exact ih
theorem Kw {F:PH} {pend:Pn} {Sp:cw} (h:PW pend Sp) {K:Prop} (hc:P6 F pend K):gm Sp F/\K:=by
 induction h with
 |nil=>exact ⟨Ot,hc⟩
 |cons h t ih=>exact ⟨Ou (h _ hc.1) (ih hc.2).1,(ih hc.2).2⟩
theorem Kx {F F':PH} {S:World->Prop} (hl:F.le F') (h:AU F S):AU F' S:=λe w st=>h e w
 ⟨st.os,st.tape,st.output,λb o hb=>st.heap b o (hl b o hb),λb o hb=>⟨(by
  cases hF:F b with
  |none=>rfl
  |some u=>
   have h1:=(st.frame b o hb).1;rw [hl b u hF] at h1
   cases h1),(st.frame b o hb).2⟩⟩
theorem Ky {F F':PH} {Sp:cw} (hl:F.le F') (h:gm Sp F):gm Sp F':=λr hr=>Kx hl (h r hr)
theorem EL {F:PH} {o:Oper} {Sp:cw} (h:gm Sp F):gm (cw.rest .any o Sp) F:=λr hr=>h r (Zg.1 hr).1
theorem CX:∀{l:List Prop},P7 l->∀p∈l,p
 |[],h=>h.elim
 |[p],h=>by intro q hq;rw [XO] at hq;subst hq;exact h
 |p::q::l,h=>by
  intro u hu;rcases XP.1 hu with rfl|hu
  ·exact h.1
  ·exact CX h.2 u hu
theorem yz {ops:Array Oper} {σ:Sy} {i:Nat} {o:Oper} {g:G}:∀{l:Δ},u6 ops σ l=ZO (i,o,g)->ops[i]? =ZO o/\grd ops σ o=g
 |[],h=>by cases h
 |j::l,h=>by
  unfold u6 at h;split at h
  ·cases h
  ·rename_i u hu;split at h
   ·rename_i hg;split at h
    ·cases h;exact ⟨hu,hg⟩
    ·exact yz h
   ·cases h;exact ⟨hu,rfl⟩
theorem yA {ops:Array Oper} {σ:Sy}:∀{l:Δ},u6 ops σ l=ZR->(∀i∈l,ops[i]?≠ZR)->∀i∈l,∀o,ops[i]? =ZO o->grd ops σ o=.go
 |[],_,_=>λi hi=>by cases hi
 |j::l,h,hn=>by
  unfold u6 at h;split at h
  ·rename_i hj;exact absurd hj (hn j (YU ..))
  ·rename_i u hu;split at h
   ·rename_i hg;split at h
    ·cases h
    ·intro i hi o ho;rcases XP.1 hi with rfl|hi
     ·rw [hu] at ho;cases ho;exact hg
     ·exact yA h (λi hi=>hn i (X8 _ hi)) i hi o ho
   ·cases h
section
variable {P:Program} {n:Nat} {ops:Array Oper} {M:Δ} {E0:En} {K:CK}
theorem AH {o:Oper} {E:En} {F:PH} {A B:En->Ψ} (h:aH P (execOp (ev E) o) F (bM P A o E)) (hab:∀E' F',A E' F'->B E' F'):aH P (execOp (ev E) o) F (bM P B o E):=
 dr _ _ h λnx F' hn=>by
  cases nx with
  |value v=>exact hab _ _ hn
  |skip=>exact hab _ _ hn
  |enter f args=>exact hn.mono λv F' h=>hab _ _ h
  |defer d=>exact ⟨hn.1,hab _ _ hn.2⟩
  |_=>exact hn
def jZ (K:CK):Prop:=∀c σ F,¬K (.panic c) σ F
theorem kW (hK:jZ K) (hM:∀o∈ops.toList,∀t,o.dst=ZO t->t∈M):∀(k fuel:Nat) (listed:Array Bool) (pend:Pn) (Sp:cw) (σ:Sy) (E:En) (F:PH),Fr M E0 E->PW pend Sp->gm Sp F->
  sxD P n ops (K .normal) k fuel listed pend σ F->Rel σ E->RG P n ops (QK M E0 K) fuel listed Sp E F
 |0,fuel,listed,pend,Sp,σ,E,F,fr,pw,hh,h,r=>by unfold sxD at h;exact h.elim
 |k+1,fuel,listed,pend,Sp,σ,E,F,fr,pw,hh,h,r=>by
  have hp:∀c E F,¬QK M E0 K (.panic c) E F:=λc E F ⟨⟨σ,_,h⟩,_⟩=>hK c σ F h;have mem:∀{i:Nat} {o:Oper},ops[i]? =ZO o->o∈ops.toList:=λh=>by rw [<- Y5] at h;exact XQ h
  unfold sxD at h;split at h
  ·rename_i hr;exact Ld hr ⟨⟨σ,r,h⟩,fr⟩
  ·rename_i rs hne;split at h
   ·exact h.elim
   ·rename_i fuel;split at h
    ·rename_i i o g hpk;obtain ⟨hi,hg⟩:=yz hpk;obtain ⟨hb,h⟩:=eT h;simp only [Yt] at hb;obtain ⟨⟨⟨h1,h2⟩,h3⟩,h4⟩:=hb;have gk:=A9 (ops:=ops) r o;rw [hg] at gk;split at h
     ·cases gk with
      |no hw=>exact Lf hi h1 h2 h3 h4 hp hw hh (kW hK hM k fuel _ pend Sp _ _ F (fr.trans (A8 λt e=>hM o (mem hi) t e)) pw hh h (r.putO rfl))
     ·rename_i j b want;cases gk with
      |split _ _ _ v hj hv hw=>have h:=II h hv;exact kW hK hM k (fuel+1) _ pend Sp _ _ F fr pw hh h (r.rf hj hv)
     ·cases gk with
      |go hw=>
       obtain ⟨σ',nv,ck,v,hy,r',hnv,hck,h⟩:=IB h r;have fr':Fr M E0 (cZ E o.dst v):=fr.trans (A8 λt e=>hM o (mem hi) t e);cases ck with
       |none=>exact UL hi h1 h2 h3 h4 hp hw hck hh (kW hK hM k fuel _ pend Sp _ _ F fr' pw hh h (r'.putO hnv))
       |some c=>refine UK hi h1 h2 h3 h4 hp hw hy hh (kW hK hM k fuel _ ((i,c)::pend) _ _ _ F fr' (.cons (λF hc=>DC (hck.2 F hc)) pw) (Ou (DC hy) hh) h (r'.putO hnv))
     ·exact h.elim
    ·rename_i hpk;have hall:=CX h;have hev:∀i∈Region.ready .any ops listed,∃o,ops[i]? =ZO o/\_:=λi hi=>by
      have:=hall _ (X1.2 ⟨i,hi,rfl⟩);split at this
      ·exact this.elim
      ·rename_i o ho;exact ⟨o,ho,this⟩
     have hgo:=yA hpk (λi hi e=>by obtain ⟨o,ho,_⟩:=hev i hi;rw [e] at ho;cases ho);refine PI rfl (by cases hl:Region.ready .any ops listed with|nil=>exact absurd hl hne|cons _ _=>rfl) λi hi=> ?_;obtain ⟨o,ho,hx⟩:=hev i hi;obtain ⟨hd,hx⟩:=eT hx;have gk:=A9 (ops:=ops) r o;rw [hgo i hi o ho] at gk;cases gk with
     |go hw=>
      refine ⟨o,ho,hd,hw,AH (IH hx r) ?_⟩;rintro E' F' ⟨fl,σ',hl,r',hf,h⟩;have fr':Fr M E0 E':=fr.trans λt ht=>hf t λe=>tA (hM o (mem ho) t e) ht rfl;cases fl with
      |true=>have hh':=Ky (hl rfl) (EL (o:=o) hh);exact ⟨hh',kW hK hM k fuel _ _ _ _ _ F' fr' pw.rest hh' h r'⟩
      |false=>obtain ⟨hh',h⟩:=Kw pw.rest h;exact ⟨hh',kW hK hM k fuel _ _ _ _ _ F' fr' pw.rest hh' h r'⟩
end
section
variable {P:Program} {n:Nat} {σ σ0:Sy} {E:En} {F:PH} {K:CK}
theorem fm {c:Code} {Q Q':Exit->En->Ψ} (h:HC P n c Q E F) (k:∀x E F,Q x E F->Q' x E F):HC P n c Q' E F:=λe a w ag st=>
 wp_mono (h e a w ag st) λ_ _ _ ⟨E',F',ag',st',q⟩=>⟨E',F',ag',st',k _ _ _ q⟩
theorem Rel.hav (r:Rel σ E) {M:Δ} {E':En} (fr:Fr M E E'):Rel (σ.hav M) E':=by
 refine ⟨λt=> ?_,r.top⟩;show okV σ.T (bif pk M t then .unk else σ.S t) (E' t);cases hm:pk M t with
 |true=>exact True.intro
 |false=>rw [fr t hm];exact r.val t
theorem wM {t:Nat} {k:Kd} {J:k.T->Prop} (h:pay (σ.vw t) k J) (r:Rel σ E):∃x,E t=k.v x/\J x/\∀J':k.T->Prop,J' x->pay (σ.vw t) k J':=by
 cases k<;>simp only [pay] at h ⊢
 case int k=>
  split at h
  ·rename_i k' x hw;split at h
   ·rename_i hk;obtain rfl:=ε hk;exact ⟨x,dk r hw rfl,h,λJ' h'=>h'⟩
   ·exact h.elim
  ·exact h.elim
 case bool=>
  split at h
  ·rename_i b hw;exact ⟨b,dk r hw rfl,h,λ_ h'=>h'⟩
  ·rename_i i b hw;exact ⟨b,dk r hw rfl,h,λ_ h'=>h'⟩
  ·rename_i i p d hw;exact ⟨_,dk r hw rfl,h,λ_ h'=>h'⟩
  ·exact h.elim
 case ptr=>
  split at h
  ·rename_i a hw;exact ⟨ZO a,dk r hw rfl,h,λ_ h'=>h'⟩
  ·rename_i i p hw;exact ⟨p,dk r hw rfl,h,λ_ h'=>h'⟩
  ·rename_i p hw;exact ⟨p,dk r hw rfl,h,λ_ h'=>h'⟩
  ·exact h.elim
 case sl=>
  split at h
  ·rename_i b l c hw;exact ⟨⟨b,l,c⟩,dk r hw rfl,h,λ_ h'=>h'⟩
  ·exact h.elim
 case str=>
  split at h
  ·rename_i s hw;exact ⟨s,dk r hw rfl,h,λ_ h'=>h'⟩
  ·exact h.elim
 case map=>
  split at h
  ·rename_i s hw;exact ⟨s,dk r hw rfl,h,λ_ h'=>h'⟩
  ·exact h.elim
 case agg=>
  split at h
  ·rename_i s hw;exact ⟨s,dk r hw rfl,h,λ_ h'=>h'⟩
  ·exact h.elim
 case any=>
  split at h
  ·rename_i v hw;exact ⟨v,dk r rfl hw,h,λ_ h'=>h'⟩
  ·exact h.elim
theorem Hl (r:Rel σ0 E) {t:Nat} {k:Kd} {x:k.T} (hx:E t=k.v x):Rel (σ0.put t (k.nv x)) E:=by have:=r.put (d:=t) (tw (T:=σ0.T) k x);rw [yS hx] at this;exact this
theorem CY {f:Sy->Ψ} (r:Rel σ E):∀(l:List (Nat×Kd)) {J:Tl l} {σ0:Sy},Qa f l J σ0->Rel σ0 E->jap σ l J F->∃σ',Rel σ' E/\f σ' F
 |[],J,σ0,h,r0,hj=>⟨σ0,r0,h F hj⟩
 | (t,k)::l,J,σ0,h,r0,hj=>by obtain ⟨x,hx,hj,_⟩:=wM hj r;exact CY r l (h x) (Hl r0 hx) hj
theorem AI {f:Sy->Ψ} (r:Rel σ E):∀(l:List (Nat×Kd)) {σ0:Sy},Rel σ0 E->jap σ l (jbd f l σ0) F->∃σ',Rel σ' E/\f σ' F
 |[],σ0,r0,hj=>⟨σ0,r0,hj⟩
 | (t,k)::l,σ0,r0,hj=>by obtain ⟨x,hx,hj,_⟩:=wM hj r;exact AI r l (Hl r0 hx) hj
theorem CZ (r:Rel σ E):∀(l:List (Nat×Kd)) {J Y:Tl l},Qb l J Y->jap σ l J F->jap σ l Y F
 |[],J,Y,h,hj=>h F hj
 | (t,k)::l,J,Y,h,hj=>by obtain ⟨x,hx,hj,hp⟩:=wM hj r;exact hp _ (CZ r l (h x) hj)
theorem Hm (r:Rel σ E):∀(l:List (Nat×Kd)) {I:Nat->Tl l} {m:Nat},jap σ l (jdn l I m) F->∃m',m'<m/\jap σ l (I m') F
 |[],I,m,h=>h
 | (t,k)::l,I,m,h=>by obtain ⟨x,hx,hj,hp⟩:=wM h r;obtain ⟨m',hm,hj⟩:=Hm r l hj;exact ⟨m',hm,hp _ hj⟩
theorem wO {f:Sy->Ψ} (h:jZ K):jZ (onN f K):=h
theorem O9 {id:Nat} (h:jZ K):jZ (onX id K):=h
theorem kJ:∀(c:Code) (h:jk) (K:CK) (σ:Sy) (E:En) (F:PH),jZ K->sx P n c h K σ F->Rel σ E->HC P n c (QK (jl c) E K) E F
 | .skip,_,K,σ,E,F,_,h,r=>KW ⟨⟨σ,r,h⟩,.refl⟩
 | .ret,_,K,σ,E,F,_,h,r=>PF ⟨⟨σ,r,h⟩,.refl⟩
 | .exit i,_,K,σ,E,F,_,h,r=>KX ⟨⟨σ,r,h⟩,.refl⟩
 | .region id ⟨ops⟩ ZQ,_,K,σ,E,F,hK,h,r=>ET (Ba ops σ E F (λo ho t ht=>yY ho ht) .refl h r)
 | .region id ops ZT,_,K,σ,E,F,hK,h,r=>by unfold sx at h;obtain ⟨hm,h⟩:=eT h;exact Lc hm (kW hK (λo ho t ht=>yY ho ht) _ _ _ _ _ _ _ _ .refl .nil Ot h r)
 | .seq a b,hh,K,σ,E,F,hK,h,r=>by
  have other:∀{f:Sy->Ψ} (x:Exit) (E':En) (F':PH),x≠.normal->QK (jl a) E (onN f K) x E' F'->QK (jl (.seq a b)) E K x E' F':=by intro f x E' F' hx ⟨⟨σ',r',h'⟩,fr⟩;refine ⟨⟨σ',r',?_⟩,fr.left⟩;cases x<;>first|exact absurd rfl hx|exact h'
  have thn:∀{σ':Sy} {E':En} {F':PH},Fr (jl a) E E'->Rel σ' E'->sx P n b hh.snd K σ' F'->HC P n b (QK (jl (.seq a b)) E K) E' F':=by intro σ' E' F' fr r' h';exact fm (kJ b _ K σ' E' F' hK h' r') λx E'' F'' ⟨h1,fr'⟩=>⟨h1,fr.left.trans fr'.right⟩
  unfold sx at h;split at h
  ·refine AR (fm (kJ a _ _ σ E F (wO hK) h r) λx E' F' q=> ?_);cases x with
   |normal=>obtain ⟨⟨σ',r',h'⟩,fr⟩:=q;exact thn fr r' h'
   |_=>exact other _ _ _ (by intro e;cases e) q
  ·rename_i l _;refine AR (fm (kJ a _ _ σ E F (wO hK) h r) λx E' F' q=> ?_);cases x with
   |normal=>obtain ⟨⟨σ',r',h'⟩,fr⟩:=q;obtain ⟨σ2,r2,h2⟩:=AI r' l (r.hav fr) h';exact thn fr r2 h2
   |_=>exact other _ _ _ (by intro e;cases e) q
  ·rename_i l _;obtain ⟨J,hJ,h⟩:=h;refine AR (fm (kJ a _ _ σ E F (wO hK) h r) λx E' F' q=> ?_);cases x with
   |normal=>obtain ⟨⟨σ',r',h'⟩,fr⟩:=q;obtain ⟨σ2,r2,h2⟩:=AI r' l (r.hav fr) (CZ r' l hJ h');exact thn fr r2 h2
   |_=>exact other _ _ _ (by intro e;cases e) q
 | .cond c a b,hh,K,σ,E,F,hK,h,r=>by
  have ha:sx P n a hh.fst K σ F->HC P n a (QK (jl (.cond c a b)) E K) E F:=λh=>fm (kJ a _ K σ E F hK h r) λx E' F' ⟨h1,fr⟩=>⟨h1,fr.left⟩;have hb:sx P n b hh.snd K σ F->HC P n b (QK (jl (.cond c a b)) E K) E F:=λh=>fm (kJ b _ K σ E F hK h r) λx E' F' ⟨h1,fr⟩=>⟨h1,fr.right⟩;unfold sx at h;split at h
  ·rename_i hw;exact Ig (bz r hw rfl) (ha h)
  ·rename_i hw;exact Ih (bz r hw rfl) (hb h)
  ·rename_i i t hw;exact qy (bz r hw rfl) (λht=>ha (h.1 ht)) (λht=>hb (h.2 ht))
  ·rename_i i p d hw;exact qy (t:= @decide p d) (bz r hw rfl) (λht=>ha (h.1 (ε ht))) (λht=>hb (h.2 (η ht)))
  ·exact h.elim
 | .block id c,hh,K,σ,E,F,hK,h,r=>by
  refine HW (fm (kJ c hh _ σ E F (O9 hK) h r) λx E' F' q=> ?_);obtain ⟨⟨σ',r',h'⟩,fr⟩:=q;cases x with
  |exit i=>
   show bif Nat.beq i id then QK _ E K .normal E' F' else QK _ E K (.exit i) E' F'
   have h':bif Nat.beq i id then K .normal σ' F' else K (.exit i) σ' F':=h'
   cases hb:Nat.beq i id<;>rw [hb] at h'<;>exact ⟨⟨σ',r',h'⟩,fr⟩
  |_=>exact ⟨⟨σ',r',h'⟩,fr⟩
 | .loop c,hh,K,σ,E,F,hK,h,r=>by
  obtain ⟨I,m,h0,hr⟩:=h;refine KY (λm E' F'=>(∃σ',Rel σ' E'/\jap σ' hh.lv (I m) F')/\Fr (jl c) E E') m ⟨⟨σ,r,h0⟩,.refl⟩ ?_;rintro m E' F' ⟨⟨σ',r',hj⟩,fr⟩;obtain ⟨σ2,r2,h2⟩:=CY r' _ (hr m) (r.hav fr) hj;refine fm (kJ c _ _ σ2 E' F' (wO hK) h2 r2) λx E'' F'' q=> ?_;obtain ⟨⟨σ3,r3,h3⟩,fr'⟩:=q;cases x with
  |normal=>obtain ⟨m',hm,hj'⟩:=Hm r3 _ h3;exact ⟨m',hm,⟨σ3,r3,hj'⟩,fr.trans fr'⟩
  |_=>exact ⟨⟨σ3,r3,h3⟩,fr.trans fr'⟩
 | .rangeFunc ..,_,_,_,_,_,_,h,_=>h.elim
 | .label _,_,K,σ,E,F,_,h,r=>HU ⟨⟨σ,r,h⟩,.refl⟩
 | .scope c,hh,K,σ,E,F,hK,h,r=>by
  refine HV (fm (kJ c hh (noG K) σ E F (λc σ F h=>hK c σ F h) h r) λx E' F' q=> ?_);obtain ⟨⟨σ',r',h'⟩,fr⟩:=q;cases x with
  |goto l=>exact h'.elim
  |_=>exact ⟨⟨σ',r',h'⟩,fr⟩
 | .goto _,_,_,_,_,_,_,h,_=>h.elim
 | .refuse _,_,_,_,_,_,_,h,_=>h.elim
inductive RVs (P:Program) (E:En) (F:PH):List ResultVar->Ξ->Prop
 |nil:RVs P E F [] []
 |cons {r:ResultVar} {v:ξ} {l:List ResultVar} {vs:Ξ} (h:kZ P E F r v) (t:RVs P E F l vs):RVs P E F (r::l) (v::vs)
theorem jE (r:Rel σ E):∀(l:List ResultVar) {K:Ξ->Prop},tu P σ l F K->∃vs,RVs P E F l vs/\K vs
 |[],K,h=>⟨[],.nil,h⟩
 | .tmp t::l,K,h=>by
  unfold tu at h;split at h
  ·rename_i v hv;obtain ⟨vs,h1,h2⟩:=jE r l h;exact ⟨v::vs,.cons (xa (dk r rfl hv)) h1,h2⟩
  ·exact h.elim
 | .cell x t::l,K,h=>by
  unfold tu at h;split at h
  ·rename_i a hw;split at h
   ·exact h.elim
   ·rename_i d hd;split at h
    ·rename_i hk;split at h
     ·rename_i m b hz;obtain ⟨v,h1,h2,h⟩:=h;obtain ⟨vs,h3,h4⟩:=jE r l h;exact ⟨_,.cons (Ik (dk r hw rfl) hd (xo hk) hz h1 h2) h3,h4⟩
     ·exact h.elim
    ·rename_i hk;obtain ⟨v,h1,h⟩:=h;obtain ⟨vs,h3,h4⟩:=jE r l h;exact ⟨_,.cons (Il (dk r hw rfl) hd (qH hk) h1) h3,h4⟩
  ·exact h.elim
theorem Hn {fn:Func} {vs:Ξ} (h:RVs P E F fn.results.toList vs) (hl:Nat.ble fn.results.size 4=ZT):sW P fn E F (Vi vs):=by
 have hl:=Zp hl;have key:∀l,fn.results.toList=l->fn.results=l.toArray:=λl h=>by rw [<- h]
 generalize hg:fn.results.toList=l at h;have hk:=key _ hg;have hlen:l.length<=4:=by rw [<- hg];simpa using hl
 cases h with
 |nil=>exact Xh hk
 |cons h1 t=>
  cases t with
  |nil=>exact UY hk h1
  |cons h2 t=>
   cases t with
   |nil=>exact UZ hk h1 h2
   |cons h3 t=>
    cases t with
    |nil=>exact Xi hk h1 h2 h3
    |cons h4 t=>
     cases t with
     |nil=>exact Xn hk h1 h2 h3 h4
     |cons h5 t=>simp at hlen
theorem Pa {fn:Func} {R:ξ->Ψ} {x:Exit} {M:Δ} {E0:En} (h:QK M E0 (Vj P fn R) x E F):K9 P fn R x E F:=by
 obtain ⟨⟨σ,r,h⟩,_⟩:=h;cases x with
 |normal=>obtain ⟨hl,h⟩:=eT h;obtain ⟨vs,h1,h2⟩:=jE r _ h;exact ⟨_,Hn h1 hl,h2⟩
 |ret=>obtain ⟨hl,h⟩:=eT h;obtain ⟨vs,h1,h2⟩:=jE r _ h;exact ⟨_,Hn h1 hl,h2⟩
 |_=>exact h.elim
theorem sM:∀(vs:Ξ) (ts:List TypeId) (i:Nat) (σ:Sy),(∀j v,vs[j]? =ZO v->E (i+j)=v)->Rel σ E->Rel (DI P i ts vs σ) E
 |[],ts,i,σ,_,r=>by cases ts<;>exact r
 |v::vs,ts,i,σ,h,r=>by
  have hi:E i=v:=h 0 v rfl;have step:∀k:Kd,Rel (σ.put i (ofk k v)) E:=λk=>by have:=r.put (d:=i) (Iz (T:=σ.T) k v);rw [yS hi] at this;exact this
  have hn:∀j u,vs[j]? =ZO u->E (i+1+j)=u:=λj u hj=>by have:=h (j+1) u (by simpa using hj);rw [show i+1+j=i+(j+1) by omega];exact this
  cases ts with
  |nil=>exact sM vs [] (i+1) _ hn (step _)
  |cons t ts=>exact sM vs ts (i+1) _ hn (step _)
theorem Pb {k:Nat} {h:jk} {args:Ξ} {R:ξ->Ψ} (hs:sxF P k h args R F):aj P k args.toArray F R:=by
 unfold sxF at hs;split at hs
 ·exact hs.elim
 ·rename_i fn hf;split at hs
  ·exact hs.elim
  ·rename_i c hb;obtain ⟨hl,hs⟩:=eT hs;refine La hf hb rfl hl (fm (kJ c h _ _ (PE args) F (λc σ F h=>h) hs (sM args _ 0 _ (λj v hj=> ?_) ⟨λt=>True.intro,λj _=>rfl⟩)) λx E F q=>Pa q);simp only [X5];show args.getD j undef=v;rw [Yg,hj];rfl
theorem sxC {k:Nat} (h:jk) {args:Ξ} {R:ξ->Ψ} {b:Prop} (e:b=sxF P k h args R F) (hb:b):aj P k args.toArray F R:=Pb (e▸hb)
theorem Λ {k:Nat} (h:jk) {args:Ξ} {R:ξ->Ψ} {b:Prop} (hb:b) (e:b=sxF P k h args R F:=by kernel_rfl):aj P k args.toArray F R:=sxC h e hb
end
end Go.Proofs.YtcemhghkipgdiaaGreatDoor.Rx
namespace Go.Proofs.YtcemhghkipgdiaaGreatDoor
open Go.IntKind (i64 u8 u64)
open Sl renaming v->ZS,nil->Z3
open Go Go.Proofs.Tryz
section
abbrev Am (b o:Nat):Addr:=ZX b o ZR
abbrev Pp (b:Nat):Value:=.pointer (ZO (Am b 0))
abbrev vi (n:Int):Value:=.int .i64 n
abbrev Sb (b n:Nat):Sl:=Sl.mk (ZO (Am b 0)) n n
abbrev zG:Γ:= #[.slice ZR 0 0,.slice ZR 0 0,.int .i64 0,.slice ZR 0 0,.slice ZR 0 0,.slice ZR 0 0,.int .i64 0,.slice ZR 0 0,.slice ZR 0 0]
abbrev zP:Γ:= #[.string ⟨#[]⟩,.int .i64 0,.slice ZR 0 0,.slice ZR 0 0,.int .i64 0,.bool ZQ,.int .i64 0,.slice ZR 0 0,.bool ZQ,.int .i64 0,.int .i64 0,.int .i64 0,.int .i64 0]
abbrev zT:Γ:= #[.string ⟨#[]⟩,.int .i64 0,.string ⟨#[]⟩,.slice ZR 0 0,.string ⟨#[]⟩,.slice ZR 0 0,.int .i64 0]
abbrev zF:Γ:= #[.int .i64 0,.int .i64 0,.int .i64 0,.int .i64 0,.int .i64 0,.int .i64 0,.slice ZR 0 0,.slice ZR 0 0,.int .i64 0]
abbrev zL:Γ:= #[.slice ZR 0 0,.int .i64 0,.slice ZR 0 0,.int .i64 0]
abbrev zD:Γ:= #[.slice ZR 0 0,.int .i64 0]
section
variable (F:PH) (a:Addr)
abbrev Rr (n:Nat) (a:Addr) (R:VR) (F:PH):Prop:=∃v:Γ,v.size=n/\F.row a v/\R (.agg v) F
abbrev Lr (n:Nat) (a:Addr) (K:Γ->Prop):Prop:=∃v:Γ,v.size=n/\F.row a v/\K v
abbrev Li (K:Int->Prop):Prop:=∃v:Int,F.cell a=ZO (.int .i64 v)/\K v
abbrev Lk (k:IntKind) (a:Addr) (K:Int->Prop):Prop:=∃v:Int,F.cell a=ZO (.int k v)/\K v
abbrev Lq (K:Θ->Prop):Prop:=∃v:Θ,F.cell a=ZO (.pointer v)/\K v
abbrev Ls (K:Sl->Prop):Prop:=∃v:Sl,F.cell a=ZO (ZS v)/\K v
abbrev Lb (K:Bool->Prop):Prop:=∃v:Bool,F.cell a=ZO (.bool v)/\K v
abbrev Lx (K:ByteArray->Prop):Prop:=∃v:ByteArray,F.cell a=ZO (.string v)/\K v
end
abbrev Ix (s:Sl) (i:Int) (K:Addr->Prop):Prop:=∃a:Addr,s.ZK=ZO a/\0<=i/\i<(s.len:Int)/\K a
abbrev Fn (f:Value) (K:Nat->Γ->Γ->Prop):Prop:=∃(k:Nat) (fst cap:Γ),f=.func (.func k) fst cap/\aE prog k=ZT/\K k fst cap
section
variable (k:Nat) (ar:Γ) (F:PH)
abbrev Ap (K:Sl->Ψ):Prop:=aH prog (Builtin.append_ #[k,k] k ar) F λv F=>∃x:Sl,v=ZS x/\K x F
abbrev Ca (K:Γ->Ψ):Prop:=aj prog k ar F λv F=>∃x:Γ,v=.agg x/\K x F
abbrev Ci (K:Ω):Prop:=aj prog k ar F λv F=>∃x:Int,v=.int .i64 x/\K x F
abbrev Cbo (K:Bool->Ψ):Prop:=aj prog k ar F λv F=>∃x:Bool,v=.bool x/\K x F
abbrev Cs (K:Sl->Ψ):Prop:=aj prog k ar F λv F=>∃x:Sl,v=ZS x/\K x F
abbrev Cu (K:Ψ):Prop:=aj prog k ar F λv F=>v=Value.tuple #[]/\K F
end
abbrev Nb (F:PH) (o:Obj) (K:Nat->Ψ):Prop:=∀b,F b=ZR->atF (F.set b o) (K b)
abbrev Bc (c A B:Prop):Prop:=(c->A)/\(¬c->B)
abbrev Bb (c:Bool) (A B:Prop):Prop:=(c=ZT->A)/\(c=ZQ->B)
abbrev Lp {α:Type} (x:α) (F:PH) (B:(α->Ψ)->α->Ψ):Prop:=∃(I:Nat->α->Ψ) (m:Nat),I m x F/\∀m x F,I m x F->B (λy F=>∃m',m'<m/\I m' y F) x F
variable {R:VR} {F:PH}
set_option maxHeartbeats 4000000
def Tu (a:Bool) (R:VR) (F:PH):Prop:=Nb F (ZP zD 31) λb F=>Bb (a) (aw F (Am b 0) 2 (#[.slice ZR 0 0,(vi 1)]:Γ) λF=>Rr 2 (Am b 0) R F) (aw F (Am b 0) 2 zD λF=>Rr 2 (Am b 0) R F)
abbrev ν:=aj prog
theorem W2 {a:Bool} (h:Tu a R F):ν 27 #[.bool a] F R:=Rx.Λ .N h
def Tv (d e:Γ) (R:VR) (F:PH):Prop:=Nb F (ZP d 31) λi F=>Nb F (ZP e 31) λj F=>Nb F (ZP zD 31) λh F=>Lr F 2 (Am i 0) λf=>Lr F 2 (Am j 0) λg=>ν 77 #[.agg f,.agg g,.func (.func 78) #[] #[]] F λv F=>∃c,∃a,v=(.tuple #[.agg c,(vi a)])/\aw F (Am h 0) 2 c λF=>Lr F 2 (Am h 0) λb=>R (.tuple #[.agg b,(vi a)]) F
theorem W3 {a:Γ} {b:Γ} (h:Tv a b R F):ν 28 #[.agg a,.agg b] F R:=Rx.Λ .N h
def Tw (d e:Γ) (R:VR) (F:PH):Prop:=Nb F (ZP d 31) λh F=>Nb F (ZP e 31) λi F=>Li F (Am h 1) λf=>Li F (Am i 1) λg=>Bc (f=g) (Ls F (Am h 0) λa=>Ls F (Am i 0) λb=>Cbo 79 #[ZS a,ZS b] F λc F=>R (.bool c) F) (R (.bool ZQ) F)
theorem W4 {a:Γ} {b:Γ} (h:Tw a b R F):ν 31 #[.agg a,.agg b] F R:=Rx.Λ .N h
def Tx (d e:Γ) (R:VR) (F:PH):Prop:=Nb F (ZP d 31) λi F=>Nb F (ZP e 31) λj F=>Nb F (ZP zD 31) λh F=>Lr F 2 (Am i 0) λf=>Lr F 2 (Am j 0) λg=>ν 77 #[.agg f,.agg g,.func (.func 87) #[] #[]] F λv F=>∃c,∃a,v=(.tuple #[.agg c,(vi a)])/\aw F (Am h 0) 2 c λF=>Lr F 2 (Am h 0) λb=>R (.tuple #[.agg b,(vi a)]) F
theorem W5 {a:Γ} {b:Γ} (h:Tx a b R F):ν 35 #[.agg a,.agg b] F R:=Rx.Λ .N h
def Ty (m n:Γ) (c:ξ) (R:VR) (F:PH):Prop:=Nb F (ZP m 31) λp F=>Nb F (ZP n 31) λq F=>c.cells= #[c]/\Nb F (ZP #[c] 121) λr F=>Nb F (ZP zD 31) λl F=>Lr F 2 (Am p 0) λj=>Lr F 2 (Am q 0) λe=>j.size=2/\e.size=2/\Nb F (ZP (wr (wr zL 0 j.toList) 2 e.toList) 31) λo F=>Ci 95 #[ZS (Sb o 2)] F λf F=>Bc (f≠0) (aw F (Am l 0) 2 zD λF=>Lr F 2 (Am l 0) λd=>R (.tuple #[.agg d,(vi f)]) F) (Lr F 2 (Am p 0) λg=>Lr F 2 (Am q 0) λh=>g.size=2/\h.size=2/\zD.size=2/\Ca 127 #[.agg (wr (wr (wr (#[.slice ZR 0 0,vi 0,.slice ZR 0 0,vi 0,.slice ZR 0 0,vi 0]:Γ) 0 g.toList) 2 h.toList) 4 zD.toList),.func (.func 128) #[] #[(Pp r)]] F λk F=>ν 126 #[.agg k] F λv F=>∃i,∃a,v=(.tuple #[.agg i,(vi a)])/\aw F (Am l 0) 2 i λF=>Lr F 2 (Am l 0) λb=>R (.tuple #[.agg b,(vi a)]) F)
theorem W6 {b:Γ} {c:Γ} {a:ξ} (h:Ty b c a R F):ν 77 #[.agg b,.agg c,a] F R:=Rx.Λ .N h
def Tz (a b:Bool) (R:VR) (F:PH):Prop:=Bb (a) (R (.bool ZT) F) (R (.bool b) F)
theorem W7 {a:Bool} {b:Bool} (h:Tz a b R F):ν 78 #[.bool a,.bool b] F R:=Rx.Λ .N h
def TA (a b:Bool) (R:VR) (F:PH):Prop:=Bb (a) (R (.bool b) F) (R (.bool ZQ) F)
theorem W8 {a:Bool} {b:Bool} (h:TA a b R F):ν 87 #[.bool a,.bool b] F R:=Rx.Λ .N h
def Ho (R:VR) (F:PH):Prop:=R (vi 0) F
def Hp (h:Ω) (c:Sl) (R:VR) (a:Int) (F:PH):Prop:=Bc (a<(c.len:Int)) (Ix c a λd=>Lr F 2 (ZW d (ZY a*2)) λe=>Nb F (ZP zD 31) λg F=>aw F (Am g 0) 2 e λF=>Lr F 2 (Am g 0) λf=>Ci 100 #[.agg f] F λb F=>Bc (b≠0) (R (vi b) F) (h (i64.wrap (a+1)) F)) (Ho R F)
def TB (a:Sl) (R:VR) (F:PH):Prop:=Lp 0 F λN b F=>Hp N a R b F
theorem W9 {a:Sl} (h:TB a R F):ν 95 #[ZS a] F R:=Rx.Λ (.ZN (.J ZQ [] (.ZN (.L [(8,.int .i64)] .N)) .N)) h
def C0 (f:Nat) (R:VR) (F:PH):Prop:=Li F (Am f 1) λg=>Bc (g<0) (R (vi 20) F) (Li F (Am f 1) λh=>Ls F (Am f 0) λi=>Bc ((i64.wrap ((i.len:Int)+1))<h) (R (vi 20) F) (Ls F (Am f 0) λj=>Nb F (ZP (#[ZS j,.map ZR]:Γ) 199) λk F=>Li F (Am f 1) λa=>Ca 159 #[(Pp k),(vi a)] F λb F=>Nb F (ZP zD 31) λl F=>aw F (Am l 0) 2 b λF=>Lr F 2 (Am l 0) λc=>Lr F 2 (Am f 0) λd=>Cbo 31 #[.agg c,.agg d] F λe F=>Bb ((!e)) (R (vi 20) F) (R (vi 0) F)))
def C3 (A:Ω) (z g:Nat) (d:Sl) (R:VR) (a:Int) (F:PH):Prop:=Bc (a<(d.len:Int)) (Ix d a λh=>Lr F 3 (ZW h (ZY a*3)) λi=>Nb F (ZP (#[vi 0,vi 0,vi 0]) 124) λb F=>aw F (Am b 0) 3 i λF=>Li F (Am b 0) λj=>Bc (j<0) (R (vi 20) F) (Li F (Am b 0) λk=>Bc (63<k) (R (vi 20) F) (Li F (Am b 1) λl=>Bc (l<0) (R (vi 20) F) (Li F (Am b 2) λm=>Bc (m<0) (R (vi 20) F) (Li F (Am b 1) λn=>Bc ((i64.wrap (a+1))<n) (R (vi 20) F) (Li F (Am b 2) λo=>Bc ((i64.wrap (a+1))<o) (R (vi 20) F) (Li F (Am b 1) λp=>Li F (Am b 2) λq=>Bc (p=q) (R (vi 20) F) (Lr F 3 (Am b 0) λr=>∃e,rdo prog (Instr.lookup 195 (.map (ZO g)) (.agg r) ZQ) F (.bool e)/\Bb (e) (R (vi 20) F) (Lr F 2 (Am z 0) λs=>Li F (Am b 1) λt=>Li F (Am b 0) λc=>Ci 155 #[.agg s,(vi t)] F λu F=>F.cell (Am b 0)=ZO (vi c)/\Bc (u<=c) (R (vi 20) F) (Lr F 2 (Am z 0) λv=>Li F (Am b 2) λw=>Li F (Am b 0) λf=>Ci 155 #[.agg v,(vi w)] F λx F=>F.cell (Am b 0)=ZO (vi f)/\F.cell (Am b 0)=ZO (vi c)/\Bc (x<=f) (R (vi 20) F) (Lr F 3 (Am b 0) λy=>aH prog (Instr.mapUpdate 195 (.map (ZO g)) (.agg y) (.bool ZT)) F λ_ F=>A (i64.wrap (a+1)) F))))))))))) (C0 z R F)
def Nv (c:Γ) (R:VR) (F:PH):Prop:=Nb F (ZP c 31) λd F=>Ls F (Am d 0) λe=>Bc ((4096:Int)<(e.len:Int)) (R (vi 2) F) (Nb F (.map #[] 0) λf F=>Ls F (Am d 0) λa=>Lp 0 F λN b F=>C3 N d f a R b F)
theorem TC {a:Γ} (h:Nv a R F):ν 100 #[.agg a] F R:=Rx.Λ (.ZN (.ZN (.ZN (.J ZQ [] (.ZN (.L [(15,.int .i64)] .N)) .N)))) h
def Nw (d:Γ) (R:VR) (F:PH):Prop:=Nb F (ZP d 31) λg F=>Nb F (ZP zD 31) λc F=>Ls F (Am g 0) λe=>Bc ((4096:Int)<(e.len:Int)) (aw F (Am c 0) 2 zD λF=>Lr F 2 (Am c 0) λb=>R (.tuple #[.agg b,(vi 2)]) F) (Lr F 2 (Am g 0) λf=>aw F (Am c 0) 2 f λF=>Lr F 2 (Am c 0) λa=>R (.tuple #[.agg a,(vi 0)]) F)
theorem TE {a:Γ} (h:Nw a R F):ν 126 #[.agg a] F R:=Rx.Λ .N h
def Ny (n:Γ) (d:ξ) (R:VR) (F:PH):Prop:=Nb F (ZP n 169) λe F=>d.cells= #[d]/\Nb F (ZP #[d] 170) λs F=>Nb F (ZP zD 31) λq F=>ν 172 #[] F λv F=>∃k,v=(.pointer k)/\Nb F (ZP (#[.pointer ZR]) 196) λm F=>sto F (Am m 0) (.pointer k) λF=>Nb F (.map #[] 0) λt F=>Nb F (ZP (#[.map ZR]) 213) λr F=>sto F (Am r 0) (.map (ZO t)) λF=>Nb F (ZP (#[.nilFunc]) 214) λo F=>sto F (Am o 0) (.func (.func 173) #[] #[(Pp s),(Pp r),(Pp e),(Pp o),(Pp m)]) λF=>Lq F (Am m 0) λf=>∃g:ξ,F.cell (Am o 0)=ZO g/\0<=(0:Int)/\(0:Int)<3/\∃a,F.cell (ZW (ZW (Am e 0) (ZY 0*2)) 1)=ZO (vi a)/\0<=(1:Int)/\(1:Int)<3/\∃b,F.cell (ZW (ZW (Am e 0) (ZY 1*2)) 1)=ZO (vi b)/\0<=(2:Int)/\(2:Int)<3/\∃c,F.cell (ZW (ZW (Am e 0) (ZY 2*2)) 1)=ZO (vi c)/\Fn g λp i j=>aj prog p (i++([(Value.agg (#[(vi a),(vi b),(vi c)]:Γ))]).toArray++j) F λv F=>∃h,v=(vi h)/\F.cell (ZW (ZW (Am e 0) (ZY 2*2)) 1)=ZO (vi c)/\F.cell (ZW (ZW (Am e 0) (ZY 1*2)) 1)=ZO (vi b)/\F.cell (ZW (ZW (Am e 0) (ZY 0*2)) 1)=ZO (vi a)/\F.cell (Am m 0)=ZO (.pointer f)/\Ca 159 #[.pointer f,(vi h)] F λl F=>F.cell (ZW (ZW (Am e 0) (ZY 2*2)) 1)=ZO (vi c)/\F.cell (ZW (ZW (Am e 0) (ZY 1*2)) 1)=ZO (vi b)/\F.cell (ZW (ZW (Am e 0) (ZY 0*2)) 1)=ZO (vi a)/\aw F (Am q 0) 2 l λF=>Rr 2 (Am q 0) R F
theorem TF {b:Γ} {a:ξ} (h:Ny b a R F):ν 127 #[.agg b,a] F R:=Rx.Λ .N h
def Nz (f g _:Bool) (h:Θ) (R:VR) (F:PH):Prop:=∃a,h=ZO a/\∃e:ξ,F.cell a=ZO e/\Fn e λi c d=>aj prog i (c++([(Value.bool f),(Value.bool g)]).toArray++d) F λv F=>∃b,v=(Value.bool b)/\R (.bool b) F
theorem TG {a:Bool} {b:Bool} {c:Bool} {d:Θ} (h:Nz a b c d R F):ν 128 #[.bool a,.bool b,.bool c,.pointer d] F R:=Rx.Λ .N h
def NA (d:Γ) (b:Int) (R:VR) (F:PH):Prop:=Nb F (ZP d 31) λf F=>Bc (b<2) (R (vi 64) F) (Ls F (Am f 0) λe=>Ix e (i64.wrap (b - 2)) λc=>∃a,F.cell (ZW c (ZY (i64.wrap (b - 2))*3))=ZO (vi a)/\R (vi a) F)
theorem TH {a:Γ} {b:Int} (h:NA a b R F):ν 155 #[.agg a,(vi b)] F R:=Rx.Λ .N h
def NB (i:Γ) (a j:Int) (R:VR) (F:PH):Prop:=Nb F (ZP i 31) λk F=>Lr F 2 (Am k 0) λl=>Ci 155 #[.agg l,(vi a)] F λd F=>Bc (d≠j) (R (.tuple #[(vi a),(vi a)]) F) (Ls F (Am k 0) λe=>Ix e (i64.wrap (a - 2)) λf=>∃b,F.cell (ZW (ZW f (ZY (i64.wrap (a - 2))*3)) 1)=ZO (vi b)/\Ls F (Am k 0) λg=>Ix g (i64.wrap (a - 2)) λh=>∃c,F.cell (ZW (ZW h (ZY (i64.wrap (a - 2))*3)) 2)=ZO (vi c)/\R (.tuple #[(vi b),(vi c)]) F)
theorem TJ {a:Γ} {b:Int} {c:Int} (h:NB a b c R F):ν 156 #[.agg a,(vi b),(vi c)] F R:=Rx.Λ .N h
def NC (h:Θ) (a:Int) (R:VR) (F:PH):Prop:=Nb F (ZP #[.pointer h] 196) λn F=>Nb F (ZP zD 31) λl F=>Nb F (ZP zD 31) λg F=>aw F (Am g 0) 2 zD λF=>Nb F (.map #[] 0) λi F=>aH prog (Instr.mapUpdate 238 (.map (ZO i)) (vi 0) (vi 0)) F λ_ F=>aH prog (Instr.mapUpdate 238 (.map (ZO i)) (vi 1) (vi 1)) F λ_ F=>Nb F (ZP (#[.map ZR]) 238) λm F=>sto F (Am m 0) (.map (ZO i)) λF=>Nb F (ZP (#[.nilFunc]) 225) λj F=>sto F (Am j 0) (.func (.func 190) #[] #[(Pp m),(Pp n),(Pp j),(Pp g)]) λF=>∃b:ξ,F.cell (Am j 0)=ZO b/\Fn b λk d e=>aj prog k (d++([(vi a)]).toArray++e) F λv F=>∃c,v=(vi c)/\sto F (Am g 1) (vi c) λF=>Lr F 2 (Am g 0) λf=>aw F (Am l 0) 2 f λF=>Rr 2 (Am l 0) R F
theorem TK {b:Θ} {a:Int} (h:NC b a R F):ν 159 #[.pointer b,(vi a)] F R:=Rx.Λ .N h
def ND (R:VR) (F:PH):Prop:=Nb F (.map #[] 0) λa F=>Nb F (ZP (#[.slice ZR 0 0,.map (ZO a)]:Γ) 199) λb F=>R (Pp b) F
theorem TL (h:ND R F):ν 172 #[] F R:=Rx.Λ .N h
def C4 (n:Addr) (u w:Θ) (B:Nat) (o p q:Int) (x y:Nat) (R:VR) (F:PH):Prop:=∃a,u=ZO a/\∃c:ξ,F.cell a=ZO c/\Lr F 3 (Am x 0) λr=>Fn c λz j k=>aj prog z (j++([(Value.agg r)]).toArray++k) F λv F=>∃d,v=(vi d)/\∃b,w=ZO b/\Lq F b λe=>∃f:ξ,F.cell a=ZO f/\Lr F 3 (Am y 0) λs=>Fn f λA l m=>aj prog A (l++([(Value.agg s)]).toArray++m) F λv F=>∃g,v=(vi g)/\F.cell b=ZO (.pointer e)/\Ci 174 #[.pointer e,(vi (min (min o p) q)),(vi d),(vi g)] F λh F=>∃i:Option Nat,F.cell n=ZO (.map i)/\Lr F 3 (Am B 0) λt=>aH prog (Instr.mapUpdate 213 (.map i) (.agg t) (vi h)) F λ_ F=>R (vi h) F
def C5 (p:Ω) (g h:Addr) (m n:Θ) (o:Nat) (c d e:Int) (i j:Nat) (R:VR) (a:Int) (F:PH):Prop:=Bc (a<3) (0<=a/\a<3/\Lr F 2 (ZW h (ZY a*2)) λk=>0<=a/\a<3/\Li F (ZW (Am o 0) (ZY a*1)) λl=>ν 156 #[.agg k,(vi l),(vi (min (min c d) e))] F λv F=>∃f,∃b,v=(.tuple #[(vi f),(vi b)])/\0<=a/\a<3/\sto F (ZW (Am i 0) (ZY a*1)) (vi f) λF=>0<=a/\a<3/\sto F (ZW (Am j 0) (ZY a*1)) (vi b) λF=>p (i64.wrap (a+1)) F) (C4 g m n o c d e i j R F)
def gF (B C D E G:Θ) (b:Nat) (p:Bool) (R:VR) (F:PH):Prop:=Bb (p) (∃g,B=ZO g/\∃h:ξ,F.cell g=ZO h/\0<=(0:Int)/\(0:Int)<3/\Li F (ZW (Am b 0) (ZY 0*1)) λq=>0<=(1:Int)/\(1:Int)<3/\Li F (ZW (Am b 0) (ZY 1*1)) λr=>0<=(2:Int)/\(2:Int)<3/\Li F (ZW (Am b 0) (ZY 2*1)) λs=>Fn h λH n o=>aj prog H (n++([(Value.bool (decide (q=1))),(Value.bool (decide (r=1))),(Value.bool (decide (s=1)))]).toArray++o) F λv F=>∃i,v=(Value.bool i)/\Bb (i) (R (vi 1) F) (R (vi 0) F)) (∃c,C=ZO c/\∃j:Option Nat,F.cell c=ZO (.map j)/\Lr F 3 (Am b 0) λt=>∃(k:Int) (d:Bool),rdo prog (Instr.lookup 213 (.map j) (.agg t) ZT) F (.tuple #[(vi k),.bool d])/\Bb (d) (R (vi k) F) (∃a,D=ZO a/\0<=(0:Int)/\(0:Int)<3/\Lr F 2 (ZW a (ZY 0*2)) λu=>0<=(0:Int)/\(0:Int)<3/\Li F (ZW (Am b 0) (ZY 0*1)) λw=>0<=(1:Int)/\(1:Int)<3/\Lr F 2 (ZW a (ZY 1*2)) λl=>0<=(1:Int)/\(1:Int)<3/\Li F (ZW (Am b 0) (ZY 1*1)) λm=>0<=(2:Int)/\(2:Int)<3/\Lr F 2 (ZW a (ZY 2*2)) λe=>0<=(2:Int)/\(2:Int)<3/\Li F (ZW (Am b 0) (ZY 2*1)) λf=>Ci 155 #[.agg u,(vi w)] F λx F=>F.cell (ZW (Am b 0) (ZY 2*1))=ZO (vi f)/\F.row (ZW a (ZY 2*2)) e/\F.cell (ZW (Am b 0) (ZY 1*1))=ZO (vi m)/\F.row (ZW a (ZY 1*2)) l/\Ci 155 #[.agg l,(vi m)] F λy F=>F.cell (ZW (Am b 0) (ZY 2*1))=ZO (vi f)/\F.row (ZW a (ZY 2*2)) e/\Ci 155 #[.agg e,(vi f)] F λz F=>Nb F (ZP (#[vi 0,vi 0,vi 0]) 215) λI F=>Nb F (ZP (#[vi 0,vi 0,vi 0]) 215) λJ F=>Lp 0 F λN A F=>C5 N c a E G b x y z I J R A F))
def NE (j:Γ) (a b c d e:Θ) (R:VR) (F:PH):Prop:=Nb F (ZP j 215) λf F=>0<=(0:Int)/\(0:Int)<3/\Li F (ZW (Am f 0) (ZY 0*1)) λg=>Bc (g<2) (0<=(1:Int)/\(1:Int)<3/\Li F (ZW (Am f 0) (ZY 1*1)) λh=>Bc (h<2) (0<=(2:Int)/\(2:Int)<3/\Li F (ZW (Am f 0) (ZY 2*1)) λi=>gF a b c d e f (decide (i<2)) R F) (gF a b c d e f ZQ R F)) (gF a b c d e f ZQ R F)
theorem TM {a:Γ} {b:Θ} {c:Θ} {d:Θ} {e:Θ} {f:Θ} (h:NE a b c d e f R F):ν 173 #[.agg a,.pointer b,.pointer c,.pointer d,.pointer e,.pointer f] F R:=Rx.Λ (.ZN (.T (.J ZQ [(28,.bool)] .N .N) (.ZN (.ZN (.ZN (.J ZQ [] (.ZN (.L [(64,.int .i64)] .N)) .N)))))) h
def NF (o:Θ) (p b c:Int) (R:VR) (F:PH):Prop:=Bc (b=c) (R (vi b) F) (Nb F (ZP (#[vi 0,vi 0,vi 0]) 124) λn F=>aw F (Am n 0) 3 (#[(vi p),(vi b),(vi c)]:Γ) λF=>∃a,o=ZO a/\∃e:Option Nat,F.cell (ZW a 1)=ZO (.map e)/\Lr F 3 (Am n 0) λj=>∃(f:Int) (d:Bool),rdo prog (Instr.lookup 197 (.map e) (.agg j) ZT) F (.tuple #[(vi f),.bool d])/\Bb ((!d)) (Ls F a λk=>Lr F 3 (Am n 0) λg=>g.size=3/\Nb F (ZP g 124) λq F=>Ap 29 #[ZS k,ZS (Sb q 1)] F λl F=>sto F a (ZS l) λF=>Ls F a λh=>∃i:Option Nat,F.cell (ZW a 1)=ZO (.map i)/\Lr F 3 (Am n 0) λm=>aH prog (Instr.mapUpdate 197 (.map i) (.agg m) (vi (i64.wrap ((h.len:Int)+1)))) F λ_ F=>R (vi (i64.wrap ((h.len:Int)+1))) F) (R (vi f) F))
theorem TN {c:Θ} {d:Int} {b:Int} {a:Int} (h:NF c d b a R F):ν 174 #[.pointer c,(vi d),(vi b),(vi a)] F R:=Rx.Λ .N h
def Hq (c:Int) (H I J K:Θ) (R:VR) (F:PH):Prop:=∃a,H=ZO a/\∃j:Option Nat,F.cell a=ZO (.map j)/\∃(k:Int) (d:Bool),rdo prog (Instr.lookup 238 (.map j) (vi c) ZT) F (.tuple #[(vi k),.bool d])/\Bb (d) (R (vi k) F) (∃l,I=ZO l/\Lq F l λx=>∃e,x=ZO e/\Ls F e λy=>Ix y (i64.wrap (c - 2)) λz=>∃f,f.size=3/\F.row (ZW z (ZY (i64.wrap (c - 2))*3)) f/\Nb F (ZP (#[vi 0,vi 0,vi 0]) 124) λG F=>aw F (Am G 0) 3 f λF=>∃g,J=ZO g/\∃m:ξ,F.cell g=ZO m/\Li F (Am G 1) λA=>Fn m λL s t=>aj prog L (s++([(vi A)]).toArray++t) F λv F=>∃h,v=(vi h)/\∃n:ξ,F.cell g=ZO n/\Li F (Am G 2) λB=>Fn n λM u w=>aj prog M (u++([(vi B)]).toArray++w) F λv F=>∃i,v=(vi i)/\∃b,K=ZO b/\Ls F b λC=>Li F (Am G 0) λo=>(#[(vi o),(vi h),(vi i)]:Γ).size=3/\Nb F (ZP (#[(vi o),(vi h),(vi i)]:Γ) 124) λN F=>Ap 29 #[ZS C,ZS (Sb N 1)] F λD F=>sto F b (ZS D) λF=>∃p:Option Nat,F.cell a=ZO (.map p)/\Ls F b λE=>aH prog (Instr.mapUpdate 238 (.map p) (vi c) (vi (i64.wrap ((E.len:Int)+1)))) F λ_ F=>∃q:Option Nat,F.cell a=ZO (.map q)/\∃r,rdo prog (Instr.lookup 238 (.map q) (vi c) ZQ) F (vi r)/\R (vi r) F)
theorem NG {a:Int} {b:Θ} {c:Θ} {d:Θ} {e:Θ} (h:Hq a b c d e R F):ν 190 #[(vi a),.pointer b,.pointer c,.pointer d,.pointer e] F R:=Rx.Λ .N h
variable {R:VR} {F:PH}
set_option maxHeartbeats 4000000
def Pc (R:VR) (F:PH):Prop:=R (.bool ZT) F
def Hr (i:Ω) (b d:Sl) (R:VR) (a:Int) (F:PH):Prop:=Bc (a<(b.len:Int)) (Ix b a λe=>Lr F 3 (ZW e (ZY a*3)) λf=>Ix d a λg=>Lr F 3 (ZW g (ZY a*3)) λh=>∃c,(∀F,rdo prog (Op.equal 124 (.agg f) (.agg h)) F c)/\Bb ((!c)) (R (.bool ZQ) F) (i (i64.wrap (a+1)) F)) (Pc R F)
def TO (a b:Sl) (R:VR) (F:PH):Prop:=Bc ((a.len:Int)≠(b.len:Int)) (R (.bool ZQ) F) (Lp 0 F λN c F=>Hr N a b R c F)
theorem Xa {a:Sl} {b:Sl} (h:TO a b R F):ν 79 #[ZS a,ZS b] F R:=Rx.Λ (.ZN (.ZN (.J ZQ [] (.ZN (.L [(13,.int .i64)] .N)) .N))) h
def NH (a:Sl) (b:ξ) (R:VR) (F:PH):Prop:=Ci 178 #[ZS a,b] F λc F=>R (.bool (decide (0<=c))) F
theorem TQ {a:Sl} {b:ξ} (h:NH a b R F):ν 139 #[ZS a,b] F R:=Rx.Λ .N h
def NI (a:Sl) (b:ξ) (R:VR) (F:PH):Prop:=Ci 187 #[ZS a,b] F λc F=>R (.bool (decide (0<=c))) F
theorem TR {a:Sl} {b:ξ} (h:NI a b R F):ν 148 #[ZS a,b] F R:=Rx.Λ .N h
def Kz (R:VR) (F:PH):Prop:=R (vi (-1:Int)) F
def KA (j:Ω) (e:Sl) (h:ξ) (R:VR) (a:Int) (F:PH):Prop:=Bc (a<(e.len:Int)) (Ix e a λf=>Lr F 13 (ZW f (ZY a*13)) λg=>Fn h λi c d=>aj prog i (c++([(Value.agg g)]).toArray++d) F λv F=>∃b,v=(Value.bool b)/\Bb (b) (R (vi a) F) (j (i64.wrap (a+1)) F)) (Kz R F)
def TT (a:Sl) (b:ξ) (R:VR) (F:PH):Prop:=Lp 0 F λN c F=>KA N a b R c F
theorem TU {a:Sl} {b:ξ} (h:TT a b R F):ν 178 #[ZS a,b] F R:=Rx.Λ (.ZN (.J ZQ [] (.ZN (.L [(8,.int .i64)] .N)) .N)) h
def NJ (a:Sl) (b:ξ) (R:VR) (F:PH):Prop:=Ci 201 #[ZS a,b] F λc F=>R (.bool (decide (0<=c))) F
theorem TV {a:Sl} {b:ξ} (h:NJ a b R F):ν 180 #[ZS a,b] F R:=Rx.Λ .N h
def KB (R:VR) (F:PH):Prop:=R (vi (-1:Int)) F
def KC (j:Ω) (e:Sl) (h:ξ) (R:VR) (a:Int) (F:PH):Prop:=Bc (a<(e.len:Int)) (Ix e a λf=>Lr F 2 (ZW f (ZY a*2)) λg=>Fn h λi c d=>aj prog i (c++([(Value.agg g)]).toArray++d) F λv F=>∃b,v=(Value.bool b)/\Bb (b) (R (vi a) F) (j (i64.wrap (a+1)) F)) (KB R F)
def TW (a:Sl) (b:ξ) (R:VR) (F:PH):Prop:=Lp 0 F λN c F=>KC N a b R c F
theorem TX {a:Sl} {b:ξ} (h:TW a b R F):ν 187 #[ZS a,b] F R:=Rx.Λ (.ZN (.J ZQ [] (.ZN (.L [(8,.int .i64)] .N)) .N)) h
def KD (R:VR) (F:PH):Prop:=R (vi (-1:Int)) F
def KE (j:Ω) (e:Sl) (h:ξ) (R:VR) (a:Int) (F:PH):Prop:=Bc (a<(e.len:Int)) (Ix e a λf=>Lr F 3 (ZW f (ZY a*3)) λg=>Fn h λi c d=>aj prog i (c++([(Value.agg g)]).toArray++d) F λv F=>∃b,v=(Value.bool b)/\Bb (b) (R (vi a) F) (j (i64.wrap (a+1)) F)) (KD R F)
def TY (a:Sl) (b:ξ) (R:VR) (F:PH):Prop:=Lp 0 F λN c F=>KE N a b R c F
theorem TZ {a:Sl} {b:ξ} (h:TY a b R F):ν 201 #[ZS a,b] F R:=Rx.Λ (.ZN (.J ZQ [] (.ZN (.L [(8,.int .i64)] .N)) .N)) h
end
open Tr
abbrev Fit (n:Nat):Prop:=n<=1000000000000
def dx (b:Br):Ξ:=[vi b.v,vi b.l,vi b.h]
def ba (l:List Br):Ξ:=l.flatMap dx
abbrev bh (b:Br):Γ:= #[vi b.v,vi b.l,vi b.h]
theorem wP (l:List Br):(ba l).length=l.length*3:=by
 induction l with
 |nil=>rfl
 |cons b l ih=>simp only [ba,YC,XT,X4] at ih ⊢;rw [ih];simp [dx];omega
theorem eP (l m:List Br):ba (l++m)=ba l++ba m:=by simp [ba]
theorem uG:∀(l:List Br) (i:Nat) (hi:i<l.length),((ba l).drop (i*3)).take 3=dx l[i]
 |b::l,0,_=>by simp [ba,dx]
 |b::l,i+1,hi=>by
  have e:(i+1)*3=3+i*3:=by omega
  have:ba (b::l)=dx b++ba l:=by simp [ba]
  rw [this,e,<- List.drop_drop,List.drop_left' (by simp [dx])];simpa using uG l i (by simpa using hi)
theorem im (l:List Br):∀v∈ba l,am v:=by intro v hv;obtain ⟨b,_,hb⟩:=Zm.1 hv;simp only [dx,XP,YP,or_false] at hb;rcases hb with rfl|rfl|rfl<;>exact jJ
theorem mH (b:Br):∀v∈(bh b).toList,am v:=by intro v hv;simp only [XP,YP,or_false] at hv;rcases hv with rfl|rfl|rfl<;>exact jJ
theorem RdS.blen {F:PH} {s:Sl} {l:List Br} (h:RdS F s 3 (ba l)):s.len=l.length:=by have:=h.len;rw [wP] at this;omega
theorem rdb {F:PH} {s:Sl} {l:List Br} (h:RdS F s 3 (ba l)) {i:Nat} {x:Br} (hx:l[i]? =ZO x):∃a,s.ZK=ZO a/\F.row (a.add (i*3)) (bh x)/\
  F.cell (a.add (i*3))=ZO (vi x.v)/\F.cell ((a.add (i*3)).add 1)=ZO (vi x.l)/\F.cell ((a.add (i*3)).add 2)=ZO (vi x.h):=by
 obtain ⟨hi,hx⟩:=XN.1 hx;subst hx;have hlen:=h.blen;obtain ⟨b,o,hb,_⟩:=h.cells (by omega)
 have hr:=h.row hb (i*3) (bh l[i]) (by
  have:=uG l i hi
  simpa [bh,dx] using this.symm)
 refine ⟨_,hb,hr,?_,?_,?_⟩
 ·have:=hr 0 (by simp);simpa using this
 ·have:=hr 1 (by simp);simpa using this
 ·have:=hr 2 (by simp);simpa using this
def DV (F:PH) (v:Γ) (d:Dia):Prop:=∃s:Sl,v= #[s.v,vi d.2]/\RdS F s 3 (ba d.1)
theorem DV.le {F G:PH} {v:Γ} {d:Dia} (h:DV F v d) (hl:F.le G):DV G v d:=by obtain ⟨s,h1,h2⟩:=h;exact ⟨s,h1,h2.le hl⟩
theorem DV.size {F:PH} {v:Γ} {d:Dia} (h:DV F v d):v.size=2:=by obtain ⟨s,rfl,_⟩:=h;rfl
theorem DV.st {F:PH} {v:Γ} {d:Dia} (h:DV F v d):∀x∈v.toList,am x:=by
 obtain ⟨s,rfl,_⟩:=h;intro x hx;simp only [XP,YP,or_false] at hx;rcases hx with rfl|rfl
 ·exact Im
 ·exact jJ
theorem PH.le_rfl {F:PH}:F.le F:=λ_ _ h=>h
theorem gH {S:List Tr} {d:List Br} (hp:brs S<+:d) {k:Nat} {t:Tr} (h:S[k]? =ZO t):d[k]? =ZO (br S t):=by obtain ⟨r,rfl⟩:=hp;rw [X0 (by rw [aP];exact (XN.1 h).1)];exact qE h
theorem uH {n:Nat} (h:Fit n) (h2:2<=n):i64.wrap ((n:Int) - 2)=((n - 2:Nat):Int):=by rw [aR (by omega)];omega
section
variable {F:PH} {v:Γ} {d:Dia} {S:List Tr} {t:Tr}
theorem p9 (hp:brs S<+:d.1) (ht:inn S t) (hf:Fit (d.1.length+2)):Fit (num S t)/\num S t<=d.1.length+1:=by have h1:=ff ht;have h2:=hp.length_le;rw [aP] at h2;omega
theorem fc (hd:DV F v d) (hp:brs S<+:d.1) (ht:inn S t) (hf:Fit (d.1.length+2)):
  ν 155 #[.agg v,vi (num S t)] F λr F'=>r=vi t.top/\F.le F':=by
 obtain ⟨hfit,hlt⟩:=p9 hp ht hf;obtain ⟨s,rfl,hr⟩:=hd;refine TH ?_;unfold NA;intro b2 hb2;refine atI ?_;have hle:=ae (ZP #[s.v,vi d.2] 31) hb2;refine ⟨λh=> ?_,λh=> ?_⟩
 ·have hl:=qD (S:=S) (t:=t) (by omega);cases t with
  |ZL b=>exact ⟨rfl,hle⟩
  |ZM _ _ _=>cases hl
 ·cases t with
  |ZL b=>have:=dJ S b;omega
  |ZM w l r=>have hx:=gH hp (f8 (cS ht rfl) rfl);obtain ⟨a,h1,_,h2,_⟩:=rdb (hr.le hle) hx;have hw:=uH hfit (eF (S:=S) (t:=ZM w l r) rfl);have hg:=eF (S:=S) (t:=ZM w l r) rfl;refine ⟨s,by simp,a,h1,by rw [hw];omega,by rw [hw,hr.blen];omega,_,by rw [hw];exact h2,rfl,hle⟩
theorem AJ (hd:DV F v d) (hp:brs S<+:d.1) (ht:inn S t) (hf:Fit (d.1.length+2)) {w:Nat} (hw:w<64):
  ν 156 #[.agg v,vi (num S t),vi w] F λr F'=>r=.tuple #[vi (num S (lo w t)),vi (num S (hi w t))]/\F.le F':=by
 obtain ⟨hfit,hlt⟩:=p9 hp ht hf;have hd':=hd;obtain ⟨s,rfl,hr⟩:=hd;refine TJ ?_;unfold NB;intro b3 hb3;refine atI ?_;have hle:=ae (ZP #[s.v,vi d.2] 31) hb3;refine ⟨_,rfl,ac (au _ _ _),?_⟩;refine (fc (hd'.le hle) hp ht hf).mono ?_;rintro _ F2 ⟨rfl,hle2⟩;have hc:F2 b3=ZO _:=hle2 _ _ (au _ _ _);have hle':F.le F2:=λb o h=>hle2 b o (hle b o h);refine ⟨_,rfl,λh=> ?_,λh=> ?_⟩
 ·refine ⟨?_,hle'⟩;cases t with
  |ZL b=>rfl
  |ZM w' l r=>have:¬w'=w:=λe=>h (by simp [Tr.top,e]);simp [lo,hi,this]
 ·cases t with
  |ZL b=>simp only [Tr.top] at h;omega
  |ZM w' l r=>
   have e:w'=w:=by simp only [Tr.top] at h;omega
   subst e;have hx:=gH hp (f8 (cS ht rfl) rfl);obtain ⟨a,h1,_,_,h3,h4⟩:=rdb (hr.le hle') hx;have hw:=uH hfit (eF (S:=S) (t:=ZM w' l r) rfl);have hg:=eF (S:=S) (t:=ZM w' l r) rfl
   refine ⟨s,by rw [av hc];rfl,a,h1,by rw [hw];omega,by rw [hw,hr.blen];omega,_,by rw [hw];exact h3,
    s,by rw [av hc];rfl,a,h1,by rw [hw];omega,by rw [hw,hr.blen];omega,_,by rw [hw];exact h4,?_,hle'⟩
   simp [lo,hi,br]
end
inductive Pat where
 |emp:Pat
 |rng:Nat->Nat->Pat
 |seq:Pat->Pat->Pat
 |alt:Pat->Pat->Pat
 |rep:Pat->Pat
deriving DecidableEq
inductive kC (P:Δ->Prop):Δ->Prop where
 |nil:kC P []
 |cons {u v:Δ}:P u->kC P v->kC P (u++v)
def Lg:Pat->Δ->Prop
 | .emp,w=>w=[]
 | .rng lo hi,w=>∃b,w=[b]/\lo<=b/\b<=hi
 | .seq x y,w=>∃u v,w=u++v/\Lg x u/\Lg y v
 | .alt x y,w=>Lg x w\/Lg y w
 | .rep x,w=>kC (Lg x) w
inductive Lt where
 |emp:Lt
 |rng:Nat->Nat->Nat->Lt
 |seq:Lt->Lt->Lt
 |alt:Lt->Lt->Lt
 |rep:Lt->Lt
namespace Lt
def pat:Lt->Pat
 |emp=> .emp
 |rng _ lo hi=> .rng lo hi
 |seq x y=> .seq x.pat y.pat
 |alt x y=> .alt x.pat y.pat
 |rep x=> .rep x.pat
def nul:Lt->Bool
 |emp=>ZT
 |rng _ _ _=>ZQ
 |seq x y=>x.nul && y.nul
 |alt x y=>x.nul || y.nul
 |rep _=>ZT
def first:Lt->Nat->Prop
 |emp,_=>False
 |rng i _ _,j=>i=j
 |seq x y,j=>x.first j\/(x.nul=ZT/\y.first j)
 |alt x y,j=>x.first j\/y.first j
 |rep x,j=>x.first j
def last:Lt->Nat->Prop
 |emp,_=>False
 |rng i _ _,j=>i=j
 |seq x y,j=>y.last j\/(y.nul=ZT/\x.last j)
 |alt x y,j=>x.last j\/y.last j
 |rep x,j=>x.last j
def fol:Lt->Nat->Nat->Prop
 |emp,_,_=>False
 |rng _ _ _,_,_=>False
 |seq x y,i,j=>x.fol i j\/y.fol i j\/(x.last i/\y.first j)
 |alt x y,i,j=>x.fol i j\/y.fol i j
 |rep x,i,j=>x.fol i j\/(x.last i/\x.first j)
def lab:Lt->Nat->Prop
 |emp,_=>False
 |rng i _ _,j=>i=j
 |seq x y,j=>x.lab j\/y.lab j
 |alt x y,j=>x.lab j\/y.lab j
 |rep x,j=>x.lab j
def fits (acc:Nat->Nat->Prop):Lt->Prop
 |emp=>True
 |rng i lo hi=>∀b,acc i b↔lo<=b/\b<=hi
 |seq x y=>x.fits acc/\y.fits acc/\∀i,x.lab i->¬y.lab i
 |alt x y=>x.fits acc/\y.fits acc/\∀i,x.lab i->¬y.lab i
 |rep x=>x.fits acc
theorem first_lab:∀(t:Lt) {i:Nat},t.first i->t.lab i
 |rng _ _ _,_,h=>h
 |seq x y,_,h=>h.elim (λh=> .inl (x.first_lab h)) λh=> .inr (y.first_lab h.2)
 |alt x y,_,h=>h.elim (λh=> .inl (x.first_lab h)) λh=> .inr (y.first_lab h)
 |rep x,_,h=>x.first_lab h
theorem last_lab:∀(t:Lt) {i:Nat},t.last i->t.lab i
 |rng _ _ _,_,h=>h
 |seq x y,_,h=>h.elim (λh=> .inr (y.last_lab h)) λh=> .inl (x.last_lab h.2)
 |alt x y,_,h=>h.elim (λh=> .inl (x.last_lab h)) λh=> .inr (y.last_lab h)
 |rep x,_,h=>x.last_lab h
theorem fol_lab:∀(t:Lt) {i j:Nat},t.fol i j->t.lab i/\t.lab j
 |seq x y,_,_,h=>by
  rcases h with h|h|⟨h,h'⟩
  ·exact ⟨.inl (x.fol_lab h).1,.inl (x.fol_lab h).2⟩
  ·exact ⟨.inr (y.fol_lab h).1,.inr (y.fol_lab h).2⟩
  ·exact ⟨.inl (x.last_lab h),.inr (y.first_lab h')⟩
 |alt x y,_,_,h=>by
  rcases h with h|h
  ·exact ⟨.inl (x.fol_lab h).1,.inl (x.fol_lab h).2⟩
  ·exact ⟨.inr (y.fol_lab h).1,.inr (y.fol_lab h).2⟩
 |rep x,_,_,h=>by
  rcases h with h|⟨h,h'⟩
  ·exact x.fol_lab h
  ·exact ⟨x.last_lab h,x.first_lab h'⟩
end Lt
def Pth (acc fol:Nat->Nat->Prop) (e:Nat->Prop):Nat->Δ->Prop
 |_,[]=>False
 |i,b::w=>acc i b/\((w=[]/\e i)\/∃j,fol i j/\Pth acc fol e j w)
section
variable {acc fol fol':Nat->Nat->Prop} {e e':Nat->Prop}
theorem Pth.ne {i:Nat} {w:Δ} (h:Pth acc fol e i w):w≠[]:=by rintro rfl;exact h
theorem Pth.mono (hf:∀i j,fol i j->fol' i j) (he:∀i,e i->e' i):∀(w:Δ) (i:Nat),Pth acc fol e i w->Pth acc fol' e' i w
 |[],_,h=>h
 |_::w,_,⟨h,k⟩=>⟨h,k.elim (λk=> .inl ⟨k.1,he _ k.2⟩) λ⟨j,k1,k2⟩=> .inr ⟨j,hf _ _ k1,Pth.mono hf he w j k2⟩⟩
theorem Pth.inside (P:Nat->Prop) (hf:∀i j,P i->fol i j->P j/\fol' i j) (he:∀i,P i->e i->e' i):∀(w:Δ) (i:Nat),P i->Pth acc fol e i w->Pth acc fol' e' i w
 |[],_,_,h=>h
 |_::w,i,hp,⟨h,k⟩=>⟨h,k.elim (λk=> .inl ⟨k.1,he _ hp k.2⟩) λ⟨j,k1,k2⟩=> .inr ⟨j,(hf i j hp k1).2,Pth.inside P hf he w j (hf i j hp k1).1 k2⟩⟩
theorem Pth.link {l g:Nat->Prop}:∀(w:Δ) (i:Nat),Pth acc (λi j=>fol i j\/(l i/\g j)) e i w->
  Pth acc fol e i w\/∃u v j,w=u++v/\Pth acc fol l i u/\g j/\Pth acc (λi j=>fol i j\/(l i/\g j)) e j v
 |[],_,h=>h.elim
 |b::w,i,⟨h,k⟩=>by
  rcases k with ⟨rfl,k⟩|⟨j,k1|⟨k1,k3⟩,k2⟩
  ·exact .inl ⟨h,.inl ⟨rfl,k⟩⟩
  ·rcases Pth.link w j k2 with q|⟨u,v,m,rfl,q1,q2,q3⟩
   ·exact .inl ⟨h,.inr ⟨j,k1,q⟩⟩
   ·exact .inr ⟨b::u,v,m,rfl,⟨h,.inr ⟨j,k1,q1⟩⟩,q2,q3⟩
  ·exact .inr ⟨[b],w,j,rfl,⟨h,.inl ⟨rfl,k1⟩⟩,k3,k2⟩
theorem Pth.append {l g:Nat->Prop} (hf:∀i j,fol i j->fol' i j) (hl:∀i j,l i->g j->fol' i j) {v:Δ} {j:Nat} (hg:g j) (hv:Pth acc fol' e j v):
  ∀(u:Δ) (i:Nat),Pth acc fol l i u->Pth acc fol' e i (u++v)
 |[],_,h=>h.elim
 |b::u,i,⟨h,k⟩=>by
  rcases k with ⟨rfl,k⟩|⟨m,k1,k2⟩
  ·exact ⟨h,.inr ⟨j,hl i j k hg,hv⟩⟩
  ·exact ⟨h,.inr ⟨m,hf _ _ k1,Pth.append hf hl hg hv u m k2⟩⟩
end
namespace Lt
variable {acc:Nat->Nat->Prop}
theorem nul_iff:∀(t:Lt),t.nul=ZT↔Lg t.pat []
 |emp=>⟨λ_=>rfl,λ_=>rfl⟩
 |rng i lo hi=>⟨λh=>(by cases h),λ⟨b,h,_⟩=>(by cases h)⟩
 |seq x y=>by
  have hx:=nul_iff x;have hy:=nul_iff y;simp only [nul,pat,Lg,Yt,hx,hy];constructor
  ·rintro ⟨h1,h2⟩;exact ⟨[],[],rfl,h1,h2⟩
  ·rintro ⟨u,v,h,h1,h2⟩;obtain ⟨rfl,rfl⟩:=List.append_eq_nil_iff.1 h.symm;exact ⟨h1,h2⟩
 |alt x y=>by simp only [nul,pat,Lg,YE,nul_iff x,nul_iff y]
 |rep x=>⟨λ_=>kC.nil,λ_=>rfl⟩
theorem places:∀(t:Lt),t.fits acc->∀w,w≠[]->(Lg t.pat w↔∃i,t.first i/\Pth acc t.fol t.last i w)
 |emp,_,w,hw=>⟨λh=>absurd h hw,λ⟨i,h,_⟩=>h.elim⟩
 |rng i lo hi,hf,w,hw=>by
  constructor
  ·rintro ⟨b,rfl,h⟩;exact ⟨i,rfl,(hf b).2 h,.inl ⟨rfl,rfl⟩⟩
  ·rintro ⟨j,rfl,h⟩;cases w with
   |nil=>exact h.elim
   |cons b w=>
    obtain ⟨h1,⟨rfl,_⟩|⟨j,h2,_⟩⟩:=h
    ·exact ⟨b,rfl,(hf b).1 h1⟩
    ·exact h2.elim
 |alt x y,⟨fx,fy,hd⟩,w,hw=>by
  have ix:=places x fx w hw;have iy:=places y fy w hw;constructor
  ·rintro (h|h)
   ·obtain ⟨i,h1,h2⟩:=ix.1 h;exact ⟨i,.inl h1,h2.mono (λ_ _ h=> .inl h) (λ_ h=> .inl h) w i⟩
   ·obtain ⟨i,h1,h2⟩:=iy.1 h;exact ⟨i,.inr h1,h2.mono (λ_ _ h=> .inr h) (λ_ h=> .inr h) w i⟩
  ·rintro ⟨i,h1|h1,h2⟩
   ·refine .inl (ix.2 ⟨i,h1,h2.inside x.lab (λi j hp h=> ?_) (λi hp h=> ?_) w i (x.first_lab h1)⟩)
    ·exact h.elim (λh=>⟨(x.fol_lab h).2,h⟩) λh=>absurd (y.fol_lab h).1 (hd i hp)
    ·exact h.elim id λh=>absurd (y.last_lab h) (hd i hp)
   ·refine .inr (iy.2 ⟨i,h1,h2.inside y.lab (λi j hp h=> ?_) (λi hp h=> ?_) w i (y.first_lab h1)⟩)
    ·exact h.elim (λh=>absurd hp (hd i (x.fol_lab h).1)) λh=>⟨(y.fol_lab h).2,h⟩
    ·exact h.elim (λh=>absurd hp (hd i (x.last_lab h))) id
 |seq x y,⟨fx,fy,hd⟩,w,hw=>by
  have ix:=places x fx;have iy:=places y fy
  have inY:∀w i,y.lab i->Pth acc (seq x y).fol (seq x y).last i w->Pth acc y.fol y.last i w:=λw i hi h=>h.inside y.lab (λi j hp h=>by
    rcases h with h|h|⟨h,_⟩
    ·exact absurd hp (hd i (x.fol_lab h).1)
    ·exact ⟨(y.fol_lab h).2,h⟩
    ·exact absurd hp (hd i (x.last_lab h))) (λi hp h=>h.elim id λh=>absurd hp (hd i (x.last_lab h.2))) w i hi
  constructor
  ·rintro ⟨u,v,rfl,hu,hv⟩;by_cases hu0:u=[]
   ·subst hu0;obtain ⟨i,h1,h2⟩:=(iy _ hw).1 hv;exact ⟨i,.inr ⟨(nul_iff x).2 hu,h1⟩,h2.mono (λ_ _ h=> .inr (.inl h)) (λ_ h=> .inl h) _ i⟩
   ·obtain ⟨i,h1,h2⟩:=(ix u hu0).1 hu;refine ⟨i,.inl h1,?_⟩;by_cases hv0:v=[]
    ·subst hv0;rw [Ys];exact h2.mono (λ_ _ h=> .inl h) (λ_ h=> .inr ⟨(nul_iff y).2 hv,h⟩) _ i
    ·obtain ⟨j,h3,h4⟩:=(iy v hv0).1 hv;exact Pth.append (λ_ _ h=> .inl h) (λ_ _ h h'=> .inr (.inr ⟨h,h'⟩)) h3 (h4.mono (λ_ _ h=> .inr (.inl h)) (λ_ h=> .inl h) v j) u i h2
  ·rintro ⟨i,h1,h2⟩;rcases h1 with h1|⟨h0,h1⟩
   ·have k:Pth acc (λi j=>(x.fol i j\/y.fol i j)\/(x.last i/\y.first j)) (seq x y).last i w:=h2.mono (λi j h=>by
     rcases h with h|h|h
     ·exact .inl (.inl h)
     ·exact .inl (.inr h)
     ·exact .inr h) (λ_ h=>h) w i
    have inX:∀{e e':Nat->Prop} w i,(∀i,x.lab i->e i->e' i)->x.lab i->Pth acc (λi j=>x.fol i j\/y.fol i j) e i w->Pth acc x.fol e' i w:=λw i he hi h=>h.inside x.lab (λi j hp h=>
     h.elim (λh=>⟨(x.fol_lab h).2,h⟩) λh=>absurd (y.fol_lab h).1 (hd i hp)) he w i hi
    rcases k.link w i with q|⟨u,v,j,rfl,q1,q2,q3⟩
    ·by_cases hy:y.nul=ZT
     ·exact ⟨w,[],(Ys w).symm,(ix w hw).2 ⟨i,h1,inX w i (λi hp h=>h.elim (λh=>absurd (y.last_lab h) (hd i hp)) λh=>h.2) (x.first_lab h1) q⟩,(nul_iff y).1 hy⟩
     ·exfalso;have z:=inX (e':=λ_=>False) w i (λi hp h=>h.elim (λh=>absurd (y.last_lab h) (hd i hp)) λh=>hy h.1) (x.first_lab h1) q;have ZR:∀(w:Δ) (i:Nat),¬Pth acc x.fol (λ_=>False) i w:=by
       intro w;induction w with
       |nil=>exact λ_ h=>h
       |cons b w ih=>
        rintro i ⟨_,⟨_,h⟩|⟨j,_,h⟩⟩
        ·exact h
        ·exact ih j h
      exact ZR w i z
    ·refine ⟨u,v,rfl,(ix u q1.ne).2 ⟨i,h1,inX u i (λ_ _ h=>h) (x.first_lab h1) q1⟩,(iy v q3.ne).2 ⟨j,q2,inY v j (y.first_lab q2) (q3.mono (λi j h=> ?_) (λ_ h=>h) v j)⟩⟩;rcases h with (h|h)|h
     ·exact .inl h
     ·exact .inr (.inl h)
     ·exact .inr (.inr h)
   ·obtain q:=inY w i (y.first_lab h1) h2;exact ⟨[],w,rfl,(nul_iff x).1 h0,(iy w hw).2 ⟨i,h1,q⟩⟩
 |rep x,fx,w,hw=>by
  have ix:=places x fx;constructor
  ·intro h;change kC (Lg x.pat) w at h;have key:∀w,kC (Lg x.pat) w->w≠[]->∃i,x.first i/\Pth acc (rep x).fol x.last i w:=by
    intro w h;induction h with
    |nil=>exact λh=>absurd rfl h
    | @cons u v hu hv ih=>
     intro hn;by_cases hu0:u=[]
     ·subst hu0;exact ih hn
     ·obtain ⟨i,h1,h2⟩:=(ix u hu0).1 hu;refine ⟨i,h1,?_⟩;by_cases hv0:v=[]
      ·subst hv0;rw [Ys];exact h2.mono (λ_ _ h=> .inl h) (λ_ h=>h) _ i
      ·obtain ⟨j,h3,h4⟩:=ih hv0;exact Pth.append (λ_ _ h=> .inl h) (λ_ _ h h'=> .inr ⟨h,h'⟩) h3 h4 u i h2
   exact key w h hw
  ·rintro ⟨i,h1,h2⟩;have key:∀(n:Nat) (w:Δ) (i:Nat),w.length<=n->x.first i->Pth acc (rep x).fol x.last i w->kC (Lg x.pat) w:=by
    intro n;induction n with
    |zero=>intro w i hn _ h;exact absurd (YG.1 (by omega)) h.ne
    |succ n ih=>
     intro w i hn h1 h2;rcases Pth.link (fol:=x.fol) (l:=x.last) (g:=x.first) w i h2 with q|⟨u,v,j,rfl,q1,q2,q3⟩
     ·have:=kC.cons ((ix w q.ne).2 ⟨i,h1,q⟩) kC.nil;rwa [Ys] at this
     ·have hu:0<u.length:=Y2.2 q1.ne;rw [XT] at hn;exact .cons ((ix u q1.ne).2 ⟨i,h1,q1⟩) (ih v j (by omega) q2 q3)
   exact key w.length w i (XS _) h1 h2
end Lt
section
end
section
end
structure Nd where
 k:Int
 lo:Int
 hi:Int
 a:Int
 b:Int
deriving DecidableEq
namespace Pat
end Pat
namespace Pat
end Pat
section
abbrev pa (b:Nat):Value:=.pointer (ZO ⟨b,0,ZR⟩)
abbrev Nd.arr (x:Nd):Γ:= #[vi x.k,vi x.lo,vi x.hi,vi x.a,vi x.b]
def Nd.cells (x:Nd):Ξ:=[vi x.k,vi x.lo,vi x.hi,vi x.a,vi x.b]
def d7 (l:List Nd):Ξ:=l.flatMap Nd.cells
theorem iN (l:List Nd):(d7 l).length=l.length*5:=by
 induction l with
 |nil=>rfl
 |cons b l ih=>simp only [d7,YC,XT,X4] at ih ⊢;rw [ih];simp [Nd.cells];omega
theorem uI:∀(l:List Nd) (i:Nat) (hi:i<l.length),((d7 l).drop (i*5)).take 5=l[i].cells
 |b::l,0,_=>by simp [d7,Nd.cells]
 |b::l,i+1,hi=>by
  have e:(i+1)*5=5+i*5:=by omega
  have:d7 (b::l)=b.cells++d7 l:=by simp [d7]
  rw [this,e,<- List.drop_drop,List.drop_left' (by simp [Nd.cells])];simpa using uI l i (by simpa using hi)
theorem gI (b:Nd):∀v∈b.arr.toList,am v:=by intro v hv;simp only [XP,YP,or_false] at hv;rcases hv with rfl|rfl|rfl|rfl|rfl<;>exact jJ
theorem RdS.nlen {F:PH} {s:Sl} {l:List Nd} (h:RdS F s 5 (d7 l)):s.len=l.length:=by have:=h.len;rw [iN] at this;omega
def cb (st:ο) (i:Nat):Nat:=if h:i<st.size then (st[i]'h).toNat else 0
theorem T0 {st:ο} {i:Nat} (h:i<st.size):cb st i=(st[i]'h).toNat:=dif_pos h
theorem KG (st:ο) (i:Nat):cb st i<256:=by
 unfold cb;split
 ·exact UInt8.toNat_lt _
 ·omega
section
end
section
variable {F0 F:PH} {b i:Nat} {st:ο} {out:List Nd} {w:Bool}
theorem bX.som {F:PH} {e size:Nat} {s:Sl} {vs:Ξ} (h:bX F e size s vs) {a:Addr} (ha:s.ZK=ZO a):∃o,F a.block=ZO o:=by
 rcases h with ⟨rfl,_⟩|⟨b,cur,h1,h2,_⟩
 ·cases ha
 ·rw [ha] at h1;cases h1;exact ⟨_,h2⟩
end
section
variable {F0 F:PH} {b i:Nat} {st:ο} {out:List Nd} {w:Bool}
theorem Pd {st:ο} {x:Int} {i:Nat} (hx:x=i) (h:i<st.size) (hl:ZY x<st.size):((st[ZY x]'hl).toNat:Int)=(cb st i:Int):=by subst hx;rw [T0 h];rfl
end
def bs (s:ο):Δ:=s.data.toList.map UInt8.toNat
theorem cX (s:ο):(bs s).length=s.size:=by simp [bs]
theorem wQ {s t:ο} (h:bs s=bs t):s=t:=by unfold bs at h;have:s.data.toList=t.data.toList:=List.map_inj_right (λa b e=>UInt8.toNat_inj.1 e) |>.1 h;cases s;cases t;congr;exact Array.toList_inj.1 this
theorem Ht (s:ο) (i:Nat):cb s i=(bs s).getD i 0:=by
 unfold cb bs;by_cases h:i<s.size
 ·rw [dif_pos h];have h':i<s.data.toList.length:=by simpa using h
  rw [Yg,X2,N6 h'];rfl
 ·rw [dif_neg h,Yg,X2,Yi (by simpa using h)];rfl
theorem T1 (s:ο):∀b∈bs s,b<256:=by intro b hb;obtain ⟨x,_,rfl⟩:=X1.1 hb;exact UInt8.toNat_lt x
theorem KH (s:ο):∀(n i:Nat) (r:List UInt8),s.size - i=n->ByteArray.toList.loop s i r=r.reverse++s.data.toList.drop i:=by
 intro n;induction n with
 |zero=>intro i r h;unfold ByteArray.toList.loop;rw [Υ (by omega),List.drop_eq_nil_of_le (by simp at h ⊢;omega),Ys]
 |succ n ih=>
  intro i r h;have hi:i<s.size:=by omega
  have hi':i<s.data.toList.length:=by simpa using hi
  unfold ByteArray.toList.loop;rw [Χ hi,ih (i+1) _ (by omega),List.drop_eq_getElem_cons hi',List.reverse_cons,Yk];congr 1;rw [List.singleton_append];congr 1;simp [ByteArray.get!,getElem!_pos,hi]
theorem yB (s:ο):s.toList=s.data.toList:=by unfold ByteArray.toList;rw [KH s _ 0 [] rfl];rfl
theorem uJ (s:ο):s.toList.map UInt8.toNat=bs s:=by rw [yB];rfl
theorem Hu (s t:ο):(s.toList==t.toList)=decide (bs s=bs t):=by
 rw [XV,δ,beq_iff_eq];constructor
 ·intro h;rw [<- uJ,<- uJ,h]
 ·intro h;rw [wQ h]
section
end
variable {R:VR} {F:PH}
set_option maxHeartbeats 4000000
def NK (a:Int) (R:VR) (F:PH):Prop:=Bc (a=0) (R (vi 64) F) (0<=(Int.fdiv (u64.wrap ((u64.wrap ((BitVec.ofInt (u64).bits a &&& BitVec.ofInt (u64).bits (u64.wrap (0 - a))).toNat))*285870213051353865)) (2 ^ (min (ZY 58) (u64).bits)))/\(Int.fdiv (u64.wrap ((u64.wrap ((BitVec.ofInt (u64).bits a &&& BitVec.ofInt (u64).bits (u64.wrap (0 - a))).toNat))*285870213051353865)) (2 ^ (min (ZY 58) (u64).bits)))<64/\∃b,F.cell (ZW (ZX 0 0 ZR) (ZY (Int.fdiv (u64.wrap ((u64.wrap ((BitVec.ofInt (u64).bits a &&& BitVec.ofInt (u64).bits (u64.wrap (0 - a))).toNat))*285870213051353865)) (2 ^ (min (ZY 58) (u64).bits)))*1))=ZO (.int .u8 b)/\R (vi (i64.wrap b)) F)
theorem T2 {a:Int} (h:NK a R F):ν 215 #[.int .u64 a] F R:=Rx.Λ .N h
variable {R:VR} {F:PH}
set_option maxHeartbeats 4000000
def C6 (a:Sl) (R:VR) (F:PH):Prop:=Bc ((a.len:Int)=0) (R (vi 40) F) (R (vi 0) F)
def C7 (f:Ω) (e:Sl) (g:Nat) (R:VR) (a:Int) (F:PH):Prop:=Bc (a<(i64.wrap ((e.len:Int) - 1))) (Ls F (Am g 0) λb=>Ix b a λc=>Lb F (ZW c (ZY a*1)) λd=>Bb ((!d)) (R (vi 40) F) (f (i64.wrap (a+1)) F)) (C6 e R F)
def C8 (b:Sl) (c:Nat) (R:VR) (F:PH):Prop:=Lp 0 F λN a F=>C7 N b c R a F
def cj (b:Ω) (_:Sl) (_:Nat) (a:Int) (_:VR) (F:PH):Prop:=b (i64.wrap (a+1)) F
def f7 (e:Ω) (c:Sl) (d:Nat) (a:Int) (f:Nat) (b:Int) (B:Bool) (R:VR) (F:PH):Prop:=Bb ((!B)) (R (vi 40) F) (Bc (b<1) (Li F (Am f 3) λC=>Bc (C≠0) (R (vi 40) F) (Bc (b<2) (Li F (Am f 4) λD=>Bc (D≠0) (R (vi 40) F) (Bc (1<=b) (Li F (Am f 3) λE=>Cbo 182 #[(vi E),(vi a),(Pp d)] F λG F=>Bb ((!G)) (R (vi 40) F) (Bc (2<=b) (Li F (Am f 4) λH=>Cbo 182 #[(vi H),(vi a),(Pp d)] F λI F=>Bb ((!I)) (R (vi 40) F) (cj e c d a R F)) (cj e c d a R F))) (Bc (2<=b) (Li F (Am f 4) λg=>Cbo 182 #[(vi g),(vi a),(Pp d)] F λh F=>Bb ((!h)) (R (vi 40) F) (cj e c d a R F)) (cj e c d a R F)))) (Bc (1<=b) (Li F (Am f 3) λi=>Cbo 182 #[(vi i),(vi a),(Pp d)] F λj F=>Bb ((!j)) (R (vi 40) F) (Bc (2<=b) (Li F (Am f 4) λk=>Cbo 182 #[(vi k),(vi a),(Pp d)] F λl F=>Bb ((!l)) (R (vi 40) F) (cj e c d a R F)) (cj e c d a R F))) (Bc (2<=b) (Li F (Am f 4) λm=>Cbo 182 #[(vi m),(vi a),(Pp d)] F λn F=>Bb ((!n)) (R (vi 40) F) (cj e c d a R F)) (cj e c d a R F))))) (Bc (b<2) (Li F (Am f 4) λo=>Bc (o≠0) (R (vi 40) F) (Bc (1<=b) (Li F (Am f 3) λp=>Cbo 182 #[(vi p),(vi a),(Pp d)] F λq F=>Bb ((!q)) (R (vi 40) F) (Bc (2<=b) (Li F (Am f 4) λr=>Cbo 182 #[(vi r),(vi a),(Pp d)] F λs F=>Bb ((!s)) (R (vi 40) F) (cj e c d a R F)) (cj e c d a R F))) (Bc (2<=b) (Li F (Am f 4) λt=>Cbo 182 #[(vi t),(vi a),(Pp d)] F λu F=>Bb ((!u)) (R (vi 40) F) (cj e c d a R F)) (cj e c d a R F)))) (Bc (1<=b) (Li F (Am f 3) λv=>Cbo 182 #[(vi v),(vi a),(Pp d)] F λw F=>Bb ((!w)) (R (vi 40) F) (Bc (2<=b) (Li F (Am f 4) λx=>Cbo 182 #[(vi x),(vi a),(Pp d)] F λy F=>Bb ((!y)) (R (vi 40) F) (cj e c d a R F)) (cj e c d a R F))) (Bc (2<=b) (Li F (Am f 4) λz=>Cbo 182 #[(vi z),(vi a),(Pp d)] F λA F=>Bb ((!A)) (R (vi 40) F) (cj e c d a R F)) (cj e c d a R F)))))
def C9 (f:Ω) (c:Sl) (e:Nat) (R:VR) (a:Int) (F:PH):Prop:=Bc (a<(c.len:Int)) (Ix c a λg=>Lr F 5 (ZW g (ZY a*5)) λh=>Nb F (ZP (#[vi 0,vi 0,vi 0,vi 0,vi 0]) 149) λd F=>aw F (Am d 0) 5 h λF=>Li F (Am d 0) λi=>Ci 183 #[(vi i)] F λb F=>Li F (Am d 0) λj=>Bc (j=1) (Li F (Am d 1) λk=>Bc (0<=k) (Li F (Am d 1) λl=>Li F (Am d 2) λm=>Bc (l<=m) (Li F (Am d 2) λn=>f7 f c e a d b (decide (n<=(255:Int))) R F) (f7 f c e a d b ZQ R F)) (f7 f c e a d b ZQ R F)) (Li F (Am d 1) λo=>Bc (o≠0) (f7 f c e a d b ZQ R F) (Li F (Am d 2) λp=>Bc (p≠0) (f7 f c e a d b ZQ R F) (f7 f c e a d b (decide (0<=b)) R F)))) (C8 c e R F)
def NL (a:Sl) (R:VR) (F:PH):Prop:=Bc ((512:Int)<(a.len:Int)) (R (vi 2) F) (aH prog (Instr.makeSlice 211 (vi (a.len:Int)) (vi (a.len:Int))) F λv F=>∃b,v=(ZS b)/\Nb F (ZP (#[.slice ZR 0 0]) 211) λd F=>sto F (Am d 0) (ZS b) λF=>Lp 0 F λN c F=>C9 N a d R c F)
theorem T3 {a:Sl} (h:NL a R F):ν 144 #[ZS a] F R:=Rx.Λ (.ZN (.ZN (.ZN (.ZN (.J ZQ [] (.ZN (.L [(19,.int .i64)] (.ZN (.ZN (.J ZQ [] (.ZN (.ZN (.ZN (.J ZQ [(8,.bool)] .N .N)))) .N))))) (.J ZQ [] (.ZN (.L [(105,.int .i64)] .N)) .N)))))) h
def qe (f:Nat) (c b:Θ) (R:VR) (F:PH):Prop:=Lx F (Am f 0) λd=>Cu 185 #[.pointer c,.string d,.func (.func 186) #[] #[(Pp f),.pointer b]] F λF=>∃a,b=ZO a/\Lb F a λe=>R (.bool e) F
def NM (d:Sl) (g:ο) (R:VR) (F:PH):Prop:=Nb F (ZP #[.string g] 9) λh F=>Ci 144 #[ZS d] F λi F=>Bc (i≠0) (R (.bool ZQ) F) (ν 184 #[ZS d] F λv F=>∃b,v=(.pointer b)/\Lx F (Am h 0) λe=>Bb ((e.toList==(ByteArray.mk #[]).toList)) (∃a,b=ZO a/\Lb F (ZW a 18) λf=>Nb F (ZP (#[.bool ZQ]) 4) λj F=>sto F (Am j 0) (.bool f) λF=>qe h (ZO a) (ZO (Am j 0)) R F) (Nb F (ZP (#[.bool ZQ]) 4) λc F=>sto F (Am c 0) (.bool ZQ) λF=>qe h b (ZO (Am c 0)) R F))
theorem T4 {a:Sl} {b:ο} (h:NM a b R F):ν 145 #[ZS a,.string b] F R:=Rx.Λ (.ZN (.ZN (.ZN (.J ZQ [(5,.ptr),(6,.ptr)] .N .N)))) h
def NN (a c:Int) (i:Θ) (R:VR) (F:PH):Prop:=Bc (a<0) (R (.bool ZQ) F) (Bc (c<=a) (R (.bool ZQ) F) (∃b,i=ZO b/\Ls F b λd=>Ix d a λe=>Lb F (ZW e (ZY a*1)) λf=>Bb (f) (R (.bool ZQ) F) (Ls F b λg=>Ix g a λh=>sto F (ZW h (ZY a*1)) (.bool ZT) λF=>R (.bool ZT) F)))
theorem T5 {b:Int} {a:Int} {c:Θ} (h:NN b a c R F):ν 182 #[(vi b),(vi a),.pointer c] F R:=Rx.Λ .N h
def qh (a:Int) (b:Bool) (R:VR) (F:PH):Prop:=Bb (b) (R (vi 0) F) (Bc (a=4) (R (vi 1) F) (Bc (a=2) (Bc (a=2) (R (vi 2) F) (R (vi (-1:Int)) F)) (Bc (a=3) (R (vi 2) F) (R (vi (-1:Int)) F))))
def NO (a:Int) (R:VR) (F:PH):Prop:=Bc (a=0) (qh a (decide (a=0)) R F) (qh a (decide (a=1)) R F)
theorem T6 {a:Int} (h:NO a R F):ν 183 #[(vi a)] F R:=Rx.Λ (.ZN (.T (.ZN (.J ZQ [(4,.bool)] .N .N)) .N)) h
def j0 (q:Nat) (i:Θ) (R:VR) (F:PH):Prop:=Nb F (ZP (#[.nilFunc]) 247) λr F=>Nb F (ZP (#[.nilFunc]) 251) λt F=>sto F (Am t 0) (.func (.func 202) #[] #[.pointer i]) λF=>sto F (Am r 0) (.func (.func 206) #[] #[(Pp q),(Pp r),(Pp t)]) λF=>∃a,i=ZO a/\Lq F a λj=>Lq F a λe=>Lq F a λb=>∃k:ξ,F.cell (Am r 0)=ZO k/\Ls F (Am q 0) λl=>Fn k λs n o=>aj prog s (n++([(vi (i64.wrap ((l.len:Int) - 1)))]).toArray++o) F λv F=>∃m,∃c,∃d,v=(Value.tuple #[(Value.agg m),(Value.agg c),(Value.bool d)])/\F.cell (Am q 0)=ZO (ZS l)/\F.cell a=ZO (.pointer b)/\F.cell a=ZO (.pointer e)/\F.cell a=ZO (.pointer j)/\∃f,j=ZO f/\aw F (ZW f 1) 8 m λF=>F.cell a=ZO (.pointer b)/\F.cell a=ZO (.pointer e)/\∃g,e=ZO g/\aw F (ZW g 9) 8 c λF=>F.cell a=ZO (.pointer b)/\∃h,b=ZO h/\sto F (ZW h 18) (.bool d) λF=>Lq F a λp=>R (.pointer p) F
def NP (j:Sl) (R:VR) (F:PH):Prop:=Nb F (ZP #[ZS j] 144) λd F=>Ls F (Am d 0) λb=>Ls F (Am d 0) λa=>((aH prog (Instr.makeSlice 230 (vi (a.len:Int)) (vi (a.len:Int))) F λv F=>∃g,v=(ZS g)/\F.cell (Am d 0)=ZO (ZS a)/\F.cell (Am d 0)=ZO (ZS b)/\((Nb F (ZP (#[ZS b,.int .u64 0,.int .u64 0,.int .u64 0,.int .u64 0,.int .u64 0,.int .u64 0,.int .u64 0,.int .u64 0,.int .u64 0,.int .u64 0,.int .u64 0,.int .u64 0,.int .u64 0,.int .u64 0,.int .u64 0,.int .u64 0,ZS g,.bool ZQ]:Γ) 232) λk F=>Nb F (ZP (#[.pointer ZR]) 226) λl F=>sto F (Am l 0) (Pp k) λF=>j0 d (ZO (Am l 0)) R F)/\(Nb F (ZP (#[.pointer ZR]) 226) λe F=>Nb F (ZP (#[ZS b,.int .u64 0,.int .u64 0,.int .u64 0,.int .u64 0,.int .u64 0,.int .u64 0,.int .u64 0,.int .u64 0,.int .u64 0,.int .u64 0,.int .u64 0,.int .u64 0,.int .u64 0,.int .u64 0,.int .u64 0,.int .u64 0,ZS g,.bool ZQ]:Γ) 232) λh F=>sto F (Am e 0) (Pp h) λF=>j0 d (ZO (Am e 0)) R F)))/\(Nb F (ZP (#[.pointer ZR]) 226) λf F=>aH prog (Instr.makeSlice 230 (vi (a.len:Int)) (vi (a.len:Int))) F λv F=>∃c,v=(ZS c)/\F.cell (Am d 0)=ZO (ZS a)/\F.cell (Am d 0)=ZO (ZS b)/\Nb F (ZP (#[ZS b,.int .u64 0,.int .u64 0,.int .u64 0,.int .u64 0,.int .u64 0,.int .u64 0,.int .u64 0,.int .u64 0,.int .u64 0,.int .u64 0,.int .u64 0,.int .u64 0,.int .u64 0,.int .u64 0,.int .u64 0,.int .u64 0,ZS c,.bool ZQ]:Γ) 232) λi F=>sto F (Am f 0) (Pp i) λF=>j0 d (ZO (Am f 0)) R F))
theorem T7 {a:Sl} (h:NP a R F):ν 184 #[ZS a] F R:=Rx.Λ (.ZN (.J ZQ [(3,.ptr)] .N .N)) h
def Da (u:Ω) (q:ξ) (p w s:Nat) (j:ο) (R:VR) (a:Int) (F:PH):Prop:=Bc (a<(j.size:Int)) (Nb F (ZP (#[vi 0]) 3) λk F=>sto F (Am k 0) (vi a) λF=>Nb F (ZP (#[.int .u64 0,.int .u64 0,.int .u64 0,.int .u64 0,.int .u64 0,.int .u64 0,.int .u64 0,.int .u64 0]) 229) λl F=>Nb F (ZP (#[.int .u64 0,.int .u64 0,.int .u64 0,.int .u64 0,.int .u64 0,.int .u64 0,.int .u64 0,.int .u64 0]) 229) λt F=>Cu 203 #[(Pp s),.func (.func 208) #[] #[(Pp w),(Pp k),(Pp p),(Pp l),(Pp t)]] F λF=>Lr F 8 (Am l 0) λb=>∃f,(∀F,rdo prog (Op.equal 229 (.agg b) (.agg (#[.int .u64 0,.int .u64 0,.int .u64 0,.int .u64 0,.int .u64 0,.int .u64 0,.int .u64 0,.int .u64 0]:Γ))) F f)/\Bb (f) (R (.tuple #[]) F) (Li F (Am k 0) λc=>Lq F (Am p 0) λd=>∃e,d=ZO e/\Lr F 8 (ZW e 9) λm=>Cbo 209 #[(Pp l),.agg m] F λn F=>F.cell (Am p 0)=ZO (Value.pointer d)/\F.cell (Am k 0)=ZO (vi c)/\F.row (Am l 0) b/\Fn q λr h i=>aj prog r (h++([(vi (i64.wrap (c+1))),(Value.bool n)]).toArray++i) F λv F=>∃g,v=(Value.bool g)/\F.cell (Am p 0)=ZO (.pointer d)/\F.cell (Am k 0)=ZO (vi c)/\F.row (Am l 0) b/\Bb ((!g)) (R (.tuple #[]) F) (Lr F 8 (Am t 0) λo=>aw F (Am s 0) 8 o λF=>u (i64.wrap (a+1)) F))) (R (.tuple #[]) F)
def NQ (b:Θ) (g:ο) (h:ξ) (R:VR) (F:PH):Prop:=Nb F (ZP #[.pointer b] 226) λi F=>Nb F (ZP #[.string g] 9) λj F=>Lq F (Am i 0) λc=>∃a,c=ZO a/\Lr F 8 (ZW a 1) λd=>Nb F (ZP (#[.int .u64 0,.int .u64 0,.int .u64 0,.int .u64 0,.int .u64 0,.int .u64 0,.int .u64 0,.int .u64 0]) 229) λk F=>aw F (Am k 0) 8 d λF=>Lx F (Am j 0) λe=>Lp 0 F λN f F=>Da N h i j k e R f F
theorem T8 {a:Θ} {b:ο} {c:ξ} (h:NQ a b c R F):ν 185 #[.pointer a,.string b,c] F R:=Rx.Λ (.ZN (.ZN (.ZN (.L [(16,.int .i64)] .N)))) h
def NR (f:Int) (d:Bool) (g e:Θ) (R:VR) (F:PH):Prop:=∃b,g=ZO b/\Lx F b λh=>Bc (f=(h.size:Int)) (∃c,e=ZO c/\sto F c (.bool d) λF=>R (.bool ZT) F) (∃a,e=ZO a/\sto F a (.bool ZQ) λF=>R (.bool ZT) F)
theorem T9 {b:Int} {a:Bool} {c:Θ} {d:Θ} (h:NR b a c d R F):ν 186 #[(vi b),.bool a,.pointer c,.pointer d] F R:=Rx.Λ .N h
def NS (a b:Γ) (c:Θ) (R:VR) (F:PH):Prop:=Nb F (ZP a 229) λd F=>Nb F (ZP b 229) λe F=>Cu 203 #[(Pp d),.func (.func 204) #[] #[.pointer c,(Pp e)]] F λF=>R (.tuple #[]) F
theorem Ua {a:Γ} {b:Γ} {c:Θ} (h:NS a b c R F):ν 202 #[.agg a,.agg b,.pointer c] F R:=Rx.Λ .N h
def Db (b:Ω) (_:ξ) (_:Θ) (a:Int) (_:VR) (F:PH):Prop:=b (i64.wrap (a+1)) F
def Dc (i j:Ω) (d:ξ) (e:Int) (f:Addr) (R:VR) (a:Int) (F:PH):Prop:=Bc (a≠0) (Ci 215 #[.int .u64 a] F λg F=>Fn d λh b c=>aj prog h (b++([(vi (i64.wrap ((i64.wrap (64*e))+g)))]).toArray++c) F λv F=>v=(Value.tuple #[])/\j (u64.wrap ((BitVec.ofInt (u64).bits a &&& BitVec.ofInt (u64).bits (u64.wrap (a - 1))).toNat)) F) (Db i d (ZO f) e R F)
def Dd (i:Ω) (f:ξ) (g:Θ) (R:VR) (a:Int) (F:PH):Prop:=Bc (a<8) (∃b,g=ZO b/\0<=a/\a<8/\Lk F .u64 (ZW b (ZY a*1)) λc=>(∃(h:Nat->Ω) (e:Nat),h e c F/\∀e d F,h e d F-> Dc i (nx1 h e) f a b R d F)) (R (.tuple #[]) F)
def NT (a:Θ) (b:ξ) (R:VR) (F:PH):Prop:=Lp 0 F λN c F=>Dd N b a R c F
theorem Ub {a:Θ} {b:ξ} (h:NT a b R F):ν 203 #[.pointer a,b] F R:=Rx.Λ (.ZN (.L [(7,.int .i64)] (.ZN (.ZN (.J ZQ [(6,.ptr)] (.ZN (.L [(5,.int .u64)] .N)) .N))))) h
def NU (d:Int) (h i:Θ) (R:VR) (F:PH):Prop:=∃a,h=ZO a/\Lq F a λe=>∃b,e=ZO b/\Ls F (ZW b 17) λf=>Ix f d λj=>∃c,i=ZO c/\Lr F 8 c λg=>Cu 205 #[.pointer (ZO (ZW j (ZY d*8))),.agg g] F λF=>F.cell (ZW b 17)=ZO (ZS f)/\F.cell a=ZO (.pointer e)/\R (.tuple #[]) F
theorem Uc {a:Int} {b:Θ} {c:Θ} (h:NU a b c R F):ν 204 #[(vi a),.pointer b,.pointer c] F R:=Rx.Λ .N h
def De (f:Ω) (e:Θ) (g:Nat) (R:VR) (a:Int) (F:PH):Prop:=Bc (a<8) (∃b,e=ZO b/\0<=a/\a<8/\Lk F .u64 (ZW b (ZY a*1)) λc=>0<=a/\a<8/\Lk F .u64 (ZW (Am g 0) (ZY a*1)) λd=>0<=a/\a<8/\sto F (ZW b (ZY a*1)) (.int .u64 (u64.wrap ((BitVec.ofInt (u64).bits c ||| BitVec.ofInt (u64).bits d).toNat))) λF=>f (i64.wrap (a+1)) F) (R (.tuple #[]) F)
def NW (a:Θ) (b:Γ) (R:VR) (F:PH):Prop:=Nb F (ZP b 229) λd F=>Lp 0 F λN c F=>De N a d R c F
theorem Ud {a:Θ} {b:Γ} (h:NW a b R F):ν 205 #[.pointer a,.agg b] F R:=Rx.Λ (.ZN (.ZN (.L [(5,.int .i64)] .N))) h
def qi (i j l:Nat) (e:Bool) (k:Nat) (f:Bool) (R:VR) (F:PH):Prop:=Lr F 8 (Am l 0) λg=>Lr F 8 (Am k 0) λh=>Bb (e) (aw F (Am i 0) 8 g λF=>aw F (Am j 0) 8 h λF=>Lr F 8 (Am i 0) λa=>Lr F 8 (Am j 0) λb=>R (.tuple #[.agg a,.agg b,.bool f]) F) (aw F (Am i 0) 8 g λF=>aw F (Am j 0) 8 h λF=>Lr F 8 (Am i 0) λc=>Lr F 8 (Am j 0) λd=>R (.tuple #[.agg c,.agg d,.bool ZQ]) F)
def qj (f g h e:Nat) (b:Bool) (c:Nat) (a:Bool) (R:VR) (F:PH):Prop:=Bb (a) (Lr F 8 (Am e 0) λd=>Cu 205 #[(Pp c),.agg d] F λF=>qi f g h b c a R F) (qi f g h b c a R F)
def NX (ac:Int) (aX ad aD:Θ) (R:VR) (F:PH):Prop:=Nb F (ZP (#[.int .u64 0,.int .u64 0,.int .u64 0,.int .u64 0,.int .u64 0,.int .u64 0,.int .u64 0,.int .u64 0]) 229) λe F=>Nb F (ZP (#[.int .u64 0,.int .u64 0,.int .u64 0,.int .u64 0,.int .u64 0,.int .u64 0,.int .u64 0,.int .u64 0]) 229) λf F=>∃O,aX=ZO O/\Ls F O λaE=>Ix aE ac λaF=>Lr F 5 (ZW aF (ZY ac*5)) λaG=>Nb F (ZP (#[vi 0,vi 0,vi 0,vi 0,vi 0]) 149) λb8 F=>aw F (Am b8 0) 5 aG λF=>Li F (Am b8 0) λg=>Bc (g=1) (Cu 207 #[(Pp e),(vi ac)] F λF=>Lr F 8 (Am e 0) λaH=>Lr F 8 (Am e 0) λaI=>aw F (Am e 0) 8 aH λF=>aw F (Am f 0) 8 aI λF=>Lr F 8 (Am e 0) λG=>Lr F 8 (Am f 0) λH=>R (.tuple #[.agg G,.agg H,.bool ZQ]) F) (Bc (g=2) (∃y,ad=ZO y/\∃P:ξ,F.cell y=ZO P/\Li F (Am b8 3) λaJ=>Fn P λaY af ag=>aj prog aY (af++([(vi aJ)]).toArray++ag) F λv F=>∃Q,∃h,∃a,v=(Value.tuple #[(Value.agg Q),(Value.agg h),(Value.bool a)])/\Nb F (ZP (#[.int .u64 0,.int .u64 0,.int .u64 0,.int .u64 0,.int .u64 0,.int .u64 0,.int .u64 0,.int .u64 0]) 229) λb9 F=>Nb F (ZP (#[.int .u64 0,.int .u64 0,.int .u64 0,.int .u64 0,.int .u64 0,.int .u64 0,.int .u64 0,.int .u64 0]) 229) λI F=>aw F (Am b9 0) 8 Q λF=>aw F (Am I 0) 8 h λF=>∃S:ξ,F.cell y=ZO S/\Li F (Am b8 4) λaK=>Fn S λaZ ah ai=>aj prog aZ (ah++([(vi aK)]).toArray++ai) F λv F=>∃T,∃i,∃b,v=(Value.tuple #[(Value.agg T),(Value.agg i),(Value.bool b)])/\Nb F (ZP (#[.int .u64 0,.int .u64 0,.int .u64 0,.int .u64 0,.int .u64 0,.int .u64 0,.int .u64 0,.int .u64 0]) 229) λak F=>Nb F (ZP (#[.int .u64 0,.int .u64 0,.int .u64 0,.int .u64 0,.int .u64 0,.int .u64 0,.int .u64 0,.int .u64 0]) 229) λal F=>aw F (Am ak 0) 8 T λF=>aw F (Am al 0) 8 i λF=>∃U,aD=ZO U/\∃V:ξ,F.cell U=ZO V/\Lr F 8 (Am I 0) λaL=>Lr F 8 (Am ak 0) λaM=>Fn V λa0 am an=>aj prog a0 (am++([(Value.agg aL),(Value.agg aM)]).toArray++an) F λv F=>v=(Value.tuple #[])/\Bb (a) (Lr F 8 (Am ak 0) λaN=>Cu 205 #[(Pp b9),.agg aN] F λF=>qj e f b9 I a al b R F) (qj e f b9 I a al b R F)) (Bc (g=3) (∃c,ad=ZO c/\∃W:ξ,F.cell c=ZO W/\Li F (Am b8 3) λaO=>Fn W λa1 ao ap=>aj prog a1 (ao++([(vi aO)]).toArray++ap) F λv F=>∃X,∃j,∃k,v=(Value.tuple #[(Value.agg X),(Value.agg j),(Value.bool k)])/\Nb F (ZP (#[.int .u64 0,.int .u64 0,.int .u64 0,.int .u64 0,.int .u64 0,.int .u64 0,.int .u64 0,.int .u64 0]) 229) λaq F=>Nb F (ZP (#[.int .u64 0,.int .u64 0,.int .u64 0,.int .u64 0,.int .u64 0,.int .u64 0,.int .u64 0,.int .u64 0]) 229) λar F=>aw F (Am aq 0) 8 X λF=>aw F (Am ar 0) 8 j λF=>∃Y:ξ,F.cell c=ZO Y/\Li F (Am b8 4) λaP=>Fn Y λa2 au av=>aj prog a2 (au++([(vi aP)]).toArray++av) F λv F=>∃Z,∃l,∃m,v=(Value.tuple #[(Value.agg Z),(Value.agg l),(Value.bool m)])/\Nb F (ZP (#[.int .u64 0,.int .u64 0,.int .u64 0,.int .u64 0,.int .u64 0,.int .u64 0,.int .u64 0,.int .u64 0]) 229) λaQ F=>Nb F (ZP (#[.int .u64 0,.int .u64 0,.int .u64 0,.int .u64 0,.int .u64 0,.int .u64 0,.int .u64 0,.int .u64 0]) 229) λaR F=>aw F (Am aQ 0) 8 Z λF=>aw F (Am aR 0) 8 l λF=>Lr F 8 (Am aQ 0) λaS=>Cu 205 #[(Pp aq),.agg aS] F λF=>Lr F 8 (Am aR 0) λaT=>Cu 205 #[(Pp ar),.agg aT] F λF=>Lr F 8 (Am aq 0) λaa=>Lr F 8 (Am ar 0) λab=>Bb (k) (aw F (Am e 0) 8 aa λF=>aw F (Am f 0) 8 ab λF=>Lr F 8 (Am e 0) λp=>Lr F 8 (Am f 0) λq=>R (.tuple #[.agg p,.agg q,.bool ZT]) F) (aw F (Am e 0) 8 aa λF=>aw F (Am f 0) 8 ab λF=>Lr F 8 (Am e 0) λr=>Lr F 8 (Am f 0) λs=>R (.tuple #[.agg r,.agg s,.bool m]) F)) (Bc (g=4) (∃n,ad=ZO n/\∃z:ξ,F.cell n=ZO z/\Li F (Am b8 3) λax=>Fn z λaU J K=>aj prog aU (J++([(vi ax)]).toArray++K) F λv F=>∃A,∃d,∃B,v=(Value.tuple #[(Value.agg A),(Value.agg d),(Value.bool B)])/\Nb F (ZP (#[.int .u64 0,.int .u64 0,.int .u64 0,.int .u64 0,.int .u64 0,.int .u64 0,.int .u64 0,.int .u64 0]) 229) λay F=>Nb F (ZP (#[.int .u64 0,.int .u64 0,.int .u64 0,.int .u64 0,.int .u64 0,.int .u64 0,.int .u64 0,.int .u64 0]) 229) λL F=>aw F (Am ay 0) 8 A λF=>aw F (Am L 0) 8 d λF=>∃o,aD=ZO o/\∃C:ξ,F.cell o=ZO C/\Lr F 8 (Am L 0) λaz=>Lr F 8 (Am ay 0) λaA=>Fn C λaV M N=>aj prog aV (M++([(Value.agg az),(Value.agg aA)]).toArray++N) F λv F=>v=(Value.tuple #[])/\Lr F 8 (Am ay 0) λaB=>Lr F 8 (Am L 0) λD=>aw F (Am e 0) 8 aB λF=>F.row (Am L 0) D/\aw F (Am f 0) 8 D λF=>Lr F 8 (Am e 0) λt=>Lr F 8 (Am f 0) λu=>R (.tuple #[.agg t,.agg u,.bool ZT]) F) (Lr F 8 (Am e 0) λaC=>Lr F 8 (Am f 0) λE=>aw F (Am e 0) 8 aC λF=>F.row (Am f 0) E/\aw F (Am f 0) 8 E λF=>Lr F 8 (Am e 0) λw=>Lr F 8 (Am f 0) λx=>R (.tuple #[.agg w,.agg x,.bool ZT]) F))))
theorem Ue {a:Int} {b:Θ} {c:Θ} {d:Θ} (h:NX a b c d R F):ν 206 #[(vi a),.pointer b,.pointer c,.pointer d] F R:=Rx.Λ (.ZN (.ZN (.T (.ZN (.ZN (.ZN (.ZN (.T (.ZN (.ZN (.ZN (.J ZQ [] .N (.J ZQ [] .N .N))))) .N))))) .N))) h
def NY (d:Θ) (a:Int) (R:VR) (F:PH):Prop:=∃b,d=ZO b/\0<=(i64.wrap (Int.tdiv a 64))/\(i64.wrap (Int.tdiv a 64))<8/\∃c,F.cell (ZW b (ZY (i64.wrap (Int.tdiv a 64))*1))=ZO (.int .u64 c)/\0<=(Z5 a 64)/\0<=(i64.wrap (Int.tdiv a 64))/\(i64.wrap (Int.tdiv a 64))<8/\sto F (ZW b (ZY (i64.wrap (Int.tdiv a 64))*1)) (.int .u64 (u64.wrap ((BitVec.ofInt (u64).bits c ||| BitVec.ofInt (u64).bits (u64.wrap (1*2 ^ (min (ZY (Z5 a 64)) (u64).bits)))).toNat))) λF=>R (.tuple #[]) F
theorem Uf {a:Θ} {b:Int} (h:NY a b R F):ν 207 #[.pointer a,(vi b)] F R:=Rx.Λ .N h
def ql (c:Int) (i j k:Θ) (d:Bool) (R:VR) (F:PH):Prop:=Bb (d) (Cu 207 #[.pointer j,(vi c)] F λF=>∃b,i=ZO b/\Lq F b λe=>∃a,e=ZO a/\Ls F (ZW a 17) λf=>Ix f c λg=>Lr F 8 (ZW g (ZY c*8)) λh=>Cu 205 #[.pointer k,.agg h] F λF=>R (.tuple #[]) F) (R (.tuple #[]) F)
def NZ (b:Int) (t u v j k:Θ) (R:VR) (F:PH):Prop:=∃g,t=ZO g/\Lx F g λi=>∃h,u=ZO h/\Li F h λf=>0<=f/\f<(i.size:Int)/\∃(hx:ZY f<i.size) (c:Int),c=((i[ZY f]'hx).toNat:Int)/\∃a,v=ZO a/\Lq F a λl=>∃d,l=ZO d/\Ls F d λm=>Ix m b λn=>Li F (ZW (ZW n (ZY b*5)) 1) λo=>Bc (o<=(i64.wrap c)) (Lq F a λp=>∃e,p=ZO e/\Ls F e λq=>Ix q b λr=>Li F (ZW (ZW r (ZY b*5)) 2) λs=>ql b (ZO a) j k (decide ((i64.wrap c)<=s)) R F) (ql b (ZO a) j k ZQ R F)
theorem Ug {a:Int} {b:Θ} {c:Θ} {d:Θ} {e:Θ} {f:Θ} (h:NZ a b c d e f R F):ν 208 #[(vi a),.pointer b,.pointer c,.pointer d,.pointer e,.pointer f] F R:=Rx.Λ (.ZN (.J ZQ [(3,.ptr),(33,.bool)] .N .N)) h
def Df (R:VR) (F:PH):Prop:=R (.bool ZQ) F
def Dg (f:Ω) (e:Θ) (g:Nat) (R:VR) (a:Int) (F:PH):Prop:=Bc (a<8) (∃b,e=ZO b/\0<=a/\a<8/\Lk F .u64 (ZW b (ZY a*1)) λc=>0<=a/\a<8/\Lk F .u64 (ZW (Am g 0) (ZY a*1)) λd=>Bc ((u64.wrap ((BitVec.ofInt (u64).bits c &&& BitVec.ofInt (u64).bits d).toNat))≠0) (R (.bool ZT) F) (f (i64.wrap (a+1)) F)) (Df R F)
def N0 (a:Θ) (b:Γ) (R:VR) (F:PH):Prop:=Nb F (ZP b 229) λd F=>Lp 0 F λN c F=>Dg N a d R c F
theorem Uh {a:Θ} {b:Γ} (h:N0 a b R F):ν 209 #[.pointer a,.agg b] F R:=Rx.Λ (.ZN (.J ZQ [] (.ZN (.L [(6,.int .i64)] .N)) .N)) h
abbrev di (n:Nat):Value:=.int .u64 (n:Int)
def plA (P:Nat->Bool):Γ:= #[di (wd P 0),di (wd P 1),di (wd P 2),di (wd P 3),di (wd P 4),di (wd P 5),di (wd P 6),di (wd P 7)]
def noP:Nat->Bool:=λ_=>ZQ
theorem d8:plA noP= #[.int .u64 0,.int .u64 0,.int .u64 0,.int .u64 0,.int .u64 0,.int .u64 0,.int .u64 0,.int .u64 0]:=by unfold plA noP;simp only [xe];rfl
theorem Hv (P:Nat->Bool):(plA P).size=8:=rfl
theorem fo (P:Nat->Bool) {k:Nat} (h:k<8):(plA P)[k]? =ZO (di (wd P k)):=by
 have:k=0\/k=1\/k=2\/k=3\/k=4\/k=5\/k=6\/k=7:=by omega
 rcases this with rfl|rfl|rfl|rfl|rfl|rfl|rfl|rfl<;>rfl
theorem gl (P:Nat->Bool):∀v∈(plA P).toList,am v:=by intro v hv;simp only [plA,XP,YP,or_false] at hv;rcases hv with rfl|rfl|rfl|rfl|rfl|rfl|rfl|rfl<;>exact jJ
def tW (P Q:Nat->Bool) (k:Nat):Ξ:=(List.range 8).map λj=>if j<k then di (wd Q j) else di (wd P j)
theorem EM (P Q:Nat->Bool):tW P Q 0=(plA P).toList:=rfl
theorem Hw (P Q:Nat->Bool):tW P Q 8=(plA Q).toList:=rfl
theorem Hx (P Q:Nat->Bool) {k:Nat} (hk:k<8):(tW P Q k).set k (di (wd Q k))=tW P Q (k+1):=by
 have:k=0\/k=1\/k=2\/k=3\/k=4\/k=5\/k=6\/k=7:=by omega
 rcases this with rfl|rfl|rfl|rfl|rfl|rfl|rfl|rfl<;>rfl
theorem Hy (P Q:Nat->Bool) {k:Nat} (hk:k<8):(tW P Q k)[k]? =ZO (di (wd P k)):=by
 have:k=0\/k=1\/k=2\/k=3\/k=4\/k=5\/k=6\/k=7:=by omega
 rcases this with rfl|rfl|rfl|rfl|rfl|rfl|rfl|rfl<;>rfl
theorem cD (b o k:Nat):(ZX b o ZR).add k=⟨b,o+k,ZR⟩:=by
 by_cases h:k=0
 ·subst h;rfl
 ·simp [ZW,h]
def kD (F:PH) (b:Nat) (e:TypeId) (pre:Ξ) (P:Nat->Bool) (post:Ξ):Prop:=F b=ZO (ZP (pre++(plA P).toList++post).toArray e)
theorem kD.row {F:PH} {b:Nat} {e:TypeId} {pre post:Ξ} {P:Nat->Bool} (h:kD F b e pre P post):F.row ⟨b,pre.length,ZR⟩ (plA P):=by intro i hi;have hi':i<8:=hi;rw [cD,av h];rw [List.getElem?_toArray,Yk,X6 (by omega),Zf,X0 (by exact hi')];simp
theorem kD.own {F:PH} {b:Nat} {e:TypeId} {P:Nat->Bool}:kD F b e [] P []↔F b=ZO (ZP (plA P) e):=by unfold kD;simp
section
variable {F:PH}
theorem uK {b:Nat} {e:TypeId} {pre post:Ξ} {P Q:Nat->Bool} (h:kD F b e pre P post):
  ν 205 #[.pointer (ZO ⟨b,pre.length,ZR⟩),.agg (plA Q)] F λr F'=>r=.tuple #[]/\kD F' b e pre (λi=>P i || Q i) post/\dH (λx=>x=b) F F':=by
 refine Ud ?_;unfold NW;intro b3 hb3;refine atI ?_;have hbF:∃o,F b=ZO o:=⟨_,h⟩;have l3:=ae (ZP (plA Q) 229) hb3;have q3:=au F b3 (ZP (plA Q) 229);have h3:(F.set b3 (ZP (plA Q) 229)) b=ZO (ZP (pre++tW P (λi=>P i || Q i) 0++post).toArray e):=by rw [EM];exact l3 _ _ h
 have hne:b≠b3:=aI hb3 h;generalize F.set b3 (ZP (plA Q) 229)=F3 at*;refine ⟨λm i F'=>∃k:Nat,i=k/\k<=8/\m=8 - k/\F' b3=ZO (ZP (plA Q) 229)/\F' b=ZO (ZP (pre++tW P (λi=>P i || Q i) k++post).toArray e)/\dH (λx=>x=b) F F',8,⟨0,rfl,by omega,rfl,q3,h3,dH.of_le l3⟩,?_⟩;rintro _ _ F4 ⟨k,rfl,hk,rfl,q4,h4,hk4⟩;unfold De;refine ⟨λhlt=> ?_,λhge=> ?_⟩
 ·have h8:k<8:=by omega
  have hml:(tW P (λi=>P i || Q i) k).length=8:=by simp [tW]
  have hg:(pre++tW P (λi=>P i || Q i) k++post).toArray[pre.length+k]? =ZO (di (wd P k)):=by rw [List.getElem?_toArray,Yk,X6 (by omega),Zf,X0 (by omega)];exact Hy P _ h8
  have ek:ZY (k:Int)*1=k:=by rw [N5,Yj]
  rw [ek];have hc:F4.cell ((ZX b pre.length ZR).add k)=ZO (di (wd P k)):=by rw [cD,av h4];exact hg
  have hc3:F4.cell ((ZX b3 0 ZR).add k)=ZO (di (wd Q k)):=by rw [cD,X5,av q4];exact fo Q h8
  refine ⟨_,rfl,by omega,by omega,_,hc,by omega,by omega,_,hc3,by omega,by omega,?_⟩;refine tf (b:=b) (o:=pre.length+k) (cD b pre.length k) h4 (by simp [hml];omega) ?_;rw [Io (oT P k) (oT Q k),<- U3];refine ⟨8 - (k+1),by omega,k+1,fF (by omega),h8,rfl,?_,?_,hk4.trans (dH.set _ (.inl rfl))⟩
  ·rw [aB _ _ hne.symm];exact q4
  ·rw [au];congr 2;rw [List.setIfInBounds_toArray];congr 1;rw [Yk,List.set_append_right _ _ (by omega),Zf,List.set_append_left _ _ (by omega),Yk];congr 2;exact Hx P (λi=>P i || Q i) h8
 ·obtain rfl:k=8:=by omega
  rw [Hw] at h4;exact ⟨rfl,h4,hk4⟩
theorem yC {b:Nat} {e:TypeId} {pre post:Ξ} {P Q:Nat->Bool} (h:kD F b e pre P post):
  ν 209 #[.pointer (ZO ⟨b,pre.length,ZR⟩),.agg (plA Q)] F λr F'=>(∃t:Bool,r=.bool t/\(t=ZT↔∃i,i<512/\P i=ZT/\Q i=ZT))/\F.le F':=by
 refine Uh ?_;unfold N0;intro b3 hb3;refine atI ?_;have l3:=ae (ZP (plA Q) 229) hb3;have q3:=au F b3 (ZP (plA Q) 229);have h3:kD (F.set b3 (ZP (plA Q) 229)) b e pre P post:=l3 _ _ h;generalize F.set b3 (ZP (plA Q) 229)=F3 at*;refine ⟨λm i F'=>∃k:Nat,i=k/\k<=8/\m=8 - k/\F'=F3/\∀i,i<64*k->¬(P i=ZT/\Q i=ZT),8,⟨0,rfl,by omega,rfl,rfl,λi hi=>by omega⟩,?_⟩;rintro _ _ F4 ⟨k,rfl,hk,rfl,e4,hall⟩;obtain rfl:=e4.symm;unfold Dg;refine ⟨λhlt=> ?_,λhge=> ?_⟩
 ·have h8:k<8:=by omega
  have ek:ZY (k:Int)*1=k:=by rw [N5,Yj]
  rw [ek];have hc:F3.cell ((ZX b pre.length ZR).add k)=ZO (di (wd P k)):=by have:=h3.row k h8;rw [this];have e:=fo P h8;rw [Yc (by exact h8)] at e;exact e
  have hc3:F3.cell ((ZX b3 0 ZR).add k)=ZO (di (wd Q k)):=by rw [cD,X5,av q3];exact fo Q h8
  refine ⟨_,rfl,by omega,by omega,_,hc,by omega,by omega,_,hc3,?_⟩;dsimp only;rw [xf (oT P k) (oT Q k),<- PU];refine ⟨λhne=>⟨⟨ZT,rfl,?_⟩,l3⟩,λhe=>⟨8 - (k+1),by omega,k+1,fF (by omega),h8,rfl,rfl,λi hi=> ?_⟩⟩
  ·refine ⟨λ_=> ?_,λ_=>rfl⟩;have h0:¬wd (λi=>P i && Q i) k=0:=by omega
   rw [iT] at h0;have:∃j,¬(j<64->(P (64*k+j) && Q (64*k+j))=ZQ):=Classical.not_forall.1 h0;obtain ⟨j,hj⟩:=this;have hj64:j<64:=Classical.byContradiction λh=>hj λh'=>absurd h' h;have hj2:¬(P (64*k+j) && Q (64*k+j))=ZQ:=λh=>hj λ_=>h;simp at hj2;exact ⟨64*k+j,by omega,hj2⟩
  ·by_cases hlt2:i<64*k
   ·exact hall i hlt2
   ·have h0:wd (λi=>P i && Q i) k=0:=by omega
    have:=iT.1 h0 (i - 64*k) (by omega);rw [show 64*k+(i - 64*k)=i by omega] at this;rintro ⟨a,c⟩;rw [a,c] at this;cases this
 ·obtain rfl:k=8:=by omega
  unfold Df;exact ⟨⟨ZQ,rfl,λh=>(by cases h),λ⟨i,hi,hp⟩=>absurd hp (hall i (by omega))⟩,l3⟩
theorem EN {b:Nat} {P:Nat->Bool} {i:Nat} (hi:i<512) (h:F b=ZO (ZP (plA P) 229)):
  ν 207 #[pa b,vi i] F λr F'=>r=.tuple #[]/\F'=F.set b (ZP (plA λj=>P j || decide (j=i)) 229):=by
 refine Uf ?_;unfold NY;have e1:i64.wrap (Int.tdiv (i:Int) 64)=((i / 64:Nat):Int):=by rw [show Int.tdiv (i:Int) 64=((i / 64:Nat):Int) from rfl,aR (by omega)]
 have e2:Z5 (i:Int) 64=((i % 64:Nat):Int):=rfl;rw [e1,e2];have ek:ZY ((i / 64:Nat):Int)*1=i / 64:=by rw [N5,Yj]
 rw [ek];have h8:i / 64<8:=by omega
 have hc:F.cell ((ZX b 0 ZR).add (i / 64))=ZO (di (wd P (i / 64))):=by rw [cD,X5,av h];exact fo P h8
 refine ⟨_,rfl,by omega,by omega,_,hc,by omega,by omega,by omega,?_⟩;refine tf (b:=b) (o:=i / 64) (by rw [cD,X5]) h (by rw [Hv];exact h8) ⟨rfl,?_⟩;have hp:2 ^ (i % 64)<18446744073709551616:=by have:2 ^ (i % 64)<2 ^ 64:=Nat.pow_lt_pow_right (by omega) (by omega);exact this
 have ep:u64.wrap ((1:Int)*2 ^ (min (ZY ((i % 64:Nat):Int)) (u64).bits))=((2 ^ (i % 64):Nat):Int):=by
  have hm:min (ZY ((i % 64:Nat):Int)) (u64).bits=i % 64:=by rw [N5];show min (i % 64) 64=i % 64;omega
  rw [hm];have:(1:Int)*2 ^ (i % 64)=((2 ^ (i % 64):Nat):Int):=by simp
  rw [this];exact mU (Int.natCast_nonneg _) (Int.ofNat_lt.2 hp)
 rw [ep,Io (oT P _) hp];congr 2;have ew:wd P (i / 64) ||| 2 ^ (i % 64)=wd (λj=>P j || decide (j=i)) (i / 64):=by refine u0 (Nat.or_lt_two_pow (oT P _) hp) λj hj=> ?_;rw [Nat.testBit_or,iS P _ hj,Zz];congr 1;rw [XV];simp;omega
 rw [ew];have eo:∀k,k≠i / 64->k<8->wd P k=wd (λj=>P j || decide (j=i)) k:=λk hk _=>In λj hj=>by show P (64*k+j)=(P (64*k+j) || decide (64*k+j=i));rw [show decide (64*k+j=i)=ZQ by simp;omega,ZE]
 apply Array.ext';apply Yx;intro k;rw [Array.toList_setIfInBounds,Ze];by_cases hk8:k<8
 ·have g1:∀(Q:Nat->Bool),(plA Q).toList[k]? =ZO (di (wd Q k)):=λQ=>by rw [Y5];exact fo Q hk8
  rw [g1,g1];by_cases hik:i / 64=k
  ·rw [Χ hik,Χ (by exact h8),hik]
  ·rw [Υ hik,eo k (λe=>hik e.symm) hk8]
 ·have g2:∀(Q:Nat->Bool),(plA Q).toList[k]? =ZR:=λQ=>Yi (by show 8<=k;omega);rw [g2,g2,Υ (by omega)]
def Tab (F:PH):Prop:=∀k v,yT[k]? =ZO v->F.cell ⟨0,k,ZR⟩=ZO (.int .u8 ((v:Nat):Int))
theorem Tab.le {F G:PH} (h:Tab F) (hl:F.le G):Tab G:=λk v hv=>aK hl (h k v hv)
theorem KI (hT:Tab F) {x t:Nat} (hx:x<18446744073709551616) (h:Low x t):ν 215 #[.int .u64 x] F λr F'=>r=vi t/\F'=F:=by
 refine T2 ?_;unfold NK;have hpos:=h.pos;refine ⟨λh0=>absurd h0 (by omega),λ_=> ?_⟩;have ht:t<64:=by
  rcases Nat.lt_or_ge t 64 with h1|h1
  ·exact h1
  ·obtain ⟨m,rfl⟩:=h;have:2 ^ 64<=2 ^ t:=Yz (by omega) h1;omega
 have e1:u64.wrap (0 - (x:Int))=((2 ^ 64 - x:Nat):Int):=by
  unfold IntKind.wrap;simp only [IntKind.bits,IntKind.signed];simp only [Bool.false_and,Yn,if_false];have:(2:Nat) ^ 64=18446744073709551616:=by decide
  omega
 have e2:2 ^ 64 - x<18446744073709551616:=by omega
 rw [e1,xf hx e2,h.neg hx];have hC:=U4 t ht;have e3:u64.wrap (((2 ^ t:Nat):Int)*285870213051353865)=((2 ^ t*285870213051353865 % 18446744073709551616:Nat):Int):=by
  unfold IntKind.wrap;simp only [IntKind.bits,IntKind.signed];simp only [Bool.false_and,Yn,if_false];have:((2:Nat) ^ 64:Nat)=18446744073709551616:=by decide
  omega
 rw [e3];generalize hy:2 ^ t*285870213051353865 % 18446744073709551616=y at*;have e4:Int.fdiv ((y:Nat):Int) (2 ^ (min (ZY (58:Int)) (u64).bits))=((y / 288230376151711744:Nat):Int):=by
  have:(2:Int) ^ (min (ZY (58:Int)) (u64).bits)=288230376151711744:=by decide
  rw [this,Int.fdiv_eq_ediv_of_nonneg _ (by decide)];omega
 rw [e4,N5,Yj,cD,X5];refine ⟨by omega,by omega,_,hT _ _ hC.2,?_,rfl⟩;rw [U5 (by omega)]
theorem uL {a:Addr} {P:Nat->Bool} {k:FuncId} {cap:Γ} {Inv:Nat->Ψ} (hk:aE prog k=ZT) (_:a.spot=ZR)
  (hI:∀n F,Inv n F->Tab F/\F.row a (plA P)) (h0:∀i F,i<512->P i=ZQ->Inv i F->Inv (i+1) F)
  (h1:∀i F,i<512->P i=ZT->Inv i F->aj prog k (#[vi i]++cap) F λr F'=>r=.tuple #[]/\Inv (i+1) F') (hF:Inv 0 F):
  ν 203 #[.pointer (ZO a),.func (.func k) #[] cap] F λr F'=>r=.tuple #[]/\Inv 512 F':=by
 refine Ub ?_;unfold NT;refine ⟨λm i F'=>∃w:Nat,i=w/\w<=8/\m=8 - w/\Inv (64*w) F',8,⟨0,rfl,by omega,rfl,hF⟩,?_⟩;rintro _ _ F1 ⟨w,rfl,hw,rfl,hi1⟩;unfold Dd;refine ⟨λhlt=> ?_,λhge=> ?_⟩
 ·have h8:w<8:=by omega
  have ek:ZY (w:Int)*1=w:=by rw [N5,Yj]
  rw [ek];have hc:F1.cell (a.add w)=ZO (di (wd P w)):=by rw [(hI _ _ hi1).2 w h8];have e:=fo P h8;rw [Yc (by exact h8)] at e;exact e
  refine ⟨a,rfl,by omega,by omega,_,hc,?_⟩;refine ⟨λm x F'=>∃j y:Nat,x=y/\j<=64/\m=64 - j/\y<18446744073709551616/\(∀i,y.testBit i=((wd P w).testBit i && decide (j<=i)))/\Inv (64*w+j) F',64,⟨0,wd P w,rfl,by omega,rfl,oT P w,λi=>by simp,hi1⟩,?_⟩;rintro _ _ F2 ⟨j,y,rfl,hj,rfl,hy,hbit,hi2⟩;unfold Dc;have skip:∀(t:Nat),j<=t->t<=64->(∀i,j<=i->i<t->P (64*w+i)=ZQ)->Inv (64*w+t) F2:=by
   intro t;induction t with
   |zero=>
    intro h _ _;obtain rfl:j=0:=by omega
    exact hi2
   |succ t ih=>
    intro h h2 h3;by_cases e:j=t+1
    ·subst e;exact hi2
    ·have:=ih (by omega) (by omega) λi a c=>h3 i a (by omega);exact h0 (64*w+t) F2 (by omega) (h3 t (by omega) (by omega)) this
  refine ⟨λhne=> ?_,λhe=> ?_⟩
  ·
   have hex:∃t,y.testBit t=ZT:=Classical.byContradiction λhn=>by
    have:y=0:=Nat.eq_of_testBit_eq λi=>by rw [Nat.zero_testBit];exact YK.2 λh=>hn ⟨i,h⟩
    omega
   obtain ⟨t,ht,hmin⟩:∃t,y.testBit t=ZT/\∀i,i<t->y.testBit i=ZQ:=by
    obtain ⟨t,ht⟩:=hex;have key:∀n t,t<=n->y.testBit t=ZT->∃t,y.testBit t=ZT/\∀i,i<t->y.testBit i=ZQ:=by
     intro n;induction n with
     |zero=>
      intro t h ht;obtain rfl:t=0:=by omega
      exact ⟨0,ht,λi hi=>by omega⟩
     |succ n ih=>
      intro t h ht;by_cases hl:∃i,i<t/\y.testBit i=ZT
      ·obtain ⟨i,h1,h2⟩:=hl;exact ih i (by omega) h2
      ·exact ⟨t,ht,λi hi=>YK.2 λh=>hl ⟨i,hi,h⟩⟩
    exact key t t (XS _) ht
   have hlow:Low y t:=Low.of ht hmin;have htb:=hbit t;rw [ht] at htb;simp at htb;have ht64:t<64:=by
    rcases Nat.lt_or_ge t 64 with h|h
    ·exact h
    ·rw [Nat.testBit_lt_two_pow (Nat.lt_of_lt_of_le (oT P w) (by have:2 ^ 64<=2 ^ t:=Yz (by omega) h;exact this))] at htb;simp at htb
   have hPt:P (64*w+t)=ZT:=by rw [<- iS P w ht64];exact htb.1
   have hz:∀i,j<=i->i<t->P (64*w+i)=ZQ:=λi a c=>by have:=hbit i;rw [hmin i c,iS P w (by omega)] at this;simp only [ζ a,Bool.and_true] at this;exact this.symm
   have hi3:=skip t htb.2 (by omega) hz;refine (KI (hI _ _ hi3).1 hy hlow).mono ?_;rintro _ F3 ⟨rfl,e3⟩;obtain rfl:=e3.symm;have ei:i64.wrap (i64.wrap ((64:Int)*(w:Int))+(t:Int))=((64*w+t:Nat):Int):=by rw [aR (x:=(64:Int)*w) (by omega) (by omega),aR (by omega)];omega
   refine ⟨_,rfl,k,#[],cap,rfl,hk,?_⟩;rw [ei];have:=h1 (64*w+t) F2 (by omega) hPt hi3;refine aj.mono (R:=λr F'=>r=.tuple #[]/\Inv (64*w+t+1) F') (by simpa using this) ?_;rintro _ F4 ⟨rfl,hi4⟩;refine ⟨rfl,64 - (t+1),by omega,t+1,y &&& (y - 1),?_,by omega,rfl,Nat.lt_of_le_of_lt Nat.and_le_left hy,λi=> ?_,hi4⟩
   ·have e:u64.wrap ((y:Int) - 1)=((y - 1:Nat):Int):=by have:=hlow.pos;rw [mU (by omega) (by omega)];omega
    rw [e,xf hy (by omega)]
   ·rw [hlow.clear,hbit i];by_cases hit:i<t
    ·have:=hmin i hit;rw [hbit i] at this;rw [this];simp;omega
    ·by_cases e:i=t
     ·subst e;simp
     ·have:j<=i:=by omega
      simp [this,e];omega
  ·have hy0:y=0:=by omega
   subst hy0;unfold Db;refine ⟨8 - (w+1),by omega,w+1,fF (by omega),h8,rfl,?_⟩;rw [show 64*(w+1)=64*w+64 by omega];refine skip 64 hj (XS _) λi a c=> ?_;have:=hbit i;rw [Nat.zero_testBit,iS P w c] at this;simp only [ζ a,Bool.and_true] at this;exact this.symm
 ·obtain rfl:w=8:=by omega
  exact ⟨rfl,hi1⟩
end
end
open Go.ChangeShapes Go.WideShapes Go.ChangeAt Go.RowKit
set_option maxRecDepth 100000
abbrev sP:List (String×DataW Unit):=[("math/bits.deBruijn64tab",Rows.laid_math_bits_deBruijn64tab)]
theorem sQ:prog.cellsOf 5=1:=by kernel_rfl
theorem Ui:ownKnob prog.godebug=ZR:=by kernel_rfl
theorem KJ:laidOutB prog=ZT:=by kernel_rfl
theorem Pe:(Rows.laid_math_bits_deBruijn64tab:DataW Unit)=.agg (yT.map λ(n:Nat)=> .lit (.int .u8 (n:Int))):=by kernel_rfl
theorem yD {W:World} (h:laidMetH prog sP W):Tab (hF W):=by
 intro r v hv;have hr:r<64:=(XN.1 hv).1;rw [MakeChecks.laidMetH_plain _ _ _ (by kernel_rfl)] at h;obtain ⟨ps,⟨g,t,cs,fuel,p,q,hg,ht,hw,hd,_,_⟩,_,_⟩:=h;obtain rfl:=Yh ((show prog.globalNamed "math/bits.deBruijn64tab"=ZO 0 by kernel_rfl).symm.trans hg);obtain rfl:=Yh ((show (prog.globals[0]?).map (·.type)=ZO 262 by kernel_rfl).symm.trans ht);obtain ⟨xs,m,_,ex,_,hl,hel⟩:=DataW.trod_array underlying262 hd;have hE:=hel r hr;rw [sQ,Yj,N6 (by omega)] at hE;obtain ⟨z,e1,e2,_⟩:=DataW.trod_int underlying5 hE;rw [Pe] at ex;have e3:(xs.map (·.1))=yT.map λ(n:Nat)=> .lit (.int .u8 (n:Int)):=(DataW.agg.inj (Prod.mk.inj ex).1).symm;have e4:(xs.map (·.1))[r]? =(yT.map λ(n:Nat)=>(DataW.lit (.int .u8 (n:Int)):DataW Unit))[r]? :=by rw [e3]
 rw [X2,X2,N6 (by omega:r<xs.length),hv,e2] at e4;have hz:z=(v:Int):=by simp only [YD,Option.some.injEq,DataW.lit.injEq,Lit.int.injEq,true_and] at e4;exact e4
 refine DF ?_;rw [World.var?_cell hg hw r,<- hz];have:cs.toList[r]? =ZO (.int .u8 z):=by
  have h0:((cs.toList.drop r).take 1)[0]? =ZO (.int .u8 z):=by rw [e1];rfl
  simpa using h0
 simpa using this
theorem Hz (os:Os) (args:Γ):laidMetH prog sP ((World.laidAll prog os sP).forCall (λ_ _=>0) ⟨#[],args,[]⟩).memory:=by rw [MakeChecks.laidMetH_plain _ _ _ (by kernel_rfl)];exact laidMet_laidAll _ (by kernel_rfl) (by kernel_rfl)
open Go.Deep
section
section
variable {H:Type} {enc:TypeId×ξ->H} {P:Program} {W:World}
theorem HB {t e fuel:Nat} {k:IntKind} {c:ξ} {x:DataW H×List MemPlace} (ht:P.underlying t=ZO (.slice e)) (he:P.underlying e=ZO (.int k)) (hc:P.cellsOf e=1)
  (h:DataW.trod enc P W 0 (λ_=>ZT) ZT fuel t [c]=ZO x) (hw:(x.1.weights P t).all (·<=reachBytes)=ZT):
  ∃(sl:Sl) (zs:Φ),c=ZS sl/\RdS (hF W) sl 1 (zs.map (Value.int k))/\(∀z∈zs,(Lit.int k z).wf=ZT)/\sl.len*P.bytesOf e<=reachBytes/\sl.cap*P.bytesOf e<=reachBytes:=by
 rcases open_slice1 ht hc h with ⟨hcs,rfl⟩|⟨a,len,cap,m,n,V,D,Pl,hcs,_,hl,hm,hmm,rfl,hx⟩
 ·cases hcs;exact ⟨Z3,[],rfl,RdS.nil _ _,by simp,by simp [Z3],by simp [Z3]⟩
 ·cases hcs;simp only [if_true] at hmm;subst hmm;have hz:∀i,i<m->∃z,V i=.int k z/\(Lit.int k z).wf=ZT:=λi hi=>by obtain ⟨z,h1,_,h3⟩:=DataW.trod_int he (hx i hi).2;exact ⟨z,by simpa using h1,h3⟩
  obtain ⟨Z,hZ⟩:=choose_lt hz;have hb:m*P.bytesOf e<=reachBytes:=by simp only [DataW.weights,ht,Zx,Yt,δ,XW,Yq] at hw;rw [show len+(m - len)=m by omega] at hw;exact hw.1
  refine ⟨⟨ZO a,len,m⟩,(List.range len).map Z,rfl,⟨by simp,hl,λhp=> ?_⟩,?_,YQ (YV _ hl) hb,hb⟩
  ·have hs:=World.cell?_spot (hx 0 (by simp only at hp;omega)).1;obtain ⟨b,o,spot⟩:=a;simp only [ZW] at hs;subst hs;refine ⟨b,o,rfl,λi hi=> ?_⟩;simp at hi;have:=DF (hx i (by omega)).1;rw [(hZ i (by omega)).1] at this;rw [aG] at this;simpa using this
  ·intro z hz;simp only [X1,Yv] at hz;obtain ⟨i,hi,rfl⟩:=hz;exact (hZ i (by omega)).2
end
theorem Pf {z:Int} (h:(Lit.int .u8 z).wf=ZT):0<=z/\z<=255:=bounds_u8 h
theorem KL {F:PH} {sl:Sl} {zs:Φ} (h:RdS F sl 1 (zs.map (Value.int .u8))) (hb:sl.len*prog.bytesOf 5<=reachBytes):zs.length<=9000000000000000:=by
 have:=h.len;rw [XW] at this;have e:prog.bytesOf 5=1:=by kernel_rfl
 have e2:reachBytes=140737488351232:=rfl;rw [e,e2] at hb;omega
class Mem (α:Type) where
 n:Nat
 rep:PH->α->Γ->Prop
 len:∀{F:PH} {x:α} {c:Γ},rep F x c->c.size=n
 le:∀{F G:PH} {x:α} {c:Γ},F.le G->rep F x c->rep G x c
 st:∀{F:PH} {x:α} {c:Γ},rep F x c->∀v∈c.toList,am v
def cat (vs:List Γ):Ξ:=vs.flatMap Array.toList
theorem bK (c:Γ) (vs:List Γ):cat (c::vs)=c.toList++cat vs:=rfl
theorem bR (a b:List Γ):cat (a++b)=cat a++cat b:=by simp [cat]
theorem cL (c:Γ):cat [c]=c.toList:=by simp [cat]
inductive df {α:Type} [Mem α] (F:PH):List α->List Γ->Prop
 |nil:df F [] []
 |cons {x:α} {c:Γ} {l:List α} {vs:List Γ}:Mem.rep F x c->df F l vs->df F (x::l) (c::vs)
namespace df
section
variable {α:Type} [Mem α] {F G:PH} {l m:List α} {vs ws:List Γ}
theorem le (hl:F.le G) (h:df F l vs):df G l vs:=by
 induction h with
 |nil=>exact .nil
 |cons h _ ih=>exact .cons (Mem.le hl h) ih
theorem cat_len (h:df F l vs):(cat vs).length=l.length*Mem.n α:=by
 induction h with
 |nil=>simp [cat]
 |cons h _ ih=>rw [bK,XT,ih,XU,Mem.len h,X4,Za,Nat.add_comm]
theorem append (h:df F l vs) (k:df F m ws):df F (l++m) (vs++ws):=by
 induction h with
 |nil=>exact k
 |cons h _ ih=>exact .cons h ih
theorem st (h:df F l vs):∀v∈cat vs,am v:=by
 induction h with
 |nil=>intro v hv;cases hv
 |cons h _ ih=>
  intro v hv;rw [bK,XR] at hv;rcases hv with hv|hv
  ·exact Mem.st h v hv
  ·exact ih v hv
theorem get (h:df F l vs):∀{i:Nat} {x:α},l[i]? =ZO x->∃c,vs[i]? =ZO c/\Mem.rep F x c/\((cat vs).drop (i*Mem.n α)).take (Mem.n α)=c.toList:=by
 induction h with
 |nil=>intro i x hx;simp at hx
 | @cons y c l vs h h2 ih=>
  intro i x hx;have hlen:=Mem.len h;cases i with
  |zero=>simp at hx;subst hx;refine ⟨c,rfl,h,?_⟩;rw [Y0,Yw,bK,Yb (by simp [hlen]),XY (by simp [hlen])]
  |succ i=>simp at hx;obtain ⟨d,h3,h4,h5⟩:=ih hx;refine ⟨d,by simpa using h3,h4,?_⟩;rw [bK,Za,List.drop_append,List.drop_eq_nil_of_le (by simp [hlen]),Yu];rw [show i*Mem.n α+Mem.n α - c.toList.length=i*Mem.n α by simp [hlen]];exact h5
theorem take (h:df F l vs) (k:Nat):df F (l.take k) (vs.take k):=by
 induction h generalizing k with
 |nil=>simp only [List.take_nil];exact .nil
 |cons h _ ih=>
  cases k with
  |zero=>exact .nil
  |succ k=>exact .cons h (ih k)
theorem drop (h:df F l vs) (k:Nat):df F (l.drop k) (vs.drop k):=by
 induction h generalizing k with
 |nil=>simp only [List.drop_nil];exact .nil
 |cons h h2 ih=>
  cases k with
  |zero=>exact .cons h h2
  |succ k=>exact ih k
theorem cat_take (h:df F l vs) (k:Nat):(cat vs).take (k*Mem.n α)=cat (vs.take k):=by
 induction h generalizing k with
 |nil=>simp [cat]
 |cons h _ ih=>
  cases k with
  |zero=>simp [cat]
  |succ k=>have hlen:=Mem.len h;rw [List.take_succ_cons,bK,bK,Za,List.take_append,XY (by simp [hlen])];congr 1;rw [show k*Mem.n α+Mem.n α - (Array.toList _).length=k*Mem.n α by simp [hlen]];exact ih k
theorem cat_drop (h:df F l vs) (k:Nat):(cat vs).drop (k*Mem.n α)=cat (vs.drop k):=by
 induction h generalizing k with
 |nil=>simp [cat]
 |cons h _ ih=>
  cases k with
  |zero=>simp [cat]
  |succ k=>have hlen:=Mem.len h;rw [ZA,bK,Za,List.drop_append,List.drop_eq_nil_of_le (by simp [hlen]),Yu];rw [show k*Mem.n α+Mem.n α - (Array.toList _).length=k*Mem.n α by simp [hlen]];exact ih k
theorem set (h:df F l vs) {i:Nat} {x:α} {c:Γ} (hc:Mem.rep F x c):df F (l.set i x) (vs.set i c):=by
 induction h generalizing i with
 |nil=>simp only [List.set_nil];exact .nil
 |cons h h2 ih=>
  cases i with
  |zero=>exact .cons hc h2
  |succ i=>exact .cons h ih
end
end df
def RL {α:Type} [Mem α] (F:PH) (s:Sl) (l:List α):Prop:=∃vs,df F l vs/\RdS F s (Mem.n α) (cat vs)
namespace RL
section
variable {α:Type} [Mem α] {F G:PH} {s:Sl} {l:List α}
theorem le (h:RL F s l) (hl:F.le G):RL G s l:=by obtain ⟨vs,h1,h2⟩:=h;exact ⟨vs,h1.le hl,h2.le hl⟩
theorem nil (F:PH):RL F Z3 ([]:List α):=⟨[],.nil,RdS.nil F _⟩
theorem len (h:RL F s l) (hn:0<Mem.n α:=by decide):s.len=l.length:=by obtain ⟨vs,h1,h2⟩:=h;have:=h2.len;rw [h1.cat_len] at this;exact (Nat.eq_of_mul_eq_mul_right hn this).symm
theorem cap (h:RL F s l):s.len<=s.cap:=by obtain ⟨vs,h1,h2⟩:=h;exact h2.cap
theorem get (h:RL F s l) (hn:0<Mem.n α) {i:Nat} {x:α} (hx:l[i]? =ZO x):∃a c,s.ZK=ZO a/\F.row (a.add (i*Mem.n α)) c/\Mem.rep F x c:=by
 obtain ⟨vs,h1,h2⟩:=h;obtain ⟨c,h3,h4,h5⟩:=h1.get hx;have hi:i<l.length:=(XN.1 hx).1;have hlen:=h2.len;rw [h1.cat_len] at hlen;have hp:0<s.len:=by have:=Nat.eq_of_mul_eq_mul_right hn hlen;omega
 obtain ⟨b,o,hb,_⟩:=h2.cells hp;refine ⟨⟨b,o,ZR⟩,c,hb,h2.row hb _ c ?_,h4⟩;rw [Mem.len h4];exact h5.symm
end
end RL
instance:Mem Int where
 n:=1
 rep _ x c:=c= #[vi x]
 len h:=by rw [h];rfl
 le _ h:=h
 st h:=by rw [h];simp [am]
instance:Mem ο where
 n:=1
 rep _ x c:=c= #[.string x]
 len h:=by rw [h];rfl
 le _ h:=h
 st h:=by rw [h];simp [am]
instance:Mem Br where
 n:=3
 rep _ x c:=c=bh x
 len h:=by rw [h];rfl
 le _ h:=h
 st h:=by rw [h];simp [am]
instance:Mem Nd where
 n:=5
 rep _ x c:=c=x.arr
 len h:=by rw [h];rfl
 le _ h:=h
 st h:=by rw [h];simp [am]
structure Sy where
 t:Bool
 i:Int
deriving DecidableEq
abbrev Sy.arr (x:Sy):Γ:= #[.bool x.t,vi x.i]
instance:Mem Sy where
 n:=2
 rep _ x c:=c=x.arr
 len h:=by rw [h];rfl
 le _ h:=h
 st h:=by rw [h];simp [am]
structure Cn where
 k:Int
 a:Int
 b:Int
deriving DecidableEq
abbrev Cn.arr (x:Cn):Γ:= #[vi x.k,vi x.a,vi x.b]
instance:Mem Cn where
 n:=3
 rep _ x c:=c=x.arr
 len h:=by rw [h];rfl
 le _ h:=h
 st h:=by rw [h];simp [am]
theorem RL.flat {α:Type} [Mem α] {f:α->Γ} (hf:∀F x c,Mem.rep F x c↔c=f x) {F:PH} {s:Sl} {l:List α}:RL F s l↔RdS F s (Mem.n α) (l.flatMap λx=>(f x).toList):=by
 have key:∀(l:List α) (vs:List Γ),df F l vs↔vs=l.map f:=by
  intro l;induction l with
  |nil=>intro vs;exact ⟨λh=>by cases h;rfl,λh=>by rw [h];exact .nil⟩
  |cons x l ih=>
   intro vs;constructor
   ·intro h;cases h with
    |cons h1 h2=>rw [(hf _ _ _).1 h1,(ih _).1 h2];rfl
   ·intro h;rw [h];exact .cons ((hf _ _ _).2 rfl) ((ih _).2 rfl)
 have e:cat (l.map f)=l.flatMap λx=>(f x).toList:=by simp [cat,List.flatMap_map]
 constructor
 ·rintro ⟨vs,h1,h2⟩;rw [(key l vs).1 h1,e] at h2;exact h2
 ·intro h;exact ⟨_,(key l _).2 rfl,by rw [e];exact h⟩
theorem RL.brs {F:PH} {s:Sl} {l:List Br}:RL F s l↔RdS F s 3 (ba l):=RL.flat (f:=bh) (λ_ _ _=>Iff.rfl)
theorem RL.nds {F:PH} {s:Sl} {l:List Nd}:RL F s l↔RdS F s 5 (d7 l):=RL.flat (f:=Nd.arr) (λ_ _ _=>Iff.rfl)
theorem N7 {α:Type} (f:α->ξ) (l:List α):(l.flatMap λx=>(#[f x]:Γ).toList)=l.map f:=by
 induction l with
 |nil=>rfl
 |cons x l ih=>rw [YC,ih];rfl
theorem RL.ints {F:PH} {s:Sl} {l:Φ}:RL F s l↔RdS F s 1 (l.map vi):=by rw [RL.flat (f:=λx=> #[vi x]) (λ_ _ _=>Iff.rfl),N7];rfl
theorem RL.strs {F:PH} {s:Sl} {l:List ο}:RL F s l↔RdS F s 1 (l.map Value.string):=by rw [RL.flat (f:=λx=> #[.string x]) (λ_ _ _=>Iff.rfl),N7];rfl
theorem DV.mk {F:PH} {s:Sl} {d:Dia} (h:RL F s d.1):DV F #[s.v,vi d.2] d:=⟨s,rfl,RL.brs.1 h⟩
structure Tk where
 name:ο
 cls:Int
 lit:ο
 pat:List Nd
 smp:ο
 cond:Dia
structure Sco where
 o:Bool
 d:Int
 k:Int
 u:Int
 a:Int
deriving DecidableEq
structure Pr where
 name:ο
 left:Int
 right:List Sy
 cond:Dia
 brk:Bool
 rank:Int
 lay:List Cn
 sco:Sco
structure Lv where
 ps:Φ
 assoc:Int
 cond:Dia
structure Fi where
 k:Int
 par:Int
 pos:Int
 ch:Int
 left:Int
 tok:Int
 ZI:Φ
 cond:Dia
structure Gr where
 ZJ:List ο
 fam:Dia
 ZI:List Tk
 ZH:List ο
 ZG:List Pr
 start:Int
 lvs:List Lv
 fils:List Fi
deriving instance DecidableEq for Tk,Pr,Lv,Fi,Gr
abbrev Tk.arr (x:Tk) (p n:Sl):Γ:= #[.string x.name,vi x.cls,.string x.lit,p.v,.string x.smp,n.v,vi x.cond.2]
abbrev Pr.arr (x:Pr) (r n l:Sl):Γ:= #[.string x.name,vi x.left,r.v,n.v,vi x.cond.2,.bool x.brk,vi x.rank,l.v,.bool x.sco.o,vi x.sco.d,vi x.sco.k,vi x.sco.u,vi x.sco.a]
abbrev Lv.arr (x:Lv) (p n:Sl):Γ:= #[p.v,vi x.assoc,n.v,vi x.cond.2]
abbrev Fi.arr (x:Fi) (t n:Sl):Γ:= #[vi x.k,vi x.par,vi x.pos,vi x.ch,vi x.left,vi x.tok,t.v,n.v,vi x.cond.2]
abbrev Gr.arr (g:Gr) (c n t s p l f:Sl):Γ:= #[c.v,n.v,vi g.fam.2,t.v,s.v,p.v,vi g.start,l.v,f.v]
instance:Mem Tk where
 n:=7
 rep F x c:=∃p n,c=x.arr p n/\RL F p x.pat/\RL F n x.cond.1
 len h:=by obtain ⟨p,n,rfl,_⟩:=h;rfl
 le hl h:=by obtain ⟨p,n,h1,h2,h3⟩:=h;exact ⟨p,n,h1,h2.le hl,h3.le hl⟩
 st h:=by obtain ⟨p,n,rfl,_⟩:=h;simp [am,ZS]
instance:Mem Pr where
 n:=13
 rep F x c:=∃r n l,c=x.arr r n l/\RL F r x.right/\RL F n x.cond.1/\RL F l x.lay
 len h:=by obtain ⟨r,n,l,rfl,_⟩:=h;rfl
 le hl h:=by obtain ⟨r,n,l,h1,h2,h3,h4⟩:=h;exact ⟨r,n,l,h1,h2.le hl,h3.le hl,h4.le hl⟩
 st h:=by obtain ⟨r,n,l,rfl,_⟩:=h;simp [am,ZS]
instance:Mem Lv where
 n:=4
 rep F x c:=∃p n,c=x.arr p n/\RL F p x.ps/\RL F n x.cond.1
 len h:=by obtain ⟨p,n,rfl,_⟩:=h;rfl
 le hl h:=by obtain ⟨p,n,h1,h2,h3⟩:=h;exact ⟨p,n,h1,h2.le hl,h3.le hl⟩
 st h:=by obtain ⟨p,n,rfl,_⟩:=h;simp [am,ZS]
instance:Mem Fi where
 n:=9
 rep F x c:=∃t n,c=x.arr t n/\RL F t x.ZI/\RL F n x.cond.1
 len h:=by obtain ⟨p,n,rfl,_⟩:=h;rfl
 le hl h:=by obtain ⟨p,n,h1,h2,h3⟩:=h;exact ⟨p,n,h1,h2.le hl,h3.le hl⟩
 st h:=by obtain ⟨p,n,rfl,_⟩:=h;simp [am,ZS]
structure GS (F:PH) (g:Gr) (c n t s p l f:Sl):Prop where
 c:RL F c g.ZJ
 n:RL F n g.fam.1
 t:RL F t g.ZI
 s:RL F s g.ZH
 p:RL F p g.ZG
 l:RL F l g.lvs
 f:RL F f g.fils
theorem GS.le {F G:PH} {g:Gr} {c n t s p l f:Sl} (h:GS F g c n t s p l f) (hl:F.le G):GS G g c n t s p l f:=
 ⟨h.c.le hl,h.n.le hl,h.t.le hl,h.s.le hl,h.p.le hl,h.l.le hl,h.f.le hl⟩
def GV (F:PH) (v:Γ) (g:Gr):Prop:=∃c n t s p l f,v=g.arr c n t s p l f/\GS F g c n t s p l f
theorem GV.le {F G:PH} {v:Γ} {g:Gr} (h:GV F v g) (hl:F.le G):GV G v g:=by obtain ⟨c,n,t,s,p,l,f,h1,h2⟩:=h;exact ⟨c,n,t,s,p,l,f,h1,h2.le hl⟩
theorem GV.size {F:PH} {v:Γ} {g:Gr} (h:GV F v g):v.size=9:=by obtain ⟨c,n,t,s,p,l,f,rfl,_⟩:=h;rfl
theorem GV.st {F:PH} {v:Γ} {g:Gr} (h:GV F v g):∀x∈v.toList,am x:=by obtain ⟨c,n,t,s,p,l,f,rfl,_⟩:=h;simp [am,ZS]
variable {R:VR} {F:PH}
set_option maxHeartbeats 4000000
def Dh (a:Sl) (R:VR) (F:PH):Prop:=Bc ((a.len:Int)=0) (R (vi 40) F) (R (vi 0) F)
def Di (f:Ω) (b c:Sl) (R:VR) (a:Int) (F:PH):Prop:=Bc (a<(i64.wrap ((b.len:Int) - 1))) (Ix c a λd=>Li F (ZW d (ZY a*1)) λe=>Bc (e≠1) (R (vi 40) F) (f (i64.wrap (a+1)) F)) (Dh b R F)
def Dk (b a:Sl) (R:VR) (F:PH):Prop:=Lp 0 F λN c F=>Di N b a R c F
def qn (c:Ω) (_ _:Sl) (a:Int) (_:VR) (F:PH):Prop:=c (i64.wrap (a+1)) F
def qp (j:Ω) (d a:Sl) (c e:Int) (R:VR) (F:PH):Prop:=Bc (2<=e) (Ix d c λf=>Li F (ZW (ZW f (ZY c*5)) 4) λb=>Ix a b λg=>Li F (ZW g (ZY b*1)) λh=>Ix a b λi=>sto F (ZW i (ZY b*1)) (vi (i64.wrap (h+1))) λF=>qn j d a c R F) (qn j d a c R F)
def Dl (n:Ω) (c a:Sl) (R:VR) (b:Int) (F:PH):Prop:=Bc (b<(c.len:Int)) (Cbo 211 #[ZS c,(vi b)] F λg F=>Bb ((!g)) (R (vi 40) F) (Ix c b λh=>Li F (ZW h (ZY b*5)) λi=>ν 212 #[(vi i)] F λv F=>∃d,∃f,v=(.tuple #[(vi d),.bool f])/\Bc (1<=d) (Ix c b λj=>Li F (ZW (ZW j (ZY b*5)) 3) λe=>Ix a e λk=>Li F (ZW k (ZY e*1)) λl=>Ix a e λm=>sto F (ZW m (ZY e*1)) (vi (i64.wrap (l+1))) λF=>qp n c a b d R F) (qp n c a b d R F))) (Dk c a R F)
def N8 (a:Sl) (R:VR) (F:PH):Prop:=Bc ((512:Int)<(a.len:Int)) (R (vi 2) F) (aH prog (Instr.makeSlice 67 (vi (a.len:Int)) (vi (a.len:Int))) F λv F=>∃b,v=(ZS b)/\Lp 0 F λN c F=>Dl N a b R c F)
theorem Uj {a:Sl} (h:N8 a R F):ν 198 #[ZS a] F R:=Rx.Λ (.ZN (.ZN (.ZN (.J ZQ [] (.ZN (.L [(4,.int .i64)] (.ZN (.J ZQ [] (.ZN (.ZN (.J ZQ [] .N .N))) .N)))) (.J ZQ [] (.ZN (.L [(7,.int .i64)] .N)) .N))))) h
def N9 (a:Sl) (b:ο) (R:VR) (F:PH):Prop:=Ci 198 #[ZS a] F λe F=>Bc (e=0) (Nb F (ZP #[(vi 0)] 3) λf F=>Cs 214 #[ZS a,(vi (i64.wrap ((a.len:Int) - 1))),.string b,ZS (Sb f 1)] F λc F=>Cbo 213 #[ZS c,(vi (b.size:Int))] F λd F=>R (.bool d) F) (R (.bool ZQ) F)
theorem Uk {a:Sl} {b:ο} (h:N9 a b R F):ν 199 #[ZS a,.string b] F R:=Rx.Λ .N h
def j7 (d:Int) (e:Nat) (a:Int) (R:VR) (F:PH):Prop:=Bc (a<1) (Bc (a<2) (R (.bool ZT) F) (Li F (Am e 4) λf=>Bc (0<=f) (Li F (Am e 4) λg=>R (.bool (decide (g<d))) F) (R (.bool ZQ) F))) (Li F (Am e 3) λh=>Bc (0<=h) (Li F (Am e 3) λi=>Bc (i<d) (Bc (a<2) (R (.bool ZT) F) (Li F (Am e 4) λb=>Bc (0<=b) (Li F (Am e 4) λc=>R (.bool (decide (c<d))) F) (R (.bool ZQ) F))) (R (.bool ZQ) F)) (R (.bool ZQ) F))
def qr (b:Int) (d:Nat) (a:Int) (R:VR) (F:PH):Prop:=Bc (a<1) (Li F (Am d 3) λe=>Bc (e≠0) (R (.bool ZQ) F) (Bc (a<2) (Li F (Am d 4) λf=>Bc (f≠0) (R (.bool ZQ) F) (j7 b d a R F)) (j7 b d a R F))) (Bc (a<2) (Li F (Am d 4) λc=>Bc (c≠0) (R (.bool ZQ) F) (j7 b d a R F)) (j7 b d a R F))
def Oa (s:Sl) (d:Int) (R:VR) (F:PH):Prop:=Ix s d λi=>Lr F 5 (ZW i (ZY d*5)) λj=>Nb F (ZP (#[vi 0,vi 0,vi 0,vi 0,vi 0]) 149) λa F=>aw F (Am a 0) 5 j λF=>Li F (Am a 0) λk=>ν 212 #[(vi k)] F λv F=>∃c,∃b,v=(.tuple #[(vi c),.bool b])/\Bb ((!b)) (R (.bool ZQ) F) (Li F (Am a 0) λl=>Bc (l≠1) (Li F (Am a 1) λm=>Bc (m≠0) (R (.bool ZQ) F) (Li F (Am a 2) λn=>Bc (n≠0) (R (.bool ZQ) F) (Li F (Am a 1) λo=>Bc (o<0) (R (.bool ZQ) F) (Li F (Am a 1) λp=>Li F (Am a 2) λq=>Bc (q<p) (R (.bool ZQ) F) (Li F (Am a 2) λr=>Bc (255<r) (R (.bool ZQ) F) (qr d a c R F)))))) (Li F (Am a 1) λe=>Bc (e<0) (R (.bool ZQ) F) (Li F (Am a 1) λf=>Li F (Am a 2) λg=>Bc (g<f) (R (.bool ZQ) F) (Li F (Am a 2) λh=>Bc (255<h) (R (.bool ZQ) F) (qr d a c R F)))))
theorem Ul {a:Sl} {b:Int} (h:Oa a b R F):ν 211 #[ZS a,(vi b)] F R:=Rx.Λ (.ZN (.ZN (.ZN (.J ZQ [] .N (.J ZQ [] .N .N))))) h
def qt (a:Int) (b:Bool) (R:VR) (F:PH):Prop:=Bb (b) (R (.tuple #[(vi 0),.bool ZT]) F) (Bc (a=4) (R (.tuple #[(vi 1),.bool ZT]) F) (Bc (a=2) (Bc (a=2) (R (.tuple #[(vi 2),.bool ZT]) F) (R (.tuple #[(vi 0),.bool ZQ]) F)) (Bc (a=3) (R (.tuple #[(vi 2),.bool ZT]) F) (R (.tuple #[(vi 0),.bool ZQ]) F))))
def Ob (a:Int) (R:VR) (F:PH):Prop:=Bc (a=0) (qt a (decide (a=0)) R F) (qt a (decide (a=1)) R F)
theorem Um {a:Int} (h:Ob a R F):ν 212 #[(vi a)] F R:=Rx.Λ (.ZN (.T (.ZN (.J ZQ [(5,.bool)] .N .N)) .N)) h
def Dm (R:VR) (F:PH):Prop:=R (.bool ZQ) F
def Dn (f:Ω) (b:Sl) (e:Int) (R:VR) (a:Int) (F:PH):Prop:=Bc (a<(b.len:Int)) (Ix b a λc=>Li F (ZW c (ZY a*1)) λd=>Bc (d=e) (R (.bool ZT) F) (f (i64.wrap (a+1)) F)) (Dm R F)
def Oc (a:Sl) (b:Int) (R:VR) (F:PH):Prop:=Lp 0 F λN c F=>Dn N a b R c F
theorem Un {a:Sl} {b:Int} (h:Oc a b R F):ν 213 #[ZS a,(vi b)] F R:=Rx.Λ (.ZN (.J ZQ [] (.ZN (.L [(5,.int .i64)] .N)) .N)) h
def Do (a:Sl) (R:VR) (F:PH):Prop:=R (ZS a) F
def Dp (h:Sl->Ω) (f:Sl) (g:ο) (i:Nat) (R:VR) (a:Sl) (e:Int) (F:PH):Prop:=Bc (e<(a.len:Int)) (Li F (Am i 3) λb=>Cs 214 #[ZS f,(vi b),.string g,ZS a] F λc F=>Cs 217 #[ZS a,ZS c] F λd F=>h d (a.len:Int) F) (Do a R F)
def Dq (e:Sl) (f:ο) (b:Sl) (h:Nat) (R:VR) (F:PH):Prop:=(∃(g:Nat->Sl->Ω) (d:Nat),g d b (-1:Int) F/\∀d a c F,g d a c F-> Dp (nx2 g d) e f h R a c F)
def Dr (a:Sl) (R:VR) (F:PH):Prop:=R (ZS a) F
def qv (d:Sl->Ω) (_:ο) (_:Sl) (_:Nat) (b:Int) (a:Sl) (_:VR) (F:PH):Prop:=d a (i64.wrap (b+1)) F
def mI (j:Sl->Ω) (d:ο) (b:Sl) (k:Nat) (a:Sl) (c:Int) (e:Bool) (R:VR) (F:PH):Prop:=Bb (e) (Ix b c λf=>Li F (ZW f (ZY c*1)) λg=>Nb F (ZP #[(vi (i64.wrap (g+1)))] 3) λi F=>Ap 67 #[ZS a,ZS (Sb i 1)] F λh F=>qv j d b k c h R F) (qv j d b k c a R F)
def wR (p:Sl->Ω) (d:ο) (a:Sl) (i:Nat) (R:VR) (b:Sl) (c:Int) (F:PH):Prop:=Bc (c<(a.len:Int)) (Ix a c λj=>Li F (ZW j (ZY c*1)) λk=>Bc (k<(d.size:Int)) (Ix a c λl=>Li F (ZW l (ZY c*1)) λe=>0<=e/\e<(d.size:Int)/\∃(hx:ZY e<d.size) (g:Int),g=((d[ZY e]'hx).toNat:Int)/\Li F (Am i 1) λm=>Bc (m<=(i64.wrap g)) (Ix a c λn=>Li F (ZW n (ZY c*1)) λf=>0<=f/\f<(d.size:Int)/\∃(hx:ZY f<d.size) (h:Int),h=((d[ZY f]'hx).toNat:Int)/\Li F (Am i 2) λo=>mI p d a i b c (decide ((i64.wrap h)<=o)) R F) (mI p d a i b c ZQ R F)) (mI p d a i b c ZQ R F)) (Dr b R F)
def uM (d:Sl) (j:Int) (e:ο) (a:Sl) (R:VR) (F:PH):Prop:=Ix d j λk=>Lr F 5 (ZW k (ZY j*5)) λl=>Nb F (ZP (#[vi 0,vi 0,vi 0,vi 0,vi 0]) 149) λf F=>aw F (Am f 0) 5 l λF=>Nb F (ZP #[] 3) λu F=>Li F (Am f 0) λc=>Bc (c=0) (R (ZS a) F) (Bc (c=1) ((∃(v:Nat->Sl->Ω) (t:Nat),v t (Sb u 0) 0 F/\∀t b g F,v t b g F-> wR (nx2 v t) e a f R b g F)) (Bc (c=2) (Li F (Am f 4) λh=>Li F (Am f 3) λm=>Cs 214 #[ZS d,(vi m),.string e,ZS a] F λn F=>F.cell (Am f 4)=ZO (vi h)/\Cs 214 #[ZS d,(vi h),.string e,ZS n] F λo F=>R (ZS o) F) (Bc (c=3) (Li F (Am f 3) λp=>Li F (Am f 4) λi=>Cs 214 #[ZS d,(vi p),.string e,ZS a] F λq F=>F.cell (Am f 4)=ZO (vi i)/\Cs 214 #[ZS d,(vi i),.string e,ZS a] F λr F=>Cs 217 #[ZS q,ZS r] F λs F=>R (ZS s) F) (Dq d e a f R F))))
theorem yF {b:Sl} {c:Int} {d:ο} {a:Sl} (h:uM b c d a R F):ν 214 #[ZS b,(vi c),.string d,ZS a] F R:=Rx.Λ (.ZN (.ZN (.ZN (.J ZQ [] (.ZN (.ZN (.ZN (.ZN (.T (.J ZQ [(10,.sl)] (.ZN (.L [(10,.sl),(11,.int .i64)] (.ZN (.J ZQ [(10,.sl)] (.J ZQ [(61,.bool)] .N .N) .N)))) .N) .N))))) (.ZN (.ZN (.J ZQ [(10,.sl)] (.L [(10,.sl),(12,.int .i64)] .N) .N))))))) h
def Ds (a:Sl) (R:VR) (F:PH):Prop:=R (ZS a) F
def qw (d:Sl->Ω) (_:Sl) (b:Int) (a:Sl) (_:VR) (F:PH):Prop:=d a (i64.wrap (b+1)) F
def Dt (k:Sl->Ω) (b:Sl) (R:VR) (a:Sl) (c:Int) (F:PH):Prop:=Bc (c<(b.len:Int)) (Ix b c λd=>Li F (ZW d (ZY c*1)) λe=>Cbo 213 #[ZS a,(vi e)] F λf F=>Bb ((!f)) (Ix b c λg=>Li F (ZW g (ZY c*1)) λh=>Nb F (ZP #[(vi h)] 3) λj F=>Ap 67 #[ZS a,ZS (Sb j 1)] F λi F=>qw k b c i R F) (qw k b c a R F)) (Ds a R F)
def Od (e b:Sl) (R:VR) (F:PH):Prop:=Nb F (ZP #[] 3) λh F=>Ap 67 #[ZS (Sb h 0),ZS e] F λf F=>(∃(g:Nat->Sl->Ω) (d:Nat),g d f 0 F/\∀d a c F,g d a c F-> Dt (nx2 g d) b R a c F)
theorem Uo {b:Sl} {a:Sl} (h:Od b a R F):ν 217 #[ZS b,ZS a] F R:=Rx.Λ (.ZN (.ZN (.J ZQ [(5,.sl)] (.ZN (.L [(5,.sl),(6,.int .i64)] (.ZN (.J ZQ [(5,.sl)] .N .N)))) .N))) h
section
variable {F:PH}
theorem rdn {s:Sl} {l:List Nd} (h:RdS F s 5 (d7 l)) {i:Nat} {x:Nd} (hx:l[i]? =ZO x):∃a,s.ZK=ZO a/\F.row (a.add (i*5)) x.arr:=by
 obtain ⟨hi,hx⟩:=XN.1 hx;subst hx;have hlen:=h.nlen;obtain ⟨b,o,hb,_⟩:=h.cells (by omega)
 exact ⟨_,hb,h.row hb (i*5) l[i].arr (by
  have:=uI l i hi
  simpa [Nd.arr,Nd.cells] using this.symm)⟩
def mJ (k:Int):Int:=if k=4 then 1 else if k=2\/k=3 then 2 else 0
def eQ (k:Int):Bool:=decide (0<=k/\k<=4)
theorem kK (F:PH) (k:Int):ν 212 #[vi k] F λr F'=>r=.tuple #[vi (mJ k),.bool (eQ k)]/\F'=F:=by
 refine Um ?_;unfold Ob;have j1:∀t:Bool,t=decide (k=0\/k=1)->qt k t (λr F'=>r=.tuple #[vi (mJ k),.bool (eQ k)]/\F'=F) F:=λt ht=>by
  unfold qt;refine ⟨λh=>⟨?_,rfl⟩,λh=> ?_⟩
  ·have:=ε (ht.symm.trans h);have e1:mJ k=0:=by unfold mJ;rw [Υ (by omega),Υ (by omega)]
   have e2:eQ k=ZT:=by unfold eQ;simp;omega
   rw [e1,e2]
  ·have h01:=η (ht.symm.trans h);refine ⟨λh4=>⟨?_,rfl⟩,λh4=>⟨λh2=>⟨λ_=>⟨?_,rfl⟩,λh=>absurd h2 h⟩,λh2=>⟨λh3=>⟨?_,rfl⟩,λh3=>⟨?_,rfl⟩⟩⟩⟩
   ·have e1:mJ k=1:=by unfold mJ;rw [Χ (by omega)]
    have e2:eQ k=ZT:=by unfold eQ;simp;omega
    rw [e1,e2]
   ·have e1:mJ k=2:=by unfold mJ;rw [Υ (by omega),Χ (by omega)]
    have e2:eQ k=ZT:=by unfold eQ;simp;omega
    rw [e1,e2]
   ·have e1:mJ k=2:=by unfold mJ;rw [Υ (by omega),Χ (by omega)]
    have e2:eQ k=ZT:=by unfold eQ;simp;omega
    rw [e1,e2]
   ·have e1:mJ k=0:=by unfold mJ;rw [Υ (by omega),Υ (by omega)]
    have e2:eQ k=ZQ:=by unfold eQ;simp;omega
    rw [e1,e2]
 refine ⟨λh=>j1 _ ?_,λh=>j1 _ ?_⟩
 ·rw [XV];simp;omega
 ·rw [XV];simp;omega
end
def ar (k:Int):Int:=if k=4 then 1 else if k=2\/k=3 then 2 else if k=0\/k=1 then 0 else -1
def okN (i:Nat) (x:Nd):Prop:=0<=ar x.k/\(x.k=1->0<=x.lo/\x.lo<=x.hi/\x.hi<=255)/\(x.k≠1->x.lo=0/\x.hi=0)/\(ar x.k<1->x.a=0)/\(ar x.k<2->x.b=0)/\
 (1<=ar x.k->0<=x.a/\x.a<i)/\(2<=ar x.k->0<=x.b/\x.b<i)
def us (x:Nd):Φ:=if 2<=ar x.k then [x.b,x.a] else if 1<=ar x.k then [x.a] else []
def usL:List Nd->Φ
 |[]=>[]
 |x::l=>usL l++us x
theorem jF (l:List Nd) (x:Nd):usL (l++[x])=us x++usL l:=by
 induction l with
 |nil=>simp [usL]
 |cons y l ih=>simp [usL,ih]
structure GoodL (l:List Nd):Prop where
 ne:l≠[]
 ok:∀i x,l[i]? =ZO x->okN i x
 nd:(usL l).Nodup
 all:∀i:Nat,i+1<l.length->(i:Int)∈usL l
open Classical in
def fL (l:List Nd):Int:=if 512<l.length then 2 else if GoodL l then 0 else 40
section
variable {F0 F:PH}
theorem AK (k:Int):ν 183 #[vi k] F λr F'=>r=vi (ar k)/\F'=F:=by
 refine T6 ?_;unfold NO;have j1:∀t:Bool,t=decide (k=0\/k=1)->qh k t (λr F'=>r=vi (ar k)/\F'=F) F:=λt ht=>by
  unfold qh;refine ⟨λh=>⟨?_,rfl⟩,λh=> ?_⟩
  ·have:=ε (ht.symm.trans h);have e1:ar k=0:=by unfold ar;rw [Υ (by omega),Υ (by omega),Χ (by omega)]
   rw [e1]
  ·have h01:=η (ht.symm.trans h);refine ⟨λh4=>⟨?_,rfl⟩,λh4=>⟨λh2=>⟨λ_=>⟨?_,rfl⟩,λh=>absurd h2 h⟩,λh2=>⟨λh3=>⟨?_,rfl⟩,λh3=>⟨?_,rfl⟩⟩⟩⟩
   ·have e1:ar k=1:=by unfold ar;rw [Χ (by omega)]
    rw [e1]
   ·have e1:ar k=2:=by unfold ar;rw [Υ (by omega),Χ (by omega)]
    rw [e1]
   ·have e1:ar k=2:=by unfold ar;rw [Υ (by omega),Χ (by omega)]
    rw [e1]
   ·have e1:ar k= -1:=by unfold ar;rw [Υ (by omega),Υ (by omega),Υ (by omega)]
    rw [e1]
 refine ⟨λh=>j1 _ ?_,λh=>j1 _ ?_⟩
 ·rw [XV];simp;omega
 ·rw [XV];simp;omega
def io (n:Nat) (W:Φ):Ξ:=(List.range n).map λ(i:Nat)=>Value.bool (decide ((i:Int)∈W))
structure Usd (F0 F:PH) (b u n:Nat) (W:Φ):Prop where
 zb:F0 b=ZR
 zu:F0 u=ZR
 le:F0.le F
 ne:u≠b
 qb:F b=ZO (ZP #[ZS ⟨ZO ⟨u,0,ZR⟩,n,n⟩] 211)
 qu:F u=ZO (ZP (io n W).toArray 4)
theorem EO (n:Nat) (W:Φ) (i:Nat) (hi:i<n):(io n W).toArray.setIfInBounds i (.bool ZT)=(io n ((i:Int)::W)).toArray:=by
 apply Array.ext';rw [Array.toList_setIfInBounds];apply Yx;intro j;rw [Ze];simp only [io,XW,Yq,X2];by_cases h:i=j
 ·subst h;rw [Χ rfl,Χ hi,Yo hi];simp
 ·rw [Υ h];by_cases hj:j<n
  ·rw [Yo hj];simp only [YD,XP];congr 2;rw [XV];simp only [δ];constructor
   ·exact .inr
   ·rintro (e|e)
    ·omega
    ·exact e
  ·rw [Yi (by simp;omega)];rfl
theorem uN {n:Nat} {W:Φ} {i:Nat} (hi:i<n):(io n W).toArray[i]? =ZO (.bool (decide ((i:Int)∈W))):=by simp [io,hi]
theorem sS {b u n:Nat} {W:Φ} (h:Usd F0 F b u n W) (i:Int) {at_:Nat} (ha:at_<=n):
  ν 182 #[vi i,vi at_,pa b] F λr F'=>((0<=i/\i<at_/\i ∉ W)/\r=.bool ZT/\Usd F0 F' b u n (i::W)/\∀x,x≠u->F' x=F x)\/(¬(0<=i/\i<at_/\i ∉ W)/\r=.bool ZQ/\F'=F):=by
 refine T5 ?_;unfold NN;refine ⟨λh0=> .inr ⟨by omega,rfl,rfl⟩,λh0=>⟨λh1=> .inr ⟨by omega,rfl,rfl⟩,λh1=> ?_⟩⟩;obtain ⟨k,rfl⟩:=YH (by omega:0<=i);have hk:k<n:=by omega
 have hr:F.cell ((ZX u 0 ZR).add (ZY (k:Int)*1))=ZO (.bool (decide ((k:Int)∈W))):=by rw [N5,Yj,show (ZX u 0 ZR).add k=⟨u,k,ZR⟩ by simp [ZW];omega,av h.qu];exact uN hk
 have hc:F.cell ⟨b,0,ZR⟩=ZO (ZS ⟨ZO ⟨u,0,ZR⟩,n,n⟩):=by rw [av h.qb];rfl
 refine ⟨_,rfl,_,hc,_,rfl,by omega,by simp only;omega,_,hr,λhm=> .inr ⟨λhn=>hn.2.2 (ε hm),rfl,rfl⟩,λhm=>⟨_,hc,_,rfl,by omega,by simp only;omega,?_⟩⟩;have hm:=η hm;refine tf (b:=u) (o:=k) (by rw [N5,Yj];simp [ZW];omega) h.qu (by simp [io];exact hk) ?_;refine .inl ⟨⟨by omega,by omega,hm⟩,rfl,⟨h.zb,h.zu,aA h.le h.zu,h.ne,?_,?_⟩,λx hx=>aB _ _ hx⟩
 ·rw [aB _ _ h.ne.symm];exact h.qb
 ·show (F.set u (ZP ((io n W).toArray.setIfInBounds k (.bool ZT)) 4)) u=_;rw [EO n W k hk];exact au _ _ _
theorem HD {s:Sl} {b u n b6 j:Nat} {W:Φ} {x:Nd} {ok:Bool} {N:Ω} {R:ξ->Ψ} (h:Usd F0 F b u n W) (q6:F b6=ZO (ZP x.arr 149)) (hj:j<=n) (hu:u≠b6)
  (bad:¬(ok=ZT/\(ar x.k<1->x.a=0)/\(ar x.k<2->x.b=0)/\(1<=ar x.k->0<=x.a/\x.a<j/\x.a ∉ W)/\(2<=ar x.k->0<=x.b/\x.b<j/\x.b ∉ x.a::W))->∀F',F0.le F'->R (vi 40) F')
  (good:(ok=ZT/\(ar x.k<1->x.a=0)/\(ar x.k<2->x.b=0)/\(1<=ar x.k->0<=x.a/\x.a<j/\x.a ∉ W)/\(2<=ar x.k->0<=x.b/\x.b<j/\x.b ∉ x.a::W))->∀F',Usd F0 F' b u n (us x++W)->N (i64.wrap ((j:Int)+1)) F'):
  f7 N s b j b6 (ar x.k) ok R F:=by
 have cA:∀{F':PH},F' b6=ZO (ZP x.arr 149)->F'.cell (ZX b6 3 ZR)=ZO (vi x.a):=λh=>by rw [av h];rfl
 have cB:∀{F':PH},F' b6=ZO (ZP x.arr 149)->F'.cell (ZX b6 4 ZR)=ZO (vi x.b):=λh=>by rw [av h];rfl
 unfold f7;refine ⟨λhk=>bad (λhg=>by rw [hg.1] at hk;cases hk) _ h.le,λhk=> ?_⟩;have hok:ok=ZT:=by simpa using hk
 refine ⟨λh1=>⟨_,cA q6,λha=>bad (λhg=>ha (hg.2.1 h1)) _ h.le,λha=>⟨λh2=>⟨_,cB q6,λhb=>bad (λhg=>hb (hg.2.2.1 h2)) _ h.le,λhb=>⟨λh3=>absurd h3 (by omega),λh3=>⟨λh4=>absurd h4 (by omega),λh4=> ?_⟩⟩⟩,λh2=>absurd h2 (by omega)⟩⟩,
  λh1=>⟨λh2=>⟨_,cB q6,λhb=>bad (λhg=>hb (hg.2.2.1 h2)) _ h.le,λhb=>⟨λh3=>⟨_,cA q6,?_⟩,λh3=>absurd h3 (by omega)⟩⟩,λh2=>⟨λh3=>⟨_,cA q6,?_⟩,λh3=>absurd h3 (by omega)⟩⟩⟩
 ·unfold cj;refine good ⟨hok,λ_=>by omega,λ_=>by omega,λh=>by omega,λh=>by omega⟩ _ ?_;have:us x=[]:=by unfold us;rw [Υ h4,Υ h3]
  rw [this];exact h
 ·refine (sS h x.a hj).mono ?_;rintro _ F2 (⟨hg,rfl,h2',hk2⟩|⟨hg,rfl,rfl⟩)
  ·refine ⟨_,rfl,λh=>by simp at h,λ_=>⟨λh4=>absurd h4 (by omega),λh4=> ?_⟩⟩;unfold cj;refine good ⟨hok,λ_=>by omega,λ_=>by omega,λ_=>hg,λh=>by omega⟩ _ ?_;have:us x=[x.a]:=by unfold us;rw [Υ h4,Χ h3]
   rw [this];exact h2'
  ·exact ⟨_,rfl,λ_=>bad (λhg2=>hg (hg2.2.2.2.1 h3)) _ h.le,λh=>by simp at h⟩
 ·refine (sS h x.a hj).mono ?_;rintro _ F2 (⟨hg,rfl,h2',hk2⟩|⟨hg,rfl,rfl⟩)
  ·have q6':F2 b6=ZO (ZP x.arr 149):=(hk2 _ hu.symm).trans q6;refine ⟨_,rfl,λh=>by simp at h,λ_=>⟨λh4=>⟨_,cB q6',?_⟩,λh4=>absurd h4 (by omega)⟩⟩;refine (sS h2' x.b hj).mono ?_;rintro _ F3 (⟨hg3,rfl,h3',hk3⟩|⟨hg3,rfl,rfl⟩)
   ·refine ⟨_,rfl,λh=>by simp at h,λ_=> ?_⟩;unfold cj;refine good ⟨hok,λ_=>by omega,λ_=>by omega,λ_=>hg,λ_=>hg3⟩ _ ?_;have:us x=[x.b,x.a]:=by unfold us;rw [Χ h4]
    rw [this];exact h3'
   ·exact ⟨_,rfl,λ_=>bad (λhg2=>hg3 (hg2.2.2.2.2 h4)) _ h2'.le,λh=>by simp at h⟩
  ·exact ⟨_,rfl,λ_=>bad (λhg2=>hg (hg2.2.2.2.1 h3)) _ h.le,λh=>by simp at h⟩
end
theorem Uq:tsz prog 4=ZO (1,1):=by kernel_rfl
theorem Ur:bP prog 4=ZO (.bool ZQ):=by kernel_rfl
structure GoodTo (l:List Nd) (j:Nat):Prop where
 ok:∀i x,i<j->l[i]? =ZO x->okN i x
 nd:(usL (l.take j)).Nodup
theorem GoodTo.zero (l:List Nd):GoodTo l 0:=⟨λi x h=>by omega,by simp [usL]⟩
theorem yG {j:Nat} {x:Nd} {W:Φ}:(okN j x/\(us x++W).Nodup)↔W.Nodup/\(0<=ar x.k/\(x.k=1->0<=x.lo/\x.lo<=x.hi/\x.hi<=255)/\(x.k≠1->x.lo=0/\x.hi=0))/\
  (ar x.k<1->x.a=0)/\(ar x.k<2->x.b=0)/\(1<=ar x.k->0<=x.a/\x.a<j/\x.a ∉ W)/\(2<=ar x.k->0<=x.b/\x.b<j/\x.b ∉ x.a::W):=by
 unfold okN us;by_cases h2:2<=ar x.k
 ·rw [Χ h2];simp only [YA,Yu,YL,XP,not_or];constructor
  ·rintro ⟨⟨a1,a2,a3,a4,a5,a6,a7⟩,⟨n1,n2⟩,n3,n4⟩;exact ⟨n4,⟨a1,a2,a3⟩,a4,a5,λh=>⟨(a6 h).1,(a6 h).2,n3⟩,λh=>⟨(a7 h).1,(a7 h).2,n1,n2⟩⟩
  ·rintro ⟨n4,⟨a1,a2,a3⟩,a4,a5,a6,a7⟩;exact ⟨⟨a1,a2,a3,a4,a5,λh=>⟨(a6 h).1,(a6 h).2.1⟩,λh=>⟨(a7 h).1,(a7 h).2.1⟩⟩,⟨(a7 h2).2.2.1,(a7 h2).2.2.2⟩,(a6 (by omega)).2.2,n4⟩
 ·rw [Υ h2];by_cases h1:1<=ar x.k
  ·rw [Χ h1];simp only [YA,Yu,YL];constructor
   ·rintro ⟨⟨a1,a2,a3,a4,a5,a6,a7⟩,n3,n4⟩;exact ⟨n4,⟨a1,a2,a3⟩,a4,a5,λh=>⟨(a6 h).1,(a6 h).2,n3⟩,λh=>absurd h h2⟩
   ·rintro ⟨n4,⟨a1,a2,a3⟩,a4,a5,a6,a7⟩;exact ⟨⟨a1,a2,a3,a4,a5,λh=>⟨(a6 h).1,(a6 h).2.1⟩,λh=>absurd h h2⟩,(a6 h1).2.2,n4⟩
  ·rw [Υ h1];simp only [Yu];constructor
   ·rintro ⟨⟨a1,a2,a3,a4,a5,a6,a7⟩,n4⟩;exact ⟨n4,⟨a1,a2,a3⟩,a4,a5,λh=>absurd h h1,λh=>absurd h h2⟩
   ·rintro ⟨n4,⟨a1,a2,a3⟩,a4,a5,a6,a7⟩;exact ⟨⟨a1,a2,a3,a4,a5,λh=>absurd h h1,λh=>absurd h h2⟩,n4⟩
theorem GoodTo.succ {l:List Nd} {j:Nat} {x:Nd} (hx:l[j]? =ZO x):GoodTo l (j+1)↔GoodTo l j/\okN j x/\(us x++usL (l.take j)).Nodup:=by
 have e:l.take (j+1)=l.take j++[x]:=by rw [Yy,hx];rfl
 constructor
 ·rintro ⟨h1,h2⟩;rw [e,jF] at h2;exact ⟨⟨λi y hi hy=>h1 i y (by omega) hy,(Ye.1 h2).2.1⟩,h1 j x (by omega) hx,h2⟩
 ·rintro ⟨⟨h1,h2⟩,h3,h4⟩;refine ⟨λi y hi hy=> ?_,by rw [e,jF];exact h4⟩;by_cases hij:i=j
  ·subst hij;rw [hx] at hy;cases hy;exact h3
  ·exact h1 i y (by omega) hy
theorem GoodL_iff (l:List Nd):GoodL l↔GoodTo l l.length/\(∀i:Nat,i+1<l.length->(i:Int)∈usL l)/\l≠[]:=by
 constructor
 ·rintro ⟨h1,h2,h3,h4⟩;exact ⟨⟨λi x _ hx=>h2 i x hx,by rw [XZ];exact h3⟩,h4,h1⟩
 ·rintro ⟨⟨h2,h3⟩,h4,h1⟩;rw [XZ] at h3;exact ⟨h1,λi x hx=>h2 i x (by have:=(XN.1 hx).1;omega) hx,h3,h4⟩
theorem yH {l:List Nd} (hl:l.length<=512) (h:¬GoodL l):fL l=40:=by unfold fL;rw [Υ (by omega),Υ h]
theorem uO {l:List Nd} (hl:l.length<=512) (h:GoodL l):fL l=0:=by unfold fL;rw [Υ (by omega),Χ h]
section
variable {F:PH}
theorem oP {s:Sl} {l:List Nd} (hs:RdS F s 5 (d7 l)):ν 144 #[s.v] F λr F'=>r=vi (fL l)/\F.le F':=by
 have hlen:=hs.nlen;refine T3 ?_;unfold NL;refine ⟨λh=>⟨?_,al F⟩,λh=> ?_⟩
 ·have e:fL l=2:=by unfold fL;rw [Χ (by omega)]
  rw [e]
 have hl:l.length<=512:=by omega
 refine bW underlying211 Uq Ur rfl (by omega) (Zv _) (by omega) (by omega) ?_;intro u hu;rw [zc1 _ rfl,N5,hlen];have em:(List.replicate l.length (Value.bool ZQ)).toArray=(io l.length []).toArray:=by
  congr 1;apply Yx;intro j;by_cases hj:j<l.length
  ·simp [io,hj]
  ·rw [Yi (by simp;omega),Yi (by simp [io];omega)]
 rw [em];refine ⟨_,rfl,λb3 hb3=> ?_⟩;refine atI ?_;have hne:u≠b3:=λe=>by rw [e,au] at hb3;cases hb3
 have hb3F:F b3=ZR:=by rwa [aB _ _ hne.symm] at hb3
 refine st1 (au _ _ _) (by simp) ?_;rw [aW];have hU:Usd F ((F.set u (ZP (io l.length []).toArray 4)).set b3 (ZP #[ZS ⟨ZO ⟨u,0,ZR⟩,l.length,l.length⟩] 211)) b3 u l.length []:=
  ⟨hb3F,hu,aA (ae _ hu) hb3F,hne,au _ _ _,by rw [aB _ _ hne];exact au _ _ _⟩
 show ∃(I2:Nat->Ω) (m2:Nat),_;have e0:(#[Value.slice ZR 0 0]:Γ).setIfInBounds 0 (ZS ⟨ZO ⟨u,0,ZR⟩,l.length,l.length⟩)= #[ZS ⟨ZO ⟨u,0,ZR⟩,l.length,l.length⟩]:=rfl;rw [e0];generalize (F.set u (ZP (io l.length []).toArray 4)).set b3 (ZP #[ZS ⟨ZO ⟨u,0,ZR⟩,l.length,l.length⟩] 211)=F1 at*;have bad:∀{F':PH},¬GoodL l->F.le F'->vi 40=vi (fL l)/\F.le F':=λh hl'=>⟨by rw [yH hl h],hl'⟩;refine ⟨λm i F'=>∃j:Nat,i=j/\j<=l.length/\m=l.length - j/\GoodTo l j/\Usd F F' b3 u l.length (usL (l.take j)),l.length,⟨0,rfl,by omega,rfl,GoodTo.zero l,by simpa [usL] using hU⟩,?_⟩;rintro _ _ F2 ⟨j,rfl,hj,rfl,hg,hW⟩;unfold C9;refine ⟨λhlt=> ?_,λhge=> ?_⟩
 ·have hjl:j<l.length:=by omega
  have hx:l[j]? =ZO l[j]:=N6 hjl;generalize l[j]=x at hx;obtain ⟨a,ha,hrow⟩:=rdn (hs.le hW.le) hx;refine ⟨a,ha,by omega,by omega,x.arr,rfl,hrow,λb6 hb6=> ?_⟩;refine atI ?_;refine stW (au _ _ _) rfl rfl (gI x) ?_;rw [aW];have hub:u≠b6:=aI hb6 hW.qu;have hW6:Usd F (F2.set b6 (ZP x.arr 149)) b3 u l.length (usL (l.take j)):=⟨hW.zb,hW.zu,aA hW.le (aV hW.le hb6),hW.ne,by rw [aB _ _ (aI hb6 hW.qb)];exact hW.qb,by rw [aB _ _ hub];exact hW.qu⟩;have q6:=au F2 b6 (ZP x.arr 149);generalize F2.set b6 (ZP x.arr 149)=F3 at*;have j4:∀ok:Bool,(ok=ZT↔(0<=ar x.k/\(x.k=1->0<=x.lo/\x.lo<=x.hi/\x.hi<=255)/\(x.k≠1->x.lo=0/\x.hi=0)))->
    f7 (λy2_0 F=>∃m',m'<l.length - j/\∃j:Nat,y2_0=j/\j<=l.length/\m'=l.length - j/\GoodTo l j/\Usd _ F b3 u l.length (usL (l.take j))) s b3 j b6 (ar x.k) ok (λr F'=>r=vi (fL l)/\PH.le _ F') F3:=λok hok=>by
   refine HD hW6 q6 (by omega) hub (λhn F' hl'=>bad (λhG=>hn ?_) hl') λhy F' hU'=> ?_
   ·obtain ⟨hgt,_,_⟩:=(GoodL_iff l).1 hG
    have h1:GoodTo l (j+1):=⟨λi y hi hy=>hgt.ok i y (by omega) hy,by
     have:=hgt.nd;rw [XZ] at this;have e:usL l=usL (l.drop (j+1))++usL (l.take (j+1))\/True:=.inr trivial;have hsub:∀(p q:List Nd),usL (p++q)=usL q++usL p:=by
      intro p q;induction p with
      |nil=>simp [usL]
      |cons y p ih=>simp [usL,ih]
     rw [<- Zq (j+1) l,hsub] at this
     exact (Ye.1 this).2.1⟩
    obtain ⟨_,h3⟩:=(GoodTo.succ hx).1 h1;obtain ⟨h4,h5,h6⟩:=yG.1 h3;exact ⟨hok.2 h5,h6⟩
   ·refine ⟨l.length - (j+1),by omega,j+1,fF (by omega),hjl,rfl,?_,?_⟩
    ·exact (GoodTo.succ hx).2 ⟨hg,yG.2 ⟨hg.nd,hok.1 hy.1,hy.2⟩⟩
    ·rw [Yy,hx];show Usd F F' b3 u l.length (usL (l.take j++[x]));rw [jF];exact hU'
  have c0:F3.cell (ZX b6 0 ZR)=ZO (vi x.k):=by rw [av q6];rfl
  have c1:F3.cell (ZX b6 1 ZR)=ZO (vi x.lo):=by rw [av q6];rfl
  have c2:F3.cell (ZX b6 2 ZR)=ZO (vi x.hi):=by rw [av q6];rfl
  have a1:x.k=1->ar x.k=0:=λh=>by unfold ar;rw [Υ (by omega),Υ (by omega),Χ (by omega)]
  refine ⟨_,c0,?_⟩;refine (AK _).mono ?_;rintro _ F3' ⟨rfl,e⟩;obtain rfl:=e.symm;refine ⟨_,rfl,_,c0,λh1=>⟨_,c1,λh2=>⟨_,c1,_,c2,λh3=>⟨_,c2,j4 _ ?_⟩,λh3=>j4 _ ?_⟩,λh2=>j4 _ ?_⟩,λh1=>⟨_,c1,λh2=>j4 _ ?_,λh2=>⟨_,c2,λh3=>j4 _ ?_,λh3=>j4 _ ?_⟩⟩⟩
  ·have:=a1 h1;rw [δ];exact ⟨λh=>⟨by omega,λ_=>⟨h2,h3,h⟩,λh=>absurd h1 h⟩,λh=>(h.2.1 h1).2.2⟩
  ·exact ⟨λh=>(by cases h),λh=>absurd (h.2.1 h1).2.1 h3⟩
  ·exact ⟨λh=>(by cases h),λh=>absurd (h.2.1 h1).1 h2⟩
  ·exact ⟨λh=>(by cases h),λh=>absurd (h.2.2 h1).1 h2⟩
  ·exact ⟨λh=>(by cases h),λh=>absurd (h.2.2 h1).2 h3⟩
  ·rw [δ];exact ⟨λh=>⟨h,λh=>absurd h h1,λ_=>⟨by omega,by omega⟩⟩,λh=>h.1⟩
 ·obtain rfl:j=l.length:=by omega
  rw [XZ] at hW;unfold C8;have ew:i64.wrap ((s.len:Int) - 1)=(l.length:Int) - 1:=by rw [hlen,aR (by omega)]
  refine ⟨λm i F'=>∃j:Nat,i=j/\j<=l.length/\m=l.length - j/\F'=F2/\∀i:Nat,i<j->(i:Int)∈usL l,l.length,⟨0,rfl,by omega,rfl,rfl,λi hi=>by omega⟩,?_⟩;rintro _ _ F3 ⟨j,rfl,hj',rfl,e3,hall⟩;obtain rfl:=e3.symm;unfold C7;rw [ew];refine ⟨λhlt=> ?_,λhge=> ?_⟩
  ·have hjl:j<l.length:=by omega
   have hr:F2.cell ((ZX u 0 ZR).add (ZY (j:Int)*1))=ZO (.bool (decide ((j:Int)∈usL l))):=by rw [N5,Yj,show (ZX u 0 ZR).add j=⟨u,j,ZR⟩ by simp [ZW];omega,av hW.qu];exact uN hjl
   refine ⟨_,by rw [av hW.qb];rfl,_,rfl,by omega,by simp only;omega,_,hr,λhm=>bad (λhG=> ?_) hW.le,λhm=>⟨l.length - (j+1),by omega,j+1,fF (by omega),hjl,rfl,rfl,λi hi=> ?_⟩⟩
   ·have:=hG.all j (by omega);simp [this] at hm
   ·by_cases hij:i=j
    ·subst hij;simpa using hm
    ·exact hall i (by omega)
  ·unfold C6;refine ⟨λh0=>bad (λhG=>hG.ne (YG.1 (by omega))) hW.le,λh0=>⟨?_,hW.le⟩⟩;rw [uO hl ((GoodL_iff l).2 ⟨hg,λi hi=>hall i (by omega),λe=>by rw [e] at hlen;simp at hlen;omega⟩)]
end
def Par (l:List Nd) (j k:Nat):Prop:=∃x,l[k]? =ZO x/\(j:Int)∈us x
inductive Up (l:List Nd):Nat->Nat->Prop where
 |refl (j:Nat):Up l j j
 |step {j k m:Nat}:Up l j k->Par l k m->Up l j m
inductive cY (l:List Nd):Nat->Lt->Δ->Prop where
 |emp {i:Nat} {x:Nd}:l[i]? =ZO x->x.k=0->cY l i .emp [i]
 |rng {i lo hi:Nat} {x:Nd}:l[i]? =ZO x->x.k=1->x.lo=lo->x.hi=hi->lo<=hi->hi<=255->cY l i (.rng i lo hi) [i]
 |seq {i a b:Nat} {x:Nd} {t u:Lt} {na nb:Δ}:l[i]? =ZO x->x.k=2->x.a=a->x.b=b->cY l a t na->cY l b u nb->cY l i (.seq t u) (i::na++nb)
 |alt {i a b:Nat} {x:Nd} {t u:Lt} {na nb:Δ}:l[i]? =ZO x->x.k=3->x.a=a->x.b=b->cY l a t na->cY l b u nb->cY l i (.alt t u) (i::na++nb)
 |rep {i a:Nat} {x:Nd} {t:Lt} {na:Δ}:l[i]? =ZO x->x.k=4->x.a=a->cY l a t na->cY l i (.rep t) (i::na)
theorem iO {x:Nd} (h:x.k=2\/x.k=3):us x=[x.b,x.a]:=by
 have:ar x.k=2:=by unfold ar;rw [Υ (by omega),Χ h]
 unfold us;rw [this];rfl
theorem HE {x:Nd} (h:x.k=4):us x=[x.a]:=by
 have:ar x.k=1:=by unfold ar;rw [Χ h]
 unfold us;rw [this];rfl
theorem sT {k:Int} (h:0<=ar k):k=0\/k=1\/k=2\/k=3\/k=4:=by
 unfold ar at h;split at h
 ·omega
 ·split at h
  ·omega
  ·split at h<;>omega
theorem wS {k:Int} (h:k=2\/k=3):ar k=2:=by unfold ar;rw [Υ (by omega),Χ h]
theorem HF {k:Int} (h:k=4):ar k=1:=by unfold ar;rw [Χ h]
theorem Du {k:Int} (h:k=0\/k=1):ar k=0:=by unfold ar;rw [Υ (by omega),Υ (by omega),Χ h]
section
variable {l:List Nd} (hG:GoodL l)
include hG
theorem Dv:∀(n i:Nat),i<n->i<l.length->∃t ns,cY l i t ns:=by
 intro n;induction n with
 |zero=>intro i h;omega
 |succ n ih=>
  intro i hi hl;have hx:=N6 hl;have ho:=hG.ok i _ hx;generalize l[i]=x at hx ho;obtain ⟨h0,h1,h2,h3,h4,h5,h6⟩:=ho;rcases sT h0 with hk|hk|hk|hk|hk
  ·exact ⟨_,_,.emp hx hk⟩
  ·obtain ⟨a,b,c⟩:=h1 hk;exact ⟨_,_,.rng (lo:=x.lo.toNat) (hi:=x.hi.toNat) hx hk (by omega) (by omega) (by omega) (by omega)⟩
  ·have e:=wS (k:=x.k) (.inl hk);obtain ⟨a1,a2⟩:=h5 (by omega);obtain ⟨b1,b2⟩:=h6 (by omega);obtain ⟨t,na,ht⟩:=ih x.a.toNat (by omega) (by omega);obtain ⟨u,nb,hu⟩:=ih x.b.toNat (by omega) (by omega);exact ⟨_,_,.seq hx hk (by omega) (by omega) ht hu⟩
  ·have e:=wS (k:=x.k) (.inr hk);obtain ⟨a1,a2⟩:=h5 (by omega);obtain ⟨b1,b2⟩:=h6 (by omega);obtain ⟨t,na,ht⟩:=ih x.a.toNat (by omega) (by omega);obtain ⟨u,nb,hu⟩:=ih x.b.toNat (by omega) (by omega);exact ⟨_,_,.alt hx hk (by omega) (by omega) ht hu⟩
  ·have e:=HF (k:=x.k) hk;obtain ⟨a1,a2⟩:=h5 (by omega);obtain ⟨t,na,ht⟩:=ih x.a.toNat (by omega) (by omega);exact ⟨_,_,.rep hx hk (by omega) ht⟩
theorem Par.lt {j k:Nat} (h:Par l j k):j<k/\k<l.length:=by
 obtain ⟨x,hx,hm⟩:=h;have hlt:=(XN.1 hx).1;obtain ⟨h0,h1,h2,h3,h4,h5,h6⟩:=hG.ok k x hx;rcases sT h0 with hk|hk|hk|hk|hk
 ·have e:=Du (k:=x.k) (.inl hk);unfold us at hm;rw [e] at hm;simp at hm
 ·have e:=Du (k:=x.k) (.inr hk);unfold us at hm;rw [e] at hm;simp at hm
 ·have e:=wS (k:=x.k) (.inl hk);rw [iO (.inl hk)] at hm;have:=h5 (by omega);have:=h6 (by omega);simp at hm;omega
 ·have e:=wS (k:=x.k) (.inr hk);rw [iO (.inr hk)] at hm;have:=h5 (by omega);have:=h6 (by omega);simp at hm;omega
 ·have e:=HF (k:=x.k) hk;rw [HE hk] at hm;have:=h5 (by omega);simp at hm;omega
omit hG in
theorem wT {j:Int}:∀(l:List Nd) {k:Nat} {x:Nd},l[k]? =ZO x->j∈us x->j∈usL l
 |y::l,0,x,h,hm=>by simp at h;subst h;simp [usL,hm]
 |y::l,k+1,x,h,hm=>by simp at h;simp only [usL,XR];exact .inl (wT l h hm)
omit hG in
theorem yI {j:Int}:∀(l:List Nd),(usL l).Nodup->∀{k m:Nat} {x y:Nd},l[k]? =ZO x->l[m]? =ZO y->j∈us x->j∈us y->k=m
 |z::l,hn,0,0,x,y,h1,h2,h3,h4=>rfl
 |z::l,hn,0,m+1,x,y,h1,h2,h3,h4=>by simp at h1 h2;subst h1;rw [usL] at hn;exact absurd rfl ((Ye.1 hn).2.2 j (wT l h2 h4) j h3)
 |z::l,hn,k+1,0,x,y,h1,h2,h3,h4=>by simp at h1 h2;subst h2;rw [usL] at hn;exact absurd rfl ((Ye.1 hn).2.2 j (wT l h1 h3) j h4)
 |z::l,hn,k+1,m+1,x,y,h1,h2,h3,h4=>by simp at h1 h2;rw [usL] at hn;rw [yI l (Ye.1 hn).1 h1 h2 h3 h4]
theorem Par.uniq {j k m:Nat} (h1:Par l j k) (h2:Par l j m):k=m:=by obtain ⟨x,hx,hm⟩:=h1;obtain ⟨y,hy,hn⟩:=h2;exact yI l hG.nd hx hy hm hn
omit hG in
theorem Up.head {j m:Nat} (h:Up l j m):j=m\/∃k,Par l j k/\Up l k m:=by
 induction h with
 |refl=>exact .inl rfl
 | @step k m h hp ih=>
  rcases ih with rfl|⟨c,h1,h2⟩
  ·exact .inr ⟨m,hp,.refl m⟩
  ·exact .inr ⟨c,h1,h2.step hp⟩
theorem Up.le {j m:Nat} (h:Up l j m):j<=m:=by
 induction h with
 |refl=>exact XS _
 |step _ hp ih=>have:=hp.lt hG;omega
theorem Up.chain {j a b:Nat} (ha:Up l j a) (hb:Up l j b):Up l a b\/Up l b a:=by
 induction ha with
 |refl=>exact .inl hb
 | @step k m h hp ih=>
  rcases ih with h1|h1
  ·rcases h1.head with rfl|⟨c,h2,h3⟩
   ·exact .inr ((Up.refl k).step hp)
   ·rw [h2.uniq hG hp] at h3;exact .inl h3
  ·exact .inr (h1.step hp)
omit hG in
theorem qx {i:Nat} {t:Lt} {ns:Δ} (h:cY l i t ns):∀j∈ns,Up l j i:=by
 induction h with
 | @emp i x hx hk=>intro j hj;simp at hj;subst hj;exact .refl _
 | @rng i lo hi x hx hk _ _ _ _=>intro j hj;simp at hj;subst hj;exact .refl _
 | @seq i a b x t u na nb hx hk ha hb h1 h2 i1 i2=>
  intro j hj;simp only [YA,XP,XR] at hj;rcases hj with rfl|hj|hj
  ·exact .refl _
  ·exact (i1 j hj).step ⟨x,hx,by rw [iO (.inl hk),ha];simp⟩
  ·exact (i2 j hj).step ⟨x,hx,by rw [iO (.inl hk),hb];simp⟩
 | @alt i a b x t u na nb hx hk ha hb h1 h2 i1 i2=>
  intro j hj;simp only [YA,XP,XR] at hj;rcases hj with rfl|hj|hj
  ·exact .refl _
  ·exact (i1 j hj).step ⟨x,hx,by rw [iO (.inr hk),ha];simp⟩
  ·exact (i2 j hj).step ⟨x,hx,by rw [iO (.inr hk),hb];simp⟩
 | @rep i a x t na hx hk ha h1 i1=>
  intro j hj;simp only [XP] at hj;rcases hj with rfl|hj
  ·exact .refl _
  ·exact (i1 j hj).step ⟨x,hx,by rw [HE hk,ha];simp⟩
theorem Us {i a b:Nat} {x:Nd} (hx:l[i]? =ZO x) (hk:x.k=2\/x.k=3) (ha:x.a=a) (hb:x.b=b):a≠b:=by
 intro e;have hn:=hG.nd;have hsub:∀(l:List Nd) (i:Nat),l[i]? =ZO x->(usL l).Nodup->(us x).Nodup:=by
  intro l;induction l with
  |nil=>intro i h;simp at h
  |cons y l ih=>
   intro i h hn;rw [usL] at hn;cases i with
   |zero=>simp at h;subst h;exact (Ye.1 hn).2.1
   |succ i=>simp at h;exact ih i h (Ye.1 hn).1
 have:=hsub l i hx hn;rw [iO hk,ha,hb,e] at this;simp at this
theorem Oe {i a b j:Nat} {x:Nd} (hx:l[i]? =ZO x) (hk:x.k=2\/x.k=3) (ha:x.a=a) (hb:x.b=b) (h1:Up l j a) (h2:Up l j b):False:=by
 have pa:Par l a i:=⟨x,hx,by rw [iO hk,ha];simp⟩;have pb:Par l b i:=⟨x,hx,by rw [iO hk,hb];simp⟩;have hne:=Us hG hx hk ha hb;rcases h1.chain hG h2 with h|h
 ·rcases h.head with e|⟨c,h3,h4⟩
  ·exact hne e
  ·rw [h3.uniq hG pa] at h4;have:=h4.le hG;have:=pb.lt hG;omega
 ·rcases h.head with e|⟨c,h3,h4⟩
  ·exact hne e.symm
  ·rw [h3.uniq hG pb] at h4;have:=h4.le hG;have:=pa.lt hG;omega
end
section
variable {F:PH}
open Classical in
def bU (l:List Nd):Lt:=if h:GoodL l then (Dv h (l.length) (l.length - 1) (by have:=Y2.2 h.ne;omega) (by have:=Y2.2 h.ne;omega)).choose else .emp
theorem iP {l:List Nd} (h:GoodL l):∃ns,cY l (l.length - 1) (bU l) ns:=by unfold bU;rw [dif_pos h];exact (Dv h (l.length) (l.length - 1) (by have:=Y2.2 h.ne;omega) (by have:=Y2.2 h.ne;omega)).choose_spec
theorem uP {l:List Nd} (h:fL l=0):GoodL l/\l.length<=512:=by
 unfold fL at h;split at h
 ·omega
 ·split at h
  ·rename_i hg;exact ⟨hg,by omega⟩
  ·omega
end
structure Lo (G F:PH) (xs:List (Nat×Γ×TypeId)):Prop where
 le:G.le F
 z:∀p∈xs,F p.1=ZO (ZP p.2.1 p.2.2)/\G p.1=ZR
 nd:(xs.map (·.1)).Nodup
theorem Lo.start (F:PH):Lo F F []:=⟨al F,λp hp=>(by cases hp),List.nodup_nil⟩
section
variable {F G:PH} {xs:List (Nat×Γ×TypeId)}
theorem Lo.get (h:Lo G F xs) {b:Nat} {w:Γ} {e:TypeId} (hm:(b,w,e)∈xs):F b=ZO (ZP w e):=(h.z _ hm).1
theorem Lo.row (h:Lo G F xs) {b:Nat} {w:Γ} {e:TypeId} (hm:(b,w,e)∈xs):F.row (ZX b 0 ZR) w:=ac (h.z _ hm).1
theorem Lo.cell (h:Lo G F xs) {b i:Nat} {w:Γ} {e:TypeId} (hm:(b,w,e)∈xs):F.cell (ZX b i ZR)=w[i]? :=av (h.z _ hm).1
theorem Lo.ro (h:Lo G F xs) (i:Nat) {b:Nat} {w:Γ} {e:TypeId} (hi:xs[i]? =ZO (b,w,e)):F.row (ZX b 0 ZR) w:=h.row (XQ hi)
theorem Lo.cl (h:Lo G F xs) (i:Nat) {b k:Nat} {w:Γ} {e:TypeId} {v:ξ} (hi:xs[i]? =ZO (b,w,e)) (hv:w[k]? =ZO v):F.cell (ZX b k ZR)=ZO v:=(h.cell (XQ hi)).trans hv
theorem Lo.call {f:FuncId} {args:Γ} {P:ξ->Ψ} (h:Lo G F xs) (s:aj prog f args G P):aj prog f args F λr F'=>∃G',P r G'/\Lo G' F' xs:=
 (s.upon h.le).mono λr F' ⟨G',hp,hl,hk⟩=>⟨G',hp,hl,λp hp=>by
  obtain ⟨a,b⟩:=h.z p hp
  exact hk _ _ b a,h.nd⟩
theorem Lo.new (h:Lo G F xs) (c:Γ) (e:TypeId) {K:Nat->Ψ} (k:∀b F',Lo G F' ((b,c,e)::xs)->K b F'):∀b,F b=ZR->atF (F.set b (ZP c e)) (K b):=by
 intro b hb;refine atI ?_;have hne:∀p∈xs,p.1≠b:=λp hp=>aI hb (h.z p hp).1;refine k b _ ⟨aa h.le (ae _ hb),λp hp=> ?_,?_⟩
 ·rcases XP.1 hp with rfl|hp
  ·exact ⟨au _ _ _,aV h.le hb⟩
  ·obtain ⟨a,c⟩:=h.z p hp;exact ⟨(aB _ _ (hne p hp)).trans a,c⟩
 ·rw [Yf,YL];refine ⟨λhm=> ?_,h.nd⟩;obtain ⟨p,hp,e⟩:=X1.1 hm;exact hne p hp e
theorem Lo.upd (l1 l2:List (Nat×Γ×TypeId)) {b:Nat} {w0 w:Γ} {e:TypeId} (h:Lo G F (l1++(b,w0,e)::l2)) {F':PH} (hb:F' b=ZO (ZP w e)) (hk:dH (λx=>x=b) F F'):Lo G F' (l1++(b,w,e)::l2):=by
 obtain ⟨q,g⟩:=h.z (b,w0,e) (by simp);have nd:=h.nd;rw [Yd,Yf] at nd;have hne:∀p,p∈l1\/p∈l2->p.1≠b:=λp hp e=>by
  obtain ⟨_,n2,n3⟩:=Ye.1 nd;rcases hp with hp|hp
  ·exact n3 p.1 (X1.2 ⟨p,hp,rfl⟩) b (by simp) e
  ·exact (YL.1 n2).1 (X1.2 ⟨p,hp,e⟩)
 have hkp:∀p,p∈l1\/p∈l2->F' p.1=ZO (ZP p.2.1 p.2.2)/\G p.1=ZR:=λp hp=>by obtain ⟨a,c⟩:=h.z p (by simp only [XR,XP];rcases hp with hp|hp<;>simp [hp]);exact ⟨hk _ _ a (hne p hp),c⟩
 refine ⟨λx o hx=>hk x o (h.le x o hx) λe=>(by rw [e] at hx;rw [g] at hx;cases hx),λp hp=> ?_,by rw [Yd,Yf];exact nd⟩;rcases XR.1 hp with hp|hp
 ·exact hkp p (.inl hp)
 ·rcases XP.1 hp with rfl|hp
  ·exact ⟨hb,g⟩
  ·exact hkp p (.inr hp)
theorem Lo.put (l1 l2:List (Nat×Γ×TypeId)) {b n:Nat} {w0 w:Γ} {e:TypeId} (h:Lo G F (l1++(b,w0,e)::l2)) (h1:w.size=n) (h2:w0.size=n) (hst:∀v∈w.toList,am v)
  {K:Ψ} (k:∀F',Lo G F' (l1++(b,w,e)::l2)->K F'):
  w.size=n/\(∀v∈w.toList,am v)/\∃c e,F (ZX b 0 ZR).block=ZO (ZP c e (0,0))/\(ZX b 0 ZR).spot=ZR/\(ZX b 0 ZR).off+n<=c.size/\
   atF (F.set (ZX b 0 ZR).block (ZP (wr c (ZX b 0 ZR).off w.toList) e)) K:=by
 obtain ⟨q,g⟩:=h.z (b,w0,e) (by simp);refine stW q h1 h2 hst (k _ (h.upd l1 l2 (au _ _ _) (dH.set _ (.inl rfl))))
theorem Lo.put1 (l1 l2:List (Nat×Γ×TypeId)) {b i:Nat} {w0 w:Γ} {v:ξ} {e:TypeId} (h:Lo G F (l1++(b,w0,e)::l2)) (h2:i<w0.size) (hw:w0.setIfInBounds i v=w)
  {K:Ψ} (k:∀F',Lo G F' (l1++(b,w,e)::l2)->K F'):
  ∃c e,F (ZX b i ZR).block=ZO (ZP c e (0,0))/\(ZX b i ZR).spot=ZR/\(ZX b i ZR).off<c.size/\
   atF (F.set (ZX b i ZR).block (ZP (c.setIfInBounds (ZX b i ZR).off v) e)) K:=by
 obtain ⟨q,g⟩:=h.z (b,w0,e) (by simp);subst hw;exact st1 (o:=i) q h2 (k _ (h.upd l1 l2 (au _ _ _) (dH.set _ (.inl rfl))))
theorem Lo.join (l1 l2:List (Nat×Γ×TypeId)) {b:Nat} {P Q:Nat->Bool} (h:Lo G F (l1++(b,plA P,229)::l2)):
  ν 205 #[pa b,.agg (plA Q)] F λr F'=>r=.tuple #[]/\Lo G F' (l1++(b,plA (λi=>P i || Q i),229)::l2):=by
 obtain ⟨q,g⟩:=h.z (b,plA P,229) (by simp);refine (uK (Q:=Q) (kD.own.2 q)).mono ?_;rintro _ F' ⟨rfl,hs,hk⟩;exact ⟨rfl,h.upd l1 l2 (kD.own.1 hs) hk⟩
theorem Lo.add (l1 l2:List (Nat×Γ×TypeId)) {b i:Nat} {P:Nat->Bool} (hi:i<512) (h:Lo G F (l1++(b,plA P,229)::l2)):
  ν 207 #[pa b,vi i] F λr F'=>r=.tuple #[]/\Lo G F' (l1++(b,plA (λj=>P j || decide (j=i)),229)::l2):=by
 obtain ⟨q,g⟩:=h.z (b,plA P,229) (by simp);refine (EN hi q).mono ?_;rintro _ F' ⟨rfl,rfl⟩;exact ⟨rfl,h.upd l1 l2 (au _ _ _) (dH.set _ (.inl rfl))⟩
theorem Lo.q0 {l:List (Nat×Γ×TypeId)} {b:Nat} {P Q:Nat->Bool} (h:Lo G F ((b,plA P,229)::l)) {K:Ψ} (k:∀F',Lo G F' ((b,plA Q,229)::l)->K F'):aw F (ZX b 0 ZR) 8 (plA Q) K:=Lo.put (n:=8) (w0:=plA P) (w:=plA Q) [] l h rfl rfl (gl _) k
theorem Lo.q1 {l:List (Nat×Γ×TypeId)} {x0:Nat×Γ×TypeId} {b:Nat} {P Q:Nat->Bool} (h:Lo G F (x0::(b,plA P,229)::l)) {K:Ψ} (k:∀F',Lo G F' (x0::(b,plA Q,229)::l)->K F'):aw F (ZX b 0 ZR) 8 (plA Q) K:=Lo.put (n:=8) (w0:=plA P) (w:=plA Q) [x0] l h rfl rfl (gl _) k
theorem Lo.q2 {l:List (Nat×Γ×TypeId)} {x0 x1:Nat×Γ×TypeId} {b:Nat} {P Q:Nat->Bool} (h:Lo G F (x0::x1::(b,plA P,229)::l)) {K:Ψ} (k:∀F',Lo G F' (x0::x1::(b,plA Q,229)::l)->K F'):aw F (ZX b 0 ZR) 8 (plA Q) K:=Lo.put (n:=8) (w0:=plA P) (w:=plA Q) [x0,x1] l h rfl rfl (gl _) k
theorem Lo.q3 {l:List (Nat×Γ×TypeId)} {x0 x1 x2:Nat×Γ×TypeId} {b:Nat} {P Q:Nat->Bool} (h:Lo G F (x0::x1::x2::(b,plA P,229)::l)) {K:Ψ} (k:∀F',Lo G F' (x0::x1::x2::(b,plA Q,229)::l)->K F'):aw F (ZX b 0 ZR) 8 (plA Q) K:=Lo.put (n:=8) (w0:=plA P) (w:=plA Q) [x0,x1,x2] l h rfl rfl (gl _) k
theorem Lo.q4 {l:List (Nat×Γ×TypeId)} {x0 x1 x2 x3:Nat×Γ×TypeId} {b:Nat} {P Q:Nat->Bool} (h:Lo G F (x0::x1::x2::x3::(b,plA P,229)::l)) {K:Ψ} (k:∀F',Lo G F' (x0::x1::x2::x3::(b,plA Q,229)::l)->K F'):aw F (ZX b 0 ZR) 8 (plA Q) K:=Lo.put (n:=8) (w0:=plA P) (w:=plA Q) [x0,x1,x2,x3] l h rfl rfl (gl _) k
theorem Lo.q5 {l:List (Nat×Γ×TypeId)} {x0 x1 x2 x3 x4:Nat×Γ×TypeId} {b:Nat} {P Q:Nat->Bool} (h:Lo G F (x0::x1::x2::x3::x4::(b,plA P,229)::l)) {K:Ψ} (k:∀F',Lo G F' (x0::x1::x2::x3::x4::(b,plA Q,229)::l)->K F'):aw F (ZX b 0 ZR) 8 (plA Q) K:=Lo.put (n:=8) (w0:=plA P) (w:=plA Q) [x0,x1,x2,x3,x4] l h rfl rfl (gl _) k
theorem Lo.q6 {l:List (Nat×Γ×TypeId)} {x0 x1 x2 x3 x4 x5:Nat×Γ×TypeId} {b:Nat} {P Q:Nat->Bool} (h:Lo G F (x0::x1::x2::x3::x4::x5::(b,plA P,229)::l)) {K:Ψ} (k:∀F',Lo G F' (x0::x1::x2::x3::x4::x5::(b,plA Q,229)::l)->K F'):aw F (ZX b 0 ZR) 8 (plA Q) K:=Lo.put (n:=8) (w0:=plA P) (w:=plA Q) [x0,x1,x2,x3,x4,x5] l h rfl rfl (gl _) k
theorem Lo.jn0 {l:List (Nat×Γ×TypeId)} {b:Nat} {P Q:Nat->Bool} (h:Lo G F ((b,plA P,229)::l)):ν 205 #[pa b,.agg (plA Q)] F λr F'=>r=.tuple #[]/\Lo G F' ((b,plA (λi=>P i || Q i),229)::l):=Lo.join [] l h
theorem Lo.jn2 {l:List (Nat×Γ×TypeId)} {x0 x1:Nat×Γ×TypeId} {b:Nat} {P Q:Nat->Bool} (h:Lo G F (x0::x1::(b,plA P,229)::l)):ν 205 #[pa b,.agg (plA Q)] F λr F'=>r=.tuple #[]/\Lo G F' (x0::x1::(b,plA (λi=>P i || Q i),229)::l):=Lo.join [x0,x1] l h
theorem Lo.jn3 {l:List (Nat×Γ×TypeId)} {x0 x1 x2:Nat×Γ×TypeId} {b:Nat} {P Q:Nat->Bool} (h:Lo G F (x0::x1::x2::(b,plA P,229)::l)):ν 205 #[pa b,.agg (plA Q)] F λr F'=>r=.tuple #[]/\Lo G F' (x0::x1::x2::(b,plA (λi=>P i || Q i),229)::l):=Lo.join [x0,x1,x2] l h
theorem Lo.ad2 {l:List (Nat×Γ×TypeId)} {x0 x1:Nat×Γ×TypeId} {b i:Nat} {P:Nat->Bool} (hi:i<512) (h:Lo G F (x0::x1::(b,plA P,229)::l)):ν 207 #[pa b,vi i] F λr F'=>r=.tuple #[]/\Lo G F' (x0::x1::(b,plA (λj=>P j || decide (j=i)),229)::l):=Lo.add [x0,x1] l hi h
end
def dp (n:Nat) (R:Nat->Nat->Bool):Ξ:=(List.range n).flatMap λi=>(plA (R i)).toList
theorem wU (n:Nat) (R:Nat->Nat->Bool):(dp n R).length=n*8:=by
 unfold dp;induction n with
 |zero=>rfl
 |succ n ih=>rw [Zr,YS,XT,ih];simp [plA];omega
theorem sU {f g:Nat->Ξ}:∀{l:Δ},(∀j∈l,f j=g j)->l.flatMap f=l.flatMap g
 |[],_=>rfl
 |a::l,h=>by rw [YC,YC,h a (by simp),sU λj hj=>h j (by simp [hj])]
theorem yJ (f:Nat->Ξ) {n i:Nat} (hi:i<n):(List.range n).flatMap f=(List.range i).flatMap f++f i++((List.range (n - i - 1)).map (· +(i+1))).flatMap f:=by
 have:List.range n=List.range i++[i]++(List.range (n - i - 1)).map (· +(i+1)):=by
  have h1:n=(i+1)+(n - i - 1):=by omega
  rw [h1,List.range_add,Zr,show i+1+(n - i - 1) - i - 1=n - i - 1 by omega];congr 1;apply YR;intro a _;omega
 rw [this,YS,YS,YC,List.flatMap_nil,Ys]
theorem oQ {n:Nat} {R S:Nat->Nat->Bool} (h:∀i,i<n->R i=S i):dp n R=dp n S:=by unfold dp;exact sU λj hj=>by rw [h j (Yv.1 hj)]
theorem oR {n i:Nat} (hi:i<n) (R:Nat->Nat->Bool):∃pre post,pre.length=i*8/\dp n R=pre++(plA (R i)).toList++post/\∀R',(∀j,j≠i->R' j=R j)->dp n R'=pre++(plA (R' i)).toList++post:=by
 refine ⟨dp i R,((List.range (n - i - 1)).map (· +(i+1))).flatMap (λj=>(plA (R j)).toList),wU i R,yJ _ hi,λR' h=> ?_⟩;have e:=yJ (λj=>(plA (R' j)).toList) hi;have e1:dp i R'=dp i R:=oQ λj hj=>h j (by omega);have e2:((List.range (n - i - 1)).map (· +(i+1))).flatMap (λj=>(plA (R' j)).toList)=((List.range (n - i - 1)).map (· +(i+1))).flatMap (λj=>(plA (R j)).toList):=sU λj hj=>by obtain ⟨a,_,rfl⟩:=X1.1 hj;rw [h _ (by omega)]
 rw [e2] at e;rw [<- e1];exact e
structure Lnk (F:PH) (b3 bm bf n:Nat) (R:Nat->Nat->Bool):Prop where
 tab:Tab F
 q3:F b3=ZO (ZP #[pa bm] 226)
 q17:∃mc,F bm=ZO (ZP mc 232)/\mc[17]? =ZO (ZS ⟨ZO ⟨bf,0,ZR⟩,n,n⟩)
 qf:F bf=ZO (ZP (dp n R).toArray 229)
theorem Lnk.keep {F F':PH} {b3 bm bf n:Nat} {R R':Nat->Nat->Bool} (h:Lnk F b3 bm bf n R) (hk:dH (λx=>x=bf) F F') (hf:F' bf=ZO (ZP (dp n R').toArray 229)) (h0:bf≠0):Lnk F' b3 bm bf n R':=by
 obtain ⟨tab,q3,⟨mc,qm,h17⟩,qf⟩:=h;refine ⟨λk v hv=> ?_,hk _ _ q3 λe=> ?_,⟨mc,hk _ _ qm λe=> ?_,h17⟩,hf⟩
 ·have:=tab k v hv;unfold PH.cell at this ⊢;cases hz:F 0 with
  |none=>rw [hz] at this;cases this
  |some o=>rw [hz] at this;rw [hk _ _ hz h0.symm];exact this
 ·rw [e,qf] at q3;simp at q3
 ·rw [e,qf] at qm;simp at qm
theorem Lnk.le {F F':PH} {b3 bm bf n:Nat} {R:Nat->Nat->Bool} (h:Lnk F b3 bm bf n R) (hl:F.le F'):Lnk F' b3 bm bf n R:=by obtain ⟨tab,q3,⟨mc,qm,h17⟩,qf⟩:=h;exact ⟨tab.le hl,hl _ _ q3,⟨mc,hl _ _ qm,h17⟩,hl _ _ qf⟩
section
variable {F:PH} {b3 bm bf n:Nat} {R:Nat->Nat->Bool}
theorem AL (h:Lnk F b3 bm bf n R) (h0:bf≠0) {i bt:Nat} {Q:Nat->Bool} (hi:i<n) (ht:F bt=ZO (ZP (plA Q) 229)) (_:bt≠bf):
  ν 204 #[vi i,pa b3,pa bt] F λr F'=>r=.tuple #[]/\Lnk F' b3 bm bf n (λk j=>R k j || (decide (k=i) && Q j))/\dH (λx=>x=bf) F F':=by
 obtain ⟨tab,q3,⟨mc,qm,h17⟩,qf⟩:=id h;refine Uc ?_;unfold NU;obtain ⟨pre,post,hpre,hsp,hup⟩:=oR hi R;have c3:F.cell (ZX b3 0 ZR)=ZO (pa bm):=by rw [av q3];rfl
 have c17:F.cell ((ZX bm 0 ZR).add 17)=ZO (ZS ⟨ZO ⟨bf,0,ZR⟩,n,n⟩):=by rw [cD,X5,av qm];exact h17
 refine ⟨_,rfl,_,c3,_,rfl,_,c17,_,rfl,by omega,by simp only;omega,_,rfl,plA Q,rfl,ac ht,?_⟩;have ea:(ZX bf 0 ZR).add (ZY (i:Int)*8)=⟨bf,pre.length,ZR⟩:=by rw [cD,X5,N5,hpre]
 rw [ea];have hs:kD F bf 229 pre (R i) post:=by unfold kD;rw [<- hsp];exact qf
 refine (uK (Q:=Q) hs).mono ?_;rintro _ F' ⟨rfl,hs',hk⟩;have e:∀k,k≠i->(λk j=>R k j || (decide (k=i) && Q j)) k=R k:=λk hk=>by funext j;simp [hk]
 have hL:Lnk F' b3 bm bf n (λk j=>R k j || (decide (k=i) && Q j)):=h.keep hk (by
  rw [hup _ e];have:(λj=>R i j || (decide (i=i) && Q j))=λj=>R i j || Q j:=by funext j;simp
  show F' bf=ZO (ZP (pre++(plA (λj=>R i j || (decide (i=i) && Q j))).toList++post).toArray 229);rw [this]
  exact hs') h0
 obtain ⟨mc',qm',h17'⟩:=hL.q17;exact ⟨rfl,by rw [cD,X5,av qm'];exact h17',by rw [av hL.q3];rfl,rfl,hL,hk⟩
theorem Pg:aE prog 204=ZT:=by kernel_rfl
theorem uQ (h:Lnk F b3 bm bf n R) (h0:bf≠0) (hn:n<=512) {P Q:Nat->Bool} (hP:∀i,P i=ZT->i<n):
  ν 202 #[.agg (plA P),.agg (plA Q),pa b3] F λr F'=>r=.tuple #[]/\Lnk F' b3 bm bf n (λk j=>R k j || (P k && Q j))/\dH (λx=>x=bf) F F':=by
 refine Ua ?_;unfold NS;intro c hc;refine atI ?_;have lc:=ae (ZP (plA P) 229) hc;have qc:=au F c (ZP (plA P) 229);generalize F.set c (ZP (plA P) 229)=F1 at*;intro d hd;refine atI ?_;have ld:=ae (ZP (plA Q) 229) hd;have qd:=au F1 d (ZP (plA Q) 229);have qc':=ld _ _ qc;generalize F1.set d (ZP (plA Q) 229)=F2 at*;have hcf:c≠bf:=λe=>by rw [e,h.qf] at hc;cases hc
 have hdf:d≠bf:=λe=>by rw [e,lc _ _ h.qf] at hd;cases hd
 have l2:=aa lc ld
 refine (uL (a:=⟨c,0,ZR⟩) (P:=P) (k:=204) (cap:= #[pa b3,pa d]) (Inv:=λm F'=>Lnk F' b3 bm bf n (λk j=>R k j || (decide (k<m) && P k && Q j))/\dH (λx=>x=bf) F2 F') Pg rfl
  (λm F' hI=>⟨hI.1.tab,ac (hI.2 _ _ qc' hcf)⟩) (λi F' hi hp hI=> ?_) (λi F' hi hp hI=> ?_) ⟨?_,dH.refl _ _⟩).mono ?_
 ·refine ⟨?_,hI.2⟩;have:(λk j=>R k j || (decide (k<i+1) && P k && Q j))=λk j=>R k j || (decide (k<i) && P k && Q j):=by
   funext k j;by_cases hk:k=i
   ·subst hk;simp [hp]
   ·rw [show decide (k<i+1)=decide (k<i) by rw [XV];simp;omega]
  rw [this];exact hI.1
 ·refine (AL hI.1 h0 (hP i hp) (hI.2 _ _ qd hdf) hdf).mono ?_;rintro _ F'' ⟨rfl,hL,hk⟩;refine ⟨rfl,?_,hI.2.trans hk⟩;have:(λk j=>(R k j || (decide (k<i) && P k && Q j)) || (decide (k=i) && Q j))=λk j=>R k j || (decide (k<i+1) && P k && Q j):=by
   funext k j;by_cases hk:k=i
   ·subst hk;simp [hp]
   ·rw [show decide (k<i+1)=decide (k<i) by rw [XV];simp;omega];simp [hk]
  rw [<- this];exact hL
 ·have:(λk j=>R k j || (decide (k<0) && P k && Q j))=R:=by funext k j;simp
  rw [this];exact h.le l2
 ·rintro _ F' ⟨rfl,hL,hk⟩;refine ⟨rfl,rfl,?_,λx o hx hn=>hk x o (l2 _ _ hx) hn⟩;have:Lnk F' b3 bm bf n (λk j=>R k j || (P k && Q j)):=by
   refine ⟨hL.tab,hL.q3,hL.q17,?_⟩;have e:dp n (λk j=>R k j || (P k && Q j))=dp n (λk j=>R k j || (decide (k<512) && P k && Q j)):=by refine oQ λi hi=> ?_;funext j;rw [show decide (i<512)=ZT by simp;omega,YY]
   rw [e];exact hL.qf
  exact this
end
theorem HG:aE prog 202=ZT:=by kernel_rfl
theorem nX:aE prog 206=ZT:=by kernel_rfl
open Classical in
def fB (t:Lt):Nat->Bool:=λj=>decide (t.first j)
open Classical in
def lB (t:Lt):Nat->Bool:=λj=>decide (t.last j)
open Classical in
def foB (t:Lt):Nat->Nat->Bool:=λi j=>decide (t.fol i j)
theorem eE {t:Lt} {j:Nat}:fB t j=ZT↔t.first j:=by simp [fB]
theorem dG {t:Lt} {j:Nat}:lB t j=ZT↔t.last j:=by simp [lB]
theorem j8 {t:Lt} {i j:Nat}:foB t i j=ZT↔t.fol i j:=by simp [foB]
theorem Ph:fB .emp=noP:=by funext j;rw [XV,eE];simp [Lt.first,noP]
theorem Pj:lB .emp=noP:=by funext j;rw [XV,dG];simp [Lt.last,noP]
theorem KM (i j:Nat):foB .emp i j=ZQ:=by rw [<- Zl,j8];exact id
theorem Pk {i lo hi:Nat}:fB (.rng i lo hi)=λj=>noP j || decide (j=i):=by funext j;rw [XV,eE];simp [Lt.first,noP];exact eq_comm
theorem Pm {i lo hi:Nat}:lB (.rng i lo hi)=λj=>noP j || decide (j=i):=by funext j;rw [XV,dG];simp [Lt.last,noP];exact eq_comm
theorem KN {i lo hi:Nat} (k j:Nat):foB (.rng i lo hi) k j=ZQ:=by rw [<- Zl,j8];exact id
theorem KO {t u:Lt} (h:t.nul=ZT):fB (.seq t u)=λi=>fB t i || fB u i:=by funext j;rw [XV,YE,eE,eE,eE];simp [Lt.first,h]
theorem KP {t u:Lt} (h:t.nul=ZQ):fB (.seq t u)=fB t:=by funext j;rw [XV,eE,eE];simp [Lt.first,h]
theorem KQ {t u:Lt} (h:u.nul=ZT):lB (.seq t u)=λi=>lB u i || lB t i:=by funext j;rw [XV,YE,dG,dG,dG];simp [Lt.last,h]
theorem KR {t u:Lt} (h:u.nul=ZQ):lB (.seq t u)=lB u:=by funext j;rw [XV,dG,dG];simp [Lt.last,h]
theorem KT {t u:Lt} (k j:Nat):foB (.seq t u) k j=(foB t k j || (foB u k j || (lB t k && fB u j))):=by rw [XV];simp only [YE,Yt,j8,dG,eE,Lt.fol]
theorem Po {t u:Lt}:fB (.alt t u)=λi=>fB t i || fB u i:=by funext j;rw [XV,YE,eE,eE,eE];simp [Lt.first]
theorem Pq {t u:Lt}:lB (.alt t u)=λi=>lB t i || lB u i:=by funext j;rw [XV,YE,dG,dG,dG];simp [Lt.last]
theorem KU {t u:Lt} (k j:Nat):foB (.alt t u) k j=(foB t k j || foB u k j):=by rw [XV];simp only [YE,j8,Lt.fol]
theorem Pt {t:Lt}:fB (.rep t)=fB t:=by funext j;rw [XV,eE,eE];simp [Lt.first]
theorem Pu {t:Lt}:lB (.rep t)=lB t:=by funext j;rw [XV,dG,dG];simp [Lt.last]
theorem KV {t:Lt} (k j:Nat):foB (.rep t) k j=(foB t k j || (lB t k && fB t j)):=by rw [XV];simp only [YE,Yt,j8,dG,eE,Lt.fol]
theorem d9 {l:List Nd} {i:Nat} {t:Lt} {ns:Δ} (h:cY l i t ns):(∀j∈ns,j<l.length)/\∀j,t.lab j->j∈ns:=by
 induction h with
 |emp hx hk=>exact ⟨λj hj=>by simp at hj;subst hj;exact (XN.1 hx).1,λj h=>h.elim⟩
 |rng hx hk _ _ _ _=>exact ⟨λj hj=>by simp at hj;subst hj;exact (XN.1 hx).1,λj h=>by rw [show j=_ from h.symm];simp⟩
 |seq hx hk _ _ _ _ i1 i2=>
  refine ⟨λj hj=> ?_,λj h=> ?_⟩
  ·simp only [YA,XP,XR] at hj;rcases hj with rfl|hj|hj
   ·exact (XN.1 hx).1
   ·exact i1.1 j hj
   ·exact i2.1 j hj
  ·simp only [YA,XP,XR];exact .inr (h.elim (λh=> .inl (i1.2 j h)) λh=> .inr (i2.2 j h))
 |alt hx hk _ _ _ _ i1 i2=>
  refine ⟨λj hj=> ?_,λj h=> ?_⟩
  ·simp only [YA,XP,XR] at hj;rcases hj with rfl|hj|hj
   ·exact (XN.1 hx).1
   ·exact i1.1 j hj
   ·exact i2.1 j hj
  ·simp only [YA,XP,XR];exact .inr (h.elim (λh=> .inl (i1.2 j h)) λh=> .inr (i2.2 j h))
 |rep hx hk _ _ i1=>
  refine ⟨λj hj=> ?_,λj h=> ?_⟩
  ·simp only [XP] at hj;rcases hj with rfl|hj
   ·exact (XN.1 hx).1
   ·exact i1.1 j hj
  ·exact X8 _ (i1.2 j h)
theorem Dw {l:List Nd} {i:Nat} {t:Lt} {ns:Δ} (h:cY l i t ns) {j:Nat} (hj:lB t j=ZT):j<l.length:=(d9 h).1 j ((d9 h).2 j (t.last_lab (dG.1 hj)))
theorem RdS.keep {F F':PH} {s:Sl} {size:Nat} {vs:Ξ} (h:RdS F s size vs) (hk:∀a,s.ZK=ZO a->∀o,F a.block=ZO o->F' a.block=ZO o):RdS F' s size vs:=by
 refine ⟨h.len,h.cap,λhp=> ?_⟩;obtain ⟨b,o,h1,h2⟩:=h.cells hp;refine ⟨b,o,h1,λi hi=> ?_⟩;have hc:=h2 i hi;unfold PH.cell at hc ⊢;cases hz:F b with
 |none=>simp only [hz] at hc;cases hc
 |some ob=>simp only [hz] at hc;simp only [hk _ h1 ob hz];exact hc
structure Cmp (F:PH) (b1 b3 b4 b5 bm bf:Nat) (l:List Nd) (R:Nat->Nat->Bool):Prop where
 lnk:Lnk F b3 bm bf l.length R
 q1:∃s:Sl,F b1=ZO (ZP #[s.v] 144)/\RdS F s 5 (d7 l)/\∀a,s.ZK=ZO a->a.block≠bf
 q4:F b4=ZO (ZP #[.func (.func 206) #[] #[pa b1,pa b4,pa b5]] 247)
 q5:F b5=ZO (ZP #[.func (.func 202) #[] #[pa b3]] 251)
section
variable {F F':PH} {b1 b3 b4 b5 bm bf:Nat} {l:List Nd} {R R':Nat->Nat->Bool}
theorem Cmp.le (h:Cmp F b1 b3 b4 b5 bm bf l R) (hl:F.le F'):Cmp F' b1 b3 b4 b5 bm bf l R:=by obtain ⟨s,a,b,c⟩:=h.q1;exact ⟨h.lnk.le hl,⟨s,hl _ _ a,b.le hl,c⟩,hl _ _ h.q4,hl _ _ h.q5⟩
theorem Cmp.keep (h:Cmp F b1 b3 b4 b5 bm bf l R) (hk:dH (λx=>x=bf) F F') (hL:Lnk F' b3 bm bf l.length R'):Cmp F' b1 b3 b4 b5 bm bf l R':=by
 obtain ⟨s,a,b,c⟩:=h.q1;have hne:∀{x:Nat} {cs:Γ} {e:TypeId},e≠229->F x=ZO (ZP cs e)->x≠bf:=λhe hx e=>by rw [e,h.lnk.qf] at hx;simp at hx;exact he hx.2.symm
 exact ⟨hL,⟨s,hk _ _ a (hne (by decide) a),b.keep λad had o ho=>hk _ _ ho (c ad had),c⟩,hk _ _ h.q4 (hne (by decide) h.q4),hk _ _ h.q5 (hne (by decide) h.q5)⟩
theorem Cmp.to (h:Cmp F b1 b3 b4 b5 bm bf l R) (e:∀k j,R k j=R' k j):Cmp F b1 b3 b4 b5 bm bf l R':=by
 have:R=R':=by funext k j;exact e k j
 rw [<- this];exact h
set_option maxHeartbeats 4000000 in
theorem EP (hn:l.length<=512) (h0:bf≠0) {i:Nat} {t:Lt} {ns:Δ} (h:cY l i t ns):∀{F:PH} {R:Nat->Nat->Bool},Cmp F b1 b3 b4 b5 bm bf l R->
    ν 206 #[vi i,pa b1,pa b4,pa b5] F λr F'=>r=.tuple #[.agg (plA (fB t)),.agg (plA (lB t)),.bool t.nul]/\Cmp F' b1 b3 b4 b5 bm bf l (λk j=>R k j || foB t k j)/\dH (λx=>x=bf) F F':=by
  induction h with
    (intro F R hC
     obtain ⟨s,q1,hs,hsb⟩:=hC.q1;have hlen:=hs.nlen;have hi':=(XN.1 hx).1;obtain ⟨ad,had,hrow⟩:=rdn hs hx;refine Ue ?_;unfold NX;have h:=Lo.start F;refine h.new _ _ λr1 F1 h=>h.new _ _ λr2 F2 h=> ?_;rw [<- d8] at h;refine ⟨_,rfl,s,by rw [av (h.le _ _ q1)];rfl,ad,had,by omega,by omega,x.arr,rfl,λk hk'=>aK h.le (hrow k hk'),?_⟩;refine h.new _ _ λb8 F3 h=>Lo.put [] _ (w:=x.arr) (n:=5) h rfl rfl (gI x) λF4 h=> ?_;refine ⟨x.k,h.cl 0 rfl rfl,?_⟩
     have hK:dH (λx=>x=bf) F F:=dH.refl _ _)
  | @emp i x hx hk=>refine ⟨λh=>absurd h (by omega),λ_=>⟨λh=>absurd h (by omega),λ_=>⟨λh=>absurd h (by omega),λ_=>⟨λh=>absurd h (by omega),λ_=> ?_⟩⟩⟩⟩;refine ⟨plA noP,rfl,h.ro 2 rfl,plA noP,rfl,h.ro 1 rfl,?_⟩;refine h.q2 λF5 h=>⟨h.ro 1 rfl,h.q1 λF6 h=>⟨plA noP,rfl,h.ro 2 rfl,plA noP,rfl,h.ro 1 rfl,?_,(hC.le h.le).to (λk j=>by rw [KM,ZE]),λy o hy hn=>h.le _ _ (hK y o hy hn)⟩⟩;rw [Ph,Pj,Lt.nul]
  | @rng i lo hi x hx hk hlo hhi hle h255=>refine ⟨λ_=> ?_,λh=>absurd hk h⟩;refine (h.ad2 (by omega)).mono ?_;rintro _ F5 ⟨rfl,h⟩;refine ⟨rfl,_,rfl,h.ro 2 rfl,_,rfl,h.ro 2 rfl,?_⟩;refine h.q2 λF6 h=>h.q1 λF7 h=>⟨_,rfl,h.ro 2 rfl,_,rfl,h.ro 1 rfl,?_,(hC.le h.le).to (λk j=>by rw [KN,ZE]),λy o hy hn=>h.le _ _ (hK y o hy hn)⟩;rw [Pk,Pm,Lt.nul]
  | @seq i a b x t u na nb hx hk hxa hxb ht hu it iu=>
    refine ⟨λh=>absurd h (by omega),λ_=>⟨λ_=> ?_,λh=>absurd hk h⟩⟩;refine ⟨_,rfl,_,by rw [av (h.le _ _ hC.q4)];rfl,_,h.cl 0 rfl rfl,206,#[],_,rfl,nX,?_⟩;rw [hxa];refine (h.call (it hC)).mono ?_;rintro _ F5 ⟨G5,⟨rfl,hC,hk'⟩,h⟩;have hK:=hK.trans hk';refine ⟨_,_,_,rfl,?_⟩;refine h.new _ _ λb9 F6 h=>h.new _ _ λb10 F7 h=> ?_;rw [<- d8] at h;refine h.q1 λF8 h=>h.q0 λF9 h=> ?_;refine ⟨_,by rw [av (h.le _ _ hC.q4)];rfl,_,h.cl 2 rfl rfl,206,#[],_,rfl,nX,?_⟩;rw [hxb];refine (h.call (iu hC)).mono ?_;rintro _ F10 ⟨G10,⟨rfl,hC,hk'⟩,h⟩;have hK:=hK.trans hk';refine ⟨_,_,_,rfl,?_⟩;refine h.new _ _ λb12 F11 h=>h.new _ _ λb13 F12 h=> ?_;rw [<- d8] at h;refine h.q1 λF13 h=>h.q0 λF14 h=> ?_;refine ⟨_,rfl,_,by rw [av (h.le _ _ hC.q5)];rfl,plA (lB t),rfl,h.ro 2 rfl,plA (fB u),rfl,h.ro 1 rfl,202,#[],_,rfl,HG,?_⟩;refine (h.call (uQ (P:=lB t) (Q:=fB u) hC.lnk h0 hn (λj hj=>Dw ht hj))).mono ?_;rintro _ F15 ⟨G15,⟨rfl,hL,hk'⟩,h⟩;have hC:=hC.keep hk' hL;have hK:=hK.trans hk';refine ⟨rfl,?_⟩;have hR:∀k j,(R k j || foB t k j || foB u k j || (lB t k && fB u j))=(R k j || foB (.seq t u) k j):=λk j=>by rw [KT];simp only [Bool.or_assoc]
    have j2:∀{A B:Nat->Bool} {F':PH},fB (.seq t u)=A->lB (.seq t u)=B->Lo G15 F' [(b13,plA B,229),(b12,plA (fB u),229),(b10,plA (lB t),229),(b9,plA A,229),(b8,x.arr,149),(r2,plA noP,229),(r1,plA noP,229)]->qi r1 r2 b9 t.nul b13 u.nul (λr F'=>r=.tuple #[.agg (plA (fB (.seq t u))),.agg (plA (lB (.seq t u))),.bool (Lt.nul (.seq t u))]/\Cmp F' b1 b3 b4 b5 bm bf l (λk j=>R k j || foB (.seq t u) k j)/\dH (λx=>x=bf) F F') F':=λ{A B F'} e1 e2 h=>by
      unfold qi;rw [e1,e2];refine ⟨_,rfl,h.ro 3 rfl,_,rfl,h.ro 0 rfl,λha=> ?_,λha=> ?_⟩;all_goals
        refine h.q6 λF18 h=>h.q5 λF19 h=>⟨_,rfl,h.ro 6 rfl,_,rfl,h.ro 5 rfl,?_,(hC.le h.le).to hR,λy o hy hn=>h.le _ _ (hK y o hy hn)⟩;simp only [Lt.nul,ha];rfl
    have j1:∀{A:Nat->Bool} {F':PH},fB (.seq t u)=A->Lo G15 F' [(b13,plA (lB u),229),(b12,plA (fB u),229),(b10,plA (lB t),229),(b9,plA A,229),(b8,x.arr,149),(r2,plA noP,229),(r1,plA noP,229)]->qj r1 r2 b9 b10 t.nul b13 u.nul (λr F'=>r=.tuple #[.agg (plA (fB (.seq t u))),.agg (plA (lB (.seq t u))),.bool (Lt.nul (.seq t u))]/\Cmp F' b1 b3 b4 b5 bm bf l (λk j=>R k j || foB (.seq t u) k j)/\dH (λx=>x=bf) F F') F':=λ{A F'} e1 h=>by unfold qj;refine ⟨λhb=>⟨_,rfl,h.ro 2 rfl,(h.jn0).mono ?_⟩,λhb=>j2 e1 (KR hb) h⟩;rintro _ F17 ⟨rfl,h⟩;exact ⟨rfl,j2 e1 (KQ hb) h⟩
    refine ⟨λHA=>⟨_,rfl,h.ro 1 rfl,(h.jn3).mono ?_⟩,λHA=>j1 (KP HA) h⟩;rintro _ F16 ⟨rfl,h⟩;exact ⟨rfl,j1 (KO HA) h⟩
  | @alt i a b x t u na nb hx hk hxa hxb ht hu it iu=>
    refine ⟨λh=>absurd h (by omega),λ_=>⟨λh=>absurd h (by omega),λ_=>⟨λ_=> ?_,λh=>absurd hk h⟩⟩⟩;refine ⟨_,rfl,_,by rw [av (h.le _ _ hC.q4)];rfl,_,h.cl 0 rfl rfl,206,#[],_,rfl,nX,?_⟩;rw [hxa];refine (h.call (it hC)).mono ?_;rintro _ F5 ⟨G5,⟨rfl,hC,hk'⟩,h⟩;have hK:=hK.trans hk';refine ⟨_,_,_,rfl,?_⟩;refine h.new _ _ λb15 F6 h=>h.new _ _ λb16 F7 h=> ?_;rw [<- d8] at h;refine h.q1 λF8 h=>h.q0 λF9 h=> ?_;refine ⟨_,by rw [av (h.le _ _ hC.q4)];rfl,_,h.cl 2 rfl rfl,206,#[],_,rfl,nX,?_⟩;rw [hxb];refine (h.call (iu hC)).mono ?_;rintro _ F10 ⟨G10,⟨rfl,hC,hk'⟩,h⟩;have hK:=hK.trans hk';refine ⟨_,_,_,rfl,?_⟩;refine h.new _ _ λb18 F11 h=>h.new _ _ λb19 F12 h=> ?_;rw [<- d8] at h;refine h.q1 λF13 h=>h.q0 λF14 h=> ?_;refine ⟨_,rfl,h.ro 1 rfl,(h.jn3).mono ?_⟩;rintro _ F15 ⟨rfl,h⟩;refine ⟨rfl,_,rfl,h.ro 0 rfl,(h.jn2).mono ?_⟩;rintro _ F16 ⟨rfl,h⟩;have hR:∀k j,(R k j || foB t k j || foB u k j)=(R k j || foB (.alt t u) k j):=λk j=>by rw [KU,Bool.or_assoc]
    refine ⟨rfl,_,rfl,h.ro 3 rfl,_,rfl,h.ro 2 rfl,λha=> ?_,λha=> ?_⟩;all_goals
      refine h.q6 λF17 h=>h.q5 λF18 h=>⟨_,rfl,h.ro 6 rfl,_,rfl,h.ro 5 rfl,?_,(hC.le h.le).to hR,λy o hy hn=>h.le _ _ (hK y o hy hn)⟩;rw [Po,Pq];simp only [Lt.nul,ha];rfl
  | @rep i a x t na hx hk hxa ht it=>
    refine ⟨λh=>absurd h (by omega),λ_=>⟨λh=>absurd h (by omega),λ_=>⟨λh=>absurd h (by omega),λ_=>⟨λ_=> ?_,λh=>absurd hk h⟩⟩⟩⟩;refine ⟨_,rfl,_,by rw [av (h.le _ _ hC.q4)];rfl,_,h.cl 0 rfl rfl,206,#[],_,rfl,nX,?_⟩;rw [hxa];refine (h.call (it hC)).mono ?_;rintro _ F5 ⟨G5,⟨rfl,hC,hk'⟩,h⟩;have hK:=hK.trans hk';refine ⟨_,_,_,rfl,?_⟩;refine h.new _ _ λb21 F6 h=>h.new _ _ λb22 F7 h=> ?_;rw [<- d8] at h;refine h.q1 λF8 h=>h.q0 λF9 h=> ?_;refine ⟨_,rfl,_,by rw [av (h.le _ _ hC.q5)];rfl,plA (lB t),rfl,h.ro 0 rfl,plA (fB t),rfl,h.ro 1 rfl,202,#[],_,rfl,HG,?_⟩;refine (h.call (uQ (P:=lB t) (Q:=fB t) hC.lnk h0 hn (λj hj=>Dw ht hj))).mono ?_;rintro _ F10 ⟨G10,⟨rfl,hL,hk'⟩,h⟩;have hC:=hC.keep hk' hL;have hK:=hK.trans hk';have hR:∀k j,(R k j || foB t k j || (lB t k && fB t j))=(R k j || foB (.rep t) k j):=λk j=>by rw [KV];simp only [Bool.or_assoc]
    refine ⟨rfl,_,rfl,h.ro 1 rfl,_,rfl,h.ro 0 rfl,?_⟩;refine h.q4 λF11 h=>⟨h.ro 0 rfl,h.q3 λF12 h=>⟨_,rfl,h.ro 4 rfl,_,rfl,h.ro 3 rfl,?_,(hC.le h.le).to hR,λy o hy hn=>h.le _ _ (hK y o hy hn)⟩⟩;rw [Pt,Pu,Lt.nul]
end
def bS (s:Sl) (P Q:Nat->Bool) (bf n:Nat) (e:Bool):Γ:=
 #[s.v,di (wd P 0),di (wd P 1),di (wd P 2),di (wd P 3),di (wd P 4),di (wd P 5),di (wd P 6),di (wd P 7),
  di (wd Q 0),di (wd Q 1),di (wd Q 2),di (wd Q 3),di (wd Q 4),di (wd Q 5),di (wd Q 6),di (wd Q 7),ZS ⟨ZO ⟨bf,0,ZR⟩,n,n⟩,.bool e]
theorem Ut (a0 a1 a2 a3 a4 a5 a6 a7 a8 a9 a10 a11 a12 a13 a14 a15 a16 a17 a18 v0 v1 v2 v3 v4 v5 v6 v7:ξ):wr (#[a0,a1,a2,a3,a4,a5,a6,a7,a8,a9,a10,a11,a12,a13,a14,a15,a16,a17,a18]:Γ) 1 [v0,v1,v2,v3,v4,v5,v6,v7]= #[a0,v0,v1,v2,v3,v4,v5,v6,v7,a9,a10,a11,a12,a13,a14,a15,a16,a17,a18]:=
 (dR [v0,v1,v2,v3,v4,v5,v6,v7] [a0,a1,a2,a3,a4,a5,a6,a7,a8,a9,a10,a11,a12,a13,a14,a15,a16,a17,a18] 1 (by show 9<=19;omega)).trans rfl
theorem Uu (a0 a1 a2 a3 a4 a5 a6 a7 a8 a9 a10 a11 a12 a13 a14 a15 a16 a17 a18 v0 v1 v2 v3 v4 v5 v6 v7:ξ):wr (#[a0,a1,a2,a3,a4,a5,a6,a7,a8,a9,a10,a11,a12,a13,a14,a15,a16,a17,a18]:Γ) 9 [v0,v1,v2,v3,v4,v5,v6,v7]= #[a0,a1,a2,a3,a4,a5,a6,a7,a8,v0,v1,v2,v3,v4,v5,v6,v7,a17,a18]:=
 (dR [v0,v1,v2,v3,v4,v5,v6,v7] [a0,a1,a2,a3,a4,a5,a6,a7,a8,a9,a10,a11,a12,a13,a14,a15,a16,a17,a18] 9 (by show 17<=19;omega)).trans rfl
theorem Uv (s:Sl) (P P' Q:Nat->Bool) (bf n:Nat) (e:Bool):wr (bS s P' Q bf n e) 1 (plA P).toList=bS s P Q bf n e:=Ut _ _ _ _ _ _ _ _ _ _ _ _ _ _ _ _ _ _ _ _ _ _ _ _ _ _ _
theorem Uw (s:Sl) (P Q' Q:Nat->Bool) (bf n:Nat) (e:Bool):wr (bS s P Q' bf n e) 9 (plA Q).toList=bS s P Q bf n e:=Uu _ _ _ _ _ _ _ _ _ _ _ _ _ _ _ _ _ _ _ _ _ _ _ _ _ _ _
theorem Ux (s:Sl) (P Q:Nat->Bool) (bf n:Nat) (e e':Bool):(bS s P Q bf n e).setIfInBounds 18 (.bool e')=bS s P Q bf n e':=rfl
def noR:Nat->Nat->Bool:=λ_ _=>ZQ
theorem uR:∀n:Nat,dp n noR=List.replicate (n*8) (.int .u64 0)
 |0=>rfl
 |n+1=>by
  have:=uR n;unfold dp at this ⊢;rw [Zr,YS,this,YC,List.flatMap_nil,Ys];have e:(plA (noR n)).toList=List.replicate 8 (.int .u64 0):=by show (plA noP).toList=_;rw [d8];rfl
  rw [e,List.replicate_append_replicate];congr 1;omega
theorem HH:tsz prog 229=ZO (8,64):=by kernel_rfl
theorem HI:bP prog 229=ZO (.agg #[.int .u64 0,.int .u64 0,.int .u64 0,.int .u64 0,.int .u64 0,.int .u64 0,.int .u64 0,.int .u64 0]):=by kernel_rfl
theorem zc8 (n:Nat):Builtin.zeroCells (Value.agg #[.int .u64 0,.int .u64 0,.int .u64 0,.int .u64 0,.int .u64 0,.int .u64 0,.int .u64 0,.int .u64 0]).cells n=(dp n noR).toArray:=by
 rw [uR];have hz:(Value.agg #[.int .u64 0,.int .u64 0,.int .u64 0,.int .u64 0,.int .u64 0,.int .u64 0,.int .u64 0,.int .u64 0]).cells=(List.replicate 8 (Value.int .u64 0)).toArray:=rfl;rw [hz];apply Array.ext
 ·simp [Builtin.zeroCells]
 ·intro i h1 h2;simp only [Builtin.zeroCells,Array.getElem_map,Array.getElem_range,List.getElem_toArray,List.getElem_replicate];have:i % (List.replicate 8 (Value.int .u64 0)).toArray.size<8:=YT _ (by decide);rw [getElem!_pos _ _ (by simpa using this)];simp only [Zt,List.length_replicate,List.getElem_toArray,List.getElem_replicate]
structure Mch (F:PH) (bm:Nat) (l:List Nd) (t:Lt):Prop where
 ex:∃(s:Sl) (bf:Nat),F bm=ZO (ZP (bS s (fB t) (lB t) bf l.length t.nul) 232)/\RdS F s 5 (d7 l)/\F bf=ZO (ZP (dp l.length (foB t)).toArray 229)
theorem Mch.le {F G:PH} {bm:Nat} {l:List Nd} {t:Lt} (h:Mch F bm l t) (hl:F.le G):Mch G bm l t:=by obtain ⟨s,bf,a,b,c⟩:=h.ex;exact ⟨s,bf,hl _ _ a,b.le hl,hl _ _ c⟩
theorem Tab.zero {F:PH} (h:Tab F):∃o,F 0=ZO o:=by
 have:=h 0 0 rfl;unfold PH.cell at this;cases hz:F 0 with
 |none=>rw [hz] at this;cases this
 |some o=>exact ⟨o,rfl⟩
theorem RdS.block {F:PH} {s:Sl} {size:Nat} {vs:Ξ} (h:RdS F s size vs) (hv:0<vs.length) {a:Addr} (ha:s.ZK=ZO a):∃o,F a.block=ZO o:=by
 have hp:0<s.len:=by
  rcases Y7 s.len with h0|h0
  ·have:=h.len;rw [h0,Y0] at this;omega
  ·exact h0
 obtain ⟨b,o,h1,h2⟩:=h.cells hp;rw [ha] at h1;cases h1;have hc:=h2 0 hv;unfold PH.cell at hc;cases hz:F b with
 |none=>simp only [hz] at hc;cases hc
 |some ob=>exact ⟨ob,rfl⟩
theorem Lo.new' {G F:PH} {xs:List (Nat×Γ×TypeId)} (h:Lo G F xs) (c:Γ) (e:TypeId) {b:Nat} (hb:F b=ZR):Lo G (F.set b (ZP c e)) ((b,c,e)::xs):=
 atE (h.new c e (K:=λb F'=>Lo G F' ((b,c,e)::xs)) (λ_ _ h=>h) b hb)
section
variable {F0 F:PH} {l:List Nd}
set_option maxHeartbeats 1000000 in
theorem AM {s:Sl} {b1 b3 bm bf:Nat} (hT:Tab F0) (hG:GoodL l) (hl:l.length<=512) (hs:RdS F0 s 5 (d7 l)) (le:F0.le F) (q1:F b1=ZO (ZP #[s.v] 144)) (q3:F b3=ZO (ZP #[pa bm] 226))
  (qm:F bm=ZO (ZP (bS s noP noP bf l.length ZQ) 232)) (qf:F bf=ZO (ZP (dp l.length noR).toArray 229)) (zm:F0 bm=ZR) (zf:F0 bf=ZR) {R:ξ->Ψ}
  (k:∀F',Mch F' bm l (bU l)->F0.le F'->R (pa bm) F'):j0 b1 (ZO ⟨b3,0,ZR⟩) R F:=by
 obtain ⟨ns,ht⟩:=iP hG;have hlen:=hs.nlen;have hpos:=Y2.2 hG.ne;have h0:bf≠0:=λe=>by obtain ⟨o,ho⟩:=hT.zero;rw [e,ho] at zf;cases zf
 unfold j0;intro b4 hb4;refine atI ?_;have l4:=ae (ZP #[.nilFunc] 247) hb4;have q4:=au F b4 (ZP #[.nilFunc] 247);have le4:=aa le l4;have q1:=l4 _ _ q1;have q3:=l4 _ _ q3;have qm:=l4 _ _ qm;have qf:=l4 _ _ qf;have z4:F0 b4=ZR:=aV le hb4;clear l4 hb4 le;generalize F.set b4 (ZP #[.nilFunc] 247)=F1 at*;intro b5 hb5;refine atI ?_;have l5:=ae (ZP #[.nilFunc] 251) hb5;have q5:=au F1 b5 (ZP #[.nilFunc] 251);have le5:=aa le4 l5;have q1:=l5 _ _ q1;have q3:=l5 _ _ q3;have qm:=l5 _ _ qm;have qf:=l5 _ _ qf;have n45:b4≠b5:=aI hb5 q4;have q4:=l5 _ _ q4;have z5:F0 b5=ZR:=aV le4 hb5;clear l5 hb5 le4;generalize F1.set b5 (ZP #[.nilFunc] 251)=F2 at*;have ne:∀{x y:Nat} {c d:Γ} {e e':TypeId},e≠e'->F2 x=ZO (ZP c e)->F2 y=ZO (ZP d e')->x≠y:=λhe hx hy e=>by rw [e,hy] at hx;simp at hx;exact he hx.2.symm
 refine st1 (o:=0) q5 (by simp) ?_;show ∃c e,_;have e5:(#[Value.nilFunc]:Γ).setIfInBounds 0 (.func (.func 202) #[] #[pa b3])= #[.func (.func 202) #[] #[pa b3]]:=rfl;rw [e5];have le6:=aA (o:=ZP #[.func (.func 202) #[] #[pa b3]] 251) le5 z5;have q1':(F2.set b5 (ZP #[.func (.func 202) #[] #[pa b3]] 251)) b1=_:=(aB _ _ (ne (by decide) q1 q5)).trans q1;have q3':(F2.set b5 (ZP #[.func (.func 202) #[] #[pa b3]] 251)) b3=_:=(aB _ _ (ne (by decide) q3 q5)).trans q3;have qm':(F2.set b5 (ZP #[.func (.func 202) #[] #[pa b3]] 251)) bm=_:=(aB _ _ (ne (by decide) qm q5)).trans qm;have qf':(F2.set b5 (ZP #[.func (.func 202) #[] #[pa b3]] 251)) bf=_:=(aB _ _ (ne (by decide) qf q5)).trans qf;have q4':(F2.set b5 (ZP #[.func (.func 202) #[] #[pa b3]] 251)) b4=_:=(aB _ _ n45).trans q4;have q5':=au F2 b5 (ZP #[.func (.func 202) #[] #[pa b3]] 251);clear q1 q3 qm qf q4 q5 le5 ne;generalize F2.set b5 (ZP #[.func (.func 202) #[] #[pa b3]] 251)=F3 at*;have ne:∀{x y:Nat} {c d:Γ} {e e':TypeId},e≠e'->F3 x=ZO (ZP c e)->F3 y=ZO (ZP d e')->x≠y:=λhe hx hy e=>by rw [e,hy] at hx;simp at hx;exact he hx.2.symm
 refine st1 (o:=0) q4' (by simp) ?_;have e4:(#[Value.nilFunc]:Γ).setIfInBounds 0 (.func (.func 206) #[] #[pa b1,pa b4,pa b5])= #[.func (.func 206) #[] #[pa b1,pa b4,pa b5]]:=rfl;rw [e4];have le7:=aA (o:=ZP #[.func (.func 206) #[] #[pa b1,pa b4,pa b5]] 247) le6 z4;have q1:(F3.set b4 (ZP #[.func (.func 206) #[] #[pa b1,pa b4,pa b5]] 247)) b1=_:=(aB _ _ (ne (by decide) q1' q4')).trans q1';have q3:(F3.set b4 (ZP #[.func (.func 206) #[] #[pa b1,pa b4,pa b5]] 247)) b3=_:=(aB _ _ (ne (by decide) q3' q4')).trans q3';have qm:(F3.set b4 (ZP #[.func (.func 206) #[] #[pa b1,pa b4,pa b5]] 247)) bm=_:=(aB _ _ (ne (by decide) qm' q4')).trans qm';have qf:(F3.set b4 (ZP #[.func (.func 206) #[] #[pa b1,pa b4,pa b5]] 247)) bf=_:=(aB _ _ (ne (by decide) qf' q4')).trans qf';have q5:(F3.set b4 (ZP #[.func (.func 206) #[] #[pa b1,pa b4,pa b5]] 247)) b5=_:=(aB _ _ n45.symm).trans q5';have q4:=au F3 b4 (ZP #[.func (.func 206) #[] #[pa b1,pa b4,pa b5]] 247);clear q1' q3' qm' qf' q4' q5' le6 ne;generalize F3.set b4 (ZP #[.func (.func 206) #[] #[pa b1,pa b4,pa b5]] 247)=F4 at*;have hs4:=hs.le le7;have hC:Cmp F4 b1 b3 b4 b5 bm bf l noR:=by refine ⟨⟨hT.le le7,q3,⟨_,qm,rfl⟩,qf⟩,⟨s,q1,hs4,λa ha e=> ?_⟩,q4,q5⟩;obtain ⟨o,ho⟩:=hs.block (by rw [iN];omega) ha;rw [e,zf] at ho;cases ho
 have c3:F4.cell (ZX b3 0 ZR)=ZO (pa bm):=by rw [av q3];rfl
 refine ⟨_,rfl,_,c3,_,c3,_,c3,_,by rw [av q4];rfl,s,by rw [av q1];rfl,206,#[],_,rfl,nX,?_⟩;have ew:i64.wrap ((s.len:Int) - 1)=((l.length - 1:Nat):Int):=by rw [hlen,aR (by omega)];omega
 rw [ew];refine (EP hl h0 ht hC).mono ?_;rintro _ F5 ⟨rfl,hC5,hK⟩;have hne:∀{x:Nat} {c:Γ} {e:TypeId},e≠229->F4 x=ZO (ZP c e)->x≠bf:=λhe hx e=>by rw [e,qf] at hx;simp at hx;exact he hx.2.symm
 have q1:=hK _ _ q1 (hne (by decide) q1);have q3:=hK _ _ q3 (hne (by decide) q3);have qm:=hK _ _ qm (hne (by decide) qm);have le8:F0.le F5:=λy o hy=>hK y o (le7 y o hy) λe=>by rw [e,zf] at hy;cases hy
 have c3:∀{G:PH},G b3=ZO (ZP #[pa bm] 226)->G.cell (ZX b3 0 ZR)=ZO (pa bm):=λh=>by rw [av h];rfl
 have n3m:b3≠bm:=λe=>by rw [e,qm] at q3;simp at q3
 have nfm:bf≠bm:=λe=>by rw [<- e,hC5.lnk.qf] at qm;simp at qm
 have nsm:∀a,s.ZK=ZO a->a.block≠bm:=λa ha e=>by obtain ⟨o,ho⟩:=hs.block (by rw [iN];omega) ha;rw [e,zm] at ho;cases ho
 have qf:=hC5.lnk.qf;have hs5:=hs.le le8;clear hC hC5 hK hne;refine ⟨_,_,_,rfl,by rw [av q1];rfl,c3 q3,c3 q3,c3 q3,_,rfl,rfl,gl _,_,_,qm,rfl,(by show 9<=19;omega),?_⟩;refine atI ?_;have w1:wr (bS s noP noP bf l.length ZQ) ((ZX bm 0 ZR).add 1).off (plA (fB (bU l))).toList=bS s (fB (bU l)) noP bf l.length ZQ:=Uv _ _ _ _ _ _ _;rw [w1];show (F5.set bm _).cell _=_/\_;have q3a:(F5.set bm (ZP (bS s (fB (bU l)) noP bf l.length ZQ) 232)) b3=_:=(aB _ _ n3m).trans q3;have qma:=au F5 bm (ZP (bS s (fB (bU l)) noP bf l.length ZQ) 232);refine ⟨c3 q3a,c3 q3a,_,rfl,rfl,gl _,_,_,qma,rfl,(by show 17<=19;omega),?_⟩;refine atI ?_;have w2:wr (bS s (fB (bU l)) noP bf l.length ZQ) ((ZX bm 0 ZR).add 9).off (plA (lB (bU l))).toList=bS s (fB (bU l)) (lB (bU l)) bf l.length ZQ:=Uw _ _ _ _ _ _ _;rw [w2];rw [show ((F5.set ((ZX bm 0 ZR).add 1).block (ZP (bS s (fB (bU l)) noP bf l.length ZQ) 232)).set ((ZX bm 0 ZR).add 9).block (ZP (bS s (fB (bU l)) (lB (bU l)) bf l.length ZQ) 232))=F5.set bm (ZP (bS s (fB (bU l)) (lB (bU l)) bf l.length ZQ) 232) from aW _ _ _ _];have q3b:(F5.set bm (ZP (bS s (fB (bU l)) (lB (bU l)) bf l.length ZQ) 232)) b3=_:=(aB _ _ n3m).trans q3;have qmb:=au F5 bm (ZP (bS s (fB (bU l)) (lB (bU l)) bf l.length ZQ) 232);refine ⟨c3 q3b,_,rfl,?_⟩;refine tf (b:=bm) (o:=18) rfl qmb (by show 18<19;omega) ?_;rw [aW];have w3:(bS s (fB (bU l)) (lB (bU l)) bf l.length ZQ).setIfInBounds 18 (.bool (bU l).nul)=bS s (fB (bU l)) (lB (bU l)) bf l.length (bU l).nul:=Ux _ _ _ _ _ _ _;rw [w3];refine ⟨_,c3 ((aB _ _ n3m).trans q3),k _ ⟨s,bf,au _ _ _,hs5.keep λa ha o ho=>(aB _ _ (nsm a ha)).trans ho,?_⟩ (aA le8 zm)⟩;rw [aB _ _ nfm,qf];congr 3
theorem wV {s:Sl} (hT:Tab F) (hG:GoodL l) (hl:l.length<=512) (hs:RdS F s 5 (d7 l)):ν 184 #[s.v] F λr F'=>(∃bm,r=pa bm/\Mch F' bm l (bU l))/\F.le F':=by
 have hlen:=hs.nlen;refine T7 ?_;unfold NP;have fin:∀{F':PH} {xs:List (Nat×Γ×TypeId)} {b1 bf bm b3:Nat},Lo F F' xs->(b1,#[s.v],144)∈xs->(b3,#[pa bm],226)∈xs->
   (bm,(#[s.v,.int .u64 0,.int .u64 0,.int .u64 0,.int .u64 0,.int .u64 0,.int .u64 0,.int .u64 0,.int .u64 0,.int .u64 0,.int .u64 0,.int .u64 0,.int .u64 0,.int .u64 0,.int .u64 0,.int .u64 0,.int .u64 0,ZS ⟨ZO ⟨bf,0,ZR⟩,s.len,s.len⟩,.bool ZQ]:Γ),232)∈xs->
   (bf,(dp s.len noR).toArray,229)∈xs->j0 b1 (ZO ⟨b3,0,ZR⟩) (λr F'=>(∃bm,r=pa bm/\Mch F' bm l (bU l))/\F.le F') F':=λh m1 m3 mm mf=>by
  have em:∀bf:Nat,(#[s.v,.int .u64 0,.int .u64 0,.int .u64 0,.int .u64 0,.int .u64 0,.int .u64 0,.int .u64 0,.int .u64 0,.int .u64 0,.int .u64 0,.int .u64 0,.int .u64 0,.int .u64 0,.int .u64 0,.int .u64 0,.int .u64 0,ZS ⟨ZO ⟨bf,0,ZR⟩,s.len,s.len⟩,.bool ZQ]:Γ)=bS s noP noP bf l.length ZQ:=λbf=>by unfold bS noP;simp only [xe,hlen];rfl
  rw [em] at mm;rw [hlen] at mf;exact AM hT hG hl hs h.le (h.get m1) (h.get m3) (h.get mm) (h.get mf) (h.z _ mm).2 (h.z _ mf).2 λF'' a b=>⟨⟨_,rfl,a⟩,b⟩
 have h:=Lo.start F;refine h.new _ _ λb1 F1 h=> ?_;have c1:F1.cell (ZX b1 0 ZR)=ZO s.v:=by rw [h.cell (b:=b1) (w:= #[s.v]) (e:=144) (by simp)];rfl
 refine ⟨s,c1,s,c1,?_,?_⟩
 ·refine bW underlying230 HH HI rfl (by omega) (Zv _) (by omega) (by omega) ?_;intro bf hbf;rw [zc8,N5];have h:=h.new' (dp s.len noR).toArray 229 hbf;generalize F1.set bf (ZP (dp s.len noR).toArray 229)=F2 at*;have c1:F2.cell (ZX b1 0 ZR)=ZO s.v:=by rw [h.cell (b:=b1) (w:= #[s.v]) (e:=144) (by simp)];rfl
  refine ⟨_,rfl,c1,c1,?_,?_⟩
  ·refine h.new _ _ λbm F3 h=> ?_;refine h.new _ _ λb3 F4 h=> ?_;refine Lo.put1 [] [(bm,_,232),(bf,_,229),(b1,_,144)] (b:=b3) (i:=0) (w0:= #[.pointer ZR]) (w:= #[pa bm]) (e:=226) h (by simp) rfl λF5 h=> ?_;exact fin h (.tail _ (.tail _ (.tail _ (.head _)))) (.head _) (.tail _ (.head _)) (.tail _ (.tail _ (.head _)))
  ·refine h.new _ _ λb3 F3 h=> ?_;refine h.new _ _ λbm F4 h=> ?_;refine Lo.put1 [(bm,_,232)] [(bf,_,229),(b1,_,144)] (b:=b3) (i:=0) (w0:= #[.pointer ZR]) (w:= #[pa bm]) (e:=226) h (by simp) rfl λF5 h=> ?_;exact fin h (.tail _ (.tail _ (.tail _ (.head _)))) (.tail _ (.head _)) (.head _) (.tail _ (.tail _ (.head _)))
 ·refine h.new _ _ λb3 F2 h=> ?_;refine bW underlying230 HH HI rfl (by omega) (Zv _) (by omega) (by omega) ?_;intro bf hbf;rw [zc8,N5];have h:=h.new' (dp s.len noR).toArray 229 hbf;generalize F2.set bf (ZP (dp s.len noR).toArray 229)=F3 at*;have c1:F3.cell (ZX b1 0 ZR)=ZO s.v:=by rw [h.cell (b:=b1) (w:= #[s.v]) (e:=144) (by simp)];rfl
  refine ⟨_,rfl,c1,c1,?_⟩;refine h.new _ _ λbm F4 h=> ?_;refine Lo.put1 [(bm,_,232),(bf,_,229)] [(b1,_,144)] (b:=b3) (i:=0) (w0:= #[.pointer ZR]) (w:= #[pa bm]) (e:=226) h (by simp) rfl λF5 h=> ?_;exact fin h (.tail _ (.tail _ (.tail _ (.head _)))) (.tail _ (.tail _ (.head _))) (.head _) (.tail _ (.head _))
end
abbrev LSp:=ForInStep (Option Bool×Unit)
section
variable {F:PH}
theorem AN {P:Program} {α:Type} (step:α->Option Bool×Unit->Sem LSp) (eqs:α->Bool):∀(l:List α),(∀a∈l,rdo P (step a (ZR,())) F (if eqs a then .yield (ZR,()) else .done (ZO ZQ,())))->
  rdo P (forIn l (ZR,()) step) F (if l.all eqs then (ZR,()) else (ZO ZQ,()))
 |[],_=>rfl
 |a::l,h=>by
  rw [Zs,ak];refine ⟨_,h a (by simp),?_⟩;rw [Zx];cases eqs a with
  |false=>rfl
  |true=>rw [YY];exact AN step eqs l λb hb=>h b (by simp [hb])
theorem Dx (t:TypeId) (k:IntKind) (ht:prog.underlying t=ZO (.int k)) (d:Nat) (a b:Int):rdo prog (Op.equalIn (d+1) t (.int k a) (.int k b)) F (decide (a=b)):=by simp only [Op.equalIn,ak];refine ⟨_,(az ht _).2 rfl,?_⟩;simp only [if_true,cM];by_cases h:a=b<;>simp [h]
theorem uS (t:TypeId) (k:IntKind) (ht:prog.underlying t=ZO (.int k)) {cs:Γ} {off:Nat} {v:ξ} (h:cs[off]? =ZO v):rdo prog (part t cs off) F v:=by unfold part;simp only [ak];refine ⟨ZQ,(dP ht _).2 rfl,?_⟩;simp only [Yn,if_false,h];rfl
theorem HJ (t:TypeId) (k:IntKind) (ht:prog.underlying t=ZO (.int k)) (n off:Nat) (cs ds:Γ) (x y:Int) (h1:cs[off]? =ZO (.int k x)) (h2:ds[off]? =ZO (.int k y)):
  rdo prog (do
   let a <- part t cs off
   let b <- part t ds off
   let r <- Op.equalIn (n+1) t a b
   if (!r)=ZT then pure (ForInStep.done (ZO ZQ,())) else pure (ForInStep.yield (ZR,())):Sem LSp) F (if decide (x=y)=ZT then .yield (ZR,()) else .done (ZO ZQ,())):=by
 simp only [ak];refine ⟨_,uS t k ht h1,_,uS t k ht h2,_,Dx t k ht n x y,?_⟩;by_cases h:x=y<;>simp [h]
theorem Uy:tsz prog 76=ZO (1,8):=by kernel_rfl
theorem Xb {cs ds:Γ} {f g:Nat->Int} (h1:∀k,k<8->cs[k]? =ZO (.int .u64 (f k))) (h2:∀k,k<8->ds[k]? =ZO (.int .u64 (g k))):
  rdo prog (Op.equal 229 (.agg cs) (.agg ds)) F ((List.range 8).all λk=>decide (f k=g k)):=by
 unfold Op.equal Op.maxDepth;show rdo prog (Op.equalIn (9998+1+1) 229 _ _) _ _;unfold Op.equalIn;simp only [ak];refine ⟨_,(az underlying229 _).2 rfl,?_⟩;dsimp only;refine (ak _ _ _ _).2 ⟨1,(bE Uy _).2 rfl,?_⟩;rw [Std.Legacy.Range.forIn_eq_forIn_range'];simp only [Std.Legacy.Range.size,Y9,ZB,Nat.div_one];rw [ak];refine ⟨_,AN _ (λk=>decide (f k=g k)) _ λk hk=> ?_,?_⟩
 ·have hk8:k<8:=by have:=List.mem_range'.1 hk;omega
  rw [Yj];exact HJ 76 .u64 underlying76 9998 k cs ds _ _ (h1 k hk8) (h2 k hk8)
 ·have hl:List.range' 0 8 1=List.range 8:=rfl;rw [hl];cases (List.range 8).all (λk=>decide (f k=g k))<;>rfl
theorem Xc (P Q:Nat->Bool):rdo prog (Op.equal 229 (.agg (plA P)) (.agg (plA Q))) F ((List.range 8).all λk=>decide ((wd P k:Int)=(wd Q k:Int))):=
 Xb (λ_ h=>fo P h) (λ_ h=>fo Q h)
theorem EQ (P:Nat->Bool):((List.range 8).all λk=>decide ((wd P k:Int)=(wd noP k:Int)))=ZT↔∀i,i<512->P i=ZQ:=by
 rw [Ym];have hz:∀k,wd noP k=0:=λk=>xe k;constructor
 ·intro h i hi;have:=ε (h (i / 64) (Yv.2 (by omega)));rw [hz] at this;have h0:wd P (i / 64)=0:=by omega
  have:=iT.1 h0 (i % 64) (by omega);rwa [show 64*(i / 64)+i % 64=i by omega] at this
 ·intro h k hk;have hk8:=Yv.1 hk;have:wd P k=0:=iT.2 λj hj=>h _ (by omega);rw [hz,this];rfl
end
def Nx (acc fol:Nat->Nat->Prop):(Nat->Prop)->Δ->Nat->Prop
 |S,[],j=>S j
 |S,b::w,j=>Nx acc fol (λj=>∃i,S i/\acc i b/\fol i j) w j
section
variable {acc fol:Nat->Nat->Prop} {e:Nat->Prop}
theorem nY:∀(w u:Δ) (S:Nat->Prop) (j:Nat),Nx acc fol S (w++u) j↔Nx acc fol (Nx acc fol S w) u j
 |[],_,S,j=>Iff.rfl
 |b::w,u,S,j=>nY w u _ j
theorem Dy (w:Δ) (b:Nat) (S:Nat->Prop) (j:Nat):Nx acc fol S (w++[b]) j↔∃i,Nx acc fol S w i/\acc i b/\fol i j:=by rw [nY];rfl
theorem Dz:∀(w:Δ) (S:Nat->Prop),(∀j,¬S j)->∀j,¬Nx acc fol S w j
 |[],S,h,j=>h j
 |b::w,S,h,j=>Dz w _ (λj ⟨i,hi,_⟩=>h i hi) j
theorem HK:∀(w:Δ) (b:Nat) (S:Nat->Prop),(∃i,S i/\Pth acc fol e i (w++[b]))↔∃j,Nx acc fol S w j/\acc j b/\e j
 |[],b,S=>by
  constructor
  ·rintro ⟨i,h1,h2,⟨_,h3⟩|⟨j,_,h3⟩⟩
   ·exact ⟨i,h1,h2,h3⟩
   ·exact h3.elim
  ·rintro ⟨i,h1,h2,h3⟩;exact ⟨i,h1,h2,.inl ⟨rfl,h3⟩⟩
 |c::w,b,S=>by
  have ih:=HK w b (λj=>∃i,S i/\acc i c/\fol i j);show _↔∃j,Nx acc fol (λj=>∃i,S i/\acc i c/\fol i j) w j/\acc j b/\e j;rw [<- ih];constructor
  ·rintro ⟨i,h1,h2,⟨h3,_⟩|⟨j,h3,h4⟩⟩
   ·exact absurd h3 (by simp)
   ·exact ⟨j,⟨i,h1,h2,h3⟩,h4⟩
  ·rintro ⟨j,⟨i,h1,h2,h3⟩,h4⟩;exact ⟨i,h1,h2,.inr ⟨j,h3,h4⟩⟩
end
def mK (l:List Nd) (i b:Nat):Prop:=∃x,l[i]? =ZO x/\x.lo<=(b:Int)/\(b:Int)<=x.hi
theorem ER {l:List Nd} (hG:GoodL l) {i:Nat} {t:Lt} {ns:Δ} (h:cY l i t ns):t.fits (mK l):=by
 induction h with
 |emp=>trivial
 | @rng i lo hi x hx hk hlo hhi hle h255=>
  intro b;constructor
  ·rintro ⟨y,hy,h1,h2⟩;rw [hx] at hy;cases hy;omega
  ·rintro ⟨h1,h2⟩;exact ⟨x,hx,by omega,by omega⟩
 | @seq i a b x t u na nb hx hk hxa hxb ht hu it iu=>exact ⟨it,iu,λj h1 h2=>Oe hG hx (.inl hk) hxa hxb (qx ht j ((d9 ht).2 j h1)) (qx hu j ((d9 hu).2 j h2))⟩
 | @alt i a b x t u na nb hx hk hxa hxb ht hu it iu=>exact ⟨it,iu,λj h1 h2=>Oe hG hx (.inr hk) hxa hxb (qx ht j ((d9 ht).2 j h1)) (qx hu j ((d9 hu).2 j h2))⟩
 |rep _ _ _ _ it=>exact it
abbrev mL (l:List Nd) (t:Lt) (w:Δ):Nat->Prop:=Nx (mK l) t.fol t.first w
theorem DA {l:List Nd} {t:Lt} (hf:t.fits (mK l)) (w:Δ) (b:Nat):Lg t.pat (w++[b])↔∃j,mL l t w j/\mK l j b/\t.last j:=by rw [t.places hf _ (by simp)];exact HK w b t.first
theorem j9 {ws:Δ} {n:Nat} (h:n<ws.length):ws.take (n+1)=ws.take n++[ws[n]]:=by rw [Yy,N6 h];rfl
theorem HM {l:List Nd} {t:Lt} (hf:t.fits (mK l)) {ws:Δ} {n:Nat} (h:n<ws.length) (he:∀j,¬(mL l t (ws.take n) j/\mK l j ws[n])) {m:Nat} (hm:n<m) (hml:m<=ws.length):¬Lg t.pat (ws.take m):=by
 obtain ⟨m,rfl⟩:∃m',m=m'+1:=⟨m - 1,by omega⟩;have hm':m<ws.length:=by omega
 rw [j9 hm',DA hf];rintro ⟨j,h1,h2,_⟩;by_cases e:m=n
 ·subst e;exact he j ⟨h1,h2⟩
 ·have h0:∀j,¬mL l t (ws.take (n+1)) j:=λj hj=>by rw [j9 h] at hj;obtain ⟨i,a,b,_⟩:=(Dy _ _ _ _).1 hj;exact he i ⟨a,b⟩
  have:ws.take m=ws.take (n+1)++(ws.take m).drop (n+1):=by have:=Zq (n+1) (ws.take m);rw [List.take_take,show min (n+1) m=n+1 by omega] at this;exact this.symm
  rw [this] at h1;have h1':=(nY _ _ _ _).1 h1;exact Dz _ _ h0 j h1'
open Classical in
def pj (l:List Nd) (t:Lt) (w:Δ):Nat->Bool:=λj=>decide (mL l t w j)
open Classical in
def wW (l:List Nd) (b:Nat):Nat->Bool:=λi=>decide (mK l i b)
theorem mN {l:List Nd} {t:Lt} {w:Δ} {j:Nat}:pj l t w j=ZT↔mL l t w j:=by simp [pj]
theorem mO {l:List Nd} {b i:Nat}:wW l b i=ZT↔mK l i b:=by simp [wW]
theorem Uz (a0 a1 a2 a3 a4 a5 a6 a7 a8 a9 a10 a11 a12 a13 a14 a15 a16 a17 a18:ξ):(#[a0,a1,a2,a3,a4,a5,a6,a7,a8,a9,a10,a11,a12,a13,a14,a15,a16,a17,a18]:Γ)[1]? =ZO a1:=rfl
theorem UA (a0 a1 a2 a3 a4 a5 a6 a7 a8 a9 a10 a11 a12 a13 a14 a15 a16 a17 a18:ξ):(#[a0,a1,a2,a3,a4,a5,a6,a7,a8,a9,a10,a11,a12,a13,a14,a15,a16,a17,a18]:Γ)[2]? =ZO a2:=rfl
theorem UB (a0 a1 a2 a3 a4 a5 a6 a7 a8 a9 a10 a11 a12 a13 a14 a15 a16 a17 a18:ξ):(#[a0,a1,a2,a3,a4,a5,a6,a7,a8,a9,a10,a11,a12,a13,a14,a15,a16,a17,a18]:Γ)[3]? =ZO a3:=rfl
theorem UC (a0 a1 a2 a3 a4 a5 a6 a7 a8 a9 a10 a11 a12 a13 a14 a15 a16 a17 a18:ξ):(#[a0,a1,a2,a3,a4,a5,a6,a7,a8,a9,a10,a11,a12,a13,a14,a15,a16,a17,a18]:Γ)[4]? =ZO a4:=rfl
theorem UD (a0 a1 a2 a3 a4 a5 a6 a7 a8 a9 a10 a11 a12 a13 a14 a15 a16 a17 a18:ξ):(#[a0,a1,a2,a3,a4,a5,a6,a7,a8,a9,a10,a11,a12,a13,a14,a15,a16,a17,a18]:Γ)[5]? =ZO a5:=rfl
theorem UE (a0 a1 a2 a3 a4 a5 a6 a7 a8 a9 a10 a11 a12 a13 a14 a15 a16 a17 a18:ξ):(#[a0,a1,a2,a3,a4,a5,a6,a7,a8,a9,a10,a11,a12,a13,a14,a15,a16,a17,a18]:Γ)[6]? =ZO a6:=rfl
theorem UF (a0 a1 a2 a3 a4 a5 a6 a7 a8 a9 a10 a11 a12 a13 a14 a15 a16 a17 a18:ξ):(#[a0,a1,a2,a3,a4,a5,a6,a7,a8,a9,a10,a11,a12,a13,a14,a15,a16,a17,a18]:Γ)[7]? =ZO a7:=rfl
theorem UG (a0 a1 a2 a3 a4 a5 a6 a7 a8 a9 a10 a11 a12 a13 a14 a15 a16 a17 a18:ξ):(#[a0,a1,a2,a3,a4,a5,a6,a7,a8,a9,a10,a11,a12,a13,a14,a15,a16,a17,a18]:Γ)[8]? =ZO a8:=rfl
theorem UH (a0 a1 a2 a3 a4 a5 a6 a7 a8 a9 a10 a11 a12 a13 a14 a15 a16 a17 a18:ξ):(#[a0,a1,a2,a3,a4,a5,a6,a7,a8,a9,a10,a11,a12,a13,a14,a15,a16,a17,a18]:Γ)[9]? =ZO a9:=rfl
theorem Pv (a0 a1 a2 a3 a4 a5 a6 a7 a8 a9 a10 a11 a12 a13 a14 a15 a16 a17 a18:ξ):(#[a0,a1,a2,a3,a4,a5,a6,a7,a8,a9,a10,a11,a12,a13,a14,a15,a16,a17,a18]:Γ)[10]? =ZO a10:=rfl
theorem Px (a0 a1 a2 a3 a4 a5 a6 a7 a8 a9 a10 a11 a12 a13 a14 a15 a16 a17 a18:ξ):(#[a0,a1,a2,a3,a4,a5,a6,a7,a8,a9,a10,a11,a12,a13,a14,a15,a16,a17,a18]:Γ)[11]? =ZO a11:=rfl
theorem Py (a0 a1 a2 a3 a4 a5 a6 a7 a8 a9 a10 a11 a12 a13 a14 a15 a16 a17 a18:ξ):(#[a0,a1,a2,a3,a4,a5,a6,a7,a8,a9,a10,a11,a12,a13,a14,a15,a16,a17,a18]:Γ)[12]? =ZO a12:=rfl
theorem Pz (a0 a1 a2 a3 a4 a5 a6 a7 a8 a9 a10 a11 a12 a13 a14 a15 a16 a17 a18:ξ):(#[a0,a1,a2,a3,a4,a5,a6,a7,a8,a9,a10,a11,a12,a13,a14,a15,a16,a17,a18]:Γ)[13]? =ZO a13:=rfl
theorem PA (a0 a1 a2 a3 a4 a5 a6 a7 a8 a9 a10 a11 a12 a13 a14 a15 a16 a17 a18:ξ):(#[a0,a1,a2,a3,a4,a5,a6,a7,a8,a9,a10,a11,a12,a13,a14,a15,a16,a17,a18]:Γ)[14]? =ZO a14:=rfl
theorem PB (a0 a1 a2 a3 a4 a5 a6 a7 a8 a9 a10 a11 a12 a13 a14 a15 a16 a17 a18:ξ):(#[a0,a1,a2,a3,a4,a5,a6,a7,a8,a9,a10,a11,a12,a13,a14,a15,a16,a17,a18]:Γ)[15]? =ZO a15:=rfl
theorem PC (a0 a1 a2 a3 a4 a5 a6 a7 a8 a9 a10 a11 a12 a13 a14 a15 a16 a17 a18:ξ):(#[a0,a1,a2,a3,a4,a5,a6,a7,a8,a9,a10,a11,a12,a13,a14,a15,a16,a17,a18]:Γ)[16]? =ZO a16:=rfl
theorem HN {s:Sl} {P Q:Nat->Bool} {bf n:Nat} {e:Bool} {i:Nat} (hi:i<8):(bS s P Q bf n e)[1+i]? =ZO (di (wd P i))/\(bS s P Q bf n e)[9+i]? =ZO (di (wd Q i)):=by
 have:i=0\/i=1\/i=2\/i=3\/i=4\/i=5\/i=6\/i=7:=by omega
 unfold bS;rcases this with rfl|rfl|rfl|rfl|rfl|rfl|rfl|rfl
 ·exact ⟨Uz _ _ _ _ _ _ _ _ _ _ _ _ _ _ _ _ _ _ _,UH _ _ _ _ _ _ _ _ _ _ _ _ _ _ _ _ _ _ _⟩
 ·exact ⟨UA _ _ _ _ _ _ _ _ _ _ _ _ _ _ _ _ _ _ _,Pv _ _ _ _ _ _ _ _ _ _ _ _ _ _ _ _ _ _ _⟩
 ·exact ⟨UB _ _ _ _ _ _ _ _ _ _ _ _ _ _ _ _ _ _ _,Px _ _ _ _ _ _ _ _ _ _ _ _ _ _ _ _ _ _ _⟩
 ·exact ⟨UC _ _ _ _ _ _ _ _ _ _ _ _ _ _ _ _ _ _ _,Py _ _ _ _ _ _ _ _ _ _ _ _ _ _ _ _ _ _ _⟩
 ·exact ⟨UD _ _ _ _ _ _ _ _ _ _ _ _ _ _ _ _ _ _ _,Pz _ _ _ _ _ _ _ _ _ _ _ _ _ _ _ _ _ _ _⟩
 ·exact ⟨UE _ _ _ _ _ _ _ _ _ _ _ _ _ _ _ _ _ _ _,PA _ _ _ _ _ _ _ _ _ _ _ _ _ _ _ _ _ _ _⟩
 ·exact ⟨UF _ _ _ _ _ _ _ _ _ _ _ _ _ _ _ _ _ _ _,PB _ _ _ _ _ _ _ _ _ _ _ _ _ _ _ _ _ _ _⟩
 ·exact ⟨UG _ _ _ _ _ _ _ _ _ _ _ _ _ _ _ _ _ _ _,PC _ _ _ _ _ _ _ _ _ _ _ _ _ _ _ _ _ _ _⟩
theorem HO {F:PH} {bm:Nat} {s:Sl} {P Q:Nat->Bool} {bf n:Nat} {e:Bool} (h:F bm=ZO (ZP (bS s P Q bf n e) 232)):F.row ((ZX bm 0 ZR).add 1) (plA P)/\F.row ((ZX bm 0 ZR).add 9) (plA Q):=by
 constructor
 ·intro i hi;have hi':i<8:=hi;rw [cD,cD,av h,<- Yc hi,fo P hi',X5];exact (HN hi').1
 ·intro i hi;have hi':i<8:=hi;rw [cD,cD,av h,<- Yc hi,fo Q hi',X5];exact (HN hi').2
theorem HP {F:PH} {bf n i:Nat} {R:Nat->Nat->Bool} (h:F bf=ZO (ZP (dp n R).toArray 229)) (hi:i<n):F.row ((ZX bf 0 ZR).add (i*8)) (plA (R i)):=by
 obtain ⟨pre,post,hpre,hsp,_⟩:=oR hi R;have hs:kD F bf 229 pre (R i) post:=by unfold kD;rw [<- hsp];exact h
 have:=hs.row;rw [hpre] at this;rw [cD,X5];exact this
theorem Xd {F:PH} {s:Sl} {l:List Nd} (h:RdS F s 5 (d7 l)) {i:Nat} {x:Nd} (hx:l[i]? =ZO x):∃a,s.ZK=ZO a/\F.row (a.add (i*5)) x.arr/\F.cell ((a.add (i*5)).add 1)=ZO (vi x.lo)/\F.cell ((a.add (i*5)).add 2)=ZO (vi x.hi):=by obtain ⟨a,h1,h2⟩:=rdn h hx;exact ⟨a,h1,h2,by have:=h2 1 (by simp);simpa using this,by have:=h2 2 (by simp);simpa using this⟩
theorem Lo.sub {G F:PH} {xs ys:List (Nat×Γ×TypeId)} (h:Lo G F xs) (hs:ys.Sublist xs):Lo G F ys:=⟨h.le,λp hp=>h.z p (hs.subset hp),h.nd.sublist (hs.map _)⟩
section
variable {G F:PH} {l:List Nd} {t:Lt} {bm b3 b4 b6 b7 b8 b9 n:Nat} {st:ο} {N P8 P9:Nat->Bool}
theorem ES (hM:Mch G bm l t) (hl:l.length<=512) (h:Lo G F [(b9,plA P9,229),(b8,plA P8,229),(b7,#[vi n],3),(b6,plA N,229),(b4,#[.string st],9),(b3,#[pa bm],226)]) (hn:n<st.size) (_:st.size<=9223372036854775807) {i:Nat} (hi:i<l.length):
  ν 208 #[vi i,pa b4,pa b7,pa b3,pa b8,pa b9] F λr F'=>r=.tuple #[]/\
   Lo G F' [(b9,plA (λj=>P9 j || (wW l (cb st n) i && foB t i j)),229),(b8,plA (λj=>P8 j || (decide (j=i) && wW l (cb st n) i)),229),(b7,#[vi n],3),(b6,plA N,229),(b4,#[.string st],9),(b3,#[pa bm],226)]:=by
 obtain ⟨s,bf,qm,hs,qf⟩:=(hM.le h.le).ex;have hlen:=hs.nlen;refine Ug ?_;unfold NZ;have hx:l[i]? =ZO l[i]:=N6 hi;generalize l[i]=x at hx;obtain ⟨a,ha,_,hlo,hhi⟩:=Xd hs hx;have c3:F.cell (ZX b3 0 ZR)=ZO (pa bm):=by rw [h.cell (b:=b3) (w:= #[pa bm]) (e:=226) (by simp)];rfl
 have cm:F.cell (ZX bm 0 ZR)=ZO s.v:=by rw [av qm];rfl
 have ei:ZY (i:Int)=i:=N5 i;refine ⟨_,rfl,st,by rw [h.cell (b:=b4) (w:= #[.string st]) (e:=9) (by simp)];rfl,_,rfl,(n:Int),by rw [h.cell (b:=b7) (w:= #[vi n]) (e:=3) (by simp)];rfl,by omega,by omega,by simpa using hn,_,rfl,_,rfl,_,c3,_,rfl,s,cm,a,ha,by omega,by omega,x.lo,by rw [ei];exact hlo,?_⟩;rw [Pd rfl hn,U5 (by have:=KG st n;omega)]
 have j1:∀tt:Bool,tt=wW l (cb st n) i->ql i (ZO ⟨b3,0,ZR⟩) (ZO ⟨b8,0,ZR⟩) (ZO ⟨b9,0,ZR⟩) tt (λr F'=>r=.tuple #[]/\
   Lo G F' [(b9,plA (λj=>P9 j || (wW l (cb st n) i && foB t i j)),229),(b8,plA (λj=>P8 j || (decide (j=i) && wW l (cb st n) i)),229),(b7,#[vi n],3),(b6,plA N,229),(b4,#[.string st],9),(b3,#[pa bm],226)]) F:=λtt htt=>by
  unfold ql;refine ⟨λht=> ?_,λht=> ?_⟩
  ·rw [ht] at htt;rw [<- htt];refine (Lo.add [(b9,plA P9,229)] _ (b:=b8) (P:=P8) (by omega) h).mono ?_;rintro _ F2 ⟨rfl,h2⟩;replace h2:Lo G F2 [(b9,plA P9,229),(b8,plA (λj=>P8 j || decide (j=i)),229),(b7,#[vi n],3),(b6,plA N,229),(b4,#[.string st],9),(b3,#[pa bm],226)]:=h2;obtain ⟨s2,bf2,qm2,hs2,qf2⟩:=(hM.le h2.le).ex;have c3':F2.cell (ZX b3 0 ZR)=ZO (pa bm):=by rw [h2.cell (b:=b3) (w:= #[pa bm]) (e:=226) (by simp)];rfl
   refine ⟨rfl,_,rfl,_,c3',_,rfl,_,by rw [cD,X5,av qm2];rfl,_,rfl,by omega,by simp only;omega,plA (foB t i),rfl,by rw [ei];exact HP qf2 hi,?_⟩;refine (Lo.join [] _ (b:=b9) (P:=P9) (Q:=foB t i) h2).mono ?_;rintro _ F3 ⟨rfl,h3⟩;have e1:(λj=>P9 j || (ZT && foB t i j))=λj=>P9 j || foB t i j:=by funext j;simp
   have e2:(λj=>P8 j || (decide (j=i) && ZT))=λj=>P8 j || decide (j=i):=by funext j;simp
   rw [e1,e2];exact ⟨rfl,rfl,h3⟩
  ·rw [ht] at htt;rw [<- htt];have e1:(λj=>P9 j || (ZQ && foB t i j))=P9:=by funext j;simp
   have e2:(λj=>P8 j || (decide (j=i) && ZQ))=P8:=by funext j;simp
   rw [e1,e2];exact ⟨rfl,h⟩
 refine ⟨λh1=>⟨_,c3,_,rfl,s,cm,a,ha,by omega,by omega,x.hi,by rw [ei];exact hhi,j1 _ ?_⟩,λh1=>j1 _ ?_⟩
 ·rw [XV,δ,mO];constructor
  ·exact λh2=>⟨x,hx,h1,h2⟩
  ·rintro ⟨y,hy,_,h2⟩;rw [hx] at hy;cases hy;exact h2
 ·symm;rw [<- Zl,mO];rintro ⟨y,hy,h2,_⟩;rw [hx] at hy;cases hy;exact h1 h2
theorem PD:aE prog 208=ZT:=by kernel_rfl
theorem HQ {acc fol:Nat->Nat->Prop} {P:Nat->Prop} (hf:∀i j,fol i j->P j):∀(w:Δ) (S:Nat->Prop),(∀j,S j->P j)->∀j,Nx acc fol S w j->P j
 |[],S,hS,j,h=>hS j h
 |b::w,S,_,j,h=>HQ hf w _ (λj ⟨i,_,_,h⟩=>hf i j h) j h
theorem sV {l:List Nd} {i0:Nat} {t:Lt} {ns:Δ} (ht:cY l i0 t ns) {w:Δ} {j:Nat} (h:mL l t w j):j<l.length:=
 HQ (P:=λj=>j<l.length) (λi j h=>(d9 ht).1 j ((d9 ht).2 j (t.fol_lab h).2)) w t.first (λj h=>(d9 ht).1 j ((d9 ht).2 j (t.first_lab h))) j h
theorem HR {l:List Nd} {t:Lt} (w:Δ) (b j:Nat):mL l t (w++[b]) j↔∃i,mL l t w i/\mK l i b/\t.fol i j:=Dy w b _ j
theorem Lo.le' {G F F':PH} {xs:List (Nat×Γ×TypeId)} (h:Lo G F xs) (hl:F.le F'):Lo G F' xs:=⟨aa h.le hl,λp hp=>⟨hl _ _ (h.z p hp).1,(h.z p hp).2⟩,h.nd⟩
open Classical in
def reB (l:List Nd) (t:Lt) (w:Δ) (b m:Nat):Nat->Bool:=λj=>decide (j<m/\mL l t w j/\mK l j b)
theorem kf {l:List Nd} {t:Lt} {w:Δ} {b m j:Nat}:reB l t w b m j=ZT↔j<m/\mL l t w j/\mK l j b:=by simp [reB]
open Classical in
def nxB (l:List Nd) (t:Lt) (w:Δ) (b m:Nat):Nat->Bool:=λj=>decide (∃i,i<m/\mL l t w i/\mK l i b/\t.fol i j)
theorem kg {l:List Nd} {t:Lt} {w:Δ} {b m j:Nat}:nxB l t w b m j=ZT↔∃i,i<m/\mL l t w i/\mK l i b/\t.fol i j:=by simp [nxB]
set_option maxHeartbeats 1000000 in
theorem HS {k:FuncId} {cap:Γ} {Inv:Nat->Ψ} (hk:aE prog k=ZT) (hl:l.length<=512) (hG:GoodL l) {ns:Δ} {i0:Nat} (ht:cY l i0 t ns) (hns:st.size<=9223372036854775806)
  (hI:∀n F,Inv n F->Tab F/\Mch F bm l t)
  (h1:∀n F (q:Bool),n<st.size->(q=ZT↔Lg t.pat ((bs st).take (n+1)))->Inv n F->aj prog k (#[vi ((n+1:Nat):Int),.bool q]++cap) F λr F'=>r=.bool ZT/\Inv (n+1) F') (hF:Inv 0 F):
  ν 185 #[pa bm,.string st,.func (.func k) #[] cap] F λr F'=>r=.tuple #[]/\∃n G,n<=st.size/\Inv n G/\G.le F'/\(n=st.size\/∀m,n<m->m<=st.size->¬Lg t.pat ((bs st).take m)):=by
 have hfit:=ER hG ht;refine T8 ?_;unfold NQ;have h:=Lo.start F;refine h.new _ _ λb3 F1 h=> ?_;refine h.new _ _ λb4 F2 h=> ?_;obtain ⟨s,bf,qm,hs,qf⟩:=((hI 0 F hF).2.le h.le).ex;refine ⟨_,by rw [h.cell (b:=b3) (w:= #[pa bm]) (e:=226) (by simp)];rfl,_,rfl,plA (fB t),rfl,(HO qm).1,?_⟩;refine h.new _ _ λb6 F3 h=> ?_;rw [<- d8] at h;refine Lo.put [] _ (n:=8) (b:=b6) (w0:=plA noP) (w:=plA (fB t)) (e:=229) h rfl rfl (gl _) λF4 h=> ?_;replace h:Lo F F4 [(b6,plA (fB t),229),(b4,#[.string st],9),(b3,#[pa bm],226)]:=h;have e0:fB t=pj l t ((bs st).take 0):=by funext j;rw [XV,eE,mN];rfl
 rw [e0] at h;refine ⟨st,by rw [h.cell (b:=b4) (w:= #[.string st]) (e:=9) (by simp)];rfl,λM v F'=>∃n G,v=((n:Nat):Int)/\n<=st.size/\M=st.size - n/\Inv n G/\Lo G F' [(b6,plA (pj l t ((bs st).take n)),229),(b4,#[.string st],9),(b3,#[pa bm],226)],st.size,⟨0,F,rfl,Zj _,rfl,hF,h⟩,?_⟩;clear h qm hs qf e0;rintro _ _ F5 ⟨n,G,rfl,hn,rfl,hIn,h⟩;unfold Da;refine ⟨λhlt=> ?_,λhge=>⟨rfl,n,G,hn,hIn,h.le,.inl (by omega)⟩⟩;have hlt:n<st.size:=by omega
 have hltb:n<(bs st).length:=by rw [cX];exact hlt
 have hcb:cb st n=(bs st)[n]:=by rw [Ht,Yg,N6 hltb];rfl
 refine h.new _ _ λb7 F6 h=> ?_;refine Lo.put1 [] _ (b:=b7) (i:=0) (w0:= #[vi 0]) (w:= #[vi n]) (e:=3) h (by simp) rfl λF7 h=> ?_;replace h:Lo G F7 [(b7,#[vi n],3),(b6,plA (pj l t ((bs st).take n)),229),(b4,#[.string st],9),(b3,#[pa bm],226)]:=h;refine h.new _ _ λb8 F8 h=> ?_;refine h.new _ _ λb9 F9 h=> ?_;rw [<- d8] at h;obtain ⟨hT,hM⟩:=hI n G hIn
 refine (uL (a:=⟨b6,0,ZR⟩) (P:=pj l t ((bs st).take n)) (k:=208) (cap:= #[pa b4,pa b7,pa b3,pa b8,pa b9])
  (Inv:=λm F'=>Lo G F' [(b9,plA (nxB l t ((bs st).take n) (cb st n) m),229),(b8,plA (reB l t ((bs st).take n) (cb st n) m),229),(b7,#[vi n],3),(b6,plA (pj l t ((bs st).take n)),229),(b4,#[.string st],9),(b3,#[pa bm],226)])
  PD rfl (λm F' hI'=>⟨hT.le hI'.le,hI'.row (b:=b6) (w:=plA (pj l t ((bs st).take n))) (e:=229) (by simp)⟩) ?_ ?_ ?_).mono ?_
 ·intro i F' hi hp hI';have hnp:¬mL l t ((bs st).take n) i:=λh=>by rw [mN.2 h] at hp;cases hp
  have e9:nxB l t ((bs st).take n) (cb st n) (i+1)=nxB l t ((bs st).take n) (cb st n) i:=by
   funext j;rw [XV,kg,kg];constructor
   ·rintro ⟨i',h1,h2,h3⟩;have:i'≠i:=λe=>hnp (e▸h2);exact ⟨i',by omega,h2,h3⟩
   ·rintro ⟨i',h1,h2,h3⟩;exact ⟨i',by omega,h2,h3⟩
  have e8:reB l t ((bs st).take n) (cb st n) (i+1)=reB l t ((bs st).take n) (cb st n) i:=by
   funext j;rw [XV,kf,kf];constructor
   ·rintro ⟨h1,h2,h3⟩;have:j≠i:=λe=>hnp (e▸h2);exact ⟨by omega,h2,h3⟩
   ·rintro ⟨h1,h2,h3⟩;exact ⟨by omega,h2,h3⟩
  rw [e9,e8];exact hI'
 ·intro i F' hi hp hI';have hnp:=mN.1 hp;have hil:=sV ht hnp;refine (ES hM hl hI' hlt (by omega) hil).mono ?_;rintro _ F'' ⟨rfl,h2⟩;refine ⟨rfl,?_⟩;have e9:(λj=>nxB l t ((bs st).take n) (cb st n) i j || (wW l (cb st n) i && foB t i j))=nxB l t ((bs st).take n) (cb st n) (i+1):=by
   funext j;rw [XV,YE,Yt,kg,kg,mO,j8];constructor
   ·rintro (⟨i',h1,h2⟩|⟨h1,h2⟩)
    ·exact ⟨i',by omega,h2⟩
    ·exact ⟨i,by omega,hnp,h1,h2⟩
   ·rintro ⟨i',h1,h2,h3⟩;by_cases e:i'=i
    ·subst e;exact .inr h3
    ·exact .inl ⟨i',by omega,h2,h3⟩
  have e8:(λj=>reB l t ((bs st).take n) (cb st n) i j || (decide (j=i) && wW l (cb st n) i))=reB l t ((bs st).take n) (cb st n) (i+1):=by
   funext j;rw [XV,YE,Yt,kf,kf,δ,mO];constructor
   ·rintro (⟨h1,h2⟩|⟨h1,h2⟩)
    ·exact ⟨by omega,h2⟩
    ·subst h1;exact ⟨by omega,hnp,h2⟩
   ·rintro ⟨h1,h2,h3⟩;by_cases e:j=i
    ·subst e;exact .inr ⟨rfl,h3⟩
    ·exact .inl ⟨by omega,h2,h3⟩
  rw [e9,e8] at h2;exact h2
 ·have e9:nxB l t ((bs st).take n) (cb st n) 0=noP:=by funext j;show _=ZQ;rw [<- Zl,kg];rintro ⟨i,h,_⟩;omega
  have e8:reB l t ((bs st).take n) (cb st n) 0=noP:=by funext j;show _=ZQ;rw [<- Zl,kf];rintro ⟨h,_⟩;omega
  rw [e9,e8];exact h
 ·clear h;rintro _ F10 ⟨rfl,h⟩;generalize hre:reB l t ((bs st).take n) (cb st n) 512=re at h;generalize hnx:nxB l t ((bs st).take n) (cb st n) 512=nx at h;have hre':∀j,re j=ZT↔mL l t ((bs st).take n) j/\mK l j (cb st n):=λj=>by rw [<- hre,kf];exact ⟨λh=>h.2,λh=>⟨by have:=sV ht h.1;omega,h⟩⟩
  have hnx':nx=pj l t ((bs st).take (n+1)):=by
   rw [<- hnx];funext j;rw [XV,kg,mN,j9 hltb,HR,<- hcb];constructor
   ·rintro ⟨i',_,h2⟩;exact ⟨i',h2⟩
   ·rintro ⟨i',h2⟩;exact ⟨i',by have:=sV ht h2.1;omega,h2⟩
  refine ⟨rfl,plA re,rfl,h.row (b:=b8) (w:=plA re) (e:=229) (by simp),_,λF=>by have:=Xc (F:=F) re noP;rw [d8] at this;exact this,λhz=> ?_,λhz=> ?_⟩
  ·have hz':=(EQ re).1 hz;refine ⟨rfl,n,G,hn,hIn,h.le,.inr λm hm hml=>HM hfit hltb (λj hj=> ?_) hm (by rw [cX];exact hml)⟩;rw [<- hcb] at hj;have:=hz' j (by have:=sV ht hj.1;omega);rw [(hre' j).2 hj] at this;cases this
  ·obtain ⟨s,bf,qm,hs,qf⟩:=(hM.le h.le).ex;have c7:∀{F' G':PH},Lo G' F' [(b9,plA nx,229),(b8,plA re,229),(b7,#[vi n],3),(b6,plA (pj l t ((bs st).take n)),229),(b4,#[.string st],9),(b3,#[pa bm],226)]->F'.cell (ZX b7 0 ZR)=ZO (vi n):=λh=>by rw [h.cell (b:=b7) (w:= #[vi n]) (e:=3) (by simp)];rfl
   have c3:∀{F' G':PH},Lo G' F' [(b9,plA nx,229),(b8,plA re,229),(b7,#[vi n],3),(b6,plA (pj l t ((bs st).take n)),229),(b4,#[.string st],9),(b3,#[pa bm],226)]->F'.cell (ZX b3 0 ZR)=ZO (pa bm):=λh=>by rw [h.cell (b:=b3) (w:= #[pa bm]) (e:=226) (by simp)];rfl
   refine ⟨_,c7 h,_,c3 h,_,rfl,plA (lB t),rfl,(HO qm).2,?_⟩;refine (yC (pre:=[]) (post:=[]) (Q:=lB t) (kD.own.2 (h.get (b:=b8) (w:=plA re) (e:=229) (by simp)))).mono ?_;rintro _ F11 ⟨⟨q,rfl,hq⟩,l11⟩;have h:=h.le' l11;have hq':q=ZT↔Lg t.pat ((bs st).take (n+1)):=by
    rw [hq,j9 hltb,DA hfit,<- hcb];constructor
    ·rintro ⟨i,_,h2,h3⟩;obtain ⟨h4,h5⟩:=(hre' i).1 h2;exact ⟨i,h4,h5,dG.1 h3⟩
    ·rintro ⟨i,h4,h5,h3⟩;exact ⟨i,by have:=sV ht h4;omega,(hre' i).2 ⟨h4,h5⟩,dG.2 h3⟩
   refine ⟨q,rfl,c3 h,c7 h,h.row (b:=b8) (w:=plA re) (e:=229) (by simp),k,#[],cap,rfl,hk,?_⟩;have hcall:=h.call (h1 n G q hlt hq' hIn);rw [fF (by omega)];refine aj.mono (R:=λr F'=>∃G',(r=.bool ZT/\Inv (n+1) G')/\Lo G' F' _) (by simpa using hcall) ?_;clear hcall h;rintro _ F12 ⟨G',⟨rfl,hIn'⟩,h⟩;refine ⟨ZT,rfl,c3 h,c7 h,h.row (b:=b8) (w:=plA re) (e:=229) (by simp),λhh=>by simp at hh,λ_=>⟨plA nx,rfl,h.row (b:=b9) (w:=plA nx) (e:=229) (by simp),?_⟩⟩;refine Lo.put [(b9,plA nx,229),(b8,plA re,229),(b7,#[vi n],3)] _ (n:=8) (b:=b6) (w0:=plA (pj l t ((bs st).take n))) (w:=plA nx) (e:=229) h rfl rfl (gl _) λF13 h=> ?_;replace h:Lo G' F13 [(b9,plA nx,229),(b8,plA re,229),(b7,#[vi n],3),(b6,plA nx,229),(b4,#[.string st],9),(b3,#[pa bm],226)]:=h;rw [hnx'] at h;exact ⟨st.size - (n+1),by omega,n+1,G',rfl,hlt,rfl,hIn',h.sub (.cons _ (.cons _ (.cons _ (List.Sublist.refl _))))⟩
end
end
