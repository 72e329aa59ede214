/-
  Short words for what recurs in printed clean forms.
-/
import Derived.Test.YtenpmjhnhepfdaaGreatDoorPhv
import Derived.Test.YtenpmjhnhepfdaaGreatDoorPhp
namespace Go.Proofs.YtenpmjhnhepfdaaGreatDoor.Rx
open Go
section
variable {P:Program} {σ:Sy} {E:En} {F:PH} {n:Nat} {ops:Array Oper}
def Fr (M:List Nat) (E E':En):Prop:=∀t,mC M t=false→E' t=E t
theorem uF {a b:List Nat} {t:Nat}:mC (a++b) t=false↔mC a t=false∧mC b t=false:=by
 induction a with
 |nil=>simp [mC]
 |cons x a ih=>
  simp only [List.cons_append,mC]
  cases Nat.beq t x<;>simp [ih]
theorem Fr.refl {M:List Nat} {E:En}:Fr M E E:=fun _ _=>rfl
theorem Fr.trans {M:List Nat} {E E' E'':En} (h:Fr M E E') (h':Fr M E' E''):Fr M E E'':=fun t ht=>(h' t ht).trans (h t ht)
theorem Fr.left {a b:List Nat} {E E':En} (h:Fr a E E'):Fr (a++b) E E':=fun t ht=>h t (uF.1 ht).1
theorem Fr.right {a b:List Nat} {E E':En} (h:Fr b E E'):Fr (a++b) E E':=fun t ht=>h t (uF.1 ht).2
theorem oT {M:List Nat} {d:Nat} (h:d∈M) {t:Nat} (ht:mC M t=false):t≠d:=by
 induction M with
 |nil=>cases h
 |cons x M ih=>
  simp only [mC] at ht
  intro e
  subst e
  rcases List.mem_cons.1 h with rfl|h
  ·have:Nat.beq t t=true:=by simp
   rw [this] at ht;cases ht
  ·cases hb:Nat.beq t x<;>rw [hb] at ht
   ·exact ih h ht rfl
   ·cases ht
theorem wm {M:List Nat} {d:Option Tmp} {v:Value} (h:∀t,d=some t→t∈M):Fr M E (cv E d v):=fun t ht=>mV fun e=>oT (h t e) ht rfl
theorem uG {l:List Oper} {o:Oper} {d:Nat} (ho:o∈l) (hd:o.dst=some d):d∈Cr l:=by
 induction l with
 |nil=>cases ho
 |cons x l ih=>
  unfold Cr
  rcases List.mem_cons.1 ho with rfl|ho
  ·rw [hd];exact List.mem_cons_self ..
  ·split
   ·exact List.mem_cons_of_mem _ (ih ho)
   ·exact ih ho
def QK (M:List Nat) (E0:En) (K:CK):Exit→En→PH→Prop:=fun ex E F=>(∃σ,Rel σ E∧K ex σ F)∧Fr M E0 E
inductive GOk (ops:Array Oper) (σ:Sy) (E:En) (o:Oper):G→Prop
 |go (h:Region.wanted o (yE ops E)=true):GOk ops σ E o .go
 |no (h:Region.wanted o (yE ops E)=false):GOk ops σ E o .no
 |split (i:Nat) (b:SB) (want v:Bool) (hi:σ.T i=some b) (hv:b.v=.bool v) (h:Region.wanted o (yE ops E)=(v==want)):GOk ops σ E o (.split i b want)
 |bad:GOk ops σ E o .bad
theorem Gu {j t:Nat} (hj:(ops[j]?).bind (·.dst)=some t):yE ops E j=(match E t with| .bool b=>some b|_=>none):=by
 unfold yE;rw [hj];rfl
theorem cx (r:Rel σ E) {t:Nat} {w:VW} {v:Value} (hw:σ.vw t=w) (hv:w.val=some v):E t=v:=Gv (r.val t) (by rw [← hw] at hv;exact hv)
theorem wn (r:Rel σ E) (o:Oper):GOk ops σ E o (grd ops σ o):=by
 unfold grd
 split
 ·rename_i hg;exact .go (by unfold Region.wanted;rw [hg])
 ·rename_i j want hg
  have hwn:∀y,Region.wanted o y=(y j==some want):=fun y=>by unfold Region.wanted;rw [hg]
  split
  ·rename_i hn
   refine .no ?_
   rw [hwn];unfold yE;rw [hn];rfl
  ·rename_i t ht
   have hb:∀{b:Bool},E t=.bool b→Region.wanted o (yE ops E)=(b==want):=by
    intro b hb
    rw [hwn,Gu ht,hb];cases b<;>cases want<;>rfl
   split
   ·rename_i b hw
    have:=hb (cx r hw rfl)
    split
    ·rename_i hbw;exact .go (by rw [this];exact hbw)
    ·rename_i hbw;exact .no (by rw [this];exact hbw)
   ·rename_i hw
    refine .no ?_
    rw [hwn,Gu ht,cx r hw rfl];rfl
   ·rename_i i b hw;exact .split i _ want b (Cb hw) rfl (hb (cx r hw rfl))
   ·rename_i i p d hw;exact .split i _ want _ (EP hw) rfl (hb (cx r hw rfl))
   ·exact .bad
theorem B6 {b:SB} {v:Bool} {f:Bool→Prop} (h:spl b f) (hv:b.v=.bool v):f v:=by
 unfold spl at h
 split at h
 ·rename_i b
  obtain rfl:b=v:=by simpa [SB.v] using hv
  cases b
  ·exact h.2 rfl
  ·exact h.1 rfl
 ·rename_i p d
  have: @decide p d=v:=by simpa [SB.v] using hv
  cases v
  ·exact h.2 (of_decide_eq_false this)
  ·exact h.1 (of_decide_eq_true this)
 ·exact h.elim
theorem IV {Q:Exit→En→PH→Prop} {o:Oper} {l:List Oper} {K:Sy→PH→Prop} (hw:Region.wanted o (yE ops E)=true) (hd:eJ n o.dst=true) (h:sxO P o K σ F) (r:Rel σ E)
  (k:∀σ' E' F',Rel σ' E'→(∀t,o.dst≠some t→E' t=E t)→K σ' F'→HL P n ops Q l E' F'):HL P n ops Q (o::l) E F:=by
 unfold sxO at h
 split at h
 ·obtain ⟨σ',nv,ck,v,hy,r',hv,_,h⟩:=Ce h r
  exact Lj hy (k _ _ _ (r'.putO hv) (fun _ ht=>mV ht) h) hw hd
 ·have:=Cp h r
  refine Gs hw hd (cH _ _ this ?_)
  intro nx F' hn
  cases nx with
  |value v=>obtain ⟨fl,σ',_,r',fr,h⟩:=hn;exact k _ _ _ r' fr h
  |skip=>obtain ⟨fl,σ',_,r',fr,h⟩:=hn;exact k _ _ _ r' fr h
  |enter f args=>exact hn.mono fun v F' ⟨fl,σ',_,r',fr,h⟩=>k _ _ _ r' fr h
  |_=>exact hn
theorem wo {M:List Nat} {E0:En} {K:CK}:∀(l:List Oper) (σ:Sy) (E:En) (F:PH),(∀o∈l,∀t,o.dst=some t→t∈M)→Fr M E0 E→sxL P n ops (K .normal) l σ F→Rel σ E→HL P n ops (QK M E0 K) l E F
 |[],σ,E,F,_,fr,h,r=>IT ⟨⟨σ,r,h⟩,fr⟩
 |o::l,σ,E,F,hM,fr,h,r=>by
  unfold sxL at h
  obtain ⟨hd,h⟩:=dP h
  have step:∀{σ:Sy},Rel σ E→Region.wanted o (yE ops E)=true→sxO P o (sxL P n ops (K .normal) l) σ F→HL P n ops (QK M E0 K) (o::l) E F:=fun r hw h=>
   IV hw hd h r fun σ' E' F' r' hf h'=>wo l σ' E' F' (fun o ho=>hM o (List.mem_cons_of_mem _ ho))
    (fr.trans fun t ht=>hf t fun e=>oT (hM o (List.mem_cons_self ..) t e) ht rfl) h' r'
  have skip:∀{σ:Sy},Rel σ E→Region.wanted o (yE ops E)=false→sxL P n ops (K .normal) l (σ.putO o.dst (.sv .und)) F→HL P n ops (QK M E0 K) (o::l) E F:=fun r hw h=>
   ED hw hd (wo l _ _ F (fun o ho=>hM o (List.mem_cons_of_mem _ ho)) (fr.trans (wm fun t e=>hM o (List.mem_cons_self ..) t e)) h (r.putO rfl))
  have g:=wn (ops:=ops) r o
  revert h g
  cases grd ops σ o with
  |go=>intro h g;cases g with|go hw=>exact step r hw h
  |no=>intro h g;cases g with|no hw=>exact skip r hw h
  |bad=>intro h g;exact h.elim
  |split i b want=>
   intro h g
   cases g with
   |split _ _ _ v hi hv hw=>
    have h:=B6 h hv
    have r':Rel (σ.rf i (.lit v)) E:=r.rf hi hv
    split at h
    ·rename_i hvw;exact step r' (by rw [hw];exact hvw) h
    ·rename_i hvw;exact skip r' (by rw [hw];exact hvw) h
end
end Go.Proofs.YtenpmjhnhepfdaaGreatDoor.Rx
namespace Go.Proofs.YtenpmjhnhepfdaaGreatDoor.Rx
open Go
inductive PW:Pn→bO→Prop
 |nil:PW [] []
 |cons {i:Nat} {c:PH→Prop} {S:World→Prop} {pend:Pn} {Sp:bO} (h:∀F,c F→wl F S) (t:PW pend Sp):PW ((i,c)::pend) ((i,S)::Sp)
theorem PW.rest {o:Oper} {pend:Pn} {Sp:bO} (h:PW pend Sp):PW (pend.filter fun p=> !Oper.waits .any o p.1) (bO.rest .any o Sp):=by
 induction h with
 |nil=>exact .nil
 |cons h t ih=>
  rename_i i c S pend Sp
  unfold bO.rest at*
  simp only [List.filter_cons]
  cases Oper.waits .any o i
  ·exact .cons h ih
  ·exact ih
theorem EL {F:PH} {pend:Pn} {Sp:bO} (h:PW pend Sp) {K:Prop} (hc:Jf F pend K):eX Sp F∧K:=by
 induction h with
 |nil=>exact ⟨Gg,hc⟩
 |cons h t ih=>exact ⟨Gh (h _ hc.1) (ih hc.2).1,(ih hc.2).2⟩
theorem EM {F F':PH} {S:World→Prop} (hl:F.le F') (h:wl F S):wl F' S:=fun e w st=>h e w
 ⟨st.os,st.tape,st.output,fun b o hb=>st.heap b o (hl b o hb),fun b o hb=>⟨(by
  cases hF:F b with
  |none=>rfl
  |some u=>
   have h1:=(st.frame b o hb).1
   rw [hl b u hF] at h1
   cases h1),(st.frame b o hb).2⟩⟩
theorem EN {F F':PH} {Sp:bO} (hl:F.le F') (h:eX Sp F):eX Sp F':=fun r hr=>EM hl (h r hr)
theorem Af {F:PH} {o:Oper} {Sp:bO} (h:eX Sp F):eX (bO.rest .any o Sp) F:=fun r hr=>h r (List.mem_filter.1 hr).1
theorem xR:∀{l:List Prop},Jg l→∀p∈l,p
 |[],h=>h.elim
 |[p],h=>by intro q hq;rw [List.mem_singleton] at hq;subst hq;exact h
 |p::q::l,h=>by
  intro u hu
  rcases List.mem_cons.1 hu with rfl|hu
  ·exact h.1
  ·exact xR h.2 u hu
theorem uH {ops:Array Oper} {σ:Sy} {i:Nat} {o:Oper} {g:G}:∀{l:List Nat},rg ops σ l=some (i,o,g)→ops[i]? =some o∧grd ops σ o=g
 |[],h=>by cases h
 |j::l,h=>by
  unfold rg at h
  split at h
  ·cases h
  ·rename_i u hu
   split at h
   ·rename_i hg
    split at h
    ·cases h;exact ⟨hu,hg⟩
    ·exact uH h
   ·cases h;exact ⟨hu,rfl⟩
theorem uI {ops:Array Oper} {σ:Sy}:∀{l:List Nat},rg ops σ l=none→(∀i∈l,ops[i]?≠none)→∀i∈l,∀o,ops[i]? =some o→grd ops σ o=.go
 |[],_,_=>fun i hi=>by cases hi
 |j::l,h,hn=>by
  unfold rg at h
  split at h
  ·rename_i hj;exact absurd hj (hn j (List.mem_cons_self ..))
  ·rename_i u hu
   split at h
   ·rename_i hg
    split at h
    ·cases h
    ·intro i hi o ho
     rcases List.mem_cons.1 hi with rfl|hi
     ·rw [hu] at ho;cases ho;exact hg
     ·exact uI h (fun i hi=>hn i (List.mem_cons_of_mem _ hi)) i hi o ho
   ·cases h
section
variable {P:Program} {n:Nat} {ops:Array Oper} {M:List Nat} {E0:En} {K:CK}
theorem wq {o:Oper} {E:En} {F:PH} {A B:En→PH→Prop} (h:aE P (execOp (ev E) o) F (bz P A o E)) (hab:∀E' F',A E' F'→B E' F'):aE P (execOp (ev E) o) F (bz P B o E):=
 cH _ _ h fun nx F' hn=>by
  cases nx with
  |value v=>exact hab _ _ hn
  |skip=>exact hab _ _ hn
  |enter f args=>exact hn.mono fun v F' h=>hab _ _ h
  |_=>exact hn
def iN (K:CK):Prop:=∀c σ F,¬K (.panic c) σ F
theorem jv (hK:iN K) (hM:∀o∈ops.toList,∀t,o.dst=some t→t∈M):∀(k fuel:Nat) (listed:Array Bool) (pend:Pn) (Sp:bO) (σ:Sy) (E:En) (F:PH),Fr M E0 E→PW pend Sp→eX Sp F→
  sxD P n ops (K .normal) k fuel listed pend σ F→Rel σ E→RG P n ops (QK M E0 K) fuel listed Sp E F
 |0,fuel,listed,pend,Sp,σ,E,F,fr,pw,hh,h,r=>by unfold sxD at h;exact h.elim
 |k+1,fuel,listed,pend,Sp,σ,E,F,fr,pw,hh,h,r=>by
  have hp:∀c E F,¬QK M E0 K (.panic c) E F:=fun c E F ⟨⟨σ,_,h⟩,_⟩=>hK c σ F h
  have mem:∀{i:Nat} {o:Oper},ops[i]? =some o→o∈ops.toList:=fun h=>by
   rw [← Array.getElem?_toList] at h;exact List.mem_of_getElem? h
  unfold sxD at h
  split at h
  ·rename_i hr;exact EH hr ⟨⟨σ,r,h⟩,fr⟩
  ·rename_i rs hne
   split at h
   ·exact h.elim
   ·rename_i fuel
    split at h
    ·rename_i i o g hpk
     obtain ⟨hi,hg⟩:=uH hpk
     obtain ⟨hb,h⟩:=dP h
     simp only [Bool.and_eq_true] at hb
     obtain ⟨⟨⟨h1,h2⟩,h3⟩,h4⟩:=hb
     have gk:=wn (ops:=ops) r o
     rw [hg] at gk
     split at h
     ·cases gk with
      |no hw=>exact EJ hi h1 h2 h3 h4 hp hw hh (jv hK hM k fuel _ pend Sp _ _ F (fr.trans (wm fun t e=>hM o (mem hi) t e)) pw hh h (r.putO rfl))
     ·rename_i j b want
      cases gk with
      |split _ _ _ v hj hv hw=>
       have h:=B6 h hv
       exact jv hK hM k (fuel+1) _ pend Sp _ _ F fr pw hh h (r.rf hj hv)
     ·cases gk with
      |go hw=>
       obtain ⟨σ',nv,ck,v,hy,r',hnv,hck,h⟩:=Ce h r
       have fr':Fr M E0 (cv E o.dst v):=fr.trans (wm fun t e=>hM o (mem hi) t e)
       cases ck with
       |none=>exact Lm hi h1 h2 h3 h4 hp hw hck hh (jv hK hM k fuel _ pend Sp _ _ F fr' pw hh h (r'.putO hnv))
       |some c=>
        refine Ll hi h1 h2 h3 h4 hp hw hy hh (jv hK hM k fuel _ ((i,c)::pend) _ _ _ F fr' (.cons (fun F hc=>xP (hck.2 F hc)) pw) (Gh (xP hy) hh) h (r'.putO hnv))
     ·exact h.elim
    ·rename_i hpk
     have hall:=xR h
     have hev:∀i∈Region.ready .any ops listed,∃o,ops[i]? =some o∧_:=fun i hi=>by
      have:=hall _ (List.mem_map.2 ⟨i,hi,rfl⟩)
      split at this
      ·exact this.elim
      ·rename_i o ho;exact ⟨o,ho,this⟩
     have hgo:=uI hpk (fun i hi e=>by obtain ⟨o,ho,_⟩:=hev i hi;rw [e] at ho;cases ho)
     refine IU rfl (by cases hl:Region.ready .any ops listed with|nil=>exact absurd hl hne|cons _ _=>rfl) fun i hi=> ?_
     obtain ⟨o,ho,hx⟩:=hev i hi
     obtain ⟨hd,hx⟩:=dP hx
     have gk:=wn (ops:=ops) r o
     rw [hgo i hi o ho] at gk
     cases gk with
     |go hw=>
      refine ⟨o,ho,hd,hw,wq (Cp hx r) ?_⟩
      rintro E' F' ⟨fl,σ',hl,r',hf,h⟩
      have fr':Fr M E0 E':=fr.trans fun t ht=>hf t fun e=>oT (hM o (mem ho) t e) ht rfl
      cases fl with
      |true=>
       have hh':=EN (hl rfl) (Af (o:=o) hh)
       exact ⟨hh',jv hK hM k fuel _ _ _ _ _ F' fr' pw.rest hh' h r'⟩
      |false=>
       obtain ⟨hh',h⟩:=EL pw.rest h
       exact ⟨hh',jv hK hM k fuel _ _ _ _ _ F' fr' pw.rest hh' h r'⟩
end
end Go.Proofs.YtenpmjhnhepfdaaGreatDoor.Rx
namespace Go.Proofs.YtenpmjhnhepfdaaGreatDoor.Rx
open Go
section
variable {P:Program} {n:Nat} {σ σ0:Sy} {E:En} {F:PH} {K:CK}
theorem eN {c:Code} {Q Q':Exit→En→PH→Prop} (h:HC P n c Q E F) (k:∀x E F,Q x E F→Q' x E F):HC P n c Q' E F:=fun e a w ag st=>
 wp_mono (h e a w ag st) fun _ _ _ ⟨E',F',ag',st',q⟩=>⟨E',F',ag',st',k _ _ _ q⟩
theorem Rel.hav (r:Rel σ E) {M:List Nat} {E':En} (fr:Fr M E E'):Rel (σ.hav M) E':=by
 refine ⟨fun t=> ?_,r.top⟩
 show okV σ.T (bif mC M t then .unk else σ.S t) (E' t)
 cases hm:mC M t with
 |true=>exact True.intro
 |false=>rw [fr t hm];exact r.val t
theorem sI {t:Nat} {k:Kd} {J:k.T→Prop} (h:pay (σ.vw t) k J) (r:Rel σ E):∃x,E t=k.v x∧J x∧∀J':k.T→Prop,J' x→pay (σ.vw t) k J':=by
 cases k<;>simp only [pay] at h ⊢
 case int k=>
  split at h
  ·rename_i k' x hw
   split at h
   ·rename_i hk
    obtain rfl:=of_decide_eq_true hk
    exact ⟨x,cx r hw rfl,h,fun J' h'=>h'⟩
   ·exact h.elim
  ·exact h.elim
 case bool=>
  split at h
  ·rename_i b hw;exact ⟨b,cx r hw rfl,h,fun _ h'=>h'⟩
  ·rename_i i b hw;exact ⟨b,cx r hw rfl,h,fun _ h'=>h'⟩
  ·rename_i i p d hw;exact ⟨_,cx r hw rfl,h,fun _ h'=>h'⟩
  ·exact h.elim
 case ptr=>
  split at h
  ·rename_i a hw;exact ⟨some a,cx r hw rfl,h,fun _ h'=>h'⟩
  ·rename_i i p hw;exact ⟨p,cx r hw rfl,h,fun _ h'=>h'⟩
  ·rename_i p hw;exact ⟨p,cx r hw rfl,h,fun _ h'=>h'⟩
  ·exact h.elim
 case sl=>
  split at h
  ·rename_i b l c hw;exact ⟨⟨b,l,c⟩,cx r hw rfl,h,fun _ h'=>h'⟩
  ·exact h.elim
 case str=>
  split at h
  ·rename_i s hw;exact ⟨s,cx r hw rfl,h,fun _ h'=>h'⟩
  ·exact h.elim
 case map=>
  split at h
  ·rename_i s hw;exact ⟨s,cx r hw rfl,h,fun _ h'=>h'⟩
  ·exact h.elim
 case agg=>
  split at h
  ·rename_i s hw;exact ⟨s,cx r hw rfl,h,fun _ h'=>h'⟩
  ·exact h.elim
 case any=>
  split at h
  ·rename_i v hw;exact ⟨v,cx r rfl hw,h,fun _ h'=>h'⟩
  ·exact h.elim
theorem B7 (r:Rel σ0 E) {t:Nat} {k:Kd} {x:k.T} (hx:E t=k.v x):Rel (σ0.put t (k.nv x)) E:=by
 have:=r.put (d:=t) (oV (T:=σ0.T) k x)
 rw [uz hx] at this
 exact this
theorem xS {f:Sy→PH→Prop} (r:Rel σ E):∀(l:List (Nat×Kd)) {J:Tl l} {σ0:Sy},Jh f l J σ0→Rel σ0 E→jap σ l J F→∃σ',Rel σ' E∧f σ' F
 |[],J,σ0,h,r0,hj=>⟨σ0,r0,h F hj⟩
 | (t,k)::l,J,σ0,h,r0,hj=>by
  obtain ⟨x,hx,hj,_⟩:=sI hj r
  exact xS r l (h x) (B7 r0 hx) hj
theorem wt {f:Sy→PH→Prop} (r:Rel σ E):∀(l:List (Nat×Kd)) {σ0:Sy},Rel σ0 E→jap σ l (jbd f l σ0) F→∃σ',Rel σ' E∧f σ' F
 |[],σ0,r0,hj=>⟨σ0,r0,hj⟩
 | (t,k)::l,σ0,r0,hj=>by
  obtain ⟨x,hx,hj,_⟩:=sI hj r
  exact wt r l (B7 r0 hx) hj
theorem xT (r:Rel σ E):∀(l:List (Nat×Kd)) {J Y:Tl l},Ji l J Y→jap σ l J F→jap σ l Y F
 |[],J,Y,h,hj=>h F hj
 | (t,k)::l,J,Y,h,hj=>by
  obtain ⟨x,hx,hj,hp⟩:=sI hj r
  exact hp _ (xT r l (h x) hj)
theorem B8 (r:Rel σ E):∀(l:List (Nat×Kd)) {I:Nat→Tl l} {m:Nat},jap σ l (jdn l I m) F→∃m',m'<m∧jap σ l (I m') F
 |[],I,m,h=>h
 | (t,k)::l,I,m,h=>by
  obtain ⟨x,hx,hj,hp⟩:=sI h r
  obtain ⟨m',hm,hj⟩:=B8 r l hj
  exact ⟨m',hm,hp _ hj⟩
theorem sJ {f:Sy→PH→Prop} (h:iN K):iN (onN f K):=h
theorem IW {id:Nat} (h:iN K):iN (onX id K):=h
theorem j9:∀(c:Code) (h:gL) (K:CK) (σ:Sy) (E:En) (F:PH),iN K→sx P n c h K σ F→Rel σ E→HC P n c (QK (ic c) E K) E F
 | .skip,_,K,σ,E,F,_,h,r=>EA ⟨⟨σ,r,h⟩,.refl⟩
 | .ret,_,K,σ,E,F,_,h,r=>IS ⟨⟨σ,r,h⟩,.refl⟩
 | .exit i,_,K,σ,E,F,_,h,r=>EB ⟨⟨σ,r,h⟩,.refl⟩
 | .region id ⟨ops⟩ false,_,K,σ,E,F,hK,h,r=>Ae (wo ops σ E F (fun o ho t ht=>uG ho ht) .refl h r)
 | .region id ops true,_,K,σ,E,F,hK,h,r=>by
  unfold sx at h
  obtain ⟨hm,h⟩:=dP h
  exact EG hm (jv hK (fun o ho t ht=>uG ho ht) _ _ _ _ _ _ _ _ .refl .nil Gg h r)
 | .seq a b,hh,K,σ,E,F,hK,h,r=>by
  have other:∀{f:Sy→PH→Prop} (x:Exit) (E':En) (F':PH),x≠.normal→QK (ic a) E (onN f K) x E' F'→QK (ic (.seq a b)) E K x E' F':=by
   intro f x E' F' hx ⟨⟨σ',r',h'⟩,fr⟩
   refine ⟨⟨σ',r',?_⟩,fr.left⟩
   cases x<;>first|exact absurd rfl hx|exact h'
  have thn:∀{σ':Sy} {E':En} {F':PH},Fr (ic a) E E'→Rel σ' E'→sx P n b hh.snd K σ' F'→HC P n b (QK (ic (.seq a b)) E K) E' F':=by
   intro σ' E' F' fr r' h'
   exact eN (j9 b _ K σ' E' F' hK h' r') fun x E'' F'' ⟨h1,fr'⟩=>⟨h1,fr.left.trans fr'.right⟩
  unfold sx at h
  split at h
  ·refine wh (eN (j9 a _ _ σ E F (sJ hK) h r) fun x E' F' q=> ?_)
   cases x with
   |normal=>obtain ⟨⟨σ',r',h'⟩,fr⟩:=q;exact thn fr r' h'
   |_=>exact other _ _ _ (by intro e;cases e) q
  ·rename_i l _
   refine wh (eN (j9 a _ _ σ E F (sJ hK) h r) fun x E' F' q=> ?_)
   cases x with
   |normal=>
    obtain ⟨⟨σ',r',h'⟩,fr⟩:=q
    obtain ⟨σ2,r2,h2⟩:=wt r' l (r.hav fr) h'
    exact thn fr r2 h2
   |_=>exact other _ _ _ (by intro e;cases e) q
  ·rename_i l _
   obtain ⟨J,hJ,h⟩:=h
   refine wh (eN (j9 a _ _ σ E F (sJ hK) h r) fun x E' F' q=> ?_)
   cases x with
   |normal=>
    obtain ⟨⟨σ',r',h'⟩,fr⟩:=q
    obtain ⟨σ2,r2,h2⟩:=wt r' l (r.hav fr) (xT r' l hJ h')
    exact thn fr r2 h2
   |_=>exact other _ _ _ (by intro e;cases e) q
 | .cond c a b,hh,K,σ,E,F,hK,h,r=>by
  have ha:sx P n a hh.fst K σ F→HC P n a (QK (ic (.cond c a b)) E K) E F:=fun h=>eN (j9 a _ K σ E F hK h r) fun x E' F' ⟨h1,fr⟩=>⟨h1,fr.left⟩
  have hb:sx P n b hh.snd K σ F→HC P n b (QK (ic (.cond c a b)) E K) E F:=fun h=>eN (j9 b _ K σ E F hK h r) fun x E' F' ⟨h1,fr⟩=>⟨h1,fr.right⟩
  unfold sx at h
  split at h
  ·rename_i hw;exact BR (aV r hw rfl) (ha h)
  ·rename_i hw;exact BS (aV r hw rfl) (hb h)
  ·rename_i i t hw;exact mS (aV r hw rfl) (fun ht=>ha (h.1 ht)) (fun ht=>hb (h.2 ht))
  ·rename_i i p d hw;exact mS (t:= @decide p d) (aV r hw rfl) (fun ht=>ha (h.1 (of_decide_eq_true ht))) (fun ht=>hb (h.2 (of_decide_eq_false ht)))
  ·exact h.elim
 | .block id c,hh,K,σ,E,F,hK,h,r=>by
  refine B5 (eN (j9 c hh _ σ E F (IW hK) h r) fun x E' F' q=> ?_)
  obtain ⟨⟨σ',r',h'⟩,fr⟩:=q
  cases x with
  |exit i=>
   show bif Nat.beq i id then QK _ E K .normal E' F' else QK _ E K (.exit i) E' F'
   have h':bif Nat.beq i id then K .normal σ' F' else K (.exit i) σ' F':=h'
   cases hb:Nat.beq i id<;>rw [hb] at h'<;>exact ⟨⟨σ',r',h'⟩,fr⟩
  |_=>exact ⟨⟨σ',r',h'⟩,fr⟩
 | .loop c,hh,K,σ,E,F,hK,h,r=>by
  obtain ⟨I,m,h0,hr⟩:=h
  refine EC (fun m E' F'=>(∃σ',Rel σ' E'∧jap σ' hh.lv (I m) F')∧Fr (ic c) E E') m ⟨⟨σ,r,h0⟩,.refl⟩ ?_
  rintro m E' F' ⟨⟨σ',r',hj⟩,fr⟩
  obtain ⟨σ2,r2,h2⟩:=xS r' _ (hr m) (r.hav fr) hj
  refine eN (j9 c _ _ σ2 E' F' (sJ hK) h2 r2) fun x E'' F'' q=> ?_
  obtain ⟨⟨σ3,r3,h3⟩,fr'⟩:=q
  cases x with
  |normal=>
   obtain ⟨m',hm,hj'⟩:=B8 r3 _ h3
   exact ⟨m',hm,⟨σ3,r3,hj'⟩,fr.trans fr'⟩
  |_=>exact ⟨⟨σ3,r3,h3⟩,fr.trans fr'⟩
 | .rangeFunc ..,_,_,_,_,_,_,h,_=>h.elim
 | .scope _,_,_,_,_,_,_,h,_=>h.elim
 | .label _,_,_,_,_,_,_,h,_=>h.elim
 | .goto _,_,_,_,_,_,_,h,_=>h.elim
 | .refuse _,_,_,_,_,_,_,h,_=>h.elim
inductive RVs (P:Program) (E:En) (F:PH):List ResultVar→List Value→Prop
 |nil:RVs P E F [] []
 |cons {r:ResultVar} {v:Value} {l:List ResultVar} {vs:List Value} (h:jr P E F r v) (t:RVs P E F l vs):RVs P E F (r::l) (v::vs)
theorem ia (r:Rel σ E):∀(l:List ResultVar) {K:List Value→Prop},oX P σ l F K→∃vs,RVs P E F l vs∧K vs
 |[],K,h=>⟨[],.nil,h⟩
 | .tmp t::l,K,h=>by
  unfold oX at h
  split at h
  ·rename_i v hv
   obtain ⟨vs,h1,h2⟩:=ia r l h
   exact ⟨v::vs,.cons (sG (cx r rfl hv)) h1,h2⟩
  ·exact h.elim
 | .cell x t::l,K,h=>by
  unfold oX at h
  split at h
  ·rename_i a hw
   split at h
   ·exact h.elim
   ·rename_i d hd
    split at h
    ·rename_i hk
     split at h
     ·rename_i m b hz
      obtain ⟨v,h1,h2,h⟩:=h
      obtain ⟨vs,h3,h4⟩:=ia r l h
      exact ⟨_,.cons (BV (cx r hw rfl) hd (sL hk) hz h1 h2) h3,h4⟩
     ·exact h.elim
    ·rename_i hk
     obtain ⟨v,h1,h⟩:=h
     obtain ⟨vs,h3,h4⟩:=ia r l h
     exact ⟨_,.cons (BW (cx r hw rfl) hd (mU hk) h1) h3,h4⟩
  ·exact h.elim
theorem B9 {fn:Func} {vs:List Value} (h:RVs P E F fn.results.toList vs) (hl:Nat.ble fn.results.size 4=true):oQ P fn E F (LO vs):=by
 have hl:=Nat.le_of_ble_eq_true hl
 have key:∀l,fn.results.toList=l→fn.results=l.toArray:=fun l h=>by rw [← h]
 generalize hg:fn.results.toList=l at h
 have hk:=key _ hg
 have hlen:l.length≤4:=by rw [← hg];simpa using hl
 cases h with
 |nil=>exact PC hk
 |cons h1 t=>
  cases t with
  |nil=>exact Le hk h1
  |cons h2 t=>
   cases t with
   |nil=>exact Lf hk h1 h2
   |cons h3 t=>
    cases t with
    |nil=>exact PD hk h1 h2 h3
    |cons h4 t=>
     cases t with
     |nil=>exact PB hk h1 h2 h3 h4
     |cons h5 t=>simp at hlen
theorem IX {fn:Func} {R:Value→PH→Prop} {x:Exit} {M:List Nat} {E0:En} (h:QK M E0 (LP P fn R) x E F):EE P fn R x E F:=by
 obtain ⟨⟨σ,r,h⟩,_⟩:=h
 cases x with
 |normal=>
  obtain ⟨hl,h⟩:=dP h
  obtain ⟨vs,h1,h2⟩:=ia r _ h
  exact ⟨_,B9 h1 hl,h2⟩
 |ret=>
  obtain ⟨hl,h⟩:=dP h
  obtain ⟨vs,h1,h2⟩:=ia r _ h
  exact ⟨_,B9 h1 hl,h2⟩
 |_=>exact h.elim
theorem oU:∀(vs:List Value) (ts:List TypeId) (i:Nat) (σ:Sy),(∀j v,vs[j]? =some v→E (i+j)=v)→Rel σ E→Rel (xV P i ts vs σ) E
 |[],ts,i,σ,_,r=>by cases ts<;>exact r
 |v::vs,ts,i,σ,h,r=>by
  have hi:E i=v:=h 0 v rfl
  have step:∀k:Kd,Rel (σ.put i (ofk k v)) E:=fun k=>by
   have:=r.put (d:=i) (Cc (T:=σ.T) k v)
   rw [uz hi] at this
   exact this
  have hn:∀j u,vs[j]? =some u→E (i+1+j)=u:=fun j u hj=>by
   have:=h (j+1) u (by simpa using hj)
   rw [show i+1+j=i+(j+1) by omega];exact this
  cases ts with
  |nil=>exact oU vs [] (i+1) _ hn (step _)
  |cons t ts=>exact oU vs ts (i+1) _ hn (step _)
theorem IY {k:Nat} {h:gL} {args:List Value} {R:Value→PH→Prop} (hs:sxF P k h args R F):ac P k args.toArray F R:=by
 unfold sxF at hs
 split at hs
 ·exact hs.elim
 ·rename_i fn hf
  split at hs
  ·exact hs.elim
  ·rename_i c hb
   obtain ⟨hl,hs⟩:=dP hs
   refine EF hf hb rfl hl (eN (j9 c h _ _ (IR args) F (fun c σ F h=>h) hs (oU args _ 0 _ (fun j v hj=> ?_) ⟨fun t=>True.intro,fun j _=>rfl⟩)) fun x E F q=>IX q)
   simp only [Nat.zero_add]
   show args.getD j undef=v
   rw [List.getD_eq_getElem?_getD,hj];rfl
theorem sxC {k:Nat} (h:gL) {args:List Value} {R:Value→PH→Prop} {b:Prop} (e:b=sxF P k h args R F) (hb:b):ac P k args.toArray F R:=IY (e▸hb)
end
end Go.Proofs.YtenpmjhnhepfdaaGreatDoor.Rx
namespace Go.Proofs.YtenpmjhnhepfdaaGreatDoor
open Go Go.Proofs.Tryz
abbrev Am (b o:Nat):Addr:=Addr.mk b o none
abbrev Sb (b n:Nat):Sl:=Sl.mk (some (Am b 0)) n n
abbrev zG:Array Value:= #[.slice none 0 0,.slice none 0 0,.int .i64 0,.slice none 0 0,.slice none 0 0,.slice none 0 0,.int .i64 0,.slice none 0 0,.slice none 0 0]
abbrev zP:Array Value:= #[.string ⟨#[]⟩,.int .i64 0,.slice none 0 0,.slice none 0 0,.int .i64 0,.bool false,.int .i64 0,.slice none 0 0,.bool false,.int .i64 0,.int .i64 0,.int .i64 0,.int .i64 0]
abbrev zT:Array Value:= #[.string ⟨#[]⟩,.int .i64 0,.string ⟨#[]⟩,.slice none 0 0,.string ⟨#[]⟩,.slice none 0 0,.int .i64 0]
abbrev zF:Array Value:= #[.int .i64 0,.int .i64 0,.int .i64 0,.int .i64 0,.int .i64 0,.int .i64 0,.slice none 0 0,.slice none 0 0,.int .i64 0]
abbrev zL:Array Value:= #[.slice none 0 0,.int .i64 0,.slice none 0 0,.int .i64 0]
abbrev zD:Array Value:= #[.slice none 0 0,.int .i64 0]
section
variable (F:PH) (a:Addr)
abbrev Rr (n:Nat) (a:Addr) (R:VR) (F:PH):Prop:=∃v:Array Value,v.size=n∧F.row a v∧R (.agg v) F
abbrev Lr (n:Nat) (a:Addr) (K:Array Value→Prop):Prop:=∃v:Array Value,v.size=n∧F.row a v∧K v
abbrev Li (K:Int→Prop):Prop:=∃v:Int,F.cell a=some (.int .i64 v)∧K v
abbrev Lk (k:IntKind) (a:Addr) (K:Int→Prop):Prop:=∃v:Int,F.cell a=some (.int k v)∧K v
abbrev Lq (K:Option Addr→Prop):Prop:=∃v:Option Addr,F.cell a=some (.pointer v)∧K v
abbrev Ls (K:Sl→Prop):Prop:=∃v:Sl,F.cell a=some (Sl.v v)∧K v
abbrev Lb (K:Bool→Prop):Prop:=∃v:Bool,F.cell a=some (.bool v)∧K v
abbrev Lx (K:ByteArray→Prop):Prop:=∃v:ByteArray,F.cell a=some (.string v)∧K v
end
abbrev Ix (s:Sl) (i:Int) (K:Addr→Prop):Prop:=∃a:Addr,s.base=some a∧0≤i∧i<(s.len:Int)∧K a
abbrev Fn (f:Value) (K:Nat→Array Value→Array Value→Prop):Prop:=∃(k:Nat) (fst cap:Array Value),f=.func (.func k) fst cap∧au prog k=true∧K k fst cap
section
variable (k:Nat) (ar:Array Value) (F:PH)
abbrev Ap (K:Sl→PH→Prop):Prop:=aE prog (Builtin.append_ #[k,k] k ar) F fun v F=>∃x:Sl,v=Sl.v x∧K x F
abbrev Ca (K:Array Value→PH→Prop):Prop:=ac prog k ar F fun v F=>∃x:Array Value,v=.agg x∧K x F
abbrev Ci (K:Int→PH→Prop):Prop:=ac prog k ar F fun v F=>∃x:Int,v=.int .i64 x∧K x F
abbrev Cbo (K:Bool→PH→Prop):Prop:=ac prog k ar F fun v F=>∃x:Bool,v=.bool x∧K x F
abbrev Cs (K:Sl→PH→Prop):Prop:=ac prog k ar F fun v F=>∃x:Sl,v=Sl.v x∧K x F
abbrev Cu (K:PH→Prop):Prop:=ac prog k ar F fun v F=>v=Value.tuple #[]∧K F
end
abbrev Nb (F:PH) (o:Obj) (K:Nat→PH→Prop):Prop:=∀b,F b=none→atF (F.set b o) (K b)
abbrev Bc (c A B:Prop):Prop:=(c→A)∧(¬c→B)
abbrev Bb (c:Bool) (A B:Prop):Prop:=(c=true→A)∧(c=false→B)
abbrev Lp {α:Type} (x:α) (F:PH) (B:(α→PH→Prop)→α→PH→Prop):Prop:=∃(I:Nat→α→PH→Prop) (m:Nat),I m x F∧∀m x F,I m x F→B (fun y F=>∃m',m'<m∧I m' y F) x F
end Go.Proofs.YtenpmjhnhepfdaaGreatDoor
