/-
  First tokens in one configuration.
-/
import Derived.Test.YtcemhghkipgdiaaGreatDoorAc
namespace Go.Proofs.YtcemhghkipgdiaaGreatDoor
open Go Go.Proofs.Tryz Tr
inductive Rch (l:List Pr) (P:Nat->Tr) (fam:Tr) (start:Int) (c:Cf):Int->Prop
 |start:fam.ev c=true->Rch l P fam start c start
 |step (i:Nat) (x:Pr) (s:Sy):l[i]? =some x->(P i).ev c=true->Rch l P fam start c x.left->(∀y∈x.right,y.t=false->Der l P false c y.i)->s∈x.right->s.t=false->Rch l P fam start c s.i
def Use (l:List Pr) (P:Nat->Tr) (fam:Tr) (start:Int) (c:Cf) (i:Nat):Prop:=∃x,l[i]? =some x/\(P i).ev c=true/\Rch l P fam start c x.left/\∀y∈x.right,y.t=false->Der l P false c y.i
section
variable {k:Nat} {l:List Pr} {P:Nat->Tr} {fam:Tr} {start:Int} {D:Int->Tr}
noncomputable def eD (d:Tr):List Sy->(Int->Tr)->Int->Tr
 |[],S=>S
 |s::r,S=>eD d r (if s.t=true then S else cC S s.i d)
theorem eF {d:Tr} (hd:Sx k d):∀(r:List Sy) {S:Int->Tr},Sxs k S->Sxs k (eD d r S)/\∀n c,(eD d r S n).ev c=true↔(S n).ev c=true\/(d.ev c=true/\∃s∈r,s.t=false/\s.i=n)
 |[],S,hS=>⟨hS,λn c=>⟨.inl,λh=>h.resolve_right λ⟨_,s,hs,_⟩=>by cases hs⟩⟩
 |s::r,S,hS=>by
  unfold eD;by_cases ht:s.t=true
  ·rw [if_pos ht];obtain ⟨h1,h2⟩:=eF hd r hS;refine ⟨h1,λn c=>(h2 n c).trans ⟨λh=>h.imp id λ⟨a,s',b,e⟩=>⟨a,s',Ve _ b,e⟩,λh=>h.imp id λ⟨a,s',b,e,e'⟩=>⟨a,s',?_,e,e'⟩⟩⟩;rcases UT.1 b with rfl|b
   ·rw [ht] at e;cases e
   ·exact b
  ·rw [if_neg ht];have ht:s.t=false:=VV.2 ht;obtain ⟨h1,h2⟩:=eF hd r (dE hS hd (n:=s.i));refine ⟨h1,λn c=>(h2 n c).trans ?_⟩;rw [fK hS hd,Wn,Vj,decide_eq_true_eq];constructor
   ·rintro ((h|⟨h,h'⟩)|⟨h,s',a,b,e⟩)
    ·exact .inl h
    ·exact .inr ⟨h',s,by simp,ht,h.symm⟩
    ·exact .inr ⟨h,s',Ve _ a,b,e⟩
   ·rintro (h|⟨h,s',a,b,e⟩)
    ·exact .inl (.inl h)
    ·rcases UT.1 a with rfl|a
     ·exact .inl (.inr ⟨e.symm,h⟩)
     ·exact .inr ⟨h,s',a,b,e⟩
noncomputable def fR (P:Nat->Tr) (D S:Int->Tr) (i:Nat) (x:Pr):Tr:=dF D (ap2 bj (S x.left) (P i)) x.right
theorem eg (hP:∀i,Sx k (P i)) (hD:Sxs k D) {S:Int->Tr} (hS:Sxs k S) (i:Nat) (x:Pr):
  Sx k (fR P D S i x)/\∀c,(fR P D S i x).ev c=true↔(S x.left).ev c=true/\(P i).ev c=true/\∀s∈x.right,s.t=false->(D s.i).ev c=true:=by
 obtain ⟨h1,h2⟩:=bx hD x.right ((hS x.left).ap2 (o:=bj) (hP i));refine ⟨h1,λc=> ?_⟩;unfold fR;rw [h2,(bA (hS x.left).1 (hP i).1).2,Vj,Vj,Vv,and_assoc];refine and_congr_right λ_=>and_congr_right λ_=>forall_congr' λs=>forall_congr' λ_=> ?_;cases s.t<;>simp
noncomputable def gf (P:Nat->Tr) (D:Int->Tr):Nat->List Pr->(Int->Tr)->Int->Tr
 |_,[],S=>S
 |i,x::l,S=>gf P D (i+1) l (eD (fR P D S i x) x.right S)
theorem iM (hP:∀i,Sx k (P i)) (hD:Sxs k D):∀(l:List Pr) (i:Nat) {S:Int->Tr},Sxs k S->Sxs k (gf P D i l S)/\Lt' S (gf P D i l S)
 |[],_,S,hS=>⟨hS,Lt'.refl S⟩
 |x::l,i,S,hS=>by obtain ⟨a1,a2⟩:=eF (eg hP hD hS i x).1 x.right hS;unfold gf;obtain ⟨b1,b2⟩:=iM hP hD l (i+1) a1;exact ⟨b1,Lt'.trans (λn c h=>(a2 n c).2 (.inl h)) b2⟩
theorem oH (hP:∀i,Sx k (P i)) (hD:Sxs k D):∀(l:List Pr) (i:Nat) {S:Int->Tr},Sxs k S->gf P D i l S=S->
  ∀(j:Nat) (x:Pr),l[j]? =some x->∀s∈x.right,s.t=false->∀c,(fR P D S (i+j) x).ev c=true->(S s.i).ev c=true
 |[],_,_,_,_,j,_,h=>by simp at h
 |y::l,i,S,hS,he,j,x,hj=>by
  obtain ⟨a1,a2⟩:=eF (eg hP hD hS i y).1 y.right hS;unfold gf at he;obtain ⟨b1,b2⟩:=iM hP hD l (i+1) a1;have e1:eD (fR P D S i y) y.right S=S:=by refine Lt'.antisymm a1 hS ?_ λn c h=>(a2 n c).2 (.inl h);rw [he] at b2;exact b2
  rw [e1] at he;cases j with
  |zero=>simp at hj;subst hj;intro s hs ht c hc;rw [Wo] at hc;rw [<- e1];exact (a2 s.i c).2 (.inr ⟨hc,s,hs,ht,rfl⟩)
  |succ j=>intro s hs ht c hc;refine oH hP hD l (i+1) hS he j x (by simpa using hj) s hs ht c ?_;rw [show i+1+j=i+(j+1) by omega];exact hc
theorem xX (hP:∀i,Sx k (P i)) (hD:eV k l P false D):∀(m:List Pr) (i:Nat) {S:Int->Tr},(∀j x,m[j]? =some x->l[i+j]? =some x)->Sxs k S->(∀n c,(S n).ev c=true->Rch l P fam start c n)->
  ∀n c,(gf P D i m S n).ev c=true->Rch l P fam start c n
 |[],_,_,_,_,h=>h
 |x::m,i,S,hl,hS,h=>by
  obtain ⟨u1,u2⟩:=eg hP hD.sx hS i x;obtain ⟨a1,a2⟩:=eF u1 x.right hS;unfold gf;refine xX hP hD m (i+1) (λj y hj=>by rw [show i+1+j=i+(j+1) by omega];exact hl (j+1) y (by simpa using hj)) a1 λn c hc=> ?_;rcases (a2 n c).1 hc with hc|⟨hc2,s,hs,ht,rfl⟩
  ·exact h n c hc
  ·obtain ⟨v1,v2,v3⟩:=(u2 c).1 hc2;exact .step i x s (by have:=hl 0 x rfl;rwa [Wo] at this) v2 (h _ c v1) (λy hy hyt=>(hD.iff _ _).1 (v3 y hy hyt)) hs ht
structure B8 (k:Nat) (l:List Pr) (P:Nat->Tr) (fam:Tr) (start:Int) (S:Int->Tr):Prop where
 sx:Sxs k S
 iff:∀n c,(S n).ev c=true↔Rch l P fam start c n
theorem GM {S:Int->Tr} (hP:∀i,Sx k (P i)) (hD:eV k l P false D) (hS:Sxs k S) (h:∀n c,(S n).ev c=true->Rch l P fam start c n) (h0:∀c,fam.ev c=true->(S start).ev c=true) (he:gf P D 0 l S=S):B8 k l P fam start S:=by
 refine ⟨hS,λn c=>⟨h n c,λhr=> ?_⟩⟩;induction hr with
 |start hf=>exact h0 c hf
 |step i x s hi hp _ hd hs ht ih=>refine oH hP hD.sx l 0 hS he i x hi s hs ht c ?_;rw [Vd];exact ((eg hP hD.sx hS i x).2 c).2 ⟨ih,hp,λy hy hyt=>(hD.iff _ _).2 (hd y hy hyt)⟩
theorem Jm {S:Int->Tr} (hP:∀i,Sx k (P i)) (hD:eV k l P false D) (h:B8 k l P fam start S) {i:Nat} {x:Pr} (hi:l[i]? =some x) (c:Cf):(fR P D S i x).ev c=true↔Use l P fam start c i:=by
 rw [(eg hP hD.sx h.sx i x).2 c];constructor
 ·rintro ⟨h1,h2,h3⟩;exact ⟨x,hi,h2,(h.iff _ _).1 h1,λy hy hyt=>(hD.iff _ _).1 (h3 y hy hyt)⟩
 ·rintro ⟨y,hy,h2,h1,h3⟩;rw [hi] at hy;cases hy;exact ⟨(h.iff _ _).2 h1,h2,λy hy hyt=>(hD.iff _ _).2 (h3 y hy hyt)⟩
end
def Bef (l:List Pr) (P:Nat->Tr) (c:Cf) (r:List Sy) (j:Nat):Prop:=∀(m:Nat) (y:Sy),m<j->r[m]? =some y->y.t=false/\Der l P true c y.i
inductive Fst (l:List Pr) (P:Nat->Tr) (c:Cf):Int->Int->Prop
 |tok (i j:Nat) (x:Pr) (s:Sy):l[i]? =some x->(P i).ev c=true->(∀y∈x.right,y.t=false->Der l P false c y.i)->x.right[j]? =some s->Bef l P c x.right j->s.t=true->Fst l P c x.left s.i
 |non (i j:Nat) (x:Pr) (s:Sy) (t:Int):l[i]? =some x->(P i).ev c=true->(∀y∈x.right,y.t=false->Der l P false c y.i)->x.right[j]? =some s->Bef l P c x.right j->s.t=false->Fst l P c s.i t->Fst l P c x.left t
section
variable {k:Nat} {l:List Pr} {P:Nat->Tr} {N D:Int->Tr}
noncomputable def eT (d:Tr) (a b:Int):Φ->(Int×Int->Tr)->Int×Int->Tr
 |[],S=>S
 |t::ts,S=>eT d a b ts (cC S (b,t) (ap2 bj d (S (a,t))))
theorem gy {d:Tr} (hd:Sx k d) (a b:Int):∀(ts:Φ) {S:Int×Int->Tr},Sxs k S->Sxs k (eT d a b ts S)/\Lt' S (eT d a b ts S)/\
  (∀n c,(eT d a b ts S n).ev c=true->(S n).ev c=true\/(d.ev c=true/\n.1=b/\∃t∈ts,n.2=t/\(S (a,t)).ev c=true))/\∀t∈ts,∀c,d.ev c=true->(S (a,t)).ev c=true->(eT d a b ts S (b,t)).ev c=true
 |[],S,hS=>⟨hS,Lt'.refl S,λn c h=> .inl h,λt h=>by cases h⟩
 |t::ts,S,hS=>by
  have hx:Sx k (ap2 bj d (S (a,t))):=hd.ap2 (o:=bj) (hS _);have ex:∀c,(ap2 bj d (S (a,t))).ev c=(d.ev c && (S (a,t)).ev c):=(bA hd.1 (hS _).1).2;unfold eT;obtain ⟨h1,h2,h3,h4⟩:=gy hd a b ts (dE hS hx (n:=(b,t)));have key:∀n c,(cC S (b,t) (ap2 bj d (S (a,t))) n).ev c=true↔(S n).ev c=true\/(n=(b,t)/\d.ev c=true/\(S (a,t)).ev c=true):=λn c=>by rw [fK hS hx,ex,Wn,Vj,Vj,decide_eq_true_eq]
  refine ⟨h1,(eI hS hx).trans h2,λn c hc=> ?_,λu hu c hdc hac=> ?_⟩
  ·rcases h3 n c hc with hc|⟨g1,g2,u,g3,g4,g5⟩
   ·rcases (key n c).1 hc with hc|⟨e,g1,g2⟩
    ·exact .inl hc
    ·exact .inr ⟨g1,by rw [e],t,by simp,by rw [e],g2⟩
   ·rcases (key (a,u) c).1 g5 with g5|⟨e,_,g6⟩
    ·exact .inr ⟨g1,g2,u,Ve _ g3,g4,g5⟩
    ·have e2:u=t:=congrArg Prod.snd e;exact .inr ⟨g1,g2,t,by simp,by rw [g4,e2],g6⟩
  ·rcases UT.1 hu with rfl|hu
   ·exact h2 _ c ((key (b,u) c).2 (.inr ⟨rfl,hdc,hac⟩))
   ·exact h4 u hu c hdc ((key (a,u) c).2 (.inl hac))
noncomputable def fS (N:Int->Tr) (ts:Φ) (b:Int):Tr->List Sy->(Int×Int->Tr)->Int×Int->Tr
 |_,[],S=>S
 |d,s::r,S=>if s.t=true then cC S (b,s.i) d else fS N ts b (ap2 bj d (N s.i)) r (eT d s.i b ts S)
theorem gg (hN:Sxs k N) (ts:Φ) (b:Int):∀(r:List Sy) {d:Tr} {S:Int×Int->Tr},Sx k d->Sxs k S->Sxs k (fS N ts b d r S)/\Lt' S (fS N ts b d r S)
 |[],_,S,_,hS=>⟨hS,Lt'.refl S⟩
 |s::r,d,S,hd,hS=>by
  unfold fS;split
  ·exact ⟨dE hS hd,eI hS hd⟩
  ·obtain ⟨h1,h2,_⟩:=gy hd s.i b ts hS;obtain ⟨g1,g2⟩:=gg hN ts b r (hd.ap2 (o:=bj) (hN s.i)) h1;exact ⟨g1,h2.trans g2⟩
theorem oI (hN:Sxs k N) (ts:Φ) (b:Int):∀(r:List Sy) {d:Tr} {S:Int×Int->Tr},Sx k d->Sxs k S->fS N ts b d r S=S->
  ∀(j:Nat) (s:Sy) (c:Cf),r[j]? =some s->d.ev c=true->(∀(m:Nat) (y:Sy),m<j->r[m]? =some y->y.t=false/\(N y.i).ev c=true)->
   (s.t=true->(S (b,s.i)).ev c=true)/\(s.t=false->∀t∈ts,(S (s.i,t)).ev c=true->(S (b,t)).ev c=true)
 |[],_,_,_,_,_,j,_,_,h,_,_=>by simp at h
 |y::r,d,S,hd,hS,he,j,s,c,hj,hc,hb=>by
  unfold fS at he;by_cases hy:y.t=true
  ·rw [if_pos hy] at he;cases j with
   |zero=>simp at hj;subst hj;refine ⟨λ_=> ?_,λh=>(by rw [hy] at h;cases h)⟩;have:=fK hS hd (n:=(b,y.i)) (b,y.i) c;rw [he,decide_eq_true rfl,V4,hc,Bool.or_true] at this;exact this
   |succ j=>have:=(hb 0 y (by omega) rfl).1;rw [hy] at this;cases this
  ·rw [if_neg hy] at he;obtain ⟨h1,h2,h3,h4⟩:=gy hd y.i b ts hS;obtain ⟨g1,g2⟩:=gg hN ts b r (hd.ap2 (o:=bj) (hN y.i)) h1;have e1:eT d y.i b ts S=S:=by refine Lt'.antisymm h1 hS ?_ h2;rw [he] at g2;exact g2
   rw [e1] at he h4;cases j with
   |zero=>simp at hj;subst hj;exact ⟨λh=>absurd h hy,λ_ t ht hs=>h4 t ht c hc hs⟩
   |succ j=>have h0:=(hb 0 y (by omega) rfl).2;refine oI hN ts b r (hd.ap2 (o:=bj) (hN y.i)) hS he j s c (by simpa using hj) ?_ λm z hm hz=>hb (m+1) z (by omega) (by simpa using hz);rw [(bA hd.1 (hN y.i).1).2,hc,h0];rfl
noncomputable def iN (P:Nat->Tr) (N D:Int->Tr) (ts:Φ):Nat->List Pr->(Int×Int->Tr)->Int×Int->Tr
 |_,[],S=>S
 |i,x::l,S=>iN P N D ts (i+1) l (fS N ts x.left (dF D (P i) x.right) x.right S)
theorem kV (hP:∀i,Sx k (P i)) (hN:Sxs k N) (hD:Sxs k D) (ts:Φ):∀(l:List Pr) (i:Nat) {S:Int×Int->Tr},Sxs k S->Sxs k (iN P N D ts i l S)/\Lt' S (iN P N D ts i l S)
 |[],_,S,hS=>⟨hS,Lt'.refl S⟩
 |x::l,i,S,hS=>by obtain ⟨a1,a2⟩:=gg hN ts x.left x.right (bx hD x.right (hP i)).1 hS;unfold iN;obtain ⟨b1,b2⟩:=kV hP hN hD ts l (i+1) a1;exact ⟨b1,a2.trans b2⟩
theorem oJ (hP:∀i,Sx k (P i)) (hN:Sxs k N) (hD:Sxs k D) (ts:Φ):∀(l:List Pr) (i:Nat) {S:Int×Int->Tr},Sxs k S->iN P N D ts i l S=S->
  ∀(m:Nat) (x:Pr),l[m]? =some x->fS N ts x.left (dF D (P (i+m)) x.right) x.right S=S
 |[],_,_,_,_,m,_,h=>by simp at h
 |y::l,i,S,hS,he,m,x,hm=>by
  obtain ⟨a1,a2⟩:=gg hN ts y.left y.right (bx hD y.right (hP i)).1 hS;unfold iN at he;obtain ⟨b1,b2⟩:=kV hP hN hD ts l (i+1) a1;have e1:fS N ts y.left (dF D (P i) y.right) y.right S=S:=by refine Lt'.antisymm a1 hS ?_ a2;rw [he] at b2;exact b2
  rw [e1] at he;cases m with
  |zero=>simp at hm;subst hm;rw [Wo];exact e1
  |succ m=>rw [show i+(m+1)=i+1+m by omega];exact oJ hP hN hD ts l (i+1) hS he m x (by simpa using hm)
theorem xY (hN:eV k l P true N) (ts:Φ) {i:Nat} {x:Pr} (hi:l[i]? =some x):∀(r:List Sy) (j:Nat) {d:Tr} {S:Int×Int->Tr},Sx k d->Sxs k S->(∀(m:Nat) y,r[m]? =some y->x.right[j+m]? =some y)->
  (∀c,d.ev c=true->(P i).ev c=true/\(∀y∈x.right,y.t=false->Der l P false c y.i)/\Bef l P c x.right j)->(∀n c,(S n).ev c=true->Fst l P c n.1 n.2)->∀n c,(fS N ts x.left d r S n).ev c=true->Fst l P c n.1 n.2
 |[],_,_,_,_,_,_,_,h=>h
 |s::r,j,d,S,hd,hS,hr,hdd,h=>by
  have hsj:=hr 0 s rfl;rw [Wo] at hsj;unfold fS;by_cases hs:s.t=true
  ·rw [if_pos hs];intro n c hc;rw [fK hS hd,Wn,Vj,decide_eq_true_eq] at hc;rcases hc with hc|⟨rfl,hc⟩
   ·exact h n c hc
   ·obtain ⟨g1,g2,g3⟩:=hdd c hc;exact .tok i j x s hi g1 g2 hsj g3 hs
  ·rw [if_neg hs];have hs:s.t=false:=VV.2 hs;obtain ⟨h1,h2,h3,_⟩:=gy hd s.i x.left ts hS;refine xY hN ts hi r (j+1) (hd.ap2 (o:=bj) (hN.sx s.i)) h1 (λm y hm=>by rw [show j+1+m=j+(m+1) by omega];exact hr (m+1) y (by simpa using hm)) (λc hc=> ?_) λn c hc=> ?_
   ·rw [(bA hd.1 (hN.sx s.i).1).2,Vj] at hc;obtain ⟨g1,g2,g3⟩:=hdd c hc.1;refine ⟨g1,g2,λm y hm hy=> ?_⟩;by_cases e:m=j
    ·subst e;rw [hsj] at hy;cases hy;exact ⟨hs,(hN.iff _ _).1 hc.2⟩
    ·exact g3 m y (by omega) hy
   ·rcases h3 n c hc with hc|⟨g1,g2,t,_,g4,g5⟩
    ·exact h n c hc
    ·obtain ⟨q1,q2,q3⟩:=hdd c g1;rw [g2,g4];exact .non i j x s t hi q1 q2 hsj q3 hs (h _ _ g5)
theorem xZ (hP:∀i,Sx k (P i)) (hN:eV k l P true N) (hD:eV k l P false D) (ts:Φ):∀(m:List Pr) (i:Nat) {S:Int×Int->Tr},(∀j x,m[j]? =some x->l[i+j]? =some x)->Sxs k S->(∀n c,(S n).ev c=true->Fst l P c n.1 n.2)->
  ∀n c,(iN P N D ts i m S n).ev c=true->Fst l P c n.1 n.2
 |[],_,_,_,_,h=>h
 |x::m,i,S,hl,hS,h=>by
  obtain ⟨f1,f2⟩:=bx hD.sx x.right (hP i);obtain ⟨a1,a2⟩:=gg hN.sx ts x.left x.right f1 hS;have hi:l[i]? =some x:=by have:=hl 0 x rfl;rwa [Wo] at this
  unfold iN;refine xZ hP hN hD ts m (i+1) (λj y hj=>by rw [show i+1+j=i+(j+1) by omega];exact hl (j+1) y (by simpa using hj)) a1 ?_;refine xY hN ts hi x.right 0 f1 hS (λm y hm=>by rwa [Vd]) (λc hc=> ?_) h;rw [f2,Vj,Vv] at hc;exact ⟨hc.1,λy hy hyt=>(hD.iff _ _).1 (by have:=hc.2 y hy;rwa [hyt,WD] at this),λm y hm=>by omega⟩
structure x6 (k:Nat) (l:List Pr) (P:Nat->Tr) (S:Int×Int->Tr):Prop where
 sx:Sxs k S
 iff:∀n c,(S n).ev c=true↔Fst l P c n.1 n.2
theorem GN {S:Int×Int->Tr} {ts:Φ} (hts:∀x∈l,∀s∈x.right,s.t=true->s.i∈ts) (hP:∀i,Sx k (P i)) (hN:eV k l P true N) (hD:eV k l P false D) (hS:Sxs k S) (h:∀n c,(S n).ev c=true->Fst l P c n.1 n.2)
  (he:iN P N D ts 0 l S=S):x6 k l P S:=by
 have hin:∀{c:Cf} {a t:Int},Fst l P c a t->t∈ts:=λhf=>by
  induction hf with
  |tok i j x s hi _ _ hj _ hs=>exact hts x (UY hi) s (UY hj) hs
  |non _ _ _ _ _ _ _ _ _ _ _ _ ih=>exact ih
 refine ⟨hS,λn c=>⟨h n c,λhf=> ?_⟩⟩;have key:∀{a t:Int},Fst l P c a t->(S (a,t)).ev c=true:=λ{a t} hf=>by
  have cl:∀{i j:Nat} {x:Pr} {s:Sy},l[i]? =some x->(P i).ev c=true->(∀y∈x.right,y.t=false->Der l P false c y.i)->x.right[j]? =some s->Bef l P c x.right j->
    (s.t=true->(S (x.left,s.i)).ev c=true)/\(s.t=false->∀t∈ts,(S (s.i,t)).ev c=true->(S (x.left,t)).ev c=true):=λ{i j x s} hi hp hd hj hb=>by
   have he2:=oJ hP hN.sx hD.sx ts l 0 hS he i x hi;rw [Vd] at he2;refine oI hN.sx ts x.left x.right (bx hD.sx x.right (hP i)).1 hS he2 j s c hj ?_ λm y hm hy=>⟨(hb m y hm hy).1,(hN.iff _ _).2 (hb m y hm hy).2⟩;rw [(bx hD.sx x.right (hP i)).2,hp,V4,Vv];intro y hy;cases hyt:y.t with
   |true=>rfl
   |false=>rw [WD];exact (hD.iff _ _).2 (hd y hy hyt)
  induction hf with
  |tok i j x s hi hp hd hj hb hs=>exact (cl hi hp hd hj hb).1 hs
  |non i j x s t hi hp hd hj hb hs hf ih=>exact (cl hi hp hd hj hb).2 hs t (hin hf) ih
 exact key hf
end
end Go.Proofs.YtcemhghkipgdiaaGreatDoor
