/-
  What functions of the program do, in a clean form, each with the proof that its code does so. Printed by a program.
-/
import Derived.Test.YtenpmjhnhepfdaaGreatDoorEa
import Derived.Test.YtenpmjhnhepfdaaGreatDoorPhp
namespace Go.Proofs.YtenpmjhnhepfdaaGreatDoor
open Go.IntKind (i64 u8 u64)
inductive Pat where
 |emp:Pat
 |rng:Nat->Nat->Pat
 |seq:Pat->Pat->Pat
 |alt:Pat->Pat->Pat
 |rep:Pat->Pat
deriving DecidableEq
inductive jY (P:Δ->Prop):Δ->Prop where
 |nil:jY P []
 |cons {u v:Δ}:P u->jY P v->jY P (u++v)
def Lg:Pat->Δ->Prop
 | .emp,w=>w=[]
 | .rng lo hi,w=>∃b,w=[b]/\lo<=b/\b<=hi
 | .seq x y,w=>∃u v,w=u++v/\Lg x u/\Lg y v
 | .alt x y,w=>Lg x w\/Lg y w
 | .rep x,w=>jY (Lg x) w
inductive Lt where
 |emp:Lt
 |rng:Nat->Nat->Nat->Lt
 |seq:Lt->Lt->Lt
 |alt:Lt->Lt->Lt
 |rep:Lt->Lt
namespace Lt
def pat:Lt->Pat
 |emp=> .emp
 |rng _ lo hi=> .rng lo hi
 |seq x y=> .seq x.pat y.pat
 |alt x y=> .alt x.pat y.pat
 |rep x=> .rep x.pat
def nul:Lt->Bool
 |emp=>true
 |rng _ _ _=>false
 |seq x y=>x.nul && y.nul
 |alt x y=>x.nul || y.nul
 |rep _=>true
def first:Lt->Nat->Prop
 |emp,_=>False
 |rng i _ _,j=>i=j
 |seq x y,j=>x.first j\/(x.nul=true/\y.first j)
 |alt x y,j=>x.first j\/y.first j
 |rep x,j=>x.first j
def last:Lt->Nat->Prop
 |emp,_=>False
 |rng i _ _,j=>i=j
 |seq x y,j=>y.last j\/(y.nul=true/\x.last j)
 |alt x y,j=>x.last j\/y.last j
 |rep x,j=>x.last j
def fol:Lt->Nat->Nat->Prop
 |emp,_,_=>False
 |rng _ _ _,_,_=>False
 |seq x y,i,j=>x.fol i j\/y.fol i j\/(x.last i/\y.first j)
 |alt x y,i,j=>x.fol i j\/y.fol i j
 |rep x,i,j=>x.fol i j\/(x.last i/\x.first j)
def lab:Lt->Nat->Prop
 |emp,_=>False
 |rng i _ _,j=>i=j
 |seq x y,j=>x.lab j\/y.lab j
 |alt x y,j=>x.lab j\/y.lab j
 |rep x,j=>x.lab j
def fits (acc:Nat->Nat->Prop):Lt->Prop
 |emp=>True
 |rng i lo hi=>∀b,acc i b↔lo<=b/\b<=hi
 |seq x y=>x.fits acc/\y.fits acc/\∀i,x.lab i->¬y.lab i
 |alt x y=>x.fits acc/\y.fits acc/\∀i,x.lab i->¬y.lab i
 |rep x=>x.fits acc
theorem first_lab:∀(t:Lt) {i:Nat},t.first i->t.lab i
 |rng _ _ _,_,h=>h
 |seq x y,_,h=>h.elim (λh=> .inl (x.first_lab h)) λh=> .inr (y.first_lab h.2)
 |alt x y,_,h=>h.elim (λh=> .inl (x.first_lab h)) λh=> .inr (y.first_lab h)
 |rep x,_,h=>x.first_lab h
theorem last_lab:∀(t:Lt) {i:Nat},t.last i->t.lab i
 |rng _ _ _,_,h=>h
 |seq x y,_,h=>h.elim (λh=> .inr (y.last_lab h)) λh=> .inl (x.last_lab h.2)
 |alt x y,_,h=>h.elim (λh=> .inl (x.last_lab h)) λh=> .inr (y.last_lab h)
 |rep x,_,h=>x.last_lab h
theorem fol_lab:∀(t:Lt) {i j:Nat},t.fol i j->t.lab i/\t.lab j
 |seq x y,_,_,h=>by
  rcases h with h|h|⟨h,h'⟩
  ·exact ⟨.inl (x.fol_lab h).1,.inl (x.fol_lab h).2⟩
  ·exact ⟨.inr (y.fol_lab h).1,.inr (y.fol_lab h).2⟩
  ·exact ⟨.inl (x.last_lab h),.inr (y.first_lab h')⟩
 |alt x y,_,_,h=>by
  rcases h with h|h
  ·exact ⟨.inl (x.fol_lab h).1,.inl (x.fol_lab h).2⟩
  ·exact ⟨.inr (y.fol_lab h).1,.inr (y.fol_lab h).2⟩
 |rep x,_,_,h=>by
  rcases h with h|⟨h,h'⟩
  ·exact x.fol_lab h
  ·exact ⟨x.last_lab h,x.first_lab h'⟩
end Lt
def Pth (acc fol:Nat->Nat->Prop) (e:Nat->Prop):Nat->Δ->Prop
 |_,[]=>False
 |i,b::w=>acc i b/\((w=[]/\e i)\/∃j,fol i j/\Pth acc fol e j w)
section
variable {acc fol fol':Nat->Nat->Prop} {e e':Nat->Prop}
theorem Pth.ne {i:Nat} {w:Δ} (h:Pth acc fol e i w):w≠[]:=by rintro rfl;exact h
theorem Pth.mono (hf:∀i j,fol i j->fol' i j) (he:∀i,e i->e' i):∀(w:Δ) (i:Nat),Pth acc fol e i w->Pth acc fol' e' i w
 |[],_,h=>h
 |_::w,_,⟨h,k⟩=>⟨h,k.elim (λk=> .inl ⟨k.1,he _ k.2⟩) λ⟨j,k1,k2⟩=> .inr ⟨j,hf _ _ k1,Pth.mono hf he w j k2⟩⟩
theorem Pth.inside (P:Nat->Prop) (hf:∀i j,P i->fol i j->P j/\fol' i j) (he:∀i,P i->e i->e' i):∀(w:Δ) (i:Nat),P i->Pth acc fol e i w->Pth acc fol' e' i w
 |[],_,_,h=>h
 |_::w,i,hp,⟨h,k⟩=>⟨h,k.elim (λk=> .inl ⟨k.1,he _ hp k.2⟩) λ⟨j,k1,k2⟩=> .inr ⟨j,(hf i j hp k1).2,Pth.inside P hf he w j (hf i j hp k1).1 k2⟩⟩
theorem Pth.link {l g:Nat->Prop}:∀(w:Δ) (i:Nat),Pth acc (λi j=>fol i j\/(l i/\g j)) e i w->
  Pth acc fol e i w\/∃u v j,w=u++v/\Pth acc fol l i u/\g j/\Pth acc (λi j=>fol i j\/(l i/\g j)) e j v
 |[],_,h=>h.elim
 |b::w,i,⟨h,k⟩=>by
  rcases k with ⟨rfl,k⟩|⟨j,k1|⟨k1,k3⟩,k2⟩
  ·exact .inl ⟨h,.inl ⟨rfl,k⟩⟩
  ·rcases Pth.link w j k2 with q|⟨u,v,m,rfl,q1,q2,q3⟩
   ·exact .inl ⟨h,.inr ⟨j,k1,q⟩⟩
   ·exact .inr ⟨b::u,v,m,rfl,⟨h,.inr ⟨j,k1,q1⟩⟩,q2,q3⟩
  ·exact .inr ⟨[b],w,j,rfl,⟨h,.inl ⟨rfl,k1⟩⟩,k3,k2⟩
theorem Pth.append {l g:Nat->Prop} (hf:∀i j,fol i j->fol' i j) (hl:∀i j,l i->g j->fol' i j) {v:Δ} {j:Nat} (hg:g j) (hv:Pth acc fol' e j v):
  ∀(u:Δ) (i:Nat),Pth acc fol l i u->Pth acc fol' e i (u++v)
 |[],_,h=>h.elim
 |b::u,i,⟨h,k⟩=>by
  rcases k with ⟨rfl,k⟩|⟨m,k1,k2⟩
  ·exact ⟨h,.inr ⟨j,hl i j k hg,hv⟩⟩
  ·exact ⟨h,.inr ⟨m,hf _ _ k1,Pth.append hf hl hg hv u m k2⟩⟩
end
namespace Lt
variable {acc:Nat->Nat->Prop}
theorem nul_iff:∀(t:Lt),t.nul=true↔Lg t.pat []
 |emp=>⟨λ_=>rfl,λ_=>rfl⟩
 |rng i lo hi=>⟨λh=>(by cases h),λ⟨b,h,_⟩=>(by cases h)⟩
 |seq x y=>by
  have hx:=nul_iff x;have hy:=nul_iff y;simp only [nul,pat,Lg,Ya,hx,hy];constructor
  ·rintro ⟨h1,h2⟩;exact ⟨[],[],rfl,h1,h2⟩
  ·rintro ⟨u,v,h,h1,h2⟩;obtain ⟨rfl,rfl⟩:=List.append_eq_nil_iff.1 h.symm;exact ⟨h1,h2⟩
 |alt x y=>by simp only [nul,pat,Lg,Yk,nul_iff x,nul_iff y]
 |rep x=>⟨λ_=>jY.nil,λ_=>rfl⟩
theorem places:∀(t:Lt),t.fits acc->∀w,w≠[]->(Lg t.pat w↔∃i,t.first i/\Pth acc t.fol t.last i w)
 |emp,_,w,hw=>⟨λh=>absurd h hw,λ⟨i,h,_⟩=>h.elim⟩
 |rng i lo hi,hf,w,hw=>by
  constructor
  ·rintro ⟨b,rfl,h⟩;exact ⟨i,rfl,(hf b).2 h,.inl ⟨rfl,rfl⟩⟩
  ·rintro ⟨j,rfl,h⟩;cases w with
   |nil=>exact h.elim
   |cons b w=>
    obtain ⟨h1,⟨rfl,_⟩|⟨j,h2,_⟩⟩:=h
    ·exact ⟨b,rfl,(hf b).1 h1⟩
    ·exact h2.elim
 |alt x y,⟨fx,fy,hd⟩,w,hw=>by
  have ix:=places x fx w hw;have iy:=places y fy w hw;constructor
  ·rintro (h|h)
   ·obtain ⟨i,h1,h2⟩:=ix.1 h;exact ⟨i,.inl h1,h2.mono (λ_ _ h=> .inl h) (λ_ h=> .inl h) w i⟩
   ·obtain ⟨i,h1,h2⟩:=iy.1 h;exact ⟨i,.inr h1,h2.mono (λ_ _ h=> .inr h) (λ_ h=> .inr h) w i⟩
  ·rintro ⟨i,h1|h1,h2⟩
   ·refine .inl (ix.2 ⟨i,h1,h2.inside x.lab (λi j hp h=> ?_) (λi hp h=> ?_) w i (x.first_lab h1)⟩)
    ·exact h.elim (λh=>⟨(x.fol_lab h).2,h⟩) λh=>absurd (y.fol_lab h).1 (hd i hp)
    ·exact h.elim id λh=>absurd (y.last_lab h) (hd i hp)
   ·refine .inr (iy.2 ⟨i,h1,h2.inside y.lab (λi j hp h=> ?_) (λi hp h=> ?_) w i (y.first_lab h1)⟩)
    ·exact h.elim (λh=>absurd hp (hd i (x.fol_lab h).1)) λh=>⟨(y.fol_lab h).2,h⟩
    ·exact h.elim (λh=>absurd hp (hd i (x.last_lab h))) id
 |seq x y,⟨fx,fy,hd⟩,w,hw=>by
  have ix:=places x fx;have iy:=places y fy
  have inY:∀w i,y.lab i->Pth acc (seq x y).fol (seq x y).last i w->Pth acc y.fol y.last i w:=λw i hi h=>h.inside y.lab (λi j hp h=>by
    rcases h with h|h|⟨h,_⟩
    ·exact absurd hp (hd i (x.fol_lab h).1)
    ·exact ⟨(y.fol_lab h).2,h⟩
    ·exact absurd hp (hd i (x.last_lab h))) (λi hp h=>h.elim id λh=>absurd hp (hd i (x.last_lab h.2))) w i hi
  constructor
  ·rintro ⟨u,v,rfl,hu,hv⟩;by_cases hu0:u=[]
   ·subst hu0;obtain ⟨i,h1,h2⟩:=(iy _ hw).1 hv;exact ⟨i,.inr ⟨(nul_iff x).2 hu,h1⟩,h2.mono (λ_ _ h=> .inr (.inl h)) (λ_ h=> .inl h) _ i⟩
   ·obtain ⟨i,h1,h2⟩:=(ix u hu0).1 hu;refine ⟨i,.inl h1,?_⟩;by_cases hv0:v=[]
    ·subst hv0;rw [Ye];exact h2.mono (λ_ _ h=> .inl h) (λ_ h=> .inr ⟨(nul_iff y).2 hv,h⟩) _ i
    ·obtain ⟨j,h3,h4⟩:=(iy v hv0).1 hv;exact Pth.append (λ_ _ h=> .inl h) (λ_ _ h h'=> .inr (.inr ⟨h,h'⟩)) h3 (h4.mono (λ_ _ h=> .inr (.inl h)) (λ_ h=> .inl h) v j) u i h2
  ·rintro ⟨i,h1,h2⟩;rcases h1 with h1|⟨h0,h1⟩
   ·have k:Pth acc (λi j=>(x.fol i j\/y.fol i j)\/(x.last i/\y.first j)) (seq x y).last i w:=h2.mono (λi j h=>by
     rcases h with h|h|h
     ·exact .inl (.inl h)
     ·exact .inl (.inr h)
     ·exact .inr h) (λ_ h=>h) w i
    have inX:∀{e e':Nat->Prop} w i,(∀i,x.lab i->e i->e' i)->x.lab i->Pth acc (λi j=>x.fol i j\/y.fol i j) e i w->Pth acc x.fol e' i w:=λw i he hi h=>h.inside x.lab (λi j hp h=>
     h.elim (λh=>⟨(x.fol_lab h).2,h⟩) λh=>absurd (y.fol_lab h).1 (hd i hp)) he w i hi
    rcases k.link w i with q|⟨u,v,j,rfl,q1,q2,q3⟩
    ·by_cases hy:y.nul=true
     ·exact ⟨w,[],(Ye w).symm,(ix w hw).2 ⟨i,h1,inX w i (λi hp h=>h.elim (λh=>absurd (y.last_lab h) (hd i hp)) λh=>h.2) (x.first_lab h1) q⟩,(nul_iff y).1 hy⟩
     ·exfalso;have z:=inX (e':=λ_=>False) w i (λi hp h=>h.elim (λh=>absurd (y.last_lab h) (hd i hp)) λh=>hy h.1) (x.first_lab h1) q;have none:∀(w:Δ) (i:Nat),¬Pth acc x.fol (λ_=>False) i w:=by
       intro w;induction w with
       |nil=>exact λ_ h=>h
       |cons b w ih=>
        rintro i ⟨_,⟨_,h⟩|⟨j,_,h⟩⟩
        ·exact h
        ·exact ih j h
      exact none w i z
    ·refine ⟨u,v,rfl,(ix u q1.ne).2 ⟨i,h1,inX u i (λ_ _ h=>h) (x.first_lab h1) q1⟩,(iy v q3.ne).2 ⟨j,q2,inY v j (y.first_lab q2) (q3.mono (λi j h=> ?_) (λ_ h=>h) v j)⟩⟩;rcases h with (h|h)|h
     ·exact .inl h
     ·exact .inr (.inl h)
     ·exact .inr (.inr h)
   ·obtain q:=inY w i (y.first_lab h1) h2;exact ⟨[],w,rfl,(nul_iff x).1 h0,(iy w hw).2 ⟨i,h1,q⟩⟩
 |rep x,fx,w,hw=>by
  have ix:=places x fx;constructor
  ·intro h;change jY (Lg x.pat) w at h;have key:∀w,jY (Lg x.pat) w->w≠[]->∃i,x.first i/\Pth acc (rep x).fol x.last i w:=by
    intro w h;induction h with
    |nil=>exact λh=>absurd rfl h
    | @cons u v hu hv ih=>
     intro hn;by_cases hu0:u=[]
     ·subst hu0;exact ih hn
     ·obtain ⟨i,h1,h2⟩:=(ix u hu0).1 hu;refine ⟨i,h1,?_⟩;by_cases hv0:v=[]
      ·subst hv0;rw [Ye];exact h2.mono (λ_ _ h=> .inl h) (λ_ h=>h) _ i
      ·obtain ⟨j,h3,h4⟩:=ih hv0;exact Pth.append (λ_ _ h=> .inl h) (λ_ _ h h'=> .inr ⟨h,h'⟩) h3 h4 u i h2
   exact key w h hw
  ·rintro ⟨i,h1,h2⟩;have key:∀(n:Nat) (w:Δ) (i:Nat),w.length<=n->x.first i->Pth acc (rep x).fol x.last i w->jY (Lg x.pat) w:=by
    intro n;induction n with
    |zero=>intro w i hn _ h;exact absurd (Yg.1 (by omega)) h.ne
    |succ n ih=>
     intro w i hn h1 h2;rcases Pth.link (fol:=x.fol) (l:=x.last) (g:=x.first) w i h2 with q|⟨u,v,j,rfl,q1,q2,q3⟩
     ·have:=jY.cons ((ix w q.ne).2 ⟨i,h1,q⟩) jY.nil;rwa [Ye] at this
     ·have hu:0<u.length:=YM.2 q1.ne;rw [N3] at hn;exact .cons ((ix u q1.ne).2 ⟨i,h1,q1⟩) (ih v j (by omega) q2 q3)
   exact key w.length w i (XA _) h1 h2
end Lt
end Go.Proofs.YtenpmjhnhepfdaaGreatDoor
namespace Go.Proofs.YtenpmjhnhepfdaaGreatDoor
open Go.IntKind (i64 u8 u64)
section
end
section
end
structure Nd where
 k:Int
 lo:Int
 hi:Int
 a:Int
 b:Int
deriving DecidableEq
namespace Pat
end Pat
namespace Pat
end Pat
end Go.Proofs.YtenpmjhnhepfdaaGreatDoor
namespace Go.Proofs.YtenpmjhnhepfdaaGreatDoor
open Go.IntKind (i64 u8 u64)
open Go Go.Proofs.Tryz
set_option maxRecDepth 10000
abbrev pa (b:Nat):Value:=.pointer (some ⟨b,0,none⟩)
abbrev Nd.arr (x:Nd):Γ:= #[vi x.k,vi x.lo,vi x.hi,vi x.a,vi x.b]
def Nd.cells (x:Nd):Ξ:=[vi x.k,vi x.lo,vi x.hi,vi x.a,vi x.b]
def cX (l:List Nd):Ξ:=l.flatMap Nd.cells
theorem ik (l:List Nd):(cX l).length=l.length*5:=by
 induction l with
 |nil=>rfl
 |cons b l ih=>simp only [cX,XT,N3,XI] at ih ⊢;rw [ih];simp [Nd.cells];omega
theorem tV:∀(l:List Nd) (i:Nat) (hi:i<l.length),((cX l).drop (i*5)).take 5=l[i].cells
 |b::l,0,_=>by simp [cX,Nd.cells]
 |b::l,i+1,hi=>by
  have e:(i+1)*5=5+i*5:=by omega
  have:cX (b::l)=b.cells++cX l:=by simp [cX]
  rw [this,e,<- List.drop_drop,List.drop_left' (by simp [Nd.cells])];simpa using tV l i (by simpa using hi)
theorem dY (b:Nd):∀v∈b.arr.toList,ai v:=by intro v hv;simp only [XB,Yq,or_false] at hv;rcases hv with rfl|rfl|rfl|rfl|rfl<;>exact jl
theorem RdS.nlen {F:PH} {s:Sl} {l:List Nd} (h:RdS F s 5 (cX l)):s.len=l.length:=by have:=h.len;rw [ik] at this;omega
def cb (st:ByteArray) (i:Nat):Nat:=if h:i<st.size then (st[i]'h).toNat else 0
theorem RM {st:ByteArray} {i:Nat} (h:i<st.size):cb st i=(st[i]'h).toNat:=dif_pos h
theorem J0 (st:ByteArray) (i:Nat):cb st i<256:=by
 unfold cb;split
 ·exact UInt8.toNat_lt _
 ·omega
section
end
section
variable {F0 F:PH} {b i:Nat} {st:ByteArray} {out:List Nd} {w:Bool}
theorem bj.som {F:PH} {e size:Nat} {s:Sl} {vs:Ξ} (h:bj F e size s vs) {a:Addr} (ha:s.base=some a):∃o,F a.block=some o:=by
 rcases h with ⟨rfl,_⟩|⟨b,cur,h1,h2,_⟩
 ·cases ha
 ·rw [ha] at h1;cases h1;exact ⟨_,h2⟩
end
section
variable {F0 F:PH} {b i:Nat} {st:ByteArray} {out:List Nd} {w:Bool}
theorem O4 {st:ByteArray} {x:Int} {i:Nat} (hx:x=i) (h:i<st.size) (hl:Int.toNat x<st.size):((st[Int.toNat x]'hl).toNat:Int)=(cb st i:Int):=by subst hx;rw [RM h];rfl
end
def bs (s:ByteArray):Δ:=s.data.toList.map UInt8.toNat
theorem aX (s:ByteArray):(bs s).length=s.size:=by simp [bs]
theorem qN {s t:ByteArray} (h:bs s=bs t):s=t:=by unfold bs at h;have:s.data.toList=t.data.toList:=List.map_inj_right (λa b e=>UInt8.toNat_inj.1 e) |>.1 h;cases s;cases t;congr;exact Array.toList_inj.1 this
theorem GE (s:ByteArray) (i:Nat):cb s i=(bs s).getD i 0:=by
 unfold cb bs;by_cases h:i<s.size
 ·rw [dif_pos h];have h':i<s.data.toList.length:=by simpa using h
  rw [XQ,XM,N4 h'];rfl
 ·rw [dif_neg h,XQ,XM,X8 (by simpa using h)];rfl
theorem L6 (s:ByteArray):∀b∈bs s,b<256:=by intro b hb;obtain ⟨x,_,rfl⟩:=X3.1 hb;exact UInt8.toNat_lt x
theorem J1 (s:ByteArray):∀(n i:Nat) (r:List UInt8),s.size - i=n->ByteArray.toList.loop s i r=r.reverse++s.data.toList.drop i:=by
 intro n;induction n with
 |zero=>intro i r h;unfold ByteArray.toList.loop;rw [if_neg (by omega),List.drop_eq_nil_of_le (by simp at h ⊢;omega),Ye]
 |succ n ih=>
  intro i r h;have hi:i<s.size:=by omega
  have hi':i<s.data.toList.length:=by simpa using hi
  unfold ByteArray.toList.loop;rw [if_pos hi,ih (i+1) _ (by omega),List.drop_eq_getElem_cons hi',List.reverse_cons,Xz];congr 1;rw [List.singleton_append];congr 1;simp [ByteArray.get!,getElem!_pos,hi]
theorem xG (s:ByteArray):s.toList=s.data.toList:=by unfold ByteArray.toList;rw [J1 s _ 0 [] rfl];rfl
theorem tW (s:ByteArray):s.toList.map UInt8.toNat=bs s:=by rw [xG];rfl
theorem GF (s t:ByteArray):(s.toList==t.toList)=decide (bs s=bs t):=by
 rw [XE,decide_eq_true_eq,beq_iff_eq];constructor
 ·intro h;rw [<- tW,<- tW,h]
 ·intro h;rw [qN h]
section
end
variable {R:VR} {F:PH}
set_option maxRecDepth 10000
set_option maxHeartbeats 4000000
def L7 (a:Int) (R:VR) (F:PH):Prop:=Bc (a=0) (R (vi 64) F) (0<=(Int.fdiv (u64.wrap ((u64.wrap ((BitVec.ofInt (u64).bits a &&& BitVec.ofInt (u64).bits (u64.wrap (0 - a))).toNat))*285870213051353865)) (2 ^ (min (Int.toNat 58) (u64).bits)))/\(Int.fdiv (u64.wrap ((u64.wrap ((BitVec.ofInt (u64).bits a &&& BitVec.ofInt (u64).bits (u64.wrap (0 - a))).toNat))*285870213051353865)) (2 ^ (min (Int.toNat 58) (u64).bits)))<64/\∃b,F.cell (Addr.add (Addr.mk 0 0 none) (Int.toNat (Int.fdiv (u64.wrap ((u64.wrap ((BitVec.ofInt (u64).bits a &&& BitVec.ofInt (u64).bits (u64.wrap (0 - a))).toNat))*285870213051353865)) (2 ^ (min (Int.toNat 58) (u64).bits)))*1))=some (.int .u8 b)/\R (vi (i64.wrap b)) F)
theorem RN {a:Int} (h:L7 a R F):ae prog 240 #[.int .u64 a] F R:=Rx.sxC (args:=[.int .u64 a]) .N (by kernel_rfl) h
variable {R:VR} {F:PH}
set_option maxRecDepth 10000
set_option maxHeartbeats 4000000
def BF (a:Sl) (R:VR) (F:PH):Prop:=Bc ((a.len:Int)=0) (R (vi 40) F) (R (vi 0) F)
def BG (f:Ω) (e:Sl) (g:Nat) (R:VR) (a:Int) (F:PH):Prop:=Bc (a<(i64.wrap ((e.len:Int) - 1))) (Ls F (Am g 0) λb=>Ix b a λc=>Lb F (Addr.add c (Int.toNat a*1)) λd=>Bb ((!d)) (R (vi 40) F) (f (i64.wrap (a+1)) F)) (BF e R F)
def BH (b:Sl) (c:Nat) (R:VR) (F:PH):Prop:=Lp 0 F λN a F=>BG N b c R a F
def bY (b:Ω) (c:Sl) (d:Nat) (a:Int) (R:VR) (F:PH):Prop:=b (i64.wrap (a+1)) F
def fM (e:Ω) (c:Sl) (d:Nat) (a:Int) (f:Nat) (b:Int) (B:Bool) (R:VR) (F:PH):Prop:=Bb ((!B)) (R (vi 40) F) (Bc (b<1) (Li F (Am f 3) λC=>Bc (C≠0) (R (vi 40) F) (Bc (b<2) (Li F (Am f 4) λD=>Bc (D≠0) (R (vi 40) F) (Bc (1<=b) (Li F (Am f 3) λE=>Cbo 201 #[(vi E),(vi a),(Pp d)] F λG F=>Bb ((!G)) (R (vi 40) F) (Bc (2<=b) (Li F (Am f 4) λH=>Cbo 201 #[(vi H),(vi a),(Pp d)] F λI F=>Bb ((!I)) (R (vi 40) F) (bY e c d a R F)) (bY e c d a R F))) (Bc (2<=b) (Li F (Am f 4) λg=>Cbo 201 #[(vi g),(vi a),(Pp d)] F λh F=>Bb ((!h)) (R (vi 40) F) (bY e c d a R F)) (bY e c d a R F)))) (Bc (1<=b) (Li F (Am f 3) λi=>Cbo 201 #[(vi i),(vi a),(Pp d)] F λj F=>Bb ((!j)) (R (vi 40) F) (Bc (2<=b) (Li F (Am f 4) λk=>Cbo 201 #[(vi k),(vi a),(Pp d)] F λl F=>Bb ((!l)) (R (vi 40) F) (bY e c d a R F)) (bY e c d a R F))) (Bc (2<=b) (Li F (Am f 4) λm=>Cbo 201 #[(vi m),(vi a),(Pp d)] F λn F=>Bb ((!n)) (R (vi 40) F) (bY e c d a R F)) (bY e c d a R F))))) (Bc (b<2) (Li F (Am f 4) λo=>Bc (o≠0) (R (vi 40) F) (Bc (1<=b) (Li F (Am f 3) λp=>Cbo 201 #[(vi p),(vi a),(Pp d)] F λq F=>Bb ((!q)) (R (vi 40) F) (Bc (2<=b) (Li F (Am f 4) λr=>Cbo 201 #[(vi r),(vi a),(Pp d)] F λs F=>Bb ((!s)) (R (vi 40) F) (bY e c d a R F)) (bY e c d a R F))) (Bc (2<=b) (Li F (Am f 4) λt=>Cbo 201 #[(vi t),(vi a),(Pp d)] F λu F=>Bb ((!u)) (R (vi 40) F) (bY e c d a R F)) (bY e c d a R F)))) (Bc (1<=b) (Li F (Am f 3) λv=>Cbo 201 #[(vi v),(vi a),(Pp d)] F λw F=>Bb ((!w)) (R (vi 40) F) (Bc (2<=b) (Li F (Am f 4) λx=>Cbo 201 #[(vi x),(vi a),(Pp d)] F λy F=>Bb ((!y)) (R (vi 40) F) (bY e c d a R F)) (bY e c d a R F))) (Bc (2<=b) (Li F (Am f 4) λz=>Cbo 201 #[(vi z),(vi a),(Pp d)] F λA F=>Bb ((!A)) (R (vi 40) F) (bY e c d a R F)) (bY e c d a R F)))))
def BI (f:Ω) (c:Sl) (e:Nat) (R:VR) (a:Int) (F:PH):Prop:=Bc (a<(c.len:Int)) (Ix c a λg=>Lr F 5 (Addr.add g (Int.toNat a*5)) λh=>Nb F (.cells (#[vi 0,vi 0,vi 0,vi 0,vi 0]) 97) λd F=>aw F (Am d 0) 5 h λF=>Li F (Am d 0) λi=>Ci 202 #[(vi i)] F λb F=>Li F (Am d 0) λj=>Bc (j=1) (Li F (Am d 1) λk=>Bc (0<=k) (Li F (Am d 1) λl=>Li F (Am d 2) λm=>Bc (l<=m) (Li F (Am d 2) λn=>fM f c e a d b (decide (n<=(255:Int))) R F) (fM f c e a d b false R F)) (fM f c e a d b false R F)) (Li F (Am d 1) λo=>Bc (o≠0) (fM f c e a d b false R F) (Li F (Am d 2) λp=>Bc (p≠0) (fM f c e a d b false R F) (fM f c e a d b (decide (0<=b)) R F)))) (BH c e R F)
def L8 (a:Sl) (R:VR) (F:PH):Prop:=Bc ((512:Int)<(a.len:Int)) (R (vi 2) F) (aG prog (Instr.makeSlice 265 (vi (a.len:Int)) (vi (a.len:Int))) F λv F=>∃b,v=(Sl.v b)/\Nb F (.cells (#[.slice none 0 0]) 265) λd F=>sto F (Am d 0) (Sl.v b) λF=>Lp 0 F λN c F=>BI N a d R c F)
theorem RO {a:Sl} (h:L8 a R F):ae prog 150 #[Sl.v a] F R:=Rx.sxC (args:=[Sl.v a]) (.T .N (.T .N (.T .N (.T .N (.J false [] (.T .N (.L [(19,.int .i64)] (.T .N (.T .N (.J false [] (.T .N (.T .N (.T .N (.J false [(8,.bool)] .N .N)))) .N))))) (.J false [] (.T .N (.L [(105,.int .i64)] .N)) .N)))))) (by kernel_rfl) h
def oP (f:Nat) (c b:Θ) (R:VR) (F:PH):Prop:=Lx F (Am f 0) λd=>Cu 204 #[.pointer c,.string d,.func (.func 205) #[] #[(Pp f),.pointer b]] F λF=>∃a,b=some a/\Lb F a λe=>R (.bool e) F
def L9 (d:Sl) (g:ByteArray) (R:VR) (F:PH):Prop:=Nb F (.cells #[.string g] 9) λh F=>Ci 150 #[Sl.v d] F λi F=>Bc (i≠0) (R (.bool false) F) (ae prog 203 #[Sl.v d] F λv F=>∃b,v=(.pointer b)/\Lx F (Am h 0) λe=>Bb ((e.toList==(ByteArray.mk #[]).toList)) (∃a,b=some a/\Lb F (Addr.add a 18) λf=>Nb F (.cells (#[.bool false]) 4) λj F=>sto F (Am j 0) (.bool f) λF=>oP h (some a) (some (Am j 0)) R F) (Nb F (.cells (#[.bool false]) 4) λc F=>sto F (Am c 0) (.bool false) λF=>oP h b (some (Am c 0)) R F))
theorem RR {a:Sl} {b:ByteArray} (h:L9 a b R F):ae prog 151 #[Sl.v a,.string b] F R:=Rx.sxC (args:=[Sl.v a,.string b]) (.T .N (.T .N (.T .N (.J false [(5,.ptr),(6,.ptr)] .N .N)))) (by kernel_rfl) h
def Ma (a c:Int) (i:Θ) (R:VR) (F:PH):Prop:=Bc (a<0) (R (.bool false) F) (Bc (c<=a) (R (.bool false) F) (∃b,i=some b/\Ls F b λd=>Ix d a λe=>Lb F (Addr.add e (Int.toNat a*1)) λf=>Bb (f) (R (.bool false) F) (Ls F b λg=>Ix g a λh=>sto F (Addr.add h (Int.toNat a*1)) (.bool true) λF=>R (.bool true) F)))
theorem RU {b:Int} {a:Int} {c:Θ} (h:Ma b a c R F):ae prog 201 #[(vi b),(vi a),.pointer c] F R:=Rx.sxC (args:=[(vi b),(vi a),.pointer c]) .N (by kernel_rfl) h
def oQ (a:Int) (b:Bool) (R:VR) (F:PH):Prop:=Bb (b) (R (vi 0) F) (Bc (a=4) (R (vi 1) F) (Bc (a=2) (Bc (a=2) (R (vi 2) F) (R (vi (-1:Int)) F)) (Bc (a=3) (R (vi 2) F) (R (vi (-1:Int)) F))))
def Mb (a:Int) (R:VR) (F:PH):Prop:=Bc (a=0) (oQ a (decide (a=0)) R F) (oQ a (decide (a=1)) R F)
theorem RV {a:Int} (h:Mb a R F):ae prog 202 #[(vi a)] F R:=Rx.sxC (args:=[(vi a)]) (.T .N (.T (.T .N (.J false [(4,.bool)] .N .N)) .N)) (by kernel_rfl) h
def jM (q:Nat) (i:Θ) (R:VR) (F:PH):Prop:=Nb F (.cells (#[.nilFunc]) 303) λr F=>Nb F (.cells (#[.nilFunc]) 306) λt F=>sto F (Am t 0) (.func (.func 222) #[] #[.pointer i]) λF=>sto F (Am r 0) (.func (.func 226) #[] #[(Pp q),(Pp r),(Pp t)]) λF=>∃a,i=some a/\Lq F a λj=>Lq F a λe=>Lq F a λb=>∃k:Value,F.cell (Am r 0)=some k/\Ls F (Am q 0) λl=>Fn k λs n o=>ae prog s (n++([(vi (i64.wrap ((l.len:Int) - 1)))]).toArray++o) F λv F=>∃m,∃c,∃d,v=(Value.tuple #[(Value.agg m),(Value.agg c),(Value.bool d)])/\F.cell (Am q 0)=some (Sl.v l)/\F.cell a=some (.pointer b)/\F.cell a=some (.pointer e)/\F.cell a=some (.pointer j)/\∃f,j=some f/\aw F (Addr.add f 1) 8 m λF=>F.cell a=some (.pointer b)/\F.cell a=some (.pointer e)/\∃g,e=some g/\aw F (Addr.add g 9) 8 c λF=>F.cell a=some (.pointer b)/\∃h,b=some h/\sto F (Addr.add h 18) (.bool d) λF=>Lq F a λp=>R (.pointer p) F
def Mc (j:Sl) (R:VR) (F:PH):Prop:=Nb F (.cells #[Sl.v j] 77) λd F=>Ls F (Am d 0) λb=>Ls F (Am d 0) λa=>((aG prog (Instr.makeSlice 276 (vi (a.len:Int)) (vi (a.len:Int))) F λv F=>∃g,v=(Sl.v g)/\F.cell (Am d 0)=some (Sl.v a)/\F.cell (Am d 0)=some (Sl.v b)/\((Nb F (.cells (#[Sl.v b,.int .u64 0,.int .u64 0,.int .u64 0,.int .u64 0,.int .u64 0,.int .u64 0,.int .u64 0,.int .u64 0,.int .u64 0,.int .u64 0,.int .u64 0,.int .u64 0,.int .u64 0,.int .u64 0,.int .u64 0,.int .u64 0,Sl.v g,.bool false]:Γ) 278) λk F=>Nb F (.cells (#[.pointer none]) 272) λl F=>sto F (Am l 0) (Pp k) λF=>jM d (some (Am l 0)) R F)/\(Nb F (.cells (#[.pointer none]) 272) λe F=>Nb F (.cells (#[Sl.v b,.int .u64 0,.int .u64 0,.int .u64 0,.int .u64 0,.int .u64 0,.int .u64 0,.int .u64 0,.int .u64 0,.int .u64 0,.int .u64 0,.int .u64 0,.int .u64 0,.int .u64 0,.int .u64 0,.int .u64 0,.int .u64 0,Sl.v g,.bool false]:Γ) 278) λh F=>sto F (Am e 0) (Pp h) λF=>jM d (some (Am e 0)) R F)))/\(Nb F (.cells (#[.pointer none]) 272) λf F=>aG prog (Instr.makeSlice 276 (vi (a.len:Int)) (vi (a.len:Int))) F λv F=>∃c,v=(Sl.v c)/\F.cell (Am d 0)=some (Sl.v a)/\F.cell (Am d 0)=some (Sl.v b)/\Nb F (.cells (#[Sl.v b,.int .u64 0,.int .u64 0,.int .u64 0,.int .u64 0,.int .u64 0,.int .u64 0,.int .u64 0,.int .u64 0,.int .u64 0,.int .u64 0,.int .u64 0,.int .u64 0,.int .u64 0,.int .u64 0,.int .u64 0,.int .u64 0,Sl.v c,.bool false]:Γ) 278) λi F=>sto F (Am f 0) (Pp i) λF=>jM d (some (Am f 0)) R F))
theorem RW {a:Sl} (h:Mc a R F):ae prog 203 #[Sl.v a] F R:=Rx.sxC (args:=[Sl.v a]) (.T .N (.J false [(3,.ptr)] .N .N)) (by kernel_rfl) h
def BJ (u:Ω) (q:Value) (p w s:Nat) (j:ByteArray) (R:VR) (a:Int) (F:PH):Prop:=Bc (a<(j.size:Int)) (Nb F (.cells (#[vi 0]) 3) λk F=>sto F (Am k 0) (vi a) λF=>Nb F (.cells (#[.int .u64 0,.int .u64 0,.int .u64 0,.int .u64 0,.int .u64 0,.int .u64 0,.int .u64 0,.int .u64 0]) 275) λl F=>Nb F (.cells (#[.int .u64 0,.int .u64 0,.int .u64 0,.int .u64 0,.int .u64 0,.int .u64 0,.int .u64 0,.int .u64 0]) 275) λt F=>Cu 223 #[(Pp s),.func (.func 228) #[] #[(Pp w),(Pp k),(Pp p),(Pp l),(Pp t)]] F λF=>Lr F 8 (Am l 0) λb=>∃f,(∀F,rdo prog (Op.equal 275 (.agg b) (.agg (#[.int .u64 0,.int .u64 0,.int .u64 0,.int .u64 0,.int .u64 0,.int .u64 0,.int .u64 0,.int .u64 0]:Γ))) F f)/\Bb (f) (R (.tuple #[]) F) (Li F (Am k 0) λc=>Lq F (Am p 0) λd=>∃e,d=some e/\Lr F 8 (Addr.add e 9) λm=>Cbo 229 #[(Pp l),.agg m] F λn F=>F.cell (Am p 0)=some (Value.pointer d)/\F.cell (Am k 0)=some (vi c)/\F.row (Am l 0) b/\Fn q λr h i=>ae prog r (h++([(vi (i64.wrap (c+1))),(Value.bool n)]).toArray++i) F λv F=>∃g,v=(Value.bool g)/\F.cell (Am p 0)=some (.pointer d)/\F.cell (Am k 0)=some (vi c)/\F.row (Am l 0) b/\Bb ((!g)) (R (.tuple #[]) F) (Lr F 8 (Am t 0) λo=>aw F (Am s 0) 8 o λF=>u (i64.wrap (a+1)) F))) (R (.tuple #[]) F)
def Md (b:Θ) (g:ByteArray) (h:Value) (R:VR) (F:PH):Prop:=Nb F (.cells #[.pointer b] 272) λi F=>Nb F (.cells #[.string g] 9) λj F=>Lq F (Am i 0) λc=>∃a,c=some a/\Lr F 8 (Addr.add a 1) λd=>Nb F (.cells (#[.int .u64 0,.int .u64 0,.int .u64 0,.int .u64 0,.int .u64 0,.int .u64 0,.int .u64 0,.int .u64 0]) 275) λk F=>aw F (Am k 0) 8 d λF=>Lx F (Am j 0) λe=>Lp 0 F λN f F=>BJ N h i j k e R f F
theorem RX {a:Θ} {b:ByteArray} {c:Value} (h:Md a b c R F):ae prog 204 #[.pointer a,.string b,c] F R:=Rx.sxC (args:=[.pointer a,.string b,c]) (.T .N (.T .N (.T .N (.L [(16,.int .i64)] .N)))) (by kernel_rfl) h
def Me (f:Int) (d:Bool) (g e:Θ) (R:VR) (F:PH):Prop:=∃b,g=some b/\Lx F b λh=>Bc (f=(h.size:Int)) (∃c,e=some c/\sto F c (.bool d) λF=>R (.bool true) F) (∃a,e=some a/\sto F a (.bool false) λF=>R (.bool true) F)
theorem RY {b:Int} {a:Bool} {c:Θ} {d:Θ} (h:Me b a c d R F):ae prog 205 #[(vi b),.bool a,.pointer c,.pointer d] F R:=Rx.sxC (args:=[(vi b),.bool a,.pointer c,.pointer d]) .N (by kernel_rfl) h
def Mf (a b:Γ) (c:Θ) (R:VR) (F:PH):Prop:=Nb F (.cells a 275) λd F=>Nb F (.cells b 275) λe F=>Cu 223 #[(Pp d),.func (.func 224) #[] #[.pointer c,(Pp e)]] F λF=>R (.tuple #[]) F
theorem RZ {a:Γ} {b:Γ} {c:Θ} (h:Mf a b c R F):ae prog 222 #[.agg a,.agg b,.pointer c] F R:=Rx.sxC (args:=[.agg a,.agg b,.pointer c]) .N (by kernel_rfl) h
def BK (b:Ω) (c:Value) (d:Θ) (a:Int) (R:VR) (F:PH):Prop:=b (i64.wrap (a+1)) F
def BL (i j:Ω) (d:Value) (e:Int) (f:Addr) (R:VR) (a:Int) (F:PH):Prop:=Bc (a≠0) (Ci 240 #[.int .u64 a] F λg F=>Fn d λh b c=>ae prog h (b++([(vi (i64.wrap ((i64.wrap (64*e))+g)))]).toArray++c) F λv F=>v=(Value.tuple #[])/\j (u64.wrap ((BitVec.ofInt (u64).bits a &&& BitVec.ofInt (u64).bits (u64.wrap (a - 1))).toNat)) F) (BK i d (some f) e R F)
def BM (i:Ω) (f:Value) (g:Θ) (R:VR) (a:Int) (F:PH):Prop:=Bc (a<8) (∃b,g=some b/\0<=a/\a<8/\Lk F .u64 (Addr.add b (Int.toNat a*1)) λc=>(∃(h:Nat->Ω) (e:Nat),h e c F/\∀e d F,h e d F-> BL i (nx1 h e) f a b R d F)) (R (.tuple #[]) F)
def Mg (a:Θ) (b:Value) (R:VR) (F:PH):Prop:=Lp 0 F λN c F=>BM N b a R c F
theorem R0 {a:Θ} {b:Value} (h:Mg a b R F):ae prog 223 #[.pointer a,b] F R:=Rx.sxC (args:=[.pointer a,b]) (.T .N (.L [(7,.int .i64)] (.T .N (.T .N (.J false [(6,.ptr)] (.T .N (.L [(5,.int .u64)] .N)) .N))))) (by kernel_rfl) h
def Mh (d:Int) (h i:Θ) (R:VR) (F:PH):Prop:=∃a,h=some a/\Lq F a λe=>∃b,e=some b/\Ls F (Addr.add b 17) λf=>Ix f d λj=>∃c,i=some c/\Lr F 8 c λg=>Cu 225 #[.pointer (some (Addr.add j (Int.toNat d*8))),.agg g] F λF=>F.cell (Addr.add b 17)=some (Sl.v f)/\F.cell a=some (.pointer e)/\R (.tuple #[]) F
theorem R1 {a:Int} {b:Θ} {c:Θ} (h:Mh a b c R F):ae prog 224 #[(vi a),.pointer b,.pointer c] F R:=Rx.sxC (args:=[(vi a),.pointer b,.pointer c]) .N (by kernel_rfl) h
def BN (f:Ω) (e:Θ) (g:Nat) (R:VR) (a:Int) (F:PH):Prop:=Bc (a<8) (∃b,e=some b/\0<=a/\a<8/\Lk F .u64 (Addr.add b (Int.toNat a*1)) λc=>0<=a/\a<8/\Lk F .u64 (Addr.add (Am g 0) (Int.toNat a*1)) λd=>0<=a/\a<8/\sto F (Addr.add b (Int.toNat a*1)) (.int .u64 (u64.wrap ((BitVec.ofInt (u64).bits c ||| BitVec.ofInt (u64).bits d).toNat))) λF=>f (i64.wrap (a+1)) F) (R (.tuple #[]) F)
def Mi (a:Θ) (b:Γ) (R:VR) (F:PH):Prop:=Nb F (.cells b 275) λd F=>Lp 0 F λN c F=>BN N a d R c F
theorem R2 {a:Θ} {b:Γ} (h:Mi a b R F):ae prog 225 #[.pointer a,.agg b] F R:=Rx.sxC (args:=[.pointer a,.agg b]) (.T .N (.T .N (.L [(5,.int .i64)] .N))) (by kernel_rfl) h
def jN (i j l:Nat) (e:Bool) (k:Nat) (f:Bool) (R:VR) (F:PH):Prop:=Lr F 8 (Am l 0) λg=>Lr F 8 (Am k 0) λh=>Bb (e) (aw F (Am i 0) 8 g λF=>aw F (Am j 0) 8 h λF=>Lr F 8 (Am i 0) λa=>Lr F 8 (Am j 0) λb=>R (.tuple #[.agg a,.agg b,.bool f]) F) (aw F (Am i 0) 8 g λF=>aw F (Am j 0) 8 h λF=>Lr F 8 (Am i 0) λc=>Lr F 8 (Am j 0) λd=>R (.tuple #[.agg c,.agg d,.bool false]) F)
def oR (f g h e:Nat) (b:Bool) (c:Nat) (a:Bool) (R:VR) (F:PH):Prop:=Bb (a) (Lr F 8 (Am e 0) λd=>Cu 225 #[(Pp c),.agg d] F λF=>jN f g h b c a R F) (jN f g h b c a R F)
def tX (ac:Int) (aX ad aD:Θ) (R:VR) (F:PH):Prop:=Nb F (.cells (#[.int .u64 0,.int .u64 0,.int .u64 0,.int .u64 0,.int .u64 0,.int .u64 0,.int .u64 0,.int .u64 0]) 275) λe F=>Nb F (.cells (#[.int .u64 0,.int .u64 0,.int .u64 0,.int .u64 0,.int .u64 0,.int .u64 0,.int .u64 0,.int .u64 0]) 275) λf F=>∃O,aX=some O/\Ls F O λaE=>Ix aE ac λaF=>Lr F 5 (Addr.add aF (Int.toNat ac*5)) λaG=>Nb F (.cells (#[vi 0,vi 0,vi 0,vi 0,vi 0]) 97) λb8 F=>aw F (Am b8 0) 5 aG λF=>Li F (Am b8 0) λg=>Bc (g=1) (Cu 227 #[(Pp e),(vi ac)] F λF=>Lr F 8 (Am e 0) λaH=>Lr F 8 (Am e 0) λaI=>aw F (Am e 0) 8 aH λF=>aw F (Am f 0) 8 aI λF=>Lr F 8 (Am e 0) λG=>Lr F 8 (Am f 0) λH=>R (.tuple #[.agg G,.agg H,.bool false]) F) (Bc (g=2) (∃y,ad=some y/\∃P:Value,F.cell y=some P/\Li F (Am b8 3) λaJ=>Fn P λaY ag ah=>ae prog aY (ag++([(vi aJ)]).toArray++ah) F λv F=>∃Q,∃h,∃a,v=(Value.tuple #[(Value.agg Q),(Value.agg h),(Value.bool a)])/\Nb F (.cells (#[.int .u64 0,.int .u64 0,.int .u64 0,.int .u64 0,.int .u64 0,.int .u64 0,.int .u64 0,.int .u64 0]) 275) λb9 F=>Nb F (.cells (#[.int .u64 0,.int .u64 0,.int .u64 0,.int .u64 0,.int .u64 0,.int .u64 0,.int .u64 0,.int .u64 0]) 275) λI F=>aw F (Am b9 0) 8 Q λF=>aw F (Am I 0) 8 h λF=>∃S:Value,F.cell y=some S/\Li F (Am b8 4) λaK=>Fn S λaZ ai aj=>ae prog aZ (ai++([(vi aK)]).toArray++aj) F λv F=>∃T,∃i,∃b,v=(Value.tuple #[(Value.agg T),(Value.agg i),(Value.bool b)])/\Nb F (.cells (#[.int .u64 0,.int .u64 0,.int .u64 0,.int .u64 0,.int .u64 0,.int .u64 0,.int .u64 0,.int .u64 0]) 275) λak F=>Nb F (.cells (#[.int .u64 0,.int .u64 0,.int .u64 0,.int .u64 0,.int .u64 0,.int .u64 0,.int .u64 0,.int .u64 0]) 275) λal F=>aw F (Am ak 0) 8 T λF=>aw F (Am al 0) 8 i λF=>∃U,aD=some U/\∃V:Value,F.cell U=some V/\Lr F 8 (Am I 0) λaL=>Lr F 8 (Am ak 0) λaM=>Fn V λa0 am an=>ae prog a0 (am++([(Value.agg aL),(Value.agg aM)]).toArray++an) F λv F=>v=(Value.tuple #[])/\Bb (a) (Lr F 8 (Am ak 0) λaN=>Cu 225 #[(Pp b9),.agg aN] F λF=>oR e f b9 I a al b R F) (oR e f b9 I a al b R F)) (Bc (g=3) (∃c,ad=some c/\∃W:Value,F.cell c=some W/\Li F (Am b8 3) λaO=>Fn W λa1 ao ap=>ae prog a1 (ao++([(vi aO)]).toArray++ap) F λv F=>∃X,∃j,∃k,v=(Value.tuple #[(Value.agg X),(Value.agg j),(Value.bool k)])/\Nb F (.cells (#[.int .u64 0,.int .u64 0,.int .u64 0,.int .u64 0,.int .u64 0,.int .u64 0,.int .u64 0,.int .u64 0]) 275) λaq F=>Nb F (.cells (#[.int .u64 0,.int .u64 0,.int .u64 0,.int .u64 0,.int .u64 0,.int .u64 0,.int .u64 0,.int .u64 0]) 275) λar F=>aw F (Am aq 0) 8 X λF=>aw F (Am ar 0) 8 j λF=>∃Y:Value,F.cell c=some Y/\Li F (Am b8 4) λaP=>Fn Y λa2 au av=>ae prog a2 (au++([(vi aP)]).toArray++av) F λv F=>∃Z,∃l,∃m,v=(Value.tuple #[(Value.agg Z),(Value.agg l),(Value.bool m)])/\Nb F (.cells (#[.int .u64 0,.int .u64 0,.int .u64 0,.int .u64 0,.int .u64 0,.int .u64 0,.int .u64 0,.int .u64 0]) 275) λaQ F=>Nb F (.cells (#[.int .u64 0,.int .u64 0,.int .u64 0,.int .u64 0,.int .u64 0,.int .u64 0,.int .u64 0,.int .u64 0]) 275) λaR F=>aw F (Am aQ 0) 8 Z λF=>aw F (Am aR 0) 8 l λF=>Lr F 8 (Am aQ 0) λaS=>Cu 225 #[(Pp aq),.agg aS] F λF=>Lr F 8 (Am aR 0) λaT=>Cu 225 #[(Pp ar),.agg aT] F λF=>Lr F 8 (Am aq 0) λaa=>Lr F 8 (Am ar 0) λab=>Bb (k) (aw F (Am e 0) 8 aa λF=>aw F (Am f 0) 8 ab λF=>Lr F 8 (Am e 0) λp=>Lr F 8 (Am f 0) λq=>R (.tuple #[.agg p,.agg q,.bool true]) F) (aw F (Am e 0) 8 aa λF=>aw F (Am f 0) 8 ab λF=>Lr F 8 (Am e 0) λr=>Lr F 8 (Am f 0) λs=>R (.tuple #[.agg r,.agg s,.bool m]) F)) (Bc (g=4) (∃n,ad=some n/\∃z:Value,F.cell n=some z/\Li F (Am b8 3) λax=>Fn z λaU J K=>ae prog aU (J++([(vi ax)]).toArray++K) F λv F=>∃A,∃d,∃B,v=(Value.tuple #[(Value.agg A),(Value.agg d),(Value.bool B)])/\Nb F (.cells (#[.int .u64 0,.int .u64 0,.int .u64 0,.int .u64 0,.int .u64 0,.int .u64 0,.int .u64 0,.int .u64 0]) 275) λay F=>Nb F (.cells (#[.int .u64 0,.int .u64 0,.int .u64 0,.int .u64 0,.int .u64 0,.int .u64 0,.int .u64 0,.int .u64 0]) 275) λL F=>aw F (Am ay 0) 8 A λF=>aw F (Am L 0) 8 d λF=>∃o,aD=some o/\∃C:Value,F.cell o=some C/\Lr F 8 (Am L 0) λaz=>Lr F 8 (Am ay 0) λaA=>Fn C λaV M N=>ae prog aV (M++([(Value.agg az),(Value.agg aA)]).toArray++N) F λv F=>v=(Value.tuple #[])/\Lr F 8 (Am ay 0) λaB=>Lr F 8 (Am L 0) λD=>aw F (Am e 0) 8 aB λF=>F.row (Am L 0) D/\aw F (Am f 0) 8 D λF=>Lr F 8 (Am e 0) λt=>Lr F 8 (Am f 0) λu=>R (.tuple #[.agg t,.agg u,.bool true]) F) (Lr F 8 (Am e 0) λaC=>Lr F 8 (Am f 0) λE=>aw F (Am e 0) 8 aC λF=>F.row (Am f 0) E/\aw F (Am f 0) 8 E λF=>Lr F 8 (Am e 0) λw=>Lr F 8 (Am f 0) λx=>R (.tuple #[.agg w,.agg x,.bool true]) F))))
theorem xH {a:Int} {b:Θ} {c:Θ} {d:Θ} (h:tX a b c d R F):ae prog 226 #[(vi a),.pointer b,.pointer c,.pointer d] F R:=Rx.sxC (args:=[(vi a),.pointer b,.pointer c,.pointer d]) (.T .N (.T .N (.T (.T .N (.T .N (.T .N (.T .N (.T (.T .N (.T .N (.T .N (.J false [] .N (.J false [] .N .N))))) .N))))) .N))) (by kernel_rfl) h
def Mj (d:Θ) (a:Int) (R:VR) (F:PH):Prop:=∃b,d=some b/\0<=(i64.wrap (Int.tdiv a 64))/\(i64.wrap (Int.tdiv a 64))<8/\∃c,F.cell (Addr.add b (Int.toNat (i64.wrap (Int.tdiv a 64))*1))=some (.int .u64 c)/\0<=(Int.tmod a 64)/\0<=(i64.wrap (Int.tdiv a 64))/\(i64.wrap (Int.tdiv a 64))<8/\sto F (Addr.add b (Int.toNat (i64.wrap (Int.tdiv a 64))*1)) (.int .u64 (u64.wrap ((BitVec.ofInt (u64).bits c ||| BitVec.ofInt (u64).bits (u64.wrap (1*2 ^ (min (Int.toNat (Int.tmod a 64)) (u64).bits)))).toNat))) λF=>R (.tuple #[]) F
theorem R3 {a:Θ} {b:Int} (h:Mj a b R F):ae prog 227 #[.pointer a,(vi b)] F R:=Rx.sxC (args:=[.pointer a,(vi b)]) .N (by kernel_rfl) h
def oS (c:Int) (i j k:Θ) (d:Bool) (R:VR) (F:PH):Prop:=Bb (d) (Cu 227 #[.pointer j,(vi c)] F λF=>∃b,i=some b/\Lq F b λe=>∃a,e=some a/\Ls F (Addr.add a 17) λf=>Ix f c λg=>Lr F 8 (Addr.add g (Int.toNat c*8)) λh=>Cu 225 #[.pointer k,.agg h] F λF=>R (.tuple #[]) F) (R (.tuple #[]) F)
def Mk (b:Int) (t u v j k:Θ) (R:VR) (F:PH):Prop:=∃g,t=some g/\Lx F g λi=>∃h,u=some h/\Li F h λf=>0<=f/\f<(i.size:Int)/\∃(hx:Int.toNat f<i.size) (c:Int),c=((i[Int.toNat f]'hx).toNat:Int)/\∃a,v=some a/\Lq F a λl=>∃d,l=some d/\Ls F d λm=>Ix m b λn=>Li F (Addr.add (Addr.add n (Int.toNat b*5)) 1) λo=>Bc (o<=(i64.wrap c)) (Lq F a λp=>∃e,p=some e/\Ls F e λq=>Ix q b λr=>Li F (Addr.add (Addr.add r (Int.toNat b*5)) 2) λs=>oS b (some a) j k (decide ((i64.wrap c)<=s)) R F) (oS b (some a) j k false R F)
theorem R4 {a:Int} {b:Θ} {c:Θ} {d:Θ} {e:Θ} {f:Θ} (h:Mk a b c d e f R F):ae prog 228 #[(vi a),.pointer b,.pointer c,.pointer d,.pointer e,.pointer f] F R:=Rx.sxC (args:=[(vi a),.pointer b,.pointer c,.pointer d,.pointer e,.pointer f]) (.T .N (.J false [(3,.ptr),(33,.bool)] .N .N)) (by kernel_rfl) h
def BO (R:VR) (F:PH):Prop:=R (.bool false) F
def BP (f:Ω) (e:Θ) (g:Nat) (R:VR) (a:Int) (F:PH):Prop:=Bc (a<8) (∃b,e=some b/\0<=a/\a<8/\Lk F .u64 (Addr.add b (Int.toNat a*1)) λc=>0<=a/\a<8/\Lk F .u64 (Addr.add (Am g 0) (Int.toNat a*1)) λd=>Bc ((u64.wrap ((BitVec.ofInt (u64).bits c &&& BitVec.ofInt (u64).bits d).toNat))≠0) (R (.bool true) F) (f (i64.wrap (a+1)) F)) (BO R F)
def Ml (a:Θ) (b:Γ) (R:VR) (F:PH):Prop:=Nb F (.cells b 275) λd F=>Lp 0 F λN c F=>BP N a d R c F
theorem R5 {a:Θ} {b:Γ} (h:Ml a b R F):ae prog 229 #[.pointer a,.agg b] F R:=Rx.sxC (args:=[.pointer a,.agg b]) (.T .N (.J false [] (.T .N (.L [(6,.int .i64)] .N)) .N)) (by kernel_rfl) h
end Go.Proofs.YtenpmjhnhepfdaaGreatDoor
