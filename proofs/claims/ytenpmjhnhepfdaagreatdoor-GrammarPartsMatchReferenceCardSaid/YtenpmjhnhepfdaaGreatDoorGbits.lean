/-
  What functions of the program do, in a clean form, each with the proof that its code does so. Printed by a program.
-/
import Derived.Test.YtenpmjhnhepfdaaGreatDoorEa
import Derived.Test.YtenpmjhnhepfdaaGreatDoorPhp
namespace Go.Proofs.YtenpmjhnhepfdaaGreatDoor
inductive Pat where
 |emp:Pat
 |rng:Nat->Nat->Pat
 |seq:Pat->Pat->Pat
 |alt:Pat->Pat->Pat
 |rep:Pat->Pat
deriving DecidableEq
inductive ie (P:List Nat->Prop):List Nat->Prop where
 |nil:ie P []
 |cons {u v:List Nat}:P u->ie P v->ie P (u++v)
def Lg:Pat->List Nat->Prop
 | .emp,w=>w=[]
 | .rng lo hi,w=>∃b,w=[b]/\lo<=b/\b<=hi
 | .seq x y,w=>∃u v,w=u++v/\Lg x u/\Lg y v
 | .alt x y,w=>Lg x w\/Lg y w
 | .rep x,w=>ie (Lg x) w
inductive Lt where
 |emp:Lt
 |rng:Nat->Nat->Nat->Lt
 |seq:Lt->Lt->Lt
 |alt:Lt->Lt->Lt
 |rep:Lt->Lt
namespace Lt
def pat:Lt->Pat
 |emp=> .emp
 |rng _ lo hi=> .rng lo hi
 |seq x y=> .seq x.pat y.pat
 |alt x y=> .alt x.pat y.pat
 |rep x=> .rep x.pat
def nul:Lt->Bool
 |emp=>true
 |rng _ _ _=>false
 |seq x y=>x.nul && y.nul
 |alt x y=>x.nul || y.nul
 |rep _=>true
def first:Lt->Nat->Prop
 |emp,_=>False
 |rng i _ _,j=>i=j
 |seq x y,j=>x.first j\/(x.nul=true/\y.first j)
 |alt x y,j=>x.first j\/y.first j
 |rep x,j=>x.first j
def last:Lt->Nat->Prop
 |emp,_=>False
 |rng i _ _,j=>i=j
 |seq x y,j=>y.last j\/(y.nul=true/\x.last j)
 |alt x y,j=>x.last j\/y.last j
 |rep x,j=>x.last j
def fol:Lt->Nat->Nat->Prop
 |emp,_,_=>False
 |rng _ _ _,_,_=>False
 |seq x y,i,j=>x.fol i j\/y.fol i j\/(x.last i/\y.first j)
 |alt x y,i,j=>x.fol i j\/y.fol i j
 |rep x,i,j=>x.fol i j\/(x.last i/\x.first j)
def lab:Lt->Nat->Prop
 |emp,_=>False
 |rng i _ _,j=>i=j
 |seq x y,j=>x.lab j\/y.lab j
 |alt x y,j=>x.lab j\/y.lab j
 |rep x,j=>x.lab j
def fits (acc:Nat->Nat->Prop):Lt->Prop
 |emp=>True
 |rng i lo hi=>∀b,acc i b↔lo<=b/\b<=hi
 |seq x y=>x.fits acc/\y.fits acc/\∀i,x.lab i->¬y.lab i
 |alt x y=>x.fits acc/\y.fits acc/\∀i,x.lab i->¬y.lab i
 |rep x=>x.fits acc
theorem first_lab:∀(t:Lt) {i:Nat},t.first i->t.lab i
 |rng _ _ _,_,h=>h
 |seq x y,_,h=>h.elim (fun h=> .inl (x.first_lab h)) fun h=> .inr (y.first_lab h.2)
 |alt x y,_,h=>h.elim (fun h=> .inl (x.first_lab h)) fun h=> .inr (y.first_lab h)
 |rep x,_,h=>x.first_lab h
theorem last_lab:∀(t:Lt) {i:Nat},t.last i->t.lab i
 |rng _ _ _,_,h=>h
 |seq x y,_,h=>h.elim (fun h=> .inr (y.last_lab h)) fun h=> .inl (x.last_lab h.2)
 |alt x y,_,h=>h.elim (fun h=> .inl (x.last_lab h)) fun h=> .inr (y.last_lab h)
 |rep x,_,h=>x.last_lab h
theorem fol_lab:∀(t:Lt) {i j:Nat},t.fol i j->t.lab i/\t.lab j
 |seq x y,_,_,h=>by
  rcases h with h|h|⟨h,h'⟩
  ·exact ⟨.inl (x.fol_lab h).1,.inl (x.fol_lab h).2⟩
  ·exact ⟨.inr (y.fol_lab h).1,.inr (y.fol_lab h).2⟩
  ·exact ⟨.inl (x.last_lab h),.inr (y.first_lab h')⟩
 |alt x y,_,_,h=>by
  rcases h with h|h
  ·exact ⟨.inl (x.fol_lab h).1,.inl (x.fol_lab h).2⟩
  ·exact ⟨.inr (y.fol_lab h).1,.inr (y.fol_lab h).2⟩
 |rep x,_,_,h=>by
  rcases h with h|⟨h,h'⟩
  ·exact x.fol_lab h
  ·exact ⟨x.last_lab h,x.first_lab h'⟩
end Lt
def Pth (acc fol:Nat->Nat->Prop) (e:Nat->Prop):Nat->List Nat->Prop
 |_,[]=>False
 |i,b::w=>acc i b/\((w=[]/\e i)\/∃j,fol i j/\Pth acc fol e j w)
section
variable {acc fol fol':Nat->Nat->Prop} {e e':Nat->Prop}
theorem Pth.ne {i:Nat} {w:List Nat} (h:Pth acc fol e i w):w≠[]:=by rintro rfl;exact h
theorem Pth.mono (hf:∀i j,fol i j->fol' i j) (he:∀i,e i->e' i):∀(w:List Nat) (i:Nat),Pth acc fol e i w->Pth acc fol' e' i w
 |[],_,h=>h
 |_::w,_,⟨h,k⟩=>⟨h,k.elim (fun k=> .inl ⟨k.1,he _ k.2⟩) fun ⟨j,k1,k2⟩=> .inr ⟨j,hf _ _ k1,Pth.mono hf he w j k2⟩⟩
theorem Pth.inside (P:Nat->Prop) (hf:∀i j,P i->fol i j->P j/\fol' i j) (he:∀i,P i->e i->e' i):∀(w:List Nat) (i:Nat),P i->Pth acc fol e i w->Pth acc fol' e' i w
 |[],_,_,h=>h
 |_::w,i,hp,⟨h,k⟩=>⟨h,k.elim (fun k=> .inl ⟨k.1,he _ hp k.2⟩) fun ⟨j,k1,k2⟩=> .inr ⟨j,(hf i j hp k1).2,Pth.inside P hf he w j (hf i j hp k1).1 k2⟩⟩
theorem Pth.link {l g:Nat->Prop}:∀(w:List Nat) (i:Nat),Pth acc (fun i j=>fol i j\/(l i/\g j)) e i w->
  Pth acc fol e i w\/∃u v j,w=u++v/\Pth acc fol l i u/\g j/\Pth acc (fun i j=>fol i j\/(l i/\g j)) e j v
 |[],_,h=>h.elim
 |b::w,i,⟨h,k⟩=>by
  rcases k with ⟨rfl,k⟩|⟨j,k1|⟨k1,k3⟩,k2⟩
  ·exact .inl ⟨h,.inl ⟨rfl,k⟩⟩
  ·rcases Pth.link w j k2 with q|⟨u,v,m,rfl,q1,q2,q3⟩
   ·exact .inl ⟨h,.inr ⟨j,k1,q⟩⟩
   ·exact .inr ⟨b::u,v,m,rfl,⟨h,.inr ⟨j,k1,q1⟩⟩,q2,q3⟩
  ·exact .inr ⟨[b],w,j,rfl,⟨h,.inl ⟨rfl,k1⟩⟩,k3,k2⟩
theorem Pth.append {l g:Nat->Prop} (hf:∀i j,fol i j->fol' i j) (hl:∀i j,l i->g j->fol' i j) {v:List Nat} {j:Nat} (hg:g j) (hv:Pth acc fol' e j v):
  ∀(u:List Nat) (i:Nat),Pth acc fol l i u->Pth acc fol' e i (u++v)
 |[],_,h=>h.elim
 |b::u,i,⟨h,k⟩=>by
  rcases k with ⟨rfl,k⟩|⟨m,k1,k2⟩
  ·exact ⟨h,.inr ⟨j,hl i j k hg,hv⟩⟩
  ·exact ⟨h,.inr ⟨m,hf _ _ k1,Pth.append hf hl hg hv u m k2⟩⟩
end
theorem ie.ne {P:List Nat->Prop} {w:List Nat} (h:ie P w):w=[]\/∃u v,u≠[]/\w=u++v/\P u/\ie P v:=by
 induction h with
 |nil=>exact .inl rfl
 | @cons u v hu hv ih=>
  by_cases hn:u=[]
  ·subst hn
   exact ih
  ·exact .inr ⟨u,v,hn,rfl,hu,hv⟩
namespace Lt
variable {acc:Nat->Nat->Prop}
theorem nul_iff:∀(t:Lt),t.nul=true↔Lg t.pat []
 |emp=>⟨fun _=>rfl,fun _=>rfl⟩
 |rng i lo hi=>⟨fun h=>(by cases h),fun ⟨b,h,_⟩=>(by cases h)⟩
 |seq x y=>by
  have hx:=nul_iff x
  have hy:=nul_iff y
  simp only [nul,pat,Lg,Bool.and_eq_true,hx,hy]
  constructor
  ·rintro ⟨h1,h2⟩;exact ⟨[],[],rfl,h1,h2⟩
  ·rintro ⟨u,v,h,h1,h2⟩
   obtain ⟨rfl,rfl⟩:=List.append_eq_nil_iff.1 h.symm
   exact ⟨h1,h2⟩
 |alt x y=>by simp only [nul,pat,Lg,Bool.or_eq_true,nul_iff x,nul_iff y]
 |rep x=>⟨fun _=>ie.nil,fun _=>rfl⟩
theorem places:∀(t:Lt),t.fits acc->∀w,w≠[]->(Lg t.pat w↔∃i,t.first i/\Pth acc t.fol t.last i w)
 |emp,_,w,hw=>⟨fun h=>absurd h hw,fun ⟨i,h,_⟩=>h.elim⟩
 |rng i lo hi,hf,w,hw=>by
  constructor
  ·rintro ⟨b,rfl,h⟩
   exact ⟨i,rfl,(hf b).2 h,.inl ⟨rfl,rfl⟩⟩
  ·rintro ⟨j,rfl,h⟩
   cases w with
   |nil=>exact h.elim
   |cons b w=>
    obtain ⟨h1,⟨rfl,_⟩|⟨j,h2,_⟩⟩:=h
    ·exact ⟨b,rfl,(hf b).1 h1⟩
    ·exact h2.elim
 |alt x y,⟨fx,fy,hd⟩,w,hw=>by
  have ix:=places x fx w hw
  have iy:=places y fy w hw
  constructor
  ·rintro (h|h)
   ·obtain ⟨i,h1,h2⟩:=ix.1 h
    exact ⟨i,.inl h1,h2.mono (fun _ _ h=> .inl h) (fun _ h=> .inl h) w i⟩
   ·obtain ⟨i,h1,h2⟩:=iy.1 h
    exact ⟨i,.inr h1,h2.mono (fun _ _ h=> .inr h) (fun _ h=> .inr h) w i⟩
  ·rintro ⟨i,h1|h1,h2⟩
   ·refine .inl (ix.2 ⟨i,h1,h2.inside x.lab (fun i j hp h=> ?_) (fun i hp h=> ?_) w i (x.first_lab h1)⟩)
    ·exact h.elim (fun h=>⟨(x.fol_lab h).2,h⟩) fun h=>absurd (y.fol_lab h).1 (hd i hp)
    ·exact h.elim id fun h=>absurd (y.last_lab h) (hd i hp)
   ·refine .inr (iy.2 ⟨i,h1,h2.inside y.lab (fun i j hp h=> ?_) (fun i hp h=> ?_) w i (y.first_lab h1)⟩)
    ·exact h.elim (fun h=>absurd hp (hd i (x.fol_lab h).1)) fun h=>⟨(y.fol_lab h).2,h⟩
    ·exact h.elim (fun h=>absurd hp (hd i (x.last_lab h))) id
 |seq x y,⟨fx,fy,hd⟩,w,hw=>by
  have ix:=places x fx
  have iy:=places y fy
  have inY:∀w i,y.lab i->Pth acc (seq x y).fol (seq x y).last i w->Pth acc y.fol y.last i w:=fun w i hi h=>h.inside y.lab (fun i j hp h=>by
    rcases h with h|h|⟨h,_⟩
    ·exact absurd hp (hd i (x.fol_lab h).1)
    ·exact ⟨(y.fol_lab h).2,h⟩
    ·exact absurd hp (hd i (x.last_lab h))) (fun i hp h=>h.elim id fun h=>absurd hp (hd i (x.last_lab h.2))) w i hi
  constructor
  ·rintro ⟨u,v,rfl,hu,hv⟩
   by_cases hu0:u=[]
   ·subst hu0
    obtain ⟨i,h1,h2⟩:=(iy _ hw).1 hv
    exact ⟨i,.inr ⟨(nul_iff x).2 hu,h1⟩,h2.mono (fun _ _ h=> .inr (.inl h)) (fun _ h=> .inl h) _ i⟩
   ·obtain ⟨i,h1,h2⟩:=(ix u hu0).1 hu
    refine ⟨i,.inl h1,?_⟩
    by_cases hv0:v=[]
    ·subst hv0
     rw [List.append_nil]
     exact h2.mono (fun _ _ h=> .inl h) (fun _ h=> .inr ⟨(nul_iff y).2 hv,h⟩) _ i
    ·obtain ⟨j,h3,h4⟩:=(iy v hv0).1 hv
     exact Pth.append (fun _ _ h=> .inl h) (fun _ _ h h'=> .inr (.inr ⟨h,h'⟩)) h3 (h4.mono (fun _ _ h=> .inr (.inl h)) (fun _ h=> .inl h) v j) u i h2
  ·rintro ⟨i,h1,h2⟩
   rcases h1 with h1|⟨h0,h1⟩
   ·have k:Pth acc (fun i j=>(x.fol i j\/y.fol i j)\/(x.last i/\y.first j)) (seq x y).last i w:=h2.mono (fun i j h=>by
     rcases h with h|h|h
     ·exact .inl (.inl h)
     ·exact .inl (.inr h)
     ·exact .inr h) (fun _ h=>h) w i
    have inX:∀{e e':Nat->Prop} w i,(∀i,x.lab i->e i->e' i)->x.lab i->Pth acc (fun i j=>x.fol i j\/y.fol i j) e i w->Pth acc x.fol e' i w:=fun w i he hi h=>h.inside x.lab (fun i j hp h=>
     h.elim (fun h=>⟨(x.fol_lab h).2,h⟩) fun h=>absurd (y.fol_lab h).1 (hd i hp)) he w i hi
    rcases k.link w i with q|⟨u,v,j,rfl,q1,q2,q3⟩
    ·by_cases hy:y.nul=true
     ·exact ⟨w,[],(List.append_nil w).symm,(ix w hw).2 ⟨i,h1,inX w i (fun i hp h=>h.elim (fun h=>absurd (y.last_lab h) (hd i hp)) fun h=>h.2) (x.first_lab h1) q⟩,(nul_iff y).1 hy⟩
     ·exfalso
      have z:=inX (e':=fun _=>False) w i (fun i hp h=>h.elim (fun h=>absurd (y.last_lab h) (hd i hp)) fun h=>hy h.1) (x.first_lab h1) q
      have none:∀(w:List Nat) (i:Nat),¬Pth acc x.fol (fun _=>False) i w:=by
       intro w
       induction w with
       |nil=>exact fun _ h=>h
       |cons b w ih=>
        rintro i ⟨_,⟨_,h⟩|⟨j,_,h⟩⟩
        ·exact h
        ·exact ih j h
      exact none w i z
    ·refine ⟨u,v,rfl,(ix u q1.ne).2 ⟨i,h1,inX u i (fun _ _ h=>h) (x.first_lab h1) q1⟩,(iy v q3.ne).2 ⟨j,q2,inY v j (y.first_lab q2) (q3.mono (fun i j h=> ?_) (fun _ h=>h) v j)⟩⟩
     rcases h with (h|h)|h
     ·exact .inl h
     ·exact .inr (.inl h)
     ·exact .inr (.inr h)
   ·obtain q:=inY w i (y.first_lab h1) h2
    exact ⟨[],w,rfl,(nul_iff x).1 h0,(iy w hw).2 ⟨i,h1,q⟩⟩
 |rep x,fx,w,hw=>by
  have ix:=places x fx
  constructor
  ·intro h
   change ie (Lg x.pat) w at h
   have key:∀w,ie (Lg x.pat) w->w≠[]->∃i,x.first i/\Pth acc (rep x).fol x.last i w:=by
    intro w h
    induction h with
    |nil=>exact fun h=>absurd rfl h
    | @cons u v hu hv ih=>
     intro hn
     by_cases hu0:u=[]
     ·subst hu0
      exact ih hn
     ·obtain ⟨i,h1,h2⟩:=(ix u hu0).1 hu
      refine ⟨i,h1,?_⟩
      by_cases hv0:v=[]
      ·subst hv0
       rw [List.append_nil]
       exact h2.mono (fun _ _ h=> .inl h) (fun _ h=>h) _ i
      ·obtain ⟨j,h3,h4⟩:=ih hv0
       exact Pth.append (fun _ _ h=> .inl h) (fun _ _ h h'=> .inr ⟨h,h'⟩) h3 h4 u i h2
   exact key w h hw
  ·rintro ⟨i,h1,h2⟩
   have key:∀(n:Nat) (w:List Nat) (i:Nat),w.length<=n->x.first i->Pth acc (rep x).fol x.last i w->ie (Lg x.pat) w:=by
    intro n
    induction n with
    |zero=>intro w i hn _ h;exact absurd (List.length_eq_zero_iff.1 (by omega)) h.ne
    |succ n ih=>
     intro w i hn h1 h2
     rcases Pth.link (fol:=x.fol) (l:=x.last) (g:=x.first) w i h2 with q|⟨u,v,j,rfl,q1,q2,q3⟩
     ·have:=ie.cons ((ix w q.ne).2 ⟨i,h1,q⟩) ie.nil
      rwa [List.append_nil] at this
     ·have hu:0<u.length:=List.length_pos_iff.2 q1.ne
      rw [List.length_append] at hn
      exact .cons ((ix u q1.ne).2 ⟨i,h1,q1⟩) (ih v j (by omega) q2 q3)
   exact key w.length w i (Nat.le_refl _) h1 h2
end Lt
end Go.Proofs.YtenpmjhnhepfdaaGreatDoor
namespace Go.Proofs.YtenpmjhnhepfdaaGreatDoor
section
variable (n:Nat) (c:Nat->Nat)
end
def Qq (n:Nat) (c:Nat->Nat):Prop:=∀i,n<=i->c i=0
section
variable {n:Nat} {c:Nat->Nat} (hc:Qq n c)
include hc
theorem Qq.lt {i:Nat} (h:c i≠0):i<n:=by
 rcases Nat.lt_or_ge i n with h1|h1
 ·exact h1
 ·exact absurd (hc i h1) h
end
structure Nd where
 k:Int
 lo:Int
 hi:Int
 a:Int
 b:Int
deriving DecidableEq
namespace Pat
def size:Pat->Nat
 |emp|rng _ _=>1
 |seq x y|alt x y=>x.size+y.size+1
 |rep x=>x.size+1
end Pat
namespace Pat
end Pat
end Go.Proofs.YtenpmjhnhepfdaaGreatDoor
namespace Go.Proofs.YtenpmjhnhepfdaaGreatDoor
open Go Go.Proofs.Tryz
set_option maxRecDepth 10000
abbrev pa (b:Nat):Value:=.pointer (some ⟨b,0,none⟩)
abbrev Nd.arr (x:Nd):Array Value:= #[vi x.k,vi x.lo,vi x.hi,vi x.a,vi x.b]
def Nd.cells (x:Nd):List Value:=[vi x.k,vi x.lo,vi x.hi,vi x.a,vi x.b]
def dG (l:List Nd):List Value:=l.flatMap Nd.cells
theorem ig (l:List Nd):(dG l).length=l.length*5:=by
 induction l with
 |nil=>rfl
 |cons b l ih=>simp only [dG,List.flatMap_cons,List.length_append,List.length_cons] at ih ⊢;rw [ih];simp [Nd.cells];omega
theorem tg:∀(l:List Nd) (i:Nat) (hi:i<l.length),((dG l).drop (i*5)).take 5=l[i].cells
 |b::l,0,_=>by simp [dG,Nd.cells]
 |b::l,i+1,hi=>by
  have e:(i+1)*5=5+i*5:=by omega
  have:dG (b::l)=b.cells++dG l:=by simp [dG]
  rw [this,e,<- List.drop_drop,List.drop_left' (by simp [Nd.cells])]
  simpa using tg l i (by simpa using hi)
theorem dJ (b:Nd):∀v∈b.arr.toList,ai v:=by
 intro v hv
 simp only [List.mem_cons,List.not_mem_nil,or_false] at hv
 rcases hv with rfl|rfl|rfl|rfl|rfl<;>exact iC
theorem RdS.nlen {F:PH} {s:Sl} {l:List Nd} (h:RdS F s 5 (dG l)):s.len=l.length:=by have:=h.len;rw [ig] at this;omega
def cb (st:ByteArray) (i:Nat):Nat:=if h:i<st.size then (st[i]'h).toNat else 0
theorem Qr {st:ByteArray} {i:Nat} (h:i<st.size):cb st i=(st[i]'h).toNat:=dif_pos h
theorem IY (st:ByteArray) (i:Nat):cb st i<256:=by
 unfold cb
 split
 ·exact UInt8.toNat_lt _
 ·omega
section
variable {F:PH}
end
section
variable {F0 F:PH} {b i:Nat} {st:ByteArray} {out:List Nd} {w:Bool}
theorem bA.som {F:PH} {e size:Nat} {s:Sl} {vs:List Value} (h:bA F e size s vs) {a:Addr} (ha:s.base=some a):∃o,F a.block=some o:=by
 rcases h with ⟨rfl,_⟩|⟨b,cur,h1,h2,_⟩
 ·cases ha
 ·rw [ha] at h1
  cases h1
  exact ⟨_,h2⟩
end
section
variable {F0 F:PH} {b i:Nat} {st:ByteArray} {out:List Nd} {w:Bool}
theorem NO {st:ByteArray} {x:Int} {i:Nat} (hx:x=i) (h:i<st.size) (hl:Int.toNat x<st.size):((st[Int.toNat x]'hl).toNat:Int)=(cb st i:Int):=by
 subst hx
 rw [Qr h]
 rfl
end
def bs (s:ByteArray):List Nat:=s.data.toList.map UInt8.toNat
theorem bL (s:ByteArray):(bs s).length=s.size:=by simp [bs]
theorem uL {s t:ByteArray} (h:bs s=bs t):s=t:=by
 unfold bs at h
 have:s.data.toList=t.data.toList:=List.map_inj_right (fun a b e=>UInt8.toNat_inj.1 e) |>.1 h
 cases s
 cases t
 congr
 exact Array.toList_inj.1 this
theorem Gu (s:ByteArray) (i:Nat):cb s i=(bs s).getD i 0:=by
 unfold cb bs
 by_cases h:i<s.size
 ·rw [dif_pos h]
  have h':i<s.data.toList.length:=by simpa using h
  rw [List.getD_eq_getElem?_getD,List.getElem?_map,List.getElem?_eq_getElem h']
  rfl
 ·rw [dif_neg h,List.getD_eq_getElem?_getD,List.getElem?_map,List.getElem?_eq_none (by simpa using h)]
  rfl
theorem Qs (s:ByteArray):∀b∈bs s,b<256:=by
 intro b hb
 obtain ⟨x,_,rfl⟩:=List.mem_map.1 hb
 exact UInt8.toNat_lt x
theorem IZ (s:ByteArray):∀(n i:Nat) (r:List UInt8),s.size - i=n->ByteArray.toList.loop s i r=r.reverse++s.data.toList.drop i:=by
 intro n
 induction n with
 |zero=>
  intro i r h
  unfold ByteArray.toList.loop
  rw [if_neg (by omega),List.drop_eq_nil_of_le (by simp at h ⊢;omega),List.append_nil]
 |succ n ih=>
  intro i r h
  have hi:i<s.size:=by omega
  have hi':i<s.data.toList.length:=by simpa using hi
  unfold ByteArray.toList.loop
  rw [if_pos hi,ih (i+1) _ (by omega),List.drop_eq_getElem_cons hi',List.reverse_cons,List.append_assoc]
  congr 1
  rw [List.singleton_append]
  congr 1
  simp [ByteArray.get!,getElem!_pos,hi]
theorem xv (s:ByteArray):s.toList=s.data.toList:=by
 unfold ByteArray.toList
 rw [IZ s _ 0 [] rfl]
 rfl
theorem tj (s:ByteArray):s.toList.map UInt8.toNat=bs s:=by rw [xv];rfl
theorem Gv (s t:ByteArray):(s.toList==t.toList)=decide (bs s=bs t):=by
 rw [Bool.eq_iff_iff,decide_eq_true_eq,beq_iff_eq]
 constructor
 ·intro h
  rw [<- tj,<- tj,h]
 ·intro h
  rw [uL h]
section
variable {F:PH}
end
variable {R:VR} {F:PH}
set_option maxRecDepth 10000
set_option maxHeartbeats 4000000
def Ku (a:Int) (R:VR) (F:PH):Prop:=Bc (a=0) (R (.int .i64 64) F) (0<=(Int.fdiv (IntKind.u64.wrap ((IntKind.u64.wrap ((BitVec.ofInt (IntKind.u64).bits a &&& BitVec.ofInt (IntKind.u64).bits (IntKind.u64.wrap (0 - a))).toNat))*285870213051353865)) (2 ^ (min (Int.toNat 58) (IntKind.u64).bits)))/\(Int.fdiv (IntKind.u64.wrap ((IntKind.u64.wrap ((BitVec.ofInt (IntKind.u64).bits a &&& BitVec.ofInt (IntKind.u64).bits (IntKind.u64.wrap (0 - a))).toNat))*285870213051353865)) (2 ^ (min (Int.toNat 58) (IntKind.u64).bits)))<64/\∃b,F.cell (Addr.add (Addr.mk 0 0 none) (Int.toNat (Int.fdiv (IntKind.u64.wrap ((IntKind.u64.wrap ((BitVec.ofInt (IntKind.u64).bits a &&& BitVec.ofInt (IntKind.u64).bits (IntKind.u64.wrap (0 - a))).toNat))*285870213051353865)) (2 ^ (min (Int.toNat 58) (IntKind.u64).bits)))*1))=some (.int .u8 b)/\R (.int .i64 (IntKind.i64.wrap b)) F)
theorem Qt {a:Int} (h:Ku a R F):ae prog 240 #[.int .u64 a] F R:=Rx.sxC (args:=[.int .u64 a]) .N (by kernel_rfl) h
end Go.Proofs.YtenpmjhnhepfdaaGreatDoor
