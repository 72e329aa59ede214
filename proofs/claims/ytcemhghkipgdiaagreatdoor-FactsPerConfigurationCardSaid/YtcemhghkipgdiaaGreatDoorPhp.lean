/-
  A program logic over partial heaps: strings put together, compared, made of bytes; ranges over strings.
-/
import Derived.Orders
import Derived.Test.YtcemhghkipgdiaaGreatDoorPhn
import Derived.Test.YtcemhghkipgdiaaGreatDoorProg
import Derived.KernelRfl
import Derived.Test.YtcemhghkipgdiaaGreatDoorPhf
namespace Go.Proofs.YtcemhghkipgdiaaGreatDoor
inductive Tr where
 |leaf (b:Bool)
 |node (v:Nat) (l h:Tr)
deriving DecidableEq
abbrev Cf:=Nat->Bool
def Cf.set (c:Cf) (v:Nat) (b:Bool):Cf:=λi=>if i=v then b else c i
namespace Tr
def top:Tr->Nat
 |leaf _=>64
 |node v _ _=>v
def ev:Tr->Cf->Bool
 |leaf b,_=>b
 |node v l h,c=>if c v=true then h.ev c else l.ev c
def ok:Tr->Prop
 |leaf _=>True
 |node v l h=>v<64/\v<l.top/\v<h.top/\l≠h/\l.ok/\h.ok
def sz:Tr->Nat
 |leaf _=>1
 |node _ l h=>l.sz+h.sz+1
def mk (v:Nat) (l h:Tr):Tr:=if l=h then l else node v l h
def lo (v:Nat):Tr->Tr
 |leaf b=>leaf b
 |node w l h=>if w=v then l else node w l h
def hi (v:Nat):Tr->Tr
 |leaf b=>leaf b
 |node w l h=>if w=v then h else node w l h
def isL:Tr->Bool
 |leaf _=>true
 |node _ _ _=>false
theorem qR {t:Tr} (h:t.ok) (hl:t.isL=false):t.top<64:=by
 cases t with
 |leaf b=>cases hl
 |node v l r=>exact h.1
theorem kI:∀(t:Tr),0<t.sz
 |leaf _=>Nat.one_pos
 |node _ _ _=>Nat.succ_pos _
theorem qS:∀(t:Tr),t.ok->∀(c d:Cf),(∀i,t.top<=i->c i=d i)->t.ev c=t.ev d
 |leaf _,_,_,_,_=>rfl
 |node v l h,⟨_,h1,h2,_,h4,h5⟩,c,d,hc=>by simp only [ev];rw [hc v (UW _),qS l h4 c d (λi hi=>hc i (by simp only [top];omega)),qS h h5 c d (λi hi=>hc i (by simp only [top];omega))]
theorem kJ {t:Tr} (h:t.ok) {v:Nat} (hv:v<t.top) (c:Cf) (b:Bool):t.ev (c.set v b)=t.ev c:=
 qS t h _ _ λi hi=>by unfold Cf.set;rw [if_neg (by omega)]
theorem OE:∀(n:Nat) (a b:Tr),a.sz+b.sz<=n->a.ok->b.ok->(∀c,a.ev c=b.ev c)->a=b:=by
 intro n;induction n with
 |zero=>intro a b hn;have:=kI a;omega
 |succ n ih=>
  have key:∀(v:Nat) (l h b:Tr),(node v l h).sz+b.sz<=n+1->(node v l h).ok->b.ok->v<b.top->(∀c,(node v l h).ev c=b.ev c)->False:=by
   rintro v l h b hn ⟨h0,h1,h2,h3,h4,h5⟩ hb hv he;have hp:=kI b;simp only [sz] at hn;refine h3 (ih l h (by omega) h4 h5 λc=> ?_);have e1:=he (c.set v false);have e2:=he (c.set v true);rw [kJ hb hv] at e1 e2;have f1:(node v l h).ev (c.set v false)=l.ev c:=by simp only [ev];rw [if_neg (by simp [Cf.set]),kJ h4 h1]
   have f2:(node v l h).ev (c.set v true)=h.ev c:=by simp only [ev];rw [if_pos (by simp [Cf.set]),kJ h5 h2]
   rw [<- f1,<- f2,e1,e2]
  intro a b hn ha hb he;cases a with
  |leaf x=>
   cases b with
   |leaf y=>exact congrArg leaf (he (λ_=>false))
   |node v l h=>exact (key v l h (leaf x) (by omega) hb trivial hb.1 (λc=>(he c).symm)).elim
  |node v l h=>
   by_cases h1:v<b.top
   ·exact (key v l h b hn ha hb h1 he).elim
   cases b with
   |leaf y=>exact (h1 ha.1).elim
   |node w l' h'=>
    simp only [top] at h1;by_cases h2:w<v
    ·exact (key w l' h' (node v l h) (by omega) hb ha h2 (λc=>(he c).symm)).elim
    obtain rfl:v=w:=by omega
    obtain ⟨h0,a1,a2,a3,a4,a5⟩:=ha;obtain ⟨_,b1,b2,b3,b4,b5⟩:=hb;simp only [sz] at hn;have e1:l=l':=ih l l' (by omega) a4 b4 λc=>by have:=he (c.set v false);simp only [ev] at this;rw [if_neg (by simp [Cf.set]),if_neg (by simp [Cf.set]),kJ a4 a1,kJ b4 b1] at this;exact this
    have e2:h=h':=ih h h' (by omega) a5 b5 λc=>by have:=he (c.set v true);simp only [ev] at this;rw [if_pos (by simp [Cf.set]),if_pos (by simp [Cf.set]),kJ a5 a2,kJ b5 b2] at this;exact this
    rw [e1,e2]
theorem eL {a b:Tr} (ha:a.ok) (hb:b.ok) (he:∀c,a.ev c=b.ev c):a=b:=OE _ a b (UW _) ha hb he
theorem tY {v:Nat} {l h:Tr} (hv:v<64) (h1:v<l.top) (h2:v<h.top) (h3:l.ok) (h4:h.ok):(mk v l h).ok:=by
 unfold mk;split
 ·exact h3
 ·rename_i hn;exact ⟨hv,h1,h2,hn,h3,h4⟩
theorem ED {v:Nat} {l h:Tr} (h1:v<l.top):v<=(mk v l h).top:=by
 unfold mk;split
 ·omega
 ·exact UW _
theorem Bh (v:Nat) (l h:Tr) (c:Cf):(mk v l h).ev c=if c v=true then h.ev c else l.ev c:=by
 unfold mk;split
 ·rename_i e;subst e;simp
 ·rfl
theorem cq {t:Tr} (h:t.ok) {v:Nat} (hv:v<=t.top):(lo v t).ok/\(v<64->v<(lo v t).top)/\(lo v t).sz<=t.sz/\(t.top=v->t.isL=false->(lo v t).sz<t.sz)/\
  ∀c,c v=false->(lo v t).ev c=t.ev c:=by
 cases t with
 |leaf b=>exact ⟨trivial,λh=>h,UW _,λ_ h=>(by cases h),λ_ _=>rfl⟩
 |node w l r=>
  obtain ⟨h0,h1,h2,h3,h4,h5⟩:=h;simp only [lo];split
  ·rename_i e;subst e;refine ⟨h4,λ_=>h1,by simp only [sz];omega,λ_ _=>by simp only [sz];omega,λc hc=> ?_⟩;simp [ev,hc]
  ·rename_i e;refine ⟨⟨h0,h1,h2,h3,h4,h5⟩,λ_=> ?_,UW _,λhe=> ?_,λ_ _=>rfl⟩
   ·simp only [top] at hv ⊢;omega
   ·simp only [top] at he;omega
theorem cu {t:Tr} (h:t.ok) {v:Nat} (hv:v<=t.top):(hi v t).ok/\(v<64->v<(hi v t).top)/\(hi v t).sz<=t.sz/\(t.top=v->t.isL=false->(hi v t).sz<t.sz)/\
  ∀c,c v=true->(hi v t).ev c=t.ev c:=by
 cases t with
 |leaf b=>exact ⟨trivial,λh=>h,UW _,λ_ h=>(by cases h),λ_ _=>rfl⟩
 |node w l r=>
  obtain ⟨h0,h1,h2,h3,h4,h5⟩:=h;simp only [hi];split
  ·rename_i e;subst e;refine ⟨h5,λ_=>h2,by simp only [sz];omega,λ_ _=>by simp only [sz];omega,λc hc=> ?_⟩;simp [ev,hc]
  ·rename_i e;refine ⟨⟨h0,h1,h2,h3,h4,h5⟩,λ_=> ?_,UW _,λhe=> ?_,λ_ _=>rfl⟩
   ·simp only [top] at hv ⊢;omega
   ·simp only [top] at he;omega
abbrev Op3:=Bool->Bool->Bool->Bool
def aZ (a b d:Tr):Nat:=min (min a.top b.top) d.top
theorem OF (o:Op3):∀(n:Nat) (a b d:Tr),a.sz+b.sz+d.sz<=n->a.ok->b.ok->d.ok->
  ∃t:Tr,t.ok/\aZ a b d<=t.top/\∀c,t.ev c=o (a.ev c) (b.ev c) (d.ev c):=by
 intro n;induction n with
 |zero=>intro a b d hn;have:=kI a;omega
 |succ n ih=>
  intro a b d hn ha hb hd;by_cases hv:aZ a b d<64
  ·have v1:aZ a b d<=a.top:=by unfold aZ;omega
   have v2:aZ a b d<=b.top:=by unfold aZ;omega
   have v3:aZ a b d<=d.top:=by unfold aZ;omega
   have hcase:aZ a b d=a.top\/aZ a b d=b.top\/aZ a b d=d.top:=by unfold aZ;omega
   revert hcase;revert v1 v2 v3 hv;generalize aZ a b d=v;intro hv v1 v2 v3 hcase;have nl:∀{t:Tr},v=t.top->t.isL=false:=λ{t} e=>by
    cases t with
    |leaf b=>simp only [top] at e;omega
    |node _ _ _=>rfl
   obtain ⟨al1,al2,al3,al4,al5⟩:=cq ha v1;obtain ⟨bl1,bl2,bl3,bl4,bl5⟩:=cq hb v2;obtain ⟨dl1,dl2,dl3,dl4,dl5⟩:=cq hd v3;obtain ⟨ah1,ah2,ah3,ah4,ah5⟩:=cu ha v1;obtain ⟨bh1,bh2,bh3,bh4,bh5⟩:=cu hb v2;obtain ⟨dh1,dh2,dh3,dh4,dh5⟩:=cu hd v3;have hsl:(lo v a).sz+(lo v b).sz+(lo v d).sz<=n:=by
    rcases hcase with e|e|e
    ·have:=al4 e.symm (nl e);omega
    ·have:=bl4 e.symm (nl e);omega
    ·have:=dl4 e.symm (nl e);omega
   have hsh:(hi v a).sz+(hi v b).sz+(hi v d).sz<=n:=by
    rcases hcase with e|e|e
    ·have:=ah4 e.symm (nl e);omega
    ·have:=bh4 e.symm (nl e);omega
    ·have:=dh4 e.symm (nl e);omega
   obtain ⟨tl,l1,l2,l3⟩:=ih _ _ _ hsl al1 bl1 dl1;obtain ⟨th,h1,h2,h3⟩:=ih _ _ _ hsh ah1 bh1 dh1;have l2':v<tl.top:=by have:=al2 hv;have:=bl2 hv;have:=dl2 hv;unfold aZ at l2;omega
   have h2':v<th.top:=by have:=ah2 hv;have:=bh2 hv;have:=dh2 hv;unfold aZ at h2;omega
   refine ⟨mk v tl th,tY hv l2' h2' l1 h1,ED l2',λc=> ?_⟩;rw [Bh];split
   ·rename_i hc;rw [h3,ah5 c hc,bh5 c hc,dh5 c hc]
   ·rename_i hc;have hc:c v=false:=by simpa using hc
    rw [l3,al5 c hc,bl5 c hc,dl5 c hc]
  ·have isl:∀{t:Tr},t.ok->64<=t.top->∃b,t=leaf b:=λ{t} ht h64=>by
    cases t with
    |leaf b=>exact ⟨b,rfl⟩
    |node _ _ _=>have:=ht.1;simp only [top] at h64;omega
   unfold aZ at hv;obtain ⟨x,rfl⟩:=isl ha (by omega);obtain ⟨y,rfl⟩:=isl hb (by omega);obtain ⟨z,rfl⟩:=isl hd (by omega);exact ⟨leaf (o x y z),trivial,by simp [aZ,top],λc=>rfl⟩
noncomputable def can (f:Cf->Bool):Tr:=open Classical in if h:∃t:Tr,t.ok/\∀c,t.ev c=f c then h.choose else leaf false
theorem iv {f:Cf->Bool} {t:Tr} (h:t.ok) (he:∀c,t.ev c=f c):can f=t:=by have hx:∃t:Tr,t.ok/\∀c,t.ev c=f c:=⟨t,h,he⟩;unfold can;rw [dif_pos hx];exact eL hx.choose_spec.1 h λc=>(hx.choose_spec.2 c).trans (he c).symm
noncomputable def ap (o:Op3) (a b d:Tr):Tr:=can λc=>o (a.ev c) (b.ev c) (d.ev c)
section
variable {o:Op3} {a b d:Tr} (ha:a.ok) (hb:b.ok) (hd:d.ok)
include ha hb hd
theorem fq:(ap o a b d).ok/\aZ a b d<=(ap o a b d).top/\∀c,(ap o a b d).ev c=o (a.ev c) (b.ev c) (d.ev c):=by obtain ⟨t,h1,h2,h3⟩:=OF o _ a b d (UW _) ha hb hd;have:ap o a b d=t:=iv h1 h3;rw [this];exact ⟨h1,h2,h3⟩
theorem EE:(ap o a b d).ok:=(fq ha hb hd).1
theorem va (hv:aZ a b d<64):ap o a b d=mk (aZ a b d) (ap o (lo (aZ a b d) a) (lo (aZ a b d) b) (lo (aZ a b d) d)) (ap o (hi (aZ a b d) a) (hi (aZ a b d) b) (hi (aZ a b d) d)):=by
 have v1:aZ a b d<=a.top:=by unfold aZ;omega
 have v2:aZ a b d<=b.top:=by unfold aZ;omega
 have v3:aZ a b d<=d.top:=by unfold aZ;omega
 revert v1 v2 v3 hv;generalize aZ a b d=v;intro hv v1 v2 v3;obtain ⟨al1,al2,al3,al4,al5⟩:=cq ha v1;obtain ⟨bl1,bl2,bl3,bl4,bl5⟩:=cq hb v2;obtain ⟨dl1,dl2,dl3,dl4,dl5⟩:=cq hd v3;obtain ⟨ah1,ah2,ah3,ah4,ah5⟩:=cu ha v1;obtain ⟨bh1,bh2,bh3,bh4,bh5⟩:=cu hb v2;obtain ⟨dh1,dh2,dh3,dh4,dh5⟩:=cu hd v3;obtain ⟨l1,l2,l3⟩:=fq (o:=o) al1 bl1 dl1;obtain ⟨h1,h2,h3⟩:=fq (o:=o) ah1 bh1 dh1;have l2':v<(ap o (lo v a) (lo v b) (lo v d)).top:=by have:=al2 hv;have:=bl2 hv;have:=dl2 hv;unfold aZ at l2;omega
 have h2':v<(ap o (hi v a) (hi v b) (hi v d)).top:=by have:=ah2 hv;have:=bh2 hv;have:=dh2 hv;unfold aZ at h2;omega
 refine iv (tY hv l2' h2' l1 h1) λc=> ?_;rw [Bh];split
 ·rename_i hc;rw [h3,ah5 c hc,bh5 c hc,dh5 c hc]
 ·rename_i hc;have hc:c v=false:=by simpa using hc
  rw [l3,al5 c hc,bl5 c hc,dl5 c hc]
end
theorem lP (o:Op3) (x y z:Bool):ap o (leaf x) (leaf y) (leaf z)=leaf (o x y z):=iv trivial λ_=>rfl
theorem gm {t:Tr} (ht:t.ok) (h64:64<=t.top):∃b,t=leaf b:=by
 cases t with
 |leaf b=>exact ⟨b,rfl⟩
 |node _ _ _=>have:=ht.1;simp only [top] at h64;omega
end Tr
end Go.Proofs.YtcemhghkipgdiaaGreatDoor
namespace Go.Proofs.YtcemhghkipgdiaaGreatDoor
open Tr
structure Br where
 v:Int
 l:Int
 h:Int
deriving DecidableEq
def inn (S:List Tr) (t:Tr):Prop:=t.isL=true\/t∈S
def num (S:List Tr):Tr->Nat
 |leaf b=>if b then 1 else 0
 |node v l h=>S.idxOf (node v l h)+2
def br (S:List Tr):Tr->Br
 |leaf _=>⟨0,0,0⟩
 |node v l h=>⟨(v:Int),(num S l:Int),(num S h:Int)⟩
def brs (S:List Tr):List Br:=S.map (br S)
inductive Cl:List Tr->Prop
 |nil:Cl []
 |snoc {S:List Tr} {v:Nat} {l h:Tr}:Cl S->inn S l->inn S h->(node v l h).ok->node v l h ∉ S->Cl (S++[node v l h])
theorem bG {S X:List Tr} {t:Tr} (h:inn S t):inn (S++X) t:=h.imp id λh=>Wz X h
theorem eM (S:List Tr) (b:Bool):inn S (leaf b):=.inl rfl
theorem cx {S:List Tr} {t:Tr} (h:inn S t) (hn:t.isL=false):t∈S:=h.resolve_left (by rw [hn];exact Wc)
theorem bN {S X:List Tr} {t:Tr} (h:inn S t):num (S++X) t=num S t:=by
 cases t with
 |leaf b=>rfl
 |node v l r=>have hm:=cx h rfl;simp only [num,List.idxOf_append,hm,if_true]
namespace Cl
theorem mem {S:List Tr} (h:Cl S):∀t∈S,t.ok/\∃v l r,t=node v l r/\inn S l/\inn S r:=by
 induction h with
 |nil=>intro t ht;cases ht
 | @snoc S v l r hS hl hr hk hn ih=>
  intro t ht;rcases UX.1 ht with ht|ht
  ·obtain ⟨h1,v',l',r',h2,h3,h4⟩:=ih t ht;exact ⟨h1,v',l',r',h2,bG h3,bG h4⟩
  ·obtain rfl:=UU.1 ht;exact ⟨hk,v,l,r,rfl,bG hl,bG hr⟩
theorem nodup {S:List Tr} (h:Cl S):S.Nodup:=by
 induction h with
 |nil=>exact List.nodup_nil
 | @snoc S v l r hS hl hr hk hn ih=>rw [Vp];refine ⟨ih,by simp,?_⟩;intro a ha b hb;rw [UU] at hb;subst hb;rintro rfl;exact hn ha
theorem inn_ok {S:List Tr} (h:Cl S) {t:Tr} (ht:inn S t):t.ok:=by
 cases t with
 |leaf b=>trivial
 |node v l r=>exact (h.mem _ (cx ht rfl)).1
theorem inn_kids {S:List Tr} (h:Cl S) {v:Nat} {l r:Tr} (ht:inn S (node v l r)):inn S l/\inn S r:=by obtain ⟨_,v',l',r',e,h3,h4⟩:=h.mem _ (cx ht rfl);cases e;exact ⟨h3,h4⟩
theorem inn_lo {S:List Tr} (h:Cl S) {t:Tr} (ht:inn S t) (v:Nat):inn S (lo v t):=by
 cases t with
 |leaf b=>exact ht
 |node w l r=>
  simp only [lo];split
  ·exact (h.inn_kids ht).1
  ·exact ht
theorem inn_hi {S:List Tr} (h:Cl S) {t:Tr} (ht:inn S t) (v:Nat):inn S (hi v t):=by
 cases t with
 |leaf b=>exact ht
 |node w l r=>
  simp only [hi];split
  ·exact (h.inn_kids ht).2
  ·exact ht
end Cl
theorem dt {S:List Tr} {t:Tr} (h:inn S t):num S t<=S.length+1:=by
 cases t with
 |leaf b=>simp only [num];split<;>omega
 |node v l r=>have:=List.idxOf_lt_length_of_mem (cx h rfl);simp only [num];omega
theorem dm {S:List Tr} {t:Tr} (h:t.isL=false):2<=num S t:=by
 cases t with
 |leaf b=>cases h
 |node v l r=>simp only [num];omega
theorem pn {S:List Tr} {t:Tr} (h:num S t<2):t.isL=true:=by
 cases t with
 |leaf b=>rfl
 |node v l r=>simp only [num] at h;omega
theorem cT (S:List Tr) (b:Bool):num S (leaf b)<=1:=by simp only [num];split<;>omega
theorem ff {S:List Tr} {t:Tr} (h:t∈S) (hl:t.isL=false):S[num S t - 2]? =some t:=by
 cases t with
 |leaf b=>cases hl
 |node v l r=>have h1:=List.idxOf_lt_length_of_mem h;simp only [num,Nat.add_sub_cancel];rw [N5 h1,List.getElem_idxOf]
theorem cJ {S:List Tr} {t u:Tr} (ht:inn S t) (hu:inn S u) (h:num S t=num S u):t=u:=by
 cases ht':t.isL with
 |true=>
  cases hu':u.isL with
  |true=>
   cases t with
   |node _ _ _=>cases ht'
   |leaf a=>
    cases u with
    |node _ _ _=>cases hu'
    |leaf b=>simp only [num] at h;cases a<;>cases b<;>simp at h ⊢
  |false=>
   have h1:=dm (S:=S) hu';cases t with
   |node _ _ _=>cases ht'
   |leaf a=>have h2:num S (leaf a)<=1:=cT S a;omega
 |false=>
  cases hu':u.isL with
  |true=>
   have h1:=dm (S:=S) ht';cases u with
   |node _ _ _=>cases hu'
   |leaf a=>have h2:num S (leaf a)<=1:=cT S a;omega
  |false=>have h1:=ff (cx ht ht') ht';have h2:=ff (cx hu hu') hu';rw [h,h2] at h1;exact (Vl h1).symm
theorem d8 {S:List Tr} (hS:Cl S) {k:Nat} {t:Tr} (h:S[k]? =some t):num S t=k+2:=by
 have hk:k<S.length:=(N6.1 h).1;have hm:t∈S:=UY h;obtain ⟨_,v,l,r,rfl,_⟩:=hS.mem t hm;have h1:=List.idxOf_lt_length_of_mem hm;have h2:S[S.idxOf (node v l r)]=S[k]:=by rw [List.getElem_idxOf];exact (N6.1 h).2.symm
 have:=(List.getElem_inj hS.nodup).1 h2;simp only [num];omega
def tr (S:List Tr) (n:Nat):Tr:=
 if n=0 then leaf false else if n=1 then leaf true else S.getD (n - 2) (leaf false)
theorem gD {S:List Tr} {n:Nat} (h:n<=S.length+1):inn S (tr S n):=by
 unfold tr;split
 ·exact eM _ _
 ·split
  ·exact eM _ _
  ·refine .inr ?_;rw [Vr,N5 (by omega)];exact Wd _
theorem f7 {S:List Tr} (hS:Cl S) {n:Nat} (h:n<=S.length+1):num S (tr S n)=n:=by
 unfold tr;split
 ·rename_i e;subst e;rfl
 ·split
  ·rename_i e;subst e;rfl
  ·have hk:n - 2<S.length:=by omega
   have:=d8 hS (k:=n - 2) (t:=S[n - 2]) (N5 hk);rw [Vr,N5 hk];simp only [Option.getD_some];omega
theorem gE {S:List Tr} (hS:Cl S) {t:Tr} (h:inn S t):tr S (num S t)=t:=
 cJ (gD (dt h)) h (f7 hS (dt h))
theorem CZ {S X:List Tr} (hS:Cl S) {t:Tr} (h:t∈S):br (S++X) t=br S t:=by obtain ⟨_,v,l,r,rfl,hl,hr⟩:=hS.mem t h;simp only [br,bN hl,bN hr]
theorem qT {S X:List Tr} (hS:Cl S):brs (S++X)=brs S++X.map (br (S++X)):=by unfold brs;rw [Vm];congr 1;exact Wk λt ht=>CZ hS ht
theorem eN {S:List Tr} (hS:Cl S) {v:Nat} {l r:Tr} (hl:inn S l) (hr:inn S r):brs (S++[node v l r])=brs S++[⟨(v:Int),(num S l:Int),(num S r:Int)⟩]:=by rw [qT hS];simp only [Vi,List.map_nil,br,bN hl,bN hr]
theorem aO (S:List Tr):(brs S).length=S.length:=by simp [brs]
theorem jM {S:List Tr} {k:Nat} {t:Tr} (h:S[k]? =some t):(brs S)[k]? =some (br S t):=by simp [brs,h]
theorem EF {S:List Tr} (hS:Cl S) {t u:Tr} (ht:t∈S) (hu:u∈S) (h:br S t=br S u):t=u:=by obtain ⟨_,v,l,r,rfl,hl,hr⟩:=hS.mem t ht;obtain ⟨_,v',l',r',rfl,hl',hr'⟩:=hS.mem u hu;simp only [br,Br.mk.injEq] at h;obtain ⟨h1,h2,h3⟩:=h;rw [cJ hl hl' (by omega),cJ hr hr' (by omega),show v=v' by omega]
theorem po {S T:List Tr} (hS:Cl S):Cl T->brs S=brs T->S=T:=by
 intro hT;induction hS generalizing T with
 |nil=>
  intro h;cases T with
  |nil=>rfl
  |cons a b=>have:=congrArg List.length h;simp [brs] at this
 | @snoc S v l r hS hl hr hk hn ih=>
  intro h;cases hT with
  |nil=>have:=congrArg List.length h;simp [brs] at this
  | @snoc T v' l' r' hT hl' hr' hk' hn'=>rw [eN hS hl hr,eN hT hl' hr'] at h;obtain ⟨h1,h2⟩:=List.append_inj' h rfl;obtain rfl:=ih hT h1;simp only [List.cons.injEq,Br.mk.injEq,and_true] at h2;obtain ⟨h3,h4,h5⟩:=h2;rw [cJ hl hl' (by omega),cJ hr hr' (by omega),show v=v' by omega]
def vis:Tr->List Tr->List Tr
 |leaf _,S=>S
 |node v l h,S=>if node v l h∈S then S else vis h (vis l S)++[node v l h]
theorem gn {S:List Tr} {t:Tr} (h:inn S t):vis t S=S:=by
 cases t with
 |leaf b=>rfl
 |node v l r=>unfold vis;rw [if_pos (cx h rfl)]
theorem bo:∀(t:Tr) (S:List Tr),t.ok->Cl S->Cl (vis t S)/\inn (vis t S) t/\(∃X,vis t S=S++X/\∀x∈X,x.sz<=t.sz)
 |leaf b,S,_,hS=>⟨hS,eM _ _,[],by simp [vis],λx h=>by cases h⟩
 |node v l r,S,hk,hS=>by
  unfold vis;split
  ·rename_i hm;exact ⟨hS,.inr hm,[],by simp,λx h=>by cases h⟩
  ·rename_i hm;obtain ⟨h1,h2,X,h3,h4⟩:=bo l S hk.2.2.2.2.1 hS;obtain ⟨g1,g2,Y,g3,g4⟩:=bo r (vis l S) hk.2.2.2.2.2 h1;have hn:node v l r ∉ vis r (vis l S):=by
    rw [g3,h3];intro hc;rcases UX.1 hc with hc|hc
    ·rcases UX.1 hc with hc|hc
     ·exact hm hc
     ·have:=h4 _ hc;simp only [sz] at this;omega
    ·have:=g4 _ hc;simp only [sz] at this;omega
   refine ⟨.snoc g1 (by rw [g3];exact bG h2) g2 hk hn,.inr (by simp),X++Y++[node v l r],by rw [g3,h3];simp,λx hx=> ?_⟩;simp only [UX,UU,or_assoc] at hx;rcases hx with hx|hx|hx
   ·have:=h4 x hx;simp only [sz];omega
   ·have:=g4 x hx;simp only [sz];omega
   ·rw [hx];exact UW _
def aL (t:Tr):List Tr:=vis t []
theorem bv {t:Tr} (h:t.ok):Cl (aL t):=(bo t [] h .nil).1
theorem bI {t:Tr} (h:t.ok):inn (aL t) t:=(bo t [] h .nil).2.1
abbrev Dia:=List Br×Int
def dia (t:Tr):Dia:=(brs (aL t),(num (aL t) t:Int))
theorem pq {t u:Tr} (ht:t.ok) (hu:u.ok) (h:dia t=dia u):t=u:=by unfold dia at h;simp only [WN] at h;obtain ⟨h1,h2⟩:=h;have h3:=po (bv ht) (bv hu) h1;rw [<- h3] at h2;refine cJ (bI ht) ?_ (by omega);rw [h3];exact bI hu
def cnt:Tr->Nat
 |leaf _=>0
 |node _ l h=>cnt l+cnt h+1
theorem kK:∀(t:Tr) (S:List Tr),(vis t S).length<=S.length+cnt t
 |leaf _,_=>UW _
 |node v l r,S=>by
  unfold vis;split
  ·omega
  ·have h1:=kK l S;have h2:=kK r (vis l S);simp only [UV,Va,cnt];omega
theorem oz (t:Tr):(aL t).length<=cnt t:=by have:=kK t [];simpa [aL] using this
end Go.Proofs.YtcemhghkipgdiaaGreatDoor
namespace Go.Proofs.YtcemhghkipgdiaaGreatDoor
open Go Go.Proofs.Tryz
theorem sz3:tsz prog 3=some (1,8):=by kernel_rfl
theorem sz9:tsz prog 9=some (1,16):=by kernel_rfl
theorem OG:tsz prog 31=some (2,32):=by kernel_rfl
theorem Ta:tsz prog 39=some (1,24):=by kernel_rfl
theorem OH:tsz prog 55=some (13,160):=by kernel_rfl
theorem OI:tsz prog 63=some (2,16):=by kernel_rfl
theorem Tb:tsz prog 69=some (4,64):=by kernel_rfl
theorem Tc:tsz prog 77=some (1,8):=by kernel_rfl
theorem xy:tsz prog 124=some (3,24):=by kernel_rfl
theorem OJ:tsz prog 146=some (7,112):=by kernel_rfl
theorem OK:tsz prog 149=some (5,40):=by kernel_rfl
theorem OL:tsz prog 153=some (3,24):=by kernel_rfl
theorem OM:tsz prog 156=some (9,104):=by kernel_rfl
theorem J3:tsz prog 215=some (3,24):=by kernel_rfl
theorem zr3:bP prog 3=some (Value.int .i64 0):=by kernel_rfl
theorem zr9:bP prog 9=some (Value.string ⟨#[]⟩):=by kernel_rfl
theorem Ii:bP prog 31=some (Value.agg (#[Value.slice none 0 0,Value.int .i64 0])):=by kernel_rfl
theorem Td:bP prog 39=some (Value.slice none 0 0):=by kernel_rfl
theorem ON:bP prog 55=some (Value.agg (#[Value.string ⟨#[]⟩,Value.int .i64 0,Value.slice none 0 0,Value.slice none 0 0,Value.int .i64 0,Value.bool false,Value.int .i64 0,Value.slice none 0 0,Value.bool false,Value.int .i64 0,Value.int .i64 0,Value.int .i64 0,Value.int .i64 0])):=by kernel_rfl
theorem OO:bP prog 63=some (Value.agg (#[Value.bool false,Value.int .i64 0])):=by kernel_rfl
theorem Te:bP prog 69=some (Value.agg (#[Value.slice none 0 0,Value.int .i64 0,Value.slice none 0 0,Value.int .i64 0])):=by kernel_rfl
theorem Tf:bP prog 77=some (Value.int .u64 0):=by kernel_rfl
theorem xz:bP prog 124=some (Value.agg (#[Value.int .i64 0,Value.int .i64 0,Value.int .i64 0])):=by kernel_rfl
theorem OP:bP prog 146=some (Value.agg (#[Value.string ⟨#[]⟩,Value.int .i64 0,Value.string ⟨#[]⟩,Value.slice none 0 0,Value.string ⟨#[]⟩,Value.slice none 0 0,Value.int .i64 0])):=by kernel_rfl
theorem OQ:bP prog 149=some (Value.agg (#[Value.int .i64 0,Value.int .i64 0,Value.int .i64 0,Value.int .i64 0,Value.int .i64 0])):=by kernel_rfl
theorem OR:bP prog 153=some (Value.agg (#[Value.int .i64 0,Value.int .i64 0,Value.int .i64 0])):=by kernel_rfl
theorem OS:bP prog 156=some (Value.agg (#[Value.int .i64 0,Value.int .i64 0,Value.int .i64 0,Value.int .i64 0,Value.int .i64 0,Value.int .i64 0,Value.slice none 0 0,Value.slice none 0 0,Value.int .i64 0])):=by kernel_rfl
theorem J4:bP prog 215=some (Value.agg (#[Value.int .i64 0,Value.int .i64 0,Value.int .i64 0])):=by kernel_rfl
section
variable {P:Program} {n:Nat} {Q:Exit->En->Ψ} {E:En} {F:PH} {ops:Array Oper} {l:List Oper} {d:Tmp} {op:Op} {ty:TypeId} {pos:String} {aft:Array Edge} {gd:Option (Nat×Bool)}
theorem Th {fn:Func} {r r' r'' r3:ResultVar} {v v' v'' v3:Value} (h:fn.results= #[r,r',r'',r3]) (hv:kF P E F r v) (hv':kF P E F r' v') (hv'':kF P E F r'' v'') (hv3:kF P E F r3 v3):qM P fn E F (.tuple #[v,v',v'',v3]):=λe w tmps st ht=>by have k:=gB hv st ht;have k':=gB hv' st ht;have k'':=gB hv'' st ht;have k3:=gB hv3 st ht;clear ht hv hv' hv'' hv3;rcases k with ⟨t,rfl,h1⟩|⟨x,t,a,rfl,h1,h2⟩<;>rcases k' with ⟨t',rfl,h3⟩|⟨x',t',a',rfl,h3,h4⟩<;>rcases k'' with ⟨t'',rfl,h5⟩|⟨x'',t'',a'',rfl,h5,h6⟩<;>rcases k3 with ⟨t3,rfl,h7⟩|⟨x3,t3,a3,rfl,h7,h8⟩<;>simp [results,asAddr, *]
end
section
variable {P:Program} {F:PH} {E:En} {o:Oper} {x y:Operand} {t t':TypeId}
theorem Ml {c d:ByteArray} (ho:o.op=.binOp .add t x y t') (hx:ev E x=.string c) (hy:ev E y=.string d) (h:c.size+d.size<=9223372036854775807):RD P E F o (.string (c++d)):=by
 have e:IntKind.i64.max=9223372036854775807:=by decide
 have hn:¬(((c.size+d.size:Nat):Int)>IntKind.i64.max):=by rw [e];omega
 simp only [RD,execOp,ho,hx,hy,aj];refine ⟨.string (c++d),⟨(),ca rfl,?_⟩,rfl⟩;show rdo P (Op.stringOp .add c d) F _;unfold Op.stringOp;simp only [if_neg hn];rfl
theorem Mm {c d:ByteArray} (ho:o.op=.binOp .lss t x y t') (hx:ev E x=.string c) (hy:ev E y=.string d):RD P E F o (.bool (Op.bytesLess c.toList d.toList)):=by simp only [RD,execOp,ho,hx,hy,aj];exact ⟨_,⟨(),ca rfl,rfl⟩,rfl⟩
theorem Mn {c d:ByteArray} (ho:o.op=.binOp .geq t x y t') (hx:ev E x=.string c) (hy:ev E y=.string d):RD P E F o (.bool (!Op.bytesLess c.toList d.toList)):=by simp only [RD,execOp,ho,hx,hy,aj];exact ⟨_,⟨(),ca rfl,rfl⟩,rfl⟩
theorem EG {e:TypeId} {v:Value} {s:ByteArray} (ho:o.op=.convert t t' x) (hx:ev E x=v) (h1:P.underlying t=some (.slice e)) (h2:P.underlying t'=some .string) (h3:P.underlying e=some (.int .u8))
  (hv:∃b l c,v=.slice b l c) (h:rdo P (Conv.bytesToString v) F (.string s)):RD P E F o (.string s):=by
 obtain ⟨b,l,c,rfl⟩:=hv;simp only [RD,execOp,ho,hx,aj,convert];refine ⟨_,⟨_,(az h1 _).2 rfl,_,(az h2 _).2 rfl,?_⟩,rfl⟩;cases b<;>(simp only [aj];exact ⟨_,(az h3 _).2 rfl,h⟩)
variable {K:En->Ψ} {d:Tmp} {ty:TypeId} {pos:String} {aft:Array Edge} {gd:Option (Nat×Bool)}
theorem EH {m:Option Nat} {r:Value} (ho:o.op=.call {callee:=.builtin .len,args:= #[x],argTypes:= #[t]}) (hx:ev E x=.map m) (h:rdo P (Builtin.len_ #[t] o.type #[.map m]) F r):RD P E F o r:=by simp [RD,execOp,ho,resolve,invoke,builtin,hx];exact h
theorem Ij {v r:Value} (ho:o.op=.entry x) (hx:ev E x=v) (h:rdo P (Instr.entry v) F r):RD P E F o r:=by simp only [RD,execOp,ho,hx,aj];exact ⟨_,h,rfl⟩
end
end Go.Proofs.YtcemhghkipgdiaaGreatDoor
