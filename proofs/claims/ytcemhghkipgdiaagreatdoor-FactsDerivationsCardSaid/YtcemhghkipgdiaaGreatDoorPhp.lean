/-
  A program logic over partial heaps: strings put together, compared, made of bytes; ranges over strings.
-/
import Derived.Orders
import Derived.Test.YtcemhghkipgdiaaGreatDoorPhn
import Derived.Test.YtcemhghkipgdiaaGreatDoorProg
import Derived.KernelRfl
import Derived.Test.YtcemhghkipgdiaaGreatDoorPhf
namespace Go.Proofs.YtcemhghkipgdiaaGreatDoor
inductive Tr where
 |leaf (b:Bool)
 |node (v:Nat) (l h:Tr)
deriving DecidableEq
abbrev Cf:=Nat->Bool
def Cf.set (c:Cf) (v:Nat) (b:Bool):Cf:=λi=>if i=v then b else c i
namespace Tr
def top:Tr->Nat
 |leaf _=>64
 |node v _ _=>v
def ev:Tr->Cf->Bool
 |leaf b,_=>b
 |node v l h,c=>if c v=true then h.ev c else l.ev c
def ok:Tr->Prop
 |leaf _=>True
 |node v l h=>v<64/\v<l.top/\v<h.top/\l≠h/\l.ok/\h.ok
def sz:Tr->Nat
 |leaf _=>1
 |node _ l h=>l.sz+h.sz+1
def mk (v:Nat) (l h:Tr):Tr:=if l=h then l else node v l h
def lo (v:Nat):Tr->Tr
 |leaf b=>leaf b
 |node w l h=>if w=v then l else node w l h
def hi (v:Nat):Tr->Tr
 |leaf b=>leaf b
 |node w l h=>if w=v then h else node w l h
def isL:Tr->Bool
 |leaf _=>true
 |node _ _ _=>false
theorem p5 {t:Tr} (h:t.ok) (hl:t.isL=false):t.top<64:=by
 cases t with
 |leaf b=>cases hl
 |node v l r=>exact h.1
theorem j7:∀(t:Tr),0<t.sz
 |leaf _=>Nat.one_pos
 |node _ _ _=>Nat.succ_pos _
theorem p6:∀(t:Tr),t.ok->∀(c d:Cf),(∀i,t.top<=i->c i=d i)->t.ev c=t.ev d
 |leaf _,_,_,_,_=>rfl
 |node v l h,⟨_,h1,h2,_,h4,h5⟩,c,d,hc=>by simp only [ev];rw [hc v (TT _),p6 l h4 c d (λi hi=>hc i (by simp only [top];omega)),p6 h h5 c d (λi hi=>hc i (by simp only [top];omega))]
theorem j8 {t:Tr} (h:t.ok) {v:Nat} (hv:v<t.top) (c:Cf) (b:Bool):t.ev (c.set v b)=t.ev c:=
 p6 t h _ _ λi hi=>by unfold Cf.set;rw [if_neg (by omega)]
theorem ND:∀(n:Nat) (a b:Tr),a.sz+b.sz<=n->a.ok->b.ok->(∀c,a.ev c=b.ev c)->a=b:=by
 intro n;induction n with
 |zero=>intro a b hn;have:=j7 a;omega
 |succ n ih=>
  have key:∀(v:Nat) (l h b:Tr),(node v l h).sz+b.sz<=n+1->(node v l h).ok->b.ok->v<b.top->(∀c,(node v l h).ev c=b.ev c)->False:=by
   rintro v l h b hn ⟨h0,h1,h2,h3,h4,h5⟩ hb hv he;have hp:=j7 b;simp only [sz] at hn;refine h3 (ih l h (by omega) h4 h5 λc=> ?_);have e1:=he (c.set v false);have e2:=he (c.set v true);rw [j8 hb hv] at e1 e2;have f1:(node v l h).ev (c.set v false)=l.ev c:=by simp only [ev];rw [if_neg (by simp [Cf.set]),j8 h4 h1]
   have f2:(node v l h).ev (c.set v true)=h.ev c:=by simp only [ev];rw [if_pos (by simp [Cf.set]),j8 h5 h2]
   rw [<- f1,<- f2,e1,e2]
  intro a b hn ha hb he;cases a with
  |leaf x=>
   cases b with
   |leaf y=>exact congrArg leaf (he (λ_=>false))
   |node v l h=>exact (key v l h (leaf x) (by omega) hb trivial hb.1 (λc=>(he c).symm)).elim
  |node v l h=>
   by_cases h1:v<b.top
   ·exact (key v l h b hn ha hb h1 he).elim
   cases b with
   |leaf y=>exact (h1 ha.1).elim
   |node w l' h'=>
    simp only [top] at h1;by_cases h2:w<v
    ·exact (key w l' h' (node v l h) (by omega) hb ha h2 (λc=>(he c).symm)).elim
    obtain rfl:v=w:=by omega
    obtain ⟨h0,a1,a2,a3,a4,a5⟩:=ha;obtain ⟨_,b1,b2,b3,b4,b5⟩:=hb;simp only [sz] at hn;have e1:l=l':=ih l l' (by omega) a4 b4 λc=>by have:=he (c.set v false);simp only [ev] at this;rw [if_neg (by simp [Cf.set]),if_neg (by simp [Cf.set]),j8 a4 a1,j8 b4 b1] at this;exact this
    have e2:h=h':=ih h h' (by omega) a5 b5 λc=>by have:=he (c.set v true);simp only [ev] at this;rw [if_pos (by simp [Cf.set]),if_pos (by simp [Cf.set]),j8 a5 a2,j8 b5 b2] at this;exact this
    rw [e1,e2]
theorem eB {a b:Tr} (ha:a.ok) (hb:b.ok) (he:∀c,a.ev c=b.ev c):a=b:=ND _ a b (TT _) ha hb he
theorem sW {v:Nat} {l h:Tr} (hv:v<64) (h1:v<l.top) (h2:v<h.top) (h3:l.ok) (h4:h.ok):(mk v l h).ok:=by
 unfold mk;split
 ·exact h3
 ·rename_i hn;exact ⟨hv,h1,h2,hn,h3,h4⟩
theorem Dz {v:Nat} {l h:Tr} (h1:v<l.top):v<=(mk v l h).top:=by
 unfold mk;split
 ·omega
 ·exact TT _
theorem Au (v:Nat) (l h:Tr) (c:Cf):(mk v l h).ev c=if c v=true then h.ev c else l.ev c:=by
 unfold mk;split
 ·rename_i e;subst e;simp
 ·rfl
theorem ce {t:Tr} (h:t.ok) {v:Nat} (hv:v<=t.top):(lo v t).ok/\(v<64->v<(lo v t).top)/\(lo v t).sz<=t.sz/\(t.top=v->t.isL=false->(lo v t).sz<t.sz)/\
  ∀c,c v=false->(lo v t).ev c=t.ev c:=by
 cases t with
 |leaf b=>exact ⟨trivial,λh=>h,TT _,λ_ h=>(by cases h),λ_ _=>rfl⟩
 |node w l r=>
  obtain ⟨h0,h1,h2,h3,h4,h5⟩:=h;simp only [lo];split
  ·rename_i e;subst e;refine ⟨h4,λ_=>h1,by simp only [sz];omega,λ_ _=>by simp only [sz];omega,λc hc=> ?_⟩;simp [ev,hc]
  ·rename_i e;refine ⟨⟨h0,h1,h2,h3,h4,h5⟩,λ_=> ?_,TT _,λhe=> ?_,λ_ _=>rfl⟩
   ·simp only [top] at hv ⊢;omega
   ·simp only [top] at he;omega
theorem cf {t:Tr} (h:t.ok) {v:Nat} (hv:v<=t.top):(hi v t).ok/\(v<64->v<(hi v t).top)/\(hi v t).sz<=t.sz/\(t.top=v->t.isL=false->(hi v t).sz<t.sz)/\
  ∀c,c v=true->(hi v t).ev c=t.ev c:=by
 cases t with
 |leaf b=>exact ⟨trivial,λh=>h,TT _,λ_ h=>(by cases h),λ_ _=>rfl⟩
 |node w l r=>
  obtain ⟨h0,h1,h2,h3,h4,h5⟩:=h;simp only [hi];split
  ·rename_i e;subst e;refine ⟨h5,λ_=>h2,by simp only [sz];omega,λ_ _=>by simp only [sz];omega,λc hc=> ?_⟩;simp [ev,hc]
  ·rename_i e;refine ⟨⟨h0,h1,h2,h3,h4,h5⟩,λ_=> ?_,TT _,λhe=> ?_,λ_ _=>rfl⟩
   ·simp only [top] at hv ⊢;omega
   ·simp only [top] at he;omega
abbrev Op3:=Bool->Bool->Bool->Bool
def aY (a b d:Tr):Nat:=min (min a.top b.top) d.top
theorem NE (o:Op3):∀(n:Nat) (a b d:Tr),a.sz+b.sz+d.sz<=n->a.ok->b.ok->d.ok->
  ∃t:Tr,t.ok/\aY a b d<=t.top/\∀c,t.ev c=o (a.ev c) (b.ev c) (d.ev c):=by
 intro n;induction n with
 |zero=>intro a b d hn;have:=j7 a;omega
 |succ n ih=>
  intro a b d hn ha hb hd;by_cases hv:aY a b d<64
  ·have v1:aY a b d<=a.top:=by unfold aY;omega
   have v2:aY a b d<=b.top:=by unfold aY;omega
   have v3:aY a b d<=d.top:=by unfold aY;omega
   have hcase:aY a b d=a.top\/aY a b d=b.top\/aY a b d=d.top:=by unfold aY;omega
   revert hcase;revert v1 v2 v3 hv;generalize aY a b d=v;intro hv v1 v2 v3 hcase;have nl:∀{t:Tr},v=t.top->t.isL=false:=λ{t} e=>by
    cases t with
    |leaf b=>simp only [top] at e;omega
    |node _ _ _=>rfl
   obtain ⟨al1,al2,al3,al4,al5⟩:=ce ha v1;obtain ⟨bl1,bl2,bl3,bl4,bl5⟩:=ce hb v2;obtain ⟨dl1,dl2,dl3,dl4,dl5⟩:=ce hd v3;obtain ⟨ah1,ah2,ah3,ah4,ah5⟩:=cf ha v1;obtain ⟨bh1,bh2,bh3,bh4,bh5⟩:=cf hb v2;obtain ⟨dh1,dh2,dh3,dh4,dh5⟩:=cf hd v3;have hsl:(lo v a).sz+(lo v b).sz+(lo v d).sz<=n:=by
    rcases hcase with e|e|e
    ·have:=al4 e.symm (nl e);omega
    ·have:=bl4 e.symm (nl e);omega
    ·have:=dl4 e.symm (nl e);omega
   have hsh:(hi v a).sz+(hi v b).sz+(hi v d).sz<=n:=by
    rcases hcase with e|e|e
    ·have:=ah4 e.symm (nl e);omega
    ·have:=bh4 e.symm (nl e);omega
    ·have:=dh4 e.symm (nl e);omega
   obtain ⟨tl,l1,l2,l3⟩:=ih _ _ _ hsl al1 bl1 dl1;obtain ⟨th,h1,h2,h3⟩:=ih _ _ _ hsh ah1 bh1 dh1;have l2':v<tl.top:=by have:=al2 hv;have:=bl2 hv;have:=dl2 hv;unfold aY at l2;omega
   have h2':v<th.top:=by have:=ah2 hv;have:=bh2 hv;have:=dh2 hv;unfold aY at h2;omega
   refine ⟨mk v tl th,sW hv l2' h2' l1 h1,Dz l2',λc=> ?_⟩;rw [Au];split
   ·rename_i hc;rw [h3,ah5 c hc,bh5 c hc,dh5 c hc]
   ·rename_i hc;have hc:c v=false:=by simpa using hc
    rw [l3,al5 c hc,bl5 c hc,dl5 c hc]
  ·have isl:∀{t:Tr},t.ok->64<=t.top->∃b,t=leaf b:=λ{t} ht h64=>by
    cases t with
    |leaf b=>exact ⟨b,rfl⟩
    |node _ _ _=>have:=ht.1;simp only [top] at h64;omega
   unfold aY at hv;obtain ⟨x,rfl⟩:=isl ha (by omega);obtain ⟨y,rfl⟩:=isl hb (by omega);obtain ⟨z,rfl⟩:=isl hd (by omega);exact ⟨leaf (o x y z),trivial,by simp [aY,top],λc=>rfl⟩
noncomputable def can (f:Cf->Bool):Tr:=open Classical in if h:∃t:Tr,t.ok/\∀c,t.ev c=f c then h.choose else leaf false
theorem gW {f:Cf->Bool} {t:Tr} (h:t.ok) (he:∀c,t.ev c=f c):can f=t:=by have hx:∃t:Tr,t.ok/\∀c,t.ev c=f c:=⟨t,h,he⟩;unfold can;rw [dif_pos hx];exact eB hx.choose_spec.1 h λc=>(hx.choose_spec.2 c).trans (he c).symm
noncomputable def ap (o:Op3) (a b d:Tr):Tr:=can λc=>o (a.ev c) (b.ev c) (d.ev c)
section
variable {o:Op3} {a b d:Tr} (ha:a.ok) (hb:b.ok) (hd:d.ok)
include ha hb hd
theorem eZ:(ap o a b d).ok/\aY a b d<=(ap o a b d).top/\∀c,(ap o a b d).ev c=o (a.ev c) (b.ev c) (d.ev c):=by obtain ⟨t,h1,h2,h3⟩:=NE o _ a b d (TT _) ha hb hd;have:ap o a b d=t:=gW h1 h3;rw [this];exact ⟨h1,h2,h3⟩
theorem DA:(ap o a b d).ok:=(eZ ha hb hd).1
theorem uy (hv:aY a b d<64):ap o a b d=mk (aY a b d) (ap o (lo (aY a b d) a) (lo (aY a b d) b) (lo (aY a b d) d)) (ap o (hi (aY a b d) a) (hi (aY a b d) b) (hi (aY a b d) d)):=by
 have v1:aY a b d<=a.top:=by unfold aY;omega
 have v2:aY a b d<=b.top:=by unfold aY;omega
 have v3:aY a b d<=d.top:=by unfold aY;omega
 revert v1 v2 v3 hv;generalize aY a b d=v;intro hv v1 v2 v3;obtain ⟨al1,al2,al3,al4,al5⟩:=ce ha v1;obtain ⟨bl1,bl2,bl3,bl4,bl5⟩:=ce hb v2;obtain ⟨dl1,dl2,dl3,dl4,dl5⟩:=ce hd v3;obtain ⟨ah1,ah2,ah3,ah4,ah5⟩:=cf ha v1;obtain ⟨bh1,bh2,bh3,bh4,bh5⟩:=cf hb v2;obtain ⟨dh1,dh2,dh3,dh4,dh5⟩:=cf hd v3;obtain ⟨l1,l2,l3⟩:=eZ (o:=o) al1 bl1 dl1;obtain ⟨h1,h2,h3⟩:=eZ (o:=o) ah1 bh1 dh1;have l2':v<(ap o (lo v a) (lo v b) (lo v d)).top:=by have:=al2 hv;have:=bl2 hv;have:=dl2 hv;unfold aY at l2;omega
 have h2':v<(ap o (hi v a) (hi v b) (hi v d)).top:=by have:=ah2 hv;have:=bh2 hv;have:=dh2 hv;unfold aY at h2;omega
 refine gW (sW hv l2' h2' l1 h1) λc=> ?_;rw [Au];split
 ·rename_i hc;rw [h3,ah5 c hc,bh5 c hc,dh5 c hc]
 ·rename_i hc;have hc:c v=false:=by simpa using hc
  rw [l3,al5 c hc,bl5 c hc,dl5 c hc]
end
theorem kS (o:Op3) (x y z:Bool):ap o (leaf x) (leaf y) (leaf z)=leaf (o x y z):=gW trivial λ_=>rfl
theorem fX {t:Tr} (ht:t.ok) (h64:64<=t.top):∃b,t=leaf b:=by
 cases t with
 |leaf b=>exact ⟨b,rfl⟩
 |node _ _ _=>have:=ht.1;simp only [top] at h64;omega
end Tr
end Go.Proofs.YtcemhghkipgdiaaGreatDoor
namespace Go.Proofs.YtcemhghkipgdiaaGreatDoor
open Tr
structure Br where
 v:Int
 l:Int
 h:Int
deriving DecidableEq
def inn (S:List Tr) (t:Tr):Prop:=t.isL=true\/t∈S
def num (S:List Tr):Tr->Nat
 |leaf b=>if b then 1 else 0
 |node v l h=>S.idxOf (node v l h)+2
def br (S:List Tr):Tr->Br
 |leaf _=>⟨0,0,0⟩
 |node v l h=>⟨(v:Int),(num S l:Int),(num S h:Int)⟩
def brs (S:List Tr):List Br:=S.map (br S)
inductive Cl:List Tr->Prop
 |nil:Cl []
 |snoc {S:List Tr} {v:Nat} {l h:Tr}:Cl S->inn S l->inn S h->(node v l h).ok->node v l h ∉ S->Cl (S++[node v l h])
theorem bB {S X:List Tr} {t:Tr} (h:inn S t):inn (S++X) t:=h.imp id λh=>Vt X h
theorem eC (S:List Tr) (b:Bool):inn S (leaf b):=.inl rfl
theorem bV {S:List Tr} {t:Tr} (h:inn S t) (hn:t.isL=false):t∈S:=h.resolve_left (by rw [hn];exact U6)
theorem bG {S X:List Tr} {t:Tr} (h:inn S t):num (S++X) t=num S t:=by
 cases t with
 |leaf b=>rfl
 |node v l r=>have hm:=bV h rfl;simp only [num,List.idxOf_append,hm,if_true]
namespace Cl
theorem mem {S:List Tr} (h:Cl S):∀t∈S,t.ok/\∃v l r,t=node v l r/\inn S l/\inn S r:=by
 induction h with
 |nil=>intro t ht;cases ht
 | @snoc S v l r hS hl hr hk hn ih=>
  intro t ht;rcases TR.1 ht with ht|ht
  ·obtain ⟨h1,v',l',r',h2,h3,h4⟩:=ih t ht;exact ⟨h1,v',l',r',h2,bB h3,bB h4⟩
  ·obtain rfl:=TO.1 ht;exact ⟨hk,v,l,r,rfl,bB hl,bB hr⟩
theorem nodup {S:List Tr} (h:Cl S):S.Nodup:=by
 induction h with
 |nil=>exact List.nodup_nil
 | @snoc S v l r hS hl hr hk hn ih=>rw [Uj];refine ⟨ih,by simp,?_⟩;intro a ha b hb;rw [TO] at hb;subst hb;rintro rfl;exact hn ha
theorem inn_ok {S:List Tr} (h:Cl S) {t:Tr} (ht:inn S t):t.ok:=by
 cases t with
 |leaf b=>trivial
 |node v l r=>exact (h.mem _ (bV ht rfl)).1
theorem inn_kids {S:List Tr} (h:Cl S) {v:Nat} {l r:Tr} (ht:inn S (node v l r)):inn S l/\inn S r:=by obtain ⟨_,v',l',r',e,h3,h4⟩:=h.mem _ (bV ht rfl);cases e;exact ⟨h3,h4⟩
theorem inn_lo {S:List Tr} (h:Cl S) {t:Tr} (ht:inn S t) (v:Nat):inn S (lo v t):=by
 cases t with
 |leaf b=>exact ht
 |node w l r=>
  simp only [lo];split
  ·exact (h.inn_kids ht).1
  ·exact ht
theorem inn_hi {S:List Tr} (h:Cl S) {t:Tr} (ht:inn S t) (v:Nat):inn S (hi v t):=by
 cases t with
 |leaf b=>exact ht
 |node w l r=>
  simp only [hi];split
  ·exact (h.inn_kids ht).2
  ·exact ht
end Cl
theorem dc {S:List Tr} {t:Tr} (h:inn S t):num S t<=S.length+1:=by
 cases t with
 |leaf b=>simp only [num];split<;>omega
 |node v l r=>have:=List.idxOf_lt_length_of_mem (bV h rfl);simp only [num];omega
theorem cJ {S:List Tr} {t:Tr} (h:t.isL=false):2<=num S t:=by
 cases t with
 |leaf b=>cases h
 |node v l r=>simp only [num];omega
theorem oN {S:List Tr} {t:Tr} (h:num S t<2):t.isL=true:=by
 cases t with
 |leaf b=>rfl
 |node v l r=>simp only [num] at h;omega
theorem cx (S:List Tr) (b:Bool):num S (leaf b)<=1:=by simp only [num];split<;>omega
theorem eD {S:List Tr} {t:Tr} (h:t∈S) (hl:t.isL=false):S[num S t - 2]? =some t:=by
 cases t with
 |leaf b=>cases hl
 |node v l r=>have h1:=List.idxOf_lt_length_of_mem h;simp only [num,Nat.add_sub_cancel];rw [N4 h1,List.getElem_idxOf]
theorem cD {S:List Tr} {t u:Tr} (ht:inn S t) (hu:inn S u) (h:num S t=num S u):t=u:=by
 cases ht':t.isL with
 |true=>
  cases hu':u.isL with
  |true=>
   cases t with
   |node _ _ _=>cases ht'
   |leaf a=>
    cases u with
    |node _ _ _=>cases hu'
    |leaf b=>simp only [num] at h;cases a<;>cases b<;>simp at h ⊢
  |false=>
   have h1:=cJ (S:=S) hu';cases t with
   |node _ _ _=>cases ht'
   |leaf a=>have h2:num S (leaf a)<=1:=cx S a;omega
 |false=>
  cases hu':u.isL with
  |true=>
   have h1:=cJ (S:=S) ht';cases u with
   |node _ _ _=>cases hu'
   |leaf a=>have h2:num S (leaf a)<=1:=cx S a;omega
  |false=>have h1:=eD (bV ht ht') ht';have h2:=eD (bV hu hu') hu';rw [h,h2] at h1;exact (Ug h1).symm
theorem dR {S:List Tr} (hS:Cl S) {k:Nat} {t:Tr} (h:S[k]? =some t):num S t=k+2:=by
 have hk:k<S.length:=(N6.1 h).1;have hm:t∈S:=TU h;obtain ⟨_,v,l,r,rfl,_⟩:=hS.mem t hm;have h1:=List.idxOf_lt_length_of_mem hm;have h2:S[S.idxOf (node v l r)]=S[k]:=by rw [List.getElem_idxOf];exact (N6.1 h).2.symm
 have:=(List.getElem_inj hS.nodup).1 h2;simp only [num];omega
def tr (S:List Tr) (n:Nat):Tr:=
 if n=0 then leaf false else if n=1 then leaf true else S.getD (n - 2) (leaf false)
theorem gl {S:List Tr} {n:Nat} (h:n<=S.length+1):inn S (tr S n):=by
 unfold tr;split
 ·exact eC _ _
 ·split
  ·exact eC _ _
  ·refine .inr ?_;rw [Un,N4 (by omega)];exact U7 _
theorem fL {S:List Tr} (hS:Cl S) {n:Nat} (h:n<=S.length+1):num S (tr S n)=n:=by
 unfold tr;split
 ·rename_i e;subst e;rfl
 ·split
  ·rename_i e;subst e;rfl
  ·have hk:n - 2<S.length:=by omega
   have:=dR hS (k:=n - 2) (t:=S[n - 2]) (N4 hk);rw [Un,N4 hk];simp only [Option.getD_some];omega
theorem gm {S:List Tr} (hS:Cl S) {t:Tr} (h:inn S t):tr S (num S t)=t:=
 cD (gl (dc h)) h (fL hS (dc h))
theorem Cm {S X:List Tr} (hS:Cl S) {t:Tr} (h:t∈S):br (S++X) t=br S t:=by obtain ⟨_,v,l,r,rfl,hl,hr⟩:=hS.mem t h;simp only [br,bG hl,bG hr]
theorem p7 {S X:List Tr} (hS:Cl S):brs (S++X)=brs S++X.map (br (S++X)):=by unfold brs;rw [Ui];congr 1;exact Ve λt ht=>Cm hS ht
theorem eE {S:List Tr} (hS:Cl S) {v:Nat} {l r:Tr} (hl:inn S l) (hr:inn S r):brs (S++[node v l r])=brs S++[⟨(v:Int),(num S l:Int),(num S r:Int)⟩]:=by rw [p7 hS];simp only [Ue,List.map_nil,br,bG hl,bG hr]
theorem aL (S:List Tr):(brs S).length=S.length:=by simp [brs]
theorem gX {S:List Tr} {k:Nat} {t:Tr} (h:S[k]? =some t):(brs S)[k]? =some (br S t):=by simp [brs,h]
theorem DB {S:List Tr} (hS:Cl S) {t u:Tr} (ht:t∈S) (hu:u∈S) (h:br S t=br S u):t=u:=by obtain ⟨_,v,l,r,rfl,hl,hr⟩:=hS.mem t ht;obtain ⟨_,v',l',r',rfl,hl',hr'⟩:=hS.mem u hu;simp only [br,Br.mk.injEq] at h;obtain ⟨h1,h2,h3⟩:=h;rw [cD hl hl' (by omega),cD hr hr' (by omega),show v=v' by omega]
theorem oO {S T:List Tr} (hS:Cl S):Cl T->brs S=brs T->S=T:=by
 intro hT;induction hS generalizing T with
 |nil=>
  intro h;cases T with
  |nil=>rfl
  |cons a b=>have:=congrArg List.length h;simp [brs] at this
 | @snoc S v l r hS hl hr hk hn ih=>
  intro h;cases hT with
  |nil=>have:=congrArg List.length h;simp [brs] at this
  | @snoc T v' l' r' hT hl' hr' hk' hn'=>rw [eE hS hl hr,eE hT hl' hr'] at h;obtain ⟨h1,h2⟩:=List.append_inj' h rfl;obtain rfl:=ih hT h1;simp only [List.cons.injEq,Br.mk.injEq,and_true] at h2;obtain ⟨h3,h4,h5⟩:=h2;rw [cD hl hl' (by omega),cD hr hr' (by omega),show v=v' by omega]
def vis:Tr->List Tr->List Tr
 |leaf _,S=>S
 |node v l h,S=>if node v l h∈S then S else vis h (vis l S)++[node v l h]
theorem fY {S:List Tr} {t:Tr} (h:inn S t):vis t S=S:=by
 cases t with
 |leaf b=>rfl
 |node v l r=>unfold vis;rw [if_pos (bV h rfl)]
theorem bj:∀(t:Tr) (S:List Tr),t.ok->Cl S->Cl (vis t S)/\inn (vis t S) t/\(∃X,vis t S=S++X/\∀x∈X,x.sz<=t.sz)
 |leaf b,S,_,hS=>⟨hS,eC _ _,[],by simp [vis],λx h=>by cases h⟩
 |node v l r,S,hk,hS=>by
  unfold vis;split
  ·rename_i hm;exact ⟨hS,.inr hm,[],by simp,λx h=>by cases h⟩
  ·rename_i hm;obtain ⟨h1,h2,X,h3,h4⟩:=bj l S hk.2.2.2.2.1 hS;obtain ⟨g1,g2,Y,g3,g4⟩:=bj r (vis l S) hk.2.2.2.2.2 h1;have hn:node v l r ∉ vis r (vis l S):=by
    rw [g3,h3];intro hc;rcases TR.1 hc with hc|hc
    ·rcases TR.1 hc with hc|hc
     ·exact hm hc
     ·have:=h4 _ hc;simp only [sz] at this;omega
    ·have:=g4 _ hc;simp only [sz] at this;omega
   refine ⟨.snoc g1 (by rw [g3];exact bB h2) g2 hk hn,.inr (by simp),X++Y++[node v l r],by rw [g3,h3];simp,λx hx=> ?_⟩;simp only [TR,TO,or_assoc] at hx;rcases hx with hx|hx|hx
   ·have:=h4 x hx;simp only [sz];omega
   ·have:=g4 x hx;simp only [sz];omega
   ·rw [hx];exact TT _
def aF (t:Tr):List Tr:=vis t []
theorem bi {t:Tr} (h:t.ok):Cl (aF t):=(bj t [] h .nil).1
theorem bx {t:Tr} (h:t.ok):inn (aF t) t:=(bj t [] h .nil).2.1
abbrev Dia:=List Br×Int
def dia (t:Tr):Dia:=(brs (aF t),(num (aF t) t:Int))
theorem oP {t u:Tr} (ht:t.ok) (hu:u.ok) (h:dia t=dia u):t=u:=by unfold dia at h;simp only [VG] at h;obtain ⟨h1,h2⟩:=h;have h3:=oO (bi ht) (bi hu) h1;rw [<- h3] at h2;refine cD (bx ht) ?_ (by omega);rw [h3];exact bx hu
def cnt:Tr->Nat
 |leaf _=>0
 |node _ l h=>cnt l+cnt h+1
theorem j9:∀(t:Tr) (S:List Tr),(vis t S).length<=S.length+cnt t
 |leaf _,_=>TT _
 |node v l r,S=>by
  unfold vis;split
  ·omega
  ·have h1:=j9 l S;have h2:=j9 r (vis l S);simp only [TQ,TY,cnt];omega
theorem nL (t:Tr):(aF t).length<=cnt t:=by have:=j9 t [];simpa [aF] using this
end Go.Proofs.YtcemhghkipgdiaaGreatDoor
namespace Go.Proofs.YtcemhghkipgdiaaGreatDoor
open Go Go.Proofs.Tryz
theorem sz3:tsz prog 3=some (1,8):=by kernel_rfl
theorem NF:tsz prog 31=some (2,32):=by kernel_rfl
theorem RQ:tsz prog 39=some (1,24):=by kernel_rfl
theorem NG:tsz prog 55=some (13,160):=by kernel_rfl
theorem NH:tsz prog 63=some (2,16):=by kernel_rfl
theorem RR:tsz prog 69=some (4,64):=by kernel_rfl
theorem RT:tsz prog 77=some (1,8):=by kernel_rfl
theorem wC:tsz prog 124=some (3,24):=by kernel_rfl
theorem NI:tsz prog 146=some (7,112):=by kernel_rfl
theorem NJ:tsz prog 156=some (9,104):=by kernel_rfl
theorem Jj:tsz prog 215=some (3,24):=by kernel_rfl
theorem zr3:bP prog 3=some (Value.int .i64 0):=by kernel_rfl
theorem He:bP prog 31=some (Value.agg (#[Value.slice none 0 0,Value.int .i64 0])):=by kernel_rfl
theorem RU:bP prog 39=some (Value.slice none 0 0):=by kernel_rfl
theorem NK:bP prog 55=some (Value.agg (#[Value.string ⟨#[]⟩,Value.int .i64 0,Value.slice none 0 0,Value.slice none 0 0,Value.int .i64 0,Value.bool false,Value.int .i64 0,Value.slice none 0 0,Value.bool false,Value.int .i64 0,Value.int .i64 0,Value.int .i64 0,Value.int .i64 0])):=by kernel_rfl
theorem NL:bP prog 63=some (Value.agg (#[Value.bool false,Value.int .i64 0])):=by kernel_rfl
theorem RV:bP prog 69=some (Value.agg (#[Value.slice none 0 0,Value.int .i64 0,Value.slice none 0 0,Value.int .i64 0])):=by kernel_rfl
theorem RW:bP prog 77=some (Value.int .u64 0):=by kernel_rfl
theorem wD:bP prog 124=some (Value.agg (#[Value.int .i64 0,Value.int .i64 0,Value.int .i64 0])):=by kernel_rfl
theorem NM:bP prog 146=some (Value.agg (#[Value.string ⟨#[]⟩,Value.int .i64 0,Value.string ⟨#[]⟩,Value.slice none 0 0,Value.string ⟨#[]⟩,Value.slice none 0 0,Value.int .i64 0])):=by kernel_rfl
theorem NN:bP prog 156=some (Value.agg (#[Value.int .i64 0,Value.int .i64 0,Value.int .i64 0,Value.int .i64 0,Value.int .i64 0,Value.int .i64 0,Value.slice none 0 0,Value.slice none 0 0,Value.int .i64 0])):=by kernel_rfl
theorem Jk:bP prog 215=some (Value.agg (#[Value.int .i64 0,Value.int .i64 0,Value.int .i64 0])):=by kernel_rfl
section
variable {P:Program} {n:Nat} {Q:Exit->En->Ψ} {E:En} {F:PH} {ops:Array Oper} {l:List Oper} {d:Tmp} {op:Op} {ty:TypeId} {pos:String} {aft:Array Edge} {gd:Option (Nat×Bool)}
theorem RX {fn:Func} {r r' r'' r3:ResultVar} {v v' v'' v3:Value} (h:fn.results= #[r,r',r'',r3]) (hv:kg P E F r v) (hv':kg P E F r' v') (hv'':kg P E F r'' v'') (hv3:kg P E F r3 v3):ql P fn E F (.tuple #[v,v',v'',v3]):=λe w tmps st ht=>by have k:=gn hv st ht;have k':=gn hv' st ht;have k'':=gn hv'' st ht;have k3:=gn hv3 st ht;clear ht hv hv' hv'' hv3;rcases k with ⟨t,rfl,h1⟩|⟨x,t,a,rfl,h1,h2⟩<;>rcases k' with ⟨t',rfl,h3⟩|⟨x',t',a',rfl,h3,h4⟩<;>rcases k'' with ⟨t'',rfl,h5⟩|⟨x'',t'',a'',rfl,h5,h6⟩<;>rcases k3 with ⟨t3,rfl,h7⟩|⟨x3,t3,a3,rfl,h7,h8⟩<;>simp [results,asAddr, *]
end
section
variable {P:Program} {F:PH} {E:En} {o:Oper} {x y:Operand} {t t':TypeId}
theorem Ld {c d:ByteArray} (ho:o.op=.binOp .add t x y t') (hx:ev E x=.string c) (hy:ev E y=.string d) (h:c.size+d.size<=9223372036854775807):RD P E F o (.string (c++d)):=by
 have e:IntKind.i64.max=9223372036854775807:=by decide
 have hn:¬(((c.size+d.size:Nat):Int)>IntKind.i64.max):=by rw [e];omega
 simp only [RD,execOp,ho,hx,hy,ai];refine ⟨.string (c++d),⟨(),bX rfl,?_⟩,rfl⟩;show rdo P (Op.stringOp .add c d) F _;unfold Op.stringOp;simp only [if_neg hn];rfl
theorem Le {c d:ByteArray} (ho:o.op=.binOp .lss t x y t') (hx:ev E x=.string c) (hy:ev E y=.string d):RD P E F o (.bool (Op.bytesLess c.toList d.toList)):=by simp only [RD,execOp,ho,hx,hy,ai];exact ⟨_,⟨(),bX rfl,rfl⟩,rfl⟩
theorem Lf {c d:ByteArray} (ho:o.op=.binOp .geq t x y t') (hx:ev E x=.string c) (hy:ev E y=.string d):RD P E F o (.bool (!Op.bytesLess c.toList d.toList)):=by simp only [RD,execOp,ho,hx,hy,ai];exact ⟨_,⟨(),bX rfl,rfl⟩,rfl⟩
theorem DC {e:TypeId} {v:Value} {s:ByteArray} (ho:o.op=.convert t t' x) (hx:ev E x=v) (h1:P.underlying t=some (.slice e)) (h2:P.underlying t'=some .string) (h3:P.underlying e=some (.int .u8))
  (hv:∃b l c,v=.slice b l c) (h:rdo P (Conv.bytesToString v) F (.string s)):RD P E F o (.string s):=by
 obtain ⟨b,l,c,rfl⟩:=hv;simp only [RD,execOp,ho,hx,ai,convert];refine ⟨_,⟨_,(aw h1 _).2 rfl,_,(aw h2 _).2 rfl,?_⟩,rfl⟩;cases b<;>(simp only [ai];exact ⟨_,(aw h3 _).2 rfl,h⟩)
variable {K:En->Ψ} {d:Tmp} {ty:TypeId} {pos:String} {aft:Array Edge} {gd:Option (Nat×Bool)}
theorem DD {m:Option Nat} {r:Value} (ho:o.op=.call {callee:=.builtin .len,args:= #[x],argTypes:= #[t]}) (hx:ev E x=.map m) (h:rdo P (Builtin.len_ #[t] o.type #[.map m]) F r):RD P E F o r:=by simp [RD,execOp,ho,resolve,invoke,builtin,hx];exact h
theorem Hf {v r:Value} (ho:o.op=.entry x) (hx:ev E x=v) (h:rdo P (Instr.entry v) F r):RD P E F o r:=by simp only [RD,execOp,ho,hx,ai];exact ⟨_,h,rfl⟩
end
end Go.Proofs.YtcemhghkipgdiaaGreatDoor
