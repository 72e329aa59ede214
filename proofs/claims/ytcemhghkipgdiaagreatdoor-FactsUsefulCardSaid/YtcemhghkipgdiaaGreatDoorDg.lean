/-
  FactsUseful.
-/
import Derived.Test.YtcemhghkipgdiaaGreatDoorDb
import Derived.Test.YtcemhghkipgdiaaGreatDoorAm
import Derived.Test.YtcemhghkipgdiaaGreatDoorAy
import Derived.Test.YtcemhghkipgdiaaGreatDoorEr
import Derived.Test.YtcemhghkipgdiaaGreatDoorGdiagram
import Derived.Test.YtcemhghkipgdiaaGreatDoorEx
namespace Go.Proofs.YtcemhghkipgdiaaGreatDoor
open Go Go.Proofs.Tryz Tr
set_option maxRecDepth 10000
def kep {α:Type} (q:Nat->Bool):Nat->List α->List α
 |_,[]=>[]
 |i,x::l=>if q i=true then x::kep q (i+1) l else kep q (i+1) l
theorem wX {α:Type} (q:Nat->Bool) (x:α):∀(l:List α) (i:Nat),kep q i (l++[x])=kep q i l++if q (i+l.length)=true then [x] else []
 |[],i=>by simp [kep]
 |y::l,i=>by rw [TZ];unfold kep;rw [wX q x l,TC,show i+1+l.length=i+(l.length+1) by omega];split<;>simp
theorem pv {α:Type} (q:Nat->Bool):∀(l:List α) (i:Nat),(kep q i l).Sublist l
 |[],_=>List.Sublist.slnil
 |x::l,i=>by
  unfold kep;split
  ·exact (pv q l (i+1)).cons_cons x
  ·exact (pv q l (i+1)).cons x
theorem px {α:Type} {q:Nat->Bool}:∀{l:List α} {i j:Nat} {x:α},(kep q i l)[j]? =some x->∃m,l[m]? =some x/\q (i+m)=true/\∀{β:Type} (l':List β),l'.length=l.length->(kep q i l')[j]? =l'[m]?
 |[],i,j,x,h=>by simp [kep] at h
 |y::l,i,j,x,h=>by
  unfold kep at h;by_cases hq:q i=true
  ·rw [if_pos hq] at h;cases j with
   |zero=>
    cases h;refine ⟨0,rfl,hq,λ{β} l' hl=> ?_⟩;cases l' with
    |nil=>cases hl
    |cons z l'=>unfold kep;rw [if_pos hq];rfl
   |succ j=>
    obtain ⟨m,h1,h2,h3⟩:=px (l:=l) (i:=i+1) (j:=j) (x:=x) (by simpa using h);refine ⟨m+1,by simpa using h1,by rw [show i+(m+1)=i+1+m by omega];exact h2,λ{β} l' hl=> ?_⟩;cases l' with
    |nil=>cases hl
    |cons z l'=>unfold kep;rw [if_pos hq];have:=h3 l' (by simpa using hl);simpa using this
  ·rw [if_neg hq] at h;obtain ⟨m,h1,h2,h3⟩:=px (l:=l) (i:=i+1) (j:=j) (x:=x) h;refine ⟨m+1,by simpa using h1,by rw [show i+(m+1)=i+1+m by omega];exact h2,λ{β} l' hl=> ?_⟩;cases l' with
   |nil=>cases hl
   |cons z l'=>unfold kep;rw [if_neg hq];have:=h3 l' (by simpa using hl);simpa using this
theorem E6 {α:Type} {q:Nat->Bool}:∀{l:List α} {i m:Nat} {x:α},l[m]? =some x->q (i+m)=true->∃j:Nat,(kep q i l)[j]? =some x
 |[],i,m,x,h,_=>by simp at h
 |y::l,i,m,x,h,hq=>by
  unfold kep;cases m with
  |zero=>cases h;rw [UF] at hq;exact ⟨0,by rw [if_pos hq];rfl⟩
  |succ m=>
   obtain ⟨j,hj⟩:=E6 (l:=l) (i:=i+1) (m:=m) (x:=x) (by simpa using h) (by rw [show i+1+m=i+(m+1) by omega];exact hq);by_cases e:q i=true
   ·exact ⟨j+1,by rw [if_pos e];simpa using hj⟩
   ·exact ⟨j,by rw [if_neg e];exact hj⟩
theorem Bg {α β:Type} (q:Nat->Bool):∀(l:List α) (l':List β) (i:Nat),l.length=l'.length->(kep q i l).length=(kep q i l').length
 |[],[],_,_=>rfl
 |x::l,y::l',i,h=>by
  unfold kep;have:=Bg q l l' (i+1) (by simpa using h);split
  ·rw [TC,TC,this]
  ·exact this
def fW (g:Gr) (q:Nat->Bool):Gr:={g with prods:=kep q 0 g.prods,lvs:=[],fils:=[]}
def gi (g:Gr):Gr:={g with lvs:=[],fils:=[]}
section
variable {g:Gr} {k:Nat} {q:Nat->Bool}
theorem ru:∀(l:List Pr) (done:List ByteArray),dE (gi g) done l=dE g done l
 |[],_=>rfl
 |p::l,done=>by unfold dE;rw [ru l];rfl
theorem E8 (h:OkG g):OkG (gi g):=by refine ⟨?_,h.fam,h.toks,h.nons,(ru _ _).trans h.prods,trivial,λ_ hx=>(by cases hx)⟩;have hl:=h.large;unfold df at hl ⊢;rw [UV] at hl ⊢;refine ⟨decide_eq_false ?_,hl.2⟩;have:=of_decide_eq_false hl.1;show ¬(64<g.conds.length\/256<g.toks.length\/4096<0\/2000<g.nons.length\/2000<g.prods.length\/2000<0);omega
theorem Me (h:OkG g) (hn:(g.prods.map Pr.name).Nodup):OkG (fW g q):=by
 have hs:=pv q g.prods 0;have hsl:=hs.length_le;refine ⟨?_,h.fam,h.toks,h.nons,?_,trivial,λ_ hx=>(by cases hx)⟩
 ·have hl:=h.large;unfold df at hl ⊢;rw [UV] at hl ⊢;refine ⟨decide_eq_false ?_,?_⟩
  ·have:=of_decide_eq_false hl.1;show ¬(64<g.conds.length\/256<g.toks.length\/4096<0\/2000<g.nons.length\/2000<(kep q 0 g.prods).length\/2000<0);omega
  ·rw [List.any_eq_false] at hl ⊢;exact λp hp=>hl.2 p (hs.subset hp)
 ·refine pL _ _ (λp hp=> ?_) ?_
  ·obtain ⟨h1,d,h2,_,h3,h4,h5,h6⟩:=kC _ _ h.prods p (hs.subset hp);exact ⟨h1,h2,h3,h4,h5,h6⟩
  ·rw [TO];exact (hs.map Pr.name).nodup hn
theorem tF {h:Gr} (e:h.toks=g.toks):∀(r:List Sy) (d:Tr),gT h d r=gT g d r
 |[],_=>rfl
 |s::r,d=>by
  have e2:im h s.i=im g s.i:=by unfold im;rw [e]
  unfold gT;rw [e2];exact tF e r _
theorem mU {h:Gr} (e:h.toks=g.toks) (ef:h.fam=g.fam) {i j:Nat} {x:Pr} (hi:g.prods[i]? =some x) (hj:h.prods[j]? =some x):aF h j=aF g i:=by unfold aF;rw [hi,hj];dsimp only;rw [tF e,ef]
theorem OkK.bare (h:OkK g k):OkK (gi g) k:=⟨E8 h.ok,h.len,h.le⟩
theorem OkK.cut (h:OkK g k) (hn:(g.prods.map Pr.name).Nodup):OkK (fW g q) k:=⟨Me h.ok hn,h.len,h.le⟩
theorem lZ {U:Nat->Tr} (hU:rP k g.prods (aF g) (tre g.fam) g.start U) (hq:∀i,i<g.prods.length->(q i=true↔U i≠leaf false)) (c:Cf):
  Cut g.prods (fW g q).prods (aF g) (aF (fW g q)) (tre g.fam) g.start c:=by
 refine ⟨λj x hj hp=> ?_,λi hi=> ?_⟩
 ·obtain ⟨m,h1,h2,_⟩:=px (show (kep q 0 g.prods)[j]? =some x from hj);exact ⟨m,x,h1,rfl,rfl,by rw [<- mU (g:=g) (h:=fW g q) rfl rfl h1 hj];exact hp⟩
 ·obtain ⟨x,hx,hp,hr⟩:=id hi;have hil:i<g.prods.length:=(N5.1 hx).1;have hu:=(hU.iff i c hil).2 hi;obtain ⟨j,hj⟩:=E6 (q:=q) (i:=0) hx (by rw [Tz,hq i hil];intro e;rw [e] at hu;cases hu);exact ⟨j,x,hx,hj,by rw [mU (g:=g) (h:=fW g q) rfl rfl hx hj];exact hp⟩
theorem E9 {U V:Nat->Tr} (hU:rP k g.prods (aF g) (tre g.fam) g.start U) (hq:∀i,i<g.prods.length->(q i=true↔U i≠leaf false))
  (hV:rP k (fW g q).prods (aF (fW g q)) (tre g.fam) g.start V):kF V (fW g q).prods.length=kep q 0 (kF U g.prods.length):=by
 have hlen:(kep q 0 g.prods).length=(kep q 0 (kF U g.prods.length)).length:=Bg q _ _ 0 (gU _ _).symm;refine Ug λj=> ?_;by_cases hj:j<(kep q 0 g.prods).length
 ·have hx:(fW g q).prods[j]? =some ((kep q 0 g.prods)[j]'hj):=N4 hj;rw [jl (show j<(fW g q).prods.length from hj)];obtain ⟨m,h1,_,h3⟩:=px (show (kep q 0 g.prods)[j]? =some _ from hx);have hm:m<g.prods.length:=(N5.1 h1).1;rw [h3 (kF U g.prods.length) (gU _ _),jl hm];congr 2;refine cS (hV.sx j).1 (hU.sx m).1 λc=>Tp.2 ?_;rw [hU.iff m c hm,hV.iff j c hj];exact (lZ hU hq c).use h1 hx (by rw [mU (g:=g) (h:=fW g q) rfl rfl h1 hx])
 ·rw [T7 (by rw [gU];exact Nat.le_of_not_lt hj),T7 (by omega)]
theorem HO (hk:OkK g k) {U:Nat->Tr} (hU:rP k g.prods (aF g) (tre g.fam) g.start U) (hq:∀i,i<g.prods.length->(q i=true↔U i≠leaf false)) {st:Bool} {c:Cf}:
  Der g.prods (aF g) st c g.start↔Der (fW g q).prods (aF (fW g q)) st c g.start:=by
 refine ⟨λd=>(lZ hU hq c).der d (.start ?_),λd=>d.inc (lZ hU hq c).back⟩;obtain ⟨i,x,_,_,hp,_⟩:=Der.inv.1 d;exact hk.fam_of hp
theorem HP (hk:OkK g k) {U:Nat->Tr} (hU:rP k g.prods (aF g) (tre g.fam) g.start U) (hq:∀i,i<g.prods.length->(q i=true↔U i≠leaf false)) {c:Cf} {t:Int}:
  Fst g.prods (aF g) c g.start t↔Fst (fW g q).prods (aF (fW g q)) c g.start t:=by
 refine ⟨λd=>(lZ hU hq c).fst d (.start ?_),λd=>d.inc (lZ hU hq c).back⟩;obtain ⟨i,x,_,_,hp,_⟩:=Der.inv.1 d.der;exact hk.fam_of hp
end
def hit (x y:Tr) (both:Bool):Prop:=∃c,x.ev c=true/\y.ev c=both
theorem P5 {t:Tr} (h:t.ok) (hn:t≠leaf false):∃c,t.ev c=true:=by
 apply Classical.byContradiction;intro hne
 exact hn (cS h trivial λc=>by
  cases hc:t.ev c with
  |true=>exact absurd ⟨c,hc⟩ hne
  |false=>rfl)
theorem Fb {x y:Tr} {both:Bool} {v:Nat} (hx:x.ok) (hy:y.ok) (h1:v<=x.top) (h2:v<=y.top) (hv:v<64):hit x y both↔hit (lo v x) (lo v y) both\/hit (hi v x) (hi v y) both:=by
 obtain ⟨xl1,xl2,_,_,xl⟩:=bF hx h1;obtain ⟨yl1,yl2,_,_,yl⟩:=bF hy h2;obtain ⟨xh1,xh2,_,_,xh⟩:=bG hx h1;obtain ⟨yh1,yh2,_,_,yh⟩:=bG hy h2;constructor
 ·rintro ⟨c,a,b⟩;cases hc:c v with
  |false=>exact .inl ⟨c,by rw [xl c hc];exact a,by rw [yl c hc];exact b⟩
  |true=>exact .inr ⟨c,by rw [xh c hc];exact a,by rw [yh c hc];exact b⟩
 ·rintro (⟨c,a,b⟩|⟨c,a,b⟩)
  ·have hc:(c.set v false) v=false:=by unfold Cf.set;simp
   exact ⟨c.set v false,by rw [<- xl _ hc,fM xl1 (xl2 hv)];exact a,by rw [<- yl _ hc,fM yl1 (yl2 hv)];exact b⟩
  ·have hc:(c.set v true) v=true:=by unfold Cf.set;simp
   exact ⟨c.set v true,by rw [<- xh _ hc,fM xh1 (xh2 hv)];exact a,by rw [<- yh _ hc,fM yh1 (yh2 hv)];exact b⟩
theorem Fc:aB prog 154=true:=by kernel_rfl
section
variable {ta tb:Tr} {both:Bool} {b3 b4 b5 b7 b8 b9:Nat}
abbrev jf (b3 b4 b5 b7 b8:Nat):Γ:= #[.pointer (some ⟨b5,0,none⟩),.pointer (some ⟨b7,0,none⟩),.pointer (some ⟨b3,0,none⟩),.pointer (some ⟨b4,0,none⟩),.pointer (some ⟨b8,0,none⟩)]
structure ME (E:PH) (ta tb:Tr) (both:Bool) (b3 b4 b5 b7 b8 b9:Nat):Prop where
 c3:∃w,E.row ⟨b3,0,none⟩ w/\DV E w (dia ta)
 c4:∃w,E.row ⟨b4,0,none⟩ w/\DV E w (dia tb)
 c5:E.cell ⟨b5,0,none⟩=some (.bool both)
 c7:E.cell ⟨b7,0,none⟩=some (.map (some b9))
 c8:E.cell ⟨b8,0,none⟩=some (.func (.func 154) #[] (jf b3 b4 b5 b7 b8))
def kv (ta tb x y:Tr):Int×Int:=((num (aO ta) x:Int),(num (aO tb) y:Int))
structure MS (E F:PH) (b9:Nat) (m:Int×Int->Option Value):Prop where
 le:E.le F
 n9:E b9=none
 mp:∃o,F b9=some o/\dG bK m o
 val:∀k v,m k=some v->v=.bool true
theorem MS.upto {E F G:PH} {m:Int×Int->Option Value} (h:MS E F b9 m) (hl:F.le G):MS E G b9 m:=by obtain ⟨h1,h2,⟨o,h3,h4⟩,h5⟩:=h;exact ⟨h1.trans hl,h2,⟨o,hl _ _ h3,h4⟩,h5⟩
def MOK (ta tb:Tr) (both:Bool) (n:Nat) (m:Int×Int->Option Value):Prop:=∀x y,inn (aO ta) x->inn (aO tb) y->m (kv ta tb x y)≠none->x.sz+y.sz<=n->¬hit x y both
def P6 (ta tb:Tr) (both:Bool) (m m':Int×Int->Option Value):Prop:=∀x y,inn (aO ta) x->inn (aO tb) y->m' (kv ta tb x y)≠none->m (kv ta tb x y)≠none\/¬hit x y both
def Kg (ta tb:Tr) (both:Bool) (b3 b4 b5 b7 b8 b9:Nat) (x y:Tr):Prop:=∀(E F:PH) (m:Int×Int->Option Value),ME E ta tb both b3 b4 b5 b7 b8 b9->MS E F b9 m->MOK ta tb both (x.sz+y.sz) m->
 aj prog 154 (#[vi (num (aO ta) x),vi (num (aO tb) y)]++jf b3 b4 b5 b7 b8) F λr F'=>∃h m',r=.bool h/\MS E F' b9 m'/\(h=true->hit x y both)/\(h=false->¬hit x y both/\P6 ta tb both m m')
theorem yR {x y:Tr} {E F:PH} {m:Int×Int->Option Value} (ka:ta.ok) (kb:tb.ok) (fa:Fit ((aO ta).length+2)) (fb:Fit ((aO tb).length+2)) (ix:inn (aO ta) x) (iy:inn (aO tb) y)
  (ih:∀x' y',inn (aO ta) x'->inn (aO tb) y'->x'.sz+y'.sz<x.sz+y.sz->Kg ta tb both b3 b4 b5 b7 b8 b9 x' y')
  (he:ME E ta tb both b3 b4 b5 b7 b8 b9) (hs:MS E F b9 m) (ho:MOK ta tb both (x.sz+y.sz) m) (hx:x≠leaf false) (hy:∀b,y=leaf b->b=both):
  oR (num (aO ta) x) (num (aO tb) y) (some ⟨b7,0,none⟩) (some ⟨b3,0,none⟩) (some ⟨b4,0,none⟩) (some ⟨b8,0,none⟩)
   (λr F'=>∃h m',r=.bool h/\MS E F' b9 m'/\(h=true->hit x y both)/\(h=false->¬hit x y both/\P6 ta tb both m m')) F:=by
 have cla:=bu ka;have clb:=bu kb;have okx:=cla.inn_ok ix;have oky:=clb.inn_ok iy;unfold oR;refine ⟨λh=> ?_,λh=> ?_⟩
 ·have hl:=jw (S:=aO tb) (t:=y) (by omega);cases y with
  |node _ _ _=>cases hl
  |leaf b=>obtain rfl:=hy b rfl;obtain ⟨c,hc⟩:=P5 okx hx;exact ⟨true,m,rfl,hs,λ_=>⟨c,hc,rfl⟩,λh=>by cases h⟩
 ·have nly:y.isL=false:=by
   cases y with
   |node _ _ _=>rfl
   |leaf b=>have:=cL (aO tb) b;omega
  have hty:=mF oky nly;obtain ⟨o,hm,hmo⟩:=hs.mp;have hlk:=bA (F:=F) mt2 hm hmo (kv ta tb x y) false;rw [if_neg (by simp)] at hlk;refine ⟨_,rfl,_,aG hs.le he.c7,?_⟩;cases hmk:m (kv ta tb x y) with
  |some w=>rw [hmk] at hlk;obtain rfl:=hs.val _ _ hmk;refine ⟨true,hlk,λ_=>⟨false,m,rfl,hs,λh=>(by cases h),λ_=>⟨ho x y ix iy (by rw [hmk];simp) (Tj _),λx' y' _ _ h=> .inl h⟩⟩,λh=>by cases h⟩
  |none=>
   rw [hmk] at hlk;refine ⟨false,hlk,λh=>(by cases h),λ_=>⟨_,aG hs.le he.c7,?_⟩⟩;refine aQ mt2 hm hmo (kv ta tb x y) _ λo' ho'=> ?_
   have hs1:MS E (F.set b9 o') b9 (λk'=>if k'=kv ta tb x y then some (.bool true) else m k'):=⟨aw hs.le hs.n9,hs.n9,⟨o',ak _ _ _,ho'⟩,λk v hk=>by
    by_cases hkk:k=kv ta tb x y
    ·rw [if_pos hkk] at hk;exact (TG hk).symm
    ·rw [if_neg hkk] at hk;exact hs.val _ _ hk⟩
   have mem1:∀x' y',inn (aO ta) x'->inn (aO tb) y'->(if kv ta tb x' y'=kv ta tb x y then some (Value.bool true) else m (kv ta tb x' y'))≠none->(x'=x/\y'=y)\/m (kv ta tb x' y')≠none:=λx' y' ix' iy' h=>by
    by_cases hkk:kv ta tb x' y'=kv ta tb x y
    ·unfold kv at hkk;simp only [UX] at hkk;exact .inl ⟨bX ix' ix (by omega),bX iy' iy (by omega)⟩
    ·rw [if_neg hkk] at h;exact .inr h
   generalize F.set b9 o'=F1 at*;obtain ⟨w3,r3,d3⟩:=he.c3;obtain ⟨w4,r4,d4⟩:=he.c4;have f3:Fit ((dia ta).1.length+2):=by show Fit ((brs (aO ta)).length+2);rw [aL];exact fa
   have f4:Fit ((dia tb).1.length+2):=by show Fit ((brs (aO tb)).length+2);rw [aL];exact fb
   refine ⟨_,rfl,w3,d3.size,aT hs1.le r3,_,rfl,w4,d4.size,aT hs1.le r4,?_⟩;refine (dk (S:=aO ta) (d3.le hs1.le) (Uh _) ix f3).mono ?_;rintro _ F2 ⟨rfl,l2⟩;have hs2:=hs1.upto l2;refine ⟨_,rfl,aT hs2.le r4,?_⟩;refine (dk (S:=aO tb) (d4.le hs2.le) (Uh _) iy f4).mono ?_;rintro _ F3 ⟨rfl,l3⟩;have hs3:=hs2.upto l3;refine ⟨_,rfl,w3,d3.size,aT hs3.le r3,?_⟩;have hmin:min (x.top:Int) (y.top:Int)=((min x.top y.top:Nat):Int):=by omega
   rw [hmin];have vx:min x.top y.top<=x.top:=by omega
   have vy:min x.top y.top<=y.top:=by omega
   have hv:min x.top y.top<64:=by omega
   have hcase:min x.top y.top=x.top\/min x.top y.top=y.top:=by omega
   generalize min x.top y.top=v at*;refine (ku (S:=aO ta) (d3.le hs3.le) (Uh _) ix f3 hv).mono ?_;rintro _ F4 ⟨rfl,l4⟩;have hs4:=hs3.upto l4;refine ⟨_,_,rfl,w4,d4.size,aT hs4.le r4,?_⟩;refine (ku (S:=aO tb) (d4.le hs4.le) (Uh _) iy f4 hv).mono ?_;rintro _ F5 ⟨rfl,l5⟩;have hs5:=hs4.upto l5;clear hs4 hs3 hs2 hs1;obtain ⟨_,_,xs1,xs2,_⟩:=bF okx vx;obtain ⟨_,_,ys1,ys2,_⟩:=bF oky vy;obtain ⟨_,_,xs3,xs4,_⟩:=bG okx vx;obtain ⟨_,_,ys3,ys4,_⟩:=bG oky vy;have nl:∀{t:Tr},v=t.top->t.isL=false:=λ{t} e=>by
    cases t with
    |leaf b=>simp only [top] at e;omega
    |node _ _ _=>rfl
   have sl:(lo v x).sz+(lo v y).sz<x.sz+y.sz:=by
    rcases hcase with e|e
    ·have:=xs2 e.symm (nl e);omega
    ·have:=ys2 e.symm (nl e);omega
   have sh:(hi v x).sz+(hi v y).sz<x.sz+y.sz:=by
    rcases hcase with e|e
    ·have:=xs4 e.symm (nl e);omega
    ·have:=ys4 e.symm (nl e);omega
   have step:=Fb (both:=both) okx oky vx vy hv;have ilx:=cla.inn_lo ix v;have ily:=clb.inn_lo iy v;have ihx:=cla.inn_hi ix v;have ihy:=clb.inn_hi iy v;refine ⟨_,_,rfl,_,rfl,_,aG hs5.le he.c8,_,_,_,rfl,Fc,?_⟩;refine (ih _ _ ilx ily sl E F5 _ he hs5 (λx' y' ix' iy' h hsz=> ?_)).mono ?_
   ·rcases mem1 x' y' ix' iy' h with ⟨rfl,rfl⟩|h
    ·omega
    ·exact ho x' y' ix' iy' h (by omega)
   rintro _ F6 ⟨h1,m1,rfl,hs6,ht1,hf1⟩;refine ⟨_,rfl,λh=>⟨true,m1,rfl,hs6,λ_=>step.2 (.inl (ht1 h)),λh=>by cases h⟩,λh=> ?_⟩;obtain ⟨n1,a1⟩:=hf1 h;refine ⟨_,aG hs6.le he.c8,_,_,_,rfl,Fc,?_⟩;refine (ih _ _ ihx ihy sh E F6 _ he hs6 (λx' y' ix' iy' h hsz=> ?_)).mono ?_
   ·rcases a1 x' y' ix' iy' h with h|h
    ·rcases mem1 x' y' ix' iy' h with ⟨rfl,rfl⟩|h
     ·omega
     ·exact ho x' y' ix' iy' h (by omega)
    ·exact h
   rintro _ F7 ⟨h2,m2,rfl,hs7,ht2,hf2⟩;refine ⟨_,rfl,h2,m2,rfl,hs7,λh=>step.2 (.inr (ht2 h)),λh=> ?_⟩;obtain ⟨n2,a2⟩:=hf2 h;have nxy:¬hit x y both:=λhh=>(step.1 hh).elim n1 n2;refine ⟨nxy,λx' y' ix' iy' h=> ?_⟩;rcases a2 x' y' ix' iy' h with h|h
   ·rcases a1 x' y' ix' iy' h with h|h
    ·rcases mem1 x' y' ix' iy' h with ⟨rfl,rfl⟩|h
     ·exact .inr nxy
     ·exact .inl h
    ·exact .inr h
   ·exact .inr h
theorem Fd (ka:ta.ok) (kb:tb.ok) (fa:Fit ((aO ta).length+2)) (fb:Fit ((aO tb).length+2)):∀(n:Nat) (x y:Tr),x.sz+y.sz<=n->inn (aO ta) x->inn (aO tb) y->Kg ta tb both b3 b4 b5 b7 b8 b9 x y:=by
 intro n;induction n with
 |zero=>intro x y hn;have:=i6 x;omega
 |succ n ih=>
  intro x y hn ix iy E F m he hs ho;show aj prog 154 #[vi (num (aO ta) x),vi (num (aO tb) y),_,_,_,_,_] F _;refine N8 ?_;unfold Jc;have rest:x≠leaf false->(∀b,y=leaf b->b=both)->_:=λhx hy=>yR (b3:=b3) (b4:=b4) (b5:=b5) (b7:=b7) (b8:=b8) ka kb fa fb ix iy (λx' y' ix' iy' h=>ih x' y' (by omega) ix' iy') he hs ho hx hy;refine ⟨λh=> ?_,λh=> ?_⟩
  ·have e:x=leaf false:=bX (S:=aO ta) ix (.inl rfl) (by rw [kR];simpa using h);subst e;exact ⟨false,m,rfl,hs,λh=>(by cases h),λ_=>⟨λ⟨c,h,_⟩=>(by cases h),λx' y' _ _ h=> .inl h⟩⟩
  ·have hx:x≠leaf false:=λe=>h (by rw [e,kR];rfl);refine ⟨λh2=> ?_,λh2=>rest hx λb hb=> ?_⟩
   ·have hl:=jw (S:=aO tb) (t:=y) (by omega);cases y with
    |node _ _ _=>cases hl
    |leaf b=>
     have eb:decide ((num (aO tb) (leaf b):Int)=1)=b:=by rw [kR];cases b<;>simp
     refine ⟨_,rfl,both,aG hs.le he.c5,?_⟩;rw [eb];refine ⟨λh3=> ?_,λh3=>rest hx λb' hb'=> ?_⟩
     ·refine ⟨false,m,rfl,hs,λh=>(by cases h),λ_=>⟨λ⟨c,_,hc⟩=> ?_,λx' y' _ _ h=> .inl h⟩⟩;have hc':b=both:=hc;rw [hc'] at h3;simp at h3
     ·cases hb';simpa using h3
   ·rw [hb,kR] at h2;exfalso;revert h2;split<;>omega
end
open Classical in
noncomputable def wY (x y:Tr) (both:Bool):Bool:=decide (hit x y both)
theorem rz {x y:Tr} {both:Bool}:wY x y both=true↔hit x y both:=by unfold wY;simp
theorem yS {F:PH} {v w:Γ} {ta tb:Tr} {both:Bool} (ha:DV F v (dia ta)) (hb:DV F w (dia tb)) (ka:ta.ok) (kb:tb.ok) (fa:Fit ((aO ta).length+2)) (fb:Fit ((aO tb).length+2)):
  aj prog 96 #[.agg v,.agg w,.bool both] F λr F'=>r=.bool (wY ta tb both)/\F.le F':=by
 refine RJ ?_;unfold NX;intro b3 hb3;refine atI ?_;have l3:=ae (.cells v 31) hb3;have q3:=ak F b3 (.cells v 31);generalize F.set b3 (.cells v 31)=F3 at*;intro b4 hb4;refine atI ?_;have lx:=ae (.cells w 31) hb4;have q4:=ak F3 b4 (.cells w 31);replace q3:=lx _ _ q3;have l4:=l3.trans lx;clear lx;generalize F3.set b4 (.cells w 31)=F4 at*;intro b5 hb5;refine atI ?_;have lx:=ae (.cells #[Value.bool both] 4) hb5;have q5:=ak F4 b5 (.cells #[Value.bool both] 4);replace q3:=lx _ _ q3;replace q4:=lx _ _ q4;have l5:=l4.trans lx;clear lx;generalize F4.set b5 (.cells #[Value.bool both] 4)=F5 at*;intro b9 hb9;refine atI ?_;intro b7 hb7;refine atI ?_;refine st1 (ak _ _ _) (by simp) ?_;rw [ba,show (#[Value.map none].setIfInBounds (Addr.mk b7 0 none).off (Value.map (some b9)):Γ)= #[Value.map (some b9)] from rfl];intro b8 hb8;refine atI ?_;refine st1 (ak _ _ _) (by simp) ?_;rw [ba];have n97:b9≠b7:=aE hb7 (ak _ _ _);have n98:b9≠b8:=λe=>by rw [e] at hb8;rw [<- e,au _ _ n97,ak] at hb8;cases hb8
 have n78:b7≠b8:=aE hb8 (ak _ _ _);have h57:F5 b7=none:=by rw [au _ _ (Ne.symm n97)] at hb7;exact hb7
 have h58:F5 b8=none:=by rw [au _ _ (Ne.symm n78),au _ _ (Ne.symm n98)] at hb8;exact hb8
 have hE7:=ae (.cells #[Value.map (some b9)] 189) h57;have h78:(F5.set b7 (.cells #[Value.map (some b9)] 189)) b8=none:=by rw [au _ _ (Ne.symm n78)];exact h58
 have hE8:=hE7.trans (ae (.cells #[Value.func (.func 154) #[] (jf b3 b4 b5 b7 b8)] 190) h78);have e7:((F5.set b7 (.cells #[Value.map (some b9)] 189)).set b8 (.cells #[Value.func (.func 154) #[] (jf b3 b4 b5 b7 b8)] 190)) b7=some (.cells #[Value.map (some b9)] 189):=by rw [au _ _ n78,ak]
 have e8:=ak (F5.set b7 (.cells #[Value.map (some b9)] 189)) b8 (.cells #[Value.func (.func 154) #[] (jf b3 b4 b5 b7 b8)] 190);have e9:((F5.set b7 (.cells #[Value.map (some b9)] 189)).set b8 (.cells #[Value.func (.func 154) #[] (jf b3 b4 b5 b7 b8)] 190)) b9=none:=by rw [au _ _ n98,au _ _ n97];exact hb9
 have hs0:MS ((F5.set b7 (.cells #[Value.map (some b9)] 189)).set b8 (.cells #[Value.func (.func 154) #[] (jf b3 b4 b5 b7 b8)] 190))
   (((F5.set b9 (.map #[] 0)).set b7 (.cells #[Value.map (some b9)] 189)).set b8 (.cells #[Value.func (.func 154) #[] (jf b3 b4 b5 b7 b8)] 190)) b9 (λ_=>none):=by
  refine ⟨λz ob hz=> ?_,e9,⟨_,by rw [au _ _ n98,au _ _ n97,ak],dG.empty bK⟩,λk v h=>by cases h⟩;by_cases h8:z=b8
  ·subst h8;rw [ak] at hz ⊢;exact hz
  ·rw [au _ _ h8] at hz ⊢;by_cases h7:z=b7
   ·subst h7;rw [ak] at hz ⊢;exact hz
   ·rw [au _ _ h7] at hz ⊢;rw [au _ _ (aE hb9 hz)];exact hz
 rw [show (#[Value.nilFunc].setIfInBounds 0 (Value.func (.func 154) #[] #[.pointer (some ⟨b5,0,none⟩),.pointer (some ⟨b7,0,none⟩),.pointer (some ⟨b3,0,none⟩),.pointer (some ⟨b4,0,none⟩),.pointer (some ⟨b8,0,none⟩)]):Γ)= #[Value.func (.func 154) #[] (jf b3 b4 b5 b7 b8)] from rfl];generalize (F5.set b7 (.cells #[Value.map (some b9)] 189)).set b8 (.cells #[Value.func (.func 154) #[] (jf b3 b4 b5 b7 b8)] 190)=E at*;generalize ((F5.set b9 (.map #[] 0)).set b7 (.cells #[Value.map (some b9)] 189)).set b8 (.cells #[Value.func (.func 154) #[] (jf b3 b4 b5 b7 b8)] 190)=F8 at*;have lE:=l5.trans hE8;have he:ME E ta tb both b3 b4 b5 b7 b8 b9:=⟨⟨v,ac (hE8 _ _ q3),ha.le lE⟩,⟨w,ac (hE8 _ _ q4),hb.le lE⟩,by rw [am (hE8 _ _ q5)];rfl,by rw [am e7];rfl,by rw [am e8];rfl⟩;have ha':=ha;have hb':=hb;obtain ⟨s,rfl,_⟩:=ha;obtain ⟨u,rfl,_⟩:=hb;refine ⟨_,aG hs0.le he.c8,(num (aO ta) ta:Int),by rw [am (hs0.le _ _ (hE8 _ _ q3))];rfl,(num (aO tb) tb:Int),by rw [am (hs0.le _ _ (hE8 _ _ q4))];rfl,_,_,_,rfl,Fc,?_⟩;refine (Fd ka kb fa fb _ ta tb (Tj _) (bH ka) (bH kb) E F8 _ he hs0 (λx y _ _ h=>absurd rfl h)).mono ?_;rintro _ F9 ⟨h,m',rfl,hs9,ht,hf⟩;refine ⟨_,rfl,?_,lE.trans hs9.le⟩;cases h with
 |true=>rw [rz.2 (ht rfl)]
 |false=>rw [T5.2 λhc=>(hf rfl).1 (rz.1 hc)]
section
variable {F:PH} {v w:Γ} {a b:Dia}
noncomputable def tG (a b:Dia) (both:Bool):Bool:=if km [a,b]≠0 then false else !wY (tre a) (tre b) both
theorem wZ (ha:DV F v a) (hb:DV F w b):aj prog 37 #[.agg v,.agg w] F λr F'=>r=.bool (tG a b false)/\F.le F':=by
 have ha':=ha;have hb':=hb;obtain ⟨s,rfl,hr⟩:=ha;obtain ⟨t,rfl,ht⟩:=hb;refine Rz ?_;unfold NR;intro b3 hb3;refine atI ?_;have l3:=ae (.cells #[s.v,vi a.2] 31) hb3;have q3:=ak F b3 (.cells #[s.v,vi a.2] 31);generalize F.set b3 (.cells #[s.v,vi a.2] 31)=F3 at*;intro b4 hb4;refine atI ?_;have lx:=ae (.cells #[t.v,vi b.2] 31) hb4;have q4:=ak F3 b4 (.cells #[t.v,vi b.2] 31);replace q3:=lx _ _ q3;have l4:=l3.trans lx;clear lx;generalize F3.set b4 (.cells #[t.v,vi b.2] 31)=F4 at*;refine ⟨#[s.v,vi a.2],rfl,ac q3,#[t.v,vi b.2],rfl,ac q4,rfl,rfl,λb11 hb11=> ?_⟩;refine atI ?_;have e11:wr (wr (#[Value.slice none 0 0,vi 0,Value.slice none 0 0,vi 0]:Γ) 0 (#[s.v,vi a.2]:Γ).toList) 2 (#[t.v,vi b.2]:Γ).toList= #[s.v,vi a.2,t.v,vi b.2]:=rfl;rw [e11];have lx:=ae (.cells #[s.v,vi a.2,t.v,vi b.2] 31) hb11;have q11:=ak F4 b11 (.cells #[s.v,vi a.2,t.v,vi b.2] 31);replace q3:=lx _ _ q3;replace q4:=lx _ _ q4;have l11:=l4.trans lx;clear lx;generalize F4.set b11 (.cells #[s.v,vi a.2,t.v,vi b.2] 31)=F7 at*;refine (nS (F:=F7) (x:=b11) (dd:=[a,b]) (n:=2) rfl (by omega) (λi hi=> ?_)).mono ?_
 ·have row:∀(j:Nat) (s':Sl) (r:Int),(#[s.v,vi a.2,t.v,vi b.2]:Γ)[j]? =some s'.v->(#[s.v,vi a.2,t.v,vi b.2]:Γ)[j+1]? =some (vi r)->F7.row ⟨b11,j,none⟩ #[s'.v,vi r]:=λj s' r h1 h2 i hi=>by
   simp only [aC];rw [am q11]
   match i,hi with
   |0,_=>simpa using h1
   |1,_=>simpa using h2
  match i,hi with
  |0,_=>exact ⟨_,row 0 s _ rfl rfl,ha'.le l11⟩
  |1,_=>exact ⟨_,row 2 t _ rfl rfl,hb'.le l11⟩
 rintro _ F8 ⟨rfl,l8⟩;replace q3:=l8 _ _ q3;replace q4:=l8 _ _ q4;have l18:=l11.trans l8;refine ⟨_,rfl,λhc=> ?_,λhc=> ?_⟩
 ·obtain ⟨hca,hcb⟩:=JB (a:=a) (b:=b) (by omega);obtain ⟨ka,ea,la⟩:=Ec hca;obtain ⟨kb,eb,lb⟩:=Ec hcb;have sa:=ln hca;have sb:=ln hcb;refine ⟨#[s.v,vi a.2],rfl,ac q3,#[t.v,vi b.2],rfl,ac q4,?_⟩;have da:DV F8 #[s.v,vi a.2] (dia (tre a)):=by rw [<- ea];exact ha'.le l18
  have db:DV F8 #[t.v,vi b.2] (dia (tre b)):=by rw [<- eb];exact hb'.le l18
  have hm:tG a b false= !wY (tre a) (tre b) false:=by unfold tG;rw [if_neg (by omega)]
  rw [hm];refine (yS (both:=false) da db ka kb (by omega) (by omega)).mono ?_;rintro _ F9 ⟨rfl,l9⟩;exact ⟨_,rfl,rfl,l18.trans l9⟩
 ·refine ⟨?_,l18⟩;unfold tG;rw [if_pos hc]
end
theorem Fe {a b:Tr} {both:Bool} (ha:gc a) (hb:gc b):tG (dia a) (dia b) both= !wY a b both:=by unfold tG;rw [if_neg (by rw [nP ha hb];simp),fD ha.1,fD hb.1]
theorem rA {k:Nat} {a b:Tr} {u w:Γ} {F:PH} (hk:k<=6) (ha:Sx k a) (hb:Sx k b) (hu:DV F u (dia a)) (hw:DV F w (dia b)) (h:∀c,a.ev c=true->b.ev c=true):aj prog 37 #[.agg u,.agg w] F λr F'=>r=.bool true/\F.le F':=by
 refine (wZ hu hw).mono ?_;rintro r F' ⟨rfl,l⟩;refine ⟨?_,l⟩;rw [Fe (ha.small hk) (hb.small hk)];have:wY a b false=false:=by
  cases e:wY a b false with
  |false=>rfl
  |true=>obtain ⟨c,h1,h2⟩:=rz.1 e;rw [h c h1] at h2;cases h2
 rw [this];rfl
section
end
theorem P7:∃b z,SlT 39 31 2 b z:=⟨_,_,underlying39,KC,Dh,rfl,by decide,by decide⟩
theorem ma {α:Type} (q:Nat->Bool) (l:List α) {i:Nat} {x:α} (hx:l[i]? =some x):kep q 0 (l.take (i+1))=kep q 0 (l.take i)++if q i=true then [x] else []:=by have hi:=(N5.1 hx).1;rw [Uj,hx,show (some x).toList=[x] from rfl,wX,Tz,TA,Nat.min_eq_left (by omega)]
section
variable {F G F1:PH} {k:Nat}
theorem Mf {w hw:Γ} {g:Gr} {U D:Nat->Tr} {b6 b11:Nat} {rest:Sl} {q:Nat->Bool} (lF:F.le G) (hT:Tab G) (q6:G b6=some (.cells w 37)) (hg:GV G w g) (q11:G b11=some (.cells hw 37)) (hh:GV G hw (fW g q))
  (hz:Sz g) (hk:OkK g k) (hrl:∀x∈g.prods,x.right.length<=1000000) (hn:(g.prods.map Pr.name).Nodup) (hn0:g.nons.length≠0) (hst:g.start=0)
  (hU:rP k g.prods (aF g) (tre g.fam) g.start U) (hq:∀i,i<g.prods.length->(q i=true↔U i≠leaf false)) (hr:RL G rest (kep q 0 (kF U g.prods.length)))
  (h:St G F1 []):FT true b6 b11 rest (RT6 F) F1:=by
 unfold FT;have hkc:OkK (fW g q) k:=hk.cut hn;have hzc:Sz (fW g q):=⟨hz.c,hz.t,λl hl=>(by cases hl),λl hl=>(by cases hl)⟩;have hsub:=(pv q g.prods 0);have hrlc:∀x∈(fW g q).prods,x.right.length<=1000000:=λx hx=>hrl x (hsub.subset hx);obtain ⟨o1,o2,o3,o4⟩:=dz hk.ok;obtain ⟨u1,u2,u3,u4⟩:=dz hkc.ok;have hk6:=hk.le;have r6:∀{G' F':PH} {As:List (Ψ)},G.le G'->St G' F' As->F'.row (Addr.mk b6 0 none) w:=λl h=>ac (h.le _ _ (l _ _ q6));have r11:∀{G' F':PH} {As:List (Ψ)},G.le G'->St G' F' As->F'.row (Addr.mk b11 0 none) hw:=λl h=>ac (h.le _ _ (l _ _ q11));refine ⟨hw,hh.size,r11 (aq _) h,?_⟩;refine h.run (kG hT hh hzc hkc hrlc (by omega)) λ_ G2 F2 hr2 l2 h=> ?_;obtain ⟨sv,_,rfl,⟨V,hV,rfl⟩,hsv⟩:=hr2;refine ⟨sv,_,rfl,w,hg.size,r6 l2 h,?_⟩;refine h.run (nj (hT.le l2) (hg.le l2) hz hk hrl (by omega) (by omega) (by omega)) λ_ G3 F3 hr3 l3 h=> ?_;obtain ⟨s1,_,rfl,⟨S1,hS1,rfl⟩,hs1⟩:=hr3;have m3:=aa l2 l3;refine ⟨s1,_,rfl,hw,hh.size,r11 m3 h,?_⟩;refine h.run (nj (hT.le m3) (hh.le m3) hzc hkc hrlc (by omega) (by omega) (by omega)) λ_ G4 F4 hr4 l4 h=> ?_;obtain ⟨s2,_,rfl,⟨S2,hS2,rfl⟩,hs2⟩:=hr4;have m4:=aa m3 l4;refine ⟨s2,_,rfl,w,hg.size,r6 m4 h,?_⟩;refine h.run (iw (hT.le m4) (hg.le m4) hz hk hrl (by omega) (by omega)) λ_ G5 F5 hr5 l5 h=> ?_;obtain ⟨s3,N1,rfl,hN1,hs3⟩:=hr5;have m5:=aa m4 l5;refine ⟨s3,_,rfl,hw,hh.size,r11 m5 h,?_⟩;refine h.run (iw (hT.le m5) (hh.le m5) hzc hkc hrlc (by omega) (by omega)) λ_ G6 F6 hr6 l6 h=> ?_;obtain ⟨s4,N2,rfl,hN2,hs4⟩:=hr6;have m6:=aa m5 l6;refine ⟨s4,_,rfl,λhne=>absurd rfl hne,λ_=>⟨λhne=>absurd rfl hne,λ_=>⟨λhne=>absurd rfl hne,λ_=> ?_⟩⟩⟩;have e1:=hs1.len (by decide);have e2:=hs2.len (by decide);have e3:=hs3.len (by decide);have e4:=hs4.len (by decide);rw [tL] at e1 e2;rw [rC] at e3 e4;have e2:s2.len=g.nons.length:=e2;have e4:s4.len=g.nons.length:=e4;have e0:∀{F':PH},F'.row (Addr.mk b6 0 none) w->F'.cell (Addr.mk b6 6 none)=some (vi 0):=λ{F'} hrow=>by obtain ⟨c,n,t,s,p,l,f,rfl,_⟩:=id hg;have:=bM hrow (i:=6) (v:=vi g.start) rfl;rw [hst] at this;exact this
 have c0:∀{G' F':PH} {As:List (Ψ)},G.le G'->St G' F' As->F'.cell (Addr.mk b6 6 none)=some (vi 0):=λl h=>e0 (r6 l h);refine ⟨0,c0 m6 h,λhle=>absurd hle (by omega),λ_=>⟨0,c0 m6 h,λhle=>absurd hle (by omega),λ_=>⟨0,c0 m6 h,λhle=>absurd hle (by omega),λ_=>⟨0,c0 m6 h,λhle=>absurd hle (by omega),λ_=>⟨λ_=> ?_,λhn=>(by cases hn)⟩⟩⟩⟩⟩;have hlist:=E9 hU hq hV;refine h.runv (cW (hsv.le (aa l3 (aa l4 (aa l5 l6)))) (hr.le m6) (λd hd=> ?_) (by rw [gU];omega)) λG7 F7 l7 h=>⟨_,rfl,λ_=> ?_,λhn=> ?_⟩
 ·obtain ⟨i,_,rfl⟩:=Tw.1 hd;exact iz (hV.sx i) hk6
 ·have m7:=aa m6 l7;refine ⟨0,c0 m7 h,?_⟩;refine ixc (hs1.le (aa l4 (aa l5 (aa l6 l7)))) (by decide) (by omega) (by omega) λa1 c1 row1 hw1 hrow1 hc1=> ?_;obtain ⟨t1,rfl,ht1⟩:=hc1;refine ⟨t1,aU (aT h.le hrow1) rfl,0,c0 m7 h,?_⟩;refine ixc (hs2.le (aa l5 (aa l6 l7))) (by decide) (by omega) (by omega) λa2 c2 row2 hw2 hrow2 hc2=> ?_;obtain ⟨t2,rfl,ht2⟩:=hc2;refine ⟨t2,aU (aT h.le hrow2) rfl,?_⟩;have hp:0<g.nons.length:=UB hn0;have hr1:row1=ni S1 g.toks.length 0:=by unfold jh at hw1;rw [show Int.toNat 0=0 from rfl,Tx,T1 hp] at hw1;exact (TG hw1).symm
  have hr2:row2=ni S2 g.toks.length 0:=by unfold jh at hw2;rw [show Int.toNat 0=0 from rfl,Tx,T1 (show 0<(fW g q).nons.length from hp)] at hw2;exact (TG hw2).symm
  have erow:row1=row2:=by rw [hr1,hr2];unfold ni;refine UH λt _=> ?_;congr 1;refine cS (hS1.sx _).1 (hS2.sx _).1 λc=>Tp.2 ?_;rw [hS1.iff,hS2.iff];have:=HP hk hU hq (c:=c) (t:=(t:Int));rw [hst] at this;exact this
  refine h.runv (cW ht1 ht2 (λd hd=> ?_) (by rw [hr1];unfold ni;rw [Tu,TW];omega)) λG8 F8 l8 h=>⟨_,rfl,c0 (aa m7 l8) h,c0 (aa m7 l8) h,λ_=> ?_,λhn=> ?_⟩
  ·rw [hr1] at hd;obtain ⟨i,_,rfl⟩:=Tw.1 hd;exact iz (hS1.sx _) hk6
  ·have m8:=aa m7 l8;refine ⟨0,c0 m8 h,?_⟩;refine ixc (hs3.le (aa l6 (aa l7 l8))) (by decide) (by omega) (by omega) λa3 c3 d3 hw3 hrow3 hc3=> ?_;refine ⟨c3,Mem.len hc3,aT h.le hrow3,0,c0 m8 h,?_⟩;refine ixc (hs4.le (aa l7 l8)) (by decide) (by omega) (by omega) λa4 c4 d4 hw4 hrow4 hc4=> ?_;refine ⟨c4,Mem.len hc4,aT h.le hrow4,?_⟩;rw [rB (by omega) (by omega)] at hw3;rw [rB (by omega) (by show (0:Int)<(g.nons.length:Nat);omega)] at hw4;cases hw3;cases hw4
   have eN:N1 0=N2 0:=cS (hN1.sx _).1 (hN2.sx _).1 λc=>Tp.2 (by
    rw [hN1.iff,hN2.iff];have:=HO hk hU hq (c:=c) (st:=true);rw [hst] at this
    exact this)
   refine h.runv (gL (show DV G8 c3 (dia (N1 0)) from hc3) (show DV G8 c4 (dia (N2 0)) from hc4) (iz (hN1.sx 0) hk6)) λG9 F9 l9 h=>⟨_,rfl,?_⟩;have m9:=aa m8 l9;refine ⟨c0 m9 h,c0 m9 h,c0 m9 h,c0 m9 h,?_,aa lF (aa m9 h.le)⟩;rw [eN,decide_eq_true rfl]
  ·rw [decide_eq_true erow] at hn;cases hn
 ·rw [decide_eq_true hlist] at hn;cases hn
theorem vd {v:Γ} {x:Rw} {sm:Sl} {more:List Ln} (hT:Tab F) (hx:xE F v x) (hm:RL F sm more):aj prog 8 #[.agg v,sm.v] F (RT6 F):=by
 obtain ⟨_,_,TP⟩:=Kh;obtain ⟨_,_,TD⟩:=P7;refine cQ8 ?_;unfold bQ8;have hvs:v.size=5:=by obtain ⟨⟨a,b,c,rfl,_⟩,_⟩:=hx;rfl
 refine (St.start F).newG λb2 G1 F1 l1 q2 _ h=> ?_;refine h.runv (Ig (hT.le l1)) λG2 F2 l2 h=>⟨_,rfl,v,hvs,ac (h.le _ _ (l2 _ _ q2)),?_⟩;have l02:=aa l1 l2;refine h.run (P:=λr G'=>∃w,r=.agg w/\GV G' w (fR x more)) (y4 (hx.le l02) (hm.le l02)) λ_ G3 F3 hr l3 h=> ?_;obtain ⟨w,rfl,hg⟩:=hr;have l03:=aa l02 l3;refine ⟨w,rfl,?_⟩;have lg:=Fj x more;have hok:=(lg.ok (by omega)).bare;have hz0:=lg.mg.sz lg.bd;have hrl:=lg.rl;have hnd:=lg.mg.names.1;have hst:=lg.mg.start;have hn0:=lg.bd.n0;generalize fR x more=g at*;clear lg;obtain ⟨c,n,t,s,p,l,f,rfl,hs⟩:=hg;have hz:Sz (gi g):=⟨hz0.c,hz0.t,λl hl=>(by cases hl),λl hl=>(by cases hl)⟩;refine h.new λb6 F4 h=> ?_;refine h.put0 (w':=g.arr c n t s p l f) rfl rfl (by simp [al,Sl.v]) λF5 h=> ?_;refine h.set0 (w':=g.arr c n t s p Sl.nil f) (by show 7<9;decide) rfl λF6 h=> ?_;refine h.set0 (w':=(gi g).arr c n t s p Sl.nil Sl.nil) (by show 8<9;decide) rfl λF7 h=> ?_;obtain ⟨G4,l4,q6,h9⟩:=h.pinE;have hs4:=hs.le l4;replace hs:GS G4 (gi g) c n t s p Sl.nil Sl.nil:=⟨hs4.c,hs4.n,hs4.t,hs4.s,hs4.p,RL.nil _,RL.nil _⟩;clear hs4;have l04:=aa l03 l4;have hrl:∀x∈(gi g).prods,x.right.length<=1000000:=hrl;have hnd:((gi g).prods.map Pr.name).Nodup:=hnd;have hst:(gi g).start=0:=hst;have hn0:(gi g).nons.length≠0:=hn0;have hlv:(gi g).lvs=[]:=rfl;have hfi:(gi g).fils=[]:=rfl;replace hok:OkK (gi g) g.conds.length:=hok;generalize g.conds.length=k at*;generalize gi g=g at*;have h:=h9;clear h9;have hg:GV G4 (g.arr c n t s p Sl.nil Sl.nil) g:=⟨c,n,t,s,p,Sl.nil,Sl.nil,rfl,hs⟩;obtain ⟨o1,o2,o3,o4⟩:=dz hok.ok;have hk:=hok.le;have es:=hs.s.len (by decide);have ep:=hs.p.len (by decide);have r6:∀{G' F':PH} {As:List (Ψ)},G4.le G'->St G' F' As->F'.row (Addr.mk b6 0 none) (g.arr c n t s p Sl.nil Sl.nil):=λl h=>ac (h.le _ _ (l _ _ q6));refine ⟨_,rfl,r6 (aq _) h,?_⟩;refine h.run (jk (hT.le l04) hg hz hok hrl (by omega) (by omega)) λ_ G5 F8 hr l5 h=> ?_;obtain ⟨sd,D,rfl,hD,hsd⟩:=hr;refine ⟨sd,_,rfl,_,rfl,r6 l5 h,?_⟩;refine h.run (kG (hT.le (aa l04 l5)) (hg.le l5) hz hok hrl (by omega)) λ_ G6 F9 hr l6 h=> ?_;obtain ⟨su,_,rfl,⟨U,hU,rfl⟩,hsu⟩:=hr;have l46:=aa l5 l6;replace hsd:=hsd.le l6;have ed:=hsd.len (by decide);have eu:=hsu.len (by decide);rw [rC] at ed;rw [gU] at eu;refine ⟨su,_,rfl,λhne=>absurd rfl hne,λ_=>⟨λhne=>absurd rfl hne,λ_=>⟨p,ld (h.le _ _ (l46 _ _ q6)) rfl,λhne=>absurd (by rw [eu,ep]) hne,λ_=>⟨s,ld (h.le _ _ (l46 _ _ q6)) rfl,λhne=>absurd (by rw [ed,es]) hne,λ_=> ?_⟩⟩⟩⟩;refine ⟨_,rfl,r6 l46 h,?_⟩;refine h.new λb11 F10 h=> ?_;refine h.put0 (w':=g.arr c n t s p Sl.nil Sl.nil) rfl rfl (by simp [al,Sl.v]) λF11 h=> ?_;refine h.set0 (w':=g.arr c n t s Sl.nil Sl.nil Sl.nil) (by show 5<9;decide) rfl λF12 h=> ?_;have h:=(h.nilOwn 31 2);have h:=(h.nilOwn 55 13)
 let q:Nat->Bool:=λi=>decide (U i≠leaf false)
 have hq:∀i,q i=true↔U i≠leaf false:=λi=>decide_eq_true_iff
 clear_value q
 have hUm:∀i c,i<g.prods.length->(U i).ev c=true->Use g.prods (aF g) (tre g.fam) g.start c i:=λi c hi hc=>(hU.iff i c hi).1 hc
 refine ⟨λm r i F'=>∃(j:Nat) (G':PH) (s':Sl) (vs ws:List Γ),i=j/\j<=g.prods.length/\m=g.prods.length - j/\G6.le G'/\cO G' (kep q 0 (g.prods.take j)) vs/\cO G' (kep q 0 ((kF U g.prods.length).take j)) ws/\s'.len<=j/\r.len<=j/\
   St G' F' [own s' 55 13 (cat vs),own r 31 2 (cat ws),pt b11 (.cells (g.arr c n t s s' Sl.nil Sl.nil) 37)],g.prods.length,⟨0,G6,Sl.nil,[],[],rfl,Nat.zero_le _,rfl,aq _,.nil,.nil,Tj _,Tj _,h⟩,?_⟩
 rintro _ rest _ F13 ⟨j,G7,s',vs,ws,rfl,hj,rfl,l7,hvs',hws,hl1,hl2,h⟩;have l47:=aa l46 l7;have l07:=aa l04 l47;unfold Kn;refine ⟨λhlt=> ?_,λhge=> ?_⟩
 ·have hlt:j<g.prods.length:=by omega
  obtain ⟨x,hx⟩:∃x,g.prods[j]? =some x:=⟨_,N4 hlt⟩;have atU:∀{G' F':PH} {As:List (Ψ)},G7.le G'->St G' F' As->∀{K:Addr->Prop},(∀a (y:Γ),F'.row (a.add (Int.toNat (j:Int)*2)) y->G'.row (a.add (Int.toNat (j:Int)*2)) y->DV G' y (dia (U j))->K a)->∃a,su.base=some a/\0<=(j:Int)/\(j:Int)<(su.len:Int)/\K a:=λ{G' F' As} l h {K} kk=>
   ixc (hsu.le (aa l7 l)) (by decide) (by omega) (by omega) λa y d hd hrow hc=>by rw [N6,jl hlt] at hd;cases hd;exact kk a y (aT h.le hrow) hrow hc
  refine atU (aq _) h λa72 y72 hr72 hg72 hd72=>⟨y72,hd72.size,hr72,_,rfl,r6 l47 h,?_⟩;refine h.run (y5 (st:=false) (hg.le l47) hok hx hD.sx (hsd.le l7)) λ_ G8 F14 hr l8 h=> ?_;obtain ⟨z,rfl,hz1⟩:=hr;refine ⟨z,rfl,aT (aa l8 h.le) hg72,?_⟩;have hw1:∀c,(U j).ev c=true->(jg D false (aF g j) x.right).ev c=true:=λc hc=>by obtain ⟨x',hx',hp,_,hd⟩:=hUm j c hlt hc;rw [hx] at hx';cases hx';rw [(eM hD.sx x.right (hok.prs j)).2];exact ⟨hp,λs hs=>⟨λ_=>rfl,λht=>(hD.iff _ _).2 (hd s hs ht)⟩⟩
  refine h.runv (rA hk (hU.sx j) (eM hD.sx x.right (hok.prs j)).1 (hd72.le l8) hz1 hw1) λG9 F15 l9 h=>⟨_,rfl,λhn=>(by cases hn),λ_=> ?_⟩;have l79:=aa l8 l9;have l49:=aa l47 l79;refine atU l79 h λa83 y83 hr83 hg83 hd83=>⟨y83,hd83.size,hr83,#[n.v,vi g.fam.2],rfl,lf (h.le _ _ (l49 _ _ q6)) rfl,?_⟩;have hfam:=hok.fam;have dF:DV G9 #[n.v,vi g.fam.2] (dia (tre g.fam)):=by rw [<- hfam.2];exact DV.mk (hs.n.le l49)
  have hw2:∀c,(U j).ev c=true->(tre g.fam).ev c=true:=λc hc=>by obtain ⟨x',hx',hp,_,hd⟩:=hUm j c hlt hc;exact hok.fam_of hp
  refine h.runv (rA hk (hU.sx j) hfam.1 hd83 dF hw2) λG10 F16 l10 h=>⟨_,rfl,λhn=>(by cases hn),λ_=> ?_⟩;have l710:=aa l79 l10;have l410:=aa l47 l710;refine atU l710 h λa92 y92 hr92 hg92 hd92=> ?_;obtain ⟨sl92,rfl,hsl92⟩:=id hd92;refine ⟨(dia (U j)).2,bM hr92 (i:=1) rfl,λhne=> ?_,λhe=> ?_⟩
  ·have hqj:q j=true:=(hq j).2 λe=>hne ((dN (hU.sx j).1).2 e);refine ⟨s',ld (h.ptAt (i:=2) rfl) rfl,p,ld (h.le _ _ (l410 _ _ q6)) rfl,?_⟩;refine ixc (hs.p.le l410) (by decide) (by omega) (by omega) λa101 y101 x' hx' hrow hy101=> ?_;rw [N6,hx] at hx';cases hx';refine ⟨y101,Mem.len hy101,aT h.le hrow,Mem.len hy101,?_⟩;refine h.push0 TP (c:=y101) (Mem.len hy101) (Mem.st hy101) (by omega) λs1 G11 F17 l11 h hls1=> ?_;refine ⟨ld (h.le _ _ (l11 _ _ (l410 _ _ q6))) rfl,?_⟩;refine h.set2 (w':=g.arr c n t s s1 Sl.nil Sl.nil) (by show 5<9;decide) rfl λF18 h=> ?_;refine atU (aa l710 l11) h λa109 y109 hr109 hg109 hd109=>⟨y109,hd109.size,hr109,hd109.size,?_⟩;refine h.push1 TD (c:=y109) hd109.size hd109.st (by omega) λr1 G12 F19 l12 h hlr1=> ?_;unfold Bm;rw [aH hlt (by omega)];have l1012:=aa l11 l12;have ek1:=ma q g.prods hx;have ek2:=ma q (kF U g.prods.length) (jl (U:=U) hlt);rw [if_pos hqj] at ek1 ek2;refine ⟨g.prods.length - (j+1),by omega,j+1,G12,s1,vs++[y101],ws++[y109],by omega,by omega,rfl,aa l7 (aa l710 l1012),?_,?_,by omega,by omega,?_⟩
   ·rw [ek1];exact (hvs'.le (aa l710 l1012)).append (.cons (Mem.le l1012 hy101) .nil)
   ·rw [ek2];exact (hws.le (aa l710 l1012)).append (.cons (hd109.le l12) .nil)
   ·rw [bQ,cn,bQ,cn];exact h
  ·have hqj:¬q j=true:=λe=>(hq j).1 e ((dN (hU.sx j).1).1 (Decidable.not_not.1 he));unfold Bm;rw [aH hlt (by omega)];have ek1:=ma q g.prods hx;have ek2:=ma q (kF U g.prods.length) (jl (U:=U) hlt);rw [if_neg hqj,T0] at ek1 ek2;refine ⟨g.prods.length - (j+1),by omega,j+1,G10,s',vs,ws,by omega,by omega,rfl,aa l7 l710,?_,?_,by omega,by omega,h⟩
   ·rw [ek1];exact hvs'.le l710
   ·rw [ek2];exact hws.le l710
 ·have e:j=g.prods.length:=by omega
  subst e;rw [Ts (Tj _)] at hvs';rw [Ts (by rw [gU];exact Tj _)] at hws;obtain ⟨G8,l8,hd8,h⟩:=h.pinO;obtain ⟨G9,l9,hd9,h⟩:=h.pinO;obtain ⟨G10,l10,q11,h⟩:=h.pinE;have l810:=aa l9 l10;have l710:=aa l8 l810;have l410:=aa l47 l710;have hs10:=hs.le l410;have hh:GV G10 (g.arr c n t s s' Sl.nil Sl.nil) (fW g q):=⟨c,n,t,s,s',Sl.nil,Sl.nil,rfl,⟨hs10.c,hs10.n,hs10.t,hs10.s,⟨vs,hvs'.le l710,hd8.le l810⟩,RL.nil _,RL.nil _⟩⟩;exact Mf (U:=U) (D:=λ_=>leaf false) (aa l07 l710) (hT.le (aa l07 l710)) (l410 _ _ q6) (hg.le l410) q11 hh hz hok hrl hnd hn0 hst hU (λi _=>hq i) ⟨ws,hws.le l710,hd9.le l10⟩ h
end
end Go.Proofs.YtcemhghkipgdiaaGreatDoor
