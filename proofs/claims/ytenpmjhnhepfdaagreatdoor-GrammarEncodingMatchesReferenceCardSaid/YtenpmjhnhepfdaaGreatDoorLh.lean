/-
  The reference: a grammar as a row of numbers, tokens and productions.
-/
import Derived.Test.YtenpmjhnhepfdaaGreatDoorLb
import Derived.Test.YtenpmjhnhepfdaaGreatDoorGkoinelaw05
import Derived.Test.YtenpmjhnhepfdaaGreatDoorTc
import Derived.Test.YtenpmjhnhepfdaaGreatDoorHp
import Derived.Test.YtenpmjhnhepfdaaGreatDoorLg
namespace Go.Proofs.YtenpmjhnhepfdaaGreatDoor
open Go Go.Proofs.Tryz Tr
set_option maxRecDepth 10000
section
variable {F:PH}
theorem yl {x:Pr}:qo x=true↔xr x:= @decide_eq_true_iff _ (Classical.propDecidable _)
theorem Ez {v:Γ} {g:Gr} (hg:GV F v g) (hz:Sml g) (hlg:bN g=false):ae prog 134 #[.agg v] F λr F'=>r=vi (bU g [] g.prods)/\F.le F':=by
 have hg0:=hg;obtain ⟨c,n,t,s,p,l,f,rfl,hs⟩:=hg;have ec:=hs.c.len (by decide);have ep:=hs.p.len (by decide);have hcl:=hz.m.p;obtain ⟨_,_,_,_,_,_,hR⟩:=eE hlg;refine UT ?_;unfold NL;refine (St.start F).newG λb1 G1 F1 l1 q1 _ h=> ?_;refine h.new λb6 F2 h=> ?_;have h:=h.imp (A':=own (Sl.mk (some (Addr.mk b6 0 none)) 0 0) 9 1 []) 0 rfl λH _ hH=>cD hH
 refine ⟨λm nm i F'=>∃(k:Nat) (G:PH),i=(k:Int)/\m=g.prods.length - k/\k<=g.prods.length/\G1.le G/\St G F' [own nm 9 1 (((g.prods.take k).map Pr.name).map Value.string)]/\bU g [] g.prods=bU g ((g.prods.take k).map Pr.name) (g.prods.drop k),g.prods.length,
  ⟨0,G1,rfl,rfl,by omega,am _,h,rfl⟩,?_⟩
 rintro m nm i F3 ⟨k,G,rfl,rfl,hk,lG,h,hE⟩;have l1G:=aa l1 lG;unfold CU;refine ⟨_,ld (h.le _ _ (lG _ _ q1)) rfl,λhlt=> ?_,λhge=> ?_⟩
 ·have hlt:k<g.prods.length:=by omega
  refine ⟨_,ld (h.le _ _ (lG _ _ q1)) rfl,h.ix (hs.p.le l1G) (by decide) (by omega) (by omega) λa cc x hx hr hc=> ?_⟩;rw [N5] at hx;have hxm:=XG hx;rw [bP hx,bU] at hE;obtain ⟨hri,hla⟩:=hR x hxm;have hxc:=hz.p x hxm;refine ⟨_,Mem.len hc,hr,?_⟩;refine h.var (Mem.st hc) (λb5 G5 F5 l5 q5 h=> ?_) rfl (Mem.len hc);have lG5:=aa lG l5;have l1F:=aa l1 lG5;have hc0:=Mem.le l5 hc;obtain ⟨rr,rn,rl,rfl,hr1,hr2,hr3⟩:=id hc0;have e50:¬dh g x->∀{F':PH},F.le F'->(vi 50=vi (bU g [] g.prods)/\F.le F'):=λhn F' hl=>⟨by rw [hE,if_pos hn],hl⟩;refine ⟨_,rfl,aj (h.le _ _ (lG5 _ _ q1)),_,rfl,aj (h.le _ _ q5),?_⟩;refine (yq (hg0.le (aa l1F h.le)) (Mem.le h.le hc0) (by omega)).mono ?_;rintro _ F6 ⟨⟨b,rfl,hb⟩,l6⟩;have h:=h.up l6;refine ⟨b,rfl,λhn=>e50 (λho=>by rw [hb.2 ho] at hn;cases hn) (aa l1F h.le),λhsy=> ?_⟩;have hSy:=hb.1 (cJ hsy);rw [if_neg (not_not_intro hSy)] at hE;have e52:¬sT g ((g.prods.take k).map Pr.name) x->∀{F':PH},F.le F'->(vi 52=vi (bU g [] g.prods)/\F.le F'):=λhn F' hl=>⟨by rw [hE,if_pos hn],hl⟩;refine ⟨_,ld (h.le _ _ q5) rfl,?_⟩;refine sN h x.name (by rw [XH,XL];omega) λs' G' F7 lG' h hrl=> ?_;have hnx:((g.prods.take k).map Pr.name++[x.name])[k]? =some x.name:=by rw [Yb (by rw [XH,XL];omega),XH,XL,Nat.min_eq_left hk,Nat.sub_self];rfl
  have htk:((g.prods.take k).map Pr.name++[x.name]).take k=(g.prods.take k).map Pr.name:=by rw [XW (by rw [XH,XL];omega),XK (by rw [XH,XL];omega)]
  refine (jV hrl (by rw [N3,XH,XL,XJ];omega) hnx).mono ?_;rintro _ F8 ⟨⟨b2,rfl,hb2⟩,l8⟩;rw [htk] at hb2;have h:=h.up l8;have l1':=aa l1F lG';refine ⟨b2,rfl,λhn=>e52 (λho=>by rw [hb2.2 ⟨ho.1,ho.2.1⟩] at hn;cases hn) (aa l1' h.le),λhnw=>⟨#[rn.v,vi x.cond.2],rfl,fo (h.le _ _ (lG' _ _ q5)) rfl,_,ld (h.le _ _ (lG' _ _ (lG5 _ _ q1))) rfl,?_⟩⟩;have hNw:=hb2.1 (cJ hnw);dsimp only;rw [ec];refine (iU (d:=x.cond) (DV.mk (hr2.le (aa lG' h.le))) (by unfold Fit;omega) hxc).mono ?_;rintro _ F9 ⟨rfl,l9⟩;have h:=h.up l9;have q5':=h.le _ _ (lG' _ _ q5);have lF9:=aa l1' h.le;refine ⟨_,rfl,λhn=>e52 (λho=>by rw [bv.2 ho.2.2.1] at hn;cases hn) lF9,λhft=>⟨_,ld q5' rfl,λhn=>e52 (λho=>by have:=ho.2.2.2.1;omega) lF9,λhr0=>⟨_,ld q5' rfl,λhn=>e52 (λho=>by have:=ho.2.2.2.2.1;omega) lF9,λhr9=>⟨_,rfl,aj q5',?_⟩⟩⟩⟩;have hFt:=bv.1 (cJ hft);refine (oE (Mem.le (aa lG' h.le) hc0) (by omega) (by omega)).mono ?_;rintro _ F10 ⟨⟨b3,rfl,hb3⟩,l10⟩;have h:=h.up l10;have q6':=h.le _ _ (lG' _ _ q5);refine ⟨b3,rfl,λhn=>e52 (λho=>by rw [hb3.2 ho.2.2.2.2.2.1] at hn;cases hn) (aa l1' h.le),λh3=>⟨_,rfl,aj q6',?_⟩⟩;refine (EE (Mem.le (aa lG' h.le) hc0) (by omega)).mono ?_;rintro _ F11 ⟨⟨b4,rfl,hb4⟩,l11⟩;have h:=h.up l11;have q7':=h.le _ _ (lG' _ _ q5);have lF11:=aa l1' h.le;refine ⟨b4,rfl,λhn=>e52 (λho=>by rw [hb4.2 ⟨ho.2.2.2.2.2.2.1,ho.2.2.2.2.2.2.2.1⟩] at hn;cases hn) lF11,λh4=>⟨_,ld q7' rfl,λhbr=>⟨_,rfl,aj q7',?_⟩,λhbr=> ?_⟩⟩
  ·refine (kQ (Mem.le (aa lG' h.le) hc0) (by omega)).mono ?_;rintro _ F12 ⟨rfl,l12⟩;have h:=h.up l12;refine ⟨_,rfl,λhn=>e52 (λho=> ?_) (aa l1' h.le),λh5=> ?_⟩
   ·have:qo x=true:=yl.2 (ho.2.2.2.2.2.2.2.2 hbr);rw [this] at hn;cases hn
   ·have hok:sT g ((g.prods.take k).map Pr.name) x:=⟨hNw.1,hNw.2,hFt,by omega,by omega,hb3.1 (cJ h3),(hb4.1 (cJ h4)).1,(hb4.1 (cJ h4)).2,λ_=>yl.1 (cJ h5)⟩;rw [if_neg (not_not_intro hok)] at hE;unfold pH;rw [aE hlt (by omega)];refine ⟨g.prods.length - (k+1),by omega,k+1,G',rfl,rfl,by omega,aa lG5 lG',?_,?_⟩
    ·rw [aK hx,XP];exact h
    ·rw [aK hx,XP];exact hE
  ·have hok:sT g ((g.prods.take k).map Pr.name) x:=⟨hNw.1,hNw.2,hFt,by omega,by omega,hb3.1 (cJ h3),(hb4.1 (cJ h4)).1,(hb4.1 (cJ h4)).2,λhc=>by rw [hbr] at hc;cases hc⟩;rw [if_neg (not_not_intro hok)] at hE;unfold pH;rw [aE hlt (by omega)];refine ⟨g.prods.length - (k+1),by omega,k+1,G',rfl,rfl,by omega,aa lG5 lG',?_,?_⟩
   ·rw [aK hx,XP];exact h
   ·rw [aK hx,XP];exact hE
 ·have e:k=g.prods.length:=by omega
  rw [e,Ys,bU] at hE;unfold CT;exact ⟨by rw [hE],aa l1G h.le⟩
open Classical in
theorem ym {v:Γ} {g:Gr} (hg:GV F v g) (hz:Sml g):ae prog 136 #[.agg v] F (RB F (∀x∈g.fils,bV g x)):=by
 have hg0:=hg;obtain ⟨c,n,t,s,p,l,f,rfl,hs⟩:=hg;have ef:=hs.f.len (by decide);have hfl:=hz.m.f;refine UV ?_;unfold NO;refine fresh λb1 F1 l1 q1 _=> ?_;refine bF (wn · b1 _) g.fils.length (λk F'=>F1.le F'/\∀s∈g.fils.take k,bV g s) ⟨am _,by simp⟩ ?_;rintro k F3 N hk ⟨l3,hi⟩ next;have l13:=aa l1 l3;unfold wn;refine ⟨_,ld (l3 _ _ q1) rfl,λhlt=> ?_,λhge=> ?_⟩
 ·have hlt:k<g.fils.length:=by omega
  refine ⟨_,rfl,aj (l3 _ _ q1),_,ld (l3 _ _ q1) rfl,ixc (hs.f.le l13) (by decide) (by omega) (by omega) λa cc z hz' hrz hc=> ?_⟩;rw [N5] at hz';have hzm:=XG hz';refine ⟨_,Mem.len hc,hrz,?_⟩;refine (qn (hg0.le l13) hc (hz.f z hzm) (hz.z.f z hzm)).mono ?_;rintro _ F4 ⟨rfl,l4⟩;refine ⟨_,rfl,ld (l4 _ _ (l3 _ _ q1)) rfl,λh=> .no (λho=> ?_) (aa l13 l4),λh=> ?_⟩
  ·rw [decide_eq_true (ho z hzm)] at h;cases h
  ·rw [aE hlt (by omega)];refine next _ hlt ⟨aa l3 l4,λs hs'=> ?_⟩;rw [aK hz'] at hs';rcases XD.1 hs' with hs'|hs'
   ·exact hi s hs'
   ·rw [XC.1 hs'];exact of_decide_eq_true (cJ h)
 ·have e:k=g.fils.length:=by omega
  subst e;rw [XF] at hi;unfold CX;exact .yes hi l13
def mks (n:Nat) (l:Φ):Ξ:=(List.range n).map λ(i:Nat)=>Value.bool (decide ((i:Int)∈l))
theorem wJ {n:Nat} {l:Φ} {i:Nat} (h:i<n):(mks n l).toArray[i]? =some (.bool (decide ((i:Int)∈l))):=by unfold mks;rw [YZ,XM,Yi h];rfl
theorem KY {n:Nat} {l:Φ} {i:Nat} (h:i<n):(mks n l).toArray.setIfInBounds i (.bool true)=(mks n (l++[(i:Int)])).toArray:=by
 apply Array.ext_getElem?;intro j;have hsz:∀l,(mks n l).toArray.size=n:=λl=>by simp [mks]
 by_cases hj:j<n
 ·rw [wJ hj];by_cases e:i=j
  ·subst e;rw [Yt,if_pos rfl,if_pos (by rw [hsz];exact h),decide_eq_true (by simp)]
  ·rw [YA e,wJ hj];congr 2;refine decide_eq_decide.2 ⟨λh=>by simp [h],λh=> ?_⟩;rcases XD.1 h with h|h
   ·exact h
   ·have:=XC.1 h;omega
 ·rw [Array.getElem?_eq_none (by rw [Array.size_setIfInBounds,hsz];omega),Array.getElem?_eq_none (by rw [hsz];omega)]
theorem St.newE {G F:PH} {As:List (Ψ)} (h:St G F As) {b:Nat} (hb:F b=none) (o:Obj):St G (F.set b o) (pt b o::As):=
 atE (h.new (K:=λb' F'=>b'=b->St G F' (pt b o::As)) (λb' F' h' e=>by subst e;exact h') b hb) rfl
theorem AD {v:Γ} {g:Gr} (hg:GV F v g) (hz:Sml g) (hlg:bN g=false):ae prog 135 #[.agg v] F (RB F (cE g [] g.lvs)):=by
 obtain ⟨c,n,t,s,p,l,f,rfl,hs⟩:=hg;have ec:=hs.c.len (by decide);have ep:=hs.p.len (by decide);have el:=hs.l.len (by decide);obtain ⟨_,_,_,_,hp2,hl2,_⟩:=eE hlg;refine UU ?_;unfold NM;refine (St.start F).newG λb1 G1 F1 l1 q1 _ h=>⟨_,ld (h.le _ _ q1) rfl,?_⟩;dsimp only;refine cd underlying265 RC RI rfl (by omega) (Zc _) (by omega) (by omega) ?_;intro bu hbu;refine ⟨_,rfl,?_⟩;rw [zc1 _ rfl,N5,ep];have e0:(List.replicate g.prods.length (Value.bool false)).toArray=(mks g.prods.length []).toArray:=by
  congr 1;apply Yd;intro j;by_cases hj:j<g.prods.length
  ·simp [mks,hj]
  ·rw [X8 (by simp;omega),X8 (by simp [mks];omega)]
 rw [e0];have h:=h.newE hbu (.cells (mks g.prods.length []).toArray 4);generalize F1.set bu (.cells (mks g.prods.length []).toArray 4)=F2 at*;refine bF (wm · b1 (Sl.mk (some (Addr.mk bu 0 none)) g.prods.length g.prods.length) _) g.lvs.length (λk F'=>∃G,G1.le G/\St G F' [pt bu (.cells (mks g.prods.length ((g.lvs.take k).flatMap Lv.ps)).toArray 4)]/\(cE g [] g.lvs↔cE g ((g.lvs.take k).flatMap Lv.ps) (g.lvs.drop k)))
  ⟨G1,am _,h,Iff.rfl⟩ ?_
 rintro k F3 N hk ⟨G,lG,h,hE⟩ next;have l1G:=aa l1 lG;unfold wm;refine ⟨_,ld (h.le _ _ (lG _ _ q1)) rfl,λhlt=> ?_,λhge=> ?_⟩
 ·have hlt:k<g.lvs.length:=by omega
  refine ⟨_,ld (h.le _ _ (lG _ _ q1)) rfl,h.ix (hs.l.le l1G) (by decide) (by omega) (by omega) λa cc x hx hr hc=> ?_⟩;rw [N5] at hx;have hxm:=XG hx;rw [bP hx,cE] at hE;refine ⟨_,Mem.len hc,hr,?_⟩;refine h.var (Mem.st hc) (λb5 G5 F5 l5 q5 h=> ?_) rfl (Mem.len hc);have lG5:=aa lG l5;have l1F:=aa l1 lG5;have hc0:=Mem.le l5 hc;obtain ⟨rp,rn,rfl,hr1,hr2⟩:=id hc0;have er:=hr1.len (by decide);have hpl:=hz.z.l x hxm;have bad:∀{F':PH},F.le F'->¬FJ g ((g.lvs.take k).flatMap Lv.ps) x->RB F (cE g [] g.lvs) (.bool false) F':=λhl hn=> .no (λho=>hn (hE.1 ho).1) hl;refine ⟨_,ld (h.le _ _ q5) rfl,λhn=>bad (aa l1F h.le) λho=>by have:=ho.1;omega,λh1=>⟨_,ld (h.le _ _ q5) rfl,λhn=>bad (aa l1F h.le) λho=>by have:=ho.2.1;omega,λh2=>⟨#[rn.v,vi x.cond.2],rfl,fo (h.le _ _ q5) rfl,_,ld (h.le _ _ (lG5 _ _ q1)) rfl,?_⟩⟩⟩;dsimp only;rw [ec];refine (iU (d:=x.cond) (DV.mk (hr2.le h.le)) (by have:=hz.l x hxm;unfold Fit;omega) (hz.l x hxm)).mono ?_;rintro _ F6 ⟨rfl,l6⟩;have h:=h.up l6;refine ⟨_,rfl,λhn=>bad (aa l1F h.le) λho=>(by rw [bv.2 ho.2.2.1] at hn;cases hn),λhft=> ?_⟩;have hFt:=bv.1 (cJ hft);refine bF (wl N · b1 (Sl.mk (some (Addr.mk bu 0 none)) g.prods.length g.prods.length) (k:Int) b5 _) x.ps.length (λj F'=>St G5 F' [pt bu (.cells (mks g.prods.length ((g.lvs.take k).flatMap Lv.ps++x.ps.take j)).toArray 4)]/\(∀p∈x.ps.take j,0<=p/\p<g.prods.length)/\(x.ps.take j).Nodup/\∀p∈x.ps.take j,p ∉ (g.lvs.take k).flatMap Lv.ps)
   ⟨by rw [List.take_zero,Ye];exact h,by simp,by simp,by simp⟩ ?_
  rintro j F7 N2 hj ⟨h,i1,i2,i3⟩ next2;unfold wl;refine ⟨_,ld (h.le _ _ q5) rfl,λhjl=> ?_,λhjl=> ?_⟩
  ·have hjl:j<x.ps.length:=by omega
   refine ⟨_,ld (h.le _ _ q5) rfl,h.ix hr1 (by decide) (by omega) (by omega) λa2 c2 y hy hry hcy=> ?_⟩;rw [N5] at hy;rw [show c2= #[vi y] from hcy] at hry;have hym:=XG hy;have lF7:=aa l1F h.le;refine ⟨y,aI hry rfl,λhn=>bad lF7 λho=>by have:=ho.2.2.2.1 y hym;omega,λh0=>⟨λhn=>bad lF7 λho=>by have:=ho.2.2.2.1 y hym;have:(g.prods.length:Int)<=y:=hn;omega,λh3=> ?_⟩⟩;have hyl:y.toNat<g.prods.length:=by have:¬(g.prods.length:Int)<=y:=h3;omega
   have hyn:((y.toNat:Nat):Int)=y:=Int.toNat_of_nonneg (by omega);have hcell:=wJ (l:=(g.lvs.take k).flatMap Lv.ps++x.ps.take j) hyl;rw [hyn] at hcell;have ha:∀i:Nat,Addr.add (Addr.mk bu 0 none) (i*1)=Addr.mk bu i none:=λi=>by rw [av,XZ,XS]
   refine ⟨_,rfl,by omega,by show y<(g.prods.length:Int);omega,_,by rw [ha];exact h.ld0 hcell,λhb=>bad lF7 λho=> ?_,λhb=>⟨_,rfl,by omega,by show y<(g.prods.length:Int);omega,?_⟩⟩
   ·have hb:=of_decide_eq_true hb;rcases XD.1 hb with hb|hb
    ·exact ho.2.2.2.2.2 y hym hb
    ·have:=ho.2.2.2.2.1;rw [<- X9 j x.ps,X4] at this;exact this.2.2 y hb y (by rw [bP hy];simp) rfl
   ·have hb:=of_decide_eq_false hb;dsimp only;rw [ha];refine h.set0 (w':=(mks g.prods.length ((g.lvs.take k).flatMap Lv.ps++x.ps.take (j+1))).toArray) (by simp [mks];exact hyl) (by rw [KY hyl,hyn,aK hy,Xz]) λF8 h=> ?_;rw [aE hjl (by omega)];refine next2 _ hjl ⟨h,λp hp=> ?_,?_,λp hp=> ?_⟩
    ·rw [aK hy] at hp;rcases XD.1 hp with hp|hp
     ·exact i1 p hp
     ·rw [XC.1 hp];omega
    ·rw [aK hy,X4];refine ⟨i2,by simp,λa ha b hb'=> ?_⟩;rw [XC.1 hb'];intro e;subst e;exact hb (YD _ ha)
    ·rw [aK hy] at hp;rcases XD.1 hp with hp|hp
     ·exact i3 p hp
     ·rw [XC.1 hp];exact λhm=>hb (YT _ hm)
  ·have e:j=x.ps.length:=by omega
   subst e;rw [XF] at h i1 i2 i3;unfold CW;rw [aE hlt (by omega)];refine next _ hlt ⟨G5,lG5,?_,?_⟩
   ·rw [aK hx,XU,Yn];exact h
   ·rw [aK hx,XU,Yn];exact hE.trans ⟨λh=>h.2,λh=>⟨⟨by omega,by omega,hFt,i1,i2,i3⟩,h⟩⟩
 ·have e:k=g.lvs.length:=by omega
  rw [e,Ys,cE] at hE;unfold CV;exact .yes (hE.2 trivial) (aa l1G h.le)
theorem og {v:Γ} {g:Gr} (hg:GV F v g) (hz:Sml g):ae prog 44 #[.agg v] F λr F'=>r=vi (bW g)/\F.le F':=by
 refine Xc ?_;unfold Ul;refine fresh λb1 F1 l1 q1 _=>⟨v,hg.size,aj q1,?_⟩;refine (ED (hg.le l1) hz.m).mono ?_;rintro _ F2 ⟨⟨a1,rfl,h1⟩,l2⟩;have k2:=aa l1 l2;refine ⟨a1,rfl,λe=>⟨?_,k2⟩,λe=>⟨v,hg.size,aj (l2 _ _ q1),?_⟩⟩
 ·unfold bW;rw [if_pos (h1.1 e)]
 have hL:bN g=false:=by
  cases hb:bN g with
  |false=>rfl
  |true=>rw [h1.2 hb] at e;cases e
 refine (AJ (hg.le k2) hz).mono ?_;rintro _ F3 ⟨⟨a2,rfl,h2⟩,l3⟩;have k3:=aa k2 l3;have q3:=l3 _ _ (l2 _ _ q1);refine ⟨a2,rfl,λe=>⟨?_,k3⟩,λe=>⟨v,hg.size,aj q3,?_⟩⟩
 ·rw [uB hL λh=>by rw [h2.2 h] at e;cases e]
 have hF:=h2.1 (cJ e);refine (AK (hg.le k3) hz).mono ?_;rintro _ F4 ⟨⟨a3,rfl,h3⟩,l4⟩;have k4:=aa k3 l4;have q4:=l4 _ _ q3;refine ⟨a3,rfl,λe=>⟨?_,k4⟩,λe=>⟨v,hg.size,aj q4,?_⟩⟩
 ·rw [uC hL hF λh=>by rw [h3.2 h] at e;cases e]
 have hT:=h3.1 (cJ e);refine (IP (hg.le k4) hz).mono ?_;rintro _ F5 ⟨⟨a4,rfl,h4⟩,l5⟩;have k5:=aa k4 l5;have q5:=l5 _ _ q4;refine ⟨a4,rfl,λe=>⟨?_,k5⟩,λe=>⟨v,hg.size,aj q5,?_⟩⟩
 ·rw [AS hL hF hT λh=>by rw [h4.2 h] at e;cases e]
 have hN:=h4.1 (cJ e);refine (Ez (hg.le k5) hz hL).mono ?_;rintro _ F6 ⟨rfl,l6⟩;have k6:=aa k5 l6;have q6:=l6 _ _ q5;refine ⟨_,rfl,λe=>⟨?_,k6⟩,λe=>⟨v,hg.size,aj q6,?_⟩⟩
 ·rw [kN hL hF hT hN rfl e]
 have hP:=YV.1 e;refine (AD (hg.le k6) hz hL).mono ?_;rintro _ F7 ⟨⟨a6,rfl,h6⟩,l7⟩;have k7:=aa k6 l7;refine ⟨a6,rfl,λe=>⟨?_,k7⟩,λe=>⟨v,hg.size,aj (l7 _ _ q6),?_⟩⟩
 ·rw [AT hL hF hT hN hP λh=>by rw [h6.2 h] at e;cases e]
 have hV:=h6.1 (cJ e);refine (ym (hg.le k7) hz).mono ?_;rintro _ F8 ⟨⟨a7,rfl,h7⟩,l8⟩;have k8:=aa k7 l8;refine ⟨a7,rfl,λe=>⟨?_,k8⟩,λe=>⟨?_,k8⟩⟩
 ·rw [Jq hL hF hT hN hP hV λh=>by rw [h7.2 h] at e;cases e]
 ·rw [ga.2 ⟨hL,hF,hT,hN,hP,hV,h7.1 (cJ e)⟩]
end
section
variable {G F F0:PH} {s:Sl} {B:Δ} {br:Nat} {r:Option Δ}
abbrev RcD (F:PH) (B:Δ):VR:=λr F'=>(∃w,r=.tuple #[.agg w,vi (iF B).2]/\GV F' w (iF B).1)/\F.le F'
theorem sK (e:iF B=(gr0,55)) (lG:F0.le G) {b2 b5:Nat} {v:Γ} {o:Obj} (h:St G F [pt br o,pt b5 (.cells v 39),pt b2 (.cells zG 39)]):nB b2 b5 true (RcD F0 B) F:=by unfold nB;refine ⟨λ_=> ?_,λhc=>(by cases hc)⟩;refine h.put2 (w':=zG) rfl rfl (GV.zero F).st λF6 h=>⟨zG,rfl,h.whole2,?_⟩;dsimp only [RcD];rw [e];exact ⟨⟨zG,rfl,GV.zero _⟩,aa lG h.le⟩
theorem KZ (K:Rd G s B) (lG:F0.le G) {b2 b5:Nat} {v:Γ} {g:Gr} (hv:GV G v g) (hR:Res dGr (some B) g r) (hz:dGr B=some (g,[])->Sml g)
  (h:St G F [rrS s B br r,pt b5 (.cells v 39),pt b2 (.cells zG 39)]):nC s b2 br b5 (RcD F0 B) F:=by
 have hs:=K.len;obtain ⟨k,⟨hk,hl⟩,h⟩:=h.exQ;unfold Res at hR;dsimp only at hR;unfold nC;refine ⟨_,h.ld0 rfl,λhb=> ?_,λhb=>⟨_,h.ld0 rfl,λhne=> ?_,λheq=> ?_⟩⟩
 ·refine sK ?_ lG h;have:r=none:=by cases r with|none=>rfl|some l=>cases hb
  subst this;unfold iF;cases hd:dGr B with
  |none=>rfl
  |some q=>rw [hd] at hR;cases hR.2
 ·refine sK ?_ lG h;obtain ⟨l,rfl⟩:∃l,r=some l:=by cases r with|none=>cases hb|some l=>exact ⟨l,rfl⟩
  unfold iF;cases hd:dGr B with
  |none=>rfl
  |some q=>
   obtain ⟨g',l'⟩:=q;rw [hd] at hR;obtain ⟨rfl,e⟩:=hR;cases e;have e1:=hl l rfl;cases l with
   |nil=>
    have:(B.drop k).length=0:=by rw [e1];rfl
    rw [Yp] at this;exact absurd (show (k:Int)=(s.len:Int) by omega) hne
   |cons x l=>rfl
 ·obtain ⟨l,rfl⟩:∃l,r=some l:=by cases r with|none=>cases hb|some l=>exact ⟨l,rfl⟩
  have hk:k=B.length:=by have:(k:Int)=(s.len:Int):=YV.1 heq;omega
  have e1:=hl l rfl;rw [hk,Ys] at e1;subst e1;have hd:dGr B=some (g,[]):=by
   cases hd:dGr B with
   |none=>rw [hd] at hR;cases hR
   |some q=>obtain ⟨g',l'⟩:=q;rw [hd] at hR;obtain ⟨rfl,e⟩:=hR;cases e;rfl
  refine ⟨v,hv.size,h.whole1,?_⟩;refine h.runv (og hv (hz hd)) λG2 F2 l2 h=>⟨_,rfl,?_⟩;have hv:=hv.le l2;dsimp only;by_cases h0:bW g=0
  ·rw [decide_eq_false (show ¬bW g≠0 from λhc=>hc h0)];unfold nB;refine ⟨λhc=>(by cases hc),λ_=>⟨v,hv.size,h.whole1,?_⟩⟩;refine h.put2 (w':=v) hv.size rfl hv.st λF3 h=>⟨v,hv.size,h.whole2,?_⟩;have e:iF B=(g,0):=by unfold iF;rw [hd];exact if_pos h0
   dsimp only [RcD];rw [e];exact ⟨⟨v,rfl,hv.le h.le⟩,aa lG (aa l2 h.le)⟩
  ·rw [decide_eq_true (show bW g≠0 from h0)];exact sK (by unfold iF;rw [hd];exact if_neg h0) (aa lG l2) h
end
section
variable {G F:PH} {s:Sl} {B:Δ} {br:Nat} {r:Option Δ}
theorem K9 (K:Rd G s B) {b2 b5:Nat} {c n t sx p l:Sl} {root start:Int} {R:VR} (h:St G F [rrS s B br r,pt b5 (.cells (gJ c n t sx p l Sl.nil root start) 39),pt b2 (.cells zG 39)])
  (fin:∀G' F' f xs r',G.le G'->Res (dL dFi) r xs r'->RL G' f xs->St G' F' [rrS s B br r',pt b5 (.cells (gJ c n t sx p l f root start) 39),pt b2 (.cells zG 39)]->nC s b2 br b5 R F'):
  nD s b2 br b5 R F:=by
 obtain ⟨_,_,T⟩:=JF;unfold nD;refine (f7 K h).mono ?_;rintro _ F4 ⟨m,rm,rfl,hr,hm,hm2,h⟩;have hmB:=fj K h hm hm2;refine ⟨_,rfl,?_⟩;have h:=(h.nilOwn 74 9).swap;refine ⟨λmm i F'=>∃(k:Nat) (G':PH) (sl:Sl) (xs:List Fi) (vs:List Γ) (rk:Option Δ),i=(k:Int)/\mm=k/\k<=m/\G.le G'/\xs.length+k=m/\dr G' xs vs/\Rk dFi rm m xs k rk/\St G' F' [rrS s B br rk,own sl 74 9 (cat vs),pt b5 (.cells (gJ c n t sx p l sl root start) 39),pt b2 (.cells zG 39)],m,⟨m,G,Sl.nil,[],[],rm,rfl,rfl,XA _,am _,by simp,.nil,Rk.start,h⟩,?_⟩;rintro mm i F5 ⟨k,G2,sl,xs,vs,rk,rfl,hmm,hk,l2,hx,hv,hR,h⟩;have K:=K.le l2;have fin2:(k=0\/rk=none)->nC s b2 br b5 R F5:=λhc=>by obtain ⟨G3,l3,hd,h6⟩:=h.swap.pinO;exact fin G3 _ sl xs rk (aa l2 l3) (hR.fin hr hc) ⟨vs,hv.le l3,hd⟩ h6
 unfold Io;refine ⟨λhp=>⟨_,h.rbad,λhb=> ?_,λhb=>fin2 (.inr (by cases rk with|none=>rfl|some l=>cases hb))⟩,λhn=>fin2 (.inl (by omega))⟩;obtain ⟨li,rfl⟩:∃li,rk=some li:=by cases rk with|none=>cases hb|some l=>exact ⟨l,rfl⟩
 obtain ⟨k,rfl⟩:∃k',k=k'+1:=⟨k - 1,by omega⟩;refine ⟨_,h.ld2 rfl,?_⟩;refine (Lm K h).mono ?_;rintro _ F6 ⟨w,y,r2,G3,rfl,hres,l3,hw,h⟩;refine ⟨_,rfl,h.ld2 rfl,Mem.len hw,?_⟩;have hsl:sl.len=xs.length:=RL.len ⟨vs,hv.le (aa l3 h.le),bj.rd (h.ownAt (i:=1) rfl).1⟩ (by decide);refine h.push1 T (Mem.len hw) (Mem.st hw) (by omega) λs' G4 F7 l4 h hl'=> ?_;refine h.set2 (w':=gJ c n t sx p l s' root start) (by show 8<9;decide) rfl λF8 h=> ?_;rw [dW (by omega) (by omega),Yf];refine ⟨k,by omega,k,G4,s',xs++[y],vs++[w],r2,rfl,rfl,by omega,aa l2 (aa l3 l4),by rw [N3,XJ];omega,((hv.le l3).append (.cons hw .nil)).le l4,hR.step hres,?_⟩;rw [bA,bL];exact h
end
section
variable {G F:PH} {s:Sl} {B:Δ} {br:Nat} {r:Option Δ}
theorem La (K:Rd G s B) {b2 b5:Nat} {c n t:Sl} {root start:Int} {R:VR} (h:St G F [rrS s B br r,pt b5 (.cells (gJ c n t Sl.nil Sl.nil Sl.nil Sl.nil root start) 39),pt b2 (.cells zG 39)])
  (fin:∀G' F' sx f ys xs r',G.le G'->Res (aT (dL dS) (dL dPr)) r (ys,xs) r'->RL G' sx ys->RL G' f xs->St G' F' [rrS s B br r',pt b5 (.cells (gJ c n t sx f Sl.nil Sl.nil root start) 39),pt b2 (.cells zG 39)]->nE s b2 br b5 R F'):
  nF s b2 br b5 R F:=by
 obtain ⟨_,_,T⟩:=D0;unfold nF;refine (Jh K h).mono ?_;rintro _ F3 ⟨sx,ys,r0,G1,rfl,h1,l1,hys,h⟩;refine ⟨_,rfl,h.set1 (w':=gJ c n t sx Sl.nil Sl.nil Sl.nil root start) (by show 4<9;decide) rfl λF2 h=> ?_⟩;have K:=K.le l1;refine (f7 K h).mono ?_;rintro _ F4 ⟨m,rm,rfl,hr,hm,hm2,h⟩;have hmB:=fj K h hm hm2;refine ⟨_,rfl,?_⟩;have h:=(h.nilOwn 67 13).swap;refine ⟨λmm i F'=>∃(k:Nat) (G':PH) (sl:Sl) (xs:List Pr) (vs:List Γ) (rk:Option Δ),i=(k:Int)/\mm=k/\k<=m/\G1.le G'/\xs.length+k=m/\dr G' xs vs/\Rk dPr rm m xs k rk/\St G' F' [rrS s B br rk,own sl 67 13 (cat vs),pt b5 (.cells (gJ c n t sx sl Sl.nil Sl.nil root start) 39),pt b2 (.cells zG 39)],m,⟨m,G1,Sl.nil,[],[],rm,rfl,rfl,XA _,am _,by simp,.nil,Rk.start,h⟩,?_⟩;rintro mm i F5 ⟨k,G2,sl,xs,vs,rk,rfl,hmm,hk,l2,hx,hv,hR,h⟩;have K:=K.le l2;have fin2:(k=0\/rk=none)->nE s b2 br b5 R F5:=λhc=>by obtain ⟨G3,l3,hd,h6⟩:=h.swap.pinO;exact fin G3 _ sx sl ys xs rk (aa l1 (aa l2 l3)) (h1.pair (hR.fin hr hc)) (hys.le (aa l2 l3)) ⟨vs,hv.le l3,hd⟩ h6
 unfold Iq;refine ⟨λhp=>⟨_,h.rbad,λhb=> ?_,λhb=>fin2 (.inr (by cases rk with|none=>rfl|some l=>cases hb))⟩,λhn=>fin2 (.inl (by omega))⟩;obtain ⟨li,rfl⟩:∃li,rk=some li:=by cases rk with|none=>cases hb|some l=>exact ⟨l,rfl⟩
 obtain ⟨k,rfl⟩:∃k',k=k'+1:=⟨k - 1,by omega⟩;refine ⟨_,h.ld2 rfl,?_⟩;refine (Vo K h).mono ?_;rintro _ F6 ⟨w,y,r2,G3,rfl,hres,l3,hw,h⟩;refine ⟨_,rfl,h.ld2 rfl,Mem.len hw,?_⟩;have hsl:sl.len=xs.length:=RL.len ⟨vs,hv.le (aa l3 h.le),bj.rd (h.ownAt (i:=1) rfl).1⟩ (by decide);refine h.push1 T (Mem.len hw) (Mem.st hw) (by omega) λs' G4 F7 l4 h hl'=> ?_;refine h.set2 (w':=gJ c n t sx s' Sl.nil Sl.nil root start) (by show 5<9;decide) rfl λF8 h=> ?_;rw [dW (by omega) (by omega),Yf];refine ⟨k,by omega,k,G4,s',xs++[y],vs++[w],r2,rfl,rfl,by omega,aa l2 (aa l3 l4),by rw [N3,XJ];omega,((hv.le l3).append (.cons hw .nil)).le l4,hR.step hres,?_⟩;rw [bA,bL];exact h
end
section
variable {G F:PH} {s:Sl} {B:Δ} {br:Nat} {r:Option Δ}
abbrev lvA (p:Sl) (a:Int) (n:Sl) (o:Int):Γ:= #[p.v,vi a,n.v,vi o]
theorem Lc (K:Rd G s B) {b2 b5:Nat} {c n t sx p:Sl} {root:Int} {R:VR} (h:St G F [rrS s B br r,pt b5 (.cells (gJ c n t sx p Sl.nil Sl.nil root 0) 39),pt b2 (.cells zG 39)])
  (fin:∀G' F' f y xs r',G.le G'->Res (aT dI (dL dLv)) r (y,xs) r'->RL G' f xs->St G' F' [rrS s B br r',pt b5 (.cells (gJ c n t sx p f Sl.nil root y) 39),pt b2 (.cells zG 39)]->nD s b2 br b5 R F'):
  nE s b2 br b5 R F:=by
 obtain ⟨_,_,T⟩:=JE;unfold nE;refine (ba K h).mono ?_;rintro _ F3 ⟨st,r0,rfl,h1,h⟩;refine ⟨_,rfl,h.set1 (w':=gJ c n t sx p Sl.nil Sl.nil root st) (by show 6<9;decide) rfl λF2 h=> ?_⟩;refine (f7 K h).mono ?_;rintro _ F4 ⟨m,rm,rfl,hr,hm,hm2,h⟩;have hmB:=fj K h hm hm2;refine ⟨_,rfl,?_⟩;have h:=(h.nilOwn 72 4).swap;refine ⟨λmm i F'=>∃(k:Nat) (G':PH) (sl:Sl) (xs:List Lv) (vs:List Γ) (rk:Option Δ),i=(k:Int)/\mm=k/\k<=m/\G.le G'/\xs.length+k=m/\dr G' xs vs/\Rk dLv rm m xs k rk/\St G' F' [rrS s B br rk,own sl 72 4 (cat vs),pt b5 (.cells (gJ c n t sx p sl Sl.nil root st) 39),pt b2 (.cells zG 39)],m,⟨m,G,Sl.nil,[],[],rm,rfl,rfl,XA _,am _,by simp,.nil,Rk.start,h⟩,?_⟩;rintro mm i F5 ⟨k,G2,sl,xs,vs,rk,rfl,hmm,hk,l2,hx,hv,hR,h⟩;have K:=K.le l2;have fin2:(k=0\/rk=none)->nD s b2 br b5 R F5:=λhc=>by obtain ⟨G3,l3,hd,h6⟩:=h.swap.pinO;exact fin G3 _ sl st xs rk (aa l2 l3) (h1.pair (hR.fin hr hc)) ⟨vs,hv.le l3,hd⟩ h6
 unfold Ip;refine ⟨λhp=>⟨_,h.rbad,λhb=> ?_,λhb=>fin2 (.inr (by cases rk with|none=>rfl|some l=>cases hb))⟩,λhn=>fin2 (.inl (by omega))⟩;obtain ⟨li,rfl⟩:∃li,rk=some li:=by cases rk with|none=>cases hb|some l=>exact ⟨l,rfl⟩
 obtain ⟨k,rfl⟩:∃k',k=k'+1:=⟨k - 1,by omega⟩;refine (Oo K h).mono ?_;rintro _ Fa ⟨ps,z1,ra',Ga,rfl,g1,la,hps,h⟩;refine ⟨_,rfl,?_⟩;refine h.new λb9 Fb h=> ?_;refine h.put0 (w':=lvA ps 0 Sl.nil 0) rfl rfl (by simp [ai,Sl.v]) λFc h=> ?_;have K:=K.le la;refine (ba K h.swap).mono ?_;rintro _ Fd ⟨z2,rc,rfl,g2,h⟩;refine ⟨_,rfl,h.set1 (w':=lvA ps z2 Sl.nil 0) (by show 1<4;decide) rfl λFe h=> ?_⟩;refine (Ja K h).mono ?_;rintro _ Fd ⟨n1,d,rd,Gb,rfl,g3,lb,hn1,h⟩;refine ⟨_,rfl,h.putR1 (w':=lvA ps z2 n1 d.2) rfl (by simp [ai,Sl.v]) (by show 2+2<=4;decide) rfl λF6 h=> ?_⟩;refine ⟨_,h.ld3 rfl,_,rfl,h.whole1,rfl,?_⟩;have h:=h.swap.tail;have hw:Mem.rep Gb (⟨z1,z2,d⟩:Lv) (lvA ps z2 n1 d.2):=⟨ps,n1,rfl,hps.le lb,hn1⟩;have hv:=hv.le (aa la lb);have hsl:sl.len=xs.length:=RL.len ⟨vs,hv.le h.le,bj.rd (h.ownAt (i:=1) rfl).1⟩ (by decide);refine h.push1 T (Mem.len hw) (Mem.st hw) (by omega) λs' G4 F7 l4 h hl'=> ?_;refine h.set2 (w':=gJ c n t sx p s' Sl.nil root st) (by show 7<9;decide) rfl λF8 h=> ?_;rw [dW (by omega) (by omega),Yf];refine ⟨k,by omega,k,G4,s',xs++[⟨z1,z2,d⟩],vs++[lvA ps z2 n1 d.2],rd,rfl,rfl,by omega,aa l2 (aa la (aa lb l4)),by rw [N3,XJ];omega,(hv.append (.cons hw .nil)).le l4,hR.step (show Res dLv (some li) ⟨z1,z2,d⟩ rd from Res.map _ (g1.pair (g2.pair g3))),?_⟩;rw [bA,bL];exact h
end
section
variable {G F:PH} {s:Sl} {B:Δ} {br:Nat} {r:Option Δ}
theorem yn {α β γ:Type} {a:Ps α} {b:Ps β} {c:Ps γ}:aT a (aT b c)=ft (λp:(α×β)×γ=>(p.1.1,p.1.2,p.2)) (aT (aT a b) c):=by
 funext l;unfold aT ft;cases h1:a l with
 |none=>simp only [h1]
 |some q=>
  cases h2:b q.2 with
  |none=>simp only [h1,h2]
  |some q2=>
   cases h3:c q2.2 with
   |none=>simp only [h1,h2,h3]
   |some q3=>simp only [h1,h2,h3]
theorem ut {α β γ:Type} {a:Ps α} {b:Ps β} {c:Ps γ} {x:α} {y:β} {z:γ} {r r' r'':Option Δ} (h:Res (aT a b) r (x,y) r') (k:Res c r' z r''):Res (aT a (aT b c)) r (x,y,z) r'':=by rw [yn];exact Res.map (λp:(α×β)×γ=>(p.1.1,p.1.2,p.2)) (h.pair k)
theorem Ld (K:Rd G s B) {b2 b5:Nat} {c n:Sl} {root:Int} {R:VR} (h:St G F [rrS s B br r,pt b5 (.cells (gJ c n Sl.nil Sl.nil Sl.nil Sl.nil Sl.nil root 0) 39),pt b2 (.cells zG 39)])
  (fin:∀G' F' f xs r',G.le G'->Res (dL dTk) r xs r'->RL G' f xs->St G' F' [rrS s B br r',pt b5 (.cells (gJ c n f Sl.nil Sl.nil Sl.nil Sl.nil root 0) 39),pt b2 (.cells zG 39)]->nF s b2 br b5 R F'):
  Ci 54 #[rp br] F λv F=>Lp v F λN k F=>Ar N s b2 br b5 R k F:=by
 obtain ⟨_,_,T⟩:=FF;refine (f7 K h).mono ?_;rintro _ F4 ⟨m,rm,rfl,hr,hm,hm2,h⟩;have hmB:=fj K h hm hm2;refine ⟨_,rfl,?_⟩;have h:=(h.nilOwn 79 7).swap;refine ⟨λmm i F'=>∃(k:Nat) (G':PH) (sl:Sl) (xs:List Tk) (vs:List Γ) (rk:Option Δ),i=(k:Int)/\mm=k/\k<=m/\G.le G'/\xs.length+k=m/\dr G' xs vs/\Rk dTk rm m xs k rk/\St G' F' [rrS s B br rk,own sl 79 7 (cat vs),pt b5 (.cells (gJ c n sl Sl.nil Sl.nil Sl.nil Sl.nil root 0) 39),pt b2 (.cells zG 39)],m,⟨m,G,Sl.nil,[],[],rm,rfl,rfl,XA _,am _,by simp,.nil,Rk.start,h⟩,?_⟩;rintro mm i F5 ⟨k,G2,sl,xs,vs,rk,rfl,hmm,hk,l2,hx,hv,hR,h⟩;have K:=K.le l2;have fin2:(k=0\/rk=none)->nF s b2 br b5 R F5:=λhc=>by obtain ⟨G3,l3,hd,h6⟩:=h.swap.pinO;exact fin G3 _ sl xs rk (aa l2 l3) (hR.fin hr hc) ⟨vs,hv.le l3,hd⟩ h6
 unfold Ar;refine ⟨λhp=>⟨_,h.rbad,λhb=> ?_,λhb=>fin2 (.inr (by cases rk with|none=>rfl|some l=>cases hb))⟩,λhn=>fin2 (.inl (by omega))⟩;obtain ⟨li,rfl⟩:∃li,rk=some li:=by cases rk with|none=>cases hb|some l=>exact ⟨l,rfl⟩
 obtain ⟨k,rfl⟩:∃k',k=k'+1:=⟨k - 1,by omega⟩;refine ⟨_,h.ld2 rfl,?_⟩;refine (Qn K h).mono ?_;rintro _ F6 ⟨w,y,r2,G3,rfl,hres,l3,hw,h⟩;refine ⟨_,rfl,h.ld2 rfl,Mem.len hw,?_⟩;have hsl:sl.len=xs.length:=RL.len ⟨vs,hv.le (aa l3 h.le),bj.rd (h.ownAt (i:=1) rfl).1⟩ (by decide);refine h.push1 T (Mem.len hw) (Mem.st hw) (by omega) λs' G4 F7 l4 h hl'=> ?_;refine h.set2 (w':=gJ c n s' Sl.nil Sl.nil Sl.nil Sl.nil root 0) (by show 3<9;decide) rfl λF8 h=> ?_;rw [dW (by omega) (by omega),Yf];refine ⟨k,by omega,k,G4,s',xs++[y],vs++[w],r2,rfl,rfl,by omega,aa l2 (aa l3 l4),by rw [N3,XJ];omega,((hv.le l3).append (.cons hw .nil)).le l4,hR.step hres,?_⟩;rw [bA,bL];exact h
theorem wK (K:Rd F s B) (hz:∀g,dGr B=some (g,[])->Sml g):
  ae prog 17 #[s.v] F (RcD F B):=by
 refine W4 ?_;unfold Uc;refine (St.start F).new λb2 F1 h=> ?_;refine h.new λbr F2 h=> ?_;have h:St F F2 [rrS s B br (some B),pt b2 (.cells zG 39)]:=h.mkQ (k:=0) (r:=some B) rfl (by omega) λl e=>by cases e;rfl
 refine (Jh K h).mono ?_;rintro _ F3 ⟨c,cs,r1,G1,rfl,h1,l1,hc,h⟩;refine ⟨_,rfl,?_⟩;refine h.new λb5 F4 h=> ?_;refine h.put0 (w':=gJ c Sl.nil Sl.nil Sl.nil Sl.nil Sl.nil Sl.nil 0 0) rfl rfl (by simp [ai,Sl.v]) λF5 h=> ?_;have K:=K.le l1;refine (Ja K h.swap).mono ?_;rintro _ F6 ⟨n,d,r2,G2,rfl,h2,l2,hn,h⟩;refine ⟨_,rfl,h.putR1 (w':=gJ c n Sl.nil Sl.nil Sl.nil Sl.nil Sl.nil d.2 0) rfl (by simp [ai,Sl.v]) (by show 1+2<=9;decide) rfl λF7 h=> ?_⟩;have K:=K.le l2;refine Ld K h λG3 F8 t ts r3 l3 h3 ht h=> ?_;have K:=K.le l3;refine La K h λG4 F9 sx p ys ps r4 l4 h4 hy hp h=> ?_;have K:=K.le l4;refine Lc K h λG5 Fa l st ls r5 l5 h5 hl h=> ?_;have K:=K.le l5;refine K9 K h λG6 Fb f fs r6 l6 h6 hf h=> ?_;have K:=K.le l6;have k26:=aa l2 (aa l3 (aa l4 (aa l5 l6)));have k36:=aa l3 (aa l4 (aa l5 l6));have k46:=aa l4 (aa l5 l6);have k56:=aa l5 l6;have hres:Res dGr (some B) ⟨cs,d,ts,ys,ps,st,ls,fs⟩ r6:=Res.map _ (h1.pair (h2.pair (h3.pair (ut h4 (ut h5 h6)))));exact KZ K (aa l1 k26) (g:=⟨cs,d,ts,ys,ps,st,ls,fs⟩) ⟨c,n,t,sx,p,l,f,rfl,⟨hc.le k26,hn.le k36,ht.le k46,hy.le k56,hp.le k56,hl.le l6,hf⟩⟩ hres (λhd=>hz _ hd) h
end
section
variable {F G:PH} {s:Sl} {l:Φ}
theorem uu (x:ByteArray):1<=(cx x).length:=by unfold cx;rw [XI];omega
theorem IM {v:Γ} {t:Tk} (ht:Mem.rep G t v) (h:Ou G F s l) (hl:(l++kL t).length<=400000000000):ae prog 139 #[s.v,.agg v] F (PR G (l++kL t)):=by
 obtain ⟨p,n,rfl,hp,hn⟩:=ht;have ep:=hp.len (by decide);unfold kL at hl ⊢;simp only [<- Xz] at hl ⊢;refine UY ?_;unfold NR;refine St.newG h λb3 G1 F1 l1 q3 _ h=>⟨_,ld (h.le _ _ q3) rfl,?_⟩;refine (fU h (by simp only [N3] at hl ⊢;omega)).mono ?_;rintro _ F2 ⟨s2,G2,rfl,l2,h⟩;have q2:=l2 _ _ q3;refine ⟨_,rfl,_,ld (h.le _ _ q2) rfl,?_⟩;refine bM h [t.cls] (by simp only [N3] at hl ⊢;omega) λs3 G3 F3 l3 h=>⟨_,ld (h.le _ _ (l3 _ _ q2)) rfl,?_⟩;refine (fU h (by simp only [N3] at hl ⊢;omega)).mono ?_;rintro _ F4 ⟨s4,G4,rfl,l4,h⟩;have q4:=l4 _ _ (l3 _ _ q2);have l14:=aa l1 (aa l2 (aa l3 l4));refine ⟨_,rfl,_,ld (h.le _ _ q4) rfl,?_⟩;dsimp only;rw [ep];refine bM h [(t.pat.length:Int)] (by simp only [N3] at hl ⊢;omega) λs5 G5 F5 l5 h=> ?_;have q5:=l5 _ _ q4;have l15:=aa l14 l5;refine jy t.pat wNd (λ_=>by show 1<=5;decide) (wu · b3 _) h (by simp only [N3] at hl ⊢;omega) λk G6 F6 s6 l' N hk l6 h next fin=> ?_;have q6:=l6 _ _ q5;have l16:=aa l15 l6;unfold wu;refine ⟨_,ld (h.le _ _ q6) rfl,λhlt=> ?_,λhge=> ?_⟩
 ·have hlt:k<t.pat.length:=by omega
  refine ⟨_,ld (h.le _ _ q6) rfl,h.ix (hp.le l16) (by decide) (by omega) (by omega) λa c y hy hrow hc=> ?_⟩;rw [N5] at hy;obtain ⟨n1,n0,n2⟩:=next y hy;refine ⟨c,Mem.len hc,hrow,?_⟩;rw [show c=y.arr from hc];refine h.var (by simp [ai]) (λb7 G7 F7 l7 q7 h=> ?_) rfl rfl;refine ⟨_,ld (h.le _ _ q7) rfl,_,ld (h.le _ _ q7) rfl,_,ld (h.le _ _ q7) rfl,_,ld (h.le _ _ q7) rfl,_,ld (h.le _ _ q7) rfl,?_⟩;refine bM h [y.k,y.lo,y.hi,y.a,y.b] n1 λs8 G8 F8 l8 h=> ?_;rw [aE hlt (by omega)];exact n2 _ _ _ (aa l7 l8) h
 ·unfold C0;rw [fin (by omega)] at h;refine ⟨_,ld (h.le _ _ q6) rfl,#[n.v,vi t.cond.2],rfl,fo (h.le _ _ q6) rfl,?_⟩;refine (fU h (by simp only [N3] at hl ⊢;omega)).mono ?_;rintro _ F7 ⟨s7,G7,rfl,l7,h⟩;refine ⟨_,rfl,fo (h.le _ _ (l7 _ _ q6)) rfl,?_⟩;refine (jz (d:=t.cond) (DV.mk (hn.le (aa l16 l7))) h hl).mono ?_;rintro _ F8 ⟨s8,G8,rfl,l8,h⟩;exact ⟨_,rfl,s8,G8,rfl,aa l16 (aa l7 l8),h⟩
theorem sL (b:Bool) (F:PH):ae prog 196 #[.bool b] F λr F'=>r=vi (wF b)/\F'=F:=by refine Vg ?_;unfold Og;exact ⟨λe=>⟨by rw [e];rfl,rfl⟩,λe=>⟨by rw [e];rfl,rfl⟩⟩
theorem EA {v:Γ} {p:Pr} (hp:Mem.rep G p v) (h:Ou G F s l) (hl:(l++wPr p).length<=400000000000):ae prog 140 #[s.v,.agg v] F (PR G (l++wPr p)):=by
 obtain ⟨r,n,y,rfl,hr,hn,hy⟩:=hp;have er:=hr.len (by decide);have ey:=hy.len (by decide);unfold wPr at hl ⊢;simp only [<- Xz] at hl ⊢;refine UZ ?_;unfold NS;refine St.newG h λb3 G1 F1 l1 q3 _ h=>⟨_,ld (h.le _ _ q3) rfl,?_⟩;refine (fU h (by simp only [N3] at hl ⊢;omega)).mono ?_;rintro _ F2 ⟨s2,G2,rfl,l2,h⟩;have q2:=l2 _ _ q3;refine ⟨_,rfl,_,ld (h.le _ _ q2) rfl,_,ld (h.le _ _ q2) rfl,?_⟩;dsimp only;rw [er];refine bM h [p.left,(p.right.length:Int)] (by simp only [N3] at hl ⊢;omega) λs5 G5 F5 l5 h=> ?_;have q5:=l5 _ _ q2;have l15:=aa l1 (aa l2 l5);refine jy p.right wSy (λ_=>by show 1<=2;decide) (wx · b3 _) h (by simp only [N3] at hl ⊢;omega) λk G6 F6 s6 l' N hk l6 h next fin=> ?_;have q6:=l6 _ _ q5;have l16:=aa l15 l6;unfold wx;refine ⟨_,ld (h.le _ _ q6) rfl,λhlt=> ?_,λhge=> ?_⟩
 ·have hlt:k<p.right.length:=by omega
  refine ⟨_,ld (h.le _ _ q6) rfl,h.ix (hr.le l16) (by decide) (by omega) (by omega) λa c x hx hrow hc=> ?_⟩;rw [N5] at hx;obtain ⟨n1,n0,n2⟩:=next x hx;rw [show c=x.arr from hc] at hrow;refine ⟨_,aI hrow rfl,_,ld (h.le _ _ q6) rfl,h.ix (hr.le l16) (by decide) (by omega) (by omega) λa2 c2 x2 hx2 hrow2 hc2=> ?_⟩;rw [N5,hx] at hx2;obtain rfl:=X2 hx2;rw [show c2=x.arr from hc2] at hrow2;refine ⟨_,aF hrow2 rfl,?_⟩;refine (sL x.t F6).mono ?_;rintro _ F7 ⟨rfl,rfl⟩;refine ⟨_,rfl,aF hrow2 rfl,ld (h.le _ _ q6) rfl,ld (h.le _ _ q6) rfl,?_⟩;refine bM h [wF x.t,x.i] n1 λs8 G8 F8 l8 h=> ?_;refine ⟨ld (h.le _ _ (l8 _ _ q6)) rfl,ld (h.le _ _ (l8 _ _ q6)) rfl,?_⟩;rw [aE hlt (by omega)];exact n2 _ _ _ l8 h
 ·unfold C2;rw [fin (by omega)] at h;refine ⟨#[n.v,vi p.cond.2],rfl,fo (h.le _ _ q6) rfl,?_⟩;refine (jz (d:=p.cond) (DV.mk (hn.le l16)) h (by simp only [N3] at hl ⊢;omega)).mono ?_;rintro _ F7 ⟨s7,G7,rfl,l7,h⟩;have q7:=l7 _ _ q6;have l17:=aa l16 l7;refine ⟨_,rfl,_,ld (h.le _ _ q7) rfl,_,ld (h.le _ _ q7) rfl,_,ld (h.le _ _ q7) rfl,?_⟩;refine (sL p.brk F7).mono ?_;rintro _ F8 ⟨rfl,rfl⟩;refine ⟨_,rfl,ld (h.le _ _ q7) rfl,ld (h.le _ _ q7) rfl,?_⟩;rw [ey];refine bM h [wF p.brk,IntKind.i64.wrap (p.rank+1),(p.lay.length:Int)] (by simp only [N3] at hl ⊢;omega) λs8 G8 F8 l8 h=> ?_;have q8:=l8 _ _ q7;have l18:=aa l17 l8;refine ⟨ld (h.le _ _ q8) rfl,ld (h.le _ _ q8) rfl,?_⟩;refine jy p.lay wCn (λ_=>by show 1<=3;decide) (ww · b3 _) h (by simp only [N3] at hl ⊢;omega) λk G9 F9 s9 l' N hk l9 h next fin=> ?_;have q9:=l9 _ _ q8;have l19:=aa l18 l9;have q:=λ{F':PH} (hl:G9.le F')=>ld (hl _ _ q9) (show (p.arr r n y)[7]? =some y.v from rfl);unfold ww;refine ⟨_,q h.le,λhlt=> ?_,λhge=> ?_⟩
  ·have hlt:k<p.lay.length:=by omega
   have hr3:=hy.le l19;refine ⟨_,q h.le,h.ix hr3 (by decide) (by omega) (by omega) λa1 c1 x hx hrow hc=> ?_⟩;rw [N5] at hx;rw [show c1=x.arr from hc] at hrow;refine ⟨x.k,aI hrow rfl,_,q h.le,h.ix hr3 (by decide) (by omega) (by omega) λa2 c2 y2 hy2 hrow2 hc2=> ?_⟩;rw [N5,hx] at hy2;obtain rfl:=X2 hy2;rw [show c2=x.arr from hc2] at hrow2;refine ⟨x.a,aF hrow2 rfl,_,q h.le,h.ix hr3 (by decide) (by omega) (by omega) λa3 c3 y3 hy3 hrow3 hc3=> ?_⟩;rw [N5,hx] at hy3;obtain rfl:=X2 hy3;rw [show c3=x.arr from hc3] at hrow3;obtain ⟨n1,n0,n2⟩:=next x hx;refine ⟨x.b,aF hrow3 rfl,?_⟩;refine bM h [x.k,x.a,x.b] n1 λs4 G4 F4 l4 h=> ?_;have q4:=q (aa l4 h.le);refine ⟨q4,q4,q4,?_⟩;rw [aE hlt (by omega)];exact n2 _ _ _ l4 h
  ·unfold C1;rw [fin (by omega)] at h;refine ⟨_,ld (h.le _ _ q9) rfl,_,ld (h.le _ _ q9) rfl,_,ld (h.le _ _ q9) rfl,_,ld (h.le _ _ q9) rfl,_,ld (h.le _ _ q9) rfl,?_⟩;refine (sL p.sco.o F9).mono ?_;rintro _ F10 ⟨rfl,rfl⟩;refine ⟨_,rfl,ld (h.le _ _ q9) rfl,ld (h.le _ _ q9) rfl,ld (h.le _ _ q9) rfl,ld (h.le _ _ q9) rfl,?_⟩;refine bM h [wF p.sco.o,p.sco.d,p.sco.k,p.sco.u,p.sco.a] hl λs4 G4 F4 l4 h=>⟨s4,G4,rfl,aa l19 l4,h⟩
end
end Go.Proofs.YtenpmjhnhepfdaaGreatDoor
