/-
  FactsMatchReference: the walk.
-/
import Derived.Test.YtcemhghkipgdiaaGreatDoorLb
open Option renaming some->ZO,none->ZR
open Go.Obj renaming cells->ZP
open Bool renaming false->ZQ,true->ZT
open Go.Value renaming agg->ZU,bool->ZV,tuple->Z2
open Go.Addr renaming add->ZW,mk->ZX
open Int renaming toNat->ZY,tmod->Z5
noncomputable section
namespace Go.Proofs.YtcemhghkipgdiaaGreatDoor
open Go.IntKind (i64 u8 u64)
open Sl renaming v->ZS,nil->Z3,mk->Z4
open Go Go.Proofs.Tryz Tr
set_option maxRecDepth 10000
section
variable {F:PH}
theorem yZ {x:Pr}:rg x=ZT↔yl x:= @decide_eq_true_iff _ (Classical.propDecidable _)
theorem Fb {v:Γ} {g:Gr} (hg:GV F v g) (hz:Sml g) (hlg:bN g=ZQ):ν 118 #[ZU v] F λr F'=>r=vi (cP g [] g.ZG)/\F.le F':=by
 have hg0:=hg;obtain ⟨c,n,t,s,p,l,f,rfl,hs⟩:=hg;have ec:=hs.c.len;have ep:=hs.p.len;have hcl:=hz.m.p;obtain ⟨_,_,_,_,_,_,hR⟩:=fb hlg;refine So ?_;unfold MK;refine (St.start F).newG λb1 G1 F1 l1 q1 _ h=> ?_;refine h.new λb6 F2 h=> ?_;have h:=h.imp (A':=own (Z4 (ZO (ZX b6 0 ZR)) 0 0) 9 1 []) 0 rfl λH _ hH=>eY hH
 refine ⟨λm nm i F'=>∃(k:Nat) (G:PH),i=(k:Int)/\m=g.ZG.length - k/\k<=g.ZG.length/\G1.le G/\St G F' [own nm 9 1 (((g.ZG.take k).map Pr.name).map Value.string)]/\cP g [] g.ZG=cP g ((g.ZG.take k).map Pr.name) (g.ZG.drop k),g.ZG.length,
  ⟨0,G1,rfl,rfl,by omega,al _,h,rfl⟩,?_⟩
 rintro m nm i F3 ⟨k,G,rfl,rfl,hk,lG,h,hE⟩;have l1G:=aa l1 lG;unfold Cv;refine ⟨_,ld (h.le _ _ (lG _ _ q1)) rfl,λhlt=> ?_,λhge=> ?_⟩
 ·have hlt:k<g.ZG.length:=by omega
  refine ⟨_,ld (h.le _ _ (lG _ _ q1)) rfl,h.ix (hs.p.le l1G) (by decide) (by omega) (by omega) λa cc x hx hr hc=> ?_⟩;rw [N5] at hx;have hxm:=XQ hx;rw [bQ hx,cP] at hE;obtain ⟨hri,hla⟩:=hR x hxm;have hxc:=hz.p x hxm;refine ⟨_,Mem.len hc,hr,?_⟩;refine h.var (Mem.st hc) (λb5 G5 F5 l5 q5 h=> ?_) rfl (Mem.len hc);have lG5:=aa lG l5;have l1F:=aa l1 lG5;have hc0:=Mem.le l5 hc;obtain ⟨rr,rn,rl,rfl,hr1,hr2,hr3⟩:=id hc0;have e50:¬fa g x->∀{F':PH},F.le F'->(vi 50=vi (cP g [] g.ZG)/\F.le F'):=λhn F' hl=>⟨by rw [hE,Χ hn],hl⟩;refine ⟨_,rfl,ac (h.le _ _ (lG5 _ _ q1)),_,rfl,ac (h.le _ _ q5),?_⟩;refine (zr (hg0.le (aa l1F h.le)) (Mem.le h.le hc0) (by omega)).mono ?_;rintro _ F6 ⟨⟨b,rfl,hb⟩,l6⟩;have h:=h.up l6;refine ⟨b,rfl,λhn=>e50 (λho=>by rw [hb.2 ho] at hn;cases hn) (aa l1F h.le),λhsy=> ?_⟩;have hSy:=hb.1 (dc hsy);rw [Υ (μ hSy)] at hE;have e52:¬An g ((g.ZG.take k).map Pr.name) x->∀{F':PH},F.le F'->(vi 52=vi (cP g [] g.ZG)/\F.le F'):=λhn F' hl=>⟨by rw [hE,Χ hn],hl⟩;refine ⟨_,ld (h.le _ _ q5) rfl,?_⟩;refine tQ h x.name (by rw [XW,XX];omega) λs' G' F7 lG' h hrl=> ?_;have hnx:((g.ZG.take k).map Pr.name++[x.name])[k]? =ZO x.name:=by rw [X6 (by rw [XW,XX];omega),XW,XX,Nat.min_eq_left hk,Nat.sub_self];rfl
  have htk:((g.ZG.take k).map Pr.name++[x.name]).take k=(g.ZG.take k).map Pr.name:=by rw [Yb (by rw [XW,XX];omega),XY (by rw [XW,XX];omega)]
  refine (kq hrl (by rw [XT,XW,XX,X3];omega) hnx).mono ?_;rintro _ F8 ⟨⟨b2,rfl,hb2⟩,l8⟩;rw [htk] at hb2;have h:=h.up l8;have l1':=aa l1F lG';refine ⟨b2,rfl,λhn=>e52 (λho=>by rw [hb2.2 ⟨ho.1,ho.2.1⟩] at hn;cases hn) (aa l1' h.le),λhnw=>⟨#[rn.v,vi x.cond.2],rfl,iM (h.le _ _ (lG' _ _ q5)) rfl,_,ld (h.le _ _ (lG' _ _ (lG5 _ _ q1))) rfl,?_⟩⟩;have hNw:=hb2.1 (dc hnw);dsimp only;rw [ec];refine (jw (d:=x.cond) (DV.mk (hr2.le (aa lG' h.le))) (by unfold Fit;omega) hxc).mono ?_;rintro _ F9 ⟨rfl,l9⟩;have h:=h.up l9;have q5':=h.le _ _ (lG' _ _ q5);have lF9:=aa l1' h.le;refine ⟨_,rfl,λhn=>e52 (λho=>by rw [bG.2 ho.2.2.1] at hn;cases hn) lF9,λhft=>⟨_,ld q5' rfl,λhn=>e52 (λho=>by have:=ho.2.2.2.1;omega) lF9,λhr0=>⟨_,ld q5' rfl,λhn=>e52 (λho=>by have:=ho.2.2.2.2.1;omega) lF9,λhr9=>⟨_,rfl,ac q5',?_⟩⟩⟩⟩;have hFt:=bG.1 (dc hft);refine (pq (Mem.le (aa lG' h.le) hc0) (by omega) (by omega)).mono ?_;rintro _ F10 ⟨⟨b3,rfl,hb3⟩,l10⟩;have h:=h.up l10;have q6':=h.le _ _ (lG' _ _ q5);refine ⟨b3,rfl,λhn=>e52 (λho=>by rw [hb3.2 ho.2.2.2.2.2.1] at hn;cases hn) (aa l1' h.le),λh3=>⟨_,rfl,ac q6',?_⟩⟩;refine (Fw (Mem.le (aa lG' h.le) hc0) (by omega)).mono ?_;rintro _ F11 ⟨⟨b4,rfl,hb4⟩,l11⟩;have h:=h.up l11;have q7':=h.le _ _ (lG' _ _ q5);have lF11:=aa l1' h.le;refine ⟨b4,rfl,λhn=>e52 (λho=>by rw [hb4.2 ⟨ho.2.2.2.2.2.2.1,ho.2.2.2.2.2.2.2.1⟩] at hn;cases hn) lF11,λh4=>⟨_,ld q7' rfl,λhbr=>⟨_,rfl,ac q7',?_⟩,λhbr=> ?_⟩⟩
  ·refine (lL (Mem.le (aa lG' h.le) hc0) (by omega)).mono ?_;rintro _ F12 ⟨rfl,l12⟩;have h:=h.up l12;refine ⟨_,rfl,λhn=>e52 (λho=> ?_) (aa l1' h.le),λh5=> ?_⟩
   ·have:rg x=ZT:=yZ.2 (ho.2.2.2.2.2.2.2.2 hbr);rw [this] at hn;cases hn
   ·have hok:An g ((g.ZG.take k).map Pr.name) x:=⟨hNw.1,hNw.2,hFt,by omega,by omega,hb3.1 (dc h3),(hb4.1 (dc h4)).1,(hb4.1 (dc h4)).2,λ_=>yZ.1 (dc h5)⟩;rw [Υ (μ hok)] at hE;unfold pK;rw [aC hlt];refine ⟨g.ZG.length - (k+1),by omega,k+1,G',rfl,rfl,by omega,aa lG5 lG',?_,?_⟩
    ·rw [aQ hx,Yd];exact h
    ·rw [aQ hx,Yd];exact hE
  ·have hok:An g ((g.ZG.take k).map Pr.name) x:=⟨hNw.1,hNw.2,hFt,by omega,by omega,hb3.1 (dc h3),(hb4.1 (dc h4)).1,(hb4.1 (dc h4)).2,λhc=>by rw [hbr] at hc;cases hc⟩;rw [Υ (μ hok)] at hE;unfold pK;rw [aC hlt];refine ⟨g.ZG.length - (k+1),by omega,k+1,G',rfl,rfl,by omega,aa lG5 lG',?_,?_⟩
   ·rw [aQ hx,Yd];exact h
   ·rw [aQ hx,Yd];exact hE
 ·have e:k=g.ZG.length:=by omega
  rw [e,YB,cP] at hE;unfold Ct;exact ⟨by rw [hE],aa l1G h.le⟩
open Classical in
theorem y4 {v:Γ} {g:Gr} (hg:GV F v g) (hz:Sml g):ν 120 #[ZU v] F (RB F (∀x∈g.fils,ce g x)):=by
 have hg0:=hg;obtain ⟨c,n,t,s,p,l,f,rfl,hs⟩:=hg;have ef:=hs.f.len;have hfl:=hz.m.f;refine Sr ?_;unfold MM;refine fresh λb1 F1 l1 q1 _=> ?_;refine bi (wu · b1 _) g.fils.length (λk F'=>F1.le F'/\∀s∈g.fils.take k,ce g s) ⟨al _,by simp⟩ ?_;rintro k F3 N hk ⟨l3,hi⟩ next;have l13:=aa l1 l3;unfold wu;refine ⟨_,ld (l3 _ _ q1) rfl,λhlt=> ?_,λhge=> ?_⟩
 ·have hlt:k<g.fils.length:=by omega
  refine ⟨_,rfl,ac (l3 _ _ q1),_,ld (l3 _ _ q1) rfl,ixc (hs.f.le l13) (by decide) (by omega) (by omega) λa cc z hz' hrz hc=> ?_⟩;rw [N5] at hz';have hzm:=XQ hz';refine ⟨_,Mem.len hc,hrz,?_⟩;refine (ri (hg0.le l13) hc (hz.f z hzm) (hz.z.f z hzm)).mono ?_;rintro _ F4 ⟨rfl,l4⟩;refine ⟨_,rfl,ld (l4 _ _ (l3 _ _ q1)) rfl,λh=> .no (λho=> ?_) (aa l13 l4),λh=> ?_⟩
  ·rw [ζ (ho z hzm)] at h;cases h
  ·rw [aC hlt];refine next _ hlt ⟨aa l3 l4,λs hs'=> ?_⟩;rw [aQ hz'] at hs';rcases XR.1 hs' with hs'|hs'
   ·exact hi s hs'
   ·rw [XO.1 hs'];exact ε (dc h)
 ·have e:k=g.fils.length:=by omega
  subst e;rw [XZ] at hi;unfold Cy;exact .yes hi l13
def mks (n:Nat) (l:Φ):Ξ:=(List.range n).map λ(i:Nat)=>ZV (decide ((i:Int)∈l))
theorem xp {n:Nat} {l:Φ} {i:Nat} (h:i<n):(mks n l).toArray[i]? =ZO (ZV (decide ((i:Int)∈l))):=by unfold mks;rw [List.getElem?_toArray,X2,Yo h];rfl
theorem LO {n:Nat} {l:Φ} {i:Nat} (h:i<n):(mks n l).toArray.setIfInBounds i (ZV ZT)=(mks n (l++[(i:Int)])).toArray:=by
 apply Array.ext_getElem?;intro j;have hsz:∀l,(mks n l).toArray.size=n:=λl=>by simp [mks]
 by_cases hj:j<n
 ·rw [xp hj];by_cases e:i=j
  ·subst e;rw [Array.getElem?_setIfInBounds,Χ rfl,Χ (by rw [hsz];exact h),ζ (by simp)]
  ·rw [Array.getElem?_setIfInBounds_ne e,xp hj];congr 2;refine decide_eq_decide.2 ⟨λh=>by simp [h],λh=> ?_⟩;rcases XR.1 h with h|h
   ·exact h
   ·have:=XO.1 h;omega
 ·rw [Array.getElem?_eq_none (by rw [Array.size_setIfInBounds,hsz];omega),Array.getElem?_eq_none (by rw [hsz];omega)]
theorem St.newE {G F:PH} {As:List (Ψ)} (h:St G F As) {b:Nat} (hb:F b=ZR) (o:Obj):St G (F.set b o) (pt b o::As):=
 atE (h.new (K:=λb' F'=>b'=b->St G F' (pt b o::As)) (λb' F' h' e=>by subst e;exact h') b hb) rfl
theorem Be {v:Γ} {g:Gr} (hg:GV F v g) (hz:Sml g) (hlg:bN g=ZQ):ν 119 #[ZU v] F (RB F (dg g [] g.lvs)):=by
 obtain ⟨c,n,t,s,p,l,f,rfl,hs⟩:=hg;have ec:=hs.c.len;have ep:=hs.p.len;have el:=hs.l.len;obtain ⟨_,_,_,_,hp2,hl2,_⟩:=fb hlg;refine Sq ?_;unfold ML;refine (St.start F).newG λb1 G1 F1 l1 q1 _ h=>⟨_,ld (h.le _ _ q1) rfl,?_⟩;dsimp only;refine bW underlying211 Uq Ur rfl (by omega) (Zv _) (by omega) (by omega) ?_;intro bu hbu;refine ⟨_,rfl,?_⟩;rw [zc1 _ rfl,N5,ep];have e0:(List.replicate g.ZG.length (Value.bool ZQ)).toArray=(mks g.ZG.length []).toArray:=by
  congr 1;apply Yx;intro j;by_cases hj:j<g.ZG.length
  ·simp [mks,hj]
  ·rw [Yi (by simp;omega),Yi (by simp [mks];omega)]
 rw [e0];have h:=h.newE hbu (ZP (mks g.ZG.length []).toArray 4);generalize F1.set bu (ZP (mks g.ZG.length []).toArray 4)=F2 at*;refine bi (wq · b1 (Z4 (ZO (ZX bu 0 ZR)) g.ZG.length g.ZG.length) _) g.lvs.length (λk F'=>∃G,G1.le G/\St G F' [pt bu (ZP (mks g.ZG.length ((g.lvs.take k).flatMap Lv.ps)).toArray 4)]/\(dg g [] g.lvs↔dg g ((g.lvs.take k).flatMap Lv.ps) (g.lvs.drop k)))
  ⟨G1,al _,h,Iff.rfl⟩ ?_
 rintro k F3 N hk ⟨G,lG,h,hE⟩ next;have l1G:=aa l1 lG;unfold wq;refine ⟨_,ld (h.le _ _ (lG _ _ q1)) rfl,λhlt=> ?_,λhge=> ?_⟩
 ·have hlt:k<g.lvs.length:=by omega
  refine ⟨_,ld (h.le _ _ (lG _ _ q1)) rfl,h.ix (hs.l.le l1G) (by decide) (by omega) (by omega) λa cc x hx hr hc=> ?_⟩;rw [N5] at hx;have hxm:=XQ hx;rw [bQ hx,dg] at hE;refine ⟨_,Mem.len hc,hr,?_⟩;refine h.var (Mem.st hc) (λb5 G5 F5 l5 q5 h=> ?_) rfl (Mem.len hc);have lG5:=aa lG l5;have l1F:=aa l1 lG5;have hc0:=Mem.le l5 hc;obtain ⟨rp,rn,rfl,hr1,hr2⟩:=id hc0;have er:=hr1.len;have hpl:=hz.z.l x hxm;have bad:∀{F':PH},F.le F'->¬Kh g ((g.lvs.take k).flatMap Lv.ps) x->RB F (dg g [] g.lvs) (ZV ZQ) F':=λhl hn=> .no (λho=>hn (hE.1 ho).1) hl;refine ⟨_,ld (h.le _ _ q5) rfl,λhn=>bad (aa l1F h.le) λho=>by have:=ho.1;omega,λh1=>⟨_,ld (h.le _ _ q5) rfl,λhn=>bad (aa l1F h.le) λho=>by have:=ho.2.1;omega,λh2=>⟨#[rn.v,vi x.cond.2],rfl,iM (h.le _ _ q5) rfl,_,ld (h.le _ _ (lG5 _ _ q1)) rfl,?_⟩⟩⟩;dsimp only;rw [ec];refine (jw (d:=x.cond) (DV.mk (hr2.le h.le)) (by have:=hz.l x hxm;unfold Fit;omega) (hz.l x hxm)).mono ?_;rintro _ F6 ⟨rfl,l6⟩;have h:=h.up l6;refine ⟨_,rfl,λhn=>bad (aa l1F h.le) λho=>(by rw [bG.2 ho.2.2.1] at hn;cases hn),λhft=> ?_⟩;have hFt:=bG.1 (dc hft);refine bi (wo N · b1 (Z4 (ZO (ZX bu 0 ZR)) g.ZG.length g.ZG.length) (k:Int) b5 _) x.ps.length (λj F'=>St G5 F' [pt bu (ZP (mks g.ZG.length ((g.lvs.take k).flatMap Lv.ps++x.ps.take j)).toArray 4)]/\(∀p∈x.ps.take j,0<=p/\p<g.ZG.length)/\(x.ps.take j).Nodup/\∀p∈x.ps.take j,p ∉ (g.lvs.take k).flatMap Lv.ps)
   ⟨by rw [YJ,Ys];exact h,by simp,by simp,by simp⟩ ?_
  rintro j F7 N2 hj ⟨h,i1,i2,i3⟩ next2;unfold wo;refine ⟨_,ld (h.le _ _ q5) rfl,λhjl=> ?_,λhjl=> ?_⟩
  ·have hjl:j<x.ps.length:=by omega
   refine ⟨_,ld (h.le _ _ q5) rfl,h.ix hr1 (by decide) (by omega) (by omega) λa2 c2 y hy hry hcy=> ?_⟩;rw [N5] at hy;rw [show c2= #[vi y] from hcy] at hry;have hym:=XQ hy;have lF7:=aa l1F h.le;refine ⟨y,aS hry rfl,λhn=>bad lF7 λho=>by have:=ho.2.2.2.1 y hym;omega,λh0=>⟨λhn=>bad lF7 λho=>by have:=ho.2.2.2.1 y hym;have:(g.ZG.length:Int)<=y:=hn;omega,λh3=> ?_⟩⟩;have hyl:y.toNat<g.ZG.length:=by have:¬(g.ZG.length:Int)<=y:=h3;omega
   have hyn:((y.toNat:Nat):Int)=y:=Int.toNat_of_nonneg (by omega);have hcell:=xp (l:=(g.lvs.take k).flatMap Lv.ps++x.ps.take j) hyl;rw [hyn] at hcell;have ha:∀i:Nat,ZW (ZX bu 0 ZR) (i*1)=ZX bu i ZR:=λi=>by rw [aG,X5,Yj]
   refine ⟨_,rfl,by omega,by show y<(g.ZG.length:Int);omega,_,by rw [ha];exact h.ld0 hcell,λhb=>bad lF7 λho=> ?_,λhb=>⟨_,rfl,by omega,by show y<(g.ZG.length:Int);omega,?_⟩⟩
   ·have hb:=ε hb;rcases XR.1 hb with hb|hb
    ·exact ho.2.2.2.2.2 y hym hb
    ·have:=ho.2.2.2.2.1;rw [<- Zq j x.ps,Ye] at this;exact this.2.2 y hb y (by rw [bQ hy];simp) rfl
   ·have hb:=of_decide_eq_false hb;dsimp only;rw [ha];refine h.set0 (w':=(mks g.ZG.length ((g.lvs.take k).flatMap Lv.ps++x.ps.take (j+1))).toArray) (by simp [mks];exact hyl) (by rw [LO hyl,hyn,aQ hy,Yk]) λF8 h=> ?_;rw [aC hjl];refine next2 _ hjl ⟨h,λp hp=> ?_,?_,λp hp=> ?_⟩
    ·rw [aQ hy] at hp;rcases XR.1 hp with hp|hp
     ·exact i1 p hp
     ·rw [XO.1 hp];omega
    ·rw [aQ hy,Ye];refine ⟨i2,by simp,λa ha b hb'=> ?_⟩;rw [XO.1 hb'];intro e;subst e;exact hb (List.mem_append_right _ ha)
    ·rw [aQ hy] at hp;rcases XR.1 hp with hp|hp
     ·exact i3 p hp
     ·rw [XO.1 hp];exact λhm=>hb (Zb _ hm)
  ·have e:j=x.ps.length:=by omega
   subst e;rw [XZ] at h i1 i2 i3;unfold Cx;rw [aC hlt];refine next _ hlt ⟨G5,lG5,?_,?_⟩
   ·rw [aQ hx,YS,List.flatMap_singleton];exact h
   ·rw [aQ hx,YS,List.flatMap_singleton];exact hE.trans ⟨λh=>h.2,λh=>⟨⟨by omega,by omega,hFt,i1,i2,i3⟩,h⟩⟩
 ·have e:k=g.lvs.length:=by omega
  rw [e,YB,dg] at hE;unfold Cw;exact .yes (hE.2 trivial) (aa l1G h.le)
theorem y5 {v:Γ} {g:Gr} (hg:GV F v g) (hz:Sml g):ν 55 #[ZU v] F λr F'=>r=vi (ic g)/\F.le F':=by
 refine WE ?_;unfold R9;refine fresh λb1 F1 l1 q1 _=>⟨v,hg.size,ac q1,?_⟩;refine (Fv (hg.le l1) hz.m).mono ?_;rintro _ F2 ⟨⟨a1,rfl,h1⟩,l2⟩;have k2:=aa l1 l2;refine ⟨a1,rfl,λe=>⟨?_,k2⟩,λe=>⟨v,hg.size,ac (l2 _ _ q1),?_⟩⟩
 ·unfold ic;rw [Χ (h1.1 e)]
 have hL:bN g=ZQ:=by
  cases hb:bN g with
  |false=>rfl
  |true=>rw [h1.2 hb] at e;cases e
 refine (BS (hg.le k2) hz).mono ?_;rintro _ F3 ⟨⟨a2,rfl,h2⟩,l3⟩;have k3:=aa k2 l3;have q3:=l3 _ _ (l2 _ _ q1);refine ⟨a2,rfl,λe=>⟨?_,k3⟩,λe=>⟨v,hg.size,ac q3,?_⟩⟩
 ·rw [JK hL λh=>by rw [h2.2 h] at e;cases e]
 have hF:=h2.1 (dc e);refine (BT (hg.le k3) hz).mono ?_;rintro _ F4 ⟨⟨a3,rfl,h3⟩,l4⟩;have k4:=aa k3 l4;have q4:=l4 _ _ q3;refine ⟨a3,rfl,λe=>⟨?_,k4⟩,λe=>⟨v,hg.size,ac q4,?_⟩⟩
 ·rw [JL hL hF λh=>by rw [h3.2 h] at e;cases e]
 have hT:=h3.1 (dc e);refine (JI (hg.le k4) hz).mono ?_;rintro _ F5 ⟨⟨a4,rfl,h4⟩,l5⟩;have k5:=aa k4 l5;have q5:=l5 _ _ q4;refine ⟨a4,rfl,λe=>⟨?_,k5⟩,λe=>⟨v,hg.size,ac q5,?_⟩⟩
 ·rw [JM hL hF hT λh=>by rw [h4.2 h] at e;cases e]
 have hN:=h4.1 (dc e);refine (Fb (hg.le k5) hz hL).mono ?_;rintro _ F6 ⟨rfl,l6⟩;have k6:=aa k5 l6;have q6:=l6 _ _ q5;refine ⟨_,rfl,λe=>⟨?_,k6⟩,λe=>⟨v,hg.size,ac q6,?_⟩⟩
 ·rw [Fy hL hF hT hN rfl e]
 have hP:=Zw.1 e;refine (Be (hg.le k6) hz hL).mono ?_;rintro _ F7 ⟨⟨a6,rfl,h6⟩,l7⟩;have k7:=aa k6 l7;refine ⟨a6,rfl,λe=>⟨?_,k7⟩,λe=>⟨v,hg.size,ac (l7 _ _ q6),?_⟩⟩
 ·rw [JN hL hF hT hN hP λh=>by rw [h6.2 h] at e;cases e]
 have hV:=h6.1 (dc e);refine (y4 (hg.le k7) hz).mono ?_;rintro _ F8 ⟨⟨a7,rfl,h7⟩,l8⟩;have k8:=aa k7 l8;refine ⟨a7,rfl,λe=>⟨?_,k8⟩,λe=>⟨?_,k8⟩⟩
 ·rw [JO hL hF hT hN hP hV λh=>by rw [h7.2 h] at e;cases e]
 ·rw [pJ.2 ⟨hL,hF,hT,hN,hP,hV,h7.1 (dc e)⟩]
end
section
end
abbrev Ps (α:Type):=Δ->Option (α×Δ)
section
end
section
end
section
end
section
end
def tiT (x:Tk):Prop:=x.name.size<=100/\x.lit.size<=100/\x.pat.length<=100/\x.smp.size<=100/\x.cond.1.length<=1000
def tiP (n:Nat) (x:Pr):Prop:=x.name.size<=100/\x.right.length<=n/\x.cond.1.length<=1000/\x.lay.length<=100
def tiL (x:Lv):Prop:=x.ps.length<=100/\x.cond.1.length<=1000
def tiF (x:Fi):Prop:=x.ZI.length<=100/\x.cond.1.length<=1000
structure Ti (n:Nat) (g:Gr):Prop where
 c:g.ZJ.length<=3
 ci:∀s∈g.ZJ,s.size<=100
 fam:g.fam.1.length<=1000
 t:g.ZI.length<=100
 ti:∀x∈g.ZI,tiT x
 s:g.ZH.length<=100
 si:∀s∈g.ZH,s.size<=100
 p:g.ZG.length<=100
 pi:∀x∈g.ZG,tiP n x
 l:g.lvs.length<=n
 li:∀x∈g.lvs,tiL x
 f:g.fils.length<=n
 fi:∀x∈g.fils,tiF x
section
variable {g:Gr} {n:Nat}
theorem Ti.sz (h:Ti n g):Sz g:=⟨λs hs=>by have:=h.ci s hs;omega,λx hx=>by have:=(h.ti x hx).2.2.2.1;omega,λx hx=>by have:=(h.li x hx).1;omega,λx hx=>by have:=(h.fi x hx).1;omega⟩
theorem Ti.sm (h:Ti n g) (hn:n<=100):Sm g:=
 ⟨by have:=h.c;omega,by have:=h.fam;omega,by have:=h.t;omega,by have:=h.s;omega,by have:=h.p;omega,by have:=h.l;omega,by have:=h.f;omega,
  λx hx=>by have:=h.ti x hx;unfold tiT at this;omega,λx hx=>by have:=h.pi x hx;unfold tiP at this;omega,λx hx=>by have:=h.li x hx;unfold tiL at this;omega,λx hx=>by have:=h.fi x hx;unfold tiF at this;omega⟩
theorem Ti.sml (h:Ti n g) (hn:n<=100):Sml g:=
 ⟨h.sm hn,h.sz,by have:=h.fam;omega,λx hx=>by have:=h.ti x hx;unfold tiT at this;omega,λx hx=>by have:=h.pi x hx;unfold tiP at this;omega,λx hx=>by have:=h.li x hx;unfold tiL at this;omega,λx hx=>by have:=h.fi x hx;unfold tiF at this;omega⟩
end
theorem MG.addP {g:Gr} (h:MG g) {p:Pr} (hn:∀q∈g.ZG,q.name≠p.name) (hl:∀k,p.name≠bl k) (hp:PrI g.ZJ.length g.ZH.length p):MG {g with ZG:=g.ZG++[p]}:=by
 refine ⟨h.cs,h.fam,h.ZH,h.start,h.ZI,⟨?_,λq hq k hk hk2=> ?_⟩,λq hq=> ?_,⟨eB (g:=g) (g':={g with ZG:=g.ZG++[p]}) rfl (by show _<=(g.ZG++[p]).length;rw [XT];omega) _ _ h.lvs.1,h.lvs.2⟩,λx hx=>⟨rt (h.fils x hx).1,(h.fils x hx).2⟩⟩
 ·show ((g.ZG++[p]).map Pr.name).Nodup;rw [Yd,Ye];refine ⟨h.names.1,by simp,λx hx y hy=> ?_⟩;rw [Yf,List.map_nil,XO] at hy;obtain ⟨q,hq,rfl⟩:=X1.1 hx;rw [hy];exact hn q hq
 ·replace hk:(g.ZG++[p]).length<=k:=hk;rw [XT,X3] at hk;rcases XR.1 hq with hq|hq
  ·exact h.names.2 q hq k (by omega) hk2
  ·rw [XO.1 hq];exact hl k
 ·rcases XR.1 hq with hq|hq
  ·exact h.ZG q hq
  ·rw [XO.1 hq];exact hp
theorem Bd.addP {g:Gr} {a b:Nat} (h:Bd g a b) (p:Pr):Bd {g with ZG:=g.ZG++[p]} (a+1) b:=by have hp:=h.p;exact ⟨h.c,h.n0,h.n,by show (g.ZG++_).length≠0;rw [XT,X3];omega,by show (g.ZG++[_]).length<=_;rw [XT,X3];omega,h.t,h.l,h.lp,h.f⟩
theorem y6 (g:Gr) (y:Ru):(ruleG g y).ZG=g.ZG/\(ruleG g y).ZH=g.ZH:=by
 unfold ruleG nH kA tokG
 repeat' split
 all_goals exact ⟨rfl,rfl⟩
theorem mZ:∀(l:List Ru) (g:Gr),(eA l g).ZG=g.ZG/\(eA l g).ZH=g.ZH
 |[],g=>⟨rfl,rfl⟩
 |y::l,g=>by have:=mZ l (ruleG g y);have h2:=y6 g y;exact ⟨this.1.trans h2.1,this.2.trans h2.2⟩
theorem Bf (x:Rw) (g:Gr):(famG x g).ZG=g.ZG/\(famG x g).ZH=g.ZH:=by unfold famG;split<;>exact ⟨rfl,rfl⟩
def Qj (p:Pr):Prop:=∃s∈p.right,s.t=ZT
def Qk (p:Pr):Prop:=∀s∈p.right,s.t=ZQ->p.left<s.i
theorem IJ (p:Pr) (m:Nat):(cG p m).left=p.left/\(cG p m).right=p.right:=by
 unfold cG
 repeat' split
 all_goals exact ⟨rfl,rfl⟩
theorem Bg {l:List Sy} (h:dT l≠0):∃s∈l,s.t=ZT:=by have:(l.filter (·.t))≠[]:=λe=>h (by unfold dT;rw [e];rfl);obtain ⟨s,hs⟩:=List.exists_mem_of_ne_nil _ this;exact ⟨s,(Zg.1 hs).1,(Zg.1 hs).2⟩
theorem nc {x:Rw}:∀(l:List Ln) (g:Gr),(dU x l g).ZH=g.ZH/\∀p∈(dU x l g).ZG,p∈g.ZG\/((∃k,p.name=bl k)/\(Qj p\/(bO x=ZQ/\Qk p)))
 |[],g=>⟨rfl,λp hp=> .inl hp⟩
 |y::l,g=>by
  obtain ⟨e,ih⟩:=nc l (lineG g y (bO x));have e':(dU x (y::l) g)=dU x l (lineG g y (bO x)):=rfl;rw [e'];by_cases hc:dT (aO g.ZH.length y)=0/\(bO x=ZT\/dh (y.left % g.ZH.length) (aO g.ZH.length y)=ZQ)
  ·have e2:lineG g y (bO x)=g:=by unfold lineG;rw [Χ hc]
   rw [e2] at e ih ⊢;exact ⟨e,ih⟩
  ·have e2:lineG g y (bO x)={g with ZG:=g.ZG++[cG (jv g y) y.mark]}:=by unfold lineG;rw [Υ hc]
   rw [e2] at e ih ⊢;refine ⟨e,λp hp=> ?_⟩;rcases ih p hp with h|h
   ·rcases XR.1 h with h|h
    ·exact .inl h
    ·refine .inr ?_;rw [XO.1 h];obtain ⟨m1,m2⟩:=IJ (jv g y) y.mark;refine ⟨⟨g.ZG.length,by rw [ru];rfl⟩,?_⟩;unfold Qj Qk;rw [m1,m2];by_cases ht:dT (aO g.ZH.length y)=0
     ·refine .inr ⟨?_,λs hs hst=> ?_⟩
      ·cases hk:bO x with
       |false=>rfl
       |true=>exact absurd ⟨ht,.inl hk⟩ hc
      ·have hl:dh (y.left % g.ZH.length) (aO g.ZH.length y)=ZT:=by
        cases hl:dh (y.left % g.ZH.length) (aO g.ZH.length y) with
        |true=>rfl
        |false=>exact absurd ⟨ht,.inr hl⟩ hc
       unfold dh at hl;rw [Ym] at hl;have:=hl s hs;rw [hst,Zy] at this;exact ε this
     ·exact .inl (Bg ht)
   ·exact .inr h
theorem Bi (x:Rw):(dy x).ZH=(dE x).ZH/\∀p∈(dy x).ZG,p∈(dE x).ZG\/((∃k,p.name=bl k)/\(Qj p\/(bO x=ZQ/\Qk p))):=by unfold dy;obtain ⟨a1,a2⟩:=mZ (x.rules.take 6) (dU x (x.lines.take (cV x)) (famG x (dE x)));obtain ⟨b1,b2⟩:=nc (x:=x) (x.lines.take (cV x)) (famG x (dE x));obtain ⟨c1,c2⟩:=Bf x (dE x);rw [a1,a2,b1,c2];refine ⟨rfl,λp hp=> ?_⟩;have:=b2 p hp;rwa [c1] at this
def fH (k:Nat):ο:=⟨#[113]⟩++⟨#[UInt8.ofNat (97+k)]⟩
def LP:ο:=⟨#[99,121,99,108,101]⟩
def Fc:ο:=⟨#[110,111,116,104,105,110,103]⟩
def oc (s:ο):Prop:=(s.size≠2\/s.data[0]?≠ZO 113)/\s≠LP/\s≠Fc
instance (s:ο):Decidable (oc s):=by unfold oc;infer_instance
theorem Ql {s:ο} (h:oc s) (k:Nat):s≠fH k:=λe=>by
 rcases h.1 with h|h
 ·exact h (by rw [e];rfl)
 ·exact h (by rw [e];rfl)
theorem Fd (k:Nat):oc (bl k):=⟨.inr (by show ZO 112≠ZO 113;decide),λe=>by
 have:=congrArg ByteArray.size e;exact absurd this (by show (2:Nat)≠5;decide),λe=>by
 have:=congrArg ByteArray.size e
 exact absurd this (by show (2:Nat)≠7;decide)⟩
theorem Bj (k i:Nat):fH k≠bl i:=λe=>by have h1:(#[113,UInt8.ofNat (97+k)]:Array UInt8)= #[112,UInt8.ofNat (97+i)]:=congrArg ByteArray.data e;have h2:=congrArg (λa=>a[0]?) h1;simp at h2
theorem Fe {i k:Nat} (hi:i<100) (hk:k<100) (h:fH i=fH k):i=k:=by
 have h1:(#[113,UInt8.ofNat (97+i)]:Array UInt8)= #[113,UInt8.ofNat (97+k)]:=congrArg ByteArray.data h;have h2:=congrArg (λa=>a[1]?) h1;have h3:UInt8.ofNat (97+i)=UInt8.ofNat (97+k):=by simpa using h2
 have h4:=congrArg UInt8.toNat h3;simp at h4;omega
theorem y7 {k:Nat} (hk:k<6):(∀s∈(cq k).ZG.map Pr.name,oc s)/\∀s∈(cq k).ZH,s.size=1:=by
 have h:k=0\/k=1\/k=2\/k=3\/k=4\/k=5:=by omega
 rcases h with rfl|rfl|rfl|rfl|rfl|rfl
 ·exact ⟨by show ∀s∈cI.ZG.map Pr.name,oc s;decide,by show ∀s∈cI.ZH,s.size=1;decide⟩
 ·exact ⟨by show ∀s∈co.ZG.map Pr.name,oc s;decide,by show ∀s∈co.ZH,s.size=1;decide⟩
 ·exact ⟨by show ∀s∈dq.ZG.map Pr.name,oc s;decide,by show ∀s∈dq.ZH,s.size=1;decide⟩
 ·exact ⟨by show ∀s∈jR.ZG.map Pr.name,oc s;decide,by show ∀s∈jR.ZH,s.size=1;decide⟩
 ·exact ⟨by show ∀s∈gY.ZG.map Pr.name,oc s;decide,by show ∀s∈gY.ZH,s.size=1;decide⟩
 ·exact ⟨by show ∀s∈gZ.ZG.map Pr.name,oc s;decide,by show ∀s∈gZ.ZH,s.size=1;decide⟩
theorem y8 (x:Rw):(∀p∈(dE x).ZG,oc p.name)/\∀s∈(dE x).ZH,s.size=1:=by
 unfold dE;split
 ·rename_i h;obtain ⟨h1,h2⟩:=y7 (ε h);exact ⟨λp hp=>h1 _ (ZC hp),h2⟩
 ·refine ⟨λp hp=> ?_,λs hs=> ?_⟩
  ·rw [XO.1 hp];decide
  ·have:∀s∈([⟨#[83]⟩,⟨#[80]⟩,⟨#[81]⟩]:List ο),s.size=1:=by decide
   exact this s (Zd hs)
theorem Bk (x:Rw):(∀p∈(dy x).ZG,oc p.name)/\∀s∈(dy x).ZH,s.size=1:=by
 obtain ⟨h1,h2⟩:=Bi x;obtain ⟨a1,a2⟩:=y8 x;refine ⟨λp hp=> ?_,by rw [h1];exact a2⟩;rcases h2 p hp with h|⟨⟨k,h⟩,_⟩
 ·exact a1 p h
 ·rw [h];exact Fd k
def cf (nn b:Nat):Sy:=if 200<b then ⟨ZT,((b % 9:Nat):Int)⟩ else ⟨ZQ,((b % nn:Nat):Int)⟩
def od (g:Gr) (i:Nat) (y:Ln):Pr:={bH (fH i) ((y.left % g.ZH.length:Nat):Int) ((y.right.take 3).map (cf g.ZH.length)) with cond:=dia (ji y.cond g.ZJ.length)}
def IK (g:Gr) (i:Nat) (y:Ln):Gr:={g with ZG:=g.ZG++[od g i y]}
def eV (g:Gr):Nat->List Ln->Gr
 |_,[]=>g
 |i,y::l=>eV (IK g i y) (i+1) l
def gr (x:Rw) (more:List Ln):Gr:=eV (dy x) 0 (more.take 4)
theorem oY (y:Ln):∀(l:List Ln) (g:Gr) (i:Nat),eV g i (l++[y])=IK (eV g i l) (i+l.length) y
 |[],g,i=>rfl
 |z::l,g,i=>by rw [YA];unfold eV;rw [oY y l,X4];congr 1;omega
theorem Ff {g:Gr} (i:Nat) (y:Ln) (hc:g.ZJ.length<=3) (hn:g.ZH.length≠0):PrI g.ZJ.length g.ZH.length (od g i y):=by
 have hlen:((y.right.take 3).map (cf g.ZH.length)).length<=3:=by rw [XW,XX];omega
 refine ⟨⟨_,jW (by omega),rfl⟩,⟨by show (0:Int)<=((y.left % g.ZH.length:Nat):Int);omega,?_⟩,by show ((y.right.take 3).map _).length<=5;omega,λs hs=> ?_,⟨by show (-1:Int)<=0;decide,by show (0:Int)<=1;decide⟩,by show 0<=2;decide,⟨λy hy=>(by cases hy),jA _ _ _,jA _ _ _,λh=>(by cases h)⟩,?_,?_⟩
 ·show ((y.left % g.ZH.length:Nat):Int)<_;have:=YT y.left (Zo hn);omega
 ·obtain ⟨b,hb,rfl⟩:=X1.1 (show s∈(y.right.take 3).map (cf g.ZH.length) from hs);unfold cf;split
  ·exact ⟨by show (0:Int)<=((b % 9:Nat):Int);omega,λ_=>by show ((b % 9:Nat):Int)<9;omega,λh=>(by cases h)⟩
  ·refine ⟨by show (0:Int)<=((b % g.ZH.length:Nat):Int);omega,λh=>(by cases h),λ_=> ?_⟩;show ((b % g.ZH.length:Nat):Int)<_;have:=YT b (Zo hn);omega
 ·intro e;have h2:(2:Nat)=0:=congrArg ByteArray.size (show fH i=emp from e);cases h2
 ·show (fH i).size<=13;show 2<=13;decide
structure LG (g:Gr) (i:Nat):Prop where
 mg:MG g
 bd:Bd g (18+i) 10
 nm:∀p∈g.ZG,∀k,i<=k->k<100->p.name≠fH k
theorem LG.made (x:Rw):LG (dy x) 0:=⟨(Cb x).1,(Cb x).2,λp hp k _ _=>Ql ((Bk x).1 p hp) k⟩
theorem LG.add {g:Gr} {i:Nat} (h:LG g i) (hi:i<50) (y:Ln):LG (IK g i y) (i+1):=by
 refine ⟨h.mg.addP (λq hq=>h.nm q hq i (XS _) (by omega)) (λk=>Bj i k) (Ff i y h.bd.c h.bd.n0),h.bd.addP _,λp hp k hk hk2=> ?_⟩;rcases XR.1 (show p∈g.ZG++[od g i y] from hp) with hp|hp
 ·exact h.nm p hp k (by omega) hk2
 ·rw [XO.1 hp];intro e;have:=Fe (by omega) hk2 (show fH i=fH k from e);omega
theorem LG.list:∀(l:List Ln) {g:Gr} {i:Nat},LG g i->i+l.length<50->LG (eV g i l) (i+l.length)
 |[],_,_,h,_=>h
 |y::l,g,i,h,hl=>by rw [X4] at hl ⊢;have:=LG.list l (h.add (by omega) y) (by omega);rwa [show i+1+l.length=i+(l.length+1) by omega] at this
theorem IL (x:Rw) (more:List Ln):LG (gr x more) (min 4 more.length):=by have:=LG.list (more.take 4) (LG.made x) (by rw [XX];omega);rwa [XX,X5] at this
section
variable {g:Gr} {i:Nat}
theorem LG.ok (h:LG g i) (hi:i<=50):OkK g g.ZJ.length:=⟨h.mg.ok h.bd (by omega) (by decide),rfl,by have:=h.bd.c;omega⟩
theorem LG.ti (h:LG g i) (hi:i<=50):Ti 50 g:=by
 have hcl:=h.bd.c;have hpl:=h.bd.p;have hnl:=h.bd.n;have htl:=h.bd.t;have hll:=h.bd.l;have hfl:=h.bd.f;obtain ⟨t,ht,ht0,hf⟩:=h.mg.fam;refine ⟨hcl,λs hs=> ?_,by have:=ht.brl (by omega);rw [hf];omega,by omega,λx hx=> ?_,by omega,λs hs=>by have:=h.mg.ZH.2 s hs;omega,by omega,λx hx=> ?_,by omega,λx hx=> ?_,by omega,λx hx=> ?_⟩
 ·obtain ⟨n,hn,hc⟩:=h.mg.cs;rw [hc] at hs;have:∀s∈abc,s.size<=100:=by decide
  exact this s (Zd hs)
 ·have:rq x∈dS:=by rw [<- h.mg.ZI.1];exact ZC hx
  have h2:∀u∈dS,u.name.size<=100/\u.lit.size<=100/\u.pat.length<=100/\u.smp.size<=100:=by decide
  obtain ⟨a1,a2,a3,a4⟩:=h2 _ this;exact ⟨a1,a2,a3,a4,by have:=(h.mg.ZI.2 x hx).len (by omega);omega⟩
 ·have k:=h.mg.ZG x hx;exact ⟨by have:=k.nm.2;omega,by have:=k.rl;omega,by have:=k.cond.len (by omega);omega,by have:=k.lay;omega⟩
 ·exact ⟨by have:=h.bd.lp x hx;omega,by have:=(h.mg.lvs.2 x hx).len (by omega);omega⟩
 ·exact ⟨by have:=(h.mg.fils x hx).2.2;omega,by have:=(h.mg.fils x hx).2.1.len (by omega);omega⟩
theorem LG.rl (h:LG g i):∀x∈g.ZG,x.right.length<=1000000:=λx hx=>by have:=(h.mg.ZG x hx).rl;omega
end
theorem Vm:∃b z,SlT 50 63 2 b z:=IX
theorem Vn:∃b z,SlT 33 55 13 b z:=⟨_,_,underlying33,U8,Vc,rfl,by decide,by decide⟩
abbrev Bl (nm:ByteArray) (left:Int) (r n:Sl) (d:Int):Γ:= #[.string nm,vi left,r.v,n.v,vi d,ZV ZQ,vi 0,.slice ZR 0 0,.bool ZQ,vi 0,vi 0,vi 0,vi 0]
theorem Fh (l:List Sy) (y:Sy):cat (l.map Sy.arr)++y.arr.toList=cat ((l++[y]).map Sy.arr):=by rw [Yd,bR];simp [cat]
theorem Bm {G:PH} (l:List Sy):df G l (l.map Sy.arr):=by
 induction l with
 |nil=>exact .nil
 |cons x l ih=>exact .cons rfl ih
section
variable {F:PH}
theorem Bn {v:Γ} {x:Rw} {sm:Sl} {more:List Ln} (hx:zZ F v x) (hm:RL F sm more):ν 13 #[ZU v,sm.v] F (LR F (gr x more)):=by
 obtain ⟨_,_,TS⟩:=Vm;obtain ⟨_,_,TP⟩:=Vn;have em:=hm.len;have emc:=hm.cap;refine Xr ?_;unfold Vx;have hvs:v.size=5:=by obtain ⟨⟨a,b,c,rfl,_⟩,_⟩:=hx;rfl
 refine (St.start F).newG λb2 G1 F1 l1 q2 _ h=>h.new λb4 F2 h=>⟨v,hvs,ac (h.le _ _ q2),?_⟩;refine h.run (P:=λr G'=>∃w,r=ZU w/\GV G' w (dy x)) (yd (hx.le l1)) λ_ G3 F3 hr l3 h=> ?_;obtain ⟨w,rfl,hg⟩:=hr;refine ⟨w,rfl,?_⟩;obtain ⟨c,n,t,s,p,l,f,rfl,hgs⟩:=hg;have l13:=aa l1 l3;refine h.new λb5 F4 h=> ?_;refine h.put0 (w':=(dy x).arr c n t s p l f) rfl rfl (by simp [am,ZS]) λF5 h=> ?_;have hmin:(more.take 4).length=min 4 more.length:=XX ..
 refine bi (BA · sm b4 b5 _) (min 4 more.length) (λi F'=>∃(G':PH) (p':Sl),G3.le G'/\GS G' (eV (dy x) 0 ((more.take 4).take i)) c n t s p' l f/\
  ∃Bs,St G' F' ([pt b5 (ZP ((eV (dy x) 0 ((more.take 4).take i)).arr c n t s p' l f) 37),pt b4 (ZP zG 37)]++Bs)) ⟨G3,p,al _,hgs,[],h⟩ ?_
 rintro i F6 N1 hi ⟨G4,p4,l4,hg4,Bs,h⟩ next;replace h:St G4 F6 [pt b5 (ZP ((eV (dy x) 0 ((more.take 4).take i)).arr c n t s p4 l f) 37),pt b4 (ZP zG 37)]:=h.pick id (λ_ _ _ _ e=>e) λi hi=>by rw [id,X0 hi]
 unfold BA;have lg:LG (eV (dy x) 0 ((more.take 4).take i)) i:=by have:=LG.list ((more.take 4).take i) (LG.made x) (by rw [XX,hmin];omega);rw [XX,hmin,X5] at this;rwa [show min i (min 4 more.length)=i by omega] at this
 have done:i=min 4 more.length->xw b4 b5 (LR F (gr x more)) F6:=λe=>by
  have e2:eV (dy x) 0 ((more.take 4).take i)=gr x more:=by unfold gr;rw [XY (l:=more.take 4) (by omega)]
  rw [e2] at h hg4;unfold xw;refine ⟨_,rfl,ac (h.ptAt (i:=0) rfl),?_⟩;refine h.put1 (w':=(gr x more).arr c n t s p4 l f) rfl rfl (by simp [am,ZS]) λF7 h=> ?_;exact ⟨_,rfl,ac (h.ptAt (i:=1) rfl),⟨_,rfl,c,n,t,s,p4,l,f,rfl,hg4.le h.le⟩,aa l13 (aa l4 h.le)⟩
 refine ⟨λhlt=>⟨λhi4=> ?_,λhi4=>done (by omega)⟩,λhlt=>done (by omega)⟩;have hil:i<more.length:=by omega
 have hi4':i<4:=by omega
 obtain ⟨y,hy⟩:∃y,more[i]? =ZO y:=⟨_,N6 hil⟩;have htake:(more.take 4).take (i+1)=(more.take 4).take i++[y]:=by rw [Yy,Yp (by omega),hy];rfl
 have hnext:eV (dy x) 0 ((more.take 4).take (i+1))=IK (eV (dy x) 0 ((more.take 4).take i)) i y:=by rw [htake,oY,X5,XX,hmin,show min i (min 4 more.length)=i by omega]
 generalize eV (dy x) 0 ((more.take 4).take i)=g at*;have es:=hg4.s.len;have ec:=hg4.c.len;have ep:=hg4.p.len;have hc3:=lg.bd.c;have hn0:=lg.bd.n0;have hn3:=lg.bd.n;have hp22:=lg.bd.p;have l14:=aa l13 l4;refine ixc (hm.le l14) (by decide) (by omega) (by omega) λa31 c31 y' hy' hrow31 hc31=> ?_;rw [N5,hy] at hy';cases hy';obtain ⟨ry,rfl,hry,hyl,hyc,_,hyr⟩:=hc31;have ery:=hry.len;rw [XW,Yj] at ery;refine ⟨(y.left:Int),aS (aT h.le hrow31) rfl,s,ld (h.ptAt (i:=0) rfl) rfl,by omega,?_⟩;have el:Z5 (i64.wrap (y.left:Int)) (s.len:Int)=((y.left % g.ZH.length:Nat):Int):=by rw [es,aR (by omega),gg]
 have ecx:u8.wrap (i64.wrap ((97:Int)+(i:Int)))=((97+i:Nat):Int):=by rw [show (97:Int)+(i:Int)=((97+i:Nat):Int) by omega,aR (by omega),x7 (by omega)]
 rw [ecx,el];have sz2:(ByteArray.mk #[113]).size+(ByteArray.mk #[UInt8.ofNat (97+i)]).size<=9223372036854775807:=by show 1+1<=9223372036854775807;decide
 have fin:∀{G' F':PH} {b7:Nat},G4.le G'->St G' F' [pt b7 (ZP (Bl (fH i) ((y.left % g.ZH.length:Nat):Int) Z3 Z3 0) 55),pt b5 (ZP (g.arr c n t s p4 l f) 37),pt b4 (ZP zG 37)]->
   xA N1 sm b4 b5 (i:Int) (ZO (ZX b7 0 ZR)) (LR F (gr x more)) F':=λ{G' F' b7} l5 h=>by
  unfold xA;refine ixc (hm.le (aa l14 l5)) (by decide) (by omega) (by omega) λa42 c42 y' hy' hrow42 hc42=> ?_;rw [N5,hy] at hy';cases hy';obtain ⟨ry,rfl,hry,hyl,hyc,_,hyr⟩:=hc42;have ery:=hry.len;rw [XW,Yj] at ery;refine ⟨ry,aZ (aT h.le hrow42) (i:=1) rfl,?_⟩;have h:=(h.nilOwn 63 2).swap;have hmr:(y.right.take 3).length=min 3 y.right.length:=XX ..
  refine bi (Bz N1 · sm b4 b5 (i:Int) (ZO (ZX b7 0 ZR)) ry _) (min 3 y.right.length) (λk F'=>∃(G'':PH) (sr:Sl),G'.le G''/\sr.len=k/\
   ∃Bs,St G'' F' ([pt b7 (ZP (Bl (fH i) ((y.left % g.ZH.length:Nat):Int) sr Z3 0) 55),own sr 63 2 (cat ((((y.right.take 3).map (cf g.ZH.length)).take k).map Sy.arr)),pt b5 (ZP (g.arr c n t s p4 l f) 37),pt b4 (ZP zG 37)]++Bs)) ⟨G',Z3,al _,rfl,[],h⟩ ?_
  rintro k F7 N2 hk ⟨G5,sr,l6,hsr,Bs,h⟩ next2;replace h:St G5 F7 [pt b7 (ZP (Bl (fH i) ((y.left % g.ZH.length:Nat):Int) sr Z3 0) 55),own sr 63 2 (cat ((((y.right.take 3).map (cf g.ZH.length)).take k).map Sy.arr)),pt b5 (ZP (g.arr c n t s p4 l f) 37),pt b4 (ZP zG 37)]:=h.pick id (λ_ _ _ _ e=>e) λi hi=>by rw [id,X0 hi]
  have l46:=aa l5 l6;unfold Bz;have done2:k=min 3 y.right.length->xy N1 sm b4 b5 (i:Int) (ZO (ZX b7 0 ZR)) (LR F (gr x more)) F7:=λe=>by
   rw [XY (by rw [XW,hmr];omega)] at h;obtain ⟨G6,l7,hd,h⟩:=h.swap.pinO;have hsy:RL G6 sr ((y.right.take 3).map (cf g.ZH.length)):=⟨_,Bm _,hd⟩;have l47:=aa l46 l7;have hg6:=hg4.le l47;unfold xy;refine ixc (hm.le (aa l14 l47)) (by decide) (by omega) (by omega) λa85 c85 y' hy' hrow85 hc85=> ?_;rw [N5,hy] at hy';cases hy';obtain ⟨ry',rfl,_⟩:=hc85;refine ⟨(y.cond:Int),aZ (aT h.le hrow85) (i:=2) rfl,c,ld (h.ptAt (i:=1) rfl) rfl,?_⟩;dsimp only;rw [ec];refine h.run (rc y.cond g.ZJ.length hyc (by omega) _) λ_ G7 F8 hr l8 h=> ?_;obtain ⟨⟨_,rfl,hw⟩,-⟩:=hr;obtain ⟨m,rfl,hmm⟩:=hw.out;refine ⟨_,rfl,ld (h.ptAt (i:=1) rfl) rfl,_,rfl,?_⟩;simp only [aG];refine h.putR0 (o:=3) (w':=(od g i y).arr sr m Z3) rfl (by simp [am,ZS]) (by show 3+2<=13;decide) rfl λF9 h=> ?_;have hP:Mem.rep G7 (od g i y) ((od g i y).arr sr m Z3):=⟨sr,m,Z3,rfl,hsy.le l8,hmm,RL.nil _⟩;refine ⟨p4,ld (h.ptAt (i:=1) rfl) rfl,_,rfl,ac (h.ptAt (i:=0) rfl),?_⟩;have hg7:=hg6.le l8;refine St.grow TP h hg7.p hP (by omega) rfl (λG' F' st=>ac (st.ptAt (i:=0) rfl)) λs' G8 F10 l9 hs' h=> ?_;have hg8:=hg7.le l9;refine h.set1 (w':=(IK g i y).arr c n t s s' l f) (Z8 rfl) rfl λF11 h=> ?_;unfold xx;rw [aC (n:=4) hi4' (by decide)];have hlt':i<min 4 more.length:=by omega
   have hfin:=next F11 hlt';rw [hnext] at hfin;exact hfin ⟨G8,s',aa l4 (aa l47 (aa l8 l9)),⟨hg8.c,hg8.n,hg8.t,hg8.s,hs',hg8.l,hg8.f⟩,_,h.rot⟩
  refine ⟨λhkl=>⟨λhk3=> ?_,λhk3=>done2 (by omega)⟩,λhkl=>done2 (by omega)⟩;have hkr:k<y.right.length:=by omega
  obtain ⟨b,hb⟩:∃b,y.right[k]? =ZO b:=⟨_,N6 hkr⟩;have hb256:b<256:=hyr b (XQ hb);have hsym:((y.right.take 3).map (cf g.ZH.length))[k]? =ZO (cf g.ZH.length b):=by rw [X2,Yp (by omega),hb];rfl
  have hst:((y.right.take 3).map (cf g.ZH.length)).take (k+1)=((y.right.take 3).map (cf g.ZH.length)).take k++[cf g.ZH.length b]:=by rw [Yy,hsym];rfl
  have hat:∀{G' F':PH} {As:List (Ψ)},G5.le G'->St G' F' As->∃a,ry.ZK=ZO a/\0<=(k:Int)/\(k:Int)<(ry.len:Int)/\F'.cell (ZW a (ZY (k:Int)*1))=ZO (vB b):=λl h=>
   (((hry.le l6).le l).le h.le).at6 (by rw [X2,hb];rfl)
  obtain ⟨a57,e1,e2,e3,e4⟩:=hat (al _) h;refine ⟨a57,e1,e2,e3,(b:Int),e4,s,ld (h.ptAt (i:=2) rfl) rfl,by omega,?_⟩;have eb:Z5 (i64.wrap (b:Int)) (s.len:Int)=((b % g.ZH.length:Nat):Int):=by rw [es,aR (by omega),gg]
  have eb9:Z5 (i64.wrap (b:Int)) (9:Int)=((b % 9:Nat):Int):=by rw [aR (by omega)];exact gg b 9
  rw [eb];refine h.new λb10 F8 h=> ?_;refine h.put0 (w':= #[ZV ZQ,vi ((b % g.ZH.length:Nat):Int)]) rfl rfl (by simp [am]) λF9 h=> ?_;obtain ⟨a67,f1,f2,f3,f4⟩:=hat (al _) h;refine ⟨a67,f1,f2,f3,(b:Int),f4,?_⟩;have fin5:∀{F':PH} {sy:Sy},sy=cf g.ZH.length b->St G5 F' [pt b10 (ZP sy.arr 63),pt b7 (ZP (Bl (fH i) ((y.left % g.ZH.length:Nat):Int) sr Z3 0) 55),own sr 63 2 (cat ((((y.right.take 3).map (cf g.ZH.length)).take k).map Sy.arr)),pt b5 (ZP (g.arr c n t s p4 l f) 37),pt b4 (ZP zG 37)]->
    xz N1 N2 sm b4 b5 (i:Int) (ZO (ZX b7 0 ZR)) ry (k:Int) b10 (LR F (gr x more)) F':=λ{F' sy} esy h=>by
   unfold xz;refine ⟨_,rfl,sr,by rw [aG];exact ld (h.ptAt (i:=1) rfl) rfl,sy.arr,rfl,ac (h.ptAt (i:=0) rfl),rfl,?_⟩;refine h.push2 TS (c:=sy.arr) rfl (by simp [am]) (by omega) λs' G6 F10 l7 h hl'=> ?_;rw [Fh,esy,<- hst] at h;simp only [aG];refine h.set1 (w':=Bl (fH i) ((y.left % g.ZH.length:Nat):Int) s' Z3 0) (Z8 rfl) rfl λF11 h=> ?_;rw [aC (n:=3) (by omega) (by decide)];exact next2 _ (by omega) ⟨G6,s',aa l6 l7,by omega,_,h.rot⟩
  refine ⟨λhgt=> ?_,λhle=> ?_⟩
  ·obtain ⟨a72,g1,g2,g3,g4⟩:=hat (al _) h;refine ⟨a72,g1,g2,g3,(b:Int),g4,?_⟩;dsimp only;rw [eb9];refine h.put0 (w':= #[ZV ZT,vi ((b % 9:Nat):Int)]) rfl rfl (by simp [am]) λF10 h=> ?_;exact fin5 (sy:=⟨ZT,((b % 9:Nat):Int)⟩) (by unfold cf;rw [if_pos (by omega)]) h
  ·exact fin5 (sy:=⟨ZQ,((b % g.ZH.length:Nat):Int)⟩) (by unfold cf;rw [Υ (by omega)]) h
 refine ⟨?_,?_⟩
 ·refine h.newG λb26 G5 F7 l5 q26 _ h=> ?_;refine ⟨_,iD (h.le _ _ q26),sz2,?_⟩;refine h.new λb7 F8 h=> ?_;refine h.put0 (w':=Bl (fH i) ((y.left % g.ZH.length:Nat):Int) Z3 Z3 0) rfl rfl (by simp [am,ZS,Z3]) λF9 h=> ?_;exact fin l5 h
 ·refine h.new λb7 F8 h=> ?_;refine h.newG λb26 G5 F7 l5 q26 _ h=> ?_;refine ⟨_,iD (h.le _ _ q26),sz2,?_⟩;refine h.put0 (w':=Bl (fH i) ((y.left % g.ZH.length:Nat):Int) Z3 Z3 0) rfl rfl (by simp [am,ZS,Z3]) λF9 h=> ?_;exact fin l5 h
end
theorem IM {F:PH} {a:Addr} {x:Pr} {r n l:Sl} (h:F.row a (x.arr r n l)):F.row (a.add 3) #[n.v,vi x.cond.2]:=Ch h rfl
theorem Fj {F:PH} {a:Addr} {x:Tk} {p n:Sl} (h:F.row a (x.arr p n)):F.row (a.add 5) #[n.v,vi x.cond.2]:=Ch h rfl
theorem ga {k:Nat} {a b:Tr} {u w:Γ} {F:PH} (hk:k<=6) (ha:Sx k a) (hb:Sx k b) (hu:DV F u (dia a)) (hw:DV F w (dia b)):ν 45 #[ZU u,ZU w] F λr F'=>lI (dia (ap2 aY a b)) r F'/\F.le F':=
 (iL hu hw (ha.f2 hb hk)).mono λ_ _ ⟨w,h1,h2,h3⟩=>⟨⟨w,h1,h2⟩,h3⟩
theorem va {k:Nat} {a b:Tr} {u w:Γ} {F:PH} (hk:k<=6) (ha:Sx k a) (hb:Sx k b) (hu:DV F u (dia a)) (hw:DV F w (dia b)):ν 123 #[ZU u,ZU w] F λr F'=>lI (dia (ap2 oOr a b)) r F'/\F.le F':=
 (sH hu hw (ha.f2 hb hk)).mono λ_ _ ⟨w,h1,h2,h3⟩=>⟨⟨w,h1,h2⟩,h3⟩
section
variable {F:PH} {g:Gr} {k:Nat}
theorem ft {v:Γ} (hg:GV F v g) (hk:OkK g k) {i:Nat} (hi:i<g.ZG.length):ν 70 #[ZU v,vi i] F λr F'=>lI (dia (aF g i)) r F'/\F.le F':=by
 obtain ⟨o1,o2,o3,o4⟩:=cH hk.ok;obtain ⟨c,n,t,s,p,l,f,rfl,hs⟩:=hg;have ep:=hs.p.len;have et:=hs.t.len;refine XD ?_;unfold VK;refine (St.start F).newG λb2 G1 F1 l1 q2 _ h=>h.new λb4 F2 h=> ?_;have hs1:=hs.le l1;have hf:DV G1 #[n.v,vi g.fam.2] (dia (tre g.fam)):=by rw [<- hk.fam.2];exact DV.mk hs1.n
 refine ⟨#[n.v,vi g.fam.2],rfl,iM (h.le _ _ q2) rfl,_,ld (h.le _ _ q2) rfl,?_⟩;refine ixc hs1.p (by decide) (by omega) (by omega) λa13 c13 x hx hrow hc=> ?_;rw [N5] at hx hrow ⊢;have hxm:=XQ hx;obtain ⟨hxc,hxd,_,hsy⟩:=hk.prod hxm;have hxl:=o4 x hxm;obtain ⟨r,n8,l8,rfl,hr,hn8,_⟩:=hc;have er:=hr.len;have hd2:DV G1 #[n8.v,vi x.cond.2] (dia (tre x.cond)):=by rw [<- hxd];exact DV.mk hn8
 refine ⟨#[n8.v,vi x.cond.2],rfl,aT h.le (IM hrow),?_⟩;have hfc:=hk.fam.1.ap2 (o:=aY) hxc;have ep2:aF g i=jq g (ap2 aY (tre g.fam) (tre x.cond)) x.right:=by unfold aF;rw [hx]
 have fin:∀{G' F':PH} {y:Γ} {b5:Nat},G1.le G'->DV G' y (dia (ap2 aY (tre g.fam) (tre x.cond)))->St G' F' [pt b5 (ZP y 31),pt b4 (ZP zD 31)]->
   xF (i:Int) b2 b4 (ZO (ZX b5 0 ZR)) (λr F'=>lI (dia (aF g i)) r F'/\F.le F') F':=λ{G' F' y b5} l2 hy h=>by
  unfold xF;have q22:=l2 _ _ q2;refine ⟨_,ld (h.le _ _ q22) rfl,?_⟩;refine ixc (hs1.p.le l2) (by decide) (by omega) (by omega) λa20 c20 x' hx' hrow20 hc20=> ?_;rw [N5] at hx' hrow20 ⊢;rw [hx] at hx';cases hx';obtain ⟨r,n8,l8,rfl,hr,_⟩:=hc20;have er:=hr.len;refine ⟨r,aZ (aT h.le hrow20) (i:=2) rfl,?_⟩;refine bi (BM · b2 b4 (ZO (ZX b5 0 ZR)) r _) x.right.length (λj F'=>∃(G'':PH) (u:Γ),G'.le G''/\DV G'' u (dia (jq g (ap2 aY (tre g.fam) (tre x.cond)) (x.right.take j)))/\St G'' F' [pt b5 (ZP u 31),pt b4 (ZP zD 31)]) ⟨G',y,al _,by rw [YJ];exact hy,h⟩ ?_;rintro j F3 N hj ⟨G3,u,l3,hu,h⟩ next;have l13:=aa l2 l3;unfold BM;refine ⟨λhlt=> ?_,λhge=> ?_⟩
  ·have hlt:j<x.right.length:=by omega
   refine ixc (hr.le l3) (by decide) (by omega) (by omega) λa31 c31 sy hsj hrow31 hc31=> ?_;rw [N5] at hsj;obtain rfl:c31=sy.arr:=hc31;obtain ⟨s0,_,s2⟩:=hsy sy (XQ hsj);have et2:=dD hsj;have hsn:=nA (g:=g) sy (x.right.take j) (ap2 aY (tre g.fam) (tre x.cond));refine ⟨sy.t,aS (aT h.le hrow31) rfl,λht=> ?_,λht=> ?_⟩
   ·rw [Χ ht] at hsn;obtain ⟨tk,htk,_⟩:=s2 ht;have ed:ku g sy.i=tre tk.cond:=by unfold ku;rw [htk]
    obtain ⟨tx,td⟩:=hk.tok (XQ htk);have hti:sy.i.toNat<g.ZI.length:=(XN.1 htk).1;refine ⟨_,rfl,u,hu.size,ac (h.ptAt (i:=0) rfl),_,ld (h.le _ _ (l3 _ _ q22)) rfl,?_⟩;refine ixc (hr.le l3) (by decide) (by omega) (by omega) λa39 c39 sy' hsj' hrow39 hc39=> ?_;rw [N5,hsj] at hsj';cases hsj';obtain rfl:c39=sy.arr:=hc39;refine ⟨sy.i,aZ (aT h.le hrow39) (i:=1) rfl,?_⟩;refine ixc (hs1.t.le l13) (by decide) s0 (by omega) λa42 c42 tk' htk' hrow42 hc42=> ?_;rw [htk] at htk';cases htk';obtain ⟨pp,nn,rfl,_,hnn⟩:=hc42;have hdt:DV G3 #[nn.v,vi tk.cond.2] (dia (ku g sy.i)):=by rw [ed,<- td];exact DV.mk hnn
    obtain ⟨fx,_⟩:=eW hk (x.right.take j) hfc;refine ⟨#[nn.v,vi tk.cond.2],rfl,aT h.le (Fj hrow42),?_⟩;refine h.run (ga hk.le fx (hk.tkd sy.i) hu hdt) λ_ G4 F4 hr4 l4 h=> ?_;obtain ⟨z,rfl,hz⟩:=hr4;refine ⟨z,rfl,aZ (aT (aa l4 h.le) hrow39) (i:=1) rfl,ld (h.le _ _ (l4 _ _ (l3 _ _ q22))) rfl,?_⟩;refine h.put0 (w':=z) hz.size hu.size hz.st λF5 h=> ?_;unfold xE;rw [aC hlt];refine next _ hlt ⟨G4,z,aa l3 l4,?_,h⟩;rw [et2,hsn];exact hz
   ·rw [Υ (by rw [ht];decide)] at hsn;unfold xE;rw [aC hlt];refine next _ hlt ⟨G3,u,l3,?_,h⟩;rw [et2,hsn];exact hu
  ·have e:j=x.right.length:=by omega
   subst e;rw [XZ,<- ep2] at hu;unfold Jz;refine ⟨_,rfl,u,hu.size,ac (h.ptAt (i:=0) rfl),?_⟩;refine h.put1 (w':=u) hu.size rfl hu.st λF5 h=> ?_;exact ⟨u,hu.size,ac (h.ptAt (i:=1) rfl),⟨u,rfl,hu.le h.le⟩,aa l1 (aa l13 h.le)⟩
 refine ⟨?_,?_⟩
 ·refine h.run (ga hk.le hk.fam.1 hxc hf hd2) λ_ G3 F3 hr3 l3 h=> ?_;obtain ⟨y,rfl,hy⟩:=hr3;refine ⟨y,rfl,ld (h.le _ _ (l3 _ _ q2)) rfl,?_⟩;refine h.new λb5 F4 h=> ?_;exact h.put0 (w':=y) hy.size rfl hy.st λF5 h=>fin l3 hy h
 ·refine h.new λb5 F3 h=> ?_;refine h.run (ga hk.le hk.fam.1 hxc hf hd2) λ_ G3 F4 hr3 l3 h=> ?_;obtain ⟨y,rfl,hy⟩:=hr3;refine ⟨y,rfl,ld (h.le _ _ (l3 _ _ q2)) rfl,?_⟩;exact h.put0 (w':=y) hy.size rfl hy.st λF5 h=>fin l3 hy h
def jm (S:Int->Tr) (st:Bool):Tr->List Sy->Tr
 |d,[]=>d
 |d,s::r=>jm S st (if s.t=ZT then (if st=ZT then ZL ZQ else d) else ap2 aY d (S s.i)) r
theorem vb (S:Int->Tr) (st:Bool) (s:Sy):∀(r:List Sy) (d:Tr),jm S st d (r++[s])=if s.t=ZT then (if st=ZT then ZL ZQ else jm S st d r) else ap2 aY (jm S st d r) (S s.i)
 |[],d=>rfl
 |x::r,d=>by rw [YA];unfold jm;exact vb S st s r _
theorem cN {S:Int->Tr} {st:Bool} (hS:Sxs k S):∀(r:List Sy) {d:Tr},Sx k d->Sx k (jm S st d r)/\∀c,(jm S st d r).ev c=ZT↔d.ev c=ZT/\∀s∈r,(s.t=ZT->st=ZQ)/\(s.t=ZQ->(S s.i).ev c=ZT)
 |[],d,hd=>⟨hd,λc=>⟨λh=>⟨h,λ_ h=>(by cases h)⟩,λh=>h.1⟩⟩
 |s::r,d,hd=>by
  unfold jm;have split:∀{p:Prop} {q:Sy->Prop},(p/\∀y∈s::r,q y)↔(p/\q s)/\∀y∈r,q y:=λ{p q}=>
   ⟨λh=>⟨⟨h.1,h.2 s (by simp)⟩,λy hy=>h.2 y (X8 _ hy)⟩,λh=>⟨h.1.1,λy hy=>by
    rcases XP.1 hy with rfl|hy
    ·exact h.1.2
    ·exact h.2 y hy⟩⟩
  by_cases hs:s.t=ZT
  ·rw [Χ hs];by_cases hst:st=ZT
   ·rw [Χ hst];obtain ⟨h1,h2⟩:=cN (st:=st) hS r (Sx.ZL k ZQ);refine ⟨h1,λc=>(h2 c).trans ?_⟩;rw [split];refine and_congr_left λ_=>⟨λh=>(by cases h),λh=> ?_⟩;have:=h.2.1 hs;rw [hst] at this;cases this
   ·rw [Υ hst];obtain ⟨h1,h2⟩:=cN (st:=st) hS r hd;refine ⟨h1,λc=>(h2 c).trans ?_⟩;rw [split];refine and_congr_left λ_=>⟨λh=>⟨h,λ_=>YK.2 hst,λh'=>(by rw [hs] at h';cases h')⟩,λh=>h.1⟩
  ·rw [Υ hs];obtain ⟨h1,h2⟩:=cN (st:=st) hS r (hd.ap2 (o:=aY) (hS s.i));refine ⟨h1,λc=>(h2 c).trans ?_⟩;rw [split,(bq hd.1 (hS s.i).1).2];refine and_congr_left λ_=> ?_;show (d.ev c && (S s.i).ev c)=ZT↔_;rw [X7];exact and_congr_right λ_=>⟨λh=>⟨λh'=>absurd h' hs,λ_=>h⟩,λh=>h.2 (YK.2 hs)⟩
theorem y9 {S:Int->Tr} {n:Nat} {i:Int} (h0:0<=i) (h1:i<n):(bv S n)[i.toNat]? =ZO (dia (S i)):=by unfold bv;rw [X2,Yo (by omega),YD,Int.toNat_of_nonneg h0]
theorem gu (S:Int->Tr) (n:Nat):(bv S n).length=n:=by unfold bv;rw [XW,Yq]
end
section
end
section
end
section
end
section
end
theorem xq {c w:Γ} (h:w.size=c.size):wr c 0 w.toList=w:=by have e:=dR w.toList c.toList 0 (by rw [XU,XU];omega);rw [show c.toList.toArray=c by simp,YJ,Yu,X5,List.drop_eq_nil_of_le (by rw [XU,XU];omega),Ys] at e;simpa using e
def mD (G0:PH) (s:Sl) (ds:List Dia):Ψ:=λH=>∃vs:List Γ,df G0 ds vs/\own s 31 2 (cat vs) H
theorem mD.le {G0 G1 H:PH} {s:Sl} {ds:List Dia} (h:mD G0 s ds H) (l:G0.le G1):mD G1 s ds H:=by obtain ⟨vs,a,b⟩:=h;exact ⟨vs,a.le l,b⟩
theorem nf {S:Int->Tr} {n j:Nat} (h:j<n):(bv S n)[j]? =ZO (dia (S (j:Int))):=by unfold bv;rw [X2,Yo h];rfl
theorem za {S:Int->Tr} {n j:Nat} {t:Tr} (h:j<n):bv (cQ S (j:Int) t) n=(bv S n).set j (dia t):=by
 refine Yx λm=> ?_;by_cases hm:m<n
 ·rw [nf hm];by_cases e:j=m
  ·subst e;rw [Yr (by rw [gu];exact h)];unfold cQ;rw [Χ rfl]
  ·rw [YW e,nf hm];unfold cQ;rw [Υ (by omega)]
 ·rw [Yi (by rw [gu];omega),Yi (by rw [Zh,gu];omega)]
theorem IN:∀(n:Nat) (L:Ξ),L.length=n*2->∃vs:List Γ,cat vs=L/\vs.length=n/\∀d∈vs,d.size=2
 |0,L,h=>⟨[],by rw [X9 (by omega:L.length=0)];rfl,rfl,λ_ h=>(by cases h)⟩
 |n+1,L,h=>by
  match L,h with
  |[_],h=>simp only [X4,List.length_nil] at h;omega
  |a::b::L,h=>
   obtain ⟨vs,h1,h2,h3⟩:=IN n L (by simp only [X4] at h;omega);refine ⟨#[a,b]::vs,by rw [bK,h1];rfl,by rw [X4,h2],λd hd=> ?_⟩;rcases XP.1 hd with rfl|hd
   ·rfl
   ·exact h3 d hd
def Rdb (G:PH) (As:List (Ψ)) (s:Sl) (S:Int->Tr) (n:Nat):Prop:=∀(G' F':PH) (Bs:List (Ψ)),G.le G'->St G' F' (Bs++As)->∀i:Int,0<=i->i<n->∀K:Addr->Prop,(∀a (c:Γ),F'.row (a.add (i.toNat*2)) c->DV G' c (dia (S i))->K a)->∃a,s.ZK=ZO a/\0<=i/\i<(s.len:Int)/\K a
section
variable {G F G0:PH} {As:List (Ψ)} {k n:Nat} {s:Sl} {S:Int->Tr}
theorem Rdb.pin (h:RL G s (bv S n)):Rdb G As s S n:=λG' F' Bs l st i h0 h1 K kk=>by have hl:=h.len;rw [gu] at hl;refine ixc (h.le l) (by decide) h0 (by omega) λa c d hd hrow hc=> ?_;rw [y9 h0 h1] at hd;cases hd;exact kk a c (aT st.le hrow) hc
theorem St.mD_ix {j:Nat} (h:St G F As) (hi:As[j]? =ZO (mD G0 s (bv S n))) (l:G0.le G) {i:Int} (h0:0<=i) (h1:i<n) {K:Addr->Prop} (kk:∀a (c:Γ),F.row (a.add (i.toNat*2)) c->DV G c (dia (S i))->K a):∃a,s.ZK=ZO a/\0<=i/\i<(s.len:Int)/\K a:=by
 obtain ⟨m,rfl⟩:=YH h0;have hm:m<n:=by omega
 obtain ⟨vs,h⟩:=h.exI j hi;have hj:j<As.length:=(XN.1 hi).1;obtain ⟨hr,h⟩:=h.prI j (Yr hj);obtain ⟨c,hc,hcr,hcd⟩:=hr.get (nf hm);exact h.elR j (Yr (by rw [Zh];exact hj)) hr.sz hc (by decide) hcd λa hrow=>kk a c hrow (DV.le (show DV G0 c _ from hcr) l)
theorem St.mD_pin {ds:List Dia} (h:St G F (mD G0 s ds::As)):∃G',G.le G'/\(G0.le G->RL G' s ds)/\St G' F As:=by obtain ⟨G',l,⟨H,⟨vs,a,b⟩,hH⟩,h⟩:=h.pin;exact ⟨G',l,λl0=>⟨vs,a.le (aa l0 l),(bX.rd b).le hH⟩,h⟩
theorem Rdb.own {j:Nat} (hi:As[j]? =ZO (mD G0 s (bv S n))) (l:G0.le G):Rdb G As s S n:=λG' F' Bs l' st i h0 h1 K kk=>
 st.mD_ix (j:=Bs.length+j) (by rw [X6 (Nat.le_add_right _ _),Zf];exact hi) (aa l l') h0 h1 kk
theorem Rdb.le {G1:PH} (h:Rdb G As s S n) (l:G.le G1):Rdb G1 As s S n:=λG' F' Bs l'=>h G' F' Bs (aa l l')
theorem km (hn:n<=1000000) (h:St G F As):ν 68 #[vi n] F λr F'=>∃G' s,r=ZS s/\G.le G'/\s.len=n/\St G' F' (mD G' s (bv (λ_=>ZL ZQ) n)::As):=by
 refine XB ?_;unfold VI;refine bW underlying39 PX Is rfl (by omega) (Zv _) (by omega) (by omega) ?_;refine λb hb=>⟨_,rfl,?_⟩;rw [N5];have hz:(Builtin.zeroCells (Value.agg zD).cells n).size=n*2:=by simp [Builtin.zeroCells,Value.cells]
 generalize Builtin.zeroCells (Value.cells _) n=z0 at hz ⊢;obtain ⟨vs0,e1,e2,e3⟩:=IN n z0.toList (by rw [XU,hz]);revert b hb;refine h.new (K:=λb F'=>Lp (0:Int) F' λN v F=>xD N (n:Int) ⟨ZO ⟨b,0,ZR⟩,n,n⟩ _ v F) λb F1 h=> ?_;have h:=h.imp (A':=own (Z4 (ZO (ZX b 0 ZR)) n n) 31 2 (cat vs0)) 0 rfl λH _ hH=>by rw [e1];exact Mb hH hz
 refine bi (xD · (n:Int) ⟨ZO ⟨b,0,ZR⟩,n,n⟩ _) n (λi F'=>∃(G':PH) (vs:List Γ),G.le G'/\vs.length=n/\(∀d∈vs,d.size=2)/\df G' (bv (λ_=>ZL ZQ) i) (vs.take i)/\
  St G' F' (own (Z4 (ZO (ZX b 0 ZR)) n n) 31 2 (cat vs)::As)) ⟨G,vs0,al _,e2,e3,by rw [YJ];exact .nil,h⟩ ?_
 rintro i F2 N hi ⟨G1,vs,l1,hvl,hvs,hv,h⟩ next;unfold xD;refine ⟨λhlt=> ?_,λhge=> ?_⟩
 ·have hlt:i<n:=by have:(i:Int)<(n:Int):=hlt;omega
  refine (h.call (cv ZQ)).mono ?_;rintro _ F3 ⟨G2,⟨w,rfl,hw,l2⟩,h⟩;refine ⟨w,rfl,?_⟩;obtain ⟨c,hc⟩:∃c,vs[i]? =ZO c:=⟨_,N6 (by omega)⟩;have hcs:=hvs c (XQ hc);obtain ⟨a,g1,g2,g3,g4⟩:=h.elN 0 rfl hvs hc (by decide) (off:=0) (m:=2) (v:=w) hw.size (by decide) hw.st (C:=λF'=>N (i64.wrap ((i:Int)+1)) F') λF4 h=>by
   rw [aC hlt];rw [xq (by rw [hw.size,hcs])] at h;refine next _ hlt ⟨G2,vs.set i w,aa l1 l2,by rw [Zh,hvl],λd hd=> ?_,?_,h⟩
   ·rcases List.mem_or_eq_of_mem_set hd with hd|rfl
    ·exact hvs d hd
    ·exact hw.size
   ·rw [nB,Yy,Yr (by omega),List.take_set_of_le (XS i)];exact (hv.le l2).append (.cons hw .nil)
  exact ⟨a,g1,g2,g3,g4⟩
 ·have e:i=n:=by have:¬(i:Int)<(n:Int):=hge;omega
  subst e;rw [XY (by omega)] at hv;unfold Jx;exact ⟨G1,_,rfl,l1,rfl,h.imp 0 rfl λH _ hH=>⟨vs,hv,hH⟩⟩
theorem lq {i:Int} {d:Tr} {v:Γ} (hk:k<=6) (hS:Sxs k S) (hd:Sx k d) (hv:DV G v (dia d)) (h0:0<=i) (h1:i<n) (l0:G0.le G) (h:St G F (mD G0 s (bv S n)::As)):
  ν 61 #[s.v,vi i,ZU v] F λr F'=>∃G' ch,r=ZV ch/\(ch=ZT↔bx S i d≠S)/\G.le G'/\St G' F' (mD G' s (bv (bx S i d) n)::As):=by
 obtain ⟨j,rfl⟩:=YH h0;have hj:j<n:=by omega
 obtain ⟨vs,h⟩:=h.exI 0 rfl;obtain ⟨hr,h⟩:=h.prI 0 rfl;have h:St G F (own s 31 2 (cat vs)::As):=h;have hsz:=hr.sz;obtain ⟨c,hc,hcr,hcd⟩:=hr.get (nf hj);have hcG:DV G c (dia (S j)):=DV.le (show DV G0 c _ from hcr) l0;have hnew:=(hS (j:Int)).ap2 (o:=oOr) hd;have hne:(ap2 oOr (S j) d=S j)↔bx S j d=S:=by
  constructor
  ·intro e;unfold bx;rw [e,ny]
  ·intro e;have:=congrFun e (j:Int);unfold bx cQ at this;rwa [Χ rfl] at this
 refine XA ?_;unfold VH;refine h.newG λb5 G1 F1 l1 q5 _ h=> ?_;refine h.elR 0 rfl hsz hc (by decide) hcd λa hrow=>⟨c,hcG.size,hrow,v,hv.size,ac (h.le _ _ q5),?_⟩;have fin:∀{G' F':PH} {w:Γ} {b7:Nat},G1.le G'->DV G' w (dia (ap2 oOr (S j) d))->St G' F' (pt b7 (ZP zD 31)::own s 31 2 (cat vs)::As)->
   aw F' (ZX b7 0 ZR) 2 w λF2=>xC s (j:Int) (ZO (ZX b7 0 ZR)) (λr F'=>∃G' ch,r=ZV ch/\(ch=ZT↔bx S j d≠S)/\G.le G'/\St G' F' (mD G' s (bv (bx S j d) n)::As)) F2:=λ{G' F' w b7} l hw h=>by
  refine h.put0 hw.size rfl hw.st λF2 h=> ?_;unfold xC;refine ⟨_,rfl,w,hw.size,ac (h.ptAt (i:=0) rfl),?_⟩;refine h.elR 1 rfl hsz hc (by decide) hcd λa hrow=>⟨c,hcG.size,hrow,?_⟩;refine h.runv (gj hw (hcG.le (aa l1 l)) (i6 hnew hk)) λG3 F3 l3 h=>⟨_,rfl,λhe=> ?_,λhn=> ?_⟩
  ·have e:=mY hnew.1 (hS j).1 (ε he);have e2:=hne.1 e;refine ⟨G3,ZQ,rfl,⟨λh=>(by cases h),λh=>absurd e2 h⟩,aa l1 (aa l l3),?_⟩;rw [e2];exact h.tail.imp 0 rfl λH _ hH=>⟨vs,hr.le (aa l0 (aa l1 (aa l l3))),hH⟩
  ·have e2:bx S j d≠S:=λe=>η hn (congrArg dia (hne.2 e));refine ⟨w,hw.size,ac (h.ptAt (i:=0) rfl),?_⟩;obtain ⟨a,g1,g2,g3,g4⟩:=h.elN 1 rfl hsz hc (by decide) (off:=0) (m:=2) (v:=w) hw.size (by decide) hw.st (C:=λF'=>∃G' ch,ZV ZT=ZV ch/\(ch=ZT↔bx S j d≠S)/\G.le G'/\St G' F' (mD G' s (bv (bx S j d) n)::As)) λF4 h=>by rw [xq (by rw [hw.size,hcG.size])] at h;refine ⟨G3,ZT,rfl,⟨λ_=>e2,λ_=>rfl⟩,aa l1 (aa l l3),?_⟩;have h:St G3 F4 (pt b7 (ZP w 31)::own s 31 2 (cat (vs.set j w))::As):=h;refine h.tail.imp 0 rfl λH _ hH=>⟨vs.set j w,?_,hH⟩;unfold bx;rw [za hj];exact (hr.le (aa l0 (aa l1 (aa l l3)))).set (show Mem.rep G3 (dia (ap2 oOr (S j) d)) w from hw.le l3)
   exact ⟨a,g1,g2,g3,g4⟩
 refine ⟨?_,?_⟩
 ·refine h.run (va hk (hS j) hd (hcG.le l1) (hv.le l1)) λ_ G2 F2 hr2 l2 h=> ?_;obtain ⟨w,rfl,hw⟩:=hr2;refine ⟨w,rfl,?_⟩;exact h.new λb7 F3 h=>fin l2 hw h
 ·refine h.new λb7 F2 h=> ?_;refine h.run (va hk (hS j) hd (hcG.le l1) (hv.le l1)) λ_ G2 F3 hr2 l2 h=> ?_;obtain ⟨w,rfl,hw⟩:=hr2;exact ⟨w,rfl,fin l2 hw h⟩
theorem iq {d:Tr} {v:Γ} {r:Sl} {rl:List Sy} {st:Bool} (hk:k<=6) (hS:Sxs k S) (hd:Sx k d) (hv:DV G v (dia d)) (hr:RL G r rl) (hrl:rl.length<=1000000) (hsy:∀y∈rl,y.t=ZQ->0<=y.i/\y.i<n) (hb:Rdb G As s S n) (h:St G F As):
  ν 69 #[ZU v,r.v,s.v,ZV st] F λx F'=>∃G',lI (dia (jm S st d rl)) x G'/\G.le G'/\St G' F' As:=by
 have er:=hr.len;refine XC ?_;unfold VJ;refine h.new λb4 F1 h=>h.new λb8 F2 h=> ?_;refine bi (BL · r s st b4 b8 _) rl.length (λj F'=>∃(G':PH) (u:Γ),G.le G'/\DV G' u (dia (jm S st d (rl.take j)))/\St G' F' (pt b8 (ZP zD 31)::pt b4 (ZP u 31)::As)) ⟨G,v,al _,by rw [YJ];exact hv,h⟩ ?_;rintro j F3 N hj ⟨G1,u,l1,hu,h⟩ next;unfold BL;refine ⟨λhlt=> ?_,λhge=> ?_⟩
 ·have hlt:j<rl.length:=by omega
  refine ixc (hr.le l1) (by decide) (by omega) (by omega) λa18 c18 y hy hrow18 hc18=> ?_;rw [N5] at hy;obtain rfl:c18=y.arr:=hc18;have et2:=dD hy;have hsn:=vb S st y (rl.take j) d;obtain ⟨fx,_⟩:=cN (st:=st) hS (rl.take j) hd;have fin:∀{G' F':PH} {u':Γ},G1.le G'->DV G' u' (dia (jm S st d (rl.take (j+1))))->St G' F' (pt b8 (ZP zD 31)::pt b4 (ZP u' 31)::As)->tM N r s st b4 b8 (j:Int) (λx F'=>∃G',lI (dia (jm S st d rl)) x G'/\G.le G'/\St G' F' As) F':=λ{G' F' u'} l hu' h=>by unfold tM;rw [aC hlt];exact next _ hlt ⟨G',u',aa l1 l,hu',h⟩
  refine ⟨y.t,aS (aT h.le hrow18) rfl,λht=> ?_,λht=> ?_⟩
  ·have ht:y.t=ZQ:=by simpa using ht
   rw [Υ (by rw [ht];decide)] at hsn;obtain ⟨y0,y1⟩:=hsy y (XQ hy) ht;refine ⟨u,hu.size,ac (h.ptAt (i:=1) rfl),?_⟩;refine ixc (hr.le l1) (by decide) (by omega) (by omega) λa26 c26 y' hy' hrow26 hc26=> ?_;rw [N5,hy] at hy';cases hy';obtain rfl:c26=y.arr:=hc26;refine ⟨y.i,aZ (aT h.le hrow26) (i:=1) rfl,?_⟩;refine hb G1 F3 [_,_] l1 h y.i y0 y1 _ λa29 c29 hrow29 hd29=>⟨c29,hd29.size,hrow29,?_⟩;refine h.run (ga hk fx (hS y.i) hu hd29) λ_ G2 F4 hr2 l2 h=> ?_;obtain ⟨w,rfl,hw⟩:=hr2;refine ⟨w,rfl,aZ (aT (aa l2 h.le) hrow26) (i:=1) rfl,?_⟩;refine h.put1 (w':=w) hw.size hu.size hw.st λF5 h=>fin l2 ?_ h;rw [et2,hsn];exact hw
  ·have ht:y.t=ZT:=by simpa using ht
   rw [Χ ht] at hsn;refine ⟨λhst=> ?_,λhst=> ?_⟩
   ·refine (h.call (cv ZQ)).mono ?_;rintro _ F4 ⟨G2,⟨w,rfl,hw,l2⟩,h⟩;refine ⟨w,rfl,?_⟩;refine h.put1 (w':=w) hw.size hu.size hw.st λF5 h=>fin l2 ?_ h;rw [et2,hsn,Χ hst];exact hw
   ·refine fin (al _) ?_ h;rw [et2,hsn,Υ (by rw [hst];decide)];exact hu
 ·have e:j=rl.length:=by omega
  subst e;rw [XZ] at hu;unfold Jy;refine ⟨u,hu.size,ac (h.ptAt (i:=1) rfl),?_⟩;refine h.put0 (w':=u) hu.size rfl hu.st λF5 h=> ?_;exact ⟨u,hu.size,ac (h.ptAt (i:=0) rfl),G1,⟨u,rfl,hu⟩,l1,h.tail.tail⟩
end
section
variable {κ:Type} [DecidableEq κ] {k:Nat}
theorem DK {S:κ->Tr} {x:κ} {d:Tr} {keys:List κ} (hS:Sxs k S) (hd:Sx k d) (hx:x∈keys):mu k keys (bx S x d)<=mu k keys S/\(bx S x d≠S->mu k keys (bx S x d)<mu k keys S):=by
 obtain ⟨h1,h2⟩:=xJ hS (cC hS hd) (dK (n:=x) hS hd) keys;refine ⟨h1,λhne=>h2 x hx λe=>hne ?_⟩;funext i;by_cases hi:i=x
 ·rw [hi,<- e]
 ·unfold bx cQ;rw [Υ hi]
theorem DL {S:κ->Tr} {x:κ} {d:Tr} (hS:Sxs k S) (hd:Sx k d) (e:bx S x d=S) (c:Cf) (hc:d.ev c=ZT):(S x).ev c=ZT:=by have:=cR hS hd (n:=x) x c;rw [e,hc,ζ rfl] at this;rw [this];simp
end
section
variable {k:Nat} {l:List Pr} {P:Nat->Tr} {st:Bool}
def ClL (st:Bool) (P:Nat->Tr) (S:Int->Tr) (j:Nat) (x:Pr):Prop:=∀c,(jm S st (P j) x.right).ev c=ZT->(S x.left).ev c=ZT
theorem LQ {S:Int->Tr} (hS:Sxs k S) (hP:∀i,Sx k (P i)) (hc:∀(j:Nat) (x:Pr),l[j]? =ZO x->ClL st P S j x) {c:Cf} {n:Int} (h:Der l P st c n):(S n).ev c=ZT:=by
 induction h with
 |mk i x hi hp ht _ ih=>refine hc i x hi c ?_;rw [(cN hS x.right (hP i)).2];exact ⟨hp,λs hs=>⟨ht s hs,ih s hs⟩⟩
theorem IP {S:Int->Tr} (hS:Sxs k S) (hP:∀i,Sx k (P i)) (h:Snd l P st S) {i:Nat} {x:Pr} (hx:l[i]? =ZO x):Snd l P st (bx S x.left (jm S st (P i) x.right)):=λn c hc=>by
 obtain ⟨f1,f2⟩:=cN (st:=st) hS x.right (hP i);rw [cR hS f1] at hc;rcases YF.1 hc with hc|hc
 ·exact h n c hc
 ·obtain ⟨e,hc⟩:=X7.1 hc;rw [ε e];obtain ⟨h1,h2⟩:=(f2 c).1 hc;exact .mk i x hx h1 (λs hs=>(h2 s hs).1) λs hs ht=>h _ _ ((h2 s hs).2 ht)
end
section
variable {G F:PH} {As:List (Ψ)} {g:Gr} {k:Nat} {st:Bool}
theorem gM {v:Γ} (hg:GV G v g) (hk:OkK g k) (h:St G F As):
  ν 56 #[ZU v,ZV st] F λr F'=>∃G' s S,r=ZS s/\G.le G'/\s.len=g.ZH.length/\bZ k g.ZG (aF g) st S/\St G' F' (mD G' s (bv S g.ZH.length)::As):=by
 obtain ⟨o1,o2,o3,o4⟩:=cH hk.ok;have hk6:=hk.le;have hgv:=hg;obtain ⟨c,n,t,s0,p,l,f,rfl,hs⟩:=hg;have es:=hs.s.len;have ep:=hs.p.len;refine Xy ?_;unfold VF;refine h.newG λb2 G1 F1 l1 q2 _ h=>⟨s0,ld (h.le _ _ q2) rfl,?_⟩;dsimp only;rw [es];refine (km (by omega) h).mono ?_;rintro _ F2 ⟨G2,s,rfl,l2,hsl,h⟩;refine ⟨s,rfl,?_⟩;have l12:=aa l1 l2;have hkeys:∀(i:Nat) (x:Pr),g.ZG[i]? =ZO x->x.left∈g.ZG.map Pr.left:=λi x hx=>X1.2 ⟨x,XQ hx,rfl⟩;generalize g.ZG.map Pr.left=keys at hkeys
 refine ⟨λm ch F'=>∃(G':PH) (S:Int->Tr),G2.le G'/\Sxs k S/\Snd g.ZG (aF g) st S/\(ch=ZQ->∀(j:Nat) (x:Pr),g.ZG[j]? =ZO x->ClL st (aF g) S j x)/\m=mu k keys S+(if ch=ZT then 1 else 0)/\
  St G' F' (mD G' s (bv S g.ZH.length)::As),mu k keys (λ_=>ZL ZQ)+1,⟨G2,_,al _,λ_=>Sx.ZL k ZQ,λn c hc=>(by cases hc),λhc=>(by cases hc),rfl,h⟩,?_⟩
 rintro _ ch F3 ⟨G3,S,l3,hS,hSn,hCl,rfl,h⟩;have l13:=aa l2 l3;have l03:=aa l12 l3;unfold Js;refine ⟨λhch=> ?_,λhch=> ?_⟩
 ·rw [Χ hch]
  refine ⟨λm2 ch2 q F'=>∃(pn:Nat) (G':PH) (S':Int->Tr),q=pn/\pn<=g.ZG.length/\m2=g.ZG.length - pn/\G3.le G'/\Sxs k S'/\Snd g.ZG (aF g) st S'/\mu k keys S'<=mu k keys S/\(ch2=ZT->mu k keys S'<mu k keys S)/\(ch2=ZQ->∀(j:Nat) (x:Pr),j<pn->g.ZG[j]? =ZO x->ClL st (aF g) S' j x)/\
   St G' F' (mD G' s (bv S' g.ZH.length)::As),g.ZG.length,⟨0,G3,S,rfl,Zj _,rfl,al _,hS,hSn,XS _,λh=>(by cases h),λ_ j x hj=>(by omega),h⟩,?_⟩
  rintro _ ch2 _ F4 ⟨pn,G4,S',rfl,hpn,rfl,l4,hS',hSn',hmu,hmu2,hCl',h⟩;have l14:=aa l13 l4;have l04:=aa l03 l4;have q24:=l14 _ _ q2;unfold Jr;refine ⟨p,ld (h.le _ _ q24) rfl,λhlt=> ?_,λhge=> ?_⟩
  ·have hlt:pn<g.ZG.length:=by omega
   refine ⟨_,rfl,ac (h.le _ _ q24),p,ld (h.le _ _ q24) rfl,?_⟩;refine ixc (hs.p.le l04) (by decide) (by omega) (by omega) λa28 c28 x hx hrow28 hc28=> ?_;rw [N5] at hx;have hxm:=XQ hx;obtain ⟨_,_,⟨hl0,hl1',_⟩,hsy⟩:=hk.prod hxm;have hl1:=hl1' rfl;obtain ⟨r,n8,l8,rfl,hr,_⟩:=hc28;have hxl:=o4 x hxm;refine ⟨r,aZ (aT h.le hrow28) (i:=2) rfl,?_⟩;have hdx:=(cN (st:=st) hS' x.right (hk.prs pn)).1;have hsyn:∀y∈x.right,y.t=ZQ->0<=y.i/\y.i<(g.ZH.length:Nat):=λy hy ht=>⟨(hsy y hy).1,(hsy y hy).2.1 ht⟩;have fin:∀{G' F':PH} {w:Γ} {b8:Nat},G4.le G'->DV G' w (dia (jm S' st (aF g pn) x.right))->St G' F' (pt b8 (ZP zD 31)::mD G4 s (bv S' g.ZH.length)::As)->
     aw F' (ZX b8 0 ZR) 2 w λF2=>tL (λy F=>∃m',m'<mu k keys S+1/\(λ(m:Nat) (ch:Bool) (F':PH)=>∃(G':PH) (S:Int->Tr),G2.le G'/\Sxs k S/\Snd g.ZG (aF g) st S/\(ch=ZQ->∀(j:Nat) (x:Pr),g.ZG[j]? =ZO x->ClL st (aF g) S j x)/\m=mu k keys S+(if ch=ZT then 1 else 0)/\
      St G' F' (mD G' s (bv S g.ZH.length)::As)) m' y F) (λy0 y1 F=>∃m',m'<g.ZG.length - pn/\(λ(m2:Nat) (ch2:Bool) (q:Int) (F':PH)=>∃(pn:Nat) (G':PH) (S':Int->Tr),q=pn/\pn<=g.ZG.length/\m2=g.ZG.length - pn/\G3.le G'/\Sxs k S'/\Snd g.ZG (aF g) st S'/\mu k keys S'<=mu k keys S/\(ch2=ZT->mu k keys S'<mu k keys S)/\(ch2=ZQ->∀(j:Nat) (x:Pr),j<pn->g.ZG[j]? =ZO x->ClL st (aF g) S' j x)/\
      St G' F' (mD G' s (bv S' g.ZH.length)::As)) m' y0 y1 F) st b2 s ch2 (pn:Int) (ZO (ZX b8 0 ZR)) (λr F'=>∃G' s S,r=ZS s/\G.le G'/\s.len=g.ZH.length/\bZ k g.ZG (aF g) st S/\St G' F' (mD G' s (bv S g.ZH.length)::As)) F2:=λ{G' F' w b8} l5 hw h=>by
    refine h.put0 hw.size rfl hw.st λF6 h=> ?_;unfold tL;have q25:=l5 _ _ q24;refine ⟨p,ld (h.le _ _ q25) rfl,?_⟩;refine ixc (hs.p.le (aa l04 l5)) (by decide) (by omega) (by omega) λa38 c38 x' hx' hrow38 hc38=> ?_;rw [N5,hx] at hx';cases hx';obtain ⟨r,n8,l8,rfl,_⟩:=hc38;refine ⟨x.left,aZ (aT h.le hrow38) (i:=1) rfl,_,rfl,w,hw.size,ac (h.ptAt (i:=0) rfl),?_⟩;refine (lq hk6 hS' hdx hw hl0 hl1 l5 h.tail).mono ?_;rintro _ F7 ⟨G7,ch3,rfl,hch3,l7,h⟩;obtain ⟨m1,m2⟩:=DK hS' hdx (hkeys pn x hx);refine ⟨ch3,rfl,ld (h.le _ _ (l7 _ _ q25)) rfl,?_⟩
    have go:∀ch4:Bool,(ch4=ZT↔ch2=ZT\/ch3=ZT)->∃m',m'<g.ZG.length - pn/\(∃(pn':Nat) (G':PH) (S'':Int->Tr),(i64.wrap ((pn:Int)+1))=pn'/\pn'<=g.ZG.length/\m'=g.ZG.length - pn'/\G3.le G'/\Sxs k S''/\Snd g.ZG (aF g) st S''/\mu k keys S''<=mu k keys S/\(ch4=ZT->mu k keys S''<mu k keys S)/\(ch4=ZQ->∀(j:Nat) (x:Pr),j<pn'->g.ZG[j]? =ZO x->ClL st (aF g) S'' j x)/\
      St G' F7 (mD G' s (bv S'' g.ZH.length)::As)):=λch4 h4=>by
     rw [aC hlt];refine ⟨g.ZG.length - (pn+1),by omega,pn+1,G7,_,rfl,by omega,rfl,aa l4 (aa l5 l7),cC hS' hdx,IP hS' hk.prs hSn' hx,by omega,λh=> ?_,λh j y hj hy=> ?_,h⟩
     ·rcases h4.1 h with h|h
      ·have:=hmu2 h;omega
      ·have:=m2 (hch3.1 h);omega
     ·have e2:ch2=ZQ:=by cases e:ch2 with
       |false=>rfl
       |true=>rw [h4.2 (.inl e)] at h;cases h
      have e3:bx S' x.left (jm S' st (aF g pn) x.right)=S':=Classical.not_not.1 λhne=>by rw [h4.2 (.inr (hch3.2 hne))] at h;cases h
      rw [e3];by_cases ej:j=pn
      ·subst ej;rw [hx] at hy;cases hy;exact DL hS' hdx e3
      ·exact hCl' e2 j y (by omega) hy
    unfold BI;refine ⟨λhc=>go ZT ⟨λ_=> .inl hc,λ_=>rfl⟩,λhc=>go ch3 ⟨.inr,λh=>h.resolve_left λh'=>by rw [h'] at hc;cases hc⟩⟩
   have mdl:∀{G' F':PH} {Bs:List (Ψ)},St G' F' (mD G4 s (bv S' g.ZH.length)::As)->St G' F' (mD G4 s (bv S' g.ZH.length)::As):=λh=>h;refine ⟨?_,?_⟩
   ·refine h.run (ft (hgv.le l04) hk hlt) λ_ G5 F5 hr5 l5 h=> ?_;obtain ⟨y,rfl,hy⟩:=hr5;have q25:=l5 _ _ q24;refine ⟨y,rfl,aZ (aT (aa l5 h.le) hrow28) (i:=2) rfl,ld (h.le _ _ q25) rfl,?_,?_⟩
    ·refine (iq (n:=g.ZH.length) (S:=S') (st:=st) hk6 hS' (hk.prs pn) hy (hr.le l5) (by omega) hsyn (Rdb.own (j:=0) rfl l5) h).mono ?_;rintro _ F6 ⟨G6,⟨w,rfl,hw⟩,l6,h⟩;refine ⟨w,rfl,ld (h.le _ _ (l6 _ _ q25)) rfl,?_⟩;exact h.new λb8 F7 h=>fin (aa l5 l6) hw h
    ·refine h.new λb8 F6 h=> ?_;refine (iq (n:=g.ZH.length) (S:=S') (st:=st) hk6 hS' (hk.prs pn) hy (hr.le l5) (by omega) hsyn (Rdb.own (j:=1) rfl l5) h).mono ?_;rintro _ F7 ⟨G6,⟨w,rfl,hw⟩,l6,h⟩;refine ⟨w,rfl,ld (h.le _ _ (l6 _ _ q25)) rfl,?_⟩;exact fin (aa l5 l6) hw h
   ·refine h.new λb8 F5 h=> ?_;refine h.run (ft (hgv.le l04) hk hlt) λ_ G5 F6 hr5 l5 h=> ?_;obtain ⟨y,rfl,hy⟩:=hr5;have q25:=l5 _ _ q24;refine ⟨y,rfl,aZ (aT (aa l5 h.le) hrow28) (i:=2) rfl,ld (h.le _ _ q25) rfl,?_⟩;refine (iq (n:=g.ZH.length) (S:=S') (st:=st) hk6 hS' (hk.prs pn) hy (hr.le l5) (by omega) hsyn (Rdb.own (j:=1) rfl l5) h).mono ?_;rintro _ F7 ⟨G6,⟨w,rfl,hw⟩,l6,h⟩;refine ⟨w,rfl,ld (h.le _ _ (l6 _ _ q25)) rfl,?_⟩;exact fin (aa l5 l6) hw h
  ·have e:pn=g.ZG.length:=by omega
   subst e;refine ⟨mu k keys S'+(if ch2=ZT then 1 else 0),?_,G4,S',aa l3 l4,hS',hSn',λhc j x hx=>hCl' hc j x (XN.1 hx).1 hx,rfl,h⟩;by_cases hc:ch2=ZT
   ·have:=hmu2 hc;rw [Χ hc];omega
   ·rw [Υ hc];omega
 ·unfold Jq;exact ⟨G3,s,S,rfl,l03,hsl,⟨hS,λn c=>⟨hSn n c,λd=>LQ hS hk.prs (hCl hch) d⟩⟩,h⟩
end
section
variable {G F:PH} {As:List (Ψ)}
theorem St.pull {A:Ψ} (h:St G F As) (j:Nat) (hj:As[j]? =ZO A):St G F (A::As.eraseIdx j):=by
 have hl:j<As.length:=(XN.1 hj).1;have hle:(As.eraseIdx j).length=As.length - 1:=List.length_eraseIdx_of_lt hl;refine h.pick (λi=>if i=0 then j else if i<=j then i - 1 else i) (λa b ha hb e=> ?_) (λi hi=> ?_)
 ·repeat' split at e
  all_goals omega
 ·cases i with
  |zero=>exact hj
  |succ i=>
   rw [Υ (by omega),Yl,List.getElem?_eraseIdx,Nat.add_sub_cancel];by_cases hij:i<j
   ·rw [Χ (by omega),Χ hij]
   ·rw [Υ (by omega),Υ hij]
theorem St.unpull {A:Ψ} {j:Nat} (hl:j<As.length) (h:St G F (A::As.eraseIdx j)):St G F (As.set j A):=by
 have hle:(As.eraseIdx j).length=As.length - 1:=List.length_eraseIdx_of_lt hl;refine h.pick (λi=>if i=j then 0 else if i<j then i+1 else i) (λa b ha hb e=> ?_) (λi hi=> ?_)
 ·repeat' split at e
  all_goals omega
 ·rw [Zh] at hi;by_cases e:i=j
  ·subst e;rw [Χ rfl,Yr hl];rfl
  ·rw [Υ e,YW (Ne.symm e)];by_cases hij:i<j
   ·rw [Χ hij,Yl,List.getElem?_eraseIdx,Χ hij]
   ·rw [Υ hij];obtain ⟨m,rfl⟩:∃m,i=m+1:=⟨i - 1,by omega⟩;rw [Yl,List.getElem?_eraseIdx,Υ (by omega)]
theorem St.impAll {Bs:List (Ψ)} (h:St G F As) (hl:Bs.length=As.length) (f:∀(i:Nat) A B,As[i]? =ZO A->Bs[i]? =ZO B->∀H,A H->B H):St G F Bs:=by
 obtain ⟨Hs,h1,h2⟩:=h.ex;refine ⟨h.le,Hs,λi B hB=> ?_,λi j hi hj=>h2 i j (by omega) (by omega)⟩;have hi:i<As.length:=by rw [<- hl];exact (XN.1 hB).1
 obtain ⟨a1,a2,a3⟩:=h1 i _ (N6 hi);exact ⟨f i _ B (N6 hi) hB _ a1,a2,a3⟩
def mM (G0:PH) (sl:Nat->Sl) (S:Int×Int->Tr) (nt:Nat):Nat->List (Ψ)
 |0=>[]
 |n+1=>mD G0 (sl n) (bv (λj=>S ((n:Int),j)) nt)::mM G0 sl S nt n
section
variable {G0:PH} {sl:Nat->Sl} {S:Int×Int->Tr} {nt:Nat}
theorem dV:∀n,(mM G0 sl S nt n).length=n
 |0=>rfl
 |n+1=>by unfold mM;rw [X4,dV n]
theorem IQ:∀{n i:Nat},i<n->(mM G0 sl S nt n)[n - 1 - i]? =ZO (mD G0 (sl i) (bv (λj=>S ((i:Int),j)) nt))
 |n+1,i,h=>by
  unfold mM;by_cases e:i=n
  ·subst e;rw [show i+1 - 1 - i=0 by omega];rfl
  ·rw [show n+1 - 1 - i=(n - 1 - i)+1 by omega,Yl];exact IQ (by omega)
theorem fu {n i:Nat} (h:i<n):(mM G0 sl S nt n++As)[n - 1 - i]? =ZO (mD G0 (sl i) (bv (λj=>S ((i:Int),j)) nt)):=by rw [X0 (by rw [dV];omega)];exact IQ h
theorem zc {sl':Nat->Sl}:∀{n:Nat},(∀i,i<n->sl i=sl' i)->mM G0 sl S nt n=mM G0 sl' S nt n
 |0,_=>rfl
 |n+1,h=>by unfold mM;rw [h n (by omega),zc λi hi=>h i (by omega)]
theorem Vo {G1:PH} {n:Nat} (l:G0.le G1) (h:St G F (mM G0 sl S nt n++As)):St G F (mM G1 sl S nt n++As):=by
 refine h.impAll (by rw [XT,XT,dV,dV]) λi A B hA hB H hH=> ?_;by_cases hi:i<n
 ·have e1:=fu (G0:=G0) (sl:=sl) (S:=S) (nt:=nt) (As:=As) (i:=n - 1 - i) (n:=n) (by omega);have e2:=fu (G0:=G1) (sl:=sl) (S:=S) (nt:=nt) (As:=As) (i:=n - 1 - i) (n:=n) (by omega);rw [show n - 1 - (n - 1 - i)=i by omega] at e1 e2;rw [e1] at hA;rw [e2] at hB;cases hA;cases hB;exact hH.le l
 ·rw [X6 (by rw [dV];omega),dV] at hA hB;rw [hA] at hB;cases hB;exact hH
theorem tB {d:Tr} {i i' j:Int}:(λj'=>bx S (i,j) d (i',j'))=if i'=i then bx (λj'=>S (i,j')) j d else λj'=>S (i',j'):=by
 funext j';by_cases e:i'=i
 ·subst e;rw [Χ rfl];unfold bx cQ;by_cases e2:j'=j
  ·rw [Χ (by rw [e2]),Χ e2]
  ·rw [Υ (λh=>e2 (Prod.ext_iff.1 h).2),Υ e2]
 ·rw [Υ e];unfold bx cQ;rw [Υ (λh=>e (Prod.ext_iff.1 h).1)]
theorem oZ {k n i:Nat} {j:Int} {d:Tr} {v:Γ} (hk:k<=6) (hS:Sxs k S) (hd:Sx k d) (hv:DV G v (dia d)) (hi:i<n) (h0:0<=j) (h1:j<nt) (l0:G0.le G) (h:St G F (mM G0 sl S nt n++As)):
  ν 61 #[(sl i).v,vi j,ZU v] F λr F'=>∃G' ch,r=ZV ch/\(ch=ZT↔bx S ((i:Int),j) d≠S)/\G.le G'/\St G' F' (mM G' sl (bx S ((i:Int),j) d) nt n++As):=by
 have hlen:n - 1 - i<(mM G0 sl S nt n++As).length:=by rw [XT,dV];omega
 refine (lq (S:=λj'=>S ((i:Int),j')) hk (λ_=>hS _) hd hv h0 h1 l0 (h.pull (n - 1 - i) (fu hi))).mono ?_;rintro r F' ⟨G',ch,rfl,hch,l,h⟩;have hrow:bx (λj'=>S ((i:Int),j')) j d=λj'=>bx S ((i:Int),j) d ((i:Int),j'):=by rw [tB,Χ rfl]
 refine ⟨G',ch,rfl,hch.trans ⟨λh e=>h ?_,λh e=>h ?_⟩,l,?_⟩
 ·rw [hrow,e]
 ·funext ⟨i',j'⟩;have:=congrFun (tB (S:=S) (d:=d) (i:=(i:Int)) (i':=i') (j:=j)) j';refine this.trans ?_;by_cases e2:i'=(i:Int)
  ·rw [Χ e2,e,e2]
  ·rw [Υ e2]
 ·refine (St.unpull hlen h).impAll (by rw [Zh,XT,XT,dV,dV]) λm A B hA hB H hH=> ?_;by_cases hm:m<n
  ·have e2:=fu (G0:=G') (sl:=sl) (S:=bx S ((i:Int),j) d) (nt:=nt) (As:=As) (i:=n - 1 - m) (n:=n) (by omega);rw [show n - 1 - (n - 1 - m)=m by omega] at e2;rw [e2] at hB;cases hB;by_cases e:m=n - 1 - i
   ·subst e;rw [Yr hlen] at hA;cases hA;rw [show n - 1 - (n - 1 - i)=i by omega];rw [<- hrow];exact hH
   ·rw [YW (Ne.symm e)] at hA;have e1:=fu (G0:=G0) (sl:=sl) (S:=S) (nt:=nt) (As:=As) (i:=n - 1 - m) (n:=n) (by omega);rw [show n - 1 - (n - 1 - m)=m by omega] at e1;rw [e1] at hA;cases hA;rw [tB,Υ (by omega)];exact hH.le (aa l0 l)
  ·rw [YW (by omega),X6 (by rw [dV];omega),dV] at hA;rw [X6 (by rw [dV];omega),dV] at hB;rw [hA] at hB;cases hB;exact hH
def slL (sl:Nat->Sl) (n:Nat):Ξ:=(List.range n).map λi=>ZS (sl i)
theorem Bo {n i:Nat} (h:i<n):(slL sl n)[i]? =ZO (ZS (sl i)):=by unfold slL;rw [X2,Yo h];rfl
theorem LU (n:Nat):(slL sl n).length=n:=by unfold slL;rw [XW,Yq]
theorem IR {s:Sl} {n:Nat}:slL (λm=>if m=n then s else sl m) (n+1)=slL sl n++[ZS s]:=by unfold slL;rw [Zr,Yd,List.map_singleton];dsimp only;rw [if_pos rfl];congr 1;refine YR λi hi=> ?_;rw [if_neg (by have:=Yv.1 hi;omega)]
theorem Qm {s:Sl} {n:Nat}:mM G0 (λm=>if m=n then s else sl m) S nt (n+1)=mD G0 s (bv (λj=>S ((n:Int),j)) nt)::mM G0 sl S nt n:=by show mD G0 (if n=n then s else sl n) _::_=_;rw [Χ rfl,zc (sl:=λm=>if m=n then s else sl m) (sl':=sl) λi hi=>Υ (by omega)]
end
theorem zd {r:Sl} {rl:List Sy} {i:Nat} (hr:RL G r rl) (hi:i<rl.length) (hl:rl.length<=1000000) (h:St G F As):
  ν 122 #[r.v,vi i] F λx F'=>∃G' s,x=ZS s/\G.le G'/\RL G' s (rl.take i++rl.drop (i+1))/\St G' F' As:=by
 obtain ⟨_,_,TS⟩:=IX;have er:=hr.len;have ec:=hr.cap;refine VL ?_;unfold OE;rw [aC hi,N5,N5];refine ⟨by omega,by omega,by omega,by omega,by omega,by omega,?_⟩;refine h.new λb5 F1 h=> ?_;have h:=h.imp (A':=own (Z4 (ZO (ZX b5 0 ZR)) 0 0) 63 2 []) 0 rfl λH _ hH=>eY hH;have h1:RL G (Sl.cut r 2 0 i r.cap) (rl.take i):=hr.cut rfl (by omega);have h2:RL G (Sl.cut r 2 (i+1) r.len r.cap) (rl.drop (i+1)):=hr.cutD rfl (by decide) (by omega);have k1:=h1.len;have k2:=h2.len;rw [XX] at k1;rw [Y6] at k2;obtain ⟨v1,r1,d1⟩:=id h1;obtain ⟨v2,r2,d2⟩:=id h2;refine h.app0 TS (d1.le h.le) r1.st (by show 0+_<=_;omega) λs1 F2 h hl1=> ?_;rw [Yu] at h;have e1:s1.len=(Sl.cut r 2 0 i r.cap).len:=by rw [hl1];show 0+_=_;omega
 refine h.app0 TS (d2.le h.le) r2.st (by omega) λs2 F3 h hl2=> ?_;obtain ⟨G1,l1,hd,h⟩:=h.pinO;exact ⟨G1,s2,rfl,l1,⟨v1++v2,(r1.append r2).le l1,by rw [bR];exact hd⟩,h⟩
end
section
variable {G F:PH} {As:List (Ψ)} {g:Gr} {k:Nat}
theorem ni {v:Γ} (hg:GV F v g) (hz:Sml g) (hk:OkG g):ν 55 #[ZU v] F λr F'=>r=vi 0/\F.le F':=by have:=y5 hg hz;rw [pJ.2 hk] at this;exact this
theorem tC {v:Γ} (hg:GV F v g) (hz:Sml g) (hk:OkK g k):ν 15 #[ZU v] F λr F'=>(∃sl S,r=Z2 #[ZS sl,vi 0]/\bZ k g.ZG (aF g) ZT S/\RL F' sl (bv S g.ZH.length))/\F.le F':=by refine Xs ?_;unfold Vy;refine (St.start F).newG λb1 G1 F1 l1 q1 _ h=>⟨v,hg.size,ac (h.le _ _ q1),?_⟩;refine h.runv (ni (hg.le l1) hz hk.ok) λG2 F2 l2 h=>⟨_,rfl,λhn=>absurd rfl hn,λ_=>⟨v,hg.size,ac (h.le _ _ (l2 _ _ q1)),?_⟩⟩;refine (gM (hg.le (aa l1 l2)) hk h).mono ?_;rintro _ F3 ⟨G3,s,S,rfl,l3,_,hS,h⟩;obtain ⟨G4,l4,hr,h⟩:=h.mD_pin;have hr:=(hr (al _)).le h.le;exact ⟨s,rfl,⟨s,S,rfl,hS,hr⟩,aa l1 (aa l2 (aa l3 (aa l4 h.le)))⟩
theorem oe {v:Γ} (hg:GV F v g) (hz:Sml g) (hk:OkK g k):ν 17 #[ZU v] F λr F'=>(∃sl S,r=Z2 #[ZS sl,vi 0]/\bZ k g.ZG (aF g) ZQ S/\RL F' sl (bv S g.ZH.length))/\F.le F':=by refine Xt ?_;unfold Vz;refine (St.start F).newG λb1 G1 F1 l1 q1 _ h=>⟨v,hg.size,ac (h.le _ _ q1),?_⟩;refine h.runv (ni (hg.le l1) hz hk.ok) λG2 F2 l2 h=>⟨_,rfl,λhn=>absurd rfl hn,λ_=>⟨v,hg.size,ac (h.le _ _ (l2 _ _ q1)),?_⟩⟩;refine (gM (hg.le (aa l1 l2)) hk h).mono ?_;rintro _ F3 ⟨G3,s,S,rfl,l3,_,hS,h⟩;obtain ⟨G4,l4,hr,h⟩:=h.mD_pin;have hr:=(hr (al _)).le h.le;exact ⟨s,rfl,⟨s,S,rfl,hS,hr⟩,aa l1 (aa l2 (aa l3 (aa l4 h.le)))⟩
def spT (N:Int->Tr) (P:Nat->Tr) (i j:Nat) (x:Pr):Tr:=jm N ZT (P i) (x.right.take j++x.right.drop (j+1))
theorem og {r:List Sy} {j:Nat} {y:Sy}:y∈r.take j++r.drop (j+1)↔∃m:Nat,m≠j/\r[m]? =ZO y:=by
 rw [XR,List.mem_iff_getElem?,List.mem_iff_getElem?];constructor
 ·rintro (⟨m,hm⟩|⟨m,hm⟩)
  ·have hlt:=(XN.1 hm).1;rw [XX] at hlt;rw [Yp (by omega)] at hm;exact ⟨m,by omega,hm⟩
  ·rw [Zn] at hm;exact ⟨j+1+m,by omega,hm⟩
 ·rintro ⟨m,hne,hm⟩;by_cases h:m<j
  ·exact .inl ⟨m,by rw [Yp h];exact hm⟩
  ·exact .inr ⟨m - (j+1),by rw [Zn,show j+1+(m - (j+1))=m by omega];exact hm⟩
theorem Bp {N:Int->Tr} (hk:OkK g k) (hN:bZ k g.ZG (aF g) ZT N) {i j:Nat} {x:Pr}:Sx k (spT N (aF g) i j x)/\∀c,(spT N (aF g) i j x).ev c=ZT↔(aF g i).ev c=ZT/\∀(m:Nat) (y:Sy),m≠j->x.right[m]? =ZO y->y.t=ZQ/\Der g.ZG (aF g) ZT c y.i:=by
 obtain ⟨f1,f2⟩:=cN (st:=ZT) hN.sx (x.right.take j++x.right.drop (j+1)) (hk.prs i);refine ⟨f1,λc=>(f2 c).trans (and_congr_right λ_=>⟨λh m y hm hy=> ?_,λh y hy=> ?_⟩)⟩
 ·obtain ⟨h1,h2⟩:=h y (og.2 ⟨m,hm,hy⟩);have ht:y.t=ZQ:=by cases e:y.t with
   |false=>rfl
   |true=>cases h1 e
  exact ⟨ht,(hN.iff _ _).1 (h2 ht)⟩
 ·obtain ⟨m,hm,hy⟩:=og.1 hy;obtain ⟨h1,h2⟩:=h m y hm hy;exact ⟨λht=>(by rw [h1] at ht;cases ht),λ_=>(hN.iff _ _).2 h2⟩
structure Bq (k:Nat) (g:Gr) (S:Int×Int->Tr):Prop where
 sx:Sxs k S
 iff:∀a b c,(S (a,b)).ev c=ZT↔Stp g.ZG (aF g) c a b
structure StI (k:Nat) (g:Gr) (N:Int->Tr) (S:Int×Int->Tr) (p j:Nat):Prop where
 sx:Sxs k S
 snd:∀a b c,(S (a,b)).ev c=ZT->Stp g.ZG (aF g) c a b
 all:∀(i m:Nat) (x:Pr) (y:Sy),(i<p\/(i=p/\m<j))->g.ZG[i]? =ZO x->x.right[m]? =ZO y->y.t=ZQ->∀c,(spT N (aF g) i m x).ev c=ZT->(S (x.left,y.i)).ev c=ZT
theorem StI.next {N:Int->Tr} {S:Int×Int->Tr} {p j:Nat} {x:Pr} {y:Sy} (h:StI k g N S p j) (hk:OkK g k) (hN:bZ k g.ZG (aF g) ZT N) (hx:g.ZG[p]? =ZO x) (hy:x.right[j]? =ZO y) (ht:y.t=ZQ):StI k g N (bx S (x.left,y.i) (spT N (aF g) p j x)) p (j+1):=by
 obtain ⟨f1,f2⟩:=Bp hk hN (i:=p) (j:=j) (x:=x);refine ⟨cC h.sx f1,λa b c hc=> ?_,λi m x' y' hi hx' hy' ht' c hc=> ?_⟩
 ·rw [cR h.sx f1] at hc;rcases YF.1 hc with hc|hc
  ·exact h.snd a b c hc
  ·obtain ⟨e,hc⟩:=X7.1 hc;have e:=ε e;obtain ⟨e1,e2⟩:=Prod.ext_iff.1 e;obtain ⟨h1,h2⟩:=(f2 c).1 hc;exact ⟨p,j,x,y,hx,hy,ht,e1.symm,e2.symm,h1,h2⟩
 ·rw [cR h.sx f1];by_cases hlt:i<p\/(i=p/\m<j)
  ·rw [h.all i m x' y' hlt hx' hy' ht' c hc,Bool.true_or]
  ·have e1:i=p:=by omega
   have e2:m=j:=by omega
   subst e1 e2;rw [hx] at hx';cases hx';rw [hy] at hy';cases hy';rw [hc,ζ rfl];simp
theorem StI.skip {N:Int->Tr} {S:Int×Int->Tr} {p j:Nat} {x:Pr} {y:Sy} (h:StI k g N S p j) (hx:g.ZG[p]? =ZO x) (hy:x.right[j]? =ZO y) (ht:y.t=ZT):StI k g N S p (j+1):=
 ⟨h.sx,h.snd,λi m x' y' hi hx' hy' ht' c hc=>by
  by_cases hlt:i<p\/(i=p/\m<j)
  ·exact h.all i m x' y' hlt hx' hy' ht' c hc
  ·have e1:i=p:=by omega
   have e2:m=j:=by omega
   subst e1 e2;rw [hx] at hx';cases hx';rw [hy] at hy';cases hy';rw [ht] at ht'
   cases ht'⟩
theorem StI.down {N:Int->Tr} {S:Int×Int->Tr} {p:Nat} {x:Pr} (h:StI k g N S p x.right.length) (hx:g.ZG[p]? =ZO x):StI k g N S (p+1) 0:=
 ⟨h.sx,h.snd,λi m x' y' hi hx' hy' ht' c hc=>h.all i m x' y' (by
  by_cases e:i=p
  ·subst e;rw [hx] at hx';cases hx';exact .inr ⟨rfl,(XN.1 hy').1⟩
  ·exact .inl (by omega)) hx' hy' ht' c hc⟩
theorem StI.done {N:Int->Tr} {S:Int×Int->Tr} (h:StI k g N S g.ZG.length 0) (hk:OkK g k) (hN:bZ k g.ZG (aF g) ZT N):Bq k g S:=
 ⟨h.sx,λa b c=>⟨h.snd a b c,λ⟨i,j,x,y,h1,h2,h3,h4,h5,h6,h7⟩=>by
  rw [<- h4,<- h5]
  exact h.all i j x y (.inl (XN.1 h1).1) h1 h2 h3 c (((Bp hk hN).2 c).2 ⟨h6,h7⟩)⟩⟩
theorem Bt {v:Γ} (hg:GV G v g) (hk:OkK g k) (h:St G F As):
  ν 60 #[ZU v] F λr F'=>∃G' o sl S,r=ZS o/\G.le G'/\RdS G' o 1 (slL sl g.ZH.length)/\Bq k g S/\St G' F' (mM G' sl S g.ZH.length g.ZH.length++As):=by
 obtain ⟨_,_,TD⟩:=Mm;obtain ⟨o1,o2,o3,o4⟩:=cH hk.ok;have hk6:=hk.le;have hgv:=hg;obtain ⟨c,n,t,s0,p,l,f,rfl,hs⟩:=hg;have es:=hs.s.len;have ep:=hs.p.len;refine Xz ?_;unfold VG;refine h.newG λb1 G1 F1 l1 q1 _ h=>⟨_,rfl,ac (h.le _ _ q1),?_⟩;refine (gM (hgv.le l1) hk h).mono ?_;rintro _ F2 ⟨G2,sN,N,rfl,l2,hsN,hN,h⟩;obtain ⟨G3,l3,hNr,h⟩:=h.mD_pin;have hNr:=hNr (al _);have l12:=aa l1 (aa l2 l3);have q13:=l3 _ _ (l2 _ _ q1);refine ⟨sN,rfl,s0,ld (h.le _ _ q13) rfl,?_⟩;have h:=(h.nilOwn 39 1);refine ⟨λm o q F'=>∃(i:Nat) (G':PH) (sl:Nat->Sl),q=i/\i<=g.ZH.length/\m=g.ZH.length - i/\G3.le G'/\o.len=i/\St G' F' (own o 39 1 (slL sl i)::(mM G' sl (λ_=>ZL ZQ) g.ZH.length i++As)),g.ZH.length,⟨0,G3,λ_=>Z3,rfl,Zj _,rfl,al _,rfl,h⟩,?_⟩;rintro _ o _ F3 ⟨i,G4,sl,rfl,hi,rfl,l4,ho,h⟩;unfold Jw;refine ⟨λhlt=> ?_,λhge=> ?_⟩
 ·have hlt:i<g.ZH.length:=by omega
  rw [es];refine (km (by omega) h).mono ?_;rintro _ F4 ⟨G5,s,rfl,l5,hs5,h⟩;refine ⟨s,rfl,?_⟩;refine h.swap.push0 TD (c:= #[s.v]) rfl (by simp [am,ZS]) (by omega) λo' G6 F5 l6 h ho'=> ?_;rw [aC hlt];refine ⟨g.ZH.length - (i+1),by omega,i+1,G6,λm=>if m=i then s else sl m,rfl,by omega,rfl,aa l4 (aa l5 l6),by omega,?_⟩;rw [IR,Qm];have h:St G6 F5 (own o' 39 1 (slL sl i++[ZS s])::mD G5 s (bv (λ_=>ZL ZQ) g.ZH.length)::(mM G4 sl (λ_=>ZL ZQ) g.ZH.length i++As)):=h;refine h.impAll (by simp only [X4,XT,dV];omega) λm A B hA hB H hH=> ?_
  match m,hA,hB with
  |0,hA,hB=>cases hA;cases hB;exact hH
  |1,hA,hB=>cases hA;cases hB;exact hH.le l6
  |m+2,hA,hB=>
   have hA:(mM G4 sl (λ_=>ZL ZQ) g.ZH.length i++As)[m]? =ZO A:=hA;have hB:(mM G6 sl (λ_=>ZL ZQ) g.ZH.length i++As)[m]? =ZO B:=hB;by_cases hm:m<i
   ·have e1:=fu (G0:=G4) (sl:=sl) (S:=λ_=>ZL ZQ) (nt:=g.ZH.length) (As:=As) (i:=i - 1 - m) (n:=i) (by omega);have e2:=fu (G0:=G6) (sl:=sl) (S:=λ_=>ZL ZQ) (nt:=g.ZH.length) (As:=As) (i:=i - 1 - m) (n:=i) (by omega);rw [show i - 1 - (i - 1 - m)=m by omega] at e1 e2;rw [e1] at hA;rw [e2] at hB;cases hA;cases hB;exact hH.le (aa l5 l6)
   ·rw [X6 (by rw [dV];omega),dV] at hA hB;rw [hA] at hB;cases hB;exact hH
 ·have e:i=g.ZH.length:=by omega
  subst e;obtain ⟨G5,l5,hout,h⟩:=h.pinO;have h:=Vo l5 h;have l15:=aa l12 (aa l4 l5);have hNr5:=hNr.le (aa l4 l5);have q15:=(aa l4 l5) _ _ q13;have e0:o.len=g.ZH.length:=ho;unfold Jv;refine bi (BK · b1 sN o _) g.ZG.length (λpn F'=>∃(G':PH) (S:Int×Int->Tr),G5.le G'/\StI k g N S pn 0/\St G' F' (mM G' sl S g.ZH.length g.ZH.length++As)) ⟨G5,_,al _,⟨λ_=>Sx.ZL k ZQ,λa b c hc=>(by cases hc),λi m x y hi=>(by omega)⟩,h⟩ ?_;rintro pn F4 N1 hpn ⟨G6,S,l6,hI,h⟩ next;have l16:=aa l15 l6;have q16:=l6 _ _ q15;unfold BK;refine ⟨p,ld (h.le _ _ q16) rfl,λhlt=> ?_,λhge=> ?_⟩
  ·have hlt:pn<g.ZG.length:=by omega
   refine ⟨p,ld (h.le _ _ q16) rfl,?_⟩;refine ixc (hs.p.le l16) (by decide) (by omega) (by omega) λa35 c35 x hx hrow35 hc35=> ?_;rw [N5] at hx;have hxm:=XQ hx;obtain ⟨_,_,⟨hl0,hl1',_⟩,hsy⟩:=hk.prod hxm;have hl1:=hl1' rfl;have hl1:x.left<(g.ZH.length:Nat):=hl1;have hxl:=o4 x hxm;obtain ⟨r,n8,l8,rfl,hr,_⟩:=hc35;have er:=hr.len;obtain ⟨xl,hxle⟩:=YH hl0;have hxle:x.left=(xl:Int):=hxle;have hxlt:xl<g.ZH.length:=by omega
   refine ⟨r,aZ (aT h.le hrow35) (i:=2) rfl,?_⟩;refine bi (BJ N1 · b1 sN o (pn:Int) r _) x.right.length (λj F'=>∃(G':PH) (S':Int×Int->Tr),G6.le G'/\StI k g N S' pn j/\St G' F' (mM G' sl S' g.ZH.length g.ZH.length++As)) ⟨G6,S,al _,hI,h⟩ ?_;rintro j F5 N2 hj ⟨G7,S',l7,hI',h⟩ next2;have l17:=aa l16 l7;have q17:=l7 _ _ q16;unfold BJ;refine ⟨λhjl=> ?_,λhjg=> ?_⟩
   ·have hjl:j<x.right.length:=by omega
    refine ixc (hr.le l7) (by decide) (by omega) (by omega) λa46 c46 y hy hrow46 hc46=> ?_;rw [N5] at hy;obtain rfl:c46=y.arr:=hc46;refine ⟨y.t,aS (aT h.le hrow46) rfl,λht=> ?_,λht=> ?_⟩
    ·have ht:y.t=ZQ:=by simpa using ht
     have hyy:=hsy y (XQ hy);have hy0:=hyy.1;have hy1:y.i<(g.ZH.length:Nat):=hyy.2.1 ht;refine ⟨p,ld (h.le _ _ q17) rfl,?_⟩;refine ixc (hs.p.le l17) (by decide) (by omega) (by omega) λa54 c54 x' hx' hrow54 hc54=> ?_;rw [N5,hx] at hx';cases hx';obtain ⟨r',n8',l8',rfl,_⟩:=hc54;refine ⟨x.left,aZ (aT h.le hrow54) (i:=1) rfl,?_⟩;have hat:∀{G' F':PH} {As':List (Ψ)},G7.le G'->St G' F' As'->∃a,o.ZK=ZO a/\0<=x.left/\x.left<(o.len:Int)/\F'.cell (ZW a (ZY x.left*1))=ZO (ZS (sl xl)):=λ{G' F' As'} l h=>by rw [hxle];exact ((hout.le (aa l6 (aa l7 l))).le h.le).at6 (Bo hxlt)
     obtain ⟨a57,d1,d2,d3,d4⟩:=hat (al _) h;refine ⟨a57,d1,d2,d3,sl xl,d4,?_⟩;refine ixc (hr.le l7) (by decide) (by omega) (by omega) λa61 c61 y' hy' hrow61 hc61=> ?_;rw [N5,hy] at hy';cases hy';obtain rfl:c61=y.arr:=hc61;refine ⟨y.i,aZ (aT h.le hrow61) (i:=1) rfl,_,rfl,ac (h.le _ _ q17),?_⟩;have cells:∀{G' F':PH} {As':List (Ψ)},G7.le G'->St G' F' As'->F'.cell (ZW (ZW a61 (ZY (j:Int)*2)) 1)=ZO (vi y.i)/\F'.cell (ZW a57 (ZY x.left*1))=ZO (ZS (sl xl))/\F'.cell (ZW (ZW a54 (ZY (pn:Int)*13)) 1)=ZO (vi x.left)/\F'.cell (ZX b1 5 ZR)=ZO (ZS p):=λ{G' F' As'} l h=>by obtain ⟨a57',e1,_,_,e4⟩:=hat l h;rw [d1] at e1;cases e1;exact ⟨aZ (aT (aa l h.le) hrow61) (i:=1) rfl,e4,aZ (aT (aa l h.le) hrow54) (i:=1) rfl,ld (h.le _ _ (l _ _ q17)) rfl⟩
     refine h.run (ft (hgv.le l17) hk hlt) λ_ G8 F8 hr8 l8 h=> ?_;obtain ⟨w8,rfl,hw8⟩:=hr8;obtain ⟨z1,z2,z3,z4⟩:=cells l8 h;refine ⟨w8,rfl,z1,z2,z3,z4,?_⟩;refine (zd ((hr.le l7).le l8) hjl (by omega) h).mono ?_;rintro _ F9 ⟨G9,so,rfl,l9,hso,h⟩;obtain ⟨z1,z2,z3,z4⟩:=cells (aa l8 l9) h;refine ⟨so,rfl,z1,z2,z3,z4,?_⟩;refine (iq (n:=g.ZH.length) (S:=N) (st:=ZT) hk6 hN.sx (hk.prs pn) (hw8.le l9) hso (by rw [XT,XX,Y6];omega) (λu hu hut=> ?_) (Rdb.pin ((hNr5.le (aa l6 l7)).le (aa l8 l9))) h).mono ?_
     ·obtain ⟨m,_,hm⟩:=og.1 hu;have:=hsy u (XQ hm);exact ⟨this.1,this.2.1 hut⟩
     rintro _ F10 ⟨G10,⟨w,rfl,hw⟩,l10,h⟩;have l710:=aa l8 (aa l9 l10);obtain ⟨z1,z2,z3,z4⟩:=cells l710 h;refine ⟨w,rfl,z1,z2,z3,z4,?_⟩;refine (oZ hk6 hI'.sx (Bp hk hN (i:=pn) (j:=j) (x:=x)).1 hw hxlt hy0 hy1 l710 h).mono ?_;rintro _ F11 ⟨G11,ch,rfl,_,l11,h⟩;obtain ⟨z1,z2,z3,z4⟩:=cells (aa l710 l11) h;refine ⟨ch,rfl,z3,z4,?_⟩;unfold xB;rw [aC hjl];refine next2 _ hjl ⟨G11,_,aa l7 (aa l710 l11),?_,h⟩;rw [<- hxle];exact hI'.next hk hN hx hy ht
    ·have ht:y.t=ZT:=by simpa using ht
     unfold xB;rw [aC hjl];exact next2 _ hjl ⟨G7,S',l7,hI'.skip hx hy ht,h⟩
   ·have e:j=x.right.length:=by omega
    subst e;unfold Ju;rw [aC hlt];exact next _ hlt ⟨G7,S',aa l6 l7,hI'.down hx,h⟩
  ·have e:pn=g.ZG.length:=by omega
   subst e;unfold Jt;exact ⟨G6,o,sl,S,rfl,l16,hout.le l6,hI.done hk hN,h⟩
end
section
variable {g:Gr} {k:Nat}
def StN (g:Gr) (c:Cf) (a b:Nat):Prop:=Stp g.ZG (aF g) c a b
theorem xr (hk:OkK g k) {c:Cf} {a b:Int} (h:Stp g.ZG (aF g) c a b):(∃a':Nat,a=a'/\a'<g.ZH.length)/\∃b':Nat,b=b'/\b'<g.ZH.length:=by obtain ⟨i,j,x,s,hi,hj,hs,rfl,rfl,_⟩:=h;obtain ⟨_,_,⟨hl0,hl1',_⟩,hsy⟩:=hk.prod (XQ hi);have hl1:x.left<(g.ZH.length:Nat):=hl1' rfl;have hl0:0<=x.left:=hl0;obtain ⟨h0,h1,_⟩:=hsy s (XQ hj);have h1:s.i<(g.ZH.length:Nat):=h1 hs;exact ⟨⟨x.left.toNat,by omega,by omega⟩,⟨s.i.toNat,by omega,by omega⟩⟩
theorem Qn (hk:OkK g k) {c:Cf} {a:Nat} {b:Int} (h:Tg (Stp g.ZG (aF g) c) a b):∃b':Nat,b=b'/\Tg (StN g c) a b':=by
 induction h with
 |one h=>obtain ⟨_,b',rfl,_⟩:=xr hk h;exact ⟨b',rfl,.one h⟩
 |snoc _ h ih=>obtain ⟨b',rfl,ih⟩:=ih;obtain ⟨_,d',rfl,_⟩:=xr hk h;exact ⟨d',rfl,.snoc ih h⟩
theorem IS (hk:OkK g k) {c:Cf} {a b:Nat} (h:Tg (Stp g.ZG (aF g) c) a b):Pw (StN g c) g.ZH.length a b:=by
 obtain ⟨b',e,h⟩:=Qn hk h;obtain rfl:b=b':=by omega
 refine Pw.of (λi j hr=> ?_) h;obtain ⟨⟨a',e1,h1⟩,b',e2,h2⟩:=xr hk hr;omega
structure WaI (k:Nat) (g:Gr) (S:Int×Int->Tr) (q i j:Nat):Prop where
 sx:Sxs k S
 snd:∀a b c,(S (a,b)).ev c=ZT->Tg (Stp g.ZG (aF g) c) a b
 all:∀(a b:Nat) c,a<g.ZH.length->b<g.ZH.length->(Pw (StN g c) q a b\/((a<i\/(a=i/\b<j))/\Pw (StN g c) (q+1) a b))->(S ((a:Int),(b:Int))).ev c=ZT
theorem WaI.start {S:Int×Int->Tr} (h:Bq k g S):WaI k g S 0 0 0:=⟨h.sx,λa b c hc=> .one ((h.iff a b c).1 hc),λa b c _ _ hp=>by
 rcases hp with hp|⟨hp,_⟩
 ·exact (h.iff a b c).2 hp
 ·omega⟩
theorem WaI.next {S:Int×Int->Tr} {q i j:Nat} (h:WaI k g S q i j) (hq:q<g.ZH.length) (hi:i<g.ZH.length) (hj:j<g.ZH.length):WaI k g (bx S ((i:Int),(j:Int)) (ap2 aY (S ((i:Int),(q:Int))) (S ((q:Int),(j:Int))))) q i (j+1):=by
 have f1:=(h.sx ((i:Int),(q:Int))).ap2 (o:=aY) (h.sx ((q:Int),(j:Int)));have f2:=(bq (o:=aY) (h.sx ((i:Int),(q:Int))).1 (h.sx ((q:Int),(j:Int))).1).2;refine ⟨cC h.sx f1,λa b c hc=> ?_,λa b c ha hb hp=> ?_⟩
 ·rw [cR h.sx f1] at hc;rcases YF.1 hc with hc|hc
  ·exact h.snd a b c hc
  ·obtain ⟨e,hc⟩:=X7.1 hc;obtain ⟨e1,e2⟩:=Prod.ext_iff.1 (ε e);have e1:a=(i:Int):=e1;have e2:b=(j:Int):=e2;rw [f2] at hc;obtain ⟨h1,h2⟩:=X7.1 hc;rw [e1,e2];exact (h.snd _ _ c h1).trans (h.snd _ _ c h2)
 ·rw [cR h.sx f1];by_cases hold:Pw (StN g c) q a b\/((a<i\/(a=i/\b<j))/\Pw (StN g c) (q+1) a b)
  ·rw [h.all a b c ha hb hold,Bool.true_or]
  ·rcases hp with hp|⟨hlt,hp⟩
   ·exact absurd (.inl hp) hold
   ·have hne:¬(a<i\/(a=i/\b<j)):=λh=>hold (.inr ⟨h,hp⟩);have e1:a=i:=by omega
    have e2:b=j:=by omega
    subst e1 e2;rcases hp with hp|⟨h1,h2⟩
    ·exact absurd (.inl hp) hold
    ·have g1:=h.all a q c hi hq (.inl h1);have g2:=h.all q b c hq hj (.inl h2);rw [ζ rfl,f2,YY];show (_ || ((S ((a:Int),(q:Int))).ev c && (S ((q:Int),(b:Int))).ev c))=ZT;rw [g1,g2];simp
theorem WaI.row {S:Int×Int->Tr} {q i:Nat} (h:WaI k g S q i g.ZH.length):WaI k g S q (i+1) 0:=⟨h.sx,h.snd,λa b c ha hb hp=>h.all a b c ha hb (hp.imp id λ⟨h1,h2⟩=>⟨by omega,h2⟩)⟩
theorem WaI.up {S:Int×Int->Tr} {q:Nat} (h:WaI k g S q g.ZH.length 0):WaI k g S (q+1) 0 0:=⟨h.sx,h.snd,λa b c ha hb hp=>by
 rcases hp with hp|⟨hp,_⟩
 ·exact h.all a b c ha hb (.inr ⟨.inl ha,hp⟩)
 ·omega⟩
theorem WaI.done {S:Int×Int->Tr} (hk:OkK g k) (h:WaI k g S g.ZH.length 0 0):ja k g.ZH.length g.ZG (aF g) λi=>S (i,i):=
 ⟨λi=>h.sx _,λi c hi=>⟨h.snd _ _ c,λt=>h.all i i c hi hi (.inl (IS hk t))⟩⟩
theorem IT {n:Nat} {l:List Pr} {P:Nat->Tr} {C D:Int->Tr} (hC:ja k n l P C) (hD:ja k n l P D):bv C n=bv D n:=by unfold bv;refine YR λi hi=> ?_;have hi:=Yv.1 hi;congr 1;exact dI (hC.sx _).1 (hD.sx _).1 λc=>XV.2 ((hC.iff i c hi).trans (hD.iff i c hi).symm)
section
variable {G F:PH}
theorem nj {v:Γ} (hg:GV F v g) (hz:Sml g) (hk:OkK g k):ν 20 #[ZU v] F λr F'=>(∃sl ds,r=Z2 #[ZS sl,vi 0]/\L0 k g ds/\RL F' sl ds)/\F.le F':=by
 obtain ⟨_,_,TD⟩:=Q7;obtain ⟨o1,o2,o3,o4⟩:=cH hk.ok;have hk6:=hk.le;refine Xv ?_;unfold VB;refine (St.start F).newG λb1 G1 F1 l1 q1 _ h=>⟨v,hg.size,ac (h.le _ _ q1),?_⟩;refine h.runv (ni (hg.le l1) hz hk.ok) λG2 F2 l2 h=>⟨_,rfl,λhn=>absurd rfl hn,λ_=>⟨v,hg.size,ac (h.le _ _ (l2 _ _ q1)),?_⟩⟩;refine (Bt (hg.le (aa l1 l2)) hk h).mono ?_;rintro _ F3 ⟨G3,o,sl,S,rfl,l3,hout,hS,h⟩;have l03:=aa l1 (aa l2 l3);have eo:=hout.len;rw [LU,Yj] at eo;refine ⟨o,rfl,?_⟩;refine bi (BF · o _) g.ZH.length (λq F'=>∃(G':PH) (S:Int×Int->Tr),G3.le G'/\WaI k g S q 0 0/\St G' F' (mM G' sl S g.ZH.length g.ZH.length++[])) ⟨G3,S,al _,WaI.start hS,h⟩ ?_;rintro q F4 N2 hq ⟨G4,S4,l4,hI4,h⟩ next2;unfold BF;refine ⟨λhlt=> ?_,λhge=> ?_⟩
 ·have hql:q<g.ZH.length:=by omega
  refine bi (BE N2 · o (q:Int) _) g.ZH.length (λi F'=>∃(G':PH) (S:Int×Int->Tr),G4.le G'/\WaI k g S q i 0/\St G' F' (mM G' sl S g.ZH.length g.ZH.length++[])) ⟨G4,S4,al _,hI4,h⟩ ?_;rintro i F5 N3 hi ⟨G5,S5,l5,hI5,h⟩ next3;unfold BE;refine ⟨λhlt=> ?_,λhge=> ?_⟩
  ·have hil:i<g.ZH.length:=by omega
   refine bi (BC N2 N3 · o (q:Int) (i:Int) _) g.ZH.length (λj F'=>∃(G':PH) (S:Int×Int->Tr),G5.le G'/\WaI k g S q i j/\St G' F' (mM G' sl S g.ZH.length g.ZH.length++[])) ⟨G5,S5,al _,hI5,h⟩ ?_;rintro j F6 N4 hj ⟨G6,S6,l6,hI6,h⟩ next4;have l36:=aa l4 (aa l5 l6);unfold BC;refine ⟨λhlt=> ?_,λhge=> ?_⟩
   ·have hjl:j<g.ZH.length:=by omega
    have hat:∀{m:Nat} {G' F':PH} {As':List (Ψ)},m<g.ZH.length->G6.le G'->St G' F' As'->∃a,o.ZK=ZO a/\0<=(m:Int)/\(m:Int)<(o.len:Int)/\F'.cell (ZW a (ZY (m:Int)*1))=ZO (ZS (sl m)):=λ{m G' F' As'} hm l h=>
     ((hout.le (aa l36 l)).le h.le).at6 (Bo hm)
    obtain ⟨ai,d1,d2,d3,d4⟩:=hat hil (al _) h;obtain ⟨aq,e1,e2,e3,e4⟩:=hat hql (al _) h;rw [d1] at e1;cases e1;refine ⟨ai,d1,d2,d3,sl i,d4,ai,d1,d2,d3,sl i,d4,?_⟩;refine h.mD_ix (fu hil) (al _) (by omega) (by omega) λa46 c46 hrow46 hd46=>⟨c46,hd46.size,hrow46,ai,d1,e2,e3,sl q,e4,?_⟩;refine h.mD_ix (fu hql) (al _) (by omega) (by omega) λa53 c53 hrow53 hd53=>⟨c53,hd53.size,hrow53,?_⟩;have cells:∀{m:Nat} {G' F':PH} {As':List (Ψ)},m<g.ZH.length->G6.le G'->St G' F' As'->F'.cell (ZW ai (ZY (m:Int)*1))=ZO (ZS (sl m)):=λ{m G' F' As'} hm l h=>by obtain ⟨a,x1,_,_,x4⟩:=hat hm l h;rw [d1] at x1;cases x1;exact x4
    have f1:=(hI6.sx ((i:Int),(q:Int))).ap2 (o:=aY) (hI6.sx ((q:Int),(j:Int)));refine h.run (ga hk6 (hI6.sx ((i:Int),(q:Int))) (hI6.sx ((q:Int),(j:Int))) hd46 hd53) λ_ G7 F7 hr7 l7 h=> ?_;obtain ⟨w,rfl,hw⟩:=hr7;refine ⟨w,rfl,cells hql l7 h,cells hil l7 h,cells hil l7 h,?_⟩;refine (oZ hk6 hI6.sx f1 hw hil (j:=(j:Int)) (by omega) (by omega) l7 h).mono ?_;rintro _ F8 ⟨G8,ch,rfl,_,l8,h⟩;have l68:=aa l7 l8;refine ⟨ch,rfl,cells hql l68 h,cells hil l68 h,?_⟩;rw [aC hjl];exact next4 _ hjl ⟨G8,_,aa l6 l68,hI6.next hql hil hjl,h⟩
   ·have e:j=g.ZH.length:=by omega
    subst e;unfold Jk;rw [aC hil];exact next3 _ hil ⟨G6,S6,aa l5 l6,hI6.row,h⟩
  ·have e:i=g.ZH.length:=by omega
   subst e;unfold Jj;rw [aC hql];exact next2 _ hql ⟨G5,S5,aa l4 l5,hI5.up,h⟩
 ·have e:q=g.ZH.length:=by omega
  subst e;unfold Ji;have hC:=hI4.done hk;have h:=(h.nilOwn 31 2);refine ⟨λm u i F'=>∃(j:Nat) (G':PH) (vs:List Γ),i=j/\j<=g.ZH.length/\m=g.ZH.length - j/\G4.le G'/\u.len=j/\df G' (bv (λi=>S4 (i,i)) j) vs/\St G' F' (own u 31 2 (cat vs)::(mM G4 sl S4 g.ZH.length g.ZH.length++[])),g.ZH.length,⟨0,G4,[],rfl,Zj _,rfl,al _,rfl,.nil,h⟩,?_⟩;rintro _ u _ F5 ⟨j,G5,vs,rfl,hj,rfl,l5,hu,hvs,h⟩;unfold Jh;refine ⟨λhlt=> ?_,λhge=> ?_⟩
  ·have hjl:j<g.ZH.length:=by omega
   obtain ⟨a,d1,d2,d3,d4⟩:=((hout.le (aa l4 l5)).le h.le).at6 (Bo (sl:=sl) hjl);refine ⟨a,d1,d2,d3,sl j,d4,?_⟩;have hget:(own u 31 2 (cat vs)::(mM G4 sl S4 g.ZH.length g.ZH.length++[]))[g.ZH.length - 1 - j+1]? =ZO (mD G4 (sl j) (bv (λj'=>S4 ((j:Int),j')) g.ZH.length)):=by rw [Yl];exact fu hjl
   refine h.mD_ix hget l5 (by omega) (by omega) λa68 c68 hrow68 hd68=>⟨c68,hd68.size,hrow68,hd68.size,?_⟩;refine h.push0 TD (c:=c68) hd68.size hd68.st (by omega) λu' G6 F6 l6 h hu'=> ?_;rw [aC hjl];refine ⟨g.ZH.length - (j+1),by omega,j+1,G6,vs++[c68],rfl,by omega,rfl,aa l5 l6,by omega,?_,?_⟩
   ·rw [nB];exact (hvs.le l6).append (.cons (hd68.le l6) .nil)
   ·rw [bR,cL];exact h
  ·have e:j=g.ZH.length:=by omega
   subst e;unfold Jg;obtain ⟨G6,l6,hd,h⟩:=h.pinO;exact ⟨⟨u,_,rfl,⟨_,hC,rfl⟩,⟨vs,(hvs.le l6).le h.le,hd.le h.le⟩⟩,aa l03 (aa l4 (aa l5 (aa l6 h.le)))⟩
theorem o7 {v:Γ} (hg:GV F v g) (hz:Sml g) (hk:OkK g k):ν 24 #[ZU v] F λr F'=>(iY g/\r=vi 60\/¬iY g/\r=vi 0)/\F.le F':=by
 obtain ⟨o1,o2,o3,o4⟩:=cH hk.ok;refine Xx ?_;unfold VD;refine (St.start F).newG λb1 G1 F1 l1 q1 _ h=>⟨v,hg.size,ac (h.le _ _ q1),?_⟩;refine h.run (nj (hg.le l1) hz hk) λ_ G2 F2 hr l2 h=> ?_;obtain ⟨sl,_,rfl,⟨C,hC,rfl⟩,hsl⟩:=hr;have es:=hsl.len;rw [gu] at es;refine ⟨sl,_,rfl,λhn=>absurd rfl hn,λ_=> ?_⟩;refine bi (BH · sl _) g.ZH.length (λi F'=>F'=F2/\∀m:Nat,m<i->C (m:Int)=ZL ZQ) ⟨rfl,λm hm=>by omega⟩ ?_;rintro i _ N hi ⟨rfl,hno⟩ next;unfold BH;refine ⟨λhlt=> ?_,λhge=> ?_⟩
 ·have hlt:i<g.ZH.length:=by omega
  refine ixc hsl (by decide) (by omega) (by omega) λa c d hd hrow hc=> ?_;rw [y9 (by omega) (by omega)] at hd;cases hd;obtain ⟨sd,rfl,_⟩:=id (show DV G2 c (dia (C i)) from hc);refine ⟨(dia (C i)).2,aZ (aT h.le hrow) (i:=1) rfl,λhne=>⟨.inl ⟨?_,rfl⟩,aa l1 (aa l2 h.le)⟩,λhe=> ?_⟩
  ·have hex:¬∀c,(C i).ev c=(ZL ZQ).ev c:=λh=>hne ((dW (hC.sx _).1).2 (dI (hC.sx _).1 trivial h));obtain ⟨c,hc⟩:=Classical.not_forall.1 hex;refine ⟨i,c,hlt,(hC.iff i c hlt).1 ?_⟩;cases e:(C i).ev c with
   |true=>rfl
   |false=>rw [e] at hc;exact absurd rfl hc
  ·rw [aC hlt];refine next _ hlt ⟨rfl,λm hm=> ?_⟩;by_cases e:m=i
   ·rw [e];exact (dW (hC.sx _).1).1 (Zw.1 he)
   ·exact hno m (by omega)
 ·unfold Jp;refine ⟨.inr ⟨λ⟨m,c,hm,t⟩=> ?_,rfl⟩,aa l1 (aa l2 h.le)⟩;have:=(hC.iff m c hm).2 t;rw [hno m (by omega)] at this;cases this
end
end
section
end
section
end
section
end
section
end
section
end
section
variable {g:Gr} {k:Nat} {D:Int->Tr}
def ruT (g:Gr) (D S:Int->Tr) (i:Nat) (x:Pr):Tr:=ap2 aY (S x.left) (jm D ZQ (aF g i) x.right)
theorem tD (hk:OkK g k) (hD:bZ k g.ZG (aF g) ZQ D) {S:Int->Tr} (hS:Sxs k S) {i:Nat} {x:Pr}:Sx k (ruT g D S i x)/\∀c,(ruT g D S i x).ev c=ZT↔(S x.left).ev c=ZT/\(aF g i).ev c=ZT/\∀y∈x.right,y.t=ZQ->Der g.ZG (aF g) ZQ c y.i:=by obtain ⟨f1,f2⟩:=cN (st:=ZQ) hD.sx x.right (hk.prs i);refine ⟨(hS x.left).ap2 f1,λc=> ?_⟩;unfold ruT;rw [(bq (hS x.left).1 f1.1).2];show ((S x.left).ev c && _)=ZT↔_;rw [X7,f2];exact and_congr_right λ_=>and_congr_right λ_=>⟨λh y hy ht=>(hD.iff _ _).1 ((h y hy).2 ht),λh y hy=>⟨λ_=>rfl,λht=>(hD.iff _ _).2 (h y hy ht)⟩⟩
def RcS (g:Gr) (S:Int->Tr):Prop:=∀n c,(S n).ev c=ZT->Rch g.ZG (aF g) (tre g.fam) g.start c n
theorem LV (hk:OkK g k) (hD:bZ k g.ZG (aF g) ZQ D) {S T:Int->Tr} (hS:Sxs k S) (hT:Sxs k T) (h:RcS g S) (hT':RcS g T) {i:Nat} {x:Pr} {y:Sy} (hx:g.ZG[i]? =ZO x) (hy:y∈x.right) (ht:y.t=ZQ):RcS g (bx T y.i (ruT g D S i x)):=λn c hc=>by
 obtain ⟨f1,f2⟩:=tD hk hD hS (i:=i) (x:=x);rw [cR hT f1] at hc;rcases YF.1 hc with hc|hc
 ·exact hT' n c hc
 ·obtain ⟨e,hc⟩:=X7.1 hc;rw [ε e];obtain ⟨h1,h2,h3⟩:=(f2 c).1 hc;exact .step i x y hx h2 (h _ _ h1) h3 hy ht
def ClU (g:Gr) (D S:Int->Tr) (i:Nat) (x:Pr):Prop:=∀y∈x.right,y.t=ZQ->∀c,(ruT g D S i x).ev c=ZT->(S y.i).ev c=ZT
theorem LW (hk:OkK g k) (hD:bZ k g.ZG (aF g) ZQ D) {S:Int->Tr} (hS:Sxs k S) (hf:∀c,(tre g.fam).ev c=ZT->(S g.start).ev c=ZT) (hc:∀(i:Nat) (x:Pr),g.ZG[i]? =ZO x->ClU g D S i x) {c:Cf} {n:Int} (h:Rch g.ZG (aF g) (tre g.fam) g.start c n):(S n).ev c=ZT:=by
 induction h with
 |start h=>exact hf c h
 |step i x s hi hp _ hd hs ht ih=>exact hc i x hi s hs ht c (((tD hk hD hS).2 c).2 ⟨ih,hp,hd⟩)
def oo (U:Nat->Tr) (i:Nat) (t:Tr):Nat->Tr:=λm=>if m=i then t else U m
theorem IU {U:Nat->Tr} {n i:Nat} {t:Tr} (h:i<n):fJ (oo U i t) n=(fJ U n).set i (dia t):=by
 refine Yx λm=> ?_;by_cases hm:m<n
 ·rw [qU hm];by_cases e:i=m
  ·subst e;rw [Yr (by rw [jt];exact h)];unfold oo;rw [Χ rfl]
  ·rw [YW e,qU hm];unfold oo;rw [Υ (by omega)]
 ·rw [Yi (by rw [jt];omega),Yi (by rw [Zh,jt];omega)]
section
variable {G F G0:PH} {As:List (Ψ)}
theorem St.mD_put {ds:List Dia} {s:Sl} {j i:Nat} {d:Dia} {w:Γ} (h:St G F As) (hi:As[j]? =ZO (mD G0 s ds)) (l0:G0.le G) (hil:i<ds.length) (hw:DV G w d) {C:Ψ} (kk:∀F',St G F' (As.set j (mD G s (ds.set i d)))->C F'):
  ∃a:Addr,s.ZK=ZO a/\0<=(i:Int)/\(i:Int)<(s.len:Int)/\aw F (ZW a (ZY (i:Int)*2)) 2 w C:=by
 obtain ⟨vs,h⟩:=h.exI j hi;have hj:j<As.length:=(XN.1 hi).1;obtain ⟨hr,h⟩:=h.prI j (Yr hj);rw [List.set_set] at h;obtain ⟨c,hc,hcr,_⟩:=hr.get (N6 hil);have hcs:c.size=2:=Mem.len hcr;obtain ⟨a,g1,g2,g3,g4⟩:=h.elN j (Yr hj) hr.sz hc (by decide) (off:=0) (m:=2) (v:=w) hw.size (by decide) hw.st (C:=C) λF' h=>by rw [xq (by rw [hw.size,hcs]),List.set_set] at h;refine kk F' ?_;have:=h.imp (A':=mD G s (ds.set i d)) j (Yr hj) λH _ hH=>⟨_,(hr.le l0).set (show Mem.rep G d w from hw),hH⟩;rwa [List.set_set] at this
 exact ⟨a,g1,g2,g3,g4⟩
end
structure RuI (k:Nat) (g:Gr) (S:Int->Tr):Prop where
 sx:Sxs k S
 snd:RcS g S
 fam:∀c,(tre g.fam).ev c=ZT->(S g.start).ev c=ZT
theorem RuI.add (hk:OkK g k) (hD:bZ k g.ZG (aF g) ZQ D) {S T:Int->Tr} (h:RuI k g S) (h':RuI k g T) {i:Nat} {x:Pr} {y:Sy} (hx:g.ZG[i]? =ZO x) (hy:y∈x.right) (ht:y.t=ZQ):RuI k g (bx T y.i (ruT g D S i x)):=by have f1:=(tD hk hD h.sx (i:=i) (x:=x)).1;exact ⟨cC h'.sx f1,LV hk hD h.sx h'.sx h.snd h'.snd hx hy ht,λc hc=>dK (n:=y.i) h'.sx f1 _ c (h'.fam c hc)⟩
theorem RuI.use (hk:OkK g k) (hD:bZ k g.ZG (aF g) ZQ D) {S:Int->Tr} {U:Nat->Tr} (h:RuI k g S) (hU:∀i,Sx k (U i)) (hc:∀(i:Nat) (x:Pr),g.ZG[i]? =ZO x->ClU g D S i x/\U i=ruT g D S i x):BX k g.ZG (aF g) (tre g.fam) g.start U:=by
 refine ⟨hU,λi c hi=> ?_⟩;have hx:g.ZG[i]? =ZO (g.ZG[i]'hi):=N6 hi;rw [(hc i _ hx).2,(tD hk hD h.sx).2];constructor
 ·rintro ⟨h1,h2,h3⟩;exact ⟨_,hx,h2,h.snd _ _ h1,h3⟩
 ·rintro ⟨x,hx',h2,h1,h3⟩;rw [hx] at hx';cases hx';exact ⟨LW hk hD h.sx h.fam (λi x hx=>(hc i x hx).1) h1,h2,h3⟩
section
variable {G F F0:PH}
def RuR (k:Nat) (g:Gr) (F:PH):VR:=λr F'=>(∃sl ds,r=Z2 #[ZS sl,vi 0]/\Gb k g ds/\RL F' sl ds)/\F.le F'
theorem Fl {b1:Nat} {c n t s0 p l f sD sR:Sl} (hk:OkK g k) (hD:bZ k g.ZG (aF g) ZQ D) (hst:g.start=0) (_:g.ZH.length≠0) (lF:F0.le G) (hs:GS G g c n t s0 p l f) (q1:G b1=ZO (ZP (g.arr c n t s0 p l f) 37)) (hDr:RL G sD (bv D g.ZH.length))
  (h:St G F [mD G sR (bv (cQ (λ_=>ZL ZQ) 0 (tre g.fam)) g.ZH.length)]):
  Ls F (ZX b1 5 ZR) λv_31=>Cs 68 #[vi (v_31.len:Int)] F λv_33 F=>Lp ZT F λN ch F=>BG N b1 sD sR v_33 (RuR k g F0) ch F:=by
 obtain ⟨o1,o2,o3,o4⟩:=cH hk.ok;have hk6:=hk.le;have ep:=hs.p.len;refine ⟨p,ld (h.le _ _ q1) rfl,?_⟩;dsimp only;rw [ep];refine (km (by omega) h).mono ?_;rintro _ F1 ⟨G1,sO,rfl,l1,hsO,h⟩;refine ⟨sO,rfl,?_⟩;have h:=h.swap.imp (A':=mD G1 sR (bv (cQ (λ_=>ZL ZQ) 0 (tre g.fam)) g.ZH.length)) 0 rfl λH _ hH=>mD.le hH l1;have h:St G1 F1 [mD G1 sR (bv (cQ (λ_=>ZL ZQ) 0 (tre g.fam)) g.ZH.length),mD G1 sO (fJ (λ_=>ZL ZQ) g.ZG.length)]:=h;have hgv:GV G (g.arr c n t s0 p l f) g:=⟨c,n,t,s0,p,l,f,rfl,hs⟩;have h0:RuI k g (cQ (λ_=>ZL ZQ) 0 (tre g.fam)):=by
  refine ⟨Sxs.upd (λ_=>Sx.ZL k ZQ) hk.fam.1,λm c hc=> ?_,λc hc=> ?_⟩
  ·unfold cQ at hc;by_cases e:m=0
   ·rw [Χ e] at hc;rw [e,<- hst];exact .start hc
   ·rw [Υ e] at hc;cases hc
  ·rw [hst];unfold cQ;rw [Χ rfl];exact hc
 have hkeys:∀(i:Nat) (x:Pr) (y:Sy),g.ZG[i]? =ZO x->y∈x.right->y.i∈g.ZG.flatMap λx=>x.right.map (·.i):=λi x y hx hy=>Zm.2 ⟨x,XQ hx,X1.2 ⟨y,hy,rfl⟩⟩;generalize (g.ZG.flatMap λx=>x.right.map (·.i))=keys at hkeys
 refine ⟨λm ch F'=>∃(G':PH) (S:Int->Tr) (U:Nat->Tr),G1.le G'/\RuI k g S/\(∀i,Sx k (U i))/\(ch=ZQ->∀(i:Nat) (x:Pr),g.ZG[i]? =ZO x->ClU g D S i x/\U i=ruT g D S i x)/\m=mu k keys S+(if ch=ZT then 1 else 0)/\
  St G' F' [mD G' sR (bv S g.ZH.length),mD G' sO (fJ U g.ZG.length)],_,⟨G1,_,_,al _,h0,λ_=>Sx.ZL k ZQ,λhc=>(by cases hc),rfl,h⟩,?_⟩
 rintro _ ch F2 ⟨G2,S,U,l2,hS,hU,hCl,rfl,h⟩;have l02:=aa l1 l2;unfold BG;refine ⟨λhch=> ?_,λhch=> ?_⟩
 ·rw [Χ hch]
  refine ⟨λm2 ch2 q F'=>∃(pn:Nat) (G':PH) (S':Int->Tr) (U':Nat->Tr),q=pn/\pn<=g.ZG.length/\m2=g.ZG.length - pn/\G2.le G'/\RuI k g S'/\(∀i,Sx k (U' i))/\mu k keys S'<=mu k keys S/\(ch2=ZT->mu k keys S'<mu k keys S)/\(ch2=ZQ->∀(j:Nat) (x:Pr),j<pn->g.ZG[j]? =ZO x->ClU g D S' j x/\U' j=ruT g D S' j x)/\
   St G' F' [mD G' sR (bv S' g.ZH.length),mD G' sO (fJ U' g.ZG.length)],g.ZG.length,⟨0,G2,S,U,rfl,Zj _,rfl,al _,hS,hU,XS _,λh=>(by cases h),λ_ j x hj=>(by omega),h⟩,?_⟩
  rintro _ ch2 _ F3 ⟨pn,G3,S',U',rfl,hpn,rfl,l3,hS',hU',hmu,hmu2,hCl',h⟩;have l03:=aa l02 l3;have q13:=l03 _ _ q1;unfold Jo;refine ⟨p,ld (h.le _ _ q13) rfl,λhlt=> ?_,λhge=> ?_⟩
  ·have hlt:pn<g.ZG.length:=by omega
   refine ⟨p,ld (h.le _ _ q13) rfl,?_⟩;refine ixc (hs.p.le l03) (by decide) (by omega) (by omega) λa45 c45 x hx hrow45 hc45=>⟨c45,Mem.len hc45,aT h.le hrow45,?_⟩;rw [N5] at hx;have hxm:=XQ hx;obtain ⟨_,_,⟨hl0,hl1',_⟩,hsy⟩:=hk.prod hxm;have hl0:0<=x.left:=hl0;have hl1:x.left<(g.ZH.length:Nat):=hl1' rfl;obtain ⟨xl,hxle⟩:=YH hl0;have hxle:x.left=(xl:Int):=hxle;have hxl:=o4 x hxm;refine h.var (Mem.st hc45) (λb10 G4 F4 l4 q10 h=> ?_) rfl (Mem.len hc45);obtain ⟨r,n8,l8,rfl,hr,_⟩:=hc45;have l04:=aa l03 l4;have q14:=l4 _ _ q13;have er:=hr.len;refine ⟨x.left,ld (h.le _ _ q10) rfl,?_⟩;obtain ⟨vs,h⟩:=h.exI 0 rfl;obtain ⟨hvs,h⟩:=h.prI 0 rfl;have h:St G4 F4 [own sR 31 2 (cat vs),mD G3 sO (fJ U' g.ZG.length)]:=h;obtain ⟨c52,hc52,hcr52,hcd52⟩:=hvs.get (nf (S:=S') (n:=g.ZH.length) (j:=xl) (by omega));have hd52:DV G4 c52 (dia (S' xl)):=DV.le (show DV G3 c52 _ from hcr52) l4;have rd52:∀{G' F':PH},St G' F' [own sR 31 2 (cat vs),mD G3 sO (fJ U' g.ZG.length)]->∃a:Addr,sR.ZK=ZO a/\0<=(xl:Int)/\(xl:Int)<(sR.len:Int)/\F'.row (ZW a (ZY (xl:Int)*2)) c52:=λ{G' F'} h=>h.elR 0 rfl hvs.sz hc52 (by decide) hcd52 λa hrow=>hrow;obtain ⟨a52,d1,d2,d3,d4⟩:=rd52 h;have rw52:∀{G' F':PH},St G' F' [own sR 31 2 (cat vs),mD G3 sO (fJ U' g.ZG.length)]->F'.row (ZW a52 (ZY (xl:Int)*2)) c52:=λ{G' F'} h=>by obtain ⟨a,e1,_,_,e4⟩:=rd52 h;rw [d1] at e1;cases e1;exact e4
   rw [hxle];refine ⟨a52,d1,d2,d3,c52,hd52.size,d4,_,rfl,ac (h.le _ _ q14),r,ld (h.le _ _ q10) rfl,?_⟩;refine h.run (ft (hgv.le l04) hk hlt) λ_ G5 F5 hr5 l5 h=> ?_;obtain ⟨w5,rfl,hw5⟩:=hr5;have cl:∀{G' F':PH},G4.le G'->St G' F' [own sR 31 2 (cat vs),mD G3 sO (fJ U' g.ZG.length)]->F'.cell (ZX b10 1 ZR)=ZO (vi (xl:Int)):=λ{G' F'} l h=>by rw [<- hxle];exact ld (h.le _ _ (l _ _ q10)) rfl
   refine ⟨w5,rfl,ld (h.le _ _ (l5 _ _ q10)) rfl,rw52 h,cl l5 h,?_⟩;have hsyn:∀y∈x.right,y.t=ZQ->0<=y.i/\y.i<(g.ZH.length:Nat):=λy hy ht=>⟨(hsy y hy).1,(hsy y hy).2.1 ht⟩;refine (iq (n:=g.ZH.length) (S:=D) (st:=ZQ) hk6 hD.sx (hk.prs pn) hw5 ((hr.le l4).le l5) (by omega) hsyn (Rdb.pin (hDr.le (aa l04 l5))) h).mono ?_;rintro _ F6 ⟨G6,⟨w6,rfl,hw6⟩,l6,h⟩;have l46:=aa l5 l6;have f6:=(cN (st:=ZQ) hD.sx x.right (hk.prs pn)).1;refine ⟨w6,rfl,rw52 h,cl l46 h,?_⟩;refine h.run (ga hk6 (hS'.sx xl) f6 (hd52.le l46) hw6) λ_ G7 F7 hr7 l7 h=> ?_;obtain ⟨w7,rfl,hw7⟩:=hr7;have l47:=aa l46 l7;have hw7:DV G7 w7 (dia (ruT g D S' pn x)):=by unfold ruT;rw [hxle];exact hw7
   refine ⟨w7,rfl,cl l47 h,?_⟩;have l37:=aa l4 l47;have h:=h.imp (A':=mD G7 sR (bv S' g.ZH.length)) 0 rfl λH _ hH=>⟨vs,hvs.le l37,hH⟩;have h:St G7 F7 [mD G7 sR (bv S' g.ZH.length),mD G3 sO (fJ U' g.ZG.length)]:=h;obtain ⟨f1,f2⟩:=tD hk hD hS'.sx (i:=pn) (x:=x);refine h.mD_put (j:=1) rfl l37 (by rw [jt];exact hlt) hw7 λF8 h=> ?_;rw [<- IU hlt] at h;have h:St G7 F8 [mD G7 sR (bv S' g.ZH.length),mD G7 sO (fJ (oo U' pn (ruT g D S' pn x)) g.ZG.length)]:=h;have hUu:∀i,Sx k (oo U' pn (ruT g D S' pn x) i):=λi=>by
    unfold oo;split
    ·exact f1
    ·exact hU' i
   have l07:=aa l03 l37
   refine ⟨λm3 ch3 q F'=>∃(j:Nat) (G':PH) (S'':Int->Tr),q=j/\j<=x.right.length/\m3=x.right.length - j/\G7.le G'/\RuI k g S''/\mu k keys S''<=mu k keys S/\(ch3=ZT->mu k keys S''<mu k keys S)/\(ch3=ZQ->S''=S'/\ch2=ZQ/\∀(m:Nat) (y:Sy),m<j->x.right[m]? =ZO y->y.t=ZQ->∀c,(ruT g D S' pn x).ev c=ZT->(S' y.i).ev c=ZT)/\
    St G' F' [mD G' sR (bv S'' g.ZH.length),mD G' sO (fJ (oo U' pn (ruT g D S' pn x)) g.ZG.length)],x.right.length,⟨0,G7,S',rfl,Zj _,rfl,al _,hS',hmu,hmu2,λhc=>⟨rfl,hc,λm y hm=>(by omega)⟩,h⟩,?_⟩
   rintro _ ch3 _ F9 ⟨j,G8,S'',rfl,hj,rfl,l8,hS'',hmu3,hmu4,hno,h⟩;have l48:=aa l47 l8;have q108:=l48 _ _ q10;unfold Jn;refine ⟨r,ld (h.le _ _ q108) rfl,λhjl=> ?_,λhjg=> ?_⟩
   ·have hjl:j<x.right.length:=by omega
    refine ⟨r,ld (h.le _ _ q108) rfl,?_⟩;refine ixc ((hr.le l4).le l48) (by decide) (by omega) (by omega) λa73 c73 y hy hrow73 hc73=> ?_;rw [N5] at hy;obtain rfl:c73=y.arr:=hc73;have hym:=XQ hy;refine ⟨y.t,aS (aT h.le hrow73) rfl,λht=> ?_,λht=> ?_⟩
    ·have ht:y.t=ZQ:=by simpa using ht
     obtain ⟨y0,y1⟩:=hsyn y hym ht;refine ⟨r,ld (h.le _ _ q108) rfl,?_⟩;refine ixc ((hr.le l4).le l48) (by decide) (by omega) (by omega) λa81 c81 y' hy' hrow81 hc81=> ?_;rw [N5,hy] at hy';cases hy';obtain rfl:c81=y.arr:=hc81;refine ⟨y.i,aZ (aT h.le hrow81) (i:=1) rfl,?_⟩;have hget:(fJ (oo U' pn (ruT g D S' pn x)) g.ZG.length)[pn]? =ZO (dia (ruT g D S' pn x)):=by rw [qU hlt];unfold oo;rw [Χ rfl]
     obtain ⟨us,h⟩:=h.exI 1 rfl;obtain ⟨hus,h⟩:=h.prI 1 rfl;have h:St G8 F9 [mD G8 sR (bv S'' g.ZH.length),own sO 31 2 (cat us)]:=h;obtain ⟨c86,hc86,hcr86,hcd86⟩:=hus.get hget;refine h.elR 1 rfl hus.sz hc86 (by decide) hcd86 λa86 hrow86=>⟨c86,Mem.len hcr86,hrow86,?_⟩;refine (lq hk6 hS''.sx f1 (show DV G8 c86 _ from hcr86) y0 y1 (al _) h).mono ?_;rintro _ F10 ⟨G9,ch4,rfl,hch4,l9,h⟩;have h:=h.imp (A':=mD G9 sO (fJ (oo U' pn (ruT g D S' pn x)) g.ZG.length)) 1 rfl λH _ hH=>⟨us,hus.le l9,hH⟩;obtain ⟨m1,m2⟩:=DK hS''.sx f1 (hkeys pn x y hx hym);refine ⟨ch4,rfl,ld (h.le _ _ (l9 _ _ q108)) rfl,?_⟩
     have go:∀ch5:Bool,(ch5=ZT↔ch3=ZT\/ch4=ZT)->∃m',m'<x.right.length - j/\(∃(j':Nat) (G':PH) (T:Int->Tr),(i64.wrap ((j:Int)+1))=j'/\j'<=x.right.length/\m'=x.right.length - j'/\G7.le G'/\RuI k g T/\mu k keys T<=mu k keys S/\(ch5=ZT->mu k keys T<mu k keys S)/\(ch5=ZQ->T=S'/\ch2=ZQ/\∀(m:Nat) (y:Sy),m<j'->x.right[m]? =ZO y->y.t=ZQ->∀c,(ruT g D S' pn x).ev c=ZT->(S' y.i).ev c=ZT)/\
       St G' F10 [mD G' sR (bv T g.ZH.length),mD G' sO (fJ (oo U' pn (ruT g D S' pn x)) g.ZG.length)]):=λch5 h5=>by
      rw [aC hjl];refine ⟨x.right.length - (j+1),by omega,j+1,G9,_,rfl,by omega,rfl,aa l8 l9,RuI.add hk hD hS' hS'' hx hym ht,by omega,λh=> ?_,λh=> ?_,h⟩
      ·rcases h5.1 h with h|h
       ·have:=hmu4 h;omega
       ·have:=m2 (hch4.1 h);omega
      ·have e3:ch3=ZQ:=by cases e:ch3 with
        |false=>rfl
        |true=>rw [h5.2 (.inl e)] at h;cases h
       have e4:bx S'' y.i (ruT g D S' pn x)=S'':=Classical.not_not.1 λhne=>by rw [h5.2 (.inr (hch4.2 hne))] at h;cases h
       obtain ⟨e5,e6,e7⟩:=hno e3;refine ⟨by rw [e4,e5],e6,λm z hm hz hzt c hc=> ?_⟩;by_cases em:m=j
       ·subst em;rw [hy] at hz;cases hz;have:=DL hS''.sx f1 e4 c hc;rwa [e5] at this
       ·exact e7 m z (by omega) hz hzt c hc
     unfold tK;exact ⟨λhc=>go ZT ⟨λ_=> .inl hc,λ_=>rfl⟩,λhc=>go ch4 ⟨.inr,λh=>h.resolve_left λh'=>by rw [h'] at hc;cases hc⟩⟩
    ·have ht:y.t=ZT:=by simpa using ht
     unfold tK;rw [aC hjl];refine ⟨x.right.length - (j+1),by omega,j+1,G8,S'',rfl,by omega,rfl,l8,hS'',hmu3,hmu4,λhc=> ?_,h⟩;obtain ⟨e5,e6,e7⟩:=hno hc;refine ⟨e5,e6,λm z hm hz hzt=> ?_⟩;by_cases em:m=j
     ·subst em;rw [hy] at hz;cases hz;rw [ht] at hzt;cases hzt
     ·exact e7 m z (by omega) hz hzt
   ·have e:j=x.right.length:=by omega
    subst e;unfold Jm;rw [aC hlt];refine ⟨g.ZG.length - (pn+1),by omega,pn+1,G8,S'',_,rfl,by omega,rfl,aa l3 (aa l37 l8),hS'',hUu,hmu3,hmu4,λhc i y hi hy=> ?_,h⟩;obtain ⟨e5,e6,e7⟩:=hno hc;rw [e5];by_cases ei:i=pn
    ·subst ei;rw [hx] at hy;cases hy;refine ⟨λz hz hzt c hc=> ?_,by unfold oo;rw [Χ rfl]⟩;obtain ⟨m,hm⟩:=List.mem_iff_getElem?.1 hz;exact e7 m z (XN.1 hm).1 hm hzt c hc
    ·have:=hCl' e6 i y (by omega) hy;refine ⟨this.1,?_⟩;unfold oo;rw [Υ ei];exact this.2
  ·have e:pn=g.ZG.length:=by omega
   subst e;refine ⟨mu k keys S'+(if ch2=ZT then 1 else 0),?_,G3,S',U',aa l2 l3,hS',hU',λhc i x hx=>hCl' hc i x (XN.1 hx).1 hx,rfl,h⟩;by_cases hc:ch2=ZT
   ·have:=hmu2 hc;rw [Χ hc];omega
   ·rw [Υ hc];omega
 ·unfold Jl;obtain ⟨G3,l3,hr,_⟩:=h.tail.mD_pin;have hr:=hr (al _);exact ⟨⟨sO,_,rfl,⟨U,hS.use hk hD hU (hCl hch),rfl⟩,hr.le (St.le ‹_›)⟩,aa lF (aa l02 h.le)⟩
end
section
variable {G F:PH}
theorem xu {v:Γ} (hg:GV F v g) (hz:Sml g) (hk:OkK g k) (hst:g.start=0) (hn0:g.ZH.length≠0):ν 22 #[ZU v] F λr F'=>(∃sl ds,r=Z2 #[ZS sl,vi 0]/\Gb k g ds/\RL F' sl ds)/\F.le F':=by
 obtain ⟨o1,o2,o3,o4⟩:=cH hk.ok;have hk6:=hk.le;have hgv:=hg;obtain ⟨c,n,t,s0,p,l,f,rfl,hs⟩:=hg;have es:=hs.s.len;have ep:=hs.p.len;refine Xw ?_;unfold VC;refine (St.start F).newG λb1 G1 F1 l1 q1 _ h=>⟨_,rfl,ac (h.le _ _ q1),?_⟩;refine h.runv (ni (hgv.le l1) hz hk.ok) λG2 F2 l2 h=>⟨_,rfl,λhn=>absurd rfl hn,λ_=>⟨_,rfl,ac (h.le _ _ (l2 _ _ q1)),?_⟩⟩;have l02:=aa l1 l2;refine (gM (hgv.le l02) hk h).mono ?_;rintro _ F3 ⟨G3,sD,D,rfl,l3,hsD,hD,h⟩;obtain ⟨G4,l4,hDr,h⟩:=h.mD_pin;have hDr:=hDr (al _);have l24:=aa l3 l4;have l04:=aa l02 l24;have q14:=l24 _ _ (l2 _ _ q1);refine ⟨sD,rfl,s0,ld (h.le _ _ q14) rfl,?_⟩;dsimp only;rw [es];refine (km (by omega) h).mono ?_;rintro _ F4 ⟨G5,sR,rfl,l5,hsR,h⟩;have l05:=aa l04 l5;have q15:=l5 _ _ q14;have hfam:=hk.fam;refine ⟨sR,rfl,g.start,ld (h.le _ _ q15) rfl,#[n.v,vi g.fam.2],rfl,iM (h.le _ _ q15) rfl,?_⟩;have dF:DV G5 #[n.v,vi g.fam.2] (dia (tre g.fam)):=by rw [<- hfam.2];exact DV.mk (hs.n.le l05)
 dsimp only;rw [hst];obtain ⟨a29,g1,g2,g3,g4⟩:=h.mD_put (j:=0) (i:=0) rfl (al _) (by rw [gu];omega) dF (C:=_) λF5 h=>by
  have h:St G5 F5 [mD G5 sR (bv (cQ (λ_=>ZL ZQ) 0 (tre g.fam)) g.ZH.length)]:=by have e:=za (S:=λ_=>ZL ZQ) (t:=tre g.fam) (show 0<g.ZH.length by omega);rw [show ((0:Nat):Int)=0 from rfl] at e;rw [e];exact h
  exact Fl hk hD hst hn0 l05 (hs.le l05) q15 (hDr.le l5) h
 exact ⟨a29,g1,g2,g3,g4⟩
end
end
theorem IV {k:Nat} {l:List Pr} {P:Nat->Tr} {fam:Tr} {st:Int} {U V:Nat->Tr} (hU:BX k l P fam st U) (hV:BX k l P fam st V):fJ U l.length=fJ V l.length:=by unfold fJ;refine YR λi hi=> ?_;have hi:=Yv.1 hi;congr 1;exact dI (hU.sx _).1 (hV.sx _).1 λc=>XV.2 ((hU.iff i c hi).trans (hV.iff i c hi).symm)
section
variable {F:PH}
theorem tE {k:Nat} {a b:Sl} {S T:Int->Tr} {n:Nat} (hk:k<=6) (ha:RL F a (bv S n)) (hb:RL F b (bv T n)) (hS:Sxs k S) (hn:n<=1000000) (e:bv S n=bv T n):ν 18 #[a.v,b.v] F λr F'=>r=ZV ZT/\F.le F':=by
 have:=dt ha hb (λd hd=>by
  obtain ⟨i,_,rfl⟩:=X1.1 hd
  exact i6 (hS _) hk) (by rw [gu];exact hn)
 rw [ζ e] at this;exact this
theorem t5 {v:Γ} {x:Rw} {sm:Sl} {more:List Ln} (hT:Tab F) (hx:zZ F v x) (hm:RL F sm more):ν 3 #[ZU v,sm.v] F (RT6 F):=by
 refine cQ3 ?_;unfold bQ3;have hvs:v.size=5:=by obtain ⟨⟨a,b,c,rfl,_⟩,_⟩:=hx;rfl
 refine (St.start F).newG λb2 G1 F1 l1 q2 _ h=> ?_;refine h.runv (Ma (hT.le l1)) λG2 F2 l2 h=>⟨_,rfl,v,hvs,ac (h.le _ _ (l2 _ _ q2)),?_⟩;have l02:=aa l1 l2;refine h.run (P:=λr G'=>∃w,r=ZU w/\GV G' w (gr x more)) (Bn (hx.le l02) (hm.le l02)) λ_ G3 F3 hr l3 h=> ?_;obtain ⟨w,rfl,hg⟩:=hr;have l03:=aa l02 l3;refine ⟨w,rfl,?_⟩;have lg:=IL x more;have hok:=lg.ok (by omega);have hz:=lg.mg.sz lg.bd;have hrl:=lg.rl;have hsl:=(lg.ti (by omega)).sml (by decide);have hst:=lg.mg.start;have hn0:=lg.bd.n0;generalize gr x more=g at*;clear lg hm hx;obtain ⟨o1,o2,o3,o4⟩:=cH hok.ok;have hk:=hok.le;refine h.var hg.st (λb6 G4 F4 l4 q6 h=> ?_) rfl hg.size;have hg:=hg.le l4;have l04:=aa l03 l4;have hT:=hT.le l04;have r6:∀{G' F':PH} {As:List (Ψ)},G4.le G'->St G' F' As->F'.row (ZX b6 0 ZR) w:=λl h=>ac (h.le _ _ (l _ _ q6));refine ⟨w,hg.size,r6 (al _) h,?_⟩;refine h.run (lC hT hg hz hok hrl (by omega) (by omega)) λ_ G5 F5 hr l5 h=> ?_;obtain ⟨sa,N1,rfl,hN1,ha⟩:=hr;refine ⟨sa,_,rfl,w,hg.size,r6 l5 h,?_⟩;refine h.run (tC (hg.le l5) hsl hok) λ_ G6 F6 hr l6 h=> ?_;obtain ⟨sb,N2,rfl,hN2,hb⟩:=hr;have m6:=aa l5 l6;refine ⟨sb,_,rfl,w,hg.size,r6 m6 h,?_⟩;refine h.run (js (hT.le m6) (hg.le m6) hz hok hrl (by omega) (by omega)) λ_ G7 F7 hr l7 h=> ?_;obtain ⟨sc,D1,rfl,hD1,hc⟩:=hr;have m7:=aa m6 l7;refine ⟨sc,_,rfl,w,hg.size,r6 m7 h,?_⟩;refine h.run (oe (hg.le m7) hsl hok) λ_ G8 F8 hr l8 h=> ?_;obtain ⟨sd,D2,rfl,hD2,hd⟩:=hr;have m8:=aa m7 l8;refine ⟨sd,_,rfl,λhn=>absurd rfl hn,λ_=>⟨λhn=>absurd rfl hn,λ_=> ?_⟩⟩;refine h.runv (tE hk (ha.le (aa l6 (aa l7 l8))) (hb.le (aa l7 l8)) hN1.sx (by omega) (by rw [hN1.eq hN2])) λG9 F9 l9 h=>⟨_,rfl,λhn=>(by cases hn),λ_=> ?_⟩;refine h.runv (tE hk (hc.le (aa l8 l9)) (hd.le l9) hD1.sx (by omega) (by rw [hD1.eq hD2])) λG10 F10 l10 h=>⟨_,rfl,λhn=>(by cases hn),λ_=> ?_⟩;have m10:=aa m8 (aa l9 l10);refine ⟨w,hg.size,r6 m10 h,?_⟩;refine h.run (lw (hT.le m10) (hg.le m10) hz hok) λ_ G11 F11 hr l11 h=> ?_;obtain ⟨se,_,rfl,⟨C1,hC1,rfl⟩,he⟩:=hr;have m11:=aa m10 l11;refine ⟨se,_,rfl,w,hg.size,r6 m11 h,?_⟩;refine h.run (nj (hg.le m11) hsl hok) λ_ G12 F12 hr l12 h=> ?_;obtain ⟨sf,_,rfl,⟨C2,hC2,rfl⟩,hf⟩:=hr;have m12:=aa m11 l12;refine ⟨sf,_,rfl,w,hg.size,r6 m12 h,?_⟩;refine h.run (qW (hT.le m12) (hg.le m12) hz hok hrl (by omega)) λ_ G13 F13 hr l13 h=> ?_;obtain ⟨si,_,rfl,⟨U1,hU1,rfl⟩,hi⟩:=hr;have m13:=aa m12 l13;refine ⟨si,_,rfl,w,hg.size,r6 m13 h,?_⟩;refine h.run (xu (hg.le m13) hsl hok hst hn0) λ_ G14 F14 hr l14 h=> ?_;obtain ⟨sj,_,rfl,⟨U2,hU2,rfl⟩,hj⟩:=hr;have m14:=aa m13 l14;refine ⟨sj,_,rfl,λ_=> ?_,λhn=>(by cases hn)⟩;refine ⟨λ_=> ?_,λhn=>absurd rfl hn⟩;refine ⟨λ_=> ?_,λhn=>absurd rfl hn⟩;refine h.runv (tE hk (he.le (aa l12 (aa l13 l14))) (hf.le (aa l13 l14)) hC1.sx (by omega) (IT hC1 hC2)) λG15 F15 l15 h=>⟨_,rfl,λ_=> ?_,λhn=>(by cases hn)⟩;have eU:=IV hU1 hU2
 have hsame:=dt (hi.le (aa l14 l15)) (hj.le l15) (λd hd=>by
  obtain ⟨i,_,rfl⟩:=X1.1 hd
  exact i6 (hU1.sx _) hk) (by rw [jt];omega)
 rw [ζ eU] at hsame;refine h.runv hsame λG16 F16 l16 h=>⟨_,rfl,λ_=> ?_,λhn=>(by cases hn)⟩;have m16:=aa m14 (aa l15 l16);refine ⟨w,hg.size,r6 m16 h,w,hg.size,r6 m16 h,?_⟩;refine h.run (ly (hT.le m16) (hg.le m16) hz hok) λr1 G17 F17 hr1 l17 h=> ?_;have m17:=aa m16 l17;rcases hr1 with ⟨h1,rfl⟩|⟨h1,rfl⟩
 ·refine ⟨_,rfl,r6 m17 h,?_⟩;refine h.run (o7 (hg.le m17) hsl hok) λr2 G18 F18 hr2 l18 h=> ?_;rcases hr2 with ⟨_,rfl⟩|⟨h2,_⟩
  ·exact ⟨_,rfl,rfl,aa l04 (aa m17 (aa l18 h.le))⟩
  ·exact absurd h1 h2
 ·refine ⟨_,rfl,r6 m17 h,?_⟩;refine h.run (o7 (hg.le m17) hsl hok) λr2 G18 F18 hr2 l18 h=> ?_;rcases hr2 with ⟨h2,_⟩|⟨_,rfl⟩
  ·exact absurd h2 h1
  ·exact ⟨_,rfl,rfl,aa l04 (aa m17 (aa l18 h.le))⟩
end
