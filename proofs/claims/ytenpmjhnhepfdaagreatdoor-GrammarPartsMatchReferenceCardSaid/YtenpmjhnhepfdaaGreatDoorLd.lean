/-
  A grammar with one field changed.
-/
import Derived.Test.YtenpmjhnhepfdaaGreatDoorLb
import Derived.Test.YtenpmjhnhepfdaaGreatDoorIw
import Derived.Test.YtenpmjhnhepfdaaGreatDoorTa
namespace Go.Proofs.YtenpmjhnhepfdaaGreatDoor
open Go Go.Proofs.Tryz Tr
set_option maxRecDepth 10000
section
variable {F:PH}
theorem xz {x:Pr}:pW x=true↔w7 x:= @decide_eq_true_iff _ (Classical.propDecidable _)
theorem Do {v:Array Value} {g:Gr} (hg:GV F v g) (hz:Sml g) (hlg:bE g=false):ae prog 134 #[.agg v] F fun r F'=>r=vi (bJ g [] g.prods)/\F.le F':=by
 have hg0:=hg
 obtain ⟨c,n,t,s,p,l,f,rfl,hs⟩:=hg
 have ec:=hs.c.len (by decide)
 have ep:=hs.p.len (by decide)
 have hcl:=hz.m.p
 obtain ⟨_,_,_,_,_,_,hR⟩:=dU hlg
 refine SJ ?_
 unfold LW
 refine (St.start F).newG fun b1 G1 F1 l1 q1 _ h=> ?_
 refine h.new fun b6 F2 h=> ?_
 have h:=h.imp (A':=own (Sl.mk (some (Addr.mk b6 0 none)) 0 0) 9 1 []) 0 rfl fun H _ hH=>bK hH
 refine ⟨fun m nm i F'=>∃(k:Nat) (G:PH),i=(k:Int)/\m=g.prods.length - k/\k<=g.prods.length/\G1.le G/\St G F' [own nm 9 1 (((g.prods.take k).map Pr.name).map Value.string)]/\bJ g [] g.prods=bJ g ((g.prods.take k).map Pr.name) (g.prods.drop k),g.prods.length,
  ⟨0,G1,rfl,rfl,by omega,le_refl' _,h,rfl⟩,?_⟩
 rintro m nm i F3 ⟨k,G,rfl,rfl,hk,lG,h,hE⟩
 have l1G:=aa l1 lG
 unfold BR
 refine ⟨_,ld (h.le _ _ (lG _ _ q1)) rfl,fun hlt=> ?_,fun hge=> ?_⟩
 ·have hlt:k<g.prods.length:=by omega
  refine ⟨_,ld (h.le _ _ (lG _ _ q1)) rfl,h.ix (hs.p.le l1G) (by decide) (by omega) (by omega) fun a cc x hx hr hc=> ?_⟩
  rw [Int.toNat_natCast] at hx
  have hxm:=List.mem_of_getElem? hx
  rw [du hx,bJ] at hE
  obtain ⟨hri,hla⟩:=hR x hxm
  have hxc:=hz.p x hxm
  refine ⟨_,Mem.len hc,hr,?_⟩
  refine h.var (Mem.st hc) (fun b5 G5 F5 l5 q5 h=> ?_) rfl (Mem.len hc)
  have lG5:=aa lG l5
  have l1F:=aa l1 lG5
  have hc0:=Mem.le l5 hc
  obtain ⟨rr,rn,rl,rfl,hr1,hr2,hr3⟩:=id hc0
  have e50:¬cz g x->∀{F':PH},F.le F'->(vi 50=vi (bJ g [] g.prods)/\F.le F'):=fun hn F' hl=>⟨by rw [hE,if_pos hn],hl⟩
  refine ⟨_,rfl,aj (h.le _ _ (lG5 _ _ q1)),_,rfl,aj (h.le _ _ q5),?_⟩
  refine (xB (hg0.le (aa l1F h.le)) (Mem.le h.le hc0) (by omega)).mono ?_
  rintro _ F6 ⟨⟨b,rfl,hb⟩,l6⟩
  have h:=h.up l6
  refine ⟨b,rfl,fun hn=>e50 (fun ho=>by rw [hb.2 ho] at hn;cases hn) (aa l1F h.le),fun hsy=> ?_⟩
  have hSy:=hb.1 (cI hsy)
  rw [if_neg (not_not_intro hSy)] at hE
  have e52:¬qi g ((g.prods.take k).map Pr.name) x->∀{F':PH},F.le F'->(vi 52=vi (bJ g [] g.prods)/\F.le F'):=fun hn F' hl=>⟨by rw [hE,if_pos hn],hl⟩
  refine ⟨_,ld (h.le _ _ q5) rfl,?_⟩
  refine rE h x.name (by rw [List.length_map,List.length_take];omega) fun s' G' F7 lG' h hrl=> ?_
  have hnx:((g.prods.take k).map Pr.name++[x.name])[k]? =some x.name:=by
   rw [List.getElem?_append_right (by rw [List.length_map,List.length_take];omega),List.length_map,List.length_take,Nat.min_eq_left hk,Nat.sub_self]
   rfl
  have htk:((g.prods.take k).map Pr.name++[x.name]).take k=(g.prods.take k).map Pr.name:=by
   rw [List.take_append_of_le_length (by rw [List.length_map,List.length_take];omega),List.take_of_length_le (by rw [List.length_map,List.length_take];omega)]
  refine (jC hrl (by rw [List.length_append,List.length_map,List.length_take,List.length_singleton];omega) hnx).mono ?_
  rintro _ F8 ⟨⟨b2,rfl,hb2⟩,l8⟩
  rw [htk] at hb2
  have h:=h.up l8
  have l1':=aa l1F lG'
  refine ⟨b2,rfl,fun hn=>e52 (fun ho=>by rw [hb2.2 ⟨ho.1,ho.2.1⟩] at hn;cases hn) (aa l1' h.le),fun hnw=>⟨#[rn.v,vi x.cond.2],rfl,dP (h.le _ _ (lG' _ _ q5)) rfl,_,ld (h.le _ _ (lG' _ _ (lG5 _ _ q1))) rfl,?_⟩⟩
  have hNw:=hb2.1 (cI hnw)
  dsimp only
  rw [ec]
  refine (iR (d:=x.cond) (DV.mk (hr2.le (aa lG' h.le))) (by unfold Fit;omega) hxc).mono ?_
  rintro _ F9 ⟨rfl,l9⟩
  have h:=h.up l9
  have q5':=h.le _ _ (lG' _ _ q5)
  have lF9:=aa l1' h.le
  refine ⟨_,rfl,fun hn=>e52 (fun ho=>by rw [bh.2 ho.2.2.1] at hn;cases hn) lF9,fun hft=>⟨_,ld q5' rfl,fun hn=>e52 (fun ho=>by have:=ho.2.2.2.1;omega) lF9,fun hr0=>⟨_,ld q5' rfl,fun hn=>e52 (fun ho=>by have:=ho.2.2.2.2.1;omega) lF9,fun hr9=>⟨_,rfl,aj q5',?_⟩⟩⟩⟩
  have hFt:=bh.1 (cI hft)
  refine (nj (Mem.le (aa lG' h.le) hc0) (by omega) (by omega)).mono ?_
  rintro _ F10 ⟨⟨b3,rfl,hb3⟩,l10⟩
  have h:=h.up l10
  have q6':=h.le _ _ (lG' _ _ q5)
  refine ⟨b3,rfl,fun hn=>e52 (fun ho=>by rw [hb3.2 ho.2.2.2.2.2.1] at hn;cases hn) (aa l1' h.le),fun h3=>⟨_,rfl,aj q6',?_⟩⟩
  refine (Ds (Mem.le (aa lG' h.le) hc0) (by omega)).mono ?_
  rintro _ F11 ⟨⟨b4,rfl,hb4⟩,l11⟩
  have h:=h.up l11
  have q7':=h.le _ _ (lG' _ _ q5)
  have lF11:=aa l1' h.le
  refine ⟨b4,rfl,fun hn=>e52 (fun ho=>by rw [hb4.2 ⟨ho.2.2.2.2.2.2.1,ho.2.2.2.2.2.2.2.1⟩] at hn;cases hn) lF11,fun h4=>⟨_,ld q7' rfl,fun hbr=>⟨_,rfl,aj q7',?_⟩,fun hbr=> ?_⟩⟩
  ·refine (kC (Mem.le (aa lG' h.le) hc0) (by omega)).mono ?_
   rintro _ F12 ⟨rfl,l12⟩
   have h:=h.up l12
   refine ⟨_,rfl,fun hn=>e52 (fun ho=> ?_) (aa l1' h.le),fun h5=> ?_⟩
   ·have:pW x=true:=xz.2 (ho.2.2.2.2.2.2.2.2 hbr)
    rw [this] at hn;cases hn
   ·have hok:qi g ((g.prods.take k).map Pr.name) x:=⟨hNw.1,hNw.2,hFt,by omega,by omega,hb3.1 (cI h3),(hb4.1 (cI h4)).1,(hb4.1 (cI h4)).2,fun _=>xz.1 (cI h5)⟩
    rw [if_neg (not_not_intro hok)] at hE
    unfold oI
    rw [aB hlt (by omega)]
    refine ⟨g.prods.length - (k+1),by omega,k+1,G',rfl,rfl,by omega,aa lG5 lG',?_,?_⟩
    ·rw [aI hx,List.map_append];exact h
    ·rw [aI hx,List.map_append];exact hE
  ·have hok:qi g ((g.prods.take k).map Pr.name) x:=⟨hNw.1,hNw.2,hFt,by omega,by omega,hb3.1 (cI h3),(hb4.1 (cI h4)).1,(hb4.1 (cI h4)).2,fun hc=>by rw [hbr] at hc;cases hc⟩
   rw [if_neg (not_not_intro hok)] at hE
   unfold oI
   rw [aB hlt (by omega)]
   refine ⟨g.prods.length - (k+1),by omega,k+1,G',rfl,rfl,by omega,aa lG5 lG',?_,?_⟩
   ·rw [aI hx,List.map_append];exact h
   ·rw [aI hx,List.map_append];exact hE
 ·have e:k=g.prods.length:=by omega
  rw [e,List.drop_length,bJ] at hE
  unfold BQ
  exact ⟨by rw [hE],aa l1G h.le⟩
open Classical in
theorem xA {v:Array Value} {g:Gr} (hg:GV F v g) (hz:Sml g):ae prog 136 #[.agg v] F (RB F (∀x∈g.fils,bO g x)):=by
 have hg0:=hg
 obtain ⟨c,n,t,s,p,l,f,rfl,hs⟩:=hg
 have ef:=hs.f.len (by decide)
 have hfl:=hz.m.f
 refine SM ?_
 unfold LY
 refine fresh fun b1 F1 l1 q1 _=> ?_
 refine bj (vx · b1 _) g.fils.length (fun k F'=>F1.le F'/\∀s∈g.fils.take k,bO g s) ⟨le_refl' _,by simp⟩ ?_
 rintro k F3 N hk ⟨l3,hi⟩ next
 have l13:=aa l1 l3
 unfold vx
 refine ⟨_,ld (l3 _ _ q1) rfl,fun hlt=> ?_,fun hge=> ?_⟩
 ·have hlt:k<g.fils.length:=by omega
  refine ⟨_,rfl,aj (l3 _ _ q1),_,ld (l3 _ _ q1) rfl,ixc (hs.f.le l13) (by decide) (by omega) (by omega) fun a cc z hz' hrz hc=> ?_⟩
  rw [Int.toNat_natCast] at hz'
  have hzm:=List.mem_of_getElem? hz'
  refine ⟨_,Mem.len hc,hrz,?_⟩
  refine (pV (hg0.le l13) hc (hz.f z hzm) (hz.z.f z hzm)).mono ?_
  rintro _ F4 ⟨rfl,l4⟩
  refine ⟨_,rfl,ld (l4 _ _ (l3 _ _ q1)) rfl,fun h=> .no (fun ho=> ?_) (aa l13 l4),fun h=> ?_⟩
  ·rw [decide_eq_true (ho z hzm)] at h;cases h
  ·rw [aB hlt (by omega)]
   refine next _ hlt ⟨aa l3 l4,fun s hs'=> ?_⟩
   rw [aI hz'] at hs'
   rcases List.mem_append.1 hs' with hs'|hs'
   ·exact hi s hs'
   ·rw [List.mem_singleton.1 hs'];exact of_decide_eq_true (cI h)
 ·have e:k=g.fils.length:=by omega
  subst e
  rw [List.take_length] at hi
  unfold BU
  exact .yes hi l13
def mks (n:Nat) (l:List Int):List Value:=(List.range n).map fun (i:Nat)=>Value.bool (decide ((i:Int)∈l))
theorem vO {n:Nat} {l:List Int} {i:Nat} (h:i<n):(mks n l).toArray[i]? =some (.bool (decide ((i:Int)∈l))):=by
 unfold mks
 rw [List.getElem?_toArray,List.getElem?_map,List.getElem?_range h]
 rfl
theorem Jo {n:Nat} {l:List Int} {i:Nat} (h:i<n):(mks n l).toArray.setIfInBounds i (.bool true)=(mks n (l++[(i:Int)])).toArray:=by
 apply Array.ext_getElem?
 intro j
 have hsz:∀l,(mks n l).toArray.size=n:=fun l=>by simp [mks]
 by_cases hj:j<n
 ·rw [vO hj]
  by_cases e:i=j
  ·subst e
   rw [Array.getElem?_setIfInBounds,if_pos rfl,if_pos (by rw [hsz];exact h),decide_eq_true (by simp)]
  ·rw [Array.getElem?_setIfInBounds_ne e,vO hj]
   congr 2
   refine decide_eq_decide.2 ⟨fun h=>by simp [h],fun h=> ?_⟩
   rcases List.mem_append.1 h with h|h
   ·exact h
   ·have:=List.mem_singleton.1 h
    omega
 ·rw [Array.getElem?_eq_none (by rw [Array.size_setIfInBounds,hsz];omega),Array.getElem?_eq_none (by rw [hsz];omega)]
theorem St.newE {G F:PH} {As:List (PH->Prop)} (h:St G F As) {b:Nat} (hb:F b=none) (o:Obj):St G (F.set b o) (pt b o::As):=
 atE (h.new (K:=fun b' F'=>b'=b->St G F' (pt b o::As)) (fun b' F' h' e=>by subst e;exact h') b hb) rfl
theorem zn {v:Array Value} {g:Gr} (hg:GV F v g) (hz:Sml g) (hlg:bE g=false):ae prog 135 #[.agg v] F (RB F (cC g [] g.lvs)):=by
 obtain ⟨c,n,t,s,p,l,f,rfl,hs⟩:=hg
 have ec:=hs.c.len (by decide)
 have ep:=hs.p.len (by decide)
 have el:=hs.l.len (by decide)
 obtain ⟨_,_,_,_,hp2,hl2,_⟩:=dU hlg
 refine SL ?_
 unfold LX
 refine (St.start F).newG fun b1 G1 F1 l1 q1 _ h=>⟨_,ld (h.le _ _ q1) rfl,?_⟩
 dsimp only
 refine bU underlying265 Qn Qo rfl (by omega) (Int.le_refl _) (by omega) (by omega) ?_
 intro bu hbu
 refine ⟨_,rfl,?_⟩
 rw [zc1 _ rfl,Int.toNat_natCast,ep]
 have e0:(List.replicate g.prods.length (Value.bool false)).toArray=(mks g.prods.length []).toArray:=by
  congr 1
  apply List.ext_getElem?
  intro j
  by_cases hj:j<g.prods.length
  ·simp [mks,hj]
  ·rw [List.getElem?_eq_none (by simp;omega),List.getElem?_eq_none (by simp [mks];omega)]
 rw [e0]
 have h:=h.newE hbu (.cells (mks g.prods.length []).toArray 4)
 generalize F1.set bu (.cells (mks g.prods.length []).toArray 4)=F2 at*
 refine bj (vu · b1 (Sl.mk (some (Addr.mk bu 0 none)) g.prods.length g.prods.length) _) g.lvs.length (fun k F'=>∃G,G1.le G/\St G F' [pt bu (.cells (mks g.prods.length ((g.lvs.take k).flatMap Lv.ps)).toArray 4)]/\(cC g [] g.lvs↔cC g ((g.lvs.take k).flatMap Lv.ps) (g.lvs.drop k)))
  ⟨G1,le_refl' _,h,Iff.rfl⟩ ?_
 rintro k F3 N hk ⟨G,lG,h,hE⟩ next
 have l1G:=aa l1 lG
 unfold vu
 refine ⟨_,ld (h.le _ _ (lG _ _ q1)) rfl,fun hlt=> ?_,fun hge=> ?_⟩
 ·have hlt:k<g.lvs.length:=by omega
  refine ⟨_,ld (h.le _ _ (lG _ _ q1)) rfl,h.ix (hs.l.le l1G) (by decide) (by omega) (by omega) fun a cc x hx hr hc=> ?_⟩
  rw [Int.toNat_natCast] at hx
  have hxm:=List.mem_of_getElem? hx
  rw [du hx,cC] at hE
  refine ⟨_,Mem.len hc,hr,?_⟩
  refine h.var (Mem.st hc) (fun b5 G5 F5 l5 q5 h=> ?_) rfl (Mem.len hc)
  have lG5:=aa lG l5
  have l1F:=aa l1 lG5
  have hc0:=Mem.le l5 hc
  obtain ⟨rp,rn,rfl,hr1,hr2⟩:=id hc0
  have er:=hr1.len (by decide)
  have hpl:=hz.z.l x hxm
  have bad:∀{F':PH},F.le F'->¬C7 g ((g.lvs.take k).flatMap Lv.ps) x->RB F (cC g [] g.lvs) (.bool false) F':=fun hl hn=> .no (fun ho=>hn (hE.1 ho).1) hl
  refine ⟨_,ld (h.le _ _ q5) rfl,fun hn=>bad (aa l1F h.le) fun ho=>by have:=ho.1;omega,fun h1=>⟨_,ld (h.le _ _ q5) rfl,fun hn=>bad (aa l1F h.le) fun ho=>by have:=ho.2.1;omega,fun h2=>⟨#[rn.v,vi x.cond.2],rfl,dP (h.le _ _ q5) rfl,_,ld (h.le _ _ (lG5 _ _ q1)) rfl,?_⟩⟩⟩
  dsimp only
  rw [ec]
  refine (iR (d:=x.cond) (DV.mk (hr2.le h.le)) (by have:=hz.l x hxm;unfold Fit;omega) (hz.l x hxm)).mono ?_
  rintro _ F6 ⟨rfl,l6⟩
  have h:=h.up l6
  refine ⟨_,rfl,fun hn=>bad (aa l1F h.le) fun ho=>(by rw [bh.2 ho.2.2.1] at hn;cases hn),fun hft=> ?_⟩
  have hFt:=bh.1 (cI hft)
  refine bj (vr N · b1 (Sl.mk (some (Addr.mk bu 0 none)) g.prods.length g.prods.length) (k:Int) b5 _) x.ps.length (fun j F'=>St G5 F' [pt bu (.cells (mks g.prods.length ((g.lvs.take k).flatMap Lv.ps++x.ps.take j)).toArray 4)]/\(∀p∈x.ps.take j,0<=p/\p<g.prods.length)/\(x.ps.take j).Nodup/\∀p∈x.ps.take j,p ∉ (g.lvs.take k).flatMap Lv.ps)
   ⟨by rw [List.take_zero,List.append_nil];exact h,by simp,by simp,by simp⟩ ?_
  rintro j F7 N2 hj ⟨h,i1,i2,i3⟩ next2
  unfold vr
  refine ⟨_,ld (h.le _ _ q5) rfl,fun hjl=> ?_,fun hjl=> ?_⟩
  ·have hjl:j<x.ps.length:=by omega
   refine ⟨_,ld (h.le _ _ q5) rfl,h.ix hr1 (by decide) (by omega) (by omega) fun a2 c2 y hy hry hcy=> ?_⟩
   rw [Int.toNat_natCast] at hy
   rw [show c2= #[vi y] from hcy] at hry
   have hym:=List.mem_of_getElem? hy
   have lF7:=aa l1F h.le
   refine ⟨y,aF hry rfl,fun hn=>bad lF7 fun ho=>by have:=ho.2.2.2.1 y hym;omega,fun h0=>⟨fun hn=>bad lF7 fun ho=>by have:=ho.2.2.2.1 y hym;have:(g.prods.length:Int)<=y:=hn;omega,fun h3=> ?_⟩⟩
   have hyl:y.toNat<g.prods.length:=by
    have:¬(g.prods.length:Int)<=y:=h3
    omega
   have hyn:((y.toNat:Nat):Int)=y:=Int.toNat_of_nonneg (by omega)
   have hcell:=vO (l:=(g.lvs.take k).flatMap Lv.ps++x.ps.take j) hyl
   rw [hyn] at hcell
   have ha:∀i:Nat,Addr.add (Addr.mk bu 0 none) (i*1)=Addr.mk bu i none:=fun i=>by rw [aK,Nat.zero_add,Nat.mul_one]
   refine ⟨_,rfl,by omega,by show y<(g.prods.length:Int);omega,_,by rw [ha];exact h.ld0 hcell,fun hb=>bad lF7 fun ho=> ?_,fun hb=>⟨_,rfl,by omega,by show y<(g.prods.length:Int);omega,?_⟩⟩
   ·have hb:=of_decide_eq_true hb
    rcases List.mem_append.1 hb with hb|hb
    ·exact ho.2.2.2.2.2 y hym hb
    ·have:=ho.2.2.2.2.1
     rw [<- List.take_append_drop j x.ps,List.nodup_append] at this
     exact this.2.2 y hb y (by rw [du hy];simp) rfl
   ·have hb:=of_decide_eq_false hb
    dsimp only
    rw [ha]
    refine h.set0 (w':=(mks g.prods.length ((g.lvs.take k).flatMap Lv.ps++x.ps.take (j+1))).toArray) (by simp [mks];exact hyl) (by rw [Jo hyl,hyn,aI hy,List.append_assoc]) fun F8 h=> ?_
    rw [aB hjl (by omega)]
    refine next2 _ hjl ⟨h,fun p hp=> ?_,?_,fun p hp=> ?_⟩
    ·rw [aI hy] at hp
     rcases List.mem_append.1 hp with hp|hp
     ·exact i1 p hp
     ·rw [List.mem_singleton.1 hp];omega
    ·rw [aI hy,List.nodup_append]
     refine ⟨i2,by simp,fun a ha b hb'=> ?_⟩
     rw [List.mem_singleton.1 hb']
     intro e
     subst e
     exact hb (List.mem_append_right _ ha)
    ·rw [aI hy] at hp
     rcases List.mem_append.1 hp with hp|hp
     ·exact i3 p hp
     ·rw [List.mem_singleton.1 hp]
      exact fun hm=>hb (List.mem_append_left _ hm)
  ·have e:j=x.ps.length:=by omega
   subst e
   rw [List.take_length] at h i1 i2 i3
   unfold BT
   rw [aB hlt (by omega)]
   refine next _ hlt ⟨G5,lG5,?_,?_⟩
   ·rw [aI hx,List.flatMap_append,List.flatMap_singleton]
    exact h
   ·rw [aI hx,List.flatMap_append,List.flatMap_singleton]
    exact hE.trans ⟨fun h=>h.2,fun h=>⟨⟨by omega,by omega,hFt,i1,i2,i3⟩,h⟩⟩
 ·have e:k=g.lvs.length:=by omega
  rw [e,List.drop_length,cC] at hE
  unfold BS
  exact .yes (hE.2 trivial) (aa l1G h.le)
theorem jg {v:Array Value} {g:Gr} (hg:GV F v g) (hz:Sml g):ae prog 44 #[.agg v] F fun r F'=>r=vi (bT g)/\F.le F':=by
 refine UV ?_
 unfold Sg
 refine fresh fun b1 F1 l1 q1 _=>⟨v,hg.size,aj q1,?_⟩
 refine (Dr (hg.le l1) hz.m).mono ?_
 rintro _ F2 ⟨⟨a1,rfl,h1⟩,l2⟩
 have k2:=aa l1 l2
 refine ⟨a1,rfl,fun e=>⟨?_,k2⟩,fun e=>⟨v,hg.size,aj (l2 _ _ q1),?_⟩⟩
 ·unfold bT;rw [if_pos (h1.1 e)]
 have hL:bE g=false:=by
  cases hb:bE g with
  |false=>rfl
  |true=>rw [h1.2 hb] at e;cases e
 refine (zp (hg.le k2) hz).mono ?_
 rintro _ F3 ⟨⟨a2,rfl,h2⟩,l3⟩
 have k3:=aa k2 l3
 have q3:=l3 _ _ (l2 _ _ q1)
 refine ⟨a2,rfl,fun e=>⟨?_,k3⟩,fun e=>⟨v,hg.size,aj q3,?_⟩⟩
 ·rw [t6 hL fun h=>by rw [h2.2 h] at e;cases e]
 have hF:=h2.1 (cI e)
 refine (zq (hg.le k3) hz).mono ?_
 rintro _ F4 ⟨⟨a3,rfl,h3⟩,l4⟩
 have k4:=aa k3 l4
 have q4:=l4 _ _ q3
 refine ⟨a3,rfl,fun e=>⟨?_,k4⟩,fun e=>⟨v,hg.size,aj q4,?_⟩⟩
 ·rw [t7 hL hF fun h=>by rw [h3.2 h] at e;cases e]
 have hT:=h3.1 (cI e)
 refine (Hf (hg.le k4) hz).mono ?_
 rintro _ F5 ⟨⟨a4,rfl,h4⟩,l5⟩
 have k5:=aa k4 l5
 have q5:=l5 _ _ q4
 refine ⟨a4,rfl,fun e=>⟨?_,k5⟩,fun e=>⟨v,hg.size,aj q5,?_⟩⟩
 ·rw [z8 hL hF hT fun h=>by rw [h4.2 h] at e;cases e]
 have hN:=h4.1 (cI e)
 refine (Do (hg.le k5) hz hL).mono ?_
 rintro _ F6 ⟨rfl,l6⟩
 have k6:=aa k5 l6
 have q6:=l6 _ _ q5
 refine ⟨_,rfl,fun e=>⟨?_,k6⟩,fun e=>⟨v,hg.size,aj q6,?_⟩⟩
 ·rw [kz hL hF hT hN rfl e]
 have hP:=Decidable.not_not.1 e
 refine (zn (hg.le k6) hz hL).mono ?_
 rintro _ F7 ⟨⟨a6,rfl,h6⟩,l7⟩
 have k7:=aa k6 l7
 refine ⟨a6,rfl,fun e=>⟨?_,k7⟩,fun e=>⟨v,hg.size,aj (l7 _ _ q6),?_⟩⟩
 ·rw [Aa hL hF hT hN hP fun h=>by rw [h6.2 h] at e;cases e]
 have hV:=h6.1 (cI e)
 refine (xA (hg.le k7) hz).mono ?_
 rintro _ F8 ⟨⟨a7,rfl,h7⟩,l8⟩
 have k8:=aa k7 l8
 refine ⟨a7,rfl,fun e=>⟨?_,k8⟩,fun e=>⟨?_,k8⟩⟩
 ·rw [Ik hL hF hT hN hP hV fun h=>by rw [h7.2 h] at e;cases e]
 ·rw [eV.2 ⟨hL,hF,hT,hN,hP,hV,h7.1 (cI e)⟩]
end
section
variable {g:Gr} {a b:Nat} {d:Dia} {kc kt kn kp:Nat} {t:Tk} {p:Pr}
end
theorem St.elz {G F:PH} {As:List (PH->Prop)} {s:Sl} {e n k:Nat} {vs:List (Array Value)} {c:Array Value} (h:St G F As) (i:Nat) (hi:As[i]? =some (own s e n (cat vs))) (hn:∀d∈vs,d.size=n) (hk:vs[k]? =some c) (h0:0<n)
  {v:Value} {C:PH->Prop} (kk:∀F',St G F' (As.set i (own s e n (cat (vs.set k (c.setIfInBounds 0 v)))))->C F'):
  ∃a:Addr,s.base=some a/\0<=(k:Int)/\(k:Int)<(s.len:Int)/\sto F (Addr.add a (Int.toNat (k:Int)*n)) v C:=by
 obtain ⟨a,h1,h2,h3,h4⟩:=h.el1 i hi hn hk h0 h0 kk
 exact ⟨a,h1,h2,h3,h4⟩
theorem RL.cut {α:Type} [Mem α] {G:PH} {s:Sl} {l:List α} {n k:Nat} (h:RL G s l) (hn:Mem.n α=n) (hk:k<=s.len):RL G (Sl.cut s n 0 k s.cap) (l.take k):=by
 subst hn
 obtain ⟨vs,hr,hd⟩:=h
 refine ⟨vs.take k,hr.take k,?_⟩
 have:=hd.cut (l:=0) (r:=k) (m:=s.cap) (by omega) hk (by have:=hd.cap;omega)
 rw [Nat.zero_mul,List.drop_zero,Nat.sub_zero,hr.cat_take] at this
 exact this
section
variable {F G F1:PH} {b8 b9:Nat} {g:Gr} {c m t s p l f:Sl} {part:Nat} {d:Dia} {kc kt kn kp:Nat} {tk:Tk} {pr:Pr}
structure KK (F G:PH) (g:Gr) (c m t s p l f:Sl) (b8:Nat):Prop where
 lF:F.le G
 hT:Tab G
 gs:GS G g c m t s p l f
 q8:G b8=some (.cells (g.arr c m t s p l f) 39)
 mg:MG g
 bd:Bd g 18 10
theorem KK.le {G':PH} (h:KK F G g c m t s p l f b8) (hl:G.le G'):KK F G' g c m t s p l f b8:=⟨aa h.lF hl,h.hT.le hl,h.gs.le hl,hl _ _ h.q8,h.mg,h.bd⟩
end
def dx {α:Type} (l:List α) (k:Nat) (f:α->α):List α:=match l[k]? with
 |some x=>l.set k (f x)
 |none=>l
theorem rB {α:Type} {l:List α} {k:Nat} {f:α->α} {x:α} (h:l[k]? =some x):dx l k f=l.set k (f x):=by unfold dx;rw [h]
def dV (g:Gr) (k a:Nat) (b:Int):Gr:=match k with
 |0=>{g with start:=b}
 |1=>{g with prods:=dx g.prods (a % g.prods.length) fun x=>{x with left:=b}}
 |2=>{g with prods:=dx g.prods (a % g.prods.length) fun x=>{x with right:=⟨decide (Int.tmod (a:Int) 2=1),b⟩::x.right}}
 |3=>{g with prods:=dx g.prods (a % g.prods.length) fun x=>{x with rank:=b}}
 |4=>{g with prods:=dx g.prods (a % g.prods.length) fun x=>{x with lay:=[⟨IntKind.i64.wrap (1+Int.tmod (IntKind.i64.wrap (a:Int)) 4),b,0⟩]}}
 |5=>{g with prods:=dx g.prods (a % g.prods.length) fun x=>{x with sco:={x.sco with d:=b}}}
 |6=>{g with prods:=dx g.prods (a % g.prods.length) fun x=>{x with brk:=true}}
 |7=>{g with toks:=dx g.toks (a % g.toks.length) fun x=>{x with cls:=b}}
 |8=>{g with toks:=dx g.toks (a % g.toks.length) fun x=>{x with name:=(g.toks[0]?.map Tk.name).getD emp}}
 |9=>{g with lvs:=g.lvs++[⟨[b],Int.tmod (IntKind.i64.wrap (a:Int)) 5,g.fam⟩]}
 |10=>{g with fils:=g.fils++[⟨Int.tmod (IntKind.i64.wrap (a:Int)) 7,b,0,0,0,0,[],g.fam⟩]}
 |11=>{g with fils:=g.fils++[⟨Int.tmod (IntKind.i64.wrap (a:Int)) 7,0,0,0,b,0,[Int.tmod (IntKind.i64.wrap (a:Int)) 12],g.fam⟩]}
 |12=>{g with fils:=g.fils++[⟨Int.tmod (IntKind.i64.wrap (a:Int)) 7,0,0,0,0,0,[5,b],g.fam⟩]}
 |13=>{g with prods:=dx g.prods (a % g.prods.length) fun x=>{x with cond:=([⟨b,0,1⟩],2)}}
 |14=>{g with fam:=([⟨b,0,1⟩],2)}
 |_=>{g with prods:=dx g.prods (a % g.prods.length) fun x=>{x with sco:=⟨false,0,0,b,IntKind.i64.wrap (a:Int)⟩}}
section
variable {F G:PH} {g g':Gr} {c m s:Sl}
theorem cy (hc:RL G c g.conds) (hn:RL G s g.nons) (e1:g'.conds=g.conds) (e2:g'.nons=g.nons) (lG:F.le G) {F':PH} {b2 b4:Nat} {m' s1 s2 s3 s4:Sl} {vt vp vl vf:List (Array Value)} (hm:RL G m' g'.fam.1) (ht:bZ G g'.toks vt) (hp:bZ G g'.prods vp) (hl:bZ G g'.lvs vl) (hf:bZ G g'.fils vf)
  (h:St G F' [own s4 74 9 (cat vf),own s3 72 4 (cat vl),own s2 67 13 (cat vp),own s1 79 7 (cat vt),pt b4 (.cells zG 39),pt b2 (.cells (g'.arr c m' s1 s s2 s3 s4) 39)]):cX b2 b4 (LR F g') F':=by
 obtain ⟨G5,l5,d5,h⟩:=h.pinO
 obtain ⟨G6,l6,d6,h⟩:=h.pinO
 obtain ⟨G7,l7,d7,h⟩:=h.pinO
 obtain ⟨G8,l8,d8,h⟩:=h.pinO
 have l78:=aa l7 l8
 have l68:=aa l6 l78
 have l58:=aa l5 l68
 rw [<- e1] at hc
 rw [<- e2] at hn
 have hg:GS G8 g' c m' s1 s s2 s3 s4:=⟨hc.le l58,hm.le l58,⟨vt,ht.le l58,d8⟩,hn.le l58,⟨vp,hp.le l58,d7.le l8⟩,⟨vl,hl.le l58,d6.le l78⟩,⟨vf,hf.le l58,d5.le l68⟩⟩
 unfold cX
 refine ⟨g'.arr c m' s1 s s2 s3 s4,rfl,h.whole1,?_⟩
 refine h.put0 (w':=g'.arr c m' s1 s s2 s3 s4) rfl rfl (by simp [ai,Sl.v]) fun F5 h=> ?_
 exact ⟨_,rfl,h.whole0,⟨_,rfl,⟨_,_,_,_,_,_,_,rfl,hg.le h.le⟩⟩,aa lG (aa l58 h.le)⟩
theorem He (x:Addr) (i j:Nat):Addr.add (Addr.add x i) j=Addr.add x (i+j):=by
 obtain ⟨a,o,p⟩:=x
 by_cases hi:i=0<;>by_cases hj:j=0<;>simp [Addr.add,hi,hj,Nat.add_assoc]
theorem St.elR {G F:PH} {As:List (PH->Prop)} {s:Sl} {e n k:Nat} {vs:List (Array Value)} {c:Array Value} (h:St G F As) (i:Nat) (hi:As[i]? =some (own s e n (cat vs))) (hn:∀d∈vs,d.size=n) (hk:vs[k]? =some c) (h0:0<n) (hd:((cat vs).drop (k*n)).take n=c.toList) {K:Addr->Prop}
  (kk:∀x:Addr,F.row (Addr.add x (Int.toNat (k:Int)*n)) c->K x):∃x:Addr,s.base=some x/\0<=(k:Int)/\(k:Int)<(s.len:Int)/\K x:=by
 obtain ⟨b,cur,h1,h2,_⟩:=h.elAt i hi hn hk h0
 refine ⟨_,h1,by omega,by omega,kk _ ?_⟩
 rw [Int.toNat_natCast]
 refine (bA.rd (h.ownAt hi).1).row h1 _ c ?_
 rw [hn c (List.mem_of_getElem? hk)]
 exact hd.symm
theorem St.el12 {G F:PH} {As:List (PH->Prop)} {s:Sl} {e n k:Nat} {vs:List (Array Value)} {c:Array Value} (h:St G F As) (i:Nat) (hi:As[i]? =some (own s e n (cat vs))) (hn:∀d∈vs,d.size=n) (hk:vs[k]? =some c) (h0:0<n)
  {o1 o2:Nat} {v:Value} (hv:o1+o2<n) {C:PH->Prop} (kk:∀F',St G F' (As.set i (own s e n (cat (vs.set k (c.setIfInBounds (o1+o2) v)))))->C F'):
  ∃a:Addr,s.base=some a/\0<=(k:Int)/\(k:Int)<(s.len:Int)/\sto F (Addr.add (Addr.add (Addr.add a (Int.toNat (k:Int)*n)) o1) o2) v C:=by
 obtain ⟨a,h1,h2,h3,h4⟩:=h.el1 i hi hn hk h0 hv kk
 refine ⟨a,h1,h2,h3,?_⟩
 rw [He _ o1 o2]
 exact h4
theorem rC {α:Type} [Mem α] {b e:Nat} {G:PH} {x:α} {c:Array Value} (q:G b=some (.cells c e)) (hc:Mem.rep G x c):RL G (Sl.mk (some (Addr.mk b 0 none)) 1 1) [x]:=by
 have hl:=Mem.len hc
 exact ⟨[c],.cons hc .nil,RdS.new q (by rw [bG];exact List.take_of_length_le (by rw [Array.length_toList,hl,Nat.one_mul];exact Nat.le_refl _)) (by rw [bG,Array.length_toList,hl,Nat.one_mul]) (Nat.le_refl _)⟩
theorem B6 {b e n k:Nat} {c:Array Value} {H:PH} (h:H b=some (.cells c e)) (hc:c.size=k*n):own (Sl.mk (some (Addr.mk b 0 none)) k k) e n c.toList H:=
 .inr ⟨b,c,rfl,h,hc,Nat.le_refl _,by rw [Array.length_toList,hc],List.take_of_length_le (by rw [Array.length_toList,hc];exact Nat.le_refl _)⟩
theorem Dp {v:Array Value} (hg:GV F v g) (hd:Bd g 18 10) (hm:Sm g) {how a:Nat} {b:Int} (hh:how<256) (ha:a<256):ae prog 12 #[.agg v,.agg #[.int .u8 (how:Int),.int .u8 (a:Int),vi b]] F (LR F (dV g (how % 16) a b)):=by
 obtain ⟨c,m,t,s,p,l,f,rfl,hs⟩:=hg
 obtain ⟨_,_,Tt⟩:=Fl
 obtain ⟨_,_,Tp⟩:=C5
 obtain ⟨_,_,Tl⟩:=IG
 obtain ⟨_,_,Tf⟩:=IH
 obtain ⟨_,_,Ty⟩:=Nk
 refine Tj ?_
 unfold Oa
 refine (St.start F).new fun b2 F1 h=> ?_
 refine h.newG fun b3 G1 F2 l1 q3 _ h=> ?_
 refine h.new fun b4 F3 h=> ?_
 replace hs:=hs.le l1
 obtain ⟨vt,rt,dt⟩:=id hs.t
 obtain ⟨vp,rp,dp⟩:=id hs.p
 obtain ⟨vl,rl,dl⟩:=id hs.l
 obtain ⟨vf,rf,df⟩:=id hs.f
 have et:=hs.t.len (by decide)
 have ep:=hs.p.len (by decide)
 have el:=hs.l.len (by decide)
 have ef:=hs.f.len (by decide)
 have bt:=hd.t
 have bp:=hd.p
 have bp0:=hd.p0
 have bl:=hd.l
 have bf:=hd.f
 refine h.new fun b7 F4 h=> ?_
 have h:=h.imp (A':=own (Sl.mk (some (Addr.mk b7 0 none)) 0 0) 79 7 []) 0 rfl fun H _ hH=>bK hH
 refine ⟨_,h.ld2 rfl,?_⟩
 refine St.app0 Tt h (dt.le h.le) rt.st (by show 0+t.len<=_;omega) fun s1 F5 h hl1=> ?_
 rw [List.nil_append] at h
 refine h.set2 (w':=g.arr c m s1 s p l f) (by show 3<9;decide) rfl fun F6 h=> ?_
 refine h.new fun b12 F4 h=> ?_
 have h:=h.imp (A':=own (Sl.mk (some (Addr.mk b12 0 none)) 0 0) 67 13 []) 0 rfl fun H _ hH=>bK hH
 refine ⟨_,h.ld3 rfl,?_⟩
 refine St.app0 Tp h (dp.le h.le) rp.st (by show 0+p.len<=_;omega) fun s2 F5 h hl2=> ?_
 rw [List.nil_append] at h
 refine h.set3 (w':=g.arr c m s1 s s2 l f) (by show 5<9;decide) rfl fun F6 h=> ?_
 refine h.new fun b17 F4 h=> ?_
 have h:=h.imp (A':=own (Sl.mk (some (Addr.mk b17 0 none)) 0 0) 72 4 []) 0 rfl fun H _ hH=>bK hH
 refine ⟨_,h.ld4 rfl,?_⟩
 refine St.app0 Tl h (dl.le h.le) rl.st (by show 0+l.len<=_;omega) fun s3 F5 h hl3=> ?_
 rw [List.nil_append] at h
 refine h.set4 (w':=g.arr c m s1 s s2 s3 f) (by show 7<9;decide) rfl fun F6 h=> ?_
 refine h.new fun b22 F4 h=> ?_
 have h:=h.imp (A':=own (Sl.mk (some (Addr.mk b22 0 none)) 0 0) 74 9 []) 0 rfl fun H _ hH=>bK hH
 refine ⟨_,h.ld5 rfl,?_⟩
 refine St.app0 Tf h (df.le h.le) rf.st (by show 0+f.len<=_;omega) fun s4 F5 h hl4=> ?_
 rw [List.nil_append] at h
 refine h.set5 (w':=g.arr c m s1 s s2 s3 s4) (by show 8<9;decide) rfl fun F6 h=> ?_
 have e1:s1.len=g.toks.length:=by rw [hl1];show 0+t.len=_;omega
 have e2:s2.len=g.prods.length:=by rw [hl2];show 0+p.len=_;omega
 have e3:s3.len<=100:=by rw [hl3];show 0+l.len<=_;omega
 have e4:s4.len<=100:=by rw [hl4];show 0+f.len<=_;omega
 have em:Int.tmod (how:Int) 16=((how % 16:Nat):Int):=gn how 16
 have hpl:∀x∈g.prods,x.right.length<=1000000000:=fun x hx=>(hm.pi x hx).1
 have c3:∀{F':PH} {i:Nat} {v:Value},G1.le F'->(#[.int .u8 (how:Int),.int .u8 (a:Int),vi b]:Array Value)[i]? =some v->F'.cell (Addr.mk b3 i none)=some v:=fun hl hv=>ld (hl _ _ q3) hv
 refine ⟨_,c3 h.le rfl,_,h.ld5 rfl,by omega,_,c3 h.le rfl,_,h.ld5 rfl,by omega,_,c3 h.le rfl,?_⟩
 obtain ⟨tk,htk⟩:∃y,g.toks[a % g.toks.length]? =some y:=⟨_,List.getElem?_eq_getElem (Nat.mod_lt _ (by omega))⟩
 obtain ⟨t0,ht0⟩:∃y,g.toks[0]? =some y:=⟨_,List.getElem?_eq_getElem (by omega)⟩
 obtain ⟨pr,hpr⟩:∃y,g.prods[a % g.prods.length]? =some y:=⟨_,List.getElem?_eq_getElem (Nat.mod_lt _ (by omega))⟩
 obtain ⟨wt,wt1,⟨pp,pn,rfl,pp1,pn1⟩,_⟩:=rt.get htk
 obtain ⟨w0,w01,⟨_,_,rfl,_,_⟩,wd0⟩:=rt.get ht0
 obtain ⟨wp,wp1,⟨rr,r2,r3,rfl,rr1,rr2,rr3⟩,wpd⟩:=rp.get hpr
 have E:∀f,({g with prods:=dx g.prods (a % g.prods.length) f}:Gr)={g with prods:=g.prods.set (a % g.prods.length) (f pr)}:=fun f=>by rw [rB hpr]
 have E':∀f,({g with toks:=dx g.toks (a % g.toks.length) f}:Gr)={g with toks:=g.toks.set (a % g.toks.length) (f tk)}:=fun f=>by rw [rB htk]
 rw [wN ha,wN ha,e1,e2,em]
 have hk:how % 16<16:=Nat.mod_lt _ (by decide)
 generalize how % 16=k at*
 refine ⟨fun e=> ?_,fun n0=> ?_⟩
 ·obtain rfl:k=0:=by omega
  refine ⟨_,c3 h.le rfl,?_⟩
  refine h.set5 (w':= #[c.v,m.v,vi g.fam.2,s1.v,s.v,s2.v,vi b,s3.v,s4.v]) (by show 6<9;decide) rfl fun F7 h=> ?_
  exact cy (g':=dV g 0 a b) hs.c hs.s rfl rfl l1 hs.n rt rp rl rf h
 refine ⟨fun e=> ?_,fun n1=> ?_⟩
 ·obtain rfl:k=1:=by omega
  rw [show dV g 1 a b=_ from E _]
  refine ⟨_,h.ld5 rfl,_,c3 h.le rfl,?_⟩
  refine h.el1 2 rfl rp.sz wp1 (by decide) (by decide) fun F7 h=> ?_
  exact cy (g':={g with prods:=g.prods.set (a % g.prods.length) {pr with left:=b}}) hs.c hs.s rfl rfl l1 hs.n rt (rp.set ⟨rr,r2,r3,rfl,rr1,rr2,rr3⟩) rl rf h
 refine ⟨fun e=> ?_,fun n2=> ?_⟩
 ·obtain rfl:k=2:=by omega
  rw [show dV g 2 a b=_ from E _]
  refine ⟨_,h.ld5 rfl,_,c3 h.le rfl,_,c3 h.le rfl,_,h.ld5 rfl,?_⟩
  refine h.elR 2 rfl rp.sz wp1 (by decide) wpd fun x hx=>⟨_,aD hx rfl,rfl,?_⟩
  refine h.new fun b81 F7 h=> ?_
  have h:=h.imp (A':=own (Sl.mk (some (Addr.mk b81 0 none)) 1 1) 69 2 (#[.bool (decide (Int.tmod (a:Int) 2=1)),vi b]:Array Value).toList) 0 rfl fun H _ hH=>B6 hH rfl
  obtain ⟨vy,ry,dy⟩:=rr1
  have hyl:=RL.len ⟨vy,ry,dy⟩ (by decide)
  refine St.app0 Ty h (dy.le h.le) ry.st (by show 1+rr.len<=_;rw [hyl];have:=hpl pr (List.mem_of_getElem? hpr);omega) fun s5 F8 h hl5=> ?_
  refine ⟨h.ld6 rfl,c3 h.le rfl,c3 h.le rfl,h.ld6 rfl,?_⟩
  obtain ⟨G2,l2,d2,h⟩:=h.pinO
  refine h.el1 2 rfl rp.sz wp1 (by decide) (by decide) fun F9 h=> ?_
  exact cy (g':={g with prods:=g.prods.set (a % g.prods.length) {pr with right:=⟨decide (Int.tmod (a:Int) 2=1),b⟩::pr.right}}) (hs.c.le l2) (hs.s.le l2) rfl rfl (aa l1 l2) (hs.n.le l2) (rt.le l2) ((rp.le l2).set ⟨s5,r2,r3,rfl,⟨_::vy,.cons rfl (ry.le l2),by rw [cG];exact d2⟩,rr2.le l2,rr3.le l2⟩) (rl.le l2) (rf.le l2) h
 refine ⟨fun e=> ?_,fun n3=> ?_⟩
 ·obtain rfl:k=3:=by omega
  rw [show dV g 3 a b=_ from E _]
  refine ⟨_,h.ld5 rfl,_,c3 h.le rfl,?_⟩
  refine h.el1 2 rfl rp.sz wp1 (by decide) (by decide) fun F7 h=> ?_
  exact cy (g':={g with prods:=g.prods.set (a % g.prods.length) {pr with rank:=b}}) hs.c hs.s rfl rfl l1 hs.n rt (rp.set ⟨rr,r2,r3,rfl,rr1,rr2,rr3⟩) rl rf h
 refine ⟨fun e=> ?_,fun n4=> ?_⟩
 ·obtain rfl:k=4:=by omega
  rw [show dV g 4 a b=_ from E _]
  refine ⟨_,h.ld5 rfl,_,c3 h.le rfl,_,c3 h.le rfl,rfl,?_⟩
  refine h.newG fun b113 G2 F7 l2 q _ h=> ?_
  refine h.el1 2 rfl rp.sz wp1 (by decide) (by decide) fun F9 h=> ?_
  exact cy (g':={g with prods:=g.prods.set (a % g.prods.length) {pr with lay:=[⟨IntKind.i64.wrap (1+Int.tmod (IntKind.i64.wrap (a:Int)) 4),b,0⟩]}}) (hs.c.le l2) (hs.s.le l2) rfl rfl (aa l1 l2) (hs.n.le l2) (rt.le l2) ((rp.le l2).set ⟨rr,r2,_,rfl,rr1.le l2,rr2.le l2,rC q rfl⟩) (rl.le l2) (rf.le l2) h
 refine ⟨fun e=> ?_,fun n5=> ?_⟩
 ·obtain rfl:k=5:=by omega
  rw [show dV g 5 a b=_ from E _]
  refine ⟨_,h.ld5 rfl,_,c3 h.le rfl,?_⟩
  refine h.el12 2 rfl rp.sz wp1 (by decide) (by decide) fun F7 h=> ?_
  exact cy (g':={g with prods:=g.prods.set (a % g.prods.length) {pr with sco:={pr.sco with d:=b}}}) hs.c hs.s rfl rfl l1 hs.n rt (rp.set ⟨rr,r2,r3,rfl,rr1,rr2,rr3⟩) rl rf h
 refine ⟨fun e=> ?_,fun n6=> ?_⟩
 ·obtain rfl:k=6:=by omega
  rw [show dV g 6 a b=_ from E _]
  refine ⟨_,h.ld5 rfl,?_⟩
  refine h.el1 2 rfl rp.sz wp1 (by decide) (by decide) fun F7 h=> ?_
  exact cy (g':={g with prods:=g.prods.set (a % g.prods.length) {pr with brk:=true}}) hs.c hs.s rfl rfl l1 hs.n rt (rp.set ⟨rr,r2,r3,rfl,rr1,rr2,rr3⟩) rl rf h
 refine ⟨fun e=> ?_,fun n7=> ?_⟩
 ·obtain rfl:k=7:=by omega
  rw [show dV g 7 a b=_ from E' _]
  refine ⟨_,h.ld5 rfl,_,c3 h.le rfl,?_⟩
  refine h.el1 3 rfl rt.sz wt1 (by decide) (by decide) fun F7 h=> ?_
  exact cy (g':={g with toks:=g.toks.set (a % g.toks.length) {tk with cls:=b}}) hs.c hs.s rfl rfl l1 hs.n (rt.set ⟨pp,pn,rfl,pp1,pn1⟩) rp rl rf h
 refine ⟨fun e=> ?_,fun n8=> ?_⟩
 ·obtain rfl:k=8:=by omega
  rw [show dV g 8 a b=_ from E' _,ht0]
  refine ⟨_,h.ld5 rfl,_,h.ld5 rfl,?_⟩
  refine h.elR 3 (k:=0) rfl rt.sz w01 (by decide) wd0 fun x hx=>⟨_,aF hx rfl,?_⟩
  refine h.elz 3 rfl rt.sz wt1 (by decide) fun F7 h=> ?_
  exact cy (g':={g with toks:=g.toks.set (a % g.toks.length) {tk with name:=t0.name}}) hs.c hs.s rfl rfl l1 hs.n (rt.set ⟨pp,pn,rfl,pp1,pn1⟩) rp rl rf h
 refine ⟨fun e=> ?_,fun n9=> ?_⟩
 ·obtain rfl:k=9:=by omega
  refine ⟨_,h.ld5 rfl,_,c3 h.le rfl,?_⟩
  refine h.newG fun b160 G2 F7 l2 q _ h=> ?_
  refine ⟨_,c3 (aa l2 h.le) rfl,#[m.v,vi g.fam.2],rfl,dP (h.ptAt (i:=5) rfl) rfl,rfl,rfl,?_⟩
  refine h.push1 Tl rfl (by simp [ai,Sl.v,wr]) (by omega) fun s5 G3 F8 l3 h hl5=> ?_
  have l23:=aa l2 l3
  refine h.set5 (w':= #[c.v,m.v,vi g.fam.2,s1.v,s.v,s2.v,vi g.start,s5.v,s4.v]) (by show 7<9;decide) rfl fun F9 h=> ?_
  rw [<- bG,<- bq] at h
  exact cy (g':=dV g 9 a b) (hs.c.le l23) (hs.s.le l23) rfl rfl (aa l1 l23) (hs.n.le l23) (rt.le l23) (rp.le l23) ((rl.le l23).append (.cons ⟨_,m,rfl,rC (l3 _ _ q) rfl,hs.n.le l23⟩ .nil)) (rf.le l23) h
 refine ⟨fun e=> ?_,fun n10=> ?_⟩
 ·obtain rfl:k=10:=by omega
  refine ⟨_,h.ld5 rfl,_,c3 h.le rfl,_,c3 h.le rfl,#[m.v,vi g.fam.2],rfl,dP (h.ptAt (i:=5) rfl) rfl,rfl,rfl,?_⟩
  refine h.push0 Tf rfl (by simp [ai,Sl.v,wr]) (by omega) fun s5 G3 F8 l3 h hl5=> ?_
  refine h.set5 (w':= #[c.v,m.v,vi g.fam.2,s1.v,s.v,s2.v,vi g.start,s3.v,s5.v]) (by show 8<9;decide) rfl fun F9 h=> ?_
  rw [<- bG,<- bq] at h
  exact cy (g':=dV g 10 a b) (hs.c.le l3) (hs.s.le l3) rfl rfl (aa l1 l3) (hs.n.le l3) (rt.le l3) (rp.le l3) (rl.le l3) ((rf.le l3).append (.cons ⟨Sl.nil,m,rfl,RL.nil _,hs.n.le l3⟩ .nil)) h
 refine ⟨fun e=> ?_,fun n11=> ?_⟩
 ·obtain rfl:k=11:=by omega
  refine ⟨_,h.ld5 rfl,_,c3 h.le rfl,_,c3 h.le rfl,_,c3 h.le rfl,?_⟩
  refine h.newG fun b201 G2 F7 l2 q _ h=> ?_
  refine ⟨#[m.v,vi g.fam.2],rfl,dP (h.ptAt (i:=5) rfl) rfl,rfl,rfl,?_⟩
  refine h.push0 Tf rfl (by simp [ai,Sl.v,wr]) (by omega) fun s5 G3 F8 l3 h hl5=> ?_
  have l23:=aa l2 l3
  refine h.set5 (w':= #[c.v,m.v,vi g.fam.2,s1.v,s.v,s2.v,vi g.start,s3.v,s5.v]) (by show 8<9;decide) rfl fun F9 h=> ?_
  rw [<- bG,<- bq] at h
  exact cy (g':=dV g 11 a b) (hs.c.le l23) (hs.s.le l23) rfl rfl (aa l1 l23) (hs.n.le l23) (rt.le l23) (rp.le l23) (rl.le l23) ((rf.le l23).append (.cons ⟨_,m,rfl,rC (l3 _ _ q) rfl,hs.n.le l23⟩ .nil)) h
 refine ⟨fun e=> ?_,fun n12=> ?_⟩
 ·obtain rfl:k=12:=by omega
  refine ⟨_,h.ld5 rfl,_,c3 h.le rfl,_,c3 h.le rfl,?_⟩
  refine h.newG fun b218 G2 F7 l2 q _ h=> ?_
  refine ⟨#[m.v,vi g.fam.2],rfl,dP (h.ptAt (i:=5) rfl) rfl,rfl,rfl,?_⟩
  refine h.push0 Tf rfl (by simp [ai,Sl.v,wr]) (by omega) fun s5 G3 F8 l3 h hl5=> ?_
  have l23:=aa l2 l3
  refine h.set5 (w':= #[c.v,m.v,vi g.fam.2,s1.v,s.v,s2.v,vi g.start,s3.v,s5.v]) (by show 8<9;decide) rfl fun F9 h=> ?_
  rw [<- bG,<- bq] at h
  exact cy (g':=dV g 12 a b) (hs.c.le l23) (hs.s.le l23) rfl rfl (aa l1 l23) (hs.n.le l23) (rt.le l23) (rp.le l23) (rl.le l23) ((rf.le l23).append (.cons ⟨_,m,rfl,RL.ints.2 (RdS.new (l3 _ _ q) rfl rfl (Nat.le_refl _)),hs.n.le l23⟩ .nil)) h
 refine ⟨fun e=> ?_,fun n13=> ?_⟩
 ·obtain rfl:k=13:=by omega
  rw [show dV g 13 a b=_ from E _]
  refine ⟨_,h.ld5 rfl,_,c3 h.le rfl,rfl,?_⟩
  refine h.newG fun b233 G2 F7 l2 q _ h=> ?_
  refine h.elN 2 rfl rp.sz wp1 (by decide) rfl (by show 3+2<=13;decide) (by simp [ai,Sl.v]) fun F9 h=> ?_
  exact cy (g':={g with prods:=g.prods.set (a % g.prods.length) {pr with cond:=([⟨b,0,1⟩],2)}}) (hs.c.le l2) (hs.s.le l2) rfl rfl (aa l1 l2) (hs.n.le l2) (rt.le l2) ((rp.le l2).set ⟨rr,_,r3,rfl,rr1.le l2,rC q rfl,rr3.le l2⟩) (rl.le l2) (rf.le l2) h
 refine ⟨fun e=> ?_,fun n14=> ?_⟩
 ·obtain rfl:k=14:=by omega
  refine ⟨_,c3 h.le rfl,rfl,?_⟩
  refine h.newG fun b242 G2 F7 l2 q _ h=> ?_
  refine h.putR5 (w':= #[c.v,Sl.v (Sl.mk (some (Addr.mk b242 0 none)) 1 1),vi 2,s1.v,s.v,s2.v,vi g.start,s3.v,s4.v]) rfl (by simp [ai,Sl.v]) (by show 1+2<=9;decide) rfl fun F9 h=> ?_
  exact cy (g':=dV g 14 a b) (hs.c.le l2) (hs.s.le l2) rfl rfl (aa l1 l2) (rC q rfl) (rt.le l2) (rp.le l2) (rl.le l2) (rf.le l2) h
 ·obtain rfl:k=15:=by omega
  rw [show dV g 15 a b=_ from E _]
  refine ⟨_,h.ld5 rfl,_,c3 h.le rfl,_,c3 h.le rfl,?_⟩
  refine h.elN 2 rfl rp.sz wp1 (by decide) rfl (by show 8+5<=13;decide) (by simp [ai]) fun F9 h=> ?_
  exact cy (g':={g with prods:=g.prods.set (a % g.prods.length) {pr with sco:=⟨false,0,0,b,IntKind.i64.wrap (a:Int)⟩}}) hs.c hs.s rfl rfl l1 hs.n rt (rp.set ⟨rr,r2,r3,rfl,rr1,rr2,rr3⟩) rl rf h
end
end Go.Proofs.YtenpmjhnhepfdaaGreatDoor
