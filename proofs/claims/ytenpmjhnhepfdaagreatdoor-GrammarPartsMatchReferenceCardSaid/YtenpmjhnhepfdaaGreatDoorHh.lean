/-
  Check of grammars: filters.
-/
import Derived.Test.YtenpmjhnhepfdaaGreatDoorHf
namespace Go.Proofs.YtenpmjhnhepfdaaGreatDoor
open Go Go.Proofs.Tryz
set_option maxRecDepth 10000
theorem St.var {G F:PH} {As:List (PH->Prop)} (h:St G F As) {n:Nat} {z w:Array Value} {e:TypeId} {K:Nat->PH->Prop} (hst:∀x∈w.toList,ai x)
  (k:∀b G' F',G.le G'->G' b=some (.cells w e)->St G' F' As->K b F') (hz:z.size=n:=by rfl) (hw:w.size=n:=by rfl):∀b,F b=none->atF (F.set b (.cells z e)) fun F=>au F (Addr.mk b 0 none) n w (K b):=by
 refine h.new fun b F1 h=> ?_
 refine h.put0 hw hz hst fun F2 h=> ?_
 exact h.pinb fun G' l q h=>k b G' F2 l q h
theorem C6 {F:PH} {n:Nat} {z w:Array Value} {e:TypeId} {K:Nat->PH->Prop} (hst:∀x∈w.toList,ai x)
  (k:∀b F',F.le F'->F' b=some (.cells w e)->K b F') (hz:z.size=n:=by rfl) (hw:w.size=n:=by rfl):∀b,F b=none->atF (F.set b (.cells z e)) fun F=>au F (Addr.mk b 0 none) n w (K b):=
 (St.start F).var hst (fun b _ F' l q h=>k b F' (aa l h.le) (h.le _ _ q)) hz hw
theorem St.ix {α:Type} [Mem α] {G F:PH} {As:List (PH->Prop)} (h:St G F As) {s:Sl} {l:List α} (hl:RL G s l) (hn:0<Mem.n α) {i:Int} (h0:0<=i) (h1:i<(s.len:Int)) {K:Addr->Prop}
  (k:∀a c x,l[i.toNat]? =some x->F.row (a.add (i.toNat*Mem.n α)) c->Mem.rep G x c->K a):∃a,s.base=some a/\0<=i/\i<(s.len:Int)/\K a:=
 ixc hl hn h0 h1 fun a c x hx hr hc=>k a c x hx (kf h.le hr) hc
section
variable {K:Type} [DecidableEq K] {enc:K->Value} {f:K->Option Value} {m:Nat} {G F:PH} {As:List (PH->Prop)} {t:TypeId} {z:Value}
def mpE (m:Nat) (enc:K->Value) (f:K->Option Value):PH->Prop:=fun H=>∃o,H m=some o/\gm enc f o
theorem St.newMap (h:St G F As) (enc:K->Value) {Q:Nat->PH->Prop} (k:∀b F',St G F' (mpE b enc (fun _=>none)::As)->Q b F'):∀b,F b=none->atF (F.set b (.map #[] 0)) (Q b):=fun b hb=>by
 refine atI (k b _ (h.push (H:=PH.set (fun _=>none) b (.map #[] 0)) ⟨_,an _ _ _,gm.empty enc⟩ (fun x hx=> ?_) (fun x p hx=> ?_) (ac _ hb)))
 ·by_cases e:x=b
  ·rw [e];exact hb
  ·rw [az _ _ e] at hx;exact absurd rfl hx
 ·by_cases e:x=b
  ·rw [e,an] at hx ⊢;exact hx
  ·rw [az _ _ e] at hx;cases hx
theorem St.lookAt (h:St G F As) {i:Nat} (hi:As[i]? =some (mpE m enc f)) (mt:kj prog t enc z) (k:K) (ok:Bool):rdo prog (Instr.lookup t (.map (some m)) (enc k) ok) F (if ok then .tuple #[(f k).getD z,.bool (f k).isSome] else (f k).getD z):=by
 obtain ⟨H,⟨o,h1,h2⟩,_,h3⟩:=h.get hi
 exact dL mt (h3 _ _ h1) h2 k ok
theorem St.updAt (h:St G F As) (i:Nat) (hi:As[i]? =some (mpE m enc f)) (mt:kj prog t enc z) (k:K) (v:Value) {Q:Unit->PH->Prop} (kk:∀F',St G F' (As.set i (mpE m enc fun k'=>if k'=k then some v else f k'))->Q () F'):
  aE prog (Instr.mapUpdate t (.map (some m)) (enc k) v) F Q:=by
 obtain ⟨H,⟨o,a1,a0⟩,a2,a3,a4⟩:=h.set (A':=mpE m enc fun k'=>if k'=k then some v else f k') hi
 refine bI mt (a3 _ _ a1) a0 k v fun o' ho'=>kk _ ?_
 refine a4 (H.set m o') _ ⟨o',an _ _ _,ho'⟩ (fun x hx=> ?_) (fun x p hx=> ?_) (fun x p hx hn=> ?_)
 ·by_cases e:x=m
  ·rw [e,a1];exact .inl (by simp)
  ·rw [az _ _ e] at hx;exact .inl hx
 ·by_cases e:x=m
  ·rw [e,an] at hx ⊢;exact hx
  ·rw [az _ _ e] at hx ⊢;exact a3 _ _ hx
 ·have e:x≠m:=fun e=>by rw [e,a1] at hn;cases hn
  rw [az _ _ e];exact hx
end
def qi (g:Gr) (done:List ByteArray) (p:Pr):Prop:=p.name≠emp/\p.name ∉ done/\fg p.cond g.conds.length/\-1<=p.rank/\p.rank<=1/\kS p
def cz (g:Gr) (p:Pr):Prop:=iv g ⟨false,p.left⟩/\∀s∈p.right,iv g s
open Classical in
noncomputable def bJ (g:Gr) (done:List ByteArray):List Pr->Int
 |[]=>0
 |p::l=>if ¬cz g p then 50 else if ¬qi g done p then 52 else bJ g (done++[p.name]) l
theorem du {α:Type} {l:List α} {k:Nat} {x:α} (h:l[k]? =some x):l.drop k=x::l.drop (k+1):=by
 obtain ⟨hk,rfl⟩:=List.getElem?_eq_some_iff.1 h
 exact List.drop_eq_getElem_cons hk
theorem II:aC prog 152=true:=by kernel_rfl
theorem qj {F:PH} {b:Nat} {v:Array Value} {g:Gr} (hg:GV F v g) (q:F b=some (.cells v 39)) (x:Sy):ae prog 152 #[.agg x.arr,.pointer (some ⟨b,0,none⟩)] F fun r F'=>r=.bool (!decide (iv g x))/\F.le F':=by
 refine Rm ?_
 unfold KY
 refine fresh fun b2 F1 l1 q1 _=>⟨_,rfl,v,hg.size,aj (l1 _ _ q),_,rfl,aj q1,?_⟩
 refine (wZ (hg.le l1) x).mono ?_
 rintro _ F2 ⟨rfl,l2⟩
 exact ⟨_,rfl,rfl,aa l1 l2⟩
theorem dU {g:Gr} (h:bE g=false):g.conds.length<=64/\g.toks.length<=256/\g.fils.length<=4096/\g.nons.length<=2000/\g.prods.length<=2000/\g.lvs.length<=2000/\∀p∈g.prods,p.right.length<=16/\p.lay.length<=16:=by
 unfold bE at h
 rw [Bool.or_eq_false_iff,decide_eq_false_iff_not,List.any_eq_false] at h
 obtain ⟨h1,h2⟩:=h
 refine ⟨by omega,by omega,by omega,by omega,by omega,by omega,fun p hp=> ?_⟩
 have:=h2 p hp
 simp only [decide_eq_true_eq] at this
 omega
open Classical in
theorem mZ {F:PH} {v:Array Value} {g:Gr} (hg:GV F v g) (hl:bE g=false):ae prog 78 #[.agg v] F fun r F'=>r=vi (bJ g [] g.prods)/\F.le F':=by
 obtain ⟨_,_,_,_,hlp,_,hlr⟩:=dU hl
 have hg0:=hg
 obtain ⟨c,n,t,s,p,l,f,rfl,hs⟩:=hg
 have ec:=hs.c.len (by decide)
 have ep:=hs.p.len (by decide)
 refine UF ?_
 unfold QV
 refine fresh fun b1 F1 l1 q1 _=> ?_
 replace hs:=hs.le l1
 replace hg0:=hg0.le l1
 refine (g0 F1).mono ?_
 rintro _ F2 ⟨G2,bn,m,rfl,l2,hcn,h⟩
 refine ⟨_,rfl,_,ld (h.le _ _ (l2 _ _ q1)) rfl,?_⟩
 refine bj (yX · b1 (wX bn) p _) g.prods.length (fun k F'=>∃G,G2.le G/\St G F' [cK m ((g.prods.take k).map Pr.name).reverse]/\bJ g [] g.prods=bJ g ((g.prods.take k).map Pr.name) (g.prods.drop k))
  ⟨G2,le_refl' _,h,by simp⟩ ?_
 rintro k F3 N hk ⟨G3,l3,h,hE⟩ next
 have l13:=aa l2 l3
 unfold yX
 refine ⟨fun hlt=> ?_,fun hge=> ?_⟩
 ·have hlt:k<g.prods.length:=by omega
  refine h.ix (hs.p.le l13) (by decide) (by omega) (by omega) fun a cc x hx hr hc=> ?_
  rw [Int.toNat_natCast] at hx
  have hxm:x∈g.prods:=List.mem_of_getElem? hx
  obtain ⟨hxr,hxl⟩:=hlr x hxm
  have hE':=hE
  rw [du hx,bJ] at hE'
  have hst:=Mem.st hc
  have hc0:=hc
  obtain ⟨rr,nn,ll,rfl,h1,h2,h3⟩:=hc
  refine ⟨x.arr rr nn ll,rfl,hr,?_⟩
  refine h.var hst fun b5 G4 F4 l4 q5 h=> ?_
  have bad50:∀{F'},G3.le F'->¬cz g x->(vi 50=vi (bJ g [] g.prods)/\F.le F'):=fun {F'} l hn=>⟨by rw [hE',if_pos hn],aa l1 (aa l13 l)⟩
  have bad52:∀{F'},G3.le F'->cz g x->¬qi g ((g.prods.take k).map Pr.name) x->(vi 52=vi (bJ g [] g.prods)/\F.le F'):=fun {F'} l h1 hn=>⟨by rw [hE',if_neg (fun h=>h h1),if_pos hn],aa l1 (aa l13 l)⟩
  refine ⟨_,ld (h.le _ _ q5) rfl,?_⟩
  refine h.runv (qj (x:=⟨false,x.left⟩) (hg0.le (aa l13 l4)) (l4 _ _ (l13 _ _ q1))) fun G5 F5 l5 h=>⟨_,rfl,fun hb=>bad50 (aa l4 (aa l5 h.le)) fun hn=> ?_,fun hb=>⟨_,ld (h.le _ _ (l5 _ _ q5)) rfl,?_⟩⟩
  ·rw [decide_eq_true hn.1] at hb;cases hb
  have hs1:iv g ⟨false,x.left⟩:=by simpa using hb
  have l35:=aa l4 l5
  have sp:ae prog 154 #[rr.v,.func (.func 152) #[] #[.pointer (some ⟨b1,0,none⟩)]] G5 fun r F'=>r=.bool (x.right.any fun s=> !decide (iv g s))/\G5.le F':=by
   refine OW ?_
   unfold JS
   refine (show ae prog 206 #[rr.v,.func (.func 152) #[] #[.pointer (some ⟨b1,0,none⟩)]] G5 (fun r F'=>∃i,r=vi i/\(0<=i↔(x.right.any fun s=> !decide (iv g s))=true)/\G5.le F')
    from O1 (yt (h1.le l35) (by decide) (by omega) II (fun s=> !decide (iv g s)) fun y hy c F6 l6 hc=> ?_)).mono ?_
   ·rw [show c=y.arr from hc]
    exact qj (hg0.le (aa l13 (aa l35 l6))) (l6 _ _ (l35 _ _ (l13 _ _ q1))) y
   ·rintro _ F6 ⟨i,rfl,hi,l6⟩
    refine ⟨_,rfl,?_,l6⟩
    congr 1
    rw [Bool.eq_iff_iff,decide_eq_true_eq]
    exact hi
  refine h.runv sp fun G6 F6 l6 h=>⟨_,rfl,fun hb=>bad50 (aa l35 (aa l6 h.le)) fun hn=> ?_,fun hb=> ?_⟩
  ·obtain ⟨y,hy,hy2⟩:=List.any_eq_true.1 hb
   rw [decide_eq_true (hn.2 y hy)] at hy2
   cases hy2
  have hsy:cz g x:=⟨hs1,fun y hy=>by
   have:=List.any_eq_false.1 hb y hy
   simpa using this⟩
  replace l35:=aa l35 l6
  have q6:=l6 _ _ (l5 _ _ q5)
  refine ⟨_,ld (h.le _ _ q6) rfl,?_⟩
  refine nK h (aq (aa l3 l35) hcn) x.name fun G7 F7 l7 h=>⟨_,rfl,fun hb=>bad52 (aa l35 (aa l7 h.le)) hsy fun hn=> ?_,fun hb=> ?_⟩
  ·rw [decide_eq_true ⟨hn.1,hn.2.1⟩] at hb;cases hb
  have hnm:x.name≠emp/\x.name ∉ (g.prods.take k).map Pr.name:=by simpa using hb
  replace l35:=aa l35 l7
  have q7:=l7 _ _ q6
  refine ⟨#[nn.v,vi x.cond.2],rfl,dP (h.le _ _ q7) rfl,_,ld (h.le _ _ (l35 _ _ (l13 _ _ q1))) rfl,?_⟩
  dsimp only
  rw [ec]
  refine h.runv (gB (d:=x.cond) (DV.mk (h2.le l35))) fun G8 F8 l8 h=>⟨_,rfl,fun hb=>bad52 (aa l35 (aa l8 h.le)) hsy fun hn=> ?_,fun hb=> ?_⟩
  ·rw [bh.2 hn.2.2.1] at hb;cases hb
  have hfit:fg x.cond g.conds.length:=bh.1 (by simpa using hb)
  replace l35:=aa l35 l8
  have q8:=l8 _ _ q7
  refine ⟨_,ld (h.le _ _ q8) rfl,fun hb=>bad52 (aa l35 h.le) hsy fun hn=>by have:=hn.2.2.2.1;omega,fun hr1=>⟨_,ld (h.le _ _ q8) rfl,fun hb=>bad52 (aa l35 h.le) hsy fun hn=>by have:=hn.2.2.2.2.1;omega,fun hr2=>⟨_,rfl,aj (h.le _ _ q8),?_⟩⟩⟩
  refine h.runv (uy (Mem.le l35 hc0) hxr hxl) fun G9 F9 l9 h=>⟨_,rfl,fun hb=>bad52 (aa l35 (aa l9 h.le)) hsy fun hn=> ?_,fun hb=> ?_⟩
  ·rw [decide_eq_true hn.2.2.2.2.2] at hb;cases hb
  have hdet:kS x:=by simpa using hb
  rw [aB hlt (by omega)]
  have e:(g.prods.take k).map Pr.name++[x.name]=(g.prods.take (k+1)).map Pr.name:=by rw [aI hx,List.map_append];rfl
  refine next _ hlt ⟨G9,aa l3 (aa l35 l9),by rw [<- e];exact h,?_⟩
  rw [hE',if_neg (fun h=>h hsy),if_neg (fun h=>h ⟨hnm.1,hnm.2,hfit,by omega,by omega,hdet⟩),e]
 ·have e:k=g.prods.length:=by omega
  subst e
  rw [List.drop_length,bJ] at hE
  unfold GG
  exact ⟨by rw [hE],aa l1 (aa l13 h.le)⟩
def C7 (g:Gr) (done:List Int) (l:Lv):Prop:=0<=l.assoc/\l.assoc<=3/\fg l.cond g.conds.length/\(∀p∈l.ps,0<=p/\p<g.prods.length)/\l.ps.Nodup/\∀p∈l.ps,p ∉ done
def cC (g:Gr) (done:List Int):List Lv->Prop
 |[]=>True
 |l::r=>C7 g done l/\cC g (done++l.ps) r
def kP (l:List Int) (i:Int):Option Value:=if i∈l then some (.bool true) else none
theorem yq (l:List Int) (x:Int):kP (l++[x])=fun k=>if k=x then some (.bool true) else kP l k:=by
 funext k
 unfold kP
 by_cases e:k=x<;>simp [e]
theorem Pi:kj prog 213 xh (.bool false):=⟨_,_,underlying213,Pm,PS⟩
open Classical in
theorem mi {F:PH} {v:Array Value} {g:Gr} (hg:GV F v g) (hl:bE g=false) (hz:Sz g):ae prog 79 #[.agg v] F fun r F'=>r=vi (if cC g [] g.lvs then 0 else 53)/\F.le F':=by
 obtain ⟨_,_,_,_,hlp,hll,_⟩:=dU hl
 obtain ⟨c,n,t,s,p,l,f,rfl,hs⟩:=hg
 have ec:=hs.c.len (by decide)
 have ep:=hs.p.len (by decide)
 have el:=hs.l.len (by decide)
 refine UG ?_
 unfold QW
 refine fresh fun b1 F1 l1 q1 _=> ?_
 replace hs:=hs.le l1
 refine (St.start F1).newMap xh fun b8 F2 h=> ?_
 refine ⟨_,ld (h.le _ _ q1) rfl,?_⟩
 refine bj (yZ · b1 b8 l _) g.lvs.length (fun k F'=>∃G,F1.le G/\St G F' [mpE b8 xh (kP ((g.lvs.take k).flatMap Lv.ps))]/\(cC g [] g.lvs↔cC g ((g.lvs.take k).flatMap Lv.ps) (g.lvs.drop k)))
  ⟨F1,le_refl' _,by rw [show kP ((g.lvs.take 0).flatMap Lv.ps)=fun _=>none from funext fun i=>by simp [kP]];exact h,by simp⟩ ?_
 rintro k F3 N hk ⟨G3,l3,h,hE⟩ next
 unfold yZ
 refine ⟨fun hlt=> ?_,fun hge=> ?_⟩
 ·have hlt:k<g.lvs.length:=by omega
  refine h.ix (hs.l.le l3) (by decide) (by omega) (by omega) fun a cc x hx hr hc=> ?_
  rw [Int.toNat_natCast] at hx
  have hxm:x∈g.lvs:=List.mem_of_getElem? hx
  have hpl:=hz.l x hxm
  rw [du hx,cC] at hE
  have hst:=Mem.st hc
  obtain ⟨pp,nn,rfl,h1,h2⟩:=hc
  have epp:=h1.len (by decide)
  refine ⟨x.arr pp nn,rfl,hr,?_⟩
  refine h.var hst fun b5 G4 F4 l4 q5 h=> ?_
  have bad:∀{F'},G3.le F'->¬C7 g ((g.lvs.take k).flatMap Lv.ps) x->(vi 53=vi (if cC g [] g.lvs then 0 else 53)/\F.le F'):=fun {F'} l hn=>⟨by rw [if_neg (fun h=>hn (hE.1 h).1)],aa l1 (aa l3 l)⟩
  refine ⟨_,ld (h.le _ _ q5) rfl,fun hb=>bad (aa l4 h.le) fun hn=>by have:=hn.1;omega,fun k1=>⟨_,ld (h.le _ _ q5) rfl,fun hb=>bad (aa l4 h.le) fun hn=>by have:=hn.2.1;omega,fun k2=>⟨#[nn.v,vi x.cond.2],rfl,dP (h.le _ _ q5) rfl,_,ld (h.le _ _ (l4 _ _ (l3 _ _ q1))) rfl,?_⟩⟩⟩
  dsimp only
  rw [ec]
  refine h.runv (gB (d:=x.cond) (DV.mk (h2.le l4))) fun G5 F5 l5 h=>⟨_,rfl,fun hb=>bad (aa l4 (aa l5 h.le)) fun hn=> ?_,fun hb=> ?_⟩
  ·rw [bh.2 hn.2.2.1] at hb;cases hb
  have hfit:fg x.cond g.conds.length:=bh.1 (by simpa using hb)
  have l35:=aa l4 l5
  refine ⟨_,ld (h.le _ _ (l5 _ _ q5)) rfl,?_⟩
  refine bj (yY N · b1 b8 l (k:Int) pp _) x.ps.length (fun j F'=>∃G,G5.le G/\St G F' [mpE b8 xh (kP ((g.lvs.take k).flatMap Lv.ps++x.ps.take j))]/\(∀p∈x.ps.take j,0<=p/\p<g.prods.length)/\(x.ps.take j).Nodup/\∀p∈x.ps.take j,p ∉ (g.lvs.take k).flatMap Lv.ps)
   ⟨G5,le_refl' _,by simpa using h,by simp,by simp,by simp⟩ ?_
  rintro j F6 N2 hj ⟨G6,l6,h,i1,i2,i3⟩ next2
  have l36:=aa l35 l6
  unfold yY
  refine ⟨fun hlt2=> ?_,fun hge2=> ?_⟩
  ·have hlt2:j<x.ps.length:=by omega
   refine h.ix (h1.le l36) (by decide) (by omega) (by omega) fun a cc y hy hr hc=> ?_
   rw [Int.toNat_natCast] at hy hr
   rw [show cc= #[vi y] from hc] at hr
   have hym:y∈x.ps:=List.mem_of_getElem? hy
   have hlk:=h.lookAt (i:=0) rfl Pi y false
   refine ⟨_,aF hr rfl,fun hb=>bad (aa l36 h.le) fun hn=>by have:=(hn.2.2.2.1 y hym).1;omega,fun y0=>⟨_,ld (h.le _ _ (l36 _ _ (l3 _ _ q1))) rfl,fun hb=>bad (aa l36 h.le) fun hn=>by have:=(hn.2.2.2.1 y hym).2;omega,fun y1=> ?_⟩⟩
   by_cases hu:y∈(g.lvs.take k).flatMap Lv.ps++x.ps.take j
   ·rw [show kP _ y=some (.bool true) from if_pos hu] at hlk
    refine ⟨true,hlk,fun _=>bad (aa l36 h.le) fun hn=> ?_,fun h=>(by cases h)⟩
    rcases List.mem_append.1 hu with hu|hu
    ·exact hn.2.2.2.2.2 y hym hu
    ·have hnd:=hn.2.2.2.2.1.sublist (List.take_sublist (j+1) x.ps)
     rw [aI hy,List.nodup_append] at hnd
     exact hnd.2.2 y hu y (by simp) rfl
   ·rw [show kP _ y=none from if_neg hu] at hlk
    refine ⟨false,hlk,fun h=>(by cases h),fun _=> ?_⟩
    refine h.updAt 0 rfl Pi y (.bool true) fun F7 h=> ?_
    rw [aB hlt2 (by omega)]
    rw [List.mem_append,not_or] at hu
    refine next2 _ hlt2 ⟨G6,l6,?_,fun p hp=> ?_,?_,fun p hp=> ?_⟩
    ·rw [aI hy,<- List.append_assoc,yq]
     exact h
    ·rw [aI hy] at hp
     rcases List.mem_append.1 hp with hp|hp
     ·exact i1 p hp
     ·rw [List.mem_singleton.1 hp];omega
    ·rw [aI hy,List.nodup_append]
     exact ⟨i2,by simp,fun a ha b hb e=>hu.2 (by rw [<- List.mem_singleton.1 hb,<- e];exact ha)⟩
    ·rw [aI hy] at hp
     rcases List.mem_append.1 hp with hp|hp
     ·exact i3 p hp
     ·rw [List.mem_singleton.1 hp];exact hu.1
  ·have e:j=x.ps.length:=by omega
   subst e
   rw [List.take_length] at i1 i2 i3 h
   unfold GI
   rw [aB hlt (by omega)]
   have e:(g.lvs.take k).flatMap Lv.ps++x.ps=(g.lvs.take (k+1)).flatMap Lv.ps:=by rw [aI hx,List.flatMap_append];simp
   rw [e] at h hE
   refine next _ hlt ⟨G6,aa l3 l36,h,hE.trans ⟨fun h=>h.2,fun h=>⟨⟨by omega,by omega,hfit,i1,i2,i3⟩,h⟩⟩⟩
 ·have e:k=g.lvs.length:=by omega
  subst e
  rw [List.drop_length,cC] at hE
  unfold GH
  exact ⟨by rw [if_pos (hE.2 trivial)],aa l1 (aa l3 h.le)⟩
def fM (g:Gr) (kd:Tk->Bool) (l:List Int):Prop:=l≠[]/\(∀n∈l,0<=n/\∃t,g.toks[n.toNat]? =some t/\kd t=true)/\∀(i:Nat) (x y:Int),l[i]? =some x->l[i+1]? =some y->x<y
open Classical in
theorem iX {F:PH} {v:Array Value} {g:Gr} (hg:GV F v g) {sl:Sl} {l:List Int} (hl:RL F sl l) (hll:l.length<=1000000000) {k:Nat} {fst cap:Array Value} (hk:aC prog k=true) (kd:Tk->Bool)
  (hkd:∀t c F1,F.le F1->Mem.rep F1 t c->ae prog k (fst++([Value.agg c]).toArray++cap) F1 fun r F'=>r=.bool (kd t)/\F1.le F'):
  ae prog 159 #[.agg v,sl.v,.func (.func k) fst cap] F fun r F'=>r=.bool (decide (fM g kd l))/\F.le F':=by
 obtain ⟨c,n,t,s,p,lv,f,rfl,hs⟩:=hg
 have et:=hs.t.len (by decide)
 have el:=hl.len (by decide)
 refine Rt ?_
 unfold Le
 refine fresh fun b1 F1 l1 q1 _=> ?_
 replace hs:=hs.le l1
 replace hl:=hl.le l1
 have no:∀{F':PH},F1.le F'->¬fM g kd l->(Value.bool false=.bool (decide (fM g kd l))/\F.le F'):=fun {F'} l h=>⟨by rw [decide_eq_false h],aa l1 l⟩
 refine bj (uU · sl (.func (.func k) fst cap) b1 _) l.length (fun j F'=>F1.le F'/\(∀n∈l.take j,0<=n/\∃t,g.toks[n.toNat]? =some t/\kd t=true)/\∀(i:Nat) (x y:Int),i+1<j->l[i]? =some x->l[i+1]? =some y->x<y)
  ⟨le_refl' _,by simp,fun i x y h=>by omega⟩ ?_
 rintro j F2 N hj ⟨l2,i1,i2⟩ next
 unfold uU
 refine ⟨fun hlt=> ?_,fun hge=> ?_⟩
 ·have hlt:j<l.length:=by omega
  refine ixc (hl.le l2) (by decide) (by omega) (by omega) fun a cc x hx hr hc=> ?_
  rw [Int.toNat_natCast] at hx hr
  rw [show cc= #[vi x] from hc] at hr
  have hxm:x∈l:=List.mem_of_getElem? hx
  have p1:=l2 _ _ q1
  have noR:¬(0<=x/\x<g.toks.length)->(Value.bool false=.bool (decide (fM g kd l))/\F.le F2):=fun h=>no l2 fun hp=>by
   obtain ⟨h0,t',ht,_⟩:=hp.2.1 x hxm
   have:=(List.getElem?_eq_some_iff.1 ht).1
   exact h ⟨h0,by omega⟩
  refine ⟨_,aF hr rfl,fun h=>noR (by omega),fun x0=>⟨_,ld p1 rfl,fun h=>noR (by omega),fun x1=> ?_⟩⟩
  have body:(∀y,0<j->l[j - 1]? =some y->y<x)->∃v_41:Sl,F2.cell (Addr.mk b1 3 none)=some (Sl.v v_41)/\
   ∃a43_:Addr,v_41.base=some a43_/\0<=x/\x<(v_41.len:Int)/\
   ∃v_44:Array Value,v_44.size=7/\F2.row (Addr.add a43_ (Int.toNat x*7)) v_44/\
   ∃(k45:Nat) (fst45 cap45:Array Value),Value.func (.func k) fst cap=.func (.func k45) fst45 cap45/\aC prog k45=true/\ae prog k45 (fst45++([(.agg v_44)]).toArray++cap45) F2 fun v F'=>∃v_45:Bool,v=(.bool v_45)/\
   (((!v_45)=true->(Value.bool false=.bool (decide (fM g kd l))/\F.le F'))/\
   ((!v_45)=false->ot N sl (.func (.func k) fst cap) b1 (j:Int) (fun r F'=>r=.bool (decide (fM g kd l))/\F.le F') F')):=fun hprev=>by
   refine ⟨_,ld p1 rfl,ixc (hs.t.le l2) (by decide) (by omega) (by omega) fun a cc y hy hr hc=>⟨cc,Mem.len hc,hr,k,fst,cap,rfl,hk,?_⟩⟩
   refine (hkd y cc F2 (aa l1 l2) hc).mono ?_
   rintro _ F3 ⟨rfl,l3⟩
   refine ⟨_,rfl,fun h=>no (aa l2 l3) fun hp=> ?_,fun h=> ?_⟩
   ·obtain ⟨h0,t',ht,hk'⟩:=hp.2.1 x hxm
    rw [hy] at ht
    cases ht
    rw [hk'] at h
    cases h
   ·unfold ot
    rw [aB hlt (by omega)]
    refine next _ hlt ⟨aa l2 l3,fun m hm=> ?_,fun i u w hi hu hw=> ?_⟩
    ·rw [aI hx] at hm
     rcases List.mem_append.1 hm with hm|hm
     ·exact i1 m hm
     ·rw [List.mem_singleton.1 hm]
      exact ⟨by omega,y,hy,by simpa using h⟩
    ·by_cases e:i+1<j
     ·exact i2 i u w e hu hw
     ·have e:j=i+1:=by omega
      subst e
      rw [hx] at hw
      cases hw
      exact hprev u (by omega) hu
  refine ⟨fun hj0=> ?_,fun hj0=>body fun y h=>by omega⟩
  have hj0:0<j:=by omega
  have ew:IntKind.i64.wrap ((j:Int) - 1)=((j - 1:Nat):Int):=by rw [aN (by omega) (by omega)];omega
  rw [ew]
  refine ixc (hl.le l2) (by decide) (by omega) (by omega) fun a cc y hy hr hc=> ?_
  rw [Int.toNat_natCast] at hy hr
  rw [show cc= #[vi y] from hc] at hr
  refine ⟨_,aF (by rw [Int.toNat_natCast];exact hr) rfl,fun h=>no l2 fun hp=> ?_,fun h=>body fun z _ hz=> ?_⟩
  ·have:=hp.2.2 (j - 1) y x hy (by rw [show j - 1+1=j by omega];exact hx)
   omega
  ·rw [hy] at hz
   cases hz
   omega
 ·have e:j=l.length:=by omega
  subst e
  rw [List.take_length] at i1
  unfold By
  refine ⟨?_,aa l1 l2⟩
  congr 1
  rw [Bool.eq_iff_iff,decide_eq_true_eq,decide_eq_true_eq]
  constructor
  ·intro h
   refine ⟨fun e=>by rw [e] at el;simp at el;omega,i1,fun i x y hx hy=>i2 i x y ?_ hx hy⟩
   exact (List.getElem?_eq_some_iff.1 hy).1
  ·intro h
   have:l.length≠0:=fun e=>h.1 (List.eq_nil_of_length_eq_zero e)
   omega
def mN (g:Gr) (x:Fi):Prop:=0<=x.par/\0<=x.ch/\0<=x.pos/\∃p q,g.prods[x.par.toNat]? =some p/\g.prods[x.ch.toNat]? =some q/\p.right[x.pos.toNat]? =some ⟨false,q.left⟩
open Classical in
theorem C8 {F:PH} {v w:Array Value} {g:Gr} {x:Fi} (hg:GV F v g) (hx:Mem.rep F x w):ae prog 158 #[.agg v,.agg w] F fun r F'=>r=.bool (decide (mN g x))/\F.le F':=by
 obtain ⟨c,n,t,s,p,lv,f,rfl,hs⟩:=hg
 obtain ⟨tt,nn,rfl,_,_⟩:=hx
 have ep:=hs.p.len (by decide)
 refine Rs ?_
 unfold Ld
 refine fresh fun b2 F1 l1 q1 _=> ?_
 refine fresh fun b3 F2 l2 q2 _=> ?_
 replace q1:=l2 _ _ q1
 replace l1:=aa l1 l2
 have hp:=hs.p.le l1
 have no:¬mN g x->(Value.bool false=.bool (decide (mN g x))/\F.le F2):=fun h=>⟨by rw [decide_eq_false h],l1⟩
 have noR:¬(x.par<g.prods.length/\x.ch<g.prods.length)->¬mN g x:=fun h hq=>by
  obtain ⟨_,_,_,p',q',hp',hq',_⟩:=hq
  have:=(List.getElem?_eq_some_iff.1 hp').1
  have:=(List.getElem?_eq_some_iff.1 hq').1
  exact h (by omega)
 refine ⟨_,ld q2 rfl,fun h=>no fun hq=>by have:=hq.1;omega,fun k1=>⟨_,ld q2 rfl,_,ld q1 rfl,fun h=>no (noR (by omega)),fun k2=>⟨_,ld q2 rfl,fun h=>no fun hq=>by have:=hq.2.1;omega,fun k3=>⟨_,ld q2 rfl,_,ld q1 rfl,fun h=>no (noR (by omega)),fun k4=>⟨_,ld q1 rfl,_,ld q2 rfl,?_⟩⟩⟩⟩⟩
 refine ixc hp (by decide) (by omega) (by omega) fun a cc y hy hr hc=> ?_
 obtain ⟨rr,n2,l2',rfl,h1,_,_⟩:=hc
 have er:=h1.len (by decide)
 have noA:¬x.pos<y.right.length->¬mN g x:=fun h hq=>by
  obtain ⟨_,_,_,p',q',hp',hq',hs'⟩:=hq
  rw [hy] at hp'
  cases hp'
  have:=(List.getElem?_eq_some_iff.1 hs').1
  omega
 refine ⟨_,aD hr rfl,_,ld q2 rfl,fun k5=>⟨_,ld q2 rfl,fun k6=>⟨_,ld q2 rfl,?_⟩,fun k6=>no (noA (by omega))⟩,fun k5=>no fun hq=>k5 hq.2.2.1⟩
 refine ixc h1 (by decide) (by omega) (by omega) fun a cc z hz hr hc=> ?_
 rw [show cc=z.arr from hc] at hr
 refine ⟨_,rfl,hr,_,ld q1 rfl,_,ld q2 rfl,ixc hp (by decide) (by omega) (by omega) fun a cc u hu hr hc=> ?_⟩
 obtain ⟨r3,n3,l3',rfl,_,_,_⟩:=hc
 refine ⟨_,aD hr rfl,_,fun F=>Pt z ⟨false,u.left⟩ F,?_,l1⟩
 congr 1
 rw [Bool.eq_iff_iff,decide_eq_true_eq,decide_eq_true_eq]
 constructor
 ·rintro rfl
  exact ⟨by omega,by omega,by omega,y,u,hy,hu,hz⟩
 ·rintro ⟨_,_,_,p',q',hp',hq',hs'⟩
  rw [hy] at hp'
  cases hp'
  rw [hu] at hq'
  cases hq'
  rw [hz] at hs'
  exact Option.some.inj hs'
def bO (g:Gr) (x:Fi):Prop:=fg x.cond g.conds.length/\
  (((x.k=1\/x.k=2)/\mN g x/\x.left=0/\x.tok=0/\x.toks=[])\/
   ((x.k=3\/x.k=4)/\(0<=x.left/\x.left<g.nons.length/\fM g (fun t=>decide (t.cls=0)) x.toks)/\x.par=0/\x.pos=0/\x.ch=0/\x.tok=0)\/
   (x.k=5/\(fM g (fun t=> !decide (t.lit=emp)) x.toks/\0<=x.tok/\∃t,g.toks[x.tok.toNat]? =some t/\t.cls=0/\t.lit=emp)/\x.par=0/\x.pos=0/\x.ch=0/\x.left=0))
theorem Pj:aC prog 156=true:=by kernel_rfl
theorem Pk:aC prog 157=true:=by kernel_rfl
theorem jK {F:PH} {t:Tk} {c:Array Value} (h:Mem.rep F t c):ae prog 156 #[.agg c] F fun r F'=>r=.bool (decide (t.cls=0))/\F.le F':=by
 obtain ⟨p,n,rfl,_,_⟩:=h
 refine Rp ?_
 unfold La
 exact fresh fun b F1 l1 q1 _=>⟨_,ld q1 rfl,rfl,l1⟩
theorem jL {F:PH} {t:Tk} {c:Array Value} (h:Mem.rep F t c):ae prog 157 #[.agg c] F fun r F'=>r=.bool (!decide (t.lit=emp))/\F.le F':=by
 obtain ⟨p,n,rfl,_,_⟩:=h
 refine Rq ?_
 unfold Lc
 exact fresh fun b F1 l1 q1 _=>⟨_,ld q1 rfl,by rw [gz],l1⟩
abbrev qk (a0 a1 a2 a3 a4 a5:Int) (s6 s7:Sl) (a8:Int):Array Value:= #[vi a0,vi a1,vi a2,vi a3,vi a4,vi a5,s6.v,s7.v,vi a8]
open Classical in
theorem kQ {F:PH} {v:Array Value} {g:Gr} (hg:GV F v g) (hl:bE g=false) (hz:Sz g):ae prog 80 #[.agg v] F fun r F'=>r=vi (if ∀x∈g.fils,bO g x then 0 else 53)/\F.le F':=by
 obtain ⟨_,_,hlf,_,_,_,_⟩:=dU hl
 have hg0:=hg
 obtain ⟨c,n,t,s,p,lv,f,rfl,hs⟩:=hg
 have ec:=hs.c.len (by decide)
 have et:=hs.t.len (by decide)
 have es:=hs.s.len (by decide)
 have ef:=hs.f.len (by decide)
 refine UH ?_
 unfold QX
 refine fresh fun b1 F1 l1 q1 _=> ?_
 replace hs:=hs.le l1
 replace hg0:=hg0.le l1
 refine ⟨_,ld q1 rfl,?_⟩
 refine bj (y5 · b1 f _) g.fils.length (fun k F'=>∃G,F1.le G/\St G F' []/\∀x∈g.fils.take k,bO g x) ⟨F1,le_refl' _,.start _,by simp⟩ ?_
 rintro k F3 N hk ⟨G3,l3,h,hi⟩ next
 unfold y5
 refine ⟨fun hlt=> ?_,fun hge=> ?_⟩
 ·have hlt:k<g.fils.length:=by omega
  refine h.ix (hs.f.le l3) (by decide) (by omega) (by omega) fun a cc x hx hr hc=> ?_
  rw [Int.toNat_natCast] at hx
  have hxm:x∈g.fils:=List.mem_of_getElem? hx
  have hxl:=hz.f x hxm
  have hst:=Mem.st hc
  have hc0:=hc
  obtain ⟨tt,nn,rfl,h1,h2⟩:=hc
  have ett:=h1.len (by decide)
  refine ⟨x.arr tt nn,rfl,hr,?_⟩
  refine h.var hst fun b6 G4 F4 l4 q6 h=> ?_
  have bad:∀{F'},G3.le F'->¬bO g x->(vi 53=vi (if ∀x∈g.fils,bO g x then 0 else 53)/\F.le F'):=fun {F'} l hn=>⟨by rw [if_neg (fun h=>hn (h x hxm))],aa l1 (aa l3 l)⟩
  refine ⟨#[nn.v,vi x.cond.2],rfl,dP (h.le _ _ q6) rfl,_,ld (h.le _ _ (l4 _ _ (l3 _ _ q1))) rfl,?_⟩
  dsimp only
  rw [ec]
  refine h.runv (gB (d:=x.cond) (DV.mk (h2.le l4))) fun G5 F5 l5 h=>⟨_,rfl,_,rfl,aj (h.le _ _ (l5 _ _ q6)),?_⟩
  have l35:=aa l4 l5
  replace q6:=l5 _ _ q6
  refine h.new fun b8 F6 h=> ?_
  refine h.put0 (w':=x.arr tt nn) rfl rfl hst fun F7 h=> ?_
  refine h.set0 (w':=qk 0 x.par x.pos x.ch x.left x.tok tt nn x.cond.2) (by simp) rfl fun F8 h=> ?_
  refine h.putR0 (w':=qk 0 x.par x.pos x.ch x.left x.tok tt Sl.nil 0) rfl (by simp [ai]) (by simp) rfl fun F9 h=> ?_
  have j2:∀(fine:Bool) (a1 a2 a3 a4 a5:Int) (s6:Sl) G9 F9,G3.le G9->St G9 F9 [pt b8 (.cells (qk 0 a1 a2 a3 a4 a5 s6 Sl.nil 0) 74)]->
    ((fine=true/\a1=0/\a2=0/\a3=0/\a4=0/\a5=0/\s6.len=0)↔bO g x)->
    fj N b1 b8 f (k:Int) fine (fun r F'=>r=vi (if ∀x∈g.fils,bO g x then 0 else 53)/\F.le F') F9:=fun fine a1 a2 a3 a4 a5 s6 G9 F9 l9 h hiff=>by
   unfold fj
   have l:=aa l9 h.le
   refine ⟨fun hb=>bad l fun hn=>(by rw [(hiff.2 hn).1] at hb;cases hb),fun hb=>⟨_,h.ld0 rfl,fun e=>bad l fun hn=>e (hiff.2 hn).2.1,fun e1=>⟨_,h.ld0 rfl,fun e=>bad l fun hn=>e (hiff.2 hn).2.2.1,fun e2=>⟨_,h.ld0 rfl,fun e=>bad l fun hn=>e (hiff.2 hn).2.2.2.1,fun e3=>
    ⟨_,h.ld0 rfl,fun e=>bad l fun hn=>e (hiff.2 hn).2.2.2.2.1,fun e4=>⟨_,h.ld0 rfl,fun e=>bad l fun hn=>e (hiff.2 hn).2.2.2.2.2.1,fun e5=>⟨_,h.ld0 rfl,fun e=>bad l fun hn=>by have:=(hiff.2 hn).2.2.2.2.2.2;omega,fun e6=> ?_⟩⟩⟩⟩⟩⟩⟩
   rw [aB hlt (by omega)]
   refine next _ hlt ⟨G9,aa l3 l9,h.tail,fun y hy=> ?_⟩
   rw [aI hx] at hy
   rcases List.mem_append.1 hy with hy|hy
   ·exact hi y hy
   ·rw [List.mem_singleton.1 hy]
    exact hiff.1 ⟨by simpa using hb,Classical.not_not.1 e1,Classical.not_not.1 e2,Classical.not_not.1 e3,Classical.not_not.1 e4,Classical.not_not.1 e5,by omega⟩
  have hF:=bh (d:=x.cond) (n:=g.conds.length)
  generalize ql x.cond g.conds.length=fit at*
  have nil6:tt.len=0↔x.toks=[]:=by rw [ett];exact List.length_eq_zero_iff
  refine ⟨_,ld (h.le _ _ q6) rfl,?_⟩
  have j4:∀(b:Bool),(b=true↔x.k=3\/x.k=4)->¬(x.k=1\/x.k=2)->uN N b1 b6 fit b8 f (k:Int) x.k b (fun r F'=>r=vi (if ∀x∈g.fils,bO g x then 0 else 53)/\F.le F') F9:=fun b hb hn12=>by
   unfold uN
   refine ⟨fun hbt=> ?_,fun hbf=>⟨fun k5=> ?_,fun k5=> ?_⟩⟩
   ·have hk:=hb.1 hbt
    refine h.set0 (w':=qk 0 x.par x.pos x.ch 0 x.tok tt Sl.nil 0) (by simp) rfl fun F10 h=> ?_
    refine h.set0 (w':=qk 0 x.par x.pos x.ch 0 x.tok Sl.nil Sl.nil 0) (by simp) rfl fun F11 h=> ?_
    have bad':¬(0<=x.left/\x.left<g.nons.length/\fM g (fun t=>decide (t.cls=0)) x.toks)->¬bO g x:=fun hn hok=>by
     rcases hok.2 with h'|h'|h'
     ·omega
     ·exact hn h'.2.1
     ·omega
    refine ⟨fun hft=>⟨_,ld (h.le _ _ q6) rfl,fun k1=>⟨_,ld (h.le _ _ q6) rfl,_,ld (h.le _ _ (l35 _ _ (l3 _ _ q1))) rfl,fun k2=>⟨_,rfl,aj (h.le _ _ (l35 _ _ (l3 _ _ q1))),_,ld (h.le _ _ q6) rfl,?_⟩,fun k2=> ?_⟩,fun k1=> ?_⟩,fun hff=> ?_⟩
    ·refine h.runv (iX (hg0.le (aa l3 l35)) (h1.le l35) hxl Pj (fun t=>decide (t.cls=0)) fun t c F1 _ hc=>jK hc) fun G10 F10 l10 h=>⟨_,rfl,?_⟩
     refine j2 _ _ _ _ _ _ _ G10 F10 (aa l35 l10) h ?_
     rw [decide_eq_true_eq]
     constructor
     ·rintro ⟨ha,e1,e2,e3,_,e5,_⟩
      exact ⟨hF.1 hft,.inr (.inl ⟨hk,⟨k1,by omega,ha⟩,e1,e2,e3,e5⟩)⟩
     ·intro hok
      rcases hok.2 with h'|h'|h'
      ·omega
      ·exact ⟨h'.2.1.2.2,h'.2.2.1,h'.2.2.2.1,h'.2.2.2.2.1,rfl,h'.2.2.2.2.2,rfl⟩
      ·omega
    ·exact j2 _ _ _ _ _ _ _ G5 F11 l35 h ⟨fun h=>(by cases h.1),fun hok=>absurd hok (bad' fun h=>k2 (by omega))⟩
    ·exact j2 _ _ _ _ _ _ _ G5 F11 l35 h ⟨fun h=>(by cases h.1),fun hok=>absurd hok (bad' fun h=>k1 h.1)⟩
    ·exact j2 _ _ _ _ _ _ _ G5 F11 l35 h ⟨fun h=>(by cases h.1),fun hok=>by rw [hF.2 hok.1] at hff;cases hff⟩
   ·refine h.set0 (w':=qk 0 x.par x.pos x.ch x.left 0 tt Sl.nil 0) (by simp) rfl fun F10 h=> ?_
    refine h.set0 (w':=qk 0 x.par x.pos x.ch x.left 0 Sl.nil Sl.nil 0) (by simp) rfl fun F11 h=> ?_
    have bad':¬(fM g (fun t=> !decide (t.lit=emp)) x.toks/\0<=x.tok/\∃t,g.toks[x.tok.toNat]? =some t/\t.cls=0/\t.lit=emp)->¬bO g x:=fun hn hok=>by
     rcases hok.2 with h'|h'|h'
     ·omega
     ·omega
     ·exact hn h'.2.1
    have j5f:∀G10 F10,G3.le G10->St G10 F10 [pt b8 (.cells (qk 0 x.par x.pos x.ch x.left 0 Sl.nil Sl.nil 0) 74)]->¬bO g x->kg N b1 b6 b8 f (k:Int) false (fun r F'=>r=vi (if ∀x∈g.fils,bO g x then 0 else 53)/\F.le F') F10:=fun G10 F10 l10 h hn=>by
     unfold kg
     exact ⟨fun h=>(by cases h),fun _=>j2 _ _ _ _ _ _ _ G10 F10 l10 h ⟨fun h=>(by cases h.1),fun hok=>absurd hok hn⟩⟩
    refine ⟨fun hft=>⟨_,rfl,aj (h.le _ _ (l35 _ _ (l3 _ _ q1))),_,ld (h.le _ _ q6) rfl,?_⟩,fun hff=>j5f G5 F11 l35 h fun hok=>by rw [hF.2 hok.1] at hff;cases hff⟩
    refine h.runv (iX (hg0.le (aa l3 l35)) (h1.le l35) hxl Pk (fun t=> !decide (t.lit=emp)) fun t c F1 _ hc=>jL hc) fun G10 F10 l10 h=>⟨_,rfl,fun ha=> ?_,fun ha=>j5f G10 F10 (aa l35 l10) h (bad' fun h=>of_decide_eq_false ha h.1)⟩
    have ha:=of_decide_eq_true ha
    replace l35:=aa l35 l10
    replace q6:=l10 _ _ q6
    have p1:=l35 _ _ (l3 _ _ q1)
    refine ⟨_,ld (h.le _ _ q6) rfl,fun k1=>⟨_,ld (h.le _ _ q6) rfl,_,ld (h.le _ _ p1) rfl,?_⟩,fun k1=>j5f G10 F10 l35 h (bad' fun h=>k1 h.2.1)⟩
    by_cases k2:x.tok<(t.len:Int)
    ·dsimp only
     rw [decide_eq_true k2]
     unfold kg
     refine ⟨fun _=>⟨_,ld (h.le _ _ p1) rfl,_,ld (h.le _ _ q6) rfl,h.ix (hs.t.le (aa l3 l35)) (by decide) k1 k2 fun a cc y hy hr hc=>⟨cc,Mem.len hc,hr,?_⟩⟩,fun h=>(by cases h)⟩
     refine h.runv (jK hc) fun G11 F11 l11 h=>⟨_,rfl,fun k3=>⟨_,ld (h.le _ _ (l11 _ _ p1)) rfl,_,ld (h.le _ _ (l11 _ _ q6)) rfl,h.ix (hs.t.le (aa l3 (aa l35 l11))) (by decide) k1 k2 fun a cc z hz hr hc=>⟨cc,Mem.len hc,hr,?_⟩⟩,fun k3=> ?_⟩
     ·rw [hy] at hz
      cases hz
      refine h.runv (jL hc) fun G12 F12 l12 h=>⟨_,rfl,?_⟩
      refine j2 _ _ _ _ _ _ _ G12 F12 (aa l35 (aa l11 l12)) h ?_
      rw [Bool.not_not,decide_eq_true_eq]
      constructor
      ·rintro ⟨hlit,e1,e2,e3,e4,_⟩
       exact ⟨hF.1 hft,.inr (.inr ⟨k5,⟨ha,k1,y,hy,of_decide_eq_true k3,hlit⟩,e1,e2,e3,e4⟩)⟩
      ·intro hok
       rcases hok.2 with h'|h'|h'
       ·omega
       ·omega
       ·obtain ⟨_,_,u,hu,_,hul⟩:=h'.2.1
        rw [hy] at hu
        cases hu
        exact ⟨hul,h'.2.2.1,h'.2.2.2.1,h'.2.2.2.2.1,h'.2.2.2.2.2,rfl,rfl⟩
     ·refine j2 _ _ _ _ _ _ _ G11 F11 (aa l35 l11) h ⟨fun h=>(by cases h.1),fun hok=>absurd hok (bad' fun h=> ?_)⟩
      obtain ⟨_,_,u,hu,hul,_⟩:=h
      rw [hy] at hu
      cases hu
      exact of_decide_eq_false k3 hul
    ·dsimp only
     rw [decide_eq_false k2]
     refine j5f G10 F10 l35 h (bad' fun h=> ?_)
     obtain ⟨_,_,u,hu,_,_⟩:=h
     have:=(List.getElem?_eq_some_iff.1 hu).1
     omega
   ·refine j2 _ _ _ _ _ _ _ G5 F9 l35 h ⟨fun h=>(by cases h.1),fun hok=> ?_⟩
    have:¬(x.k=3\/x.k=4):=fun h=>by rw [hb.2 h] at hbf;cases hbf
    rcases hok.2 with h'|h'|h'<;>omega
  have j3:∀(b:Bool),(b=true↔x.k=1\/x.k=2)->uO N b1 b6 fit b8 f (k:Int) x.k b (fun r F'=>r=vi (if ∀x∈g.fils,bO g x then 0 else 53)/\F.le F') F9:=fun b hb=>by
   unfold uO
   refine ⟨fun hbt=> ?_,fun hbf=> ?_⟩
   ·have hk:=hb.1 hbt
    refine h.set0 (w':=qk 0 0 x.pos x.ch x.left x.tok tt Sl.nil 0) (by simp) rfl fun F10 h=> ?_
    refine h.set0 (w':=qk 0 0 0 x.ch x.left x.tok tt Sl.nil 0) (by simp) rfl fun F11 h=> ?_
    refine h.set0 (w':=qk 0 0 0 0 x.left x.tok tt Sl.nil 0) (by simp) rfl fun F12 h=> ?_
    refine ⟨fun hft=>⟨_,rfl,aj (h.le _ _ (l35 _ _ (l3 _ _ q1))),_,rfl,aj (h.le _ _ q6),?_⟩,fun hff=> ?_⟩
    ·refine h.runv (C8 (hg0.le (aa l3 l35)) (Mem.le l35 hc0)) fun G10 F10 l10 h=>⟨_,rfl,?_⟩
     refine j2 _ _ _ _ _ _ _ G10 F10 (aa l35 l10) h ?_
     rw [decide_eq_true_eq]
     constructor
     ·rintro ⟨ha,_,_,_,e4,e5,e6⟩
      exact ⟨hF.1 hft,.inl ⟨hk,ha,e4,e5,nil6.1 e6⟩⟩
     ·intro hok
      rcases hok.2 with h'|h'|h'
      ·exact ⟨h'.2.1,rfl,rfl,rfl,h'.2.2.1,h'.2.2.2.1,nil6.2 h'.2.2.2.2⟩
      ·omega
      ·omega
    ·exact j2 _ _ _ _ _ _ _ G5 F12 l35 h ⟨fun h=>(by cases h.1),fun hok=>by rw [hF.2 hok.1] at hff;cases hff⟩
   ·have hn:¬(x.k=1\/x.k=2):=fun h=>by rw [hb.2 h] at hbf;cases hbf
    exact ⟨fun e=>j4 _ (by rw [decide_eq_true_eq];omega) hn,fun e=>j4 _ (by rw [decide_eq_true_eq];omega) hn⟩
  exact ⟨fun e=>j3 _ (by rw [decide_eq_true_eq];omega),fun e=>j3 _ (by rw [decide_eq_true_eq];omega)⟩
 ·have e:k=g.fils.length:=by omega
  subst e
  rw [List.take_length] at hi
  unfold GJ
  exact ⟨by rw [if_pos hi],aa l1 (aa l3 h.le)⟩
end Go.Proofs.YtenpmjhnhepfdaaGreatDoor
