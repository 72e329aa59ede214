/-
  Check of grammars: filters.
-/
import Derived.Test.YtcemhghkipgdiaaGreatDoorHf
namespace Go.Proofs.YtcemhghkipgdiaaGreatDoor
open Go Go.Proofs.Tryz
set_option maxRecDepth 10000
theorem St.var {G F:PH} {As:List (Ψ)} (h:St G F As) {n:Nat} {z w:Γ} {e:TypeId} {K:Nat->Ψ} (hst:∀x∈w.toList,ak x)
  (k:∀b G' F',G.le G'->G' b=some (.cells w e)->St G' F' As->K b F') (hz:z.size=n:=by rfl) (hw:w.size=n:=by rfl):∀b,F b=none->atF (F.set b (.cells z e)) λF=>au F (Addr.mk b 0 none) n w (K b):=by
 refine h.new λb F1 h=> ?_;refine h.put0 hw hz hst λF2 h=> ?_;exact h.pinb λG' l q h=>k b G' F2 l q h
theorem var1 {F:PH} {n:Nat} {z w:Γ} {e:TypeId} {K:Nat->Ψ} (hst:∀x∈w.toList,ak x)
  (k:∀b F',F.le F'->F' b=some (.cells w e)->K b F') (hz:z.size=n:=by rfl) (hw:w.size=n:=by rfl):∀b,F b=none->atF (F.set b (.cells z e)) λF=>au F (Addr.mk b 0 none) n w (K b):=
 (St.start F).var hst (λb _ F' l q h=>k b F' (aa l h.le) (h.le _ _ q)) hz hw
theorem St.ix {α:Type} [Mem α] {G F:PH} {As:List (Ψ)} (h:St G F As) {s:Sl} {l:List α} (hl:RL G s l) (hn:0<Mem.n α) {i:Int} (h0:0<=i) (h1:i<(s.len:Int)) {K:Addr->Prop}
  (k:∀a c x,l[i.toNat]? =some x->F.row (a.add (i.toNat*Mem.n α)) c->Mem.rep G x c->K a):∃a,s.base=some a/\0<=i/\i<(s.len:Int)/\K a:=
 ixc hl hn h0 h1 λa c x hx hr hc=>k a c x hx (bJ h.le hr) hc
section
variable {K:Type} [DecidableEq K] {enc:K->Value} {f:K->Option Value} {m:Nat} {G F:PH} {As:List (Ψ)} {t:TypeId} {z:Value}
def mpE (m:Nat) (enc:K->Value) (f:K->Option Value):Ψ:=λH=>∃o,H m=some o/\eH enc f o
theorem St.newMap (h:St G F As) (enc:K->Value) {Q:Nat->Ψ} (k:∀b F',St G F' (mpE b enc (λ_=>none)::As)->Q b F'):∀b,F b=none->atF (F.set b (.map #[] 0)) (Q b):=λb hb=>by
 refine atI (k b _ (h.push (H:=PH.set (λ_=>none) b (.map #[] 0)) ⟨_,al _ _ _,eH.empty enc⟩ (λx hx=> ?_) (λx p hx=> ?_) (ae _ hb)))
 ·by_cases e:x=b
  ·rw [e];exact hb
  ·rw [av _ _ e] at hx;exact absurd rfl hx
 ·by_cases e:x=b
  ·rw [e,al] at hx ⊢;exact hx
  ·rw [av _ _ e] at hx;cases hx
theorem St.lookAt (h:St G F As) {i:Nat} (hi:As[i]? =some (mpE m enc f)) (mt:fY prog t enc z) (k:K) (ok:Bool):rdo prog (Instr.lookup t (.map (some m)) (enc k) ok) F (if ok then .tuple #[(f k).getD z,.bool (f k).isSome] else (f k).getD z):=by obtain ⟨H,⟨o,h1,h2⟩,_,h3⟩:=h.get hi;exact bL mt (h3 _ _ h1) h2 k ok
theorem St.updAt (h:St G F As) (i:Nat) (hi:As[i]? =some (mpE m enc f)) (mt:fY prog t enc z) (k:K) (v:Value) {Q:Unit->Ψ} (kk:∀F',St G F' (As.set i (mpE m enc λk'=>if k'=k then some v else f k'))->Q () F'):
  aG prog (Instr.mapUpdate t (.map (some m)) (enc k) v) F Q:=by
 obtain ⟨H,⟨o,a1,a0⟩,a2,a3,a4⟩:=h.set (A':=mpE m enc λk'=>if k'=k then some v else f k') hi;refine aX mt (a3 _ _ a1) a0 k v λo' ho'=>kk _ ?_;refine a4 (H.set m o') _ ⟨o',al _ _ _,ho'⟩ (λx hx=> ?_) (λx p hx=> ?_) (λx p hx hn=> ?_)
 ·by_cases e:x=m
  ·rw [e,a1];exact .inl (by simp)
  ·rw [av _ _ e] at hx;exact .inl hx
 ·by_cases e:x=m
  ·rw [e,al] at hx ⊢;exact hx
  ·rw [av _ _ e] at hx ⊢;exact a3 _ _ hx
 ·have e:x≠m:=λe=>by rw [e,a1] at hn;cases hn
  rw [av _ _ e];exact hx
end
def DW (g:Gr) (done:List ByteArray) (p:Pr):Prop:=p.name≠emp/\p.name ∉ done/\ij p.cond g.conds.length/\-1<=p.rank/\p.rank<=1/\nq p
def ig (g:Gr) (p:Pr):Prop:=kC g ⟨false,p.left⟩/\∀s∈p.right,kC g s
open Classical in
noncomputable def dM (g:Gr) (done:List ByteArray):List Pr->Int
 |[]=>0
 |p::l=>if ¬ig g p then 50 else if ¬DW g done p then 52 else dM g (done++[p.name]) l
theorem cL {α:Type} {l:List α} {k:Nat} {x:α} (h:l[k]? =some x):l.drop k=x::l.drop (k+1):=by obtain ⟨hk,rfl⟩:=N6.1 h;exact List.drop_eq_getElem_cons hk
theorem HH:aE prog 146=true:=by kernel_rfl
theorem qr {F:PH} {b:Nat} {v:Γ} {g:Gr} (hg:GV F v g) (q:F b=some (.cells v 37)) (x:Sy):ai prog 146 #[.agg x.arr,.pointer (some ⟨b,0,none⟩)] F λr F'=>r=.bool (!decide (kC g x))/\F.le F':=by refine QQ ?_;unfold KO;refine fresh λb2 F1 l1 q1 _=>⟨_,rfl,v,hg.size,ac (l1 _ _ q),_,rfl,ac q1,?_⟩;refine (xa (hg.le l1) x).mono ?_;rintro _ F2 ⟨rfl,l2⟩;exact ⟨_,rfl,rfl,aa l1 l2⟩
theorem gQ {g:Gr} (h:dP g=false):g.conds.length<=64/\g.toks.length<=256/\g.fils.length<=4096/\g.nons.length<=2000/\g.prods.length<=2000/\g.lvs.length<=2000/\∀p∈g.prods,p.right.length<=16/\p.lay.length<=16:=by unfold dP at h;rw [Bool.or_eq_false_iff,decide_eq_false_iff_not,List.any_eq_false] at h;obtain ⟨h1,h2⟩:=h;refine ⟨by omega,by omega,by omega,by omega,by omega,by omega,λp hp=> ?_⟩;have:=h2 p hp;simp only [decide_eq_true_eq] at this;omega
open Classical in
theorem oO {F:PH} {v:Γ} {g:Gr} (hg:GV F v g) (hl:dP g=false):ai prog 92 #[.agg v] F λr F'=>r=vi (dM g [] g.prods)/\F.le F':=by
 obtain ⟨_,_,_,_,hlp,_,hlr⟩:=gQ hl;have hg0:=hg;obtain ⟨c,n,t,s,p,l,f,rfl,hs⟩:=hg;have ec:=hs.c.len (by decide);have ep:=hs.p.len (by decide);refine T1 ?_;unfold QE;refine fresh λb1 F1 l1 q1 _=> ?_;replace hs:=hs.le l1;replace hg0:=hg0.le l1;refine (ii F1).mono ?_;rintro _ F2 ⟨G2,bn,m,rfl,l2,hcn,h⟩;refine ⟨_,rfl,_,ld (h.le _ _ (l2 _ _ q1)) rfl,?_⟩;refine bz (zJ · b1 (w8 bn) p _) g.prods.length (λk F'=>∃G,G2.le G/\St G F' [bK m ((g.prods.take k).map Pr.name).reverse]/\dM g [] g.prods=dM g ((g.prods.take k).map Pr.name) (g.prods.drop k))
  ⟨G2,aq _,h,by simp⟩ ?_
 rintro k F3 N hk ⟨G3,l3,h,hE⟩ next;have l13:=aa l2 l3;unfold zJ;refine ⟨λhlt=> ?_,λhge=> ?_⟩
 ·have hlt:k<g.prods.length:=by omega
  refine h.ix (hs.p.le l13) (by decide) (by omega) (by omega) λa cc x hx hr hc=> ?_;rw [N4] at hx;have hxm:x∈g.prods:=UY hx;obtain ⟨hxr,hxl⟩:=hlr x hxm;have hE':=hE;rw [cL hx,dM] at hE';have hst:=Mem.st hc;have hc0:=hc;obtain ⟨rr,nn,ll,rfl,h1,h2,h3⟩:=hc;refine ⟨x.arr rr nn ll,rfl,hr,?_⟩;refine h.var hst λb5 G4 F4 l4 q5 h=> ?_;have bad50:∀{F'},G3.le F'->¬ig g x->(vi 50=vi (dM g [] g.prods)/\F.le F'):=λ{F'} l hn=>⟨by rw [hE',if_pos hn],aa l1 (aa l13 l)⟩;have bad52:∀{F'},G3.le F'->ig g x->¬DW g ((g.prods.take k).map Pr.name) x->(vi 52=vi (dM g [] g.prods)/\F.le F'):=λ{F'} l h1 hn=>⟨by rw [hE',if_neg (λh=>h h1),if_pos hn],aa l1 (aa l13 l)⟩;refine ⟨_,ld (h.le _ _ q5) rfl,?_⟩;refine h.runv (qr (x:=⟨false,x.left⟩) (hg0.le (aa l13 l4)) (l4 _ _ (l13 _ _ q1))) λG5 F5 l5 h=>⟨_,rfl,λhb=>bad50 (aa l4 (aa l5 h.le)) λhn=> ?_,λhb=>⟨_,ld (h.le _ _ (l5 _ _ q5)) rfl,?_⟩⟩
  ·rw [decide_eq_true hn.1] at hb;cases hb
  have hs1:kC g ⟨false,x.left⟩:=by simpa using hb
  have l35:=aa l4 l5;have sp:ai prog 148 #[rr.v,.func (.func 146) #[] #[.pointer (some ⟨b1,0,none⟩)]] G5 λr F'=>r=.bool (x.right.any λs=> !decide (kC g s))/\G5.le F':=by
   refine PC ?_;unfold Kl
   refine (show ai prog 187 #[rr.v,.func (.func 146) #[] #[.pointer (some ⟨b1,0,none⟩)]] G5 (λr F'=>∃i,r=vi i/\(0<=i↔(x.right.any λs=> !decide (kC g s))=true)/\G5.le F')
    from PI (yB (h1.le l35) (by decide) (by omega) HH (λs=> !decide (kC g s)) λy hy c F6 l6 hc=> ?_)).mono ?_
   ·rw [show c=y.arr from hc];exact qr (hg0.le (aa l13 (aa l35 l6))) (l6 _ _ (l35 _ _ (l13 _ _ q1))) y
   ·rintro _ F6 ⟨i,rfl,hi,l6⟩;refine ⟨_,rfl,?_,l6⟩;congr 1;rw [U3,decide_eq_true_eq];exact hi
  refine h.runv sp λG6 F6 l6 h=>⟨_,rfl,λhb=>bad50 (aa l35 (aa l6 h.le)) λhn=> ?_,λhb=> ?_⟩
  ·obtain ⟨y,hy,hy2⟩:=VZ.1 hb;rw [decide_eq_true (hn.2 y hy)] at hy2;cases hy2
  have hsy:ig g x:=⟨hs1,λy hy=>by
   have:=List.any_eq_false.1 hb y hy
   simpa using this⟩
  replace l35:=aa l35 l6;have q6:=l6 _ _ (l5 _ _ q5);refine ⟨_,ld (h.le _ _ q6) rfl,?_⟩;refine o7 h (aH (aa l3 l35) hcn) x.name λG7 F7 l7 h=>⟨_,rfl,λhb=>bad52 (aa l35 (aa l7 h.le)) hsy λhn=> ?_,λhb=> ?_⟩
  ·rw [decide_eq_true ⟨hn.1,hn.2.1⟩] at hb;cases hb
  have hnm:x.name≠emp/\x.name ∉ (g.prods.take k).map Pr.name:=by simpa using hb
  replace l35:=aa l35 l7;have q7:=l7 _ _ q6;refine ⟨#[nn.v,vi x.cond.2],rfl,kD (h.le _ _ q7) rfl,_,ld (h.le _ _ (l35 _ _ (l13 _ _ q1))) rfl,?_⟩;dsimp only;rw [ec];refine h.runv (gS (d:=x.cond) (DV.mk (h2.le l35))) λG8 F8 l8 h=>⟨_,rfl,λhb=>bad52 (aa l35 (aa l8 h.le)) hsy λhn=> ?_,λhb=> ?_⟩
  ·rw [cM.2 hn.2.2.1] at hb;cases hb
  have hfit:ij x.cond g.conds.length:=cM.1 (by simpa using hb);replace l35:=aa l35 l8;have q8:=l8 _ _ q7;refine ⟨_,ld (h.le _ _ q8) rfl,λhb=>bad52 (aa l35 h.le) hsy λhn=>by have:=hn.2.2.2.1;omega,λhr1=>⟨_,ld (h.le _ _ q8) rfl,λhb=>bad52 (aa l35 h.le) hsy λhn=>by have:=hn.2.2.2.2.1;omega,λhr2=>⟨_,rfl,ac (h.le _ _ q8),?_⟩⟩⟩;refine h.runv (uT (Mem.le l35 hc0) hxr hxl) λG9 F9 l9 h=>⟨_,rfl,λhb=>bad52 (aa l35 (aa l9 h.le)) hsy λhn=> ?_,λhb=> ?_⟩
  ·rw [decide_eq_true hn.2.2.2.2.2] at hb;cases hb
  have hdet:nq x:=by simpa using hb
  rw [aI hlt (by omega)];have e:(g.prods.take k).map Pr.name++[x.name]=(g.prods.take (k+1)).map Pr.name:=by rw [bu hx,Vm];rfl
  refine next _ hlt ⟨G9,aa l3 (aa l35 l9),by rw [<- e];exact h,?_⟩;rw [hE',if_neg (λh=>h hsy),if_neg (λh=>h ⟨hnm.1,hnm.2,hfit,by omega,by omega,hdet⟩),e]
 ·have e:k=g.prods.length:=by omega
  subst e;rw [VO,dM] at hE;unfold Ge;exact ⟨by rw [hE],aa l1 (aa l13 h.le)⟩
def LW (g:Gr) (done:Φ) (l:Lv):Prop:=0<=l.assoc/\l.assoc<=3/\ij l.cond g.conds.length/\(∀p∈l.ps,0<=p/\p<g.prods.length)/\l.ps.Nodup/\∀p∈l.ps,p ∉ done
def eB (g:Gr) (done:Φ):List Lv->Prop
 |[]=>True
 |l::r=>LW g done l/\eB g (done++l.ps) r
def ly (l:Φ) (i:Int):Option Value:=if i∈l then some (.bool true) else none
theorem yy (l:Φ) (x:Int):ly (l++[x])=λk=>if k=x then some (.bool true) else ly l k:=by funext k;unfold ly;by_cases e:k=x<;>simp [e]
theorem NL:fY prog 186 aM (.bool false):=⟨_,_,underlying186,NO,IC⟩
open Classical in
theorem nj {F:PH} {v:Γ} {g:Gr} (hg:GV F v g) (hl:dP g=false) (hz:Sz g):ai prog 93 #[.agg v] F λr F'=>r=vi (if eB g [] g.lvs then 0 else 53)/\F.le F':=by
 obtain ⟨_,_,_,_,hlp,hll,_⟩:=gQ hl;obtain ⟨c,n,t,s,p,l,f,rfl,hs⟩:=hg;have ec:=hs.c.len (by decide);have ep:=hs.p.len (by decide);have el:=hs.l.len (by decide);refine T2 ?_;unfold QF;refine fresh λb1 F1 l1 q1 _=> ?_;replace hs:=hs.le l1;refine (St.start F1).newMap aM λb8 F2 h=> ?_;refine ⟨_,ld (h.le _ _ q1) rfl,?_⟩;refine bz (zM · b1 b8 l _) g.lvs.length (λk F'=>∃G,F1.le G/\St G F' [mpE b8 aM (ly ((g.lvs.take k).flatMap Lv.ps))]/\(eB g [] g.lvs↔eB g ((g.lvs.take k).flatMap Lv.ps) (g.lvs.drop k)))
  ⟨F1,aq _,by rw [show ly ((g.lvs.take 0).flatMap Lv.ps)=λ_=>none from funext λi=>by simp [ly]];exact h,by simp⟩ ?_
 rintro k F3 N hk ⟨G3,l3,h,hE⟩ next;unfold zM;refine ⟨λhlt=> ?_,λhge=> ?_⟩
 ·have hlt:k<g.lvs.length:=by omega
  refine h.ix (hs.l.le l3) (by decide) (by omega) (by omega) λa cc x hx hr hc=> ?_;rw [N4] at hx;have hxm:x∈g.lvs:=UY hx;have hpl:=hz.l x hxm;rw [cL hx,eB] at hE;have hst:=Mem.st hc;obtain ⟨pp,nn,rfl,h1,h2⟩:=hc;have epp:=h1.len (by decide);refine ⟨x.arr pp nn,rfl,hr,?_⟩;refine h.var hst λb5 G4 F4 l4 q5 h=> ?_;have bad:∀{F'},G3.le F'->¬LW g ((g.lvs.take k).flatMap Lv.ps) x->(vi 53=vi (if eB g [] g.lvs then 0 else 53)/\F.le F'):=λ{F'} l hn=>⟨by rw [if_neg (λh=>hn (hE.1 h).1)],aa l1 (aa l3 l)⟩;refine ⟨_,ld (h.le _ _ q5) rfl,λhb=>bad (aa l4 h.le) λhn=>by have:=hn.1;omega,λk1=>⟨_,ld (h.le _ _ q5) rfl,λhb=>bad (aa l4 h.le) λhn=>by have:=hn.2.1;omega,λk2=>⟨#[nn.v,vi x.cond.2],rfl,kD (h.le _ _ q5) rfl,_,ld (h.le _ _ (l4 _ _ (l3 _ _ q1))) rfl,?_⟩⟩⟩;dsimp only;rw [ec];refine h.runv (gS (d:=x.cond) (DV.mk (h2.le l4))) λG5 F5 l5 h=>⟨_,rfl,λhb=>bad (aa l4 (aa l5 h.le)) λhn=> ?_,λhb=> ?_⟩
  ·rw [cM.2 hn.2.2.1] at hb;cases hb
  have hfit:ij x.cond g.conds.length:=cM.1 (by simpa using hb);have l35:=aa l4 l5;refine ⟨_,ld (h.le _ _ (l5 _ _ q5)) rfl,?_⟩;refine bz (zK N · b1 b8 l (k:Int) pp _) x.ps.length (λj F'=>∃G,G5.le G/\St G F' [mpE b8 aM (ly ((g.lvs.take k).flatMap Lv.ps++x.ps.take j))]/\(∀p∈x.ps.take j,0<=p/\p<g.prods.length)/\(x.ps.take j).Nodup/\∀p∈x.ps.take j,p ∉ (g.lvs.take k).flatMap Lv.ps)
   ⟨G5,aq _,by simpa using h,by simp,by simp,by simp⟩ ?_
  rintro j F6 N2 hj ⟨G6,l6,h,i1,i2,i3⟩ next2;have l36:=aa l35 l6;unfold zK;refine ⟨λhlt2=> ?_,λhge2=> ?_⟩
  ·have hlt2:j<x.ps.length:=by omega
   refine h.ix (h1.le l36) (by decide) (by omega) (by omega) λa cc y hy hr hc=> ?_;rw [N4] at hy hr;rw [show cc= #[vi y] from hc] at hr;have hym:y∈x.ps:=UY hy;have hlk:=h.lookAt (i:=0) rfl NL y false;refine ⟨_,be hr rfl,λhb=>bad (aa l36 h.le) λhn=>by have:=(hn.2.2.2.1 y hym).1;omega,λy0=>⟨_,ld (h.le _ _ (l36 _ _ (l3 _ _ q1))) rfl,λhb=>bad (aa l36 h.le) λhn=>by have:=(hn.2.2.2.1 y hym).2;omega,λy1=> ?_⟩⟩;by_cases hu:y∈(g.lvs.take k).flatMap Lv.ps++x.ps.take j
   ·rw [show ly _ y=some (.bool true) from if_pos hu] at hlk;refine ⟨true,hlk,λ_=>bad (aa l36 h.le) λhn=> ?_,λh=>(by cases h)⟩;rcases UX.1 hu with hu|hu
    ·exact hn.2.2.2.2.2 y hym hu
    ·have hnd:=hn.2.2.2.2.1.sublist (List.take_sublist (j+1) x.ps);rw [bu hy,Vp] at hnd;exact hnd.2.2 y hu y (by simp) rfl
   ·rw [show ly _ y=none from if_neg hu] at hlk;refine ⟨false,hlk,λh=>(by cases h),λ_=> ?_⟩;refine h.updAt 0 rfl NL y (.bool true) λF7 h=> ?_;rw [aI hlt2 (by omega)];rw [UX,not_or] at hu;refine next2 _ hlt2 ⟨G6,l6,?_,λp hp=> ?_,?_,λp hp=> ?_⟩
    ·rw [bu hy,<- Vo,yy];exact h
    ·rw [bu hy] at hp;rcases UX.1 hp with hp|hp
     ·exact i1 p hp
     ·rw [UU.1 hp];omega
    ·rw [bu hy,Vp];exact ⟨i2,by simp,λa ha b hb e=>hu.2 (by rw [<- UU.1 hb,<- e];exact ha)⟩
    ·rw [bu hy] at hp;rcases UX.1 hp with hp|hp
     ·exact i3 p hp
     ·rw [UU.1 hp];exact hu.1
  ·have e:j=x.ps.length:=by omega
   subst e;rw [U7] at i1 i2 i3 h;unfold Gg;rw [aI hlt (by omega)];have e:(g.lvs.take k).flatMap Lv.ps++x.ps=(g.lvs.take (k+1)).flatMap Lv.ps:=by rw [bu hx,Wm];simp
   rw [e] at h hE;refine next _ hlt ⟨G6,aa l3 l36,h,hE.trans ⟨λh=>h.2,λh=>⟨⟨by omega,by omega,hfit,i1,i2,i3⟩,h⟩⟩⟩
 ·have e:k=g.lvs.length:=by omega
  subst e;rw [VO,eB] at hE;unfold Gf;exact ⟨by rw [if_pos (hE.2 trivial)],aa l1 (aa l3 h.le)⟩
def fE (g:Gr) (kd:Tk->Bool) (l:Φ):Prop:=l≠[]/\(∀n∈l,0<=n/\∃t,g.toks[n.toNat]? =some t/\kd t=true)/\∀(i:Nat) (x y:Int),l[i]? =some x->l[i+1]? =some y->x<y
open Classical in
theorem jk {F:PH} {v:Γ} {g:Gr} (hg:GV F v g) {sl:Sl} {l:Φ} (hl:RL F sl l) (hll:l.length<=1000000000) {k:Nat} {fst cap:Γ} (hk:aE prog k=true) (kd:Tk->Bool)
  (hkd:∀t c F1,F.le F1->Mem.rep F1 t c->ai prog k (fst++([Value.agg c]).toArray++cap) F1 λr F'=>r=.bool (kd t)/\F1.le F'):
  ai prog 153 #[.agg v,sl.v,.func (.func k) fst cap] F λr F'=>r=.bool (decide (fE g kd l))/\F.le F':=by
 obtain ⟨c,n,t,s,p,lv,f,rfl,hs⟩:=hg;have et:=hs.t.len (by decide);have el:=hl.len (by decide);refine QW ?_;unfold KV;refine fresh λb1 F1 l1 q1 _=> ?_;replace hs:=hs.le l1;replace hl:=hl.le l1;have no:∀{F':PH},F1.le F'->¬fE g kd l->(Value.bool false=.bool (decide (fE g kd l))/\F.le F'):=λ{F'} l h=>⟨by rw [decide_eq_false h],aa l1 l⟩;refine bz (vJ · sl (.func (.func k) fst cap) b1 _) l.length (λj F'=>F1.le F'/\(∀n∈l.take j,0<=n/\∃t,g.toks[n.toNat]? =some t/\kd t=true)/\∀(i:Nat) (x y:Int),i+1<j->l[i]? =some x->l[i+1]? =some y->x<y)
  ⟨aq _,by simp,λi x y h=>by omega⟩ ?_
 rintro j F2 N hj ⟨l2,i1,i2⟩ next;unfold vJ;refine ⟨λhlt=> ?_,λhge=> ?_⟩
 ·have hlt:j<l.length:=by omega
  refine ixc (hl.le l2) (by decide) (by omega) (by omega) λa cc x hx hr hc=> ?_;rw [N4] at hx hr;rw [show cc= #[vi x] from hc] at hr;have hxm:x∈l:=UY hx;have p1:=l2 _ _ q1;have noR:¬(0<=x/\x<g.toks.length)->(Value.bool false=.bool (decide (fE g kd l))/\F.le F2):=λh=>no l2 λhp=>by obtain ⟨h0,t',ht,_⟩:=hp.2.1 x hxm;have:=(N6.1 ht).1;exact h ⟨h0,by omega⟩
  refine ⟨_,be hr rfl,λh=>noR (by omega),λx0=>⟨_,ld p1 rfl,λh=>noR (by omega),λx1=> ?_⟩⟩;have body:(∀y,0<j->l[j - 1]? =some y->y<x)->∃v_41:Sl,F2.cell (Addr.mk b1 3 none)=some (Sl.v v_41)/\
   ∃a43_:Addr,v_41.base=some a43_/\0<=x/\x<(v_41.len:Int)/\
   ∃v_44:Γ,v_44.size=7/\F2.row (Addr.add a43_ (Int.toNat x*7)) v_44/\
   ∃(k45:Nat) (fst45 cap45:Γ),Value.func (.func k) fst cap=.func (.func k45) fst45 cap45/\aE prog k45=true/\ai prog k45 (fst45++([(.agg v_44)]).toArray++cap45) F2 λv F'=>∃v_45:Bool,v=(.bool v_45)/\
   (((!v_45)=true->(Value.bool false=.bool (decide (fE g kd l))/\F.le F'))/\
   ((!v_45)=false->pK N sl (.func (.func k) fst cap) b1 (j:Int) (λr F'=>r=.bool (decide (fE g kd l))/\F.le F') F')):=λhprev=>by
   refine ⟨_,ld p1 rfl,ixc (hs.t.le l2) (by decide) (by omega) (by omega) λa cc y hy hr hc=>⟨cc,Mem.len hc,hr,k,fst,cap,rfl,hk,?_⟩⟩;refine (hkd y cc F2 (aa l1 l2) hc).mono ?_;rintro _ F3 ⟨rfl,l3⟩;refine ⟨_,rfl,λh=>no (aa l2 l3) λhp=> ?_,λh=> ?_⟩
   ·obtain ⟨h0,t',ht,hk'⟩:=hp.2.1 x hxm;rw [hy] at ht;cases ht;rw [hk'] at h;cases h
   ·unfold pK;rw [aI hlt (by omega)];refine next _ hlt ⟨aa l2 l3,λm hm=> ?_,λi u w hi hu hw=> ?_⟩
    ·rw [bu hx] at hm;rcases UX.1 hm with hm|hm
     ·exact i1 m hm
     ·rw [UU.1 hm];exact ⟨by omega,y,hy,by simpa using h⟩
    ·by_cases e:i+1<j
     ·exact i2 i u w e hu hw
     ·have e:j=i+1:=by omega
      subst e;rw [hx] at hw;cases hw;exact hprev u (by omega) hu
  refine ⟨λhj0=> ?_,λhj0=>body λy h=>by omega⟩;have hj0:0<j:=by omega
  have ew:IntKind.i64.wrap ((j:Int) - 1)=((j - 1:Nat):Int):=by rw [aS (by omega) (by omega)];omega
  rw [ew];refine ixc (hl.le l2) (by decide) (by omega) (by omega) λa cc y hy hr hc=> ?_;rw [N4] at hy hr;rw [show cc= #[vi y] from hc] at hr;refine ⟨_,be (by rw [N4];exact hr) rfl,λh=>no l2 λhp=> ?_,λh=>body λz _ hz=> ?_⟩
  ·have:=hp.2.2 (j - 1) y x hy (by rw [show j - 1+1=j by omega];exact hx);omega
  ·rw [hy] at hz;cases hz;omega
 ·have e:j=l.length:=by omega
  subst e;rw [U7] at i1;unfold BT;refine ⟨?_,aa l1 l2⟩;congr 1;rw [U3,decide_eq_true_eq,decide_eq_true_eq];constructor
  ·intro h;refine ⟨λe=>by rw [e] at el;simp at el;omega,i1,λi x y hx hy=>i2 i x y ?_ hx hy⟩;exact (N6.1 hy).1
  ·intro h;have:l.length≠0:=λe=>h.1 (Vc e);omega
def od (g:Gr) (x:Fi):Prop:=0<=x.par/\0<=x.ch/\0<=x.pos/\∃p q,g.prods[x.par.toNat]? =some p/\g.prods[x.ch.toNat]? =some q/\p.right[x.pos.toNat]? =some ⟨false,q.left⟩
open Classical in
theorem CM {F:PH} {v w:Γ} {g:Gr} {x:Fi} (hg:GV F v g) (hx:Mem.rep F x w):ai prog 152 #[.agg v,.agg w] F λr F'=>r=.bool (decide (od g x))/\F.le F':=by
 obtain ⟨c,n,t,s,p,lv,f,rfl,hs⟩:=hg;obtain ⟨tt,nn,rfl,_,_⟩:=hx;have ep:=hs.p.len (by decide);refine QV ?_;unfold KU;refine fresh λb2 F1 l1 q1 _=> ?_;refine fresh λb3 F2 l2 q2 _=> ?_;replace q1:=l2 _ _ q1;replace l1:=aa l1 l2;have hp:=hs.p.le l1;have no:¬od g x->(Value.bool false=.bool (decide (od g x))/\F.le F2):=λh=>⟨by rw [decide_eq_false h],l1⟩;have noR:¬(x.par<g.prods.length/\x.ch<g.prods.length)->¬od g x:=λh hq=>by obtain ⟨_,_,_,p',q',hp',hq',_⟩:=hq;have:=(N6.1 hp').1;have:=(N6.1 hq').1;exact h (by omega)
 refine ⟨_,ld q2 rfl,λh=>no λhq=>by have:=hq.1;omega,λk1=>⟨_,ld q2 rfl,_,ld q1 rfl,λh=>no (noR (by omega)),λk2=>⟨_,ld q2 rfl,λh=>no λhq=>by have:=hq.2.1;omega,λk3=>⟨_,ld q2 rfl,_,ld q1 rfl,λh=>no (noR (by omega)),λk4=>⟨_,ld q1 rfl,_,ld q2 rfl,?_⟩⟩⟩⟩⟩;refine ixc hp (by decide) (by omega) (by omega) λa cc y hy hr hc=> ?_;obtain ⟨rr,n2,l2',rfl,h1,_,_⟩:=hc;have er:=h1.len (by decide);have noA:¬x.pos<y.right.length->¬od g x:=λh hq=>by obtain ⟨_,_,_,p',q',hp',hq',hs'⟩:=hq;rw [hy] at hp';cases hp';have:=(N6.1 hs').1;omega
 refine ⟨_,dc hr rfl,_,ld q2 rfl,λk5=>⟨_,ld q2 rfl,λk6=>⟨_,ld q2 rfl,?_⟩,λk6=>no (noA (by omega))⟩,λk5=>no λhq=>k5 hq.2.2.1⟩;refine ixc h1 (by decide) (by omega) (by omega) λa cc z hz hr hc=> ?_;rw [show cc=z.arr from hc] at hr;refine ⟨_,rfl,hr,_,ld q1 rfl,_,ld q2 rfl,ixc hp (by decide) (by omega) (by omega) λa cc u hu hr hc=> ?_⟩;obtain ⟨r3,n3,l3',rfl,_,_,_⟩:=hc;refine ⟨_,dc hr rfl,_,λF=>NS z ⟨false,u.left⟩ F,?_,l1⟩;congr 1;rw [U3,decide_eq_true_eq,decide_eq_true_eq];constructor
 ·rintro rfl;exact ⟨by omega,by omega,by omega,y,u,hy,hu,hz⟩
 ·rintro ⟨_,_,_,p',q',hp',hq',hs'⟩;rw [hy] at hp';cases hp';rw [hu] at hq';cases hq';rw [hz] at hs';exact Vl hs'
def bZ (g:Gr) (x:Fi):Prop:=ij x.cond g.conds.length/\
  (((x.k=1\/x.k=2)/\od g x/\x.left=0/\x.tok=0/\x.toks=[])\/
   ((x.k=3\/x.k=4)/\(0<=x.left/\x.left<g.nons.length/\fE g (λt=>decide (t.cls=0)) x.toks)/\x.par=0/\x.pos=0/\x.ch=0/\x.tok=0)\/
   (x.k=5/\(fE g (λt=> !decide (t.lit=emp)) x.toks/\0<=x.tok/\∃t,g.toks[x.tok.toNat]? =some t/\t.cls=0/\t.lit=emp)/\x.par=0/\x.pos=0/\x.ch=0/\x.left=0))
theorem NM:aE prog 150=true:=by kernel_rfl
theorem NN:aE prog 151=true:=by kernel_rfl
theorem j9 {F:PH} {t:Tk} {c:Γ} (h:Mem.rep F t c):ai prog 150 #[.agg c] F λr F'=>r=.bool (decide (t.cls=0))/\F.le F':=by obtain ⟨p,n,rfl,_,_⟩:=h;refine QT ?_;unfold KR;exact fresh λb F1 l1 q1 _=>⟨_,ld q1 rfl,rfl,l1⟩
theorem kf {F:PH} {t:Tk} {c:Γ} (h:Mem.rep F t c):ai prog 151 #[.agg c] F λr F'=>r=.bool (!decide (t.lit=emp))/\F.le F':=by obtain ⟨p,n,rfl,_,_⟩:=h;refine QU ?_;unfold KT;exact fresh λb F1 l1 q1 _=>⟨_,ld q1 rfl,by rw [qv],l1⟩
abbrev qt (a0 a1 a2 a3 a4 a5:Int) (s6 s7:Sl) (a8:Int):Γ:= #[vi a0,vi a1,vi a2,vi a3,vi a4,vi a5,s6.v,s7.v,vi a8]
open Classical in
theorem lz {F:PH} {v:Γ} {g:Gr} (hg:GV F v g) (hl:dP g=false) (hz:Sz g):ai prog 94 #[.agg v] F λr F'=>r=vi (if ∀x∈g.fils,bZ g x then 0 else 53)/\F.le F':=by
 obtain ⟨_,_,hlf,_,_,_,_⟩:=gQ hl;have hg0:=hg;obtain ⟨c,n,t,s,p,lv,f,rfl,hs⟩:=hg;have ec:=hs.c.len (by decide);have et:=hs.t.len (by decide);have es:=hs.s.len (by decide);have ef:=hs.f.len (by decide);refine T3 ?_;unfold QG;refine fresh λb1 F1 l1 q1 _=> ?_;replace hs:=hs.le l1;replace hg0:=hg0.le l1;refine ⟨_,ld q1 rfl,?_⟩;refine bz (zN · b1 f _) g.fils.length (λk F'=>∃G,F1.le G/\St G F' []/\∀x∈g.fils.take k,bZ g x) ⟨F1,aq _,.start _,by simp⟩ ?_;rintro k F3 N hk ⟨G3,l3,h,hi⟩ next;unfold zN;refine ⟨λhlt=> ?_,λhge=> ?_⟩
 ·have hlt:k<g.fils.length:=by omega
  refine h.ix (hs.f.le l3) (by decide) (by omega) (by omega) λa cc x hx hr hc=> ?_;rw [N4] at hx;have hxm:x∈g.fils:=UY hx;have hxl:=hz.f x hxm;have hst:=Mem.st hc;have hc0:=hc;obtain ⟨tt,nn,rfl,h1,h2⟩:=hc;have ett:=h1.len (by decide);refine ⟨x.arr tt nn,rfl,hr,?_⟩;refine h.var hst λb6 G4 F4 l4 q6 h=> ?_;have bad:∀{F'},G3.le F'->¬bZ g x->(vi 53=vi (if ∀x∈g.fils,bZ g x then 0 else 53)/\F.le F'):=λ{F'} l hn=>⟨by rw [if_neg (λh=>hn (h x hxm))],aa l1 (aa l3 l)⟩;refine ⟨#[nn.v,vi x.cond.2],rfl,kD (h.le _ _ q6) rfl,_,ld (h.le _ _ (l4 _ _ (l3 _ _ q1))) rfl,?_⟩;dsimp only;rw [ec];refine h.runv (gS (d:=x.cond) (DV.mk (h2.le l4))) λG5 F5 l5 h=>⟨_,rfl,_,rfl,ac (h.le _ _ (l5 _ _ q6)),?_⟩;have l35:=aa l4 l5;replace q6:=l5 _ _ q6;refine h.new λb8 F6 h=> ?_;refine h.put0 (w':=x.arr tt nn) rfl rfl hst λF7 h=> ?_;refine h.set0 (w':=qt 0 x.par x.pos x.ch x.left x.tok tt nn x.cond.2) (by simp) rfl λF8 h=> ?_;refine h.putR0 (w':=qt 0 x.par x.pos x.ch x.left x.tok tt Sl.nil 0) rfl (by simp [ak]) (by simp) rfl λF9 h=> ?_;have j2:∀(fine:Bool) (a1 a2 a3 a4 a5:Int) (s6:Sl) G9 F9,G3.le G9->St G9 F9 [pt b8 (.cells (qt 0 a1 a2 a3 a4 a5 s6 Sl.nil 0) 156)]->
    ((fine=true/\a1=0/\a2=0/\a3=0/\a4=0/\a5=0/\s6.len=0)↔bZ g x)->
    fG N b1 b8 f (k:Int) fine (λr F'=>r=vi (if ∀x∈g.fils,bZ g x then 0 else 53)/\F.le F') F9:=λfine a1 a2 a3 a4 a5 s6 G9 F9 l9 h hiff=>by
   unfold fG;have l:=aa l9 h.le
   refine ⟨λhb=>bad l λhn=>(by rw [(hiff.2 hn).1] at hb;cases hb),λhb=>⟨_,h.ld0 rfl,λe=>bad l λhn=>e (hiff.2 hn).2.1,λe1=>⟨_,h.ld0 rfl,λe=>bad l λhn=>e (hiff.2 hn).2.2.1,λe2=>⟨_,h.ld0 rfl,λe=>bad l λhn=>e (hiff.2 hn).2.2.2.1,λe3=>
    ⟨_,h.ld0 rfl,λe=>bad l λhn=>e (hiff.2 hn).2.2.2.2.1,λe4=>⟨_,h.ld0 rfl,λe=>bad l λhn=>e (hiff.2 hn).2.2.2.2.2.1,λe5=>⟨_,h.ld0 rfl,λe=>bad l λhn=>by have:=(hiff.2 hn).2.2.2.2.2.2;omega,λe6=> ?_⟩⟩⟩⟩⟩⟩⟩
   rw [aI hlt (by omega)];refine next _ hlt ⟨G9,aa l3 l9,h.tail,λy hy=> ?_⟩;rw [bu hx] at hy;rcases UX.1 hy with hy|hy
   ·exact hi y hy
   ·rw [UU.1 hy];exact hiff.1 ⟨by simpa using hb,Classical.not_not.1 e1,Classical.not_not.1 e2,Classical.not_not.1 e3,Classical.not_not.1 e4,Classical.not_not.1 e5,by omega⟩
  have hF:=cM (d:=x.cond) (n:=g.conds.length);generalize qw x.cond g.conds.length=fit at*;have nil6:tt.len=0↔x.toks=[]:=by rw [ett];exact V1
  refine ⟨_,ld (h.le _ _ q6) rfl,?_⟩;have j4:∀(b:Bool),(b=true↔x.k=3\/x.k=4)->¬(x.k=1\/x.k=2)->vF N b1 b6 fit b8 f (k:Int) x.k b (λr F'=>r=vi (if ∀x∈g.fils,bZ g x then 0 else 53)/\F.le F') F9:=λb hb hn12=>by
   unfold vF;refine ⟨λhbt=> ?_,λhbf=>⟨λk5=> ?_,λk5=> ?_⟩⟩
   ·have hk:=hb.1 hbt;refine h.set0 (w':=qt 0 x.par x.pos x.ch 0 x.tok tt Sl.nil 0) (by simp) rfl λF10 h=> ?_;refine h.set0 (w':=qt 0 x.par x.pos x.ch 0 x.tok Sl.nil Sl.nil 0) (by simp) rfl λF11 h=> ?_;have bad':¬(0<=x.left/\x.left<g.nons.length/\fE g (λt=>decide (t.cls=0)) x.toks)->¬bZ g x:=λhn hok=>by
     rcases hok.2 with h'|h'|h'
     ·omega
     ·exact hn h'.2.1
     ·omega
    refine ⟨λhft=>⟨_,ld (h.le _ _ q6) rfl,λk1=>⟨_,ld (h.le _ _ q6) rfl,_,ld (h.le _ _ (l35 _ _ (l3 _ _ q1))) rfl,λk2=>⟨_,rfl,ac (h.le _ _ (l35 _ _ (l3 _ _ q1))),_,ld (h.le _ _ q6) rfl,?_⟩,λk2=> ?_⟩,λk1=> ?_⟩,λhff=> ?_⟩
    ·refine h.runv (jk (hg0.le (aa l3 l35)) (h1.le l35) hxl NM (λt=>decide (t.cls=0)) λt c F1 _ hc=>j9 hc) λG10 F10 l10 h=>⟨_,rfl,?_⟩;refine j2 _ _ _ _ _ _ _ G10 F10 (aa l35 l10) h ?_;rw [decide_eq_true_eq];constructor
     ·rintro ⟨ha,e1,e2,e3,_,e5,_⟩;exact ⟨hF.1 hft,.inr (.inl ⟨hk,⟨k1,by omega,ha⟩,e1,e2,e3,e5⟩)⟩
     ·intro hok;rcases hok.2 with h'|h'|h'
      ·omega
      ·exact ⟨h'.2.1.2.2,h'.2.2.1,h'.2.2.2.1,h'.2.2.2.2.1,rfl,h'.2.2.2.2.2,rfl⟩
      ·omega
    ·exact j2 _ _ _ _ _ _ _ G5 F11 l35 h ⟨λh=>(by cases h.1),λhok=>absurd hok (bad' λh=>k2 (by omega))⟩
    ·exact j2 _ _ _ _ _ _ _ G5 F11 l35 h ⟨λh=>(by cases h.1),λhok=>absurd hok (bad' λh=>k1 h.1)⟩
    ·exact j2 _ _ _ _ _ _ _ G5 F11 l35 h ⟨λh=>(by cases h.1),λhok=>by rw [hF.2 hok.1] at hff;cases hff⟩
   ·refine h.set0 (w':=qt 0 x.par x.pos x.ch x.left 0 tt Sl.nil 0) (by simp) rfl λF10 h=> ?_;refine h.set0 (w':=qt 0 x.par x.pos x.ch x.left 0 Sl.nil Sl.nil 0) (by simp) rfl λF11 h=> ?_;have bad':¬(fE g (λt=> !decide (t.lit=emp)) x.toks/\0<=x.tok/\∃t,g.toks[x.tok.toNat]? =some t/\t.cls=0/\t.lit=emp)->¬bZ g x:=λhn hok=>by
     rcases hok.2 with h'|h'|h'
     ·omega
     ·omega
     ·exact hn h'.2.1
    have j5f:∀G10 F10,G3.le G10->St G10 F10 [pt b8 (.cells (qt 0 x.par x.pos x.ch x.left 0 Sl.nil Sl.nil 0) 156)]->¬bZ g x->kR N b1 b6 b8 f (k:Int) false (λr F'=>r=vi (if ∀x∈g.fils,bZ g x then 0 else 53)/\F.le F') F10:=λG10 F10 l10 h hn=>by unfold kR;exact ⟨λh=>(by cases h),λ_=>j2 _ _ _ _ _ _ _ G10 F10 l10 h ⟨λh=>(by cases h.1),λhok=>absurd hok hn⟩⟩
    refine ⟨λhft=>⟨_,rfl,ac (h.le _ _ (l35 _ _ (l3 _ _ q1))),_,ld (h.le _ _ q6) rfl,?_⟩,λhff=>j5f G5 F11 l35 h λhok=>by rw [hF.2 hok.1] at hff;cases hff⟩;refine h.runv (jk (hg0.le (aa l3 l35)) (h1.le l35) hxl NN (λt=> !decide (t.lit=emp)) λt c F1 _ hc=>kf hc) λG10 F10 l10 h=>⟨_,rfl,λha=> ?_,λha=>j5f G10 F10 (aa l35 l10) h (bad' λh=>of_decide_eq_false ha h.1)⟩;have ha:=of_decide_eq_true ha;replace l35:=aa l35 l10;replace q6:=l10 _ _ q6;have p1:=l35 _ _ (l3 _ _ q1);refine ⟨_,ld (h.le _ _ q6) rfl,λk1=>⟨_,ld (h.le _ _ q6) rfl,_,ld (h.le _ _ p1) rfl,?_⟩,λk1=>j5f G10 F10 l35 h (bad' λh=>k1 h.2.1)⟩;by_cases k2:x.tok<(t.len:Int)
    ·dsimp only;rw [decide_eq_true k2];unfold kR;refine ⟨λ_=>⟨_,ld (h.le _ _ p1) rfl,_,ld (h.le _ _ q6) rfl,h.ix (hs.t.le (aa l3 l35)) (by decide) k1 k2 λa cc y hy hr hc=>⟨cc,Mem.len hc,hr,?_⟩⟩,λh=>(by cases h)⟩;refine h.runv (j9 hc) λG11 F11 l11 h=>⟨_,rfl,λk3=>⟨_,ld (h.le _ _ (l11 _ _ p1)) rfl,_,ld (h.le _ _ (l11 _ _ q6)) rfl,h.ix (hs.t.le (aa l3 (aa l35 l11))) (by decide) k1 k2 λa cc z hz hr hc=>⟨cc,Mem.len hc,hr,?_⟩⟩,λk3=> ?_⟩
     ·rw [hy] at hz;cases hz;refine h.runv (kf hc) λG12 F12 l12 h=>⟨_,rfl,?_⟩;refine j2 _ _ _ _ _ _ _ G12 F12 (aa l35 (aa l11 l12)) h ?_;rw [Bool.not_not,decide_eq_true_eq];constructor
      ·rintro ⟨hlit,e1,e2,e3,e4,_⟩;exact ⟨hF.1 hft,.inr (.inr ⟨k5,⟨ha,k1,y,hy,of_decide_eq_true k3,hlit⟩,e1,e2,e3,e4⟩)⟩
      ·intro hok;rcases hok.2 with h'|h'|h'
       ·omega
       ·omega
       ·obtain ⟨_,_,u,hu,_,hul⟩:=h'.2.1;rw [hy] at hu;cases hu;exact ⟨hul,h'.2.2.1,h'.2.2.2.1,h'.2.2.2.2.1,h'.2.2.2.2.2,rfl,rfl⟩
     ·refine j2 _ _ _ _ _ _ _ G11 F11 (aa l35 l11) h ⟨λh=>(by cases h.1),λhok=>absurd hok (bad' λh=> ?_)⟩;obtain ⟨_,_,u,hu,hul,_⟩:=h;rw [hy] at hu;cases hu;exact of_decide_eq_false k3 hul
    ·dsimp only;rw [decide_eq_false k2];refine j5f G10 F10 l35 h (bad' λh=> ?_);obtain ⟨_,_,u,hu,_,_⟩:=h;have:=(N6.1 hu).1;omega
   ·refine j2 _ _ _ _ _ _ _ G5 F9 l35 h ⟨λh=>(by cases h.1),λhok=> ?_⟩;have:¬(x.k=3\/x.k=4):=λh=>by rw [hb.2 h] at hbf;cases hbf
    rcases hok.2 with h'|h'|h'<;>omega
  have j3:∀(b:Bool),(b=true↔x.k=1\/x.k=2)->vG N b1 b6 fit b8 f (k:Int) x.k b (λr F'=>r=vi (if ∀x∈g.fils,bZ g x then 0 else 53)/\F.le F') F9:=λb hb=>by
   unfold vG;refine ⟨λhbt=> ?_,λhbf=> ?_⟩
   ·have hk:=hb.1 hbt;refine h.set0 (w':=qt 0 0 x.pos x.ch x.left x.tok tt Sl.nil 0) (by simp) rfl λF10 h=> ?_;refine h.set0 (w':=qt 0 0 0 x.ch x.left x.tok tt Sl.nil 0) (by simp) rfl λF11 h=> ?_;refine h.set0 (w':=qt 0 0 0 0 x.left x.tok tt Sl.nil 0) (by simp) rfl λF12 h=> ?_;refine ⟨λhft=>⟨_,rfl,ac (h.le _ _ (l35 _ _ (l3 _ _ q1))),_,rfl,ac (h.le _ _ q6),?_⟩,λhff=> ?_⟩
    ·refine h.runv (CM (hg0.le (aa l3 l35)) (Mem.le l35 hc0)) λG10 F10 l10 h=>⟨_,rfl,?_⟩;refine j2 _ _ _ _ _ _ _ G10 F10 (aa l35 l10) h ?_;rw [decide_eq_true_eq];constructor
     ·rintro ⟨ha,_,_,_,e4,e5,e6⟩;exact ⟨hF.1 hft,.inl ⟨hk,ha,e4,e5,nil6.1 e6⟩⟩
     ·intro hok;rcases hok.2 with h'|h'|h'
      ·exact ⟨h'.2.1,rfl,rfl,rfl,h'.2.2.1,h'.2.2.2.1,nil6.2 h'.2.2.2.2⟩
      ·omega
      ·omega
    ·exact j2 _ _ _ _ _ _ _ G5 F12 l35 h ⟨λh=>(by cases h.1),λhok=>by rw [hF.2 hok.1] at hff;cases hff⟩
   ·have hn:¬(x.k=1\/x.k=2):=λh=>by rw [hb.2 h] at hbf;cases hbf
    exact ⟨λe=>j4 _ (by rw [decide_eq_true_eq];omega) hn,λe=>j4 _ (by rw [decide_eq_true_eq];omega) hn⟩
  exact ⟨λe=>j3 _ (by rw [decide_eq_true_eq];omega),λe=>j3 _ (by rw [decide_eq_true_eq];omega)⟩
 ·have e:k=g.fils.length:=by omega
  subst e;rw [U7] at hi;unfold Gh;exact ⟨by rw [if_pos hi],aa l1 (aa l3 h.le)⟩
end Go.Proofs.YtcemhghkipgdiaaGreatDoor
