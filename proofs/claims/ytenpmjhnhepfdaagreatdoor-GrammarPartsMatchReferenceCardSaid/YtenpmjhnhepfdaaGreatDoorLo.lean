/-
  PartsMatchReference: the walk.
-/
import Derived.Test.YtenpmjhnhepfdaaGreatDoorLg
import Derived.Test.YtenpmjhnhepfdaaGreatDoorEr
import Derived.Test.YtenpmjhnhepfdaaGreatDoorEx
import Derived.Test.YtenpmjhnhepfdaaGreatDoorTa
namespace Go.Proofs.YtenpmjhnhepfdaaGreatDoor
open Go Go.Proofs.Tryz Tr
set_option maxRecDepth 10000
section
variable {F G:PH} {s:Sl} {l:List Int}
theorem tu (x:ByteArray):1<=(fc x).length:=by unfold fc;rw [List.length_cons];omega
theorem GW {v:Array Value} {t:Tk} (ht:Mem.rep G t v) (h:Ou G F s l) (hl:(l++rS t).length<=400000000000):ae prog 139 #[s.v,.agg v] F (PR G (l++rS t)):=by
 obtain ⟨p,n,rfl,hp,hn⟩:=ht
 have ep:=hp.len (by decide)
 unfold rS at hl ⊢
 simp only [<- List.append_assoc] at hl ⊢
 refine SP ?_
 unfold L3
 refine St.newG h fun b3 G1 F1 l1 q3 _ h=>⟨_,ld (h.le _ _ q3) rfl,?_⟩
 refine (fH h (by simp only [List.length_append] at hl ⊢;omega)).mono ?_
 rintro _ F2 ⟨s2,G2,rfl,l2,h⟩
 have q2:=l2 _ _ q3
 refine ⟨_,rfl,_,ld (h.le _ _ q2) rfl,?_⟩
 refine bH h [t.cls] (by simp only [List.length_append] at hl ⊢;omega) fun s3 G3 F3 l3 h=>⟨_,ld (h.le _ _ (l3 _ _ q2)) rfl,?_⟩
 refine (fH h (by simp only [List.length_append] at hl ⊢;omega)).mono ?_
 rintro _ F4 ⟨s4,G4,rfl,l4,h⟩
 have q4:=l4 _ _ (l3 _ _ q2)
 have l14:=aa l1 (aa l2 (aa l3 l4))
 refine ⟨_,rfl,_,ld (h.le _ _ q4) rfl,?_⟩
 dsimp only
 rw [ep]
 refine bH h [(t.pat.length:Int)] (by simp only [List.length_append] at hl ⊢;omega) fun s5 G5 F5 l5 h=> ?_
 have q5:=l5 _ _ q4
 have l15:=aa l14 l5
 refine je t.pat wNd (fun _=>by show 1<=5;decide) (vD · b3 _) h (by simp only [List.length_append] at hl ⊢;omega) fun k G6 F6 s6 l' N hk l6 h next fin=> ?_
 have q6:=l6 _ _ q5
 have l16:=aa l15 l6
 unfold vD
 refine ⟨_,ld (h.le _ _ q6) rfl,fun hlt=> ?_,fun hge=> ?_⟩
 ·have hlt:k<t.pat.length:=by omega
  refine ⟨_,ld (h.le _ _ q6) rfl,h.ix (hp.le l16) (by decide) (by omega) (by omega) fun a c y hy hrow hc=> ?_⟩
  rw [Int.toNat_natCast] at hy
  obtain ⟨n1,n0,n2⟩:=next y hy
  refine ⟨c,Mem.len hc,hrow,?_⟩
  rw [show c=y.arr from hc]
  refine h.var (by simp [ai]) (fun b7 G7 F7 l7 q7 h=> ?_) rfl rfl
  refine ⟨_,ld (h.le _ _ q7) rfl,_,ld (h.le _ _ q7) rfl,_,ld (h.le _ _ q7) rfl,_,ld (h.le _ _ q7) rfl,_,ld (h.le _ _ q7) rfl,?_⟩
  refine bH h [y.k,y.lo,y.hi,y.a,y.b] n1 fun s8 G8 F8 l8 h=> ?_
  rw [aB hlt (by omega)]
  exact n2 _ _ _ (aa l7 l8) h
 ·unfold BX
  rw [fin (by omega)] at h
  refine ⟨_,ld (h.le _ _ q6) rfl,#[n.v,vi t.cond.2],rfl,dP (h.le _ _ q6) rfl,?_⟩
  refine (fH h (by simp only [List.length_append] at hl ⊢;omega)).mono ?_
  rintro _ F7 ⟨s7,G7,rfl,l7,h⟩
  refine ⟨_,rfl,dP (h.le _ _ (l7 _ _ q6)) rfl,?_⟩
  refine (jf (d:=t.cond) (DV.mk (hn.le (aa l16 l7))) h hl).mono ?_
  rintro _ F8 ⟨s8,G8,rfl,l8,h⟩
  exact ⟨_,rfl,s8,G8,rfl,aa l16 (aa l7 l8),h⟩
theorem rz (b:Bool) (F:PH):ae prog 196 #[.bool b] F fun r F'=>r=vi (wF b)/\F'=F:=by
 refine S7 ?_
 unfold Mi
 exact ⟨fun e=>⟨by rw [e];rfl,rfl⟩,fun e=>⟨by rw [e];rfl,rfl⟩⟩
theorem Dm {v:Array Value} {p:Pr} (hp:Mem.rep G p v) (h:Ou G F s l) (hl:(l++wPr p).length<=400000000000):ae prog 140 #[s.v,.agg v] F (PR G (l++wPr p)):=by
 obtain ⟨r,n,y,rfl,hr,hn,hy⟩:=hp
 have er:=hr.len (by decide)
 have ey:=hy.len (by decide)
 unfold wPr at hl ⊢
 simp only [<- List.append_assoc] at hl ⊢
 refine SQ ?_
 unfold L4
 refine St.newG h fun b3 G1 F1 l1 q3 _ h=>⟨_,ld (h.le _ _ q3) rfl,?_⟩
 refine (fH h (by simp only [List.length_append] at hl ⊢;omega)).mono ?_
 rintro _ F2 ⟨s2,G2,rfl,l2,h⟩
 have q2:=l2 _ _ q3
 refine ⟨_,rfl,_,ld (h.le _ _ q2) rfl,_,ld (h.le _ _ q2) rfl,?_⟩
 dsimp only
 rw [er]
 refine bH h [p.left,(p.right.length:Int)] (by simp only [List.length_append] at hl ⊢;omega) fun s5 G5 F5 l5 h=> ?_
 have q5:=l5 _ _ q2
 have l15:=aa l1 (aa l2 l5)
 refine je p.right wSy (fun _=>by show 1<=2;decide) (vF · b3 _) h (by simp only [List.length_append] at hl ⊢;omega) fun k G6 F6 s6 l' N hk l6 h next fin=> ?_
 have q6:=l6 _ _ q5
 have l16:=aa l15 l6
 unfold vF
 refine ⟨_,ld (h.le _ _ q6) rfl,fun hlt=> ?_,fun hge=> ?_⟩
 ·have hlt:k<p.right.length:=by omega
  refine ⟨_,ld (h.le _ _ q6) rfl,h.ix (hr.le l16) (by decide) (by omega) (by omega) fun a c x hx hrow hc=> ?_⟩
  rw [Int.toNat_natCast] at hx
  obtain ⟨n1,n0,n2⟩:=next x hx
  rw [show c=x.arr from hc] at hrow
  refine ⟨_,aF hrow rfl,_,ld (h.le _ _ q6) rfl,h.ix (hr.le l16) (by decide) (by omega) (by omega) fun a2 c2 x2 hx2 hrow2 hc2=> ?_⟩
  rw [Int.toNat_natCast,hx] at hx2
  obtain rfl:=Option.some.inj hx2
  rw [show c2=x.arr from hc2] at hrow2
  refine ⟨_,aD hrow2 rfl,?_⟩
  refine (rz x.t F6).mono ?_
  rintro _ F7 ⟨rfl,rfl⟩
  refine ⟨_,rfl,aD hrow2 rfl,ld (h.le _ _ q6) rfl,ld (h.le _ _ q6) rfl,?_⟩
  refine bH h [wF x.t,x.i] n1 fun s8 G8 F8 l8 h=> ?_
  refine ⟨ld (h.le _ _ (l8 _ _ q6)) rfl,ld (h.le _ _ (l8 _ _ q6)) rfl,?_⟩
  rw [aB hlt (by omega)]
  exact n2 _ _ _ l8 h
 ·unfold BZ
  rw [fin (by omega)] at h
  refine ⟨#[n.v,vi p.cond.2],rfl,dP (h.le _ _ q6) rfl,?_⟩
  refine (jf (d:=p.cond) (DV.mk (hn.le l16)) h (by simp only [List.length_append] at hl ⊢;omega)).mono ?_
  rintro _ F7 ⟨s7,G7,rfl,l7,h⟩
  have q7:=l7 _ _ q6
  have l17:=aa l16 l7
  refine ⟨_,rfl,_,ld (h.le _ _ q7) rfl,_,ld (h.le _ _ q7) rfl,_,ld (h.le _ _ q7) rfl,?_⟩
  refine (rz p.brk F7).mono ?_
  rintro _ F8 ⟨rfl,rfl⟩
  refine ⟨_,rfl,ld (h.le _ _ q7) rfl,ld (h.le _ _ q7) rfl,?_⟩
  rw [ey]
  refine bH h [wF p.brk,IntKind.i64.wrap (p.rank+1),(p.lay.length:Int)] (by simp only [List.length_append] at hl ⊢;omega) fun s8 G8 F8 l8 h=> ?_
  have q8:=l8 _ _ q7
  have l18:=aa l17 l8
  refine ⟨ld (h.le _ _ q8) rfl,ld (h.le _ _ q8) rfl,?_⟩
  refine je p.lay wCn (fun _=>by show 1<=3;decide) (vE · b3 _) h (by simp only [List.length_append] at hl ⊢;omega) fun k G9 F9 s9 l' N hk l9 h next fin=> ?_
  have q9:=l9 _ _ q8
  have l19:=aa l18 l9
  have q:=fun {F':PH} (hl:G9.le F')=>ld (hl _ _ q9) (show (p.arr r n y)[7]? =some y.v from rfl)
  unfold vE
  refine ⟨_,q h.le,fun hlt=> ?_,fun hge=> ?_⟩
  ·have hlt:k<p.lay.length:=by omega
   have hr3:=hy.le l19
   refine ⟨_,q h.le,h.ix hr3 (by decide) (by omega) (by omega) fun a1 c1 x hx hrow hc=> ?_⟩
   rw [Int.toNat_natCast] at hx
   rw [show c1=x.arr from hc] at hrow
   refine ⟨x.k,aF hrow rfl,_,q h.le,h.ix hr3 (by decide) (by omega) (by omega) fun a2 c2 y2 hy2 hrow2 hc2=> ?_⟩
   rw [Int.toNat_natCast,hx] at hy2
   obtain rfl:=Option.some.inj hy2
   rw [show c2=x.arr from hc2] at hrow2
   refine ⟨x.a,aD hrow2 rfl,_,q h.le,h.ix hr3 (by decide) (by omega) (by omega) fun a3 c3 y3 hy3 hrow3 hc3=> ?_⟩
   rw [Int.toNat_natCast,hx] at hy3
   obtain rfl:=Option.some.inj hy3
   rw [show c3=x.arr from hc3] at hrow3
   obtain ⟨n1,n0,n2⟩:=next x hx
   refine ⟨x.b,aD hrow3 rfl,?_⟩
   refine bH h [x.k,x.a,x.b] n1 fun s4 G4 F4 l4 h=> ?_
   have q4:=q (aa l4 h.le)
   refine ⟨q4,q4,q4,?_⟩
   rw [aB hlt (by omega)]
   exact n2 _ _ _ l4 h
  ·unfold BY
   rw [fin (by omega)] at h
   refine ⟨_,ld (h.le _ _ q9) rfl,_,ld (h.le _ _ q9) rfl,_,ld (h.le _ _ q9) rfl,_,ld (h.le _ _ q9) rfl,_,ld (h.le _ _ q9) rfl,?_⟩
   refine (rz p.sco.o F9).mono ?_
   rintro _ F10 ⟨rfl,rfl⟩
   refine ⟨_,rfl,ld (h.le _ _ q9) rfl,ld (h.le _ _ q9) rfl,ld (h.le _ _ q9) rfl,ld (h.le _ _ q9) rfl,?_⟩
   refine bH h [wF p.sco.o,p.sco.d,p.sco.k,p.sco.u,p.sco.a] hl fun s4 G4 F4 l4 h=>⟨s4,G4,rfl,aa l19 l4,h⟩
end
section
variable {F G:PH} {s:Sl} {l:List Int}
theorem GX (t:Tk):1<=(rS t).length:=by unfold rS;simp only [List.length_append,List.length_singleton];omega
theorem Je (t:Pr):1<=(wPr t).length:=by unfold wPr;simp only [List.length_append,List.length_cons];omega
theorem Jf (t:Lv):1<=(wLv t).length:=by unfold wLv;simp only [List.length_append,List.length_singleton];omega
theorem Jg (t:Fi):1<=(wFi t).length:=by unfold wFi;simp only [List.length_append,List.length_cons];omega
theorem mS {v:Array Value} {g:Gr} (hg:GV F v g) (hl:(wGr g).length<=400000000000):ae prog 45 #[.agg v] F fun r F'=>∃s',r=Sl.v s'/\RdS F' s' 1 ((wGr g).map vi)/\F.le F':=by
 obtain ⟨c,n,t,s,p,y,f,rfl,hs⟩:=hg
 have ec:=hs.c.len (by decide)
 have et:=hs.t.len (by decide)
 have es:=hs.s.len (by decide)
 have ep:=hs.p.len (by decide)
 have ey:=hs.l.len (by decide)
 have ef:=hs.f.len (by decide)
 unfold wGr at hl ⊢
 refine UW ?_
 unfold Sh
 refine (St.start F).newG fun b1 G1 F1 l1 q1 _ h=>⟨_,ld (h.le _ _ q1) rfl,?_⟩
 dsimp only
 rw [ec]
 refine h.new fun b15 F2 h=> ?_
 have h:Ou G1 F2 _ [(g.conds.length:Int)]:=h.imp (A':=own (Sl.mk (some (Addr.mk b15 0 none)) 1 1) 3 1 ([(g.conds.length:Int)].map vi)) 0 rfl fun H _ hH=>B6 hH rfl
 refine je g.conds fc tu (zj · b1 _) h (by simp only [List.length_append] at hl ⊢;omega) fun k G2 F3 s2 l' N hk l2 h next fin=> ?_
 have q2:=l2 _ _ q1
 have l12:=aa l1 l2
 unfold zj
 refine ⟨_,ld (h.le _ _ q2) rfl,fun hlt=> ?_,fun hge=> ?_⟩
 ·have hlt:k<g.conds.length:=by omega
  refine ⟨_,ld (h.le _ _ q2) rfl,h.ix (hs.c.le l12) (by decide) (by omega) (by omega) fun a c' x hx hrow hc=> ?_⟩
  rw [Int.toNat_natCast] at hx
  obtain ⟨n1,n0,n2⟩:=next x hx
  rw [show c'= #[.string x] from hc] at hrow
  refine ⟨_,aF hrow rfl,?_⟩
  refine (fH h n1).mono ?_
  rintro _ F4 ⟨s4,G4,rfl,l4,h⟩
  refine ⟨_,rfl,?_⟩
  rw [aB hlt (by omega)]
  exact n2 _ _ _ l4 h
 rw [fin (by omega)] at h
 clear next fin
 unfold GT
 refine ⟨#[n.v,vi g.fam.2],rfl,dP (h.le _ _ q2) rfl,?_⟩
 refine (jf (d:=g.fam) (DV.mk (hs.n.le l12)) h (by simp only [List.length_append] at hl ⊢;omega)).mono ?_
 rintro _ F4 ⟨s4,G4,rfl,l4,h⟩
 have q4:=l4 _ _ q2
 refine ⟨_,rfl,_,ld (h.le _ _ q4) rfl,?_⟩
 dsimp only
 rw [et]
 refine bH h [(g.toks.length:Int)] (by simp only [List.length_append] at hl ⊢;omega) fun s5 G5 F5 l5 h=> ?_
 have q5:=l5 _ _ q4
 have l15:=aa l12 (aa l4 l5)
 refine je g.toks rS GX (zi · b1 _) h (by simp only [List.length_append] at hl ⊢;omega) fun k G6 F6 s6 l' N hk l6 h next fin=> ?_
 have q6:=l6 _ _ q5
 have l16:=aa l15 l6
 unfold zi
 refine ⟨_,ld (h.le _ _ q6) rfl,fun hlt=> ?_,fun hge=> ?_⟩
 ·have hlt:k<g.toks.length:=by omega
  refine ⟨_,ld (h.le _ _ q6) rfl,h.ix (hs.t.le l16) (by decide) (by omega) (by omega) fun a c' x hx hrow hc=> ?_⟩
  rw [Int.toNat_natCast] at hx
  obtain ⟨n1,n0,n2⟩:=next x hx
  refine ⟨_,Mem.len hc,hrow,?_⟩
  refine (GW hc h n1).mono ?_
  rintro _ F4 ⟨s4,G4,rfl,l4,h⟩
  refine ⟨_,rfl,?_⟩
  rw [aB hlt (by omega)]
  exact n2 _ _ _ l4 h
 rw [fin (by omega)] at h
 clear next fin
 unfold GR
 refine ⟨_,ld (h.le _ _ q6) rfl,?_⟩
 dsimp only
 rw [es]
 refine bH h [(g.nons.length:Int)] (by simp only [List.length_append] at hl ⊢;omega) fun s7 G7 F7 l7 h=> ?_
 have q7:=l7 _ _ q6
 have l17:=aa l16 l7
 refine je g.nons fc tu (zh · b1 _) h (by simp only [List.length_append] at hl ⊢;omega) fun k G8 F8 s8 l' N hk l8 h next fin=> ?_
 have q8:=l8 _ _ q7
 have l18:=aa l17 l8
 unfold zh
 refine ⟨_,ld (h.le _ _ q8) rfl,fun hlt=> ?_,fun hge=> ?_⟩
 ·have hlt:k<g.nons.length:=by omega
  refine ⟨_,ld (h.le _ _ q8) rfl,h.ix (hs.s.le l18) (by decide) (by omega) (by omega) fun a c' x hx hrow hc=> ?_⟩
  rw [Int.toNat_natCast] at hx
  obtain ⟨n1,n0,n2⟩:=next x hx
  rw [show c'= #[.string x] from hc] at hrow
  refine ⟨_,aF hrow rfl,?_⟩
  refine (fH h n1).mono ?_
  rintro _ F4 ⟨s4,G4,rfl,l4,h⟩
  refine ⟨_,rfl,?_⟩
  rw [aB hlt (by omega)]
  exact n2 _ _ _ l4 h
 rw [fin (by omega)] at h
 clear next fin
 unfold GQ
 refine ⟨_,ld (h.le _ _ q8) rfl,?_⟩
 dsimp only
 rw [ep]
 refine bH h [(g.prods.length:Int)] (by simp only [List.length_append] at hl ⊢;omega) fun s9 G9 F9 l9 h=> ?_
 have q9:=l9 _ _ q8
 have l19:=aa l18 l9
 refine je g.prods wPr Je (zg · b1 _) h (by simp only [List.length_append] at hl ⊢;omega) fun k Ga Fa sa l' N hk la h next fin=> ?_
 have qa:=la _ _ q9
 have l1a:=aa l19 la
 unfold zg
 refine ⟨_,ld (h.le _ _ qa) rfl,fun hlt=> ?_,fun hge=> ?_⟩
 ·have hlt:k<g.prods.length:=by omega
  refine ⟨_,ld (h.le _ _ qa) rfl,h.ix (hs.p.le l1a) (by decide) (by omega) (by omega) fun a c' x hx hrow hc=> ?_⟩
  rw [Int.toNat_natCast] at hx
  obtain ⟨n1,n0,n2⟩:=next x hx
  refine ⟨_,Mem.len hc,hrow,?_⟩
  refine (Dm hc h n1).mono ?_
  rintro _ F4 ⟨s4,G4,rfl,l4,h⟩
  refine ⟨_,rfl,?_⟩
  rw [aB hlt (by omega)]
  exact n2 _ _ _ l4 h
 rw [fin (by omega)] at h
 clear next fin
 unfold GP
 refine ⟨_,ld (h.le _ _ qa) rfl,_,ld (h.le _ _ qa) rfl,?_⟩
 dsimp only
 rw [ey]
 refine bH h [g.start,(g.lvs.length:Int)] (by simp only [List.length_append] at hl ⊢;omega) fun sb Gb Fb lb h=> ?_
 have qb:=lb _ _ qa
 have l1b:=aa l1a lb
 refine je g.lvs wLv Jf (ze · b1 _) h (by simp only [List.length_append] at hl ⊢;omega) fun k Gc Fc sc l' N hk lc h next fin=> ?_
 have qc:=lc _ _ qb
 have l1c:=aa l1b lc
 unfold ze
 refine ⟨_,ld (h.le _ _ qc) rfl,fun hlt=> ?_,fun hge=> ?_⟩
 ·have hlt:k<g.lvs.length:=by omega
  refine ⟨_,ld (h.le _ _ qc) rfl,h.ix (hs.l.le l1c) (by decide) (by omega) (by omega) fun a c' x hx hrow hc=> ?_⟩
  rw [Int.toNat_natCast] at hx
  obtain ⟨n1,n0,n2⟩:=next x hx
  unfold wLv at n1 n2
  simp only [<- List.append_assoc] at n1 n2
  refine ⟨_,Mem.len hc,hrow,?_⟩
  refine h.var (Mem.st hc) (fun b9 Gd Fd ldd qd h=> ?_) rfl (Mem.len hc)
  have hc:=Mem.le ldd hc
  obtain ⟨xp,xn,rfl,k1,k2⟩:=hc
  refine ⟨_,ld (h.le _ _ qd) rfl,?_⟩
  refine (tF k1 h (by simp only [List.length_append] at n1 ⊢;omega)).mono ?_
  rintro _ Fe ⟨se,Ge,rfl,le,h⟩
  have qe:=le _ _ qd
  refine ⟨_,rfl,_,ld (h.le _ _ qe) rfl,#[xn.v,vi x.cond.2],rfl,dP (h.le _ _ qe) rfl,?_⟩
  refine bH h [x.assoc] (by simp only [List.length_append] at n1 ⊢;omega) fun sg Gg Fg lg h=> ?_
  refine ⟨dP (h.le _ _ (lg _ _ qe)) rfl,?_⟩
  have lg2:=aa le lg
  refine (jf (d:=x.cond) (DV.mk (k2.le lg2)) h n1).mono ?_
  rintro _ F4 ⟨s4,G4,rfl,l4,h⟩
  refine ⟨_,rfl,?_⟩
  rw [aB hlt (by omega)]
  exact n2 _ _ _ (aa ldd (aa lg2 l4)) h
 rw [fin (by omega)] at h
 clear next fin
 unfold GO
 refine ⟨_,ld (h.le _ _ qc) rfl,?_⟩
 dsimp only
 rw [ef]
 refine bH h [(g.fils.length:Int)] (by simp only [List.length_append] at hl ⊢;omega) fun sd Gd Fd ldd h=> ?_
 have qd:=ldd _ _ qc
 have l1d:=aa l1c ldd
 refine je g.fils wFi Jg (zd · b1 _) h (by simp only [List.length_append] at hl ⊢;omega) fun k Ge Fe se l' N hk lee h next fin=> ?_
 have qe:=lee _ _ qd
 have l1e:=aa l1d lee
 unfold zd
 refine ⟨_,ld (h.le _ _ qe) rfl,fun hlt=> ?_,fun hge=> ?_⟩
 ·have hlt:k<g.fils.length:=by omega
  refine ⟨_,ld (h.le _ _ qe) rfl,h.ix (hs.f.le l1e) (by decide) (by omega) (by omega) fun a c' x hx hrow hc=> ?_⟩
  rw [Int.toNat_natCast] at hx
  obtain ⟨n1,n0,n2⟩:=next x hx
  unfold wFi at n1 n2
  simp only [<- List.append_assoc] at n1 n2
  refine ⟨_,Mem.len hc,hrow,?_⟩
  refine h.var (Mem.st hc) (fun b9 Gf Ff lf qf h=> ?_) rfl (Mem.len hc)
  have hc:=Mem.le lf hc
  obtain ⟨xt,xn,rfl,k1,k2⟩:=hc
  refine ⟨_,ld (h.le _ _ qf) rfl,_,ld (h.le _ _ qf) rfl,_,ld (h.le _ _ qf) rfl,_,ld (h.le _ _ qf) rfl,_,ld (h.le _ _ qf) rfl,_,ld (h.le _ _ qf) rfl,?_⟩
  refine bH h [x.k,x.par,x.pos,x.ch,x.left,x.tok] (by simp only [List.length_append] at n1 ⊢;omega) fun sg Gg Fg lg h=> ?_
  have qg:=lg _ _ qf
  refine ⟨_,ld (h.le _ _ qg) rfl,#[xn.v,vi x.cond.2],rfl,dP (h.le _ _ qg) rfl,?_⟩
  refine (tF (k1.le lg) h (by simp only [List.length_append] at n1 ⊢;omega)).mono ?_
  rintro _ Fh ⟨sh,Gh,rfl,lh,h⟩
  refine ⟨_,rfl,dP (h.le _ _ (lh _ _ qg)) rfl,?_⟩
  have lg2:=aa lg lh
  refine (jf (d:=x.cond) (DV.mk (k2.le lg2)) h n1).mono ?_
  rintro _ F4 ⟨s4,G4,rfl,l4,h⟩
  refine ⟨_,rfl,?_⟩
  rw [aB hlt (by omega)]
  exact n2 _ _ _ (aa lf (aa lg2 l4)) h
 rw [fin (by omega)] at h
 unfold GN
 exact ⟨_,rfl,bA.rd (St.ownAt h (i:=0) rfl).1,aa l1e h.le⟩
theorem vM {x y:Sl} {xs:List Int} (hx:RdS F x 1 (xs.map vi)) (hy:RdS F y 1 (xs.map vi)) (hl:xs.length<=400000000000):ae prog 60 #[x.v,y.v] F fun r F'=>r=.bool true/\F.le F':=by
 have hx':=RL.ints.2 hx
 have hy':=RL.ints.2 hy
 have ex:=hx'.len (by decide)
 have ey:=hy'.len (by decide)
 refine UX ?_
 unfold Si
 refine ⟨fun hn=>absurd (by rw [ex,ey]) hn,fun _=> ?_⟩
 refine bj (zk · x y _) xs.length (fun k F'=>F'=F) rfl ?_
 rintro k F2 N hk rfl next
 unfold zk
 refine ⟨fun hlt=> ?_,fun hge=> ?_⟩
 ·have hlt:k<xs.length:=by omega
  refine ixc hx' (by decide) (by omega) (by omega) fun a c z hz hr hc=> ?_
  rw [Int.toNat_natCast] at hz
  rw [show c= #[vi z] from hc] at hr
  refine ⟨z,aF hr rfl,?_⟩
  refine ixc hy' (by decide) (by omega) (by omega) fun a2 c2 z2 hz2 hr2 hc2=> ?_
  rw [Int.toNat_natCast,hz] at hz2
  obtain rfl:=Option.some.inj hz2
  rw [show c2= #[vi z] from hc2] at hr2
  refine ⟨z,aF hr2 rfl,fun hn=>absurd rfl hn,fun _=> ?_⟩
  rw [aB hlt (by omega)]
  exact next _ hlt rfl
 ·unfold GU
  exact ⟨rfl,le_refl' _⟩
theorem Dn {v w:Array Value} {g:Gr} (hg:GV F v g) (hw:GV F w g) (hl:(wGr g).length<=400000000000):ae prog 18 #[.agg v,.agg w] F fun r F'=>r=.bool true/\F.le F':=by
 refine UL ?_
 unfold R4
 refine fresh fun b2 F1 l1 q2 _=> ?_
 refine fresh fun b3 F2 l2 q3 _=>⟨_,hg.size,aj (l2 _ _ q2),?_⟩
 have l12:=aa l1 l2
 refine (mS (hg.le l12) hl).mono ?_
 rintro _ F3 ⟨s3,rfl,h3,l3⟩
 refine ⟨_,rfl,_,hw.size,aj (l3 _ _ q3),?_⟩
 refine (mS (hw.le (aa l12 l3)) hl).mono ?_
 rintro _ F4 ⟨s4,rfl,h4,l4⟩
 refine ⟨_,rfl,?_⟩
 refine (vM (h3.le l4) h4 (by have:=hl;omega)).mono ?_
 rintro _ F5 ⟨rfl,l5⟩
 exact ⟨_,rfl,rfl,aa l12 (aa l3 (aa l4 l5))⟩
end
def tiT (x:Tk):Prop:=x.name.size<=100/\x.lit.size<=100/\x.pat.length<=100/\x.smp.size<=100/\x.cond.1.length<=1000
def tiP (n:Nat) (x:Pr):Prop:=x.name.size<=100/\x.right.length<=n/\x.cond.1.length<=1000/\x.lay.length<=100
def tiL (x:Lv):Prop:=x.ps.length<=100/\x.cond.1.length<=1000
def tiF (x:Fi):Prop:=x.toks.length<=100/\x.cond.1.length<=1000
structure Ti (n:Nat) (g:Gr):Prop where
 c:g.conds.length<=3
 ci:∀s∈g.conds,s.size<=100
 fam:g.fam.1.length<=1000
 t:g.toks.length<=100
 ti:∀x∈g.toks,tiT x
 s:g.nons.length<=100
 si:∀s∈g.nons,s.size<=100
 p:g.prods.length<=100
 pi:∀x∈g.prods,tiP n x
 l:g.lvs.length<=n
 li:∀x∈g.lvs,tiL x
 f:g.fils.length<=n
 fi:∀x∈g.fils,tiF x
section
variable {g:Gr} {n:Nat}
theorem Ti.sz (h:Ti n g):Sz g:=⟨fun s hs=>by have:=h.ci s hs;omega,fun x hx=>by have:=(h.ti x hx).2.2.2.1;omega,fun x hx=>by have:=(h.li x hx).1;omega,fun x hx=>by have:=(h.fi x hx).1;omega⟩
theorem Ti.sm (h:Ti n g) (hn:n<=100):Sm g:=
 ⟨by have:=h.c;omega,by have:=h.fam;omega,by have:=h.t;omega,by have:=h.s;omega,by have:=h.p;omega,by have:=h.l;omega,by have:=h.f;omega,
  fun x hx=>by have:=h.ti x hx;unfold tiT at this;omega,fun x hx=>by have:=h.pi x hx;unfold tiP at this;omega,fun x hx=>by have:=h.li x hx;unfold tiL at this;omega,fun x hx=>by have:=h.fi x hx;unfold tiF at this;omega⟩
theorem Ti.sml (h:Ti n g) (hn:n<=100):Sml g:=
 ⟨h.sm hn,h.sz,by have:=h.fam;omega,fun x hx=>by have:=h.ti x hx;unfold tiT at this;omega,fun x hx=>by have:=h.pi x hx;unfold tiP at this;omega,fun x hx=>by have:=h.li x hx;unfold tiL at this;omega,fun x hx=>by have:=h.fi x hx;unfold tiF at this;omega⟩
theorem cH {α:Type} {f:α->List Int} {M:Nat}:∀{l:List α},(∀x∈l,(f x).length<=M)->(l.flatMap f).length<=l.length*M
 |[],_=>by simp
 |x::l,h=>by
  rw [List.flatMap_cons,List.length_append,List.length_cons,Nat.succ_mul]
  have:=h x (by simp)
  have:=cH (l:=l) fun y hy=>h y (by simp [hy])
  omega
theorem fG {x:ByteArray} (h:x.size<=100):(fc x).length<=101:=by
 unfold fc
 rw [List.length_cons,List.length_map,List.length_range]
 omega
theorem jc {d:Dia} (h:d.1.length<=1000):(rR d).length<=3002:=by
 unfold rR
 have:=cH (f:=wBr) (l:=d.1) (M:=3) fun x _=>Nat.le_refl _
 simp only [List.length_append,List.length_singleton]
 omega
theorem GY {x:Tk} (h:tiT x):(rS x).length<=10000:=by
 obtain ⟨h1,h2,h3,h4,h5⟩:=h
 unfold rS
 have:=fG h1
 have:=fG h2
 have:=fG h4
 have:=jc h5
 have:=cH (f:=wNd) (l:=x.pat) (M:=5) fun x _=>Nat.le_refl _
 simp only [List.length_append,List.length_singleton]
 omega
theorem Jh {x:Pr} (h:tiP n x) (hn:n<=100):(wPr x).length<=10000:=by
 obtain ⟨h1,h2,h3,h4⟩:=h
 unfold wPr
 have:=fG h1
 have:=jc h3
 have:=cH (f:=wSy) (l:=x.right) (M:=2) fun x _=>Nat.le_refl _
 have:=cH (f:=wCn) (l:=x.lay) (M:=3) fun x _=>Nat.le_refl _
 simp only [List.length_append,List.length_cons,List.length_nil]
 omega
theorem Ji {x:Lv} (h:tiL x):(wLv x).length<=10000:=by
 obtain ⟨h1,h2⟩:=h
 unfold wLv rA
 have:=jc h2
 simp only [List.length_append,List.length_cons,List.length_nil]
 omega
theorem Jj {x:Fi} (h:tiF x):(wFi x).length<=10000:=by
 obtain ⟨h1,h2⟩:=h
 unfold wFi rA
 have:=jc h2
 simp only [List.length_append,List.length_cons,List.length_nil]
 omega
theorem Jk (h:Ti n g) (hn:n<=100):(wGr g).length<=400000000000:=by
 have h1:=cH (f:=fc) (l:=g.conds) (M:=101) fun x hx=>fG (h.ci x hx)
 have h2:=cH (f:=rS) (l:=g.toks) (M:=10000) fun x hx=>GY (h.ti x hx)
 have h3:=cH (f:=fc) (l:=g.nons) (M:=101) fun x hx=>fG (h.si x hx)
 have h4:=cH (f:=wPr) (l:=g.prods) (M:=10000) fun x hx=>Jh (h.pi x hx) hn
 have h5:=cH (f:=wLv) (l:=g.lvs) (M:=10000) fun x hx=>Ji (h.li x hx)
 have h6:=cH (f:=wFi) (l:=g.fils) (M:=10000) fun x hx=>Jj (h.fi x hx)
 have h7:=jc h.fam
 have:=h.c
 have:=h.t
 have:=h.s
 have:=h.p
 have:=h.l
 have:=h.f
 unfold wGr
 simp only [List.length_append,List.length_cons,List.length_nil]
 omega
theorem jd (b:Bool):(dia (leaf b)).1.length<=1000:=by cases b<;>decide
theorem NT:Ti 51 gr0:=⟨by decide,fun _ h=>(by cases h),by decide,by decide,fun _ h=>(by cases h),by decide,fun _ h=>(by cases h),by decide,fun _ h=>(by cases h),by decide,fun _ h=>(by cases h),by decide,fun _ h=>(by cases h)⟩
theorem Ti.at (h:Ti n g) (c:Int):Ti n (atG g c):=by
 refine ⟨by show 0<=3;omega,fun _ h=>(by cases h),jd _,?_,fun x hx=> ?_,h.s,h.si,?_,fun x hx=> ?_,?_,fun x hx=> ?_,?_,fun x hx=> ?_⟩
 ·show (List.map _ _).length<=_;rw [List.length_map];exact h.t
 ·obtain ⟨y,hy,rfl⟩:=List.mem_map.1 hx
  obtain ⟨a1,a2,a3,a4,a5⟩:=h.ti y hy
  exact ⟨a1,a2,a3,a4,jd _⟩
 ·show (List.map _ _).length<=_;rw [List.length_map];exact h.p
 ·obtain ⟨y,hy,rfl⟩:=List.mem_map.1 hx
  obtain ⟨a1,a2,a3,a4⟩:=h.pi y hy
  exact ⟨a1,a2,jd _,a4⟩
 ·show (List.map _ _).length<=_;rw [List.length_map];exact h.l
 ·obtain ⟨y,hy,rfl⟩:=List.mem_map.1 hx
  exact ⟨(h.li y hy).1,jd _⟩
 ·show (List.map _ _).length<=_;rw [List.length_map];exact h.f
 ·obtain ⟨y,hy,rfl⟩:=List.mem_map.1 hx
  exact ⟨(h.fi y hy).1,jd _⟩
theorem Ti.atR (h:Ti 51 g) (c:Int):Ti 51 (jE g c):=by
 unfold jE
 split
 ·exact NT
 ·exact h.at c
theorem tw {α:Type} {l:List α} {k:Nat} {f:α->α} {P:α->Prop} (h:∀x∈l,P x) (hf:∀x∈l,P (f x)):∀x∈dx l k f,P x:=by
 unfold dx
 split
 ·rename_i y hy
  intro x hx
  rcases List.mem_or_eq_of_mem_set hx with hx|rfl
  ·exact h x hx
  ·exact hf y (List.mem_of_getElem? hy)
 ·exact h
theorem tx {α:Type} {l:List α} {k:Nat} {f:α->α}:(dx l k f).length=l.length:=by
 unfold dx
 split
 ·rw [List.length_set]
 ·rfl
theorem Ti.prods (h:Ti 50 g) {k:Nat} {f:Pr->Pr} (hf:∀x∈g.prods,tiP 50 x->tiP 51 (f x)):Ti 51 {g with prods:=dx g.prods k f}:=
 ⟨h.c,h.ci,h.fam,h.t,h.ti,h.s,h.si,by show (dx _ _ _).length<=_;rw [tx];exact h.p,tw (fun x hx=>by have:=h.pi x hx;unfold tiP at this ⊢;omega) fun x hx=>hf x hx (h.pi x hx),Nat.le_trans h.l (by decide),h.li,Nat.le_trans h.f (by decide),h.fi⟩
theorem Ti.toks (h:Ti 50 g) {k:Nat} {f:Tk->Tk} (hf:∀x∈g.toks,tiT x->tiT (f x)):Ti 51 {g with toks:=dx g.toks k f}:=
 ⟨h.c,h.ci,h.fam,by show (dx _ _ _).length<=_;rw [tx];exact h.t,tw h.ti fun x hx=>hf x hx (h.ti x hx),h.s,h.si,h.p,fun x hx=>by have:=h.pi x hx;unfold tiP at this ⊢;omega,Nat.le_trans h.l (by decide),h.li,Nat.le_trans h.f (by decide),h.fi⟩
theorem Ti.up (h:Ti 50 g):Ti 51 g:=
 ⟨h.c,h.ci,h.fam,h.t,h.ti,h.s,h.si,h.p,fun x hx=>by have:=h.pi x hx;unfold tiP at this ⊢;omega,by have:=h.l;omega,h.li,by have:=h.f;omega,h.fi⟩
theorem Ti.lvs (h:Ti 50 g) {y:Lv} (hy:tiL y):Ti 51 {g with lvs:=g.lvs++[y]}:=
 ⟨h.c,h.ci,h.fam,h.t,h.ti,h.s,h.si,h.p,h.up.pi,by have:=h.l;show (g.lvs++[y]).length<=51;rw [List.length_append,List.length_singleton];omega,fun x hx=>by
  rcases List.mem_append.1 hx with hx|hx
  ·exact h.li x hx
  ·rw [List.mem_singleton.1 hx];exact hy,h.up.f,h.fi⟩
theorem Ti.fils (h:Ti 50 g) {y:Fi} (hy:tiF y):Ti 51 {g with fils:=g.fils++[y]}:=
 ⟨h.c,h.ci,h.fam,h.t,h.ti,h.s,h.si,h.p,h.up.pi,h.up.l,h.li,by have:=h.f;show (g.fils++[y]).length<=51;rw [List.length_append,List.length_singleton];omega,fun x hx=>by
  rcases List.mem_append.1 hx with hx|hx
  ·exact h.fi x hx
  ·rw [List.mem_singleton.1 hx];exact hy⟩
theorem Jl (h:Ti 50 g) (ht:g.toks.length≠0) (k a:Nat) (b:Int):Ti 51 (dV g k a b):=by
 have u:=h.up
 obtain ⟨t0,ht0⟩:∃y,g.toks[0]? =some y:=⟨_,List.getElem?_eq_getElem (by omega)⟩
 have hx0:=(h.ti t0 (List.mem_of_getElem? ht0)).1
 unfold dV
 split
 ·exact ⟨u.c,u.ci,u.fam,u.t,u.ti,u.s,u.si,u.p,u.pi,u.l,u.li,u.f,u.fi⟩
 ·exact h.prods fun x _ hx=>⟨hx.1,Nat.le_trans hx.2.1 (by decide),hx.2.2.1,hx.2.2.2⟩
 ·exact h.prods fun x _ hx=>⟨hx.1,by have:=hx.2.1;show (_::x.right).length<=51;rw [List.length_cons];omega,hx.2.2.1,hx.2.2.2⟩
 ·exact h.prods fun x _ hx=>⟨hx.1,Nat.le_trans hx.2.1 (by decide),hx.2.2.1,hx.2.2.2⟩
 ·exact h.prods fun x _ hx=>⟨hx.1,Nat.le_trans hx.2.1 (by decide),hx.2.2.1,by show 1<=100;decide⟩
 ·exact h.prods fun x _ hx=>⟨hx.1,Nat.le_trans hx.2.1 (by decide),hx.2.2.1,hx.2.2.2⟩
 ·exact h.prods fun x _ hx=>⟨hx.1,Nat.le_trans hx.2.1 (by decide),hx.2.2.1,hx.2.2.2⟩
 ·exact h.toks fun x _ hx=>hx
 ·exact h.toks fun x _ hx=>⟨by rw [ht0];exact hx0,hx.2⟩
 ·exact h.lvs ⟨by show 1<=100;decide,h.fam⟩
 ·exact h.fils ⟨by show 0<=100;decide,h.fam⟩
 ·exact h.fils ⟨by show 1<=100;decide,h.fam⟩
 ·exact h.fils ⟨by show 2<=100;decide,h.fam⟩
 ·exact h.prods fun x _ hx=>⟨hx.1,Nat.le_trans hx.2.1 (by decide),by show 1<=1000;decide,hx.2.2.2⟩
 ·exact ⟨u.c,u.ci,by show 1<=1000;decide,u.t,u.ti,u.s,u.si,u.p,u.pi,u.l,u.li,u.f,u.fi⟩
 ·exact h.prods fun x _ hx=>⟨hx.1,Nat.le_trans hx.2.1 (by decide),hx.2.2.1,hx.2.2.2⟩
theorem Jm (h:MG g) (hb:Bd g 18 10):Ti 50 g:=by
 have hcl:=hb.c
 have hpl:=hb.p
 have hnl:=hb.n
 have htl:=hb.t
 have hll:=hb.l
 have hfl:=hb.f
 obtain ⟨t,ht,ht0,hf⟩:=h.fam
 refine ⟨hcl,fun s hs=> ?_,by have:=ht.brl (by omega);rw [hf];omega,by omega,fun x hx=> ?_,by omega,fun s hs=>by have:=h.nons.2 s hs;omega,by omega,fun x hx=> ?_,by omega,fun x hx=> ?_,by omega,fun x hx=> ?_⟩
 ·obtain ⟨n,hn,hc⟩:=h.cs
  rw [hc] at hs
  have:∀s∈abc,s.size<=100:=by decide
  exact this s (List.mem_of_mem_take hs)
 ·have:pR x∈eF:=by rw [<- h.toks.1];exact List.mem_map_of_mem hx
  have h2:∀u∈eF,u.name.size<=100/\u.lit.size<=100/\u.pat.length<=100/\u.smp.size<=100:=by decide
  obtain ⟨a1,a2,a3,a4⟩:=h2 _ this
  exact ⟨a1,a2,a3,a4,by have:=(h.toks.2 x hx).len (by omega);omega⟩
 ·have k:=h.prods x hx
  exact ⟨by have:=k.nm.2;omega,by have:=k.rl;omega,by have:=k.cond.len (by omega);omega,by have:=k.lay;omega⟩
 ·exact ⟨by have:=hb.lp x hx;omega,by have:=(h.lvs.2 x hx).len (by omega);omega⟩
 ·exact ⟨by have:=(h.fils x hx).2.2;omega,by have:=(h.fils x hx).2.1.len (by omega);omega⟩
end
section
variable {g:Gr}
end
theorem RdS.at1 {F:PH} {s:Sl} {vs:List Value} (h:RdS F s 1 vs) {i:Nat} {v:Value} (hi:vs[i]? =some v):∃a,s.base=some a/\0<=(i:Int)/\(i:Int)<(s.len:Int)/\F.cell (Addr.add a (Int.toNat (i:Int)*1))=some v:=by
 obtain ⟨hlt,rfl⟩:=List.getElem?_eq_some_iff.1 hi
 have hl:=h.len
 obtain ⟨b,o,h1,h2⟩:=h.cells (by omega)
 refine ⟨_,h1,by omega,by omega,?_⟩
 have:=h2 i hlt
 simpa using this
section
variable {F G:PH} {b6:Nat} {g:Gr} {w:Array Value} {s:Sl} {most:Nat}
end
instance:Mem Gr where
 n:=9
 rep F g c:=GV F c g
 len h:=h.size
 le hl h:=h.le hl
 st h:=h.st
theorem NU {b e:Nat} {G:PH} {g g':Gr} {v w:Array Value} {o:Array Value} (q:G b=some (.cells o e)) (ho:o.toList=v.toList++w.toList) (h1:GV G v g) (h2:GV G w g'):RL G (Sl.mk (some (Addr.mk b 0 none)) 2 2) [g,g']:=by
 have s1:v.toList.length=9:=h1.size
 have s2:w.toList.length=9:=h2.size
 have e:cat [v,w]=v.toList++w.toList:=by rw [cG,bG]
 refine ⟨[v,w],.cons h1 (.cons h2 .nil),RdS.new q ?_ ?_ (Nat.le_refl _)⟩
 ·rw [e,ho]
  exact List.take_of_length_le (by rw [List.length_append,s1,s2];show 18<=2*9;decide)
 ·rw [e,List.length_append,s1,s2]
  rfl
theorem NW {v w z:Array Value} (h1:v.size=9) (h2:w.size=9) (h3:z.size=18):(wr (wr z 0 v.toList) 9 w.toList).toList=v.toList++w.toList:=by
 have s1:v.toList.length=9:=h1
 have s2:w.toList.length=9:=h2
 have hz:z.toList.length=18:=h3
 have e1:=fQ v.toList z.toList 0 (by omega)
 rw [show z.toList.toArray=z by simp] at e1
 have e2:=fQ w.toList (wr z 0 v.toList).toList 9 (by rw [e1];simp only [List.length_append,List.length_take,List.length_drop];omega)
 rw [show (wr z 0 v.toList).toList.toArray=wr z 0 v.toList by simp] at e2
 rw [e2,e1,List.take_zero,List.nil_append,s1,s2]
 rw [List.take_append_of_le_length (by omega),List.take_of_length_le (by omega),List.drop_eq_nil_of_le (by rw [List.length_append,List.length_drop];omega),List.append_nil]
section
variable {F:PH} {c b:Int}
theorem GZ {F1:PH} {N1:Int->PH->Prop} {i:Int} {l:List Nat} {p q:Sl} {b4 b26:Nat} {R:VR} (hp:RdS F1 p 1 (l.map vC)) (hq:RdS F1 q 1 (l.map vC)) (hl:l.length<=1000) (next:N1 (IntKind.i64.wrap (i+1)) F1):
  ∃(I2:Nat->Int->PH->Prop) (m2:Nat),I2 m2 (0:Int) F1/\∀m2 k F2,I2 m2 k F2->zB N1 (fun y F=>∃m',m'<m2/\I2 m' y F) c b4 true b26 i p q R k F2:=by
 have ep:p.len=l.length:=by have:=hp.len;rw [List.length_map,Nat.mul_one] at this;exact this.symm
 refine bj (zB N1 · c b4 true b26 i p q R) l.length (fun k F'=>F'=F1) rfl ?_
 rintro k F2 N hk rfl nxt
 unfold zB
 refine ⟨fun hlt=> ?_,fun hge=> ?_⟩
 ·have hlt:k<l.length:=by omega
  obtain ⟨y,hy⟩:∃y,(l.map vC)[k]? =some (vC y):=⟨l[k],by rw [List.getElem?_map,List.getElem?_eq_getElem hlt];rfl⟩
  obtain ⟨a1,x1,x2,x3,x4⟩:=hp.at1 hy
  obtain ⟨a2,y1,y2,y3,y4⟩:=hq.at1 hy
  refine ⟨a1,x1,x2,x3,_,x4,a2,y1,y2,y3,_,y4,fun hn=>absurd rfl hn,fun _=> ?_⟩
  rw [aB hlt (by omega)]
  exact nxt _ hlt rfl
 ·unfold Js
  exact next
theorem Ha {g:Gr} (hc:g.conds.length<=3) (m:Int):(dD g m).1.length<=1000:=by
 unfold dD
 split
 ·simp
 ·have h1:(mY g).length<=2 ^ g.conds.length:=by
   unfold mY
   exact Nat.le_trans (List.length_filter_le _ _) (by rw [List.length_range];exact Nat.le_refl _)
  have h2:2 ^ g.conds.length<=2 ^ 3:=Nat.pow_le_pow_right (by decide) hc
  show ((mY g).take m.toNat).length<=1000
  rw [List.length_take]
  omega
theorem zl {v:Array Value} {x:Rw} {how a:Nat} (hT:Tab F) (hx:CC F v x) (hh:how<256) (ha:a<256) (c0:0<=c) (c1:c<18446744073709551616):
  ae prog 6 #[.agg v,.agg #[.int .u8 (how:Int),.int .u8 (a:Int),vi b],.int .u64 c] F (RT F):=by
 refine cQ6 ?_
 unfold bQ6
 refine (St.start F).newG fun b3 G1 F1 l1 q3 _ h=> ?_
 refine h.newG fun b4 G2 F2 l2 q4 _ h=> ?_
 have l12:=aa l1 l2
 replace q3:=l2 _ _ q3
 have hv5:v.size=5:=by obtain ⟨⟨_,_,_,rfl,_⟩,_,_⟩:=hx;rfl
 refine h.runv (Dw (hT.le l12)) fun G3 F3 l3 h=>⟨_,rfl,v,hv5,aj (h.le _ _ (l3 _ _ q3)),v,hv5,aj (h.le _ _ (l3 _ _ q3)),_,rfl,aj (h.le _ _ (l3 _ _ q4)),?_⟩
 have l13:=aa l12 l3
 replace q3:=l3 _ _ q3
 replace q4:=l3 _ _ q4
 refine h.run (mJ (hx.le l13)) fun _ G4 F4 hr l4 h=> ?_
 obtain ⟨w,rfl,hw⟩:=hr
 have l14:=aa l13 l4
 replace q3:=l4 _ _ q3
 replace q4:=l4 _ _ q4
 refine ⟨_,rfl,aj (h.le _ _ q4),aj (h.le _ _ q3),?_⟩
 refine h.run (mJ (hx.le l14)) fun _ G5 F5 hr l5 h=> ?_
 obtain ⟨w2,rfl,hw2⟩:=hr
 have l15:=aa l14 l5
 replace q4:=l5 _ _ q4
 replace hw:=hw.le l5
 obtain ⟨mg,bd⟩:=Ij x
 generalize mI x=g at*
 have t50:=Jm mg bd
 refine ⟨_,rfl,aj (h.le _ _ q4),?_⟩
 refine h.run (Dp hw2 bd (t50.sm (by decide)) hh ha) fun _ G6 F6 hr l6 h=> ?_
 obtain ⟨u,rfl,hu⟩:=hr
 have l16:=aa l15 l6
 replace q4:=l6 _ _ q4
 replace hw:=hw.le l6
 have tb:=Jl t50 (by rw [bd.t];decide) (how % 16) a b
 generalize dV g (how % 16) a b=g' at*
 refine ⟨_,rfl,hw.size,hu.size,?_⟩
 refine h.newG fun b26 G7 F7 l7 q26 _ h=> ?_
 have l17:=aa l16 l7
 replace q4:=l7 _ _ q4
 have hR:RL G7 (Sl.mk (some (Addr.mk b26 0 none)) 2 2) [g,g']:=NU q26 (NW hw.size hu.size rfl) (hw.le l7) (hu.le l7)
 have hti:∀y∈[g,g'],Ti 51 y:=fun y hy=>by
  rcases List.mem_cons.1 hy with rfl|hy
  ·exact t50.up
  ·rw [List.mem_singleton.1 hy];exact tb
 refine bj (DE · c b4 true b26 _) 2 (fun k F'=>G7.le F') h.le ?_
 rintro k F8 N hk l8 next
 unfold DE
 refine ⟨fun hlt=> ?_,fun hge=> ?_⟩
 ·have hlt:k<2:=by omega
  obtain ⟨y,hy⟩:∃y,[g,g'][k]? =some y:=⟨_,List.getElem?_eq_getElem (show k<[g,g'].length from hlt)⟩
  have ty:=hti y (List.mem_of_getElem? hy)
  have hz:=ty.sml (by decide)
  have rd:∀{F':PH} {K:Addr->Prop},G7.le F'->(∀a w,w.size=9->F'.row (Addr.add a (Int.toNat (k:Int)*9)) w->GV F' w y->K a)->∃a,(some (Addr.mk b26 0 none))=some a/\0<=(k:Int)/\(k:Int)<((2:Nat):Int)/\K a:=fun {F' K} hl kk=>
   ixc (hR.le hl) (by decide) (by omega) (by show (k:Int)<((2:Nat):Int);omega) fun a c' x hx hr hc=>by
    rw [Int.toNat_natCast,hy] at hx
    obtain rfl:=Option.some.inj hx
    exact kk a c' hc.size hr hc
  refine rd l8 fun a1 w1 z1 r1 g1=>⟨w1,z1,r1,?_⟩
  refine (E9 (hT.le (aa l17 l8)) g1 ty.sz (ty.sm (by decide)) c0 c1).mono ?_
  rintro _ F9 ⟨⟨wa,rfl,ha1⟩,l9⟩
  refine ⟨_,_,rfl,?_⟩
  refine C6 ha1.st (fun b10 Fa la q10=> ?_) rfl ha1.size
  have l8a:=aa l8 (aa l9 la)
  refine rd l8a fun a2 w2 z2 r2 g2=>⟨w2,z2,r2,?_⟩
  refine (Hc g2 hz c0 c1).mono ?_
  rintro _ Fb ⟨⟨wb,rfl,hb1⟩,lb⟩
  refine ⟨_,_,rfl,?_⟩
  refine C6 hb1.st (fun b12 Fc lc q12=> ?_) rfl hb1.size
  have lac:=aa lb lc
  have l8c:=aa l8a lac
  refine rd l8c fun a3 w3 z3 r3 g3=>⟨w3,z3,r3,_,ld (l8c _ _ q4) rfl,?_⟩
  refine (gY (hT.le (aa l17 l8c)) g3 ty.sz (by have:=ty.c;omega) b).mono ?_
  rintro _ Fd ⟨⟨p,rfl,hp⟩,ldd⟩
  have l8d:=aa l8c ldd
  refine ⟨_,_,rfl,?_⟩
  refine rd l8d fun a4 w4 z4 r4 g4=>⟨w4,z4,r4,_,ld (l8d _ _ q4) rfl,?_⟩
  refine (rQ g4 hz ty.c b).mono ?_
  rintro _ Fe ⟨⟨q,rfl,hq⟩,le⟩
  have l8e:=aa l8d le
  have lce:=aa ldd le
  refine ⟨_,_,rfl,wa,ha1.size,aj (lce _ _ (lac _ _ q10)),wb,hb1.size,aj (lce _ _ q12),?_⟩
  refine (Dn (ha1.le (aa la (aa lac lce))) (hb1.le (aa lc lce)) (Jk (ty.atR c) (by decide))).mono ?_
  rintro _ Ff ⟨rfl,lf⟩
  have l8f:=aa l8e lf
  have hpl:=Ha ty.c b
  have e1:p.len=(dD y b).1.length:=by have:=hp.len;rw [List.length_map,Nat.mul_one] at this;exact this.symm
  have e2:q.len=(dD y b).1.length:=by have:=hq.len;rw [List.length_map,Nat.mul_one] at this;exact this.symm
  refine ⟨_,rfl,fun hn=>(by cases hn),fun _=>⟨fun hn=>absurd rfl hn,fun _=>⟨fun hn=>by simp at hn,fun _=>⟨fun hn=>absurd (by rw [e1,e2]) hn,fun _=> ?_⟩⟩⟩⟩
  refine rd l8f fun a5 w5 z5 r5 g5=>⟨w5,z5,r5,?_⟩
  refine rd l8f fun a6 w6 z6 r6 g6=>⟨w6,z6,r6,?_⟩
  refine (Fq (hT.le (aa l17 l8f)) g5 ty.sz c0 c1).mono ?_
  rintro _ Fg ⟨rfl,lg⟩
  refine ⟨_,rfl,kf lg r6,?_⟩
  refine (Hb (g6.le lg) hz c0 c1).mono ?_
  rintro _ Fh ⟨rfl,lh⟩
  have lfh:=aa lf (aa lg lh)
  refine ⟨_,rfl,fun hn=>by simp at hn,fun _=> ?_⟩
  refine GZ (hp.le (aa le lfh)) (hq.le lfh) hpl ?_
  rw [aB hlt (by decide)]
  exact next _ hlt (aa l8e lfh)
 ·unfold Jr
  exact ⟨rfl,aa l17 l8⟩
end
end Go.Proofs.YtenpmjhnhepfdaaGreatDoor
