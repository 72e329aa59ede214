/-
  Configurations: the walk.
-/
import Derived.Test.YtenpmjhnhepfdaaGreatDoorJd
namespace Go.Proofs.YtenpmjhnhepfdaaGreatDoor
open Go Go.Proofs.Tryz Tr
set_option maxRecDepth 10000
section
variable {F G:PH} {b6 b7:Nat} {g:Gr} {c m t s p l f c' m' t' s' p' l' f':Sl} {cf:Int}
structure CK (F G:PH) (g:Gr) (cf:Int) (b6 b7:Nat) (c m t s p l f c' m' t' s' p' l' f':Sl):Prop where
 lF:F.le G
 hT:Tab G
 gs:GS G g c m t s p l f
 gs':GS G (atG g cf) c' m' t' s' p' l' f'
 q6:G b6=some (.cells (g.arr c m t s p l f) 39)
 q7:G b7=some (.cells ((atG g cf).arr c' m' t' s' p' l' f') 39)
 mg:MG g
 bd:Bd g 18 10
 c0:0≤cf
 c1:cf<18446744073709551616
theorem CK.le {G':PH} (h:CK F G g cf b6 b7 c m t s p l f c' m' t' s' p' l' f') (hl:G.le G'):CK F G' g cf b6 b7 c m t s p l f c' m' t' s' p' l' f':=
 ⟨aa h.lF hl,h.hT.le hl,h.gs.le hl,h.gs'.le hl,hl _ _ h.q6,hl _ _ h.q7,h.mg,h.bd,h.c0,h.c1⟩
theorem Eo (K:CK F G g cf b6 b7 c m t s p l f c' m' t' s' p' l' f'):Aa true b7 (RT F) G:=by
 have hO:=K.mg.ok K.bd (by decide) (by decide)
 have hm:=Jf (c:=cf) (K.mg.sm K.bd (by decide) (by decide))
 have gv:GV G ((atG g cf).arr c' m' t' s' p' l' f') (atG g cf):=⟨_,_,_,_,_,_,_,rfl,K.gs'⟩
 have e1:lI (atG g cf) 0=0:=by
  unfold lI
  rw [dD.2 (wu hO),if_neg (by decide)]
  have:=zO (c:=cf) hO
  unfold inG at this
  rw [Bool.and_eq_true] at this
  rw [this.2]
  rfl
 have e2:nE (atG g cf) 0=atG g cf:=by unfold nE;rw [e1,if_neg (by decide),CR]
 unfold Aa
 refine ⟨_,rfl,ai K.q7,?_⟩
 refine (tE K.hT gv (sR (K.mg.sz K.bd)) hm (by decide) (by decide)).mono ?_
 rintro _ F2 ⟨⟨w,rfl,hw⟩,l2⟩
 rw [e1]
 rw [e2] at hw
 refine ⟨_,_,rfl,?_⟩
 refine uX hw.st (fun b F3 l3 q3=>⟨fun _=>⟨w,hw.size,ai q3,_,rfl,ai (l3 _ _ (l2 _ _ K.q7)),?_⟩,fun hc=>absurd rfl hc⟩) rfl hw.size
 refine (uU (hw.le l3) (gv.le (aa l2 l3)) hm).mono ?_
 rintro _ F4 ⟨rfl,l4⟩
 rw [decide_eq_true (rfl:atG g cf=atG g cf)]
 exact ⟨_,rfl,fun _=>⟨rfl,aa K.lF (aa l2 (aa l3 l4))⟩,fun hc=>(by cases hc)⟩
theorem Ep (K:CK F G g cf b6 b7 c m t s p l f c' m' t' s' p' l' f'):Ac cf true b6 b7 (RT F) G:=by
 have ef:=K.gs.f.len (by decide)
 have ef':=K.gs'.f.len (by decide)
 rw [show (atG g cf).fils.length=g.fils.length from List.length_map ..] at ef'
 have bf:=K.bd.f
 unfold Ac
 refine bH (Ab · cf true b6 b7 (RT F)) g.fils.length (fun _ F'=>G.le F') (le_refl' _) fun k F1 N hk h1 next=> ?_
 replace K:=K.le h1
 unfold Ab
 refine ⟨_,ld K.q6 rfl,fun hc=> ?_,fun _=>Eo K⟩
 refine ⟨_,ld K.q7 rfl,ixc K.gs'.f (by decide) (by omega) (by omega) fun a1 w1 x1 hx1 hr1 hm1=> ?_⟩
 obtain ⟨u1,n1,rfl,_,hn1⟩:=hm1
 refine ⟨#[n1.v,vi x1.cond.2],rfl,cS hr1 rfl,_,ld K.q6 rfl,ixc K.gs.f (by decide) (by omega) (by omega) fun a2 w2 x2 hx2 hr2 hm2=> ?_⟩
 obtain ⟨u2,n2,rfl,_,hn2⟩:=hm2
 have ex:cO x1.cond 0=cO x2.cond cf:=by
  rw [show (atG g cf).fils=g.fils.map _ from rfl,List.getElem?_map,hx2] at hx1
  cases hx1
  exact eJ _ _
 refine ⟨#[n2.v,vi x2.cond.2],rfl,cS hr2 rfl,?_⟩
 refine (cP (DV.mk hn1) (by decide) (by decide)).mono ?_
 rintro _ F2 ⟨rfl,l2⟩
 refine ⟨_,rfl,gi l2 (cS hr2 rfl),ld (l2 _ _ K.q6) rfl,ld (l2 _ _ K.q7) rfl,?_⟩
 refine (cP (DV.mk (hn2.le l2)) K.c0 K.c1).mono ?_
 rintro _ F3 ⟨rfl,l3⟩
 rw [ex]
 have l23:=aa l2 l3
 refine ⟨_,rfl,ld (l23 _ _ K.q6) rfl,ld (l23 _ _ K.q7) rfl,mU _,fun _=> ?_⟩
 rw [aO (by omega:k<g.fils.length) (by omega)]
 exact next _ (by omega) (aa h1 l23)
theorem Er (K:CK F G g cf b6 b7 c m t s p l f c' m' t' s' p' l' f'):Ae cf true b6 b7 (RT F) G:=by
 have ef:=K.gs.p.len (by decide)
 have ef':=K.gs'.p.len (by decide)
 rw [show (atG g cf).prods.length=g.prods.length from List.length_map ..] at ef'
 have bf:=K.bd.p
 unfold Ae
 refine bH (Ad · cf true b6 b7 (RT F)) g.prods.length (fun _ F'=>G.le F') (le_refl' _) fun k F1 N hk h1 next=> ?_
 replace K:=K.le h1
 unfold Ad
 refine ⟨_,ld K.q6 rfl,fun hc=> ?_,fun _=>Ep K⟩
 refine ⟨_,ld K.q7 rfl,ixc K.gs'.p (by decide) (by omega) (by omega) fun a1 w1 x1 hx1 hr1 hm1=> ?_⟩
 obtain ⟨u1,n1,v1,rfl,hu1,hn1,_⟩:=hm1
 refine ⟨_,rfl,hr1,?_⟩
 refine uX (by simp [aj,Sl.v]) (fun b13 F2 l2 q13=> ?_) rfl rfl
 refine ⟨#[n1.v,vi x1.cond.2],rfl,eA q13 rfl,_,ld (l2 _ _ K.q6) rfl,ixc (K.gs.p.le l2) (by decide) (by omega) (by omega) fun a2 w2 x2 hx2 hr2 hm2=> ?_⟩
 obtain ⟨u2,n2,v2,rfl,hu2,hn2,_⟩:=hm2
 have ex:cO x1.cond 0=cO x2.cond cf∧x1.name=x2.name∧x1.right=x2.right:=by
  rw [show (atG g cf).prods=g.prods.map _ from rfl,List.getElem?_map,hx2] at hx1
  cases hx1
  exact ⟨eJ _ _,rfl,rfl⟩
 refine ⟨#[n2.v,vi x2.cond.2],rfl,cS hr2 rfl,?_⟩
 refine (cP (DV.mk (hn1.le l2)) (by decide) (by decide)).mono ?_
 rintro _ F3 ⟨rfl,l3⟩
 have l23:=aa l2 l3
 refine ⟨_,rfl,gi l3 (cS hr2 rfl),ld (l23 _ _ K.q6) rfl,?_⟩
 refine (cP (DV.mk (hn2.le l3)) K.c0 K.c1).mono ?_
 rintro _ F4 ⟨rfl,l4⟩
 rw [ex.1]
 have l34:=aa l3 l4
 have l24:=aa l2 l34
 refine ⟨_,rfl,ld (l24 _ _ K.q6) rfl,mU _,fun _=> ?_⟩
 refine ⟨_,ld (l34 _ _ q13) rfl,_,ld (l24 _ _ K.q6) rfl,ixc (K.gs.p.le l24) (by decide) (by omega) (by omega) fun a3 w3 x3 hx3 hr3 hm3=> ?_⟩
 obtain ⟨u3,n3,v3,rfl,hu3,_⟩:=hm3
 rw [hx2] at hx3
 cases hx3
 refine ⟨_,aI hr3 rfl,?_⟩
 dsimp only
 rw [gK,ex.2.1,decide_eq_true rfl]
 refine ⟨fun hc=>(by cases hc),fun _=>⟨_,ld (l34 _ _ q13) rfl,_,ld (l24 _ _ K.q6) rfl,ixc (K.gs.p.le l24) (by decide) (by omega) (by omega) fun a4 w4 x4 hx4 hr4 hm4=> ?_⟩⟩
 obtain ⟨u4,n4,v4,rfl,hu4,_⟩:=hm4
 rw [hx2] at hx4
 cases hx4
 have eu1:=hu1.len (by decide)
 have eu4:=hu4.len (by decide)
 rw [ex.2.2] at eu1
 refine ⟨_,aD hr4 rfl,fun hc=>absurd (by omega) hc,fun _=> ?_⟩
 rw [aO (by omega:k<g.prods.length) (by omega)]
 exact next _ (by omega) (aa h1 l24)
theorem Es (K:CK F G g cf b6 b7 c m t s p l f c' m' t' s' p' l' f'):Lp (0:Int) G fun N i F1=>wA N cf true b6 b7 (RT F) i F1:=by
 have ef:=K.gs.t.len (by decide)
 have ef':=K.gs'.t.len (by decide)
 rw [show (atG g cf).toks.length=g.toks.length from List.length_map ..] at ef'
 have bf:=K.bd.t
 refine bH (wA · cf true b6 b7 (RT F)) g.toks.length (fun _ F'=>G.le F') (le_refl' _) fun k F1 N hk h1 next=> ?_
 replace K:=K.le h1
 unfold wA
 refine ⟨_,ld K.q6 rfl,fun hc=> ?_,fun _=>Er K⟩
 refine ⟨_,ld K.q7 rfl,ixc K.gs'.t (by decide) (by omega) (by omega) fun a1 w1 x1 hx1 hr1 hm1=> ?_⟩
 obtain ⟨u1,n1,rfl,_,hn1⟩:=hm1
 refine ⟨#[n1.v,vi x1.cond.2],rfl,cS hr1 rfl,_,ld K.q6 rfl,ixc K.gs.t (by decide) (by omega) (by omega) fun a2 w2 x2 hx2 hr2 hm2=> ?_⟩
 obtain ⟨u2,n2,rfl,_,hn2⟩:=hm2
 have ex:cO x1.cond 0=cO x2.cond cf:=by
  rw [show (atG g cf).toks=g.toks.map _ from rfl,List.getElem?_map,hx2] at hx1
  cases hx1
  exact eJ _ _
 refine ⟨#[n2.v,vi x2.cond.2],rfl,cS hr2 rfl,?_⟩
 refine (cP (DV.mk hn1) (by decide) (by decide)).mono ?_
 rintro _ F2 ⟨rfl,l2⟩
 refine ⟨_,rfl,gi l2 (cS hr2 rfl),ld (l2 _ _ K.q6) rfl,ld (l2 _ _ K.q7) rfl,?_⟩
 refine (cP (DV.mk (hn2.le l2)) K.c0 K.c1).mono ?_
 rintro _ F3 ⟨rfl,l3⟩
 rw [ex]
 have l23:=aa l2 l3
 refine ⟨_,rfl,ld (l23 _ _ K.q6) rfl,ld (l23 _ _ K.q7) rfl,mU _,fun _=> ?_⟩
 rw [aO (by omega:k<g.toks.length) (by omega)]
 exact next _ (by omega) (aa h1 l23)
end
theorem zB {F:PH} {v:Array Value} {x:Rw} {cf:Int} (hT:Tab F) (hx:yy F v x) (c0:0≤cf) (c1:cf<18446744073709551616):ac prog 9 #[.agg v,.int .u64 cf] F (RT F):=by
 refine cQ9 ?_
 unfold bQ9
 refine fresh fun b2 F1 l1 q2 _=> ?_
 refine (zE (hT.le l1)).mono ?_
 rintro _ F2 ⟨rfl,l2⟩
 have l12:=aa l1 l2
 have hv5:v.size=5:=by obtain ⟨⟨_,_,_,rfl,_⟩,_,_⟩:=hx;rfl
 refine ⟨_,rfl,v,hv5,ai (l2 _ _ q2),?_⟩
 refine (tj (hx.le l12)).mono ?_
 rintro _ F3 ⟨⟨w,rfl,hw⟩,l3⟩
 have l13:=aa l12 l3
 refine ⟨_,rfl,?_⟩
 refine uX hw.st (fun b6 F4 l4 q6=> ?_) rfl hw.size
 have l14:=aa l13 l4
 replace hw:=hw.le l4
 obtain ⟨mg,bd⟩:=C2 x
 generalize kT x=g at*
 have hO:=mg.ok bd (by decide) (by decide)
 have hE:=dD.2 hO
 have hz:=mg.sz bd
 have hm:=mg.sm bd (by decide) (by decide)
 have bc:=bd.c
 refine ⟨w,hw.size,ai q6,?_⟩
 refine (tE (hT.le l14) hw hz hm c0 c1).mono ?_
 rintro _ F5 ⟨⟨w5,rfl,hw5⟩,l5⟩
 refine ⟨_,_,rfl,?_⟩
 refine uX hw5.st (fun b7 F6 l6 q7=> ?_) rfl hw5.size
 have l56:=aa l5 l6
 have l16:=aa l14 l56
 refine ⟨w,hw.size,ai (l56 _ _ q6),?_⟩
 refine (nD (hT.le l16) (hw.le l56) hz c0 c1).mono ?_
 rintro _ F7 ⟨rfl,l7⟩
 have l17:=aa l16 l7
 have hi:inG g cf=inW g cf:=by unfold inG;rw [hE];exact Bool.true_and _
 have ha:lI g cf=if inW g cf=false then 1 else 0:=by unfold lI;rw [hE,if_neg (by decide)]
 rw [hi]
 cases hw':inW g cf with
 |false=>
  rw [hw',if_pos rfl] at ha
  rw [ha]
  exact ⟨_,rfl,fun _=>⟨fun _=>⟨rfl,l17⟩,fun hc=>absurd rfl hc⟩,fun hc=>(by cases hc)⟩
 |true=>
  rw [hw',if_neg (by decide)] at ha
  have hr:nE g cf=atG g cf:=by unfold nE;rw [ha,if_neg (by decide)]
  rw [ha]
  rw [hr] at hw5
  obtain ⟨c,m,t,s,p,l,f,rfl,hs⟩:=hw
  obtain ⟨c',m',t',s',p',l',f',rfl,hs'⟩:=hw5
  have l67:=aa l56 l7
  have K:CK F F7 g cf b6 b7 c m t s p l f c' m' t' s' p' l' f':=⟨l17,hT.le l17,hs.le l67,hs'.le (aa l6 l7),l67 _ _ q6,l7 _ _ q7,mg,bd,c0,c1⟩
  have gv:GV F7 ((atG g cf).arr c' m' t' s' p' l' f') (atG g cf):=⟨_,_,_,_,_,_,_,rfl,K.gs'⟩
  refine ⟨_,rfl,fun hc=>(by cases hc),fun _=>⟨fun hc=>absurd rfl hc,fun _=>⟨_,rfl,ai K.q7,?_⟩⟩⟩
  refine (dk K.hT gv (sR hz) (dD.2 (wu hO))).mono ?_
  rintro _ F8 ⟨rfl,l8⟩
  refine ⟨_,rfl,fun hc=>absurd rfl hc,fun _=>⟨_,rfl,ai (l8 _ _ K.q7),?_⟩⟩
  refine (nD (K.hT.le l8) (gv.le l8) (sR hz) (by decide) (by decide)).mono ?_
  rintro _ F9 ⟨rfl,l9⟩
  have l89:=aa l8 l9
  rw [zO hO]
  refine ⟨_,rfl,fun hc=>(by cases hc),fun _=>⟨_,rfl,ai (l89 _ _ K.q7),?_⟩⟩
  refine (nD (K.hT.le l89) (gv.le l89) (sR hz) (by decide) (by decide)).mono ?_
  rintro _ F10 ⟨rfl,l10⟩
  have l810:=aa l89 l10
  rw [GY]
  replace K:=K.le l810
  replace gv:=gv.le l810
  have et:=K.gs.t.len (by decide)
  have ep:=K.gs.p.len (by decide)
  have el:=K.gs.l.len (by decide)
  have ef:=K.gs.f.len (by decide)
  have et':=K.gs'.t.len (by decide)
  have ep':=K.gs'.p.len (by decide)
  have el':=K.gs'.l.len (by decide)
  have ef':=K.gs'.f.len (by decide)
  rw [show (atG g cf).toks.length=g.toks.length from List.length_map ..] at et'
  rw [show (atG g cf).prods.length=g.prods.length from List.length_map ..] at ep'
  rw [show (atG g cf).lvs.length=g.lvs.length from List.length_map ..] at el'
  rw [show (atG g cf).fils.length=g.fils.length from List.length_map ..] at ef'
  refine ⟨_,rfl,fun hc=>(by cases hc),fun _=>⟨_,ld K.q7 rfl,_,ld K.q6 rfl,fun hc=>absurd (by omega) hc,fun _=>⟨_,ld K.q7 rfl,_,ld K.q6 rfl,fun hc=>absurd (by omega) hc,fun _=>⟨_,ld K.q7 rfl,_,ld K.q6 rfl,fun hc=>absurd (by omega) hc,fun _=>⟨_,ld K.q7 rfl,_,ld K.q6 rfl,fun hc=>absurd (by omega) hc,fun _=>⟨_,rfl,ai K.q7,?_⟩⟩⟩⟩⟩⟩
  refine (fS K.hT gv (sR hz) (by show 0≤30;decide) 2).mono ?_
  rintro _ F11 ⟨⟨s9,rfl,hs9⟩,l11⟩
  rw [CS hO] at hs9 ⊢
  have e9:=hs9.len
  obtain ⟨b,o,h1,h2⟩:=hs9.cells (by simp at e9;omega)
  have e9:s9.len=1:=by simpa using e9.symm
  refine ⟨_,_,rfl,fun hc=>absurd (by omega) hc,fun _=>⟨_,h1,by decide,by omega,_,h2 0 (by simp),fun hc=>absurd rfl hc,fun _=>⟨fun hc=>(by cases hc),fun _=>Es (K.le l11)⟩⟩⟩
end Go.Proofs.YtenpmjhnhepfdaaGreatDoor
