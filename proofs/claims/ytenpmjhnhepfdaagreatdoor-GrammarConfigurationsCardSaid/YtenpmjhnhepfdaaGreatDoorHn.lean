/-
  Configs: the configurations of a family in ascending order.
-/
import Derived.Test.YtenpmjhnhepfdaaGreatDoorHk
namespace Go.Proofs.YtenpmjhnhepfdaaGreatDoor
open Go Go.Proofs.Tryz Tr
set_option maxRecDepth 10000
noncomputable def inW (g:Gr) (c:Int):Bool:=decide (Int.fdiv c (2 ^ min g.conds.length 64)=0) && cO g.fam c
theorem ju {F:PH} {v:Array Value} {g:Gr} (hg:GV F v g) {c:Int} (c0:0≤c) (c1:c<18446744073709551616):ac prog 81 #[.agg v,.int .u64 c] F fun r F'=>r=.bool (inW g c)∧F.le F':=by
 obtain ⟨c',n,t,s,p,l,f,rfl,hs⟩:=hg
 have ec:=hs.c.len (by decide)
 refine Py ?_
 unfold Mg
 refine fresh fun b2 F1 l1 q1 _=>⟨_,ld q1 rfl,by omega,fun h=>⟨#[n.v,vi g.fam.2],rfl,eA q1 rfl,?_⟩,fun h=>⟨?_,l1⟩⟩
 all_goals rw [Int.toNat_natCast,ec,show IntKind.u64.bits=64 from rfl] at h
 ·refine (cP (a:=g.fam) (DV.mk (hs.n.le l1)) c0 c1).mono ?_
  rintro _ F2 ⟨rfl,l2⟩
  refine ⟨_,rfl,?_,aa l1 l2⟩
  unfold inW
  rw [decide_eq_true h,Bool.true_and]
 ·unfold inW
  rw [decide_eq_false h,Bool.false_and]
noncomputable def inG (g:Gr) (c:Int):Bool:=decide (cd g=0) && inW g c
theorem nD {F:PH} {v:Array Value} {g:Gr} (hT:Tab F) (hg:GV F v g) (hz:Sz g) {c:Int} (c0:0≤c) (c1:c<18446744073709551616):ac prog 25 #[.agg v,.int .u64 c] F fun r F'=>r=.bool (inG g c)∧F.le F':=by
 refine Pi ?_
 unfold L3
 refine fresh fun b2 F1 l1 q1 _=>⟨v,hg.size,ai q1,?_⟩
 refine (dY (hT.le l1) (hg.le l1) hz).mono ?_
 rintro _ F2 ⟨rfl,l2⟩
 have l12:=aa l1 l2
 refine ⟨_,rfl,fun h=>⟨v,hg.size,ai (l2 _ _ q1),?_⟩,fun h=>⟨?_,l12⟩⟩
 ·refine (ju (hg.le l12) c0 c1).mono ?_
  rintro _ F3 ⟨rfl,l3⟩
  refine ⟨_,rfl,?_,aa l12 l3⟩
  unfold inG
  rw [decide_eq_true h,Bool.true_and]
 ·unfold inG
  rw [decide_eq_false h,Bool.false_and]
noncomputable def atD (d:Dia) (c:Int):Dia:=dia (leaf (cO d c))
noncomputable def atG (g:Gr) (c:Int):Gr:=
 {conds:=[],fam:=dia (leaf true),toks:=g.toks.map fun t=>{t with cond:=atD t.cond c},nons:=g.nons,prods:=g.prods.map fun p=>{p with cond:=atD p.cond c},start:=g.start,
  lvs:=g.lvs.map fun l=>{l with cond:=atD l.cond c},fils:=g.fils.map fun f=>{f with cond:=atD f.cond c}}
def gr0:Gr:=⟨[],([],0),[],[],[],0,[],[]⟩
theorem GV.zero (F:PH):GV F #[.slice none 0 0,.slice none 0 0,.int .i64 0,.slice none 0 0,.slice none 0 0,.slice none 0 0,.int .i64 0,.slice none 0 0,.slice none 0 0] gr0:=
 ⟨Sl.nil,Sl.nil,Sl.nil,Sl.nil,Sl.nil,Sl.nil,Sl.nil,rfl,RL.nil F,RL.nil F,RL.nil F,RL.nil F,RL.nil F,RL.nil F,RL.nil F⟩
noncomputable def lI (g:Gr) (c:Int):Int:=if cd g≠0 then cd g else if inW g c=false then 1 else 0
noncomputable def nE (g:Gr) (c:Int):Gr:=if lI g c≠0 then gr0 else atG g c
theorem jv {F:PH} {v:Array Value} {d:Dia} (hd:DV F v d) {b:Nat} {c:Int} (hc:F.cell ⟨b,0,none⟩=some (.int .u64 c)) (c0:0≤c) (c1:c<18446744073709551616):
  ac prog 82 #[.agg v,.pointer (some ⟨b,0,none⟩)] F fun r F'=>(∃n,r=.agg #[Sl.v n,vi (atD d c).2]∧RL F' n (atD d c).1)∧F.le F':=by
 refine Pz ?_
 unfold Mh
 refine fresh fun b2 F1 l1 q1 _=> ?_
 refine (St.start F1).new fun b3 F2 h=> ?_
 refine ⟨v,hd.size,ai (h.le _ _ q1),_,rfl,_,aq h.le (aq l1 hc),?_⟩
 refine h.runv (cP (hd.le l1) c0 c1) fun G3 F3 l3 h=>⟨_,rfl,?_⟩
 refine h.run (P:=fun r G=>∃w,r=.agg w∧DV G w (dia (leaf (cO d c)))) ((fg (cO d c)).mono fun r F' ⟨w,h1,h2,h3⟩=>⟨⟨w,h1,h2⟩,h3⟩) fun r G4 F4 hr l4 h=> ?_
 obtain ⟨w,rfl,s,rfl,hw⟩:=hr
 refine ⟨_,rfl,?_⟩
 refine h.put0 (w':= #[s.v,vi (atD d c).2]) rfl rfl (by simp [aj,Sl.v]) fun F5 h=>⟨_,rfl,h.whole0,⟨s,rfl,(RL.brs.2 hw).le h.le⟩,aa l1 (aa l3 (aa l4 h.le))⟩
abbrev eN (c n t s p l f:Sl) (root start:Int):Array Value:= #[c.v,n.v,vi root,t.v,s.v,p.v,vi start,l.v,f.v]
abbrev dX:Array Value:=eN Sl.nil Sl.nil Sl.nil Sl.nil Sl.nil Sl.nil Sl.nil 0 0
theorem ik (c n t s p l f:Sl) (root start:Int):∀v∈(eN c n t s p l f root start).toList,aj v:=by simp [aj,Sl.v]
section
variable {F1:PH} {g:Gr} {c:Int} {b2 b3 b4 b8:Nat} {sc sn st' ss sp sl sf:Sl} {R:VR} (hz:Sm g) (hs:GS F1 g sc sn st' ss sp sl sf) (q2:F1 b2=some (.cells (g.arr sc sn st' ss sp sl sf) 39))
 (hc:F1.cell ⟨b3,0,none⟩=some (.int .u64 c)) (c0:0≤c) (c1:c<18446744073709551616)
include hz hs q2 hc c0 c1
theorem NR {G F:PH} {n s t' p' l':Sl} {root start:Int} (l:F1.le G) (h:St G F [pt b8 (.cells (eN Sl.nil n t' s p' l' Sl.nil root start) 39),pt b4 (.cells dX 39)]) (ht:RL G t' (atG g c).toks) (hp:RL G p' (atG g c).prods) (hl:RL G l' (atG g c).lvs)
  (next:∀G' F' f',G.le G'→St G' F' [pt b8 (.cells (eN Sl.nil n t' s p' l' f' root start) 39),pt b4 (.cells dX 39)]→RL G' f' (atG g c).fils→sd b4 (some (Addr.mk b8 0 none)) R F'):
  oP b2 b4 b3 (some (Addr.mk b8 0 none)) R F:=by
 obtain ⟨bytes,z,T⟩:=Ju
 unfold oP
 have elen:=hs.f.len (by decide)
 have hmax:=hz.f
 refine ⟨_,ld (h.le _ _ (l _ _ q2)) rfl,?_⟩
 refine bH (v8 · b4 b3 (some (Addr.mk b8 0 none)) sf _) g.fils.length (fun k F'=>∃G' f' vs,G.le G'∧St G' F' [own f' 74 9 (cat vs),pt b8 (.cells (eN Sl.nil n t' s p' l' f' root start) 39),pt b4 (.cells dX 39)]∧cJ G' ((g.fils.take k).map fun x=>{x with cond:=atD x.cond c}) vs∧f'.len=k)
  ⟨G,Sl.nil,[],le_refl' _,h.nilOwn _ _,.nil,rfl⟩ ?_
 rintro k F3 N hk ⟨G3,f',vs,l3,h,hR,hlen⟩ next'
 have l13:=aa l l3
 unfold v8
 refine ⟨fun hlt=> ?_,fun hge=> ?_⟩
 ·have hlt:k<g.fils.length:=by omega
  refine h.ix (hs.f.le l13) (by decide) (by omega) (by omega) fun a cc x hx hr hc'=> ?_
  rw [Int.toNat_natCast] at hx
  have hxm:x∈g.fils:=List.mem_of_getElem? hx
  have hst:=Mem.st hc'
  obtain ⟨tt,nn,rfl,hp,hn⟩:=hc'
  refine ⟨x.arr tt nn,rfl,hr,?_⟩
  refine h.new fun b10 F4 h=> ?_
  refine h.put0 (w':=x.arr tt nn) rfl rfl hst fun F5 h=> ?_
  refine ⟨_,h.ld0 rfl,#[nn.v,vi x.cond.2],rfl,h.row0 rfl,?_⟩
  refine h.run (P:=fun r G=>∃s',r=Sl.v s'∧RL G s' x.toks) (qn hp (hz.fi x hxm).1) fun r G5 F5 hr5 l5 h=> ?_
  obtain ⟨sp5,rfl,hsp⟩:=hr5
  refine ⟨_,rfl,h.row0 rfl,?_⟩
  refine h.run (P:=fun r G=>∃n,r=.agg #[Sl.v n,vi (atD x.cond c).2]∧RL G n (atD x.cond c).1) (jv (d:=x.cond) (DV.mk (hn.le l5)) (aq (aa l13 l5) hc) c0 c1) fun r G6 F6 hr6 l6 h=> ?_
  obtain ⟨sn6,rfl,hsn⟩:=hr6
  refine ⟨_,rfl,?_⟩
  refine h.set0 (w':=x.arr sp5 nn) (by simp) rfl fun F7 h=> ?_
  refine h.putR0 (w':=({x with cond:=atD x.cond c}:Fi).arr sp5 sn6) rfl (by simp [aj,Sl.v]) (by simp) rfl fun F8 h=> ?_
  refine ⟨_,rfl,_,by rw [aJ];exact h.ld2 rfl,_,rfl,h.whole0,rfl,?_⟩
  refine h.push1 T rfl (by simp [aj,Sl.v]) (by omega) fun s9 G9 F9 l9 h hl9=> ?_
  rw [aJ]
  refine h.set2 (w':=eN Sl.nil n t' s p' l' s9 root start) (by simp) rfl fun F10 h=> ?_
  rw [aO hlt (by omega)]
  have lall:=aa l5 (aa l6 l9)
  refine next' _ hlt ⟨G9,s9,vs++[({x with cond:=atD x.cond c}:Fi).arr sp5 sn6],aa l3 lall,?_,?_,by omega⟩
  ·rw [bT,cI]
   exact h.tail
  ·rw [aV hx,List.map_append]
   exact (hR.le lall).append (.cons ⟨sp5,sn6,rfl,hsp.le (aa l6 l9),hsn.le l9⟩ .nil)
 ·have e:k=g.fils.length:=by omega
  subst e
  rw [List.take_length] at hR
  refine h.pinOwn (K:=fun F3=>sd b4 (some (Addr.mk b8 0 none)) R F3) fun G4 l4 hrd h=> ?_
  exact next G4 F3 f' (aa l3 l4) h ⟨vs,hR.le l4,hrd⟩
theorem NS {G F:PH} {n s t' p':Sl} {root start:Int} (l:F1.le G) (h:St G F [pt b8 (.cells (eN Sl.nil n t' s p' Sl.nil Sl.nil root start) 39),pt b4 (.cells dX 39)]) (ht:RL G t' (atG g c).toks) (hp:RL G p' (atG g c).prods)
  (next:∀G' F' l',G.le G'→St G' F' [pt b8 (.cells (eN Sl.nil n t' s p' l' Sl.nil root start) 39),pt b4 (.cells dX 39)]→RL G' l' (atG g c).lvs→oP b2 b4 b3 (some (Addr.mk b8 0 none)) R F'):
  oQ b2 b4 b3 (some (Addr.mk b8 0 none)) R F:=by
 obtain ⟨bytes,z,T⟩:=Jt
 unfold oQ
 have elen:=hs.l.len (by decide)
 have hmax:=hz.l
 refine ⟨_,ld (h.le _ _ (l _ _ q2)) rfl,?_⟩
 refine bH (v9 · b2 b4 b3 (some (Addr.mk b8 0 none)) sl _) g.lvs.length (fun k F'=>∃G' l' vs,G.le G'∧St G' F' [own l' 72 4 (cat vs),pt b8 (.cells (eN Sl.nil n t' s p' l' Sl.nil root start) 39),pt b4 (.cells dX 39)]∧cJ G' ((g.lvs.take k).map fun x=>{x with cond:=atD x.cond c}) vs∧l'.len=k)
  ⟨G,Sl.nil,[],le_refl' _,h.nilOwn _ _,.nil,rfl⟩ ?_
 rintro k F3 N hk ⟨G3,l',vs,l3,h,hR,hlen⟩ next'
 have l13:=aa l l3
 unfold v9
 refine ⟨fun hlt=> ?_,fun hge=> ?_⟩
 ·have hlt:k<g.lvs.length:=by omega
  refine h.ix (hs.l.le l13) (by decide) (by omega) (by omega) fun a cc x hx hr hc'=> ?_
  rw [Int.toNat_natCast] at hx
  have hxm:x∈g.lvs:=List.mem_of_getElem? hx
  have hst:=Mem.st hc'
  obtain ⟨tt,nn,rfl,hp,hn⟩:=hc'
  refine ⟨x.arr tt nn,rfl,hr,?_⟩
  refine h.new fun b10 F4 h=> ?_
  refine h.put0 (w':=x.arr tt nn) rfl rfl hst fun F5 h=> ?_
  refine ⟨_,h.ld0 rfl,#[nn.v,vi x.cond.2],rfl,h.row0 rfl,?_⟩
  refine h.run (P:=fun r G=>∃s',r=Sl.v s'∧RL G s' x.ps) (qn hp (hz.li x hxm).1) fun r G5 F5 hr5 l5 h=> ?_
  obtain ⟨sp5,rfl,hsp⟩:=hr5
  refine ⟨_,rfl,h.row0 rfl,?_⟩
  refine h.run (P:=fun r G=>∃n,r=.agg #[Sl.v n,vi (atD x.cond c).2]∧RL G n (atD x.cond c).1) (jv (d:=x.cond) (DV.mk (hn.le l5)) (aq (aa l13 l5) hc) c0 c1) fun r G6 F6 hr6 l6 h=> ?_
  obtain ⟨sn6,rfl,hsn⟩:=hr6
  refine ⟨_,rfl,?_⟩
  refine h.set0 (w':=x.arr sp5 nn) (by simp) rfl fun F7 h=> ?_
  refine h.putR0 (w':=({x with cond:=atD x.cond c}:Lv).arr sp5 sn6) rfl (by simp [aj,Sl.v]) (by simp) rfl fun F8 h=> ?_
  refine ⟨_,rfl,_,by rw [aJ];exact h.ld2 rfl,_,rfl,h.whole0,rfl,?_⟩
  refine h.push1 T rfl (by simp [aj,Sl.v]) (by omega) fun s9 G9 F9 l9 h hl9=> ?_
  rw [aJ]
  refine h.set2 (w':=eN Sl.nil n t' s p' s9 Sl.nil root start) (by simp) rfl fun F10 h=> ?_
  rw [aO hlt (by omega)]
  have lall:=aa l5 (aa l6 l9)
  refine next' _ hlt ⟨G9,s9,vs++[({x with cond:=atD x.cond c}:Lv).arr sp5 sn6],aa l3 lall,?_,?_,by omega⟩
  ·rw [bT,cI]
   exact h.tail
  ·rw [aV hx,List.map_append]
   exact (hR.le lall).append (.cons ⟨sp5,sn6,rfl,hsp.le (aa l6 l9),hsn.le l9⟩ .nil)
 ·have e:k=g.lvs.length:=by omega
  subst e
  rw [List.take_length] at hR
  refine h.pinOwn (K:=fun F3=>oP b2 b4 b3 (some (Addr.mk b8 0 none)) R F3) fun G4 l4 hrd h=> ?_
  exact next G4 F3 l' (aa l3 l4) h ⟨vs,hR.le l4,hrd⟩
theorem NT {G F:PH} {n s t':Sl} {root start:Int} (l:F1.le G) (h:St G F [pt b8 (.cells (eN Sl.nil n t' s Sl.nil Sl.nil Sl.nil root start) 39),pt b4 (.cells dX 39)]) (ht:RL G t' (atG g c).toks)
  (next:∀G' F' p',G.le G'→St G' F' [pt b8 (.cells (eN Sl.nil n t' s p' Sl.nil Sl.nil root start) 39),pt b4 (.cells dX 39)]→RL G' p' (atG g c).prods→oQ b2 b4 b3 (some (Addr.mk b8 0 none)) R F'):
  oR b2 b4 b3 (some (Addr.mk b8 0 none)) R F:=by
 obtain ⟨bytes,z,T⟩:=Di
 unfold oR
 have elen:=hs.p.len (by decide)
 have hmax:=hz.p
 refine ⟨_,ld (h.le _ _ (l _ _ q2)) rfl,?_⟩
 refine bH (wa · b2 b4 b3 (some (Addr.mk b8 0 none)) sp _) g.prods.length (fun k F'=>∃G' p' vs,G.le G'∧St G' F' [own p' 67 13 (cat vs),pt b8 (.cells (eN Sl.nil n t' s p' Sl.nil Sl.nil root start) 39),pt b4 (.cells dX 39)]∧cJ G' ((g.prods.take k).map fun x=>{x with cond:=atD x.cond c}) vs∧p'.len=k)
  ⟨G,Sl.nil,[],le_refl' _,h.nilOwn _ _,.nil,rfl⟩ ?_
 rintro k F3 N hk ⟨G3,p',vs,l3,h,hR,hlen⟩ next'
 have l13:=aa l l3
 unfold wa
 refine ⟨fun hlt=> ?_,fun hge=> ?_⟩
 ·have hlt:k<g.prods.length:=by omega
  refine h.ix (hs.p.le l13) (by decide) (by omega) (by omega) fun a cc x hx hr hc'=> ?_
  rw [Int.toNat_natCast] at hx
  have hxm:x∈g.prods:=List.mem_of_getElem? hx
  have hst:=Mem.st hc'
  obtain ⟨tt,nn,mm,rfl,hp,hn,hm⟩:=hc'
  refine ⟨x.arr tt nn mm,rfl,hr,?_⟩
  refine h.new fun b10 F4 h=> ?_
  refine h.put0 (w':=x.arr tt nn mm) rfl rfl hst fun F5 h=> ?_
  refine ⟨_,h.ld0 rfl,_,h.ld0 rfl,#[nn.v,vi x.cond.2],rfl,h.row0 rfl,?_⟩
  refine h.run (P:=fun r G=>∃s',r=Sl.v s'∧RL G s' x.right) (AI hp (hz.pi x hxm).1) fun r G5 F5 hr5 l5 h=> ?_
  obtain ⟨sp5,rfl,hsp⟩:=hr5
  refine ⟨_,rfl,h.row0 rfl,h.ld0 rfl,?_⟩
  refine h.run (P:=fun r G=>∃s',r=Sl.v s'∧RL G s' x.lay) (AJ (hm.le l5) (hz.pi x hxm).2.2) fun r G6 F6 hr6 l6 h=> ?_
  obtain ⟨sm6,rfl,hsm⟩:=hr6
  refine ⟨_,rfl,h.row0 rfl,?_⟩
  refine h.run (P:=fun r G=>∃n,r=.agg #[Sl.v n,vi (atD x.cond c).2]∧RL G n (atD x.cond c).1) (jv (d:=x.cond) (DV.mk (hn.le (aa l5 l6))) (aq (aa l13 (aa l5 l6)) hc) c0 c1) fun r G7 F7 hr7 l7 h=> ?_
  obtain ⟨sn7,rfl,hsn⟩:=hr7
  refine ⟨_,rfl,?_⟩
  refine h.set0 (w':=x.arr sp5 nn mm) (by simp) rfl fun F7 h=> ?_
  refine h.set0 (w':=x.arr sp5 nn sm6) (by simp) rfl fun F7 h=> ?_
  refine h.putR0 (w':=({x with cond:=atD x.cond c}:Pr).arr sp5 sn7 sm6) rfl (by simp [aj,Sl.v]) (by simp) rfl fun F8 h=> ?_
  refine ⟨_,rfl,_,by rw [aJ];exact h.ld2 rfl,_,rfl,h.whole0,rfl,?_⟩
  refine h.push1 T rfl (by simp [aj,Sl.v]) (by omega) fun s9 G9 F9 l9 h hl9=> ?_
  rw [aJ]
  refine h.set2 (w':=eN Sl.nil n t' s s9 Sl.nil Sl.nil root start) (by simp) rfl fun F10 h=> ?_
  rw [aO hlt (by omega)]
  have lall:=aa l5 (aa l6 (aa l7 l9))
  refine next' _ hlt ⟨G9,s9,vs++[({x with cond:=atD x.cond c}:Pr).arr sp5 sn7 sm6],aa l3 lall,?_,?_,by omega⟩
  ·rw [bT,cI]
   exact h.tail
  ·rw [aV hx,List.map_append]
   exact (hR.le lall).append (.cons ⟨sp5,sn7,sm6,rfl,hsp.le (aa l6 (aa l7 l9)),hsn.le l9,hsm.le (aa l7 l9)⟩ .nil)
 ·have e:k=g.prods.length:=by omega
  subst e
  rw [List.take_length] at hR
  refine h.pinOwn (K:=fun F3=>oQ b2 b4 b3 (some (Addr.mk b8 0 none)) R F3) fun G4 l4 hrd h=> ?_
  exact next G4 F3 p' (aa l3 l4) h ⟨vs,hR.le l4,hrd⟩
theorem NU {G F:PH} {n s:Sl} {root start:Int} (l:F1.le G) (h:St G F [pt b8 (.cells (eN Sl.nil n Sl.nil s Sl.nil Sl.nil Sl.nil root start) 39),pt b4 (.cells dX 39)])
  (next:∀G' F' t',G.le G'→St G' F' [pt b8 (.cells (eN Sl.nil n t' s Sl.nil Sl.nil Sl.nil root start) 39),pt b4 (.cells dX 39)]→RL G' t' (atG g c).toks→oR b2 b4 b3 (some (Addr.mk b8 0 none)) R F'):
  kP b2 b4 b3 (some (Addr.mk b8 0 none)) R F:=by
 obtain ⟨bytes,z,T⟩:=Hv
 unfold kP
 have elen:=hs.t.len (by decide)
 have hmax:=hz.t
 refine ⟨_,ld (h.le _ _ (l _ _ q2)) rfl,?_⟩
 refine bH (wb · b2 b4 b3 (some (Addr.mk b8 0 none)) st' _) g.toks.length (fun k F'=>∃G' t' vs,G.le G'∧St G' F' [own t' 79 7 (cat vs),pt b8 (.cells (eN Sl.nil n t' s Sl.nil Sl.nil Sl.nil root start) 39),pt b4 (.cells dX 39)]∧cJ G' ((g.toks.take k).map fun x=>{x with cond:=atD x.cond c}) vs∧t'.len=k)
  ⟨G,Sl.nil,[],le_refl' _,h.nilOwn _ _,.nil,rfl⟩ ?_
 rintro k F3 N hk ⟨G3,t',vs,l3,h,hR,hlen⟩ next'
 have l13:=aa l l3
 unfold wb
 refine ⟨fun hlt=> ?_,fun hge=> ?_⟩
 ·have hlt:k<g.toks.length:=by omega
  refine h.ix (hs.t.le l13) (by decide) (by omega) (by omega) fun a cc x hx hr hc'=> ?_
  rw [Int.toNat_natCast] at hx
  have hxm:x∈g.toks:=List.mem_of_getElem? hx
  have hst:=Mem.st hc'
  obtain ⟨tt,nn,rfl,hp,hn⟩:=hc'
  refine ⟨x.arr tt nn,rfl,hr,?_⟩
  refine h.new fun b10 F4 h=> ?_
  refine h.put0 (w':=x.arr tt nn) rfl rfl hst fun F5 h=> ?_
  refine ⟨_,h.ld0 rfl,#[nn.v,vi x.cond.2],rfl,h.row0 rfl,?_⟩
  refine h.run (P:=fun r G=>∃s',r=Sl.v s'∧RL G s' x.pat) (AH hp (hz.ti x hxm).1) fun r G5 F5 hr5 l5 h=> ?_
  obtain ⟨sp5,rfl,hsp⟩:=hr5
  refine ⟨_,rfl,h.row0 rfl,?_⟩
  refine h.run (P:=fun r G=>∃n,r=.agg #[Sl.v n,vi (atD x.cond c).2]∧RL G n (atD x.cond c).1) (jv (d:=x.cond) (DV.mk (hn.le l5)) (aq (aa l13 l5) hc) c0 c1) fun r G6 F6 hr6 l6 h=> ?_
  obtain ⟨sn6,rfl,hsn⟩:=hr6
  refine ⟨_,rfl,?_⟩
  refine h.set0 (w':=x.arr sp5 nn) (by simp) rfl fun F7 h=> ?_
  refine h.putR0 (w':=({x with cond:=atD x.cond c}:Tk).arr sp5 sn6) rfl (by simp [aj,Sl.v]) (by simp) rfl fun F8 h=> ?_
  refine ⟨_,rfl,_,by rw [aJ];exact h.ld2 rfl,_,rfl,h.whole0,rfl,?_⟩
  refine h.push1 T rfl (by simp [aj,Sl.v]) (by omega) fun s9 G9 F9 l9 h hl9=> ?_
  rw [aJ]
  refine h.set2 (w':=eN Sl.nil n s9 s Sl.nil Sl.nil Sl.nil root start) (by simp) rfl fun F10 h=> ?_
  rw [aO hlt (by omega)]
  have lall:=aa l5 (aa l6 l9)
  refine next' _ hlt ⟨G9,s9,vs++[({x with cond:=atD x.cond c}:Tk).arr sp5 sn6],aa l3 lall,?_,?_,by omega⟩
  ·rw [bT,cI]
   exact h.tail
  ·rw [aV hx,List.map_append]
   exact (hR.le lall).append (.cons ⟨sp5,sn6,rfl,hsp.le (aa l6 l9),hsn.le l9⟩ .nil)
 ·have e:k=g.toks.length:=by omega
  subst e
  rw [List.take_length] at hR
  refine h.pinOwn (K:=fun F3=>oR b2 b4 b3 (some (Addr.mk b8 0 none)) R F3) fun G4 l4 hrd h=> ?_
  exact next G4 F3 t' (aa l3 l4) h ⟨vs,hR.le l4,hrd⟩
end
theorem tE {F:PH} {v:Array Value} {g:Gr} (hT:Tab F) (hg:GV F v g) (hz:Sz g) (hm:Sm g) {c:Int} (c0:0≤c) (c1:c<18446744073709551616):
  ac prog 21 #[.agg v,.int .u64 c] F fun r F'=>(∃w,r=.tuple #[.agg w,vi (lI g c)]∧GV F' w (nE g c))∧F.le F':=by
 have hg0:=hg
 obtain ⟨sc,sn,st',ss,sp,sl,sf,rfl,hs⟩:=hg
 refine Pg ?_
 unfold LZ
 refine fresh fun b2 F1 l1 q2 _=> ?_
 refine fresh fun b3 F2 l2 q3 _=> ?_
 replace l1:=aa l1 l2
 replace q2:=l2 _ _ q2
 refine (St.start F2).new fun b4 F3 h=>⟨_,hg0.size,ai (h.le _ _ q2),?_⟩
 refine h.runv (dY (hT.le l1) (hg0.le l1) hz) fun G4 F4 l4 h=>⟨_,rfl,fun hb=> ?_,fun hb=>⟨_,hg0.size,ai (h.le _ _ (l4 _ _ q2)),_,ld (h.le _ _ (l4 _ _ q3)) rfl,?_⟩⟩
 ·refine h.put0 (w':=dX) rfl rfl (ik _ _ _ _ _ _ _ _ _) fun F5 h=>⟨_,rfl,h.whole0,⟨dX,?_,?_⟩,aa l1 (aa l4 h.le)⟩
  ·rw [show lI g c=cd g from if_pos hb]
  ·rw [show nE g c=gr0 by unfold nE lI;rw [if_pos hb,if_pos hb]]
   exact GV.zero _
 have hb:cd g=0:=Classical.not_not.1 hb
 refine h.runv (ju (hg0.le (aa l1 l4)) c0 c1) fun G5 F5 l5 h=>⟨_,rfl,fun hw=> ?_,fun hw=> ?_⟩
 ·have hw:inW g c=false:=by simpa using hw
  have e1:lI g c=1:=by unfold lI;rw [if_neg (fun h=>h hb),if_pos hw]
  refine h.put0 (w':=dX) rfl rfl (ik _ _ _ _ _ _ _ _ _) fun F5 h=>⟨_,rfl,h.whole0,⟨dX,?_,?_⟩,aa l1 (aa l4 (aa l5 h.le))⟩
  ·rw [e1]
  ·rw [show nE g c=gr0 by unfold nE;rw [e1];rfl]
   exact GV.zero _
 have hw:inW g c=true:=by simpa using hw
 have e1:lI g c=0:=by unfold lI;rw [if_neg (fun h=>h hb),if_neg (by rw [hw];decide)]
 have e2:nE g c=atG g c:=by unfold nE;rw [if_neg (fun h=>h e1)]
 rw [e1,e2]
 have l25:=aa l4 l5
 replace q2:=l25 _ _ q2
 replace q3:=l25 _ _ q3
 replace l1:=aa l1 l25
 replace hs:=hs.le l1
 have j1:∀G6 F6 b8 n s,G5.le G6→St G6 F6 [pt b8 (.cells (eN Sl.nil n Sl.nil s Sl.nil Sl.nil Sl.nil (dia (leaf true)).2 g.start) 39),pt b4 (.cells dX 39)]→RL G6 n (dia (leaf true)).1→RL G6 s g.nons→
   kP b2 b4 b3 (some (Addr.mk b8 0 none)) (fun r F'=>(∃w,r=.tuple #[.agg w,vi 0]∧GV F' w (atG g c))∧F.le F') F6:=fun G6 F6 b8 n s l6 h hn hns=>by
  refine NU hm hs q2 (ld q3 rfl) c0 c1 l6 h fun G7 F7 t' l7 h ht=> ?_
  refine NT hm hs q2 (ld q3 rfl) c0 c1 (aa l6 l7) h ht fun G8 F8 p' l8 h hp=> ?_
  refine NS hm hs q2 (ld q3 rfl) c0 c1 (aa l6 (aa l7 l8)) h (ht.le l8) hp fun G9 F9 l' l9 h hl=> ?_
  refine NR hm hs q2 (ld q3 rfl) c0 c1 (aa l6 (aa l7 (aa l8 l9))) h (ht.le (aa l8 l9)) (hp.le l9) hl fun G10 F10 f' l10 h hf=> ?_
  unfold sd
  refine ⟨_,rfl,_,rfl,h.whole0,?_⟩
  refine h.put1 (w':=eN Sl.nil n t' s p' l' f' (dia (leaf true)).2 g.start) rfl rfl (ik _ _ _ _ _ _ _ _ _) fun F11 h=>⟨_,rfl,h.whole1,⟨_,rfl,?_⟩,aa l1 (aa l6 (aa l7 (aa l8 (aa l9 (aa l10 h.le)))))⟩
  exact ⟨Sl.nil,n,t',s,p',l',f',rfl,RL.nil _,(hn.le (aa l7 (aa l8 (aa l9 l10)))).le h.le,(ht.le (aa l8 (aa l9 l10))).le h.le,(hns.le (aa l7 (aa l8 (aa l9 l10)))).le h.le,(hp.le (aa l9 l10)).le h.le,(hl.le l10).le h.le,hf.le h.le⟩
 have cn:∀{G:PH},ac prog 30 #[.bool true] G fun r F'=>(∃n,r=.agg #[Sl.v n,vi (dia (leaf true)).2]∧RL F' n (dia (leaf true)).1)∧G.le F':=fun {G}=>(fg true).mono fun r F' ⟨w,h1,⟨s,h4,h5⟩,h3⟩=>⟨⟨s,by rw [h1,h4],RL.brs.2 h5⟩,h3⟩
 refine ⟨_,ld (h.le _ _ q2) rfl,_,ld (h.le _ _ q2) rfl,⟨?_,?_⟩⟩
 ·refine h.run (P:=fun r G=>∃n,r=.agg #[Sl.v n,vi (dia (leaf true)).2]∧RL G n (dia (leaf true)).1) cn fun r G6 F6 hr l6 h=> ?_
  obtain ⟨n,rfl,hn⟩:=hr
  refine ⟨_,rfl,ld (h.le _ _ (l6 _ _ q2)) rfl,ld (h.le _ _ (l6 _ _ q2)) rfl,⟨?_,?_⟩⟩
  ·refine h.run (P:=fun r G=>∃s',r=Sl.v s'∧RL G s' g.nons) (kC (hs.s.le l6) hm.s) fun r G7 F7 hr l7 h=> ?_
   obtain ⟨s,rfl,hns⟩:=hr
   refine ⟨_,rfl,ld (h.le _ _ (l7 _ _ (l6 _ _ q2))) rfl,rfl,?_⟩
   refine h.new fun b8 F8 h=> ?_
   refine h.put0 (w':=eN Sl.nil n Sl.nil s Sl.nil Sl.nil Sl.nil (dia (leaf true)).2 g.start) rfl rfl (ik _ _ _ _ _ _ _ _ _) fun F9 h=> ?_
   exact j1 G7 F9 b8 n s (aa l6 l7) h (hn.le l7) hns
  ·refine h.new fun b8 F8 h=> ?_
   refine h.run (P:=fun r G=>∃s',r=Sl.v s'∧RL G s' g.nons) (kC (hs.s.le l6) hm.s) fun r G7 F7 hr l7 h=> ?_
   obtain ⟨s,rfl,hns⟩:=hr
   refine ⟨_,rfl,ld (h.le _ _ (l7 _ _ (l6 _ _ q2))) rfl,rfl,?_⟩
   refine h.put0 (w':=eN Sl.nil n Sl.nil s Sl.nil Sl.nil Sl.nil (dia (leaf true)).2 g.start) rfl rfl (ik _ _ _ _ _ _ _ _ _) fun F9 h=> ?_
   exact j1 G7 F9 b8 n s (aa l6 l7) h (hn.le l7) hns
 ·refine h.new fun b8 F8 h=> ?_
  refine h.run (P:=fun r G=>∃n,r=.agg #[Sl.v n,vi (dia (leaf true)).2]∧RL G n (dia (leaf true)).1) cn fun r G6 F6 hr l6 h=> ?_
  obtain ⟨n,rfl,hn⟩:=hr
  refine ⟨_,rfl,ld (h.le _ _ (l6 _ _ q2)) rfl,ld (h.le _ _ (l6 _ _ q2)) rfl,?_⟩
  refine h.run (P:=fun r G=>∃s',r=Sl.v s'∧RL G s' g.nons) (kC (hs.s.le l6) hm.s) fun r G7 F7 hr l7 h=> ?_
  obtain ⟨s,rfl,hns⟩:=hr
  refine ⟨_,rfl,ld (h.le _ _ (l7 _ _ (l6 _ _ q2))) rfl,rfl,?_⟩
  refine h.put0 (w':=eN Sl.nil n Sl.nil s Sl.nil Sl.nil Sl.nil (dia (leaf true)).2 g.start) rfl rfl (ik _ _ _ _ _ _ _ _ _) fun F9 h=> ?_
  exact j1 G7 F9 b8 n s (aa l6 l7) h (hn.le l7) hns
instance (t:Tr):Decidable (t=leaf false):=match t with
 |leaf true=>isFalse (by simp)
 |leaf false=>isTrue rfl
 |node _ _ _=>isFalse (by simp)
noncomputable def dM:Nat→Tr→Nat→List Nat
 |0,t,a=>if t=leaf false then [] else [a]
 |n+1,t,a=>if t=leaf false then [] else dM n (fx n false t) a++dM n (fx n true t) (a+2 ^ n)
theorem du (n a:Nat):dM n (leaf false) a=[]:=by cases n<;>simp [dM]
theorem bP {n:Nat} {b:Bool}:∀(t:Tr),t.ok→bU (n+1) t→bU n (fx n b t)
 |leaf x,_,_=>by rw [gh];trivial
 |node v l h,hk,⟨b0,b1,b2⟩=>by
  have hf:=mr (w:=n) (b:=b) hk
  obtain ⟨h0,h1,h2,h3,h4,h5⟩:=hk
  rw [hf]
  split
  ·split
   ·exact bP h h5 b2
   ·exact bP l h4 b1
  ·exact oI (by omega) (bP l h4 b1) (bP h h5 b2)
theorem lT (c i:Nat):cfg (c:Int) i=c.testBit i:=by simp [cfg]
theorem Dh {n c:Nat} (h:c<2 ^ n):(cfg (c:Int)).set n false=cfg (c:Int):=by
 funext i
 unfold Cf.set
 split
 ·rename_i e
  subst e
  rw [lT,Nat.testBit_lt_two_pow h]
 ·rfl
theorem AE {n c:Nat} (h:c<2 ^ n):(cfg (c:Int)).set n true=cfg ((2 ^ n+c:Nat):Int):=by
 funext i
 unfold Cf.set
 split
 ·rename_i e
  subst e
  rw [lT,Nat.testBit_two_pow_add_eq,Nat.testBit_lt_two_pow h]
  rfl
 ·rename_i e
  rw [lT,lT]
  by_cases hi:i<n
  ·rw [Nat.testBit_two_pow_add_gt hi]
  ·have h1:2 ^ n+c<2 ^ i:=by
    have:2 ^ (n+1)≤2 ^ i:=Nat.pow_le_pow_right (by decide) (by omega)
    rw [Nat.pow_succ] at this
    omega
   rw [Nat.testBit_lt_two_pow h1,Nat.testBit_lt_two_pow (by omega)]
theorem jw:∀(n:Nat) (t:Tr),t.ok→bU n t→∀a,dM n t a=((List.range (2 ^ n)).filter fun c=>t.ev (cfg (c:Nat))).map (a+ ·)
 |0,t,_,hb,a=>by
  cases t with
  |node v l h=>exact absurd hb.1 (by omega)
  |leaf x=>
   cases x
   ·rw [du];simp [Tr.ev]
   ·simp [dM,Tr.ev,List.range_succ]
 |n+1,t,hk,hb,a=>by
  by_cases ht:t=leaf false
  ·subst ht
   rw [du]
   simp [Tr.ev]
  ·rw [dM,if_neg ht]
   obtain ⟨k0,_,e0⟩:=cC n false hk
   obtain ⟨k1,_,e1⟩:=cC n true hk
   rw [jw n _ k0 (bP t hk hb),jw n _ k1 (bP t hk hb)]
   rw [show 2 ^ (n+1)=2 ^ n+2 ^ n by rw [Nat.pow_succ];omega,List.range_add,List.filter_append,List.map_append]
   congr 1
   ·congr 1
    apply List.filter_congr
    intro c hc
    rw [e0,Dh (List.mem_range.1 hc)]
   ·rw [List.filter_map,List.map_map]
    have:((fun c=>t.ev (cfg (c:Nat)))∘fun x=>2 ^ n+x)=fun c=>t.ev (cfg ((2 ^ n+c:Nat):Int)):=rfl
    rw [this]
    have hf:(List.range (2 ^ n)).filter (fun c=>(fx n true t).ev (cfg (c:Nat)))=(List.range (2 ^ n)).filter fun c=>t.ev (cfg ((2 ^ n+c:Nat):Int)):=by
     apply List.filter_congr
     intro c hc
     rw [e1,AE (List.mem_range.1 hc)]
    rw [hf]
    apply List.map_congr_left
    intro c _
    simp only [Function.comp_apply]
    omega
theorem ql (n:Nat) (t:Tr) (hk:t.ok) (hb:bU n t) (a:Nat):(dM n t a).length≤2 ^ n:=by
 rw [jw n t hk hb,List.length_map]
 exact Nat.le_trans (List.length_filter_le _ _) (by simp)
theorem yX {d:Dia} {n:Nat} (h:fV d n):∃t:Tr,t.ok∧d=dia t∧tre d=t∧(aG t).length≤4096∧bU n t:=by
 obtain ⟨h1,h2⟩:=h
 unfold chk at h1
 split at h1
 ·cases h1
 ·rename_i hl
  split at h1
  ·rename_i hv
   obtain ⟨t,ht,rfl⟩:=hv
   refine ⟨t,ht,rfl,jV ht,by simpa [dia,aM] using hl,?_⟩
   refine oN (cu ht) (fun x hx=> ?_) t (bY ht)
   obtain ⟨_,v,l,r,rfl,_,_⟩:=(cu ht).mem x hx
   have:=h2 (br (aG t) (node v l r)) (List.mem_map.2 ⟨_,hx,rfl⟩)
   simp only [br] at this
   simp only [top]
   omega
  ·cases h1
abbrev vC (c:Nat):Value:=.int .u64 (c:Int)
theorem uP:aB prog 91=true:=by kernel_rfl
theorem AG {t:Tr} (hk:t.ok) (hl:(aG t).length≤4096) {n:Nat} (hn:n<64) (b:Bool):pK (dia t) (n:Int) b=(dia (fx n b t),0):=by
 have h1:=ms hk hl
 have h2:=kM (w:=n) (b:=b) hk
 unfold pK
 rw [if_neg (fun h=>h h1),if_neg (by omega),jV hk,Int.toNat_natCast]
 unfold lim
 rw [if_neg (by simp only [dia,aM];omega)]
theorem yY {G0:PH} {b3 b6 b7:Nat} {most:Int} (h3:G0.cell ⟨b3,0,none⟩=some (vi most)) (h7:G0.cell ⟨b7,0,none⟩=some (.func (.func 91) #[] #[.pointer (some ⟨b6,0,none⟩),.pointer (some ⟨b3,0,none⟩),.pointer (some ⟨b7,0,none⟩)])):
  ∀(n:Nat),n≤30→∀(t:Tr) (above:Nat) (out:List Nat) (G F:PH) (s:Sl) (v:Array Value),t.ok→(aG t).length≤4096→bU n t→above % 2 ^ n=0→above+2 ^ n≤2 ^ 63→G0.le G→DV G v (dia t)→(out.length:Int)≤most→out.length+2 ^ n≤2 ^ 31→
   St G F [own s 54 1 (out.map vC),pt b6 (.cells #[s.v] 57)]→
   ac prog 91 #[.agg v,vi n,.int .u64 above,.pointer (some ⟨b6,0,none⟩),.pointer (some ⟨b3,0,none⟩),.pointer (some ⟨b7,0,none⟩)] F
    fun r F'=>∃G' s',r=.bool (decide ((out.length+(dM n t above).length:Nat)≤most))∧G.le G'∧St G' F' [own s' 54 1 (((out++dM n t above).take most.toNat).map vC),pt b6 (.cells #[s'.v] 57)]:=by
 intro n
 induction n with
 |zero=>
  intro _ t above out G F s v hk hl hb ha ha2 l0 hd hm hlen h
  obtain ⟨sn,rfl,hn⟩:=hd
  refine Mi ?_
  unfold Jd
  refine h.newG fun b F1 F2 l1 q1 _ h=>⟨_,ld (h.le _ _ q1) rfl,fun h0=> ?_,fun h0=>⟨fun _=> ?_,fun h=>absurd rfl h⟩⟩
  ·have e:t=leaf false:=uu.1 (Int.natCast_eq_zero.1 h0)
   subst e
   refine ⟨F1,s,?_,l1,?_⟩
   ·rw [du,decide_eq_true (by simpa using hm)]
   ·rw [du,List.append_nil,List.take_of_length_le (by omega)]
    exact h
  ·have e:t≠leaf false:=fun e=>h0 (by rw [e];rfl)
   have ee:dM 0 t above=[above]:=by rw [dM,if_neg e]
   have hsl:s.len=out.length:=by
    have:=(h.ownAt (i:=0) rfl).1.rd.len
    simp at this
    exact this.symm
   refine ⟨_,rfl,_,h.ld1 rfl,_,rfl,_,aq (aa l0 (aa l1 h.le)) h3,fun h1=> ?_,fun h1=>⟨_,h.ld1 rfl,?_⟩⟩
   ·refine ⟨F1,s,?_,l1,?_⟩
    ·rw [ee,decide_eq_false (by simp only [List.length_singleton];omega)]
    ·rw [ee,List.take_append_of_le_length (by omega),List.take_of_length_le (by omega)]
     exact h
   ·refine h.push0 N6 (c:= #[vC above]) rfl (by simp [aj]) (by omega) fun s' G3 F3 l3 h hl'=> ?_
    refine h.set1 (w':= #[s'.v]) (by simp) rfl fun F4 h=>⟨G3,s',?_,aa l1 l3,?_⟩
    ·rw [ee,decide_eq_true (by simp only [List.length_singleton];omega)]
    ·rw [ee,List.take_of_length_le (by simp;omega),List.map_append]
     exact h
 |succ n ih=>
  intro hn30 t above out G F s v hk hl hb ha ha2 l0 hd hm hlen h
  have hd0:=hd
  obtain ⟨sn,rfl,hn⟩:=hd
  refine Mi ?_
  unfold Jd
  refine h.newG fun b F1 F2 l1 q1 _ h=>⟨_,ld (h.le _ _ q1) rfl,fun h0=> ?_,fun h0=>⟨fun h=>by omega,fun _=>⟨_,rfl,ai (h.le _ _ q1),?_⟩⟩⟩
  ·have e:t=leaf false:=uu.1 (Int.natCast_eq_zero.1 h0)
   subst e
   refine ⟨F1,s,?_,l1,?_⟩
   ·rw [du,decide_eq_true (by simpa using hm)]
   ·rw [du,List.append_nil,List.take_of_length_le (by omega)]
    exact h
  ·have e:t≠leaf false:=fun e=>h0 (by rw [e];rfl)
   have ee:dM (n+1) t above=dM n (fx n false t) above++dM n (fx n true t) (above+2 ^ n):=by rw [dM,if_neg e]
   have ew:IntKind.i64.wrap (((n+1:Nat):Int) - 1)=(n:Int):=by rw [aN (by omega) (by omega)];omega
   rw [ew]
   have hp:2 ^ (n+1)=2 ^ n+2 ^ n:=by rw [Nat.pow_succ];omega
   have hm2:above % 2 ^ n=0:=by
    have:2 ^ n ∣ 2 ^ (n+1):=⟨2,by rw [Nat.pow_succ]⟩
    rw [← Nat.mod_mod_of_dvd above this,ha,Nat.zero_mod]
   have hor:above ||| 2 ^ n=above+2 ^ n:=by
    obtain ⟨q,hq⟩:2 ^ (n+1) ∣ above:=Nat.dvd_of_mod_eq_zero ha
    rw [hq,Nat.mul_comm,← Nat.shiftLeft_eq,← Nat.shiftLeft_add_eq_or_of_lt (by omega)]
   have rs:∀(x:Bool) {G:PH},F1.le G→ac prog 92 #[.agg #[sn.v,vi (dia t).2],vi n,.bool x] G fun r F'=>(∃w,r=.tuple #[.agg w,vi 0]∧DV F' w (dia (fx n x t)))∧G.le F':=fun x {G} l=>by
    have:=pL (hd0.le (aa l1 l)) (n:Int) x
    rw [AG hk hl (by omega)] at this
    exact this.mono fun r F' ⟨⟨w,h1,h2⟩,h3⟩=>⟨⟨w,h1,h2⟩,h3⟩
   refine h.run (rs false (le_refl' F1)) fun r G3 F3 hr l3 h=> ?_
   obtain ⟨w,rfl,hw⟩:=hr
   refine ⟨_,_,rfl,?_⟩
   refine h.var hw.st (fun b10 G4 F4 l4 q10 h=> ?_) (by rfl) hw.size
   refine ⟨_,rfl,ai (h.le _ _ (l4 _ _ (l3 _ _ q1))),?_⟩
   refine h.run (rs true (aa l3 l4)) fun r G5 F5 hr l5 h=> ?_
   obtain ⟨u,rfl,hu⟩:=hr
   refine ⟨_,_,rfl,?_⟩
   refine h.var hu.st (fun b12 G6 F6 l6 q12 h=> ?_) (by rfl) hu.size
   have l16:=aa l3 (aa l4 (aa l5 l6))
   obtain ⟨k0,_,_⟩:=cC n false hk
   obtain ⟨k1,_,_⟩:=cC n true hk
   have s0:=kM (w:=n) (b:=false) hk
   have s1:=kM (w:=n) (b:=true) hk
   have b0:=bP (b:=false) t hk hb
   have b1:=bP (b:=true) t hk hb
   have en0:=ql n _ k0 b0 above
   have en1:=ql n _ k1 b1 (above+2 ^ n)
   have l06:=aa l0 (aa l1 l16)
   refine ⟨_,rfl,_,aq (aa l06 h.le) h7,w,hw.size,ai (h.le _ _ (l6 _ _ (l5 _ _ q10))),_,_,_,rfl,uP,?_⟩
   refine (ih (by omega) (fx n false t) above out G6 F6 s w k0 (by omega) b0 hm2 (by omega) l06 (hw.le (aa l4 (aa l5 l6))) hm (by omega) h).mono ?_
   rintro _ F7 ⟨G7,s7,rfl,l7,h⟩
   refine ⟨_,rfl,fun ht=> ?_,fun ht=> ?_⟩
   ·have ht:=of_decide_eq_true ht
    rw [List.take_of_length_le (by rw [List.length_append];omega)] at h
    have hbit:=IZ (x:=above) (v:=n) (by omega) (by omega)
    refine ⟨_,aq (aa l06 (aa l7 h.le)) h7,u,hu.size,ai (h.le _ _ (l7 _ _ q12)),by omega,_,_,_,rfl,uP,?_⟩
    rw [hbit,hor]
    refine (ih (by omega) (fx n true t) (above+2 ^ n) (out++dM n (fx n false t) above) G7 F7 s7 u k1 (by omega) b1 (by rw [Nat.add_mod_right];exact hm2) (by omega) (aa l06 l7) (hu.le (aa l6 l7)) (by rw [List.length_append];exact ht) (by rw [List.length_append];omega) h).mono ?_
    rintro _ F8 ⟨G8,s8,rfl,l8,h⟩
    refine ⟨_,rfl,G8,s8,?_,aa l1 (aa l16 (aa l7 l8)),?_⟩
    ·congr 1
     rw [ee,List.length_append,List.length_append,Nat.add_assoc]
    ·rw [ee,← List.append_assoc]
     exact h
   ·have ht:=of_decide_eq_false ht
    refine ⟨G7,s7,?_,aa l1 (aa l16 l7),?_⟩
    ·rw [ee,decide_eq_false (by rw [List.length_append];omega)]
    ·rw [ee,← List.append_assoc,List.take_append_of_le_length (by rw [List.length_append];omega)]
     exact h
noncomputable def tF (g:Gr):List Nat:=(List.range (2 ^ g.conds.length)).filter fun c=>(tre g.fam).ev (cfg (c:Nat))
noncomputable def gp (g:Gr) (most:Int):List Nat×Bool:=if cd g≠0∨most<1 then ([],false) else ((tF g).take most.toNat,decide (((tF g).length:Int)≤most))
theorem fS {F:PH} {v:Array Value} {g:Gr} (hT:Tab F) (hg:GV F v g) (hz:Sz g) (hc:g.conds.length≤30) (most:Int):
  ac prog 23 #[.agg v,vi most] F fun r F'=>(∃s:Sl,r=.tuple #[s.v,.bool (gp g most).2]∧RdS F' s 1 ((gp g most).1.map vC))∧F.le F':=by
 have hg0:=hg
 obtain ⟨c,n,t,s,p,l,f,rfl,hs⟩:=hg
 have ec:=hs.c.len (by decide)
 refine Ph ?_
 unfold L0
 refine fresh fun b2 F1 l1 q2 _=> ?_
 refine fresh fun b3 F2 l2 q3 _=>⟨_,hg0.size,ai (l2 _ _ q2),?_⟩
 have l12:=aa l1 l2
 refine (dY (hT.le l12) (hg0.le l12) hz).mono ?_
 rintro _ F3 ⟨rfl,l3⟩
 have l13:=aa l12 l3
 have bad:cd g≠0∨most<1→(∃s:Sl,Value.tuple #[Sl.nil.v,.bool false]=.tuple #[s.v,.bool (gp g most).2]∧RdS F3 s 1 ((gp g most).1.map vC))∧F.le F3:=fun h=>by
  unfold gp
  rw [if_pos h]
  exact ⟨⟨Sl.nil,rfl,RdS.nil _ _⟩,l13⟩
 refine ⟨_,rfl,fun h=>bad (.inl h),fun h0=>⟨_,ld (l3 _ _ q3) rfl,fun h=>bad (.inr h),fun h1=> ?_⟩⟩
 have h0:cd g=0:=Classical.not_not.1 h0
 obtain ⟨tr,hk,hd,ht,hl,hb⟩:=yX (dD.1 h0).fam.2.2.1
 refine (St.start F3).new fun b6 F4 h=> ?_
 refine h.new fun b7 F5 h=> ?_
 refine h.set0 (by simp) rfl fun F6 h=> ?_
 refine h.pinb (K:=fun F6=>_) fun G6 l6 q7 h=> ?_
 replace h:=h.nilOwn 54 1
 have l36:=aa l3 l6
 refine ⟨_,ld (h.le _ _ q7) rfl,#[n.v,vi g.fam.2],rfl,eA (h.le _ _ (l6 _ _ (l3 _ _ (l2 _ _ q2)))) rfl,_,ld (h.le _ _ (l6 _ _ (l3 _ _ (l2 _ _ q2)))) rfl,_,_,_,rfl,uP,?_⟩
 rw [ec]
 have hp:2 ^ g.conds.length≤2 ^ 30:=Nat.pow_le_pow_right (by decide) hc
 refine (yY (G0:=G6) (most:=most) (ld (l36 _ _ q3) rfl) (ld q7 rfl) g.conds.length hc tr 0 [] G6 F6 Sl.nil _ hk hl hb (Nat.zero_mod _) (by omega) (le_refl' _) (by rw [← hd];exact DV.mk (hs.n.le (aa l13 l6))) (by simp;omega) (by simp;omega) h).mono ?_
 rintro _ F7 ⟨G7,s7,rfl,l7,h⟩
 have en:dM g.conds.length tr 0=tF g:=by
  rw [jw _ _ hk hb]
  unfold tF
  rw [ht]
  simp
 rw [en] at h ⊢
 refine ⟨_,rfl,s7,h.ld1 rfl,?_⟩
 unfold gp
 rw [if_neg (by omega)]
 refine ⟨⟨s7,by simp,?_⟩,aa l13 (aa l6 (aa l7 h.le))⟩
 have:=(h.ownAt (i:=0) rfl).1.rd
 simpa using this
end Go.Proofs.YtenpmjhnhepfdaaGreatDoor
