/-
  Bytes that are appended: strings; encodings in plain Lean.
-/
import Derived.Test.YtenpmjhnhepfdaaGreatDoorHl
namespace Go.Proofs.YtenpmjhnhepfdaaGreatDoor
open Go Go.Proofs.Tryz Tr
set_option maxRecDepth 10000
abbrev cw (c n t s p l f:Sl) (root start:Int):Array Value:= #[c.v,n.v,vi root,t.v,s.v,p.v,vi start,l.v,f.v]
abbrev eY:Array Value:=cw Sl.nil Sl.nil Sl.nil Sl.nil Sl.nil Sl.nil Sl.nil 0 0
theorem gX (c n t s p l f:Sl) (root start:Int):∀v∈(cw c n t s p l f root start).toList,ai v:=by simp [ai,Sl.v]
section
variable {F1:PH} {g:Gr} {c:Int} {b2 b3 b4 b8:Nat} {sc sn st' ss sp sl sf:Sl} {R:VR} (hz:Sm g) (hs:GS F1 g sc sn st' ss sp sl sf) (q2:F1 b2=some (.cells (g.arr sc sn st' ss sp sl sf) 39))
 (hc:F1.cell ⟨b3,0,none⟩=some (.int .u64 c)) (c0:0<=c) (c1:c<18446744073709551616)
include hz hs q2 hc c0 c1
theorem Uc {G F:PH} {n s t' p' l':Sl} {root start:Int} (l:F1.le G) (h:St G F [pt b8 (.cells (cw Sl.nil n t' s p' l' Sl.nil root start) 39),pt b4 (.cells eY 39)]) (ht:RL G t' (atG g c).toks) (hp:RL G p' (atG g c).prods) (hl:RL G l' (atG g c).lvs)
  (next:∀G' F' f',G.le G'->St G' F' [pt b8 (.cells (cw Sl.nil n t' s p' l' f' root start) 39),pt b4 (.cells eY 39)]->RL G' f' (atG g c).fils->uM b4 (some (Addr.mk b8 0 none)) R F'):
  qK b2 b4 b3 (some (Addr.mk b8 0 none)) R F:=by
 obtain ⟨bytes,z,T⟩:=IH
 unfold qK
 have elen:=hs.f.len (by decide)
 have hmax:=hz.f
 refine ⟨_,ld (h.le _ _ (l _ _ q2)) rfl,?_⟩
 refine bj (yQ · b4 b3 (some (Addr.mk b8 0 none)) sf _) g.fils.length (fun k F'=>∃G' f' vs,G.le G'/\St G' F' [own f' 74 9 (cat vs),pt b8 (.cells (cw Sl.nil n t' s p' l' f' root start) 39),pt b4 (.cells eY 39)]/\bZ G' ((g.fils.take k).map fun x=>{x with cond:=atD x.cond c}) vs/\f'.len=k)
  ⟨G,Sl.nil,[],le_refl' _,h.nilOwn _ _,.nil,rfl⟩ ?_
 rintro k F3 N hk ⟨G3,f',vs,l3,h,hR,hlen⟩ next'
 have l13:=aa l l3
 unfold yQ
 refine ⟨fun hlt=> ?_,fun hge=> ?_⟩
 ·have hlt:k<g.fils.length:=by omega
  refine h.ix (hs.f.le l13) (by decide) (by omega) (by omega) fun a cc x hx hr hc'=> ?_
  rw [Int.toNat_natCast] at hx
  have hxm:x∈g.fils:=List.mem_of_getElem? hx
  have hst:=Mem.st hc'
  obtain ⟨tt,nn,rfl,hp,hn⟩:=hc'
  refine ⟨x.arr tt nn,rfl,hr,?_⟩
  refine h.new fun b10 F4 h=> ?_
  refine h.put0 (w':=x.arr tt nn) rfl rfl hst fun F5 h=> ?_
  refine ⟨_,h.ld0 rfl,#[nn.v,vi x.cond.2],rfl,h.row0 rfl,?_⟩
  refine h.run (P:=fun r G=>∃s',r=Sl.v s'/\RL G s' x.toks) (sV hp (hz.fi x hxm).1) fun r G5 F5 hr5 l5 h=> ?_
  obtain ⟨sp5,rfl,hsp⟩:=hr5
  refine ⟨_,rfl,h.row0 rfl,?_⟩
  refine h.run (P:=fun r G=>∃n,r=.agg #[Sl.v n,vi (atD x.cond c).2]/\RL G n (atD x.cond c).1) (kO (d:=x.cond) (DV.mk (hn.le l5)) (aq (aa l13 l5) hc) c0 c1) fun r G6 F6 hr6 l6 h=> ?_
  obtain ⟨sn6,rfl,hsn⟩:=hr6
  refine ⟨_,rfl,?_⟩
  refine h.set0 (w':=x.arr sp5 nn) (by simp) rfl fun F7 h=> ?_
  refine h.putR0 (w':=({x with cond:=atD x.cond c}:Fi).arr sp5 sn6) rfl (by simp [ai,Sl.v]) (by simp) rfl fun F8 h=> ?_
  refine ⟨_,rfl,_,by rw [aK];exact h.ld2 rfl,_,rfl,h.whole0,rfl,?_⟩
  refine h.push1 T rfl (by simp [ai,Sl.v]) (by omega) fun s9 G9 F9 l9 h hl9=> ?_
  rw [aK]
  refine h.set2 (w':=cw Sl.nil n t' s p' l' s9 root start) (by simp) rfl fun F10 h=> ?_
  rw [aB hlt (by omega)]
  have lall:=aa l5 (aa l6 l9)
  refine next' _ hlt ⟨G9,s9,vs++[({x with cond:=atD x.cond c}:Fi).arr sp5 sn6],aa l3 lall,?_,?_,by omega⟩
  ·rw [bq,bG]
   exact h.tail
  ·rw [aI hx,List.map_append]
   exact (hR.le lall).append (.cons ⟨sp5,sn6,rfl,hsp.le (aa l6 l9),hsn.le l9⟩ .nil)
 ·have e:k=g.fils.length:=by omega
  subst e
  rw [List.take_length] at hR
  refine h.pinOwn (K:=fun F3=>uM b4 (some (Addr.mk b8 0 none)) R F3) fun G4 l4 hrd h=> ?_
  exact next G4 F3 f' (aa l3 l4) h ⟨vs,hR.le l4,hrd⟩
theorem Ud {G F:PH} {n s t' p':Sl} {root start:Int} (l:F1.le G) (h:St G F [pt b8 (.cells (cw Sl.nil n t' s p' Sl.nil Sl.nil root start) 39),pt b4 (.cells eY 39)]) (ht:RL G t' (atG g c).toks) (hp:RL G p' (atG g c).prods)
  (next:∀G' F' l',G.le G'->St G' F' [pt b8 (.cells (cw Sl.nil n t' s p' l' Sl.nil root start) 39),pt b4 (.cells eY 39)]->RL G' l' (atG g c).lvs->qK b2 b4 b3 (some (Addr.mk b8 0 none)) R F'):
  qL b2 b4 b3 (some (Addr.mk b8 0 none)) R F:=by
 obtain ⟨bytes,z,T⟩:=IG
 unfold qL
 have elen:=hs.l.len (by decide)
 have hmax:=hz.l
 refine ⟨_,ld (h.le _ _ (l _ _ q2)) rfl,?_⟩
 refine bj (yR · b2 b4 b3 (some (Addr.mk b8 0 none)) sl _) g.lvs.length (fun k F'=>∃G' l' vs,G.le G'/\St G' F' [own l' 72 4 (cat vs),pt b8 (.cells (cw Sl.nil n t' s p' l' Sl.nil root start) 39),pt b4 (.cells eY 39)]/\bZ G' ((g.lvs.take k).map fun x=>{x with cond:=atD x.cond c}) vs/\l'.len=k)
  ⟨G,Sl.nil,[],le_refl' _,h.nilOwn _ _,.nil,rfl⟩ ?_
 rintro k F3 N hk ⟨G3,l',vs,l3,h,hR,hlen⟩ next'
 have l13:=aa l l3
 unfold yR
 refine ⟨fun hlt=> ?_,fun hge=> ?_⟩
 ·have hlt:k<g.lvs.length:=by omega
  refine h.ix (hs.l.le l13) (by decide) (by omega) (by omega) fun a cc x hx hr hc'=> ?_
  rw [Int.toNat_natCast] at hx
  have hxm:x∈g.lvs:=List.mem_of_getElem? hx
  have hst:=Mem.st hc'
  obtain ⟨tt,nn,rfl,hp,hn⟩:=hc'
  refine ⟨x.arr tt nn,rfl,hr,?_⟩
  refine h.new fun b10 F4 h=> ?_
  refine h.put0 (w':=x.arr tt nn) rfl rfl hst fun F5 h=> ?_
  refine ⟨_,h.ld0 rfl,#[nn.v,vi x.cond.2],rfl,h.row0 rfl,?_⟩
  refine h.run (P:=fun r G=>∃s',r=Sl.v s'/\RL G s' x.ps) (sV hp (hz.li x hxm).1) fun r G5 F5 hr5 l5 h=> ?_
  obtain ⟨sp5,rfl,hsp⟩:=hr5
  refine ⟨_,rfl,h.row0 rfl,?_⟩
  refine h.run (P:=fun r G=>∃n,r=.agg #[Sl.v n,vi (atD x.cond c).2]/\RL G n (atD x.cond c).1) (kO (d:=x.cond) (DV.mk (hn.le l5)) (aq (aa l13 l5) hc) c0 c1) fun r G6 F6 hr6 l6 h=> ?_
  obtain ⟨sn6,rfl,hsn⟩:=hr6
  refine ⟨_,rfl,?_⟩
  refine h.set0 (w':=x.arr sp5 nn) (by simp) rfl fun F7 h=> ?_
  refine h.putR0 (w':=({x with cond:=atD x.cond c}:Lv).arr sp5 sn6) rfl (by simp [ai,Sl.v]) (by simp) rfl fun F8 h=> ?_
  refine ⟨_,rfl,_,by rw [aK];exact h.ld2 rfl,_,rfl,h.whole0,rfl,?_⟩
  refine h.push1 T rfl (by simp [ai,Sl.v]) (by omega) fun s9 G9 F9 l9 h hl9=> ?_
  rw [aK]
  refine h.set2 (w':=cw Sl.nil n t' s p' s9 Sl.nil root start) (by simp) rfl fun F10 h=> ?_
  rw [aB hlt (by omega)]
  have lall:=aa l5 (aa l6 l9)
  refine next' _ hlt ⟨G9,s9,vs++[({x with cond:=atD x.cond c}:Lv).arr sp5 sn6],aa l3 lall,?_,?_,by omega⟩
  ·rw [bq,bG]
   exact h.tail
  ·rw [aI hx,List.map_append]
   exact (hR.le lall).append (.cons ⟨sp5,sn6,rfl,hsp.le (aa l6 l9),hsn.le l9⟩ .nil)
 ·have e:k=g.lvs.length:=by omega
  subst e
  rw [List.take_length] at hR
  refine h.pinOwn (K:=fun F3=>qK b2 b4 b3 (some (Addr.mk b8 0 none)) R F3) fun G4 l4 hrd h=> ?_
  exact next G4 F3 l' (aa l3 l4) h ⟨vs,hR.le l4,hrd⟩
theorem Ue {G F:PH} {n s t':Sl} {root start:Int} (l:F1.le G) (h:St G F [pt b8 (.cells (cw Sl.nil n t' s Sl.nil Sl.nil Sl.nil root start) 39),pt b4 (.cells eY 39)]) (ht:RL G t' (atG g c).toks)
  (next:∀G' F' p',G.le G'->St G' F' [pt b8 (.cells (cw Sl.nil n t' s p' Sl.nil Sl.nil root start) 39),pt b4 (.cells eY 39)]->RL G' p' (atG g c).prods->qL b2 b4 b3 (some (Addr.mk b8 0 none)) R F'):
  qM b2 b4 b3 (some (Addr.mk b8 0 none)) R F:=by
 obtain ⟨bytes,z,T⟩:=C5
 unfold qM
 have elen:=hs.p.len (by decide)
 have hmax:=hz.p
 refine ⟨_,ld (h.le _ _ (l _ _ q2)) rfl,?_⟩
 refine bj (yS · b2 b4 b3 (some (Addr.mk b8 0 none)) sp _) g.prods.length (fun k F'=>∃G' p' vs,G.le G'/\St G' F' [own p' 67 13 (cat vs),pt b8 (.cells (cw Sl.nil n t' s p' Sl.nil Sl.nil root start) 39),pt b4 (.cells eY 39)]/\bZ G' ((g.prods.take k).map fun x=>{x with cond:=atD x.cond c}) vs/\p'.len=k)
  ⟨G,Sl.nil,[],le_refl' _,h.nilOwn _ _,.nil,rfl⟩ ?_
 rintro k F3 N hk ⟨G3,p',vs,l3,h,hR,hlen⟩ next'
 have l13:=aa l l3
 unfold yS
 refine ⟨fun hlt=> ?_,fun hge=> ?_⟩
 ·have hlt:k<g.prods.length:=by omega
  refine h.ix (hs.p.le l13) (by decide) (by omega) (by omega) fun a cc x hx hr hc'=> ?_
  rw [Int.toNat_natCast] at hx
  have hxm:x∈g.prods:=List.mem_of_getElem? hx
  have hst:=Mem.st hc'
  obtain ⟨tt,nn,mm,rfl,hp,hn,hm⟩:=hc'
  refine ⟨x.arr tt nn mm,rfl,hr,?_⟩
  refine h.new fun b10 F4 h=> ?_
  refine h.put0 (w':=x.arr tt nn mm) rfl rfl hst fun F5 h=> ?_
  refine ⟨_,h.ld0 rfl,_,h.ld0 rfl,#[nn.v,vi x.cond.2],rfl,h.row0 rfl,?_⟩
  refine h.run (P:=fun r G=>∃s',r=Sl.v s'/\RL G s' x.right) (Fo hp (hz.pi x hxm).1) fun r G5 F5 hr5 l5 h=> ?_
  obtain ⟨sp5,rfl,hsp⟩:=hr5
  refine ⟨_,rfl,h.row0 rfl,h.ld0 rfl,?_⟩
  refine h.run (P:=fun r G=>∃s',r=Sl.v s'/\RL G s' x.lay) (Fp (hm.le l5) (hz.pi x hxm).2.2) fun r G6 F6 hr6 l6 h=> ?_
  obtain ⟨sm6,rfl,hsm⟩:=hr6
  refine ⟨_,rfl,h.row0 rfl,?_⟩
  refine h.run (P:=fun r G=>∃n,r=.agg #[Sl.v n,vi (atD x.cond c).2]/\RL G n (atD x.cond c).1) (kO (d:=x.cond) (DV.mk (hn.le (aa l5 l6))) (aq (aa l13 (aa l5 l6)) hc) c0 c1) fun r G7 F7 hr7 l7 h=> ?_
  obtain ⟨sn7,rfl,hsn⟩:=hr7
  refine ⟨_,rfl,?_⟩
  refine h.set0 (w':=x.arr sp5 nn mm) (by simp) rfl fun F7 h=> ?_
  refine h.set0 (w':=x.arr sp5 nn sm6) (by simp) rfl fun F7 h=> ?_
  refine h.putR0 (w':=({x with cond:=atD x.cond c}:Pr).arr sp5 sn7 sm6) rfl (by simp [ai,Sl.v]) (by simp) rfl fun F8 h=> ?_
  refine ⟨_,rfl,_,by rw [aK];exact h.ld2 rfl,_,rfl,h.whole0,rfl,?_⟩
  refine h.push1 T rfl (by simp [ai,Sl.v]) (by omega) fun s9 G9 F9 l9 h hl9=> ?_
  rw [aK]
  refine h.set2 (w':=cw Sl.nil n t' s s9 Sl.nil Sl.nil root start) (by simp) rfl fun F10 h=> ?_
  rw [aB hlt (by omega)]
  have lall:=aa l5 (aa l6 (aa l7 l9))
  refine next' _ hlt ⟨G9,s9,vs++[({x with cond:=atD x.cond c}:Pr).arr sp5 sn7 sm6],aa l3 lall,?_,?_,by omega⟩
  ·rw [bq,bG]
   exact h.tail
  ·rw [aI hx,List.map_append]
   exact (hR.le lall).append (.cons ⟨sp5,sn7,sm6,rfl,hsp.le (aa l6 (aa l7 l9)),hsn.le l9,hsm.le (aa l7 l9)⟩ .nil)
 ·have e:k=g.prods.length:=by omega
  subst e
  rw [List.take_length] at hR
  refine h.pinOwn (K:=fun F3=>qL b2 b4 b3 (some (Addr.mk b8 0 none)) R F3) fun G4 l4 hrd h=> ?_
  exact next G4 F3 p' (aa l3 l4) h ⟨vs,hR.le l4,hrd⟩
theorem Uf {G F:PH} {n s:Sl} {root start:Int} (l:F1.le G) (h:St G F [pt b8 (.cells (cw Sl.nil n Sl.nil s Sl.nil Sl.nil Sl.nil root start) 39),pt b4 (.cells eY 39)])
  (next:∀G' F' t',G.le G'->St G' F' [pt b8 (.cells (cw Sl.nil n t' s Sl.nil Sl.nil Sl.nil root start) 39),pt b4 (.cells eY 39)]->RL G' t' (atG g c).toks->qM b2 b4 b3 (some (Addr.mk b8 0 none)) R F'):
  mw b2 b4 b3 (some (Addr.mk b8 0 none)) R F:=by
 obtain ⟨bytes,z,T⟩:=Fl
 unfold mw
 have elen:=hs.t.len (by decide)
 have hmax:=hz.t
 refine ⟨_,ld (h.le _ _ (l _ _ q2)) rfl,?_⟩
 refine bj (yT · b2 b4 b3 (some (Addr.mk b8 0 none)) st' _) g.toks.length (fun k F'=>∃G' t' vs,G.le G'/\St G' F' [own t' 79 7 (cat vs),pt b8 (.cells (cw Sl.nil n t' s Sl.nil Sl.nil Sl.nil root start) 39),pt b4 (.cells eY 39)]/\bZ G' ((g.toks.take k).map fun x=>{x with cond:=atD x.cond c}) vs/\t'.len=k)
  ⟨G,Sl.nil,[],le_refl' _,h.nilOwn _ _,.nil,rfl⟩ ?_
 rintro k F3 N hk ⟨G3,t',vs,l3,h,hR,hlen⟩ next'
 have l13:=aa l l3
 unfold yT
 refine ⟨fun hlt=> ?_,fun hge=> ?_⟩
 ·have hlt:k<g.toks.length:=by omega
  refine h.ix (hs.t.le l13) (by decide) (by omega) (by omega) fun a cc x hx hr hc'=> ?_
  rw [Int.toNat_natCast] at hx
  have hxm:x∈g.toks:=List.mem_of_getElem? hx
  have hst:=Mem.st hc'
  obtain ⟨tt,nn,rfl,hp,hn⟩:=hc'
  refine ⟨x.arr tt nn,rfl,hr,?_⟩
  refine h.new fun b10 F4 h=> ?_
  refine h.put0 (w':=x.arr tt nn) rfl rfl hst fun F5 h=> ?_
  refine ⟨_,h.ld0 rfl,#[nn.v,vi x.cond.2],rfl,h.row0 rfl,?_⟩
  refine h.run (P:=fun r G=>∃s',r=Sl.v s'/\RL G s' x.pat) (Fm hp (hz.ti x hxm).1) fun r G5 F5 hr5 l5 h=> ?_
  obtain ⟨sp5,rfl,hsp⟩:=hr5
  refine ⟨_,rfl,h.row0 rfl,?_⟩
  refine h.run (P:=fun r G=>∃n,r=.agg #[Sl.v n,vi (atD x.cond c).2]/\RL G n (atD x.cond c).1) (kO (d:=x.cond) (DV.mk (hn.le l5)) (aq (aa l13 l5) hc) c0 c1) fun r G6 F6 hr6 l6 h=> ?_
  obtain ⟨sn6,rfl,hsn⟩:=hr6
  refine ⟨_,rfl,?_⟩
  refine h.set0 (w':=x.arr sp5 nn) (by simp) rfl fun F7 h=> ?_
  refine h.putR0 (w':=({x with cond:=atD x.cond c}:Tk).arr sp5 sn6) rfl (by simp [ai,Sl.v]) (by simp) rfl fun F8 h=> ?_
  refine ⟨_,rfl,_,by rw [aK];exact h.ld2 rfl,_,rfl,h.whole0,rfl,?_⟩
  refine h.push1 T rfl (by simp [ai,Sl.v]) (by omega) fun s9 G9 F9 l9 h hl9=> ?_
  rw [aK]
  refine h.set2 (w':=cw Sl.nil n s9 s Sl.nil Sl.nil Sl.nil root start) (by simp) rfl fun F10 h=> ?_
  rw [aB hlt (by omega)]
  have lall:=aa l5 (aa l6 l9)
  refine next' _ hlt ⟨G9,s9,vs++[({x with cond:=atD x.cond c}:Tk).arr sp5 sn6],aa l3 lall,?_,?_,by omega⟩
  ·rw [bq,bG]
   exact h.tail
  ·rw [aI hx,List.map_append]
   exact (hR.le lall).append (.cons ⟨sp5,sn6,rfl,hsp.le (aa l6 l9),hsn.le l9⟩ .nil)
 ·have e:k=g.toks.length:=by omega
  subst e
  rw [List.take_length] at hR
  refine h.pinOwn (K:=fun F3=>qM b2 b4 b3 (some (Addr.mk b8 0 none)) R F3) fun G4 l4 hrd h=> ?_
  exact next G4 F3 t' (aa l3 l4) h ⟨vs,hR.le l4,hrd⟩
end
theorem E9 {F:PH} {v:Array Value} {g:Gr} (hT:Tab F) (hg:GV F v g) (hz:Sz g) (hm:Sm g) {c:Int} (c0:0<=c) (c1:c<18446744073709551616):
  ae prog 21 #[.agg v,.int .u64 c] F fun r F'=>(∃w,r=.tuple #[.agg w,vi (j9 g c)]/\GV F' w (jE g c))/\F.le F':=by
 have hg0:=hg
 obtain ⟨sc,sn,st',ss,sp,sl,sf,rfl,hs⟩:=hg
 refine Ux ?_
 unfold QN
 refine fresh fun b2 F1 l1 q2 _=> ?_
 refine fresh fun b3 F2 l2 q3 _=> ?_
 replace l1:=aa l1 l2
 replace q2:=l2 _ _ q2
 refine (St.start F2).new fun b4 F3 h=>⟨_,hg0.size,aj (h.le _ _ q2),?_⟩
 refine h.runv (eZ (hT.le l1) (hg0.le l1) hz) fun G4 F4 l4 h=>⟨_,rfl,fun hb=> ?_,fun hb=>⟨_,hg0.size,aj (h.le _ _ (l4 _ _ q2)),_,ld (h.le _ _ (l4 _ _ q3)) rfl,?_⟩⟩
 ·refine h.put0 (w':=eY) rfl rfl (gX _ _ _ _ _ _ _ _ _) fun F5 h=>⟨_,rfl,h.whole0,⟨eY,?_,?_⟩,aa l1 (aa l4 h.le)⟩
  ·rw [show j9 g c=bT g from if_pos hb]
  ·rw [show jE g c=gr0 by unfold jE j9;rw [if_pos hb,if_pos hb]]
   exact GV.zero _
 have hb:bT g=0:=Classical.not_not.1 hb
 refine h.runv (kN (hg0.le (aa l1 l4)) c0 c1) fun G5 F5 l5 h=>⟨_,rfl,fun hw=> ?_,fun hw=> ?_⟩
 ·have hw:inW g c=false:=by simpa using hw
  have e1:j9 g c=1:=by unfold j9;rw [if_neg (fun h=>h hb),if_pos hw]
  refine h.put0 (w':=eY) rfl rfl (gX _ _ _ _ _ _ _ _ _) fun F5 h=>⟨_,rfl,h.whole0,⟨eY,?_,?_⟩,aa l1 (aa l4 (aa l5 h.le))⟩
  ·rw [e1]
  ·rw [show jE g c=gr0 by unfold jE;rw [e1];rfl]
   exact GV.zero _
 have hw:inW g c=true:=by simpa using hw
 have e1:j9 g c=0:=by unfold j9;rw [if_neg (fun h=>h hb),if_neg (by rw [hw];decide)]
 have e2:jE g c=atG g c:=by unfold jE;rw [if_neg (fun h=>h e1)]
 rw [e1,e2]
 have l25:=aa l4 l5
 replace q2:=l25 _ _ q2
 replace q3:=l25 _ _ q3
 replace l1:=aa l1 l25
 replace hs:=hs.le l1
 have j1:∀G6 F6 b8 n s,G5.le G6->St G6 F6 [pt b8 (.cells (cw Sl.nil n Sl.nil s Sl.nil Sl.nil Sl.nil (dia (leaf true)).2 g.start) 39),pt b4 (.cells eY 39)]->RL G6 n (dia (leaf true)).1->RL G6 s g.nons->
   mw b2 b4 b3 (some (Addr.mk b8 0 none)) (fun r F'=>(∃w,r=.tuple #[.agg w,vi 0]/\GV F' w (atG g c))/\F.le F') F6:=fun G6 F6 b8 n s l6 h hn hns=>by
  refine Uf hm hs q2 (ld q3 rfl) c0 c1 l6 h fun G7 F7 t' l7 h ht=> ?_
  refine Ue hm hs q2 (ld q3 rfl) c0 c1 (aa l6 l7) h ht fun G8 F8 p' l8 h hp=> ?_
  refine Ud hm hs q2 (ld q3 rfl) c0 c1 (aa l6 (aa l7 l8)) h (ht.le l8) hp fun G9 F9 l' l9 h hl=> ?_
  refine Uc hm hs q2 (ld q3 rfl) c0 c1 (aa l6 (aa l7 (aa l8 l9))) h (ht.le (aa l8 l9)) (hp.le l9) hl fun G10 F10 f' l10 h hf=> ?_
  unfold uM
  refine ⟨_,rfl,_,rfl,h.whole0,?_⟩
  refine h.put1 (w':=cw Sl.nil n t' s p' l' f' (dia (leaf true)).2 g.start) rfl rfl (gX _ _ _ _ _ _ _ _ _) fun F11 h=>⟨_,rfl,h.whole1,⟨_,rfl,?_⟩,aa l1 (aa l6 (aa l7 (aa l8 (aa l9 (aa l10 h.le)))))⟩
  exact ⟨Sl.nil,n,t',s,p',l',f',rfl,RL.nil _,(hn.le (aa l7 (aa l8 (aa l9 l10)))).le h.le,(ht.le (aa l8 (aa l9 l10))).le h.le,(hns.le (aa l7 (aa l8 (aa l9 l10)))).le h.le,(hp.le (aa l9 l10)).le h.le,(hl.le l10).le h.le,hf.le h.le⟩
 have cn:∀{G:PH},ae prog 30 #[.bool true] G fun r F'=>(∃n,r=.agg #[Sl.v n,vi (dia (leaf true)).2]/\RL F' n (dia (leaf true)).1)/\G.le F':=fun {G}=>(gi true).mono fun r F' ⟨w,h1,⟨s,h4,h5⟩,h3⟩=>⟨⟨s,by rw [h1,h4],RL.brs.2 h5⟩,h3⟩
 refine ⟨_,ld (h.le _ _ q2) rfl,_,ld (h.le _ _ q2) rfl,⟨?_,?_⟩⟩
 ·refine h.run (P:=fun r G=>∃n,r=.agg #[Sl.v n,vi (dia (leaf true)).2]/\RL G n (dia (leaf true)).1) cn fun r G6 F6 hr l6 h=> ?_
  obtain ⟨n,rfl,hn⟩:=hr
  refine ⟨_,rfl,ld (h.le _ _ (l6 _ _ q2)) rfl,ld (h.le _ _ (l6 _ _ q2)) rfl,⟨?_,?_⟩⟩
  ·refine h.run (P:=fun r G=>∃s',r=Sl.v s'/\RL G s' g.nons) (mh (hs.s.le l6) hm.s) fun r G7 F7 hr l7 h=> ?_
   obtain ⟨s,rfl,hns⟩:=hr
   refine ⟨_,rfl,ld (h.le _ _ (l7 _ _ (l6 _ _ q2))) rfl,rfl,?_⟩
   refine h.new fun b8 F8 h=> ?_
   refine h.put0 (w':=cw Sl.nil n Sl.nil s Sl.nil Sl.nil Sl.nil (dia (leaf true)).2 g.start) rfl rfl (gX _ _ _ _ _ _ _ _ _) fun F9 h=> ?_
   exact j1 G7 F9 b8 n s (aa l6 l7) h (hn.le l7) hns
  ·refine h.new fun b8 F8 h=> ?_
   refine h.run (P:=fun r G=>∃s',r=Sl.v s'/\RL G s' g.nons) (mh (hs.s.le l6) hm.s) fun r G7 F7 hr l7 h=> ?_
   obtain ⟨s,rfl,hns⟩:=hr
   refine ⟨_,rfl,ld (h.le _ _ (l7 _ _ (l6 _ _ q2))) rfl,rfl,?_⟩
   refine h.put0 (w':=cw Sl.nil n Sl.nil s Sl.nil Sl.nil Sl.nil (dia (leaf true)).2 g.start) rfl rfl (gX _ _ _ _ _ _ _ _ _) fun F9 h=> ?_
   exact j1 G7 F9 b8 n s (aa l6 l7) h (hn.le l7) hns
 ·refine h.new fun b8 F8 h=> ?_
  refine h.run (P:=fun r G=>∃n,r=.agg #[Sl.v n,vi (dia (leaf true)).2]/\RL G n (dia (leaf true)).1) cn fun r G6 F6 hr l6 h=> ?_
  obtain ⟨n,rfl,hn⟩:=hr
  refine ⟨_,rfl,ld (h.le _ _ (l6 _ _ q2)) rfl,ld (h.le _ _ (l6 _ _ q2)) rfl,?_⟩
  refine h.run (P:=fun r G=>∃s',r=Sl.v s'/\RL G s' g.nons) (mh (hs.s.le l6) hm.s) fun r G7 F7 hr l7 h=> ?_
  obtain ⟨s,rfl,hns⟩:=hr
  refine ⟨_,rfl,ld (h.le _ _ (l7 _ _ (l6 _ _ q2))) rfl,rfl,?_⟩
  refine h.put0 (w':=cw Sl.nil n Sl.nil s Sl.nil Sl.nil Sl.nil (dia (leaf true)).2 g.start) rfl rfl (gX _ _ _ _ _ _ _ _ _) fun F9 h=> ?_
  exact j1 G7 F9 b8 n s (aa l6 l7) h (hn.le l7) hns
instance (t:Tr):Decidable (t=leaf false):=match t with
 |leaf true=>isFalse (by simp)
 |leaf false=>isTrue rfl
 |node _ _ _=>isFalse (by simp)
noncomputable def eK:Nat->Tr->Nat->List Nat
 |0,t,a=>if t=leaf false then [] else [a]
 |n+1,t,a=>if t=leaf false then [] else eK n (fx n false t) a++eK n (fx n true t) (a+2 ^ n)
theorem dT (n a:Nat):eK n (leaf false) a=[]:=by cases n<;>simp [eK]
theorem co {n:Nat} {b:Bool}:∀(t:Tr),t.ok->cv (n+1) t->cv n (fx n b t)
 |leaf x,_,_=>by rw [ia];trivial
 |node v l h,hk,⟨b0,b1,b2⟩=>by
  have hf:=nN (w:=n) (b:=b) hk
  obtain ⟨h0,h1,h2,h3,h4,h5⟩:=hk
  rw [hf]
  split
  ·split
   ·exact co h h5 b2
   ·exact co l h4 b1
  ·exact qt (by omega) (co l h4 b1) (co h h5 b2)
theorem nJ (c i:Nat):cfg (c:Int) i=c.testBit i:=by simp [cfg]
theorem ID {n c:Nat} (h:c<2 ^ n):(cfg (c:Int)).set n false=cfg (c:Int):=by
 funext i
 unfold Cf.set
 split
 ·rename_i e
  subst e
  rw [nJ,Nat.testBit_lt_two_pow h]
 ·rfl
theorem Fj {n c:Nat} (h:c<2 ^ n):(cfg (c:Int)).set n true=cfg ((2 ^ n+c:Nat):Int):=by
 funext i
 unfold Cf.set
 split
 ·rename_i e
  subst e
  rw [nJ,Nat.testBit_two_pow_add_eq,Nat.testBit_lt_two_pow h]
  rfl
 ·rename_i e
  rw [nJ,nJ]
  by_cases hi:i<n
  ·rw [Nat.testBit_two_pow_add_gt hi]
  ·have h1:2 ^ n+c<2 ^ i:=by
    have:2 ^ (n+1)<=2 ^ i:=Nat.pow_le_pow_right (by decide) (by omega)
    rw [Nat.pow_succ] at this
    omega
   rw [Nat.testBit_lt_two_pow h1,Nat.testBit_lt_two_pow (by omega)]
theorem kM:∀(n:Nat) (t:Tr),t.ok->cv n t->∀a,eK n t a=((List.range (2 ^ n)).filter fun c=>t.ev (cfg (c:Nat))).map (a+ ·)
 |0,t,_,hb,a=>by
  cases t with
  |node v l h=>exact absurd hb.1 (by omega)
  |leaf x=>
   cases x
   ·rw [dT];simp [Tr.ev]
   ·simp [eK,Tr.ev,List.range_succ]
 |n+1,t,hk,hb,a=>by
  by_cases ht:t=leaf false
  ·subst ht
   rw [dT]
   simp [Tr.ev]
  ·rw [eK,if_neg ht]
   obtain ⟨k0,_,e0⟩:=cU n false hk
   obtain ⟨k1,_,e1⟩:=cU n true hk
   rw [kM n _ k0 (co t hk hb),kM n _ k1 (co t hk hb)]
   rw [show 2 ^ (n+1)=2 ^ n+2 ^ n by rw [Nat.pow_succ];omega,List.range_add,List.filter_append,List.map_append]
   congr 1
   ·congr 1
    apply List.filter_congr
    intro c hc
    rw [e0,ID (List.mem_range.1 hc)]
   ·rw [List.filter_map,List.map_map]
    have:((fun c=>t.ev (cfg (c:Nat)))∘fun x=>2 ^ n+x)=fun c=>t.ev (cfg ((2 ^ n+c:Nat):Int)):=rfl
    rw [this]
    have hf:(List.range (2 ^ n)).filter (fun c=>(fx n true t).ev (cfg (c:Nat)))=(List.range (2 ^ n)).filter fun c=>t.ev (cfg ((2 ^ n+c:Nat):Int)):=by
     apply List.filter_congr
     intro c hc
     rw [e1,Fj (List.mem_range.1 hc)]
    rw [hf]
    apply List.map_congr_left
    intro c _
    simp only [Function.comp_apply]
    omega
theorem sT (n:Nat) (t:Tr) (hk:t.ok) (hb:cv n t) (a:Nat):(eK n t a).length<=2 ^ n:=by
 rw [kM n t hk hb,List.length_map]
 exact Nat.le_trans (List.length_filter_le _ _) (by simp)
theorem sU {d:Dia} {n:Nat} (h:fg d n):∃t:Tr,t.ok/\d=dia t/\tre d=t/\(aH t).length<=4096/\cv n t:=by
 obtain ⟨h1,h2⟩:=h
 unfold chk at h1
 split at h1
 ·cases h1
 ·rename_i hl
  split at h1
  ·rename_i hv
   obtain ⟨t,ht,rfl⟩:=hv
   refine ⟨t,ht,rfl,nO ht,by simpa [dia,aO] using hl,?_⟩
   refine qB (cx ht) (fun x hx=> ?_) t (ce ht)
   obtain ⟨_,v,l,r,rfl,_,_⟩:=(cx ht).mem x hx
   have:=h2 (br (aH t) (node v l r)) (List.mem_map.2 ⟨_,hx,rfl⟩)
   simp only [br] at this
   simp only [top]
   omega
  ·cases h1
abbrev vC (c:Nat):Value:=.int .u64 (c:Int)
theorem yp:aC prog 91=true:=by kernel_rfl
theorem Fk {t:Tr} (hk:t.ok) (hl:(aH t).length<=4096) {n:Nat} (hn:n<64) (b:Bool):rL (dia t) (n:Int) b=(dia (fx n b t),0):=by
 have h1:=uD hk hl
 have h2:=mo (w:=n) (b:=b) hk
 unfold rL
 rw [if_neg (fun h=>h h1),if_neg (by omega),nO hk,Int.toNat_natCast]
 unfold lim
 rw [if_neg (by simp only [dia,aO];omega)]
theorem C3 {G0:PH} {b3 b6 b7:Nat} {most:Int} (h3:G0.cell ⟨b3,0,none⟩=some (vi most)) (h7:G0.cell ⟨b7,0,none⟩=some (.func (.func 91) #[] #[.pointer (some ⟨b6,0,none⟩),.pointer (some ⟨b3,0,none⟩),.pointer (some ⟨b7,0,none⟩)])):
  ∀(n:Nat),n<=30->∀(t:Tr) (above:Nat) (out:List Nat) (G F:PH) (s:Sl) (v:Array Value),t.ok->(aH t).length<=4096->cv n t->above % 2 ^ n=0->above+2 ^ n<=2 ^ 63->G0.le G->DV G v (dia t)->(out.length:Int)<=most->out.length+2 ^ n<=2 ^ 31->
   St G F [own s 54 1 (out.map vC),pt b6 (.cells #[s.v] 57)]->
   ae prog 91 #[.agg v,vi n,.int .u64 above,.pointer (some ⟨b6,0,none⟩),.pointer (some ⟨b3,0,none⟩),.pointer (some ⟨b7,0,none⟩)] F
    fun r F'=>∃G' s',r=.bool (decide ((out.length+(eK n t above).length:Nat)<=most))/\G.le G'/\St G' F' [own s' 54 1 (((out++eK n t above).take most.toNat).map vC),pt b6 (.cells #[s'.v] 57)]:=by
 intro n
 induction n with
 |zero=>
  intro _ t above out G F s v hk hl hb ha ha2 l0 hd hm hlen h
  obtain ⟨sn,rfl,hn⟩:=hd
  refine Q0 ?_
  unfold NR
  refine h.newG fun b F1 F2 l1 q1 _ h=>⟨_,ld (h.le _ _ q1) rfl,fun h0=> ?_,fun h0=>⟨fun _=> ?_,fun h=>absurd rfl h⟩⟩
  ·have e:t=leaf false:=xd.1 (Int.natCast_eq_zero.1 h0)
   subst e
   refine ⟨F1,s,?_,l1,?_⟩
   ·rw [dT,decide_eq_true (by simpa using hm)]
   ·rw [dT,List.append_nil,List.take_of_length_le (by omega)]
    exact h
  ·have e:t≠leaf false:=fun e=>h0 (by rw [e];rfl)
   have ee:eK 0 t above=[above]:=by rw [eK,if_neg e]
   have hsl:s.len=out.length:=by
    have:=(h.ownAt (i:=0) rfl).1.rd.len
    simp at this
    exact this.symm
   refine ⟨_,rfl,_,h.ld1 rfl,_,rfl,_,aq (aa l0 (aa l1 h.le)) h3,fun h1=> ?_,fun h1=>⟨_,h.ld1 rfl,?_⟩⟩
   ·refine ⟨F1,s,?_,l1,?_⟩
    ·rw [ee,decide_eq_false (by simp only [List.length_singleton];omega)]
    ·rw [ee,List.take_append_of_le_length (by omega),List.take_of_length_le (by omega)]
     exact h
   ·refine h.push0 Ph (c:= #[vC above]) rfl (by simp [ai]) (by omega) fun s' G3 F3 l3 h hl'=> ?_
    refine h.set1 (w':= #[s'.v]) (by simp) rfl fun F4 h=>⟨G3,s',?_,aa l1 l3,?_⟩
    ·rw [ee,decide_eq_true (by simp only [List.length_singleton];omega)]
    ·rw [ee,List.take_of_length_le (by simp;omega),List.map_append]
     exact h
 |succ n ih=>
  intro hn30 t above out G F s v hk hl hb ha ha2 l0 hd hm hlen h
  have hd0:=hd
  obtain ⟨sn,rfl,hn⟩:=hd
  refine Q0 ?_
  unfold NR
  refine h.newG fun b F1 F2 l1 q1 _ h=>⟨_,ld (h.le _ _ q1) rfl,fun h0=> ?_,fun h0=>⟨fun h=>by omega,fun _=>⟨_,rfl,aj (h.le _ _ q1),?_⟩⟩⟩
  ·have e:t=leaf false:=xd.1 (Int.natCast_eq_zero.1 h0)
   subst e
   refine ⟨F1,s,?_,l1,?_⟩
   ·rw [dT,decide_eq_true (by simpa using hm)]
   ·rw [dT,List.append_nil,List.take_of_length_le (by omega)]
    exact h
  ·have e:t≠leaf false:=fun e=>h0 (by rw [e];rfl)
   have ee:eK (n+1) t above=eK n (fx n false t) above++eK n (fx n true t) (above+2 ^ n):=by rw [eK,if_neg e]
   have ew:IntKind.i64.wrap (((n+1:Nat):Int) - 1)=(n:Int):=by rw [aN (by omega) (by omega)];omega
   rw [ew]
   have hp:2 ^ (n+1)=2 ^ n+2 ^ n:=by rw [Nat.pow_succ];omega
   have hm2:above % 2 ^ n=0:=by
    have:2 ^ n ∣ 2 ^ (n+1):=⟨2,by rw [Nat.pow_succ]⟩
    rw [<- Nat.mod_mod_of_dvd above this,ha,Nat.zero_mod]
   have hor:above ||| 2 ^ n=above+2 ^ n:=by
    obtain ⟨q,hq⟩:2 ^ (n+1) ∣ above:=Nat.dvd_of_mod_eq_zero ha
    rw [hq,Nat.mul_comm,<- Nat.shiftLeft_eq,<- Nat.shiftLeft_add_eq_or_of_lt (by omega)]
   have rs:∀(x:Bool) {G:PH},F1.le G->ae prog 92 #[.agg #[sn.v,vi (dia t).2],vi n,.bool x] G fun r F'=>(∃w,r=.tuple #[.agg w,vi 0]/\DV F' w (dia (fx n x t)))/\G.le F':=fun x {G} l=>by
    have:=rM (hd0.le (aa l1 l)) (n:Int) x
    rw [Fk hk hl (by omega)] at this
    exact this.mono fun r F' ⟨⟨w,h1,h2⟩,h3⟩=>⟨⟨w,h1,h2⟩,h3⟩
   refine h.run (rs false (le_refl' F1)) fun r G3 F3 hr l3 h=> ?_
   obtain ⟨w,rfl,hw⟩:=hr
   refine ⟨_,_,rfl,?_⟩
   refine h.var hw.st (fun b10 G4 F4 l4 q10 h=> ?_) (by rfl) hw.size
   refine ⟨_,rfl,aj (h.le _ _ (l4 _ _ (l3 _ _ q1))),?_⟩
   refine h.run (rs true (aa l3 l4)) fun r G5 F5 hr l5 h=> ?_
   obtain ⟨u,rfl,hu⟩:=hr
   refine ⟨_,_,rfl,?_⟩
   refine h.var hu.st (fun b12 G6 F6 l6 q12 h=> ?_) (by rfl) hu.size
   have l16:=aa l3 (aa l4 (aa l5 l6))
   obtain ⟨k0,_,_⟩:=cU n false hk
   obtain ⟨k1,_,_⟩:=cU n true hk
   have s0:=mo (w:=n) (b:=false) hk
   have s1:=mo (w:=n) (b:=true) hk
   have b0:=co (b:=false) t hk hb
   have b1:=co (b:=true) t hk hb
   have en0:=sT n _ k0 b0 above
   have en1:=sT n _ k1 b1 (above+2 ^ n)
   have l06:=aa l0 (aa l1 l16)
   refine ⟨_,rfl,_,aq (aa l06 h.le) h7,w,hw.size,aj (h.le _ _ (l6 _ _ (l5 _ _ q10))),_,_,_,rfl,yp,?_⟩
   refine (ih (by omega) (fx n false t) above out G6 F6 s w k0 (by omega) b0 hm2 (by omega) l06 (hw.le (aa l4 (aa l5 l6))) hm (by omega) h).mono ?_
   rintro _ F7 ⟨G7,s7,rfl,l7,h⟩
   refine ⟨_,rfl,fun ht=> ?_,fun ht=> ?_⟩
   ·have ht:=of_decide_eq_true ht
    rw [List.take_of_length_le (by rw [List.length_append];omega)] at h
    have hbit:=Nr (x:=above) (v:=n) (by omega) (by omega)
    refine ⟨_,aq (aa l06 (aa l7 h.le)) h7,u,hu.size,aj (h.le _ _ (l7 _ _ q12)),by omega,_,_,_,rfl,yp,?_⟩
    rw [hbit,hor]
    refine (ih (by omega) (fx n true t) (above+2 ^ n) (out++eK n (fx n false t) above) G7 F7 s7 u k1 (by omega) b1 (by rw [Nat.add_mod_right];exact hm2) (by omega) (aa l06 l7) (hu.le (aa l6 l7)) (by rw [List.length_append];exact ht) (by rw [List.length_append];omega) h).mono ?_
    rintro _ F8 ⟨G8,s8,rfl,l8,h⟩
    refine ⟨_,rfl,G8,s8,?_,aa l1 (aa l16 (aa l7 l8)),?_⟩
    ·congr 1
     rw [ee,List.length_append,List.length_append,Nat.add_assoc]
    ·rw [ee,<- List.append_assoc]
     exact h
   ·have ht:=of_decide_eq_false ht
    refine ⟨G7,s7,?_,aa l1 (aa l16 l7),?_⟩
    ·rw [ee,decide_eq_false (by rw [List.length_append];omega)]
    ·rw [ee,<- List.append_assoc,List.take_append_of_le_length (by rw [List.length_append];omega)]
     exact h
noncomputable def mY (g:Gr):List Nat:=(List.range (2 ^ g.conds.length)).filter fun c=>(tre g.fam).ev (cfg (c:Nat))
noncomputable def dD (g:Gr) (most:Int):List Nat×Bool:=if bT g≠0\/most<1 then ([],false) else ((mY g).take most.toNat,decide (((mY g).length:Int)<=most))
theorem gY {F:PH} {v:Array Value} {g:Gr} (hT:Tab F) (hg:GV F v g) (hz:Sz g) (hc:g.conds.length<=30) (most:Int):
  ae prog 23 #[.agg v,vi most] F fun r F'=>(∃s:Sl,r=.tuple #[s.v,.bool (dD g most).2]/\RdS F' s 1 ((dD g most).1.map vC))/\F.le F':=by
 have hg0:=hg
 obtain ⟨c,n,t,s,p,l,f,rfl,hs⟩:=hg
 have ec:=hs.c.len (by decide)
 refine Uy ?_
 unfold QO
 refine fresh fun b2 F1 l1 q2 _=> ?_
 refine fresh fun b3 F2 l2 q3 _=>⟨_,hg0.size,aj (l2 _ _ q2),?_⟩
 have l12:=aa l1 l2
 refine (eZ (hT.le l12) (hg0.le l12) hz).mono ?_
 rintro _ F3 ⟨rfl,l3⟩
 have l13:=aa l12 l3
 have bad:bT g≠0\/most<1->(∃s:Sl,Value.tuple #[Sl.nil.v,.bool false]=.tuple #[s.v,.bool (dD g most).2]/\RdS F3 s 1 ((dD g most).1.map vC))/\F.le F3:=fun h=>by
  unfold dD
  rw [if_pos h]
  exact ⟨⟨Sl.nil,rfl,RdS.nil _ _⟩,l13⟩
 refine ⟨_,rfl,fun h=>bad (.inl h),fun h0=>⟨_,ld (l3 _ _ q3) rfl,fun h=>bad (.inr h),fun h1=> ?_⟩⟩
 have h0:bT g=0:=Classical.not_not.1 h0
 obtain ⟨tr,hk,hd,ht,hl,hb⟩:=sU (eV.1 h0).fam.2.2.1
 refine (St.start F3).new fun b6 F4 h=> ?_
 refine h.new fun b7 F5 h=> ?_
 refine h.set0 (by simp) rfl fun F6 h=> ?_
 refine h.pinb (K:=fun F6=>_) fun G6 l6 q7 h=> ?_
 replace h:=h.nilOwn 54 1
 have l36:=aa l3 l6
 refine ⟨_,ld (h.le _ _ q7) rfl,#[n.v,vi g.fam.2],rfl,dP (h.le _ _ (l6 _ _ (l3 _ _ (l2 _ _ q2)))) rfl,_,ld (h.le _ _ (l6 _ _ (l3 _ _ (l2 _ _ q2)))) rfl,_,_,_,rfl,yp,?_⟩
 rw [ec]
 have hp:2 ^ g.conds.length<=2 ^ 30:=Nat.pow_le_pow_right (by decide) hc
 refine (C3 (G0:=G6) (most:=most) (ld (l36 _ _ q3) rfl) (ld q7 rfl) g.conds.length hc tr 0 [] G6 F6 Sl.nil _ hk hl hb (Nat.zero_mod _) (by omega) (le_refl' _) (by rw [<- hd];exact DV.mk (hs.n.le (aa l13 l6))) (by simp;omega) (by simp;omega) h).mono ?_
 rintro _ F7 ⟨G7,s7,rfl,l7,h⟩
 have en:eK g.conds.length tr 0=mY g:=by
  rw [kM _ _ hk hb]
  unfold mY
  rw [ht]
  simp
 rw [en] at h ⊢
 refine ⟨_,rfl,s7,h.ld1 rfl,?_⟩
 unfold dD
 rw [if_neg (by omega)]
 refine ⟨⟨s7,by simp,?_⟩,aa l13 (aa l6 (aa l7 h.le))⟩
 have:=(h.ownAt (i:=0) rfl).1.rd
 simpa using this
abbrev vB (n:Nat):Value:=.int .u8 (n:Int)
theorem Pe (st:ByteArray):((bs st).map vB)=st.data.toList.map fun b=>Value.int .u8 (b.toNat:Int):=by simp [bs]
theorem Pf (l:List Nat):∀v∈l.map vB,ai v:=by
 intro v hv
 obtain ⟨x,_,rfl⟩:=List.mem_map.1 hv
 exact ⟨fun _ h=>(by cases h),fun _ h=>(by cases h)⟩
abbrev j8 (st:ByteArray):List Value:=(bs st).map vB
theorem p9 (st:ByteArray):(j8 st).length=st.size:=by rw [List.length_map,bL]
theorem IE (st:ByteArray):((st.extract 0 st.size).data.map fun b=>Value.int .u8 b.toNat)=(j8 st).toArray:=by
 apply Array.ext'
 simp [j8,Pe]
theorem io {P:Program} {F:PH} {s:Sl} {st:ByteArray} {t t2 e bytes ty:Nat} {z:Value} {olds:List Value} {Q:Value->PH->Prop} (ht:P.underlying t=some (.slice e)) (ht2:P.underlying t2=some .string) (hsz:tsz P e=some (1,bytes)) (hz:bk P e=some z) (hzs:z.cells.size=1)
  (ho:RdS F s 1 olds) (hfit:(s.len+st.size)*bytes<=140737488355328) (hlen:s.len+st.size<=9223372036854775807)
  (h0:st.size=0->s.len+st.size<=s.cap->Q (Sl.v ⟨s.base,s.len+st.size,s.cap⟩) F)
  (h1:0<st.size->s.len+st.size<=s.cap->∃b o c e',s.base=some ⟨b,o,none⟩/\F b=some (.cells c e' (0,0))/\o+s.len+st.size<=c.size/\
   Q (Sl.v ⟨s.base,s.len+st.size,s.cap⟩) (F.set b (.cells (wr c (o+s.len) (j8 st)) e')))
  (h2:s.cap<s.len+st.size->∀cap b,s.len+st.size<=cap->F b=none->Q (Sl.v ⟨some ⟨b,0,none⟩,s.len+st.size,cap⟩) (F.set b (.cells (olds.toArray++(j8 st).toArray++Builtin.zeroCells z.cells (cap - (s.len+st.size))) e))):
  aE P (Builtin.append_ #[t,t2] ty #[s.v,.string st]) F Q:=by
 have hnl:(j8 st).length=st.size:=p9 st
 have hst:∀v∈j8 st,ai v:=Pf _
 have hol:=ho.len
 have hfn:∀Q',Q' (j8 st).toArray F->aE P (Builtin.firstCells 1 st.size (.string st)) F Q':=fun Q' hq=>by
  simp only [Builtin.firstCells,aM]
  rw [IE]
  exact hq
 have hfo:∀Q',Q' olds.toArray F->aE P (Builtin.firstCells 1 s.len s.v) F Q':=fun Q' hq=>fe ho (Nat.le_refl _) (by rw [<- hol,List.take_length];exact hq)
 obtain ⟨base,len,cap⟩:=s
 simp only [Builtin.append_,aA,Sl.v,List.getElem?_toArray,List.getElem?_cons_zero,List.getElem?_cons_succ,bN ht,bN ht2,Builtin.lenOf,aM,dS hsz,Bool.false_eq_true,if_false,Bool.not_false,if_true] at*
 obtain ⟨i,hib,hti⟩:=dz hsz
 by_cases hroom:len+st.size<=cap
 ·rw [if_pos hroom]
  simp only [aA]
  refine hfn _ ?_
  by_cases hz0:st.size=0
  ·have hnil:(j8 st)=[]:=List.eq_nil_of_length_eq_zero (by rw [hnl,hz0])
   cases base with
   |none=>exact h0 hz0 hroom
   |some a=>simp only [hnil,storeCells,aA,aM];exact h0 hz0 hroom
  ·obtain ⟨b,o,c,e',g1,g2,g3,g4⟩:=h1 (by omega) hroom
   cases g1
   simp only [aA]
   refine dI (j8 st) 0 F _ c _ (by simp) (by simpa using g2) (by simp only [aK];rw [hnl];omega) hst (fun hnn=>hz0 (by rw [<- hnl,hnn];rfl)) ?_
   simpa using g4
 ·rw [if_neg hroom]
  simp only [aA,hti]
  rw [if_neg (by
   rintro ⟨ha,hb⟩
   have:(IntKind.i64.max:Int)=9223372036854775807:=by decide
   rw [this] at ha
   omega)]
  have hg:=growslice_fits (need:=len+st.size) (old:=cap) (bytes:=bytes) (by omega) hfit
  simp only [aA,hti]
  rw [if_neg (by rw [hib];omega)]
  simp only [aA,choose]
  unfold aE
  rw [if_neg (by simp [Question.forced])]
  intro tt
  simp only [aE,hti]
  refine gM ?_
  refine hfo _ ?_
  refine hfn _ ?_
  simp only [dh hz,newRow,newObj,aA,aE,aM]
  intro b hb
  exact h2 (by omega) _ b (by simp only [Question.cut];omega) hb
theorem qh {F:PH} {s:Sl} {st:ByteArray} {t t2 e bytes ty:Nat} {z:Value} {P:Program} {olds:List Value} {Q:Value->PH->Prop} (ht:P.underlying t=some (.slice e)) (ht2:P.underlying t2=some .string) (hsz:tsz P e=some (1,bytes)) (hz:bk P e=some z) (hzs:z.cells.size=1)
  (ho:bA F e 1 s olds) (hx:0<st.size) (hfit:(s.len+st.size)*bytes<=140737488355328) (hlen:s.len+st.size<=9223372036854775807)
  (h:∀s' F' b o,F'=F.set b o->bA F' e 1 s' (olds++(j8 st))->s'.len=s.len+st.size->(∀a,s'.base=some a->a.block=b)->((∃a,s.base=some a/\a.block=b)\/F b=none)->Q s'.v F'):
  aE P (Builtin.append_ #[t,t2] ty #[s.v,.string st]) F Q:=by
 have hol:=ho.rd.len
 have hsl:=p9 st
 refine io ht ht2 hsz hz hzs ho.rd hfit hlen (fun h0=>by omega) ?_ ?_
 ·intro _ hroom
  rcases ho with ⟨rfl,rfl⟩|⟨b,cur,h1,h2,h3,h4,h5,h6⟩
  ·have e1:Sl.nil.cap=0:=rfl
   have e2:Sl.nil.len=0:=rfl
   omega
  ·refine ⟨b,0,cur,e,h1,h2,by omega,?_⟩
   refine h ⟨_,_,_⟩ _ b _ rfl (.inr ⟨b,_,h1,an _ _ _,by rw [dH,h3],hroom,by rw [List.length_append];simp only;omega,?_⟩) rfl (fun a ha=>by rw [h1] at ha;cases ha;rfl) (.inl ⟨_,h1,rfl⟩)
   simp only [Nat.zero_add]
   have hw:=fQ (j8 st) cur.toList s.len (by rw [hsl,Array.length_toList];omega)
   rw [show cur.toList.toArray=cur by simp] at hw
   rw [hw]
   rw [Nat.mul_one] at h6 ⊢
   simp only
   rw [h6]
   rw [List.take_append_of_le_length (by rw [List.length_append];omega),List.take_of_length_le (by rw [List.length_append];omega)]
 ·intro hgt cap b hc hb
  refine h ⟨_,_,_⟩ _ b _ rfl (.inr ⟨b,_,rfl,an _ _ _,?_,hc,by rw [List.length_append];simp only;omega,?_⟩) rfl (fun a ha=>by cases ha;rfl) (.inr hb)
  ·simp [Builtin.zeroCells,hzs]
   have e1:=bL st
   omega
  ·simp only [List.append_toArray,Array.toList_append]
   rw [List.take_append_of_le_length (by rw [List.length_append];omega),List.take_of_length_le (by rw [List.length_append];omega)]
theorem St.appStrAt {G F:PH} {As:List (PH->Prop)} {t t2 e bytes:Nat} {z:Value} (T:SlT t e 1 bytes z) (ht2:prog.underlying t2=some .string) {s:Sl} {st:ByteArray} {olds:List Value} {ty:TypeId} (h:St G F As) (i:Nat) (hi:As[i]? =some (own s e 1 olds))
  (hlen:s.len+st.size<=500000000000) {K:Sl->PH->Prop} (k:∀s' F',St G F' (As.set i (own s' e 1 (olds++j8 st)))->s'.len=s.len+st.size->K s' F'):
  aE prog (Builtin.append_ #[t,t2] ty #[s.v,.string st]) F fun v F=>∃s':Sl,v=Sl.v s'/\K s' F:=by
 have ho:=(h.ownAt hi).1
 by_cases h0:st.size=0
 ·have hnil:j8 st=[]:=List.eq_nil_of_length_eq_zero (by rw [p9,h0])
  have hs:(⟨s.base,s.len+st.size,s.cap⟩:Sl)=s:=by rw [h0];rfl
  obtain ⟨H,a1,a2,a3,a4⟩:=h.set (A':=own s e 1 olds) hi
  have hk:=k s F (by rw [hnil,List.append_nil];exact a4 H F a1 (fun b hb=> .inl hb) a3 (fun b o hb _=>hb)) (by omega)
  have:=ho.rd.cap
  exact io T.ht ht2 T.hsz T.hz T.hzs ho.rd (wV T.hb hlen) (by omega) (fun _ _=>by rw [hs];exact ⟨s,rfl,hk⟩) (fun h1=>absurd h0 (by omega)) (fun h1=>by omega)
 ·refine qh T.ht ht2 T.hsz T.hz T.hzs ho (by omega) (wV T.hb hlen) (by omega) ?_
  rintro s' F' b ob rfl ho' hl' hbase hb
  obtain ⟨H,a1,a2,a3,a4⟩:=h.set (A':=own s' e 1 (olds++j8 st)) hi
  have hb':H b≠none\/F b=none:=by
   rcases hb with ⟨a,ha,rfl⟩|hb
   ·obtain ⟨cur,hc⟩:=bA.elem a1 ha
    exact .inl (by rw [hc];simp)
   ·exact .inr hb
  refine ⟨s',rfl,k s' _ ?_ hl'⟩
  refine a4 (PH.set (fun _=>none) b ob) _ (ho'.keep fun a ha=>by rw [hbase a ha,an,an]) (fun x hx=> ?_) (fun x p hx=> ?_) (fun x p hx hn=> ?_)
  ·by_cases e:x=b
   ·rw [e];exact hb'
   ·rw [az _ _ e] at hx;exact absurd rfl hx
  ·by_cases e:x=b
   ·rw [e,an] at hx ⊢;exact hx
   ·rw [az _ _ e] at hx;cases hx
  ·have e:x≠b:=fun e=>by
    subst e
    rcases hb' with h|h
    ·exact h hn
    ·rw [h] at hx;cases hx
   rw [az _ _ e];exact hx
theorem Ni:SlT 22 5 1 1 (.int .u8 0):=⟨underlying22,sz5,zr5,rfl,by decide,by decide⟩
def gZ (n:Nat):List Nat:=if n<128 then [n] else (n % 128+128)::gZ (n / 128)
def eI (x:Int):List Nat:=gZ x.toNat
def eS (s:ByteArray):List Nat:=gZ s.size++bs s
def eB (b:Bool):List Nat:=[if b then 1 else 0]
def eL {α:Type} (f:α->List Nat) (l:List α):List Nat:=gZ l.length++l.flatMap f
def eBr (b:Br):List Nat:=eI b.v++eI b.l++eI b.h
def eD (d:Dia):List Nat:=eL eBr d.1++eI d.2
def eNd (x:Nd):List Nat:=eI x.k++eI x.lo++eI x.hi++eI x.a++eI x.b
def eTk (t:Tk):List Nat:=eS t.name++eI t.cls++eS t.lit++eL eNd t.pat++eS t.smp++eD t.cond
def eSy (s:Sy):List Nat:=eB s.t++eI s.i
def eCn (x:Cn):List Nat:=eI x.k++eI x.a++eI x.b
def Pg (s:Sco):List Nat:=eB s.o++(eI s.d++eI s.k++eI s.u++eI s.a)
def ePr (p:Pr):List Nat:=eS p.name++eI p.left++eL eSy p.right++eD p.cond++eB p.brk++eI (p.rank+1)++eL eCn p.lay++Pg p.sco
def eLv (l:Lv):List Nat:=eL eI l.ps++eI l.assoc++eD l.cond
def eFi (f:Fi):List Nat:=eI f.k++eI f.par++eI f.pos++eI f.ch++eI f.left++eI f.tok++eL eI f.toks++eD f.cond
def eGr (g:Gr):List Nat:=eL eS g.conds++eD g.fam++eL eTk g.toks++eL eS g.nons++eL ePr g.prods++eI g.start++eL eLv g.lvs++eL eFi g.fils
structure NN (g:Gr):Prop where
 fam:(∀b∈g.fam.1,0<=b.v/\0<=b.l/\0<=b.h)/\0<=g.fam.2
 toks:∀t∈g.toks,0<=t.cls/\(∀x∈t.pat,0<=x.k/\0<=x.lo/\0<=x.hi/\0<=x.a/\0<=x.b)/\(∀b∈t.cond.1,0<=b.v/\0<=b.l/\0<=b.h)/\0<=t.cond.2
 prods:∀p∈g.prods,0<=p.left/\(∀s∈p.right,0<=s.i)/\((∀b∈p.cond.1,0<=b.v/\0<=b.l/\0<=b.h)/\0<=p.cond.2)/\-1<=p.rank/\p.rank<=1/\(∀x∈p.lay,0<=x.k/\0<=x.a/\0<=x.b)/\0<=p.sco.d/\0<=p.sco.k/\0<=p.sco.u/\0<=p.sco.a
 start:0<=g.start
 lvs:∀l∈g.lvs,(∀x∈l.ps,0<=x)/\0<=l.assoc/\(∀b∈l.cond.1,0<=b.v/\0<=b.l/\0<=b.h)/\0<=l.cond.2
 fils:∀f∈g.fils,0<=f.k/\0<=f.par/\0<=f.pos/\0<=f.ch/\0<=f.left/\0<=f.tok/\(∀x∈f.toks,0<=x)/\(∀b∈f.cond.1,0<=b.v/\0<=b.l/\0<=b.h)/\0<=f.cond.2
end Go.Proofs.YtenpmjhnhepfdaaGreatDoor
