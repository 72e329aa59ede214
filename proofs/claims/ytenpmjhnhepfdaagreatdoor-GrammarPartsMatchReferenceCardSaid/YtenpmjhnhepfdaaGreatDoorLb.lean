/-
  The reference's tests of grammars: tokens, productions.
-/
import Derived.Test.YtenpmjhnhepfdaaGreatDoorIo
import Derived.Test.YtenpmjhnhepfdaaGreatDoorTd
namespace Go.Proofs.YtenpmjhnhepfdaaGreatDoor
open Go Go.Proofs.Tryz Tr
set_option maxRecDepth 10000
abbrev RB (F:PH) (P:Prop):VR:=fun r F'=>(∃q:Bool,r=.bool q/\(q=true↔P))/\F.le F'
section
variable {F F':PH} {P Q:Prop}
theorem RB.yes (h:P) (l:F.le F'):RB F P (.bool true) F':=⟨⟨true,rfl,fun _=>h,fun _=>rfl⟩,l⟩
theorem RB.no (h:¬P) (l:F.le F'):RB F P (.bool false) F':=⟨⟨false,rfl,fun h=>(by cases h),fun hp=>absurd hp h⟩,l⟩
theorem RB.dec [Decidable Q] (h:Q↔P) (l:F.le F'):RB F P (.bool (decide Q)) F':=⟨⟨_,rfl,by rw [decide_eq_true_eq];exact h⟩,l⟩
theorem RB.is {q:Bool} (h:q=true↔P) (l:F.le F'):RB F P (.bool q) F':=⟨⟨_,rfl,h⟩,l⟩
end
theorem St.up {G F F':PH} {As:List (PH->Prop)} (h:St G F As) (l:F.le F'):St G F' As:=by
 obtain ⟨Hs,h1,h2⟩:=h.ex
 exact ⟨aa h.le l,Hs,fun i A hi=>⟨(h1 i A hi).1,(h1 i A hi).2.1,aa (h1 i A hi).2.2 l⟩,h2⟩
theorem cI {a:Bool} (h:(!a)=false):a=true:=by cases a<;>first|rfl|cases h
section
variable {F:PH}
theorem zo (b:Nat) (F:PH):ae prog 217 #[.int .u8 (b:Int)] F (RB F (fO b)):=by
 refine S8 ?_
 unfold Mj fO
 refine ⟨fun h1=>⟨fun h2=> .yes (by omega) (le_refl' _),fun h2=>⟨fun h3=>⟨fun h4=> .yes (by omega) (le_refl' _),fun h4=> .dec (by omega) (le_refl' _)⟩,fun h3=> .dec (by omega) (le_refl' _)⟩⟩,fun h1=>⟨fun h3=>⟨fun h4=> .yes (by omega) (le_refl' _),fun h4=> .dec (by omega) (le_refl' _)⟩,fun h3=> .dec (by omega) (le_refl' _)⟩⟩
theorem Dq (s:ByteArray):iY s=true↔(∀i,i<s.size->(fO ((bs s).getD i 0)\/(i≠0/\hY ((bs s).getD i 0))))/\s≠emp:=by
 unfold iY uw
 rw [Bool.and_eq_true,List.all_eq_true,bL]
 simp only [List.mem_range,Bool.or_eq_true,decide_eq_true_eq,Bool.and_eq_true,bne_iff_ne,ne_eq,Bool.not_eq_true',List.isEmpty_eq_false_iff]
 refine and_congr_right fun _=>not_congr ⟨fun e=>uL (e.trans rfl),fun e=>by rw [e];rfl⟩
theorem rD (s:ByteArray) (hs:s.size<=1000000000):ae prog 190 #[.string s] F (RB F (iY s=true)):=by
 refine S1 ?_
 unfold Mc
 rw [Dq]
 refine bj (vI · s _) s.size (fun k F'=>F.le F'/\∀i,i<k->(fO ((bs s).getD i 0)\/(i≠0/\hY ((bs s).getD i 0)))) ⟨le_refl' F,fun i h=>by omega⟩ ?_
 rintro k F1 N hk ⟨hl,hi⟩ next
 unfold vI
 refine ⟨fun hlt=> ?_,fun hge=> ?_⟩
 ·have hlt:k<s.size:=by omega
  have hx:Int.toNat (k:Int)<s.size:=by simpa using hlt
  have hv:(((bs s).getD k 0:Nat):Int)=((s[Int.toNat (k:Int)]'hx).toNat:Int):=by
   rw [<- Fs s k hlt];rfl
  generalize hc:(bs s).getD k 0=c at hv
  have bad:∀{F2},F1.le F2->¬(fO c\/(k≠0/\hY c))->RB F ((∀i,i<s.size->(fO ((bs s).getD i 0)\/(i≠0/\hY ((bs s).getD i 0))))/\s≠emp) (.bool false) F2:=fun l hn=> .no (fun hp=>hn (by rw [<- hc];exact hp.1 k hlt)) (aa hl l)
  have good:∀{F2},F1.le F2->(fO c\/(k≠0/\hY c))->oN N s (k:Int) (RB F ((∀i,i<s.size->(fO ((bs s).getD i 0)\/(i≠0/\hY ((bs s).getD i 0))))/\s≠emp)) F2:=fun l hg=>by
   unfold oN
   rw [aB hlt (by omega)]
   refine next _ hlt ⟨aa hl l,fun i hi'=> ?_⟩
   by_cases e:i=k
   ·rw [e,hc];exact hg
   ·exact hi i (by omega)
  have j3:∀d:Bool,(d=true↔hY c)->oO N s (k:Int) d (RB F ((∀i,i<s.size->(fO ((bs s).getD i 0)\/(i≠0/\hY ((bs s).getD i 0))))/\s≠emp)) F1:=fun d hd=>by
   unfold oO
   refine ⟨by omega,by omega,hx,(c:Int),hv,?_⟩
   refine (zo c F1).mono ?_
   rintro _ F2 ⟨⟨q,rfl,hq⟩,l2⟩
   refine ⟨q,rfl,fun h=> ?_,fun h=>good l2 (.inl (hq.1 (cI h)))⟩
   have hnl:¬fO c:=fun hl'=>by rw [hq.2 hl'] at h;cases h
   refine ⟨fun h1=>bad l2 ?_,fun h1=>⟨fun h0=>bad l2 ?_,fun h0=>good l2 (.inr ⟨by omega,hd.1 (cI h1)⟩)⟩⟩
   ·rintro (h|h)
    ·exact hnl h
    ·rw [hd.2 h.2] at h1;cases h1
   ·rintro (h|h)
    ·exact hnl h
    ·omega
  refine ⟨by omega,by omega,hx,(c:Int),hv,fun h1=>⟨by omega,by omega,hx,(c:Int),hv,j3 _ ?_⟩,fun h1=>j3 _ ⟨fun h=>(by cases h),fun h=>by unfold hY at h;omega⟩⟩
  rw [decide_eq_true_eq]
  unfold hY
  omega
 ·have e:k=s.size:=by omega
  subst e
  unfold B2
  rw [gz]
  refine .is ?_ hl
  rw [Bool.not_eq_true',decide_eq_false_iff_not]
  exact ⟨fun h=>⟨hi,h⟩,fun h=>h.2⟩
theorem jC {s:Sl} {l:List ByteArray} (hs:RL F s l) (hl:l.length<=1000000000) {n:Nat} {x:ByteArray} (hx:l[n]? =some x):ae prog 191 #[s.v,vi n] F (RB F (x≠emp/\x ∉ l.take n)):=by
 have es:=hs.len (by decide)
 have hn:=(List.getElem?_eq_some_iff.1 hx).1
 have get:∀{F'},F.le F'->∀{i:Nat} {y:ByteArray},l[i]? =some y->∃a:Addr,s.base=some a/\0<=(i:Int)/\(i:Int)<(s.len:Int)/\F'.cell (Addr.add a (Int.toNat (i:Int)*1))=some (.string y):=fun {F'} hle {i y} hy=>by
  have:=(List.getElem?_eq_some_iff.1 hy).1
  obtain ⟨a,c,ha,hr,hc⟩:=(hs.le hle).get (by decide) hy
  rw [show c= #[.string y] from hc] at hr
  exact ⟨a,ha,by omega,by omega,by rw [Int.toNat_natCast];exact aF hr rfl⟩
 refine S2 ?_
 unfold Md
 refine bj (vJ · s (n:Int) _) n (fun k F'=>F.le F'/\x ∉ l.take k) ⟨le_refl' F,by simp⟩ ?_
 rintro k F1 N hk ⟨hle,hi⟩ next
 unfold vJ
 refine ⟨fun hlt=> ?_,fun hge=> ?_⟩
 ·have hlt:k<n:=by omega
  have hy:=List.getElem?_eq_getElem (show k<l.length by omega)
  generalize l[k]=y at hy
  obtain ⟨a,h1,h2,h3,h4⟩:=get hle hy
  obtain ⟨a',g1,g2,g3,g4⟩:=get hle hx
  refine ⟨a,h1,h2,h3,_,h4,a',g1,g2,g3,_,g4,?_⟩
  dsimp only
  rw [gz]
  refine ⟨fun h=> .no (fun hp=>hp.2 ?_) hle,fun h=> ?_⟩
  ·rw [<- of_decide_eq_true h]
   refine List.mem_of_getElem? (i:=k) ?_
   rw [List.getElem?_take_of_lt hlt]
   exact hy
  ·rw [aB hlt (by omega)]
   refine next _ hlt ⟨hle,fun hm=> ?_⟩
   rw [aI hy] at hm
   rcases List.mem_append.1 hm with hm|hm
   ·exact hi hm
   ·exact of_decide_eq_false h (List.mem_singleton.1 hm).symm
 ·have e:k=n:=by omega
  subst e
  unfold B3
  obtain ⟨a',g1,g2,g3,g4⟩:=get hle hx
  refine ⟨a',g1,g2,g3,_,g4,?_⟩
  dsimp only
  rw [gz]
  refine .is ?_ hle
  rw [Bool.not_eq_true',decide_eq_false_iff_not]
  exact ⟨fun h=>⟨h,hi⟩,fun h=>h.1⟩
structure Sml (g:Gr):Prop where
 m:Sm g
 z:Sz g
 n:g.fam.1.length<=1000000
 t:∀t∈g.toks,t.cond.1.length<=1000000
 p:∀t∈g.prods,t.cond.1.length<=1000000
 l:∀t∈g.lvs,t.cond.1.length<=1000000
 f:∀t∈g.fils,t.cond.1.length<=1000000
theorem Dr {v:Array Value} {g:Gr} (hg:GV F v g) (hm:Sm g):ae prog 130 #[.agg v] F (RB F (bE g=true)):=by
 obtain ⟨c,n,t,s,p,l,f,rfl,hs⟩:=hg
 have ec:=hs.c.len (by decide)
 have et:=hs.t.len (by decide)
 have es:=hs.s.len (by decide)
 have ep:=hs.p.len (by decide)
 have el:=hs.l.len (by decide)
 have ef:=hs.f.len (by decide)
 have hpm:=hm.p
 have hL:bE g=true↔(64<g.conds.length\/256<g.toks.length\/4096<g.fils.length\/2000<g.nons.length\/2000<g.prods.length\/2000<g.lvs.length)\/∃p∈g.prods,16<p.right.length\/16<p.lay.length:=by
  unfold bE
  rw [Bool.or_eq_true,decide_eq_true_eq,List.any_eq_true]
  simp only [decide_eq_true_eq]
 refine SF ?_
 unfold LP
 refine fresh fun b1 F1 l1 q1 _=> ?_
 rw [hL]
 refine ⟨_,ld q1 rfl,fun h=> .yes (.inl (by omega)) l1,fun h1=>⟨_,ld q1 rfl,fun h=> .yes (.inl (by omega)) l1,fun h2=>⟨_,ld q1 rfl,fun h=> .yes (.inl (by omega)) l1,fun h3=>⟨_,ld q1 rfl,fun h=> .yes (.inl (by omega)) l1,fun h4=>⟨_,ld q1 rfl,fun h=> .yes (.inl (by omega)) l1,fun h5=>⟨_,ld q1 rfl,fun h=> .yes (.inl (by omega)) l1,fun h6=> ?_⟩⟩⟩⟩⟩⟩
 refine bj (vn · b1 _) g.prods.length (fun k F'=>F1.le F'/\∀p∈g.prods.take k,¬(16<p.right.length\/16<p.lay.length)) ⟨le_refl' _,by simp⟩ ?_
 rintro k F2 N hk ⟨l2,hi⟩ next
 unfold vn
 have l12:=aa l1 l2
 refine ⟨_,ld (l2 _ _ q1) rfl,fun hlt=> ?_,fun hge=> ?_⟩
 ·have hlt:k<g.prods.length:=by omega
  refine ⟨_,ld (l2 _ _ q1) rfl,ixc (hs.p.le l12) (by decide) (by omega) (by omega) fun a cc x hx hr hc=> ?_⟩
  rw [Int.toNat_natCast] at hx
  have hxm:=List.mem_of_getElem? hx
  obtain ⟨r1,n1,y1,rfl,hr1,hn1,hy1⟩:=hc
  have e1:=hr1.len (by decide)
  have e2:=hy1.len (by decide)
  refine ⟨_,aD hr rfl,fun h=> .yes (.inr ⟨x,hxm,by omega⟩) l12,fun ha=>⟨_,ld (l2 _ _ q1) rfl,ixc (hs.p.le l12) (by decide) (by omega) (by omega) fun a' c' x' hx' hr' hc'=> ?_⟩⟩
  rw [Int.toNat_natCast,hx] at hx'
  cases hx'
  obtain ⟨r2,n2,y2,rfl,hr2,hn2,hy2⟩:=hc'
  have e3:=hy2.len (by decide)
  refine ⟨_,aD hr' rfl,fun h=> .yes (.inr ⟨x,hxm,by omega⟩) l12,fun hb=> ?_⟩
  rw [aB hlt (by omega)]
  refine next _ hlt ⟨l2,fun p hp=> ?_⟩
  rw [aI hx] at hp
  rcases List.mem_append.1 hp with hp|hp
  ·exact hi p hp
  ·rw [List.mem_singleton.1 hp];omega
 ·have e:k=g.prods.length:=by omega
  subst e
  rw [List.take_length] at hi
  unfold BL
  exact .no (fun h=>h.elim (fun h=>by omega) fun ⟨p,hp,h⟩=>hi p hp h) l12
theorem zp {v:Array Value} {g:Gr} (hg:GV F v g) (hz:Sml g):ae prog 131 #[.agg v] F (RB F (fa g)):=by
 obtain ⟨c,n,t,s,p,l,f,rfl,hs⟩:=hg
 have ec:=hs.c.len (by decide)
 have hcl:=hz.m.c
 have hfl:=hz.n
 refine SG ?_
 unfold LQ
 refine fresh fun b1 F1 l1 q1 _=> ?_
 refine bj (vo · b1 _) g.conds.length (fun k F'=>F1.le F'/\(∀s∈g.conds.take k,mj s)/\aX (g.conds.take k)) ⟨le_refl' _,by simp,by simp [aX]⟩ ?_
 rintro k F2 N hk ⟨l2,hi,hi2⟩ next
 have l12:=aa l1 l2
 unfold vo
 refine ⟨_,ld (l2 _ _ q1) rfl,fun hlt=> ?_,fun hge=> ?_⟩
 ·have hlt:k<g.conds.length:=by omega
  refine ⟨_,ld (l2 _ _ q1) rfl,ixc (hs.c.le l12) (by decide) (by omega) (by omega) fun a cc x hx hr hc=> ?_⟩
  rw [Int.toNat_natCast] at hx
  rw [show cc= #[.string x] from hc] at hr
  have hxm:x∈g.conds:=List.mem_of_getElem? hx
  refine ⟨_,aF hr rfl,?_⟩
  refine (rD x (hz.z.c x hxm)).mono ?_
  rintro _ F3 ⟨⟨b,rfl,hb⟩,l3⟩
  have l13:=aa l12 l3
  have q3:=l3 _ _ (l2 _ _ q1)
  refine ⟨b,rfl,fun h=> .no (fun hn=>by rw [hb.2 (hn.1 x hxm).1] at h;cases h) l13,fun h1=>⟨_,ld q3 rfl,?_⟩⟩
  refine (jC (hs.c.le l13) hcl hx).mono ?_
  rintro _ F4 ⟨⟨b',rfl,hb'⟩,l4⟩
  have l14:=aa l13 l4
  refine ⟨b',rfl,fun h=> .no (fun hn=> ?_) l14,fun h2=> ?_⟩
  ·have:=fw hn.2.1 (k+1)
   rw [aI hx,cq] at this
   rw [hb'.2 this.2] at h
   cases h
  ·rw [gz,gz]
   refine ⟨fun h=> .no (fun hn=>(hn.1 x hxm).2.1 (of_decide_eq_true h)) l14,fun h3=>⟨fun h=> .no (fun hn=>(hn.1 x hxm).2.2 (of_decide_eq_true h)) l14,fun h4=> ?_⟩⟩
   rw [aB hlt (by omega)]
   refine next _ hlt ⟨aa l2 (aa l3 l4),fun s hs'=> ?_,?_⟩
   ·rw [aI hx] at hs'
    rcases List.mem_append.1 hs' with hs'|hs'
    ·exact hi s hs'
    ·rw [List.mem_singleton.1 hs']
     exact ⟨hb.1 (cI h1),of_decide_eq_false h3,of_decide_eq_false h4⟩
   ·rw [aI hx,cq]
    exact ⟨hi2,hb'.1 (cI h2)⟩
 ·have e:k=g.conds.length:=by omega
  subst e
  rw [List.take_length] at hi hi2
  unfold BM
  refine ⟨#[n.v,vi g.fam.2],rfl,dP (l2 _ _ q1) rfl,_,ld (l2 _ _ q1) rfl,?_⟩
  dsimp only
  rw [ec]
  refine (iR (d:=g.fam) (DV.mk (hs.n.le l12)) (by unfold Fit;omega) hfl).mono ?_
  rintro _ F3 ⟨rfl,l3⟩
  refine ⟨_,rfl,fun h=>⟨_,ld (l3 _ _ (l2 _ _ q1)) rfl,?_⟩,fun h=> .no (fun hn=> ?_) (aa l12 l3)⟩
  ·exact .dec ⟨fun h0=>⟨hi,hi2,bh.1 h,h0⟩,fun hn=>hn.2.2.2⟩ (aa l12 l3)
  ·rw [bh.2 hn.2.2.1] at h
   cases h
theorem Hf {v:Array Value} {g:Gr} (hg:GV F v g) (hz:Sml g):ae prog 133 #[.agg v] F (RB F (dO g)):=by
 obtain ⟨c,n,t,s,p,l,f,rfl,hs⟩:=hg
 have ec:=hs.s.len (by decide)
 have hcl:=hz.m.s
 refine SI ?_
 unfold LV
 refine fresh fun b1 F1 l1 q1 _=> ?_
 refine bj (vq · b1 _) g.nons.length (fun k F'=>F1.le F'/\aX (g.nons.take k)) ⟨le_refl' _,by simp [aX]⟩ ?_
 rintro k F2 N hk ⟨l2,hi2⟩ next
 have l12:=aa l1 l2
 unfold vq
 refine ⟨_,ld (l2 _ _ q1) rfl,fun hlt=> ?_,fun hge=> ?_⟩
 ·have hlt:k<g.nons.length:=by omega
  have hx:=List.getElem?_eq_getElem hlt
  generalize g.nons[k]=x at hx
  refine ⟨_,ld (l2 _ _ q1) rfl,?_⟩
  refine (jC (hs.s.le l12) hcl hx).mono ?_
  rintro _ F4 ⟨⟨b',rfl,hb'⟩,l4⟩
  have l14:=aa l12 l4
  refine ⟨b',rfl,fun h=> .no (fun hn=> ?_) l14,fun h2=> ?_⟩
  ·have:=fw hn.1 (k+1)
   rw [aI hx,cq] at this
   rw [hb'.2 this.2] at h
   cases h
  ·rw [aB hlt (by omega)]
   refine next _ hlt ⟨aa l2 l4,?_⟩
   rw [aI hx,cq]
   exact ⟨hi2,hb'.1 (cI h2)⟩
 ·have e:k=g.nons.length:=by omega
  subst e
  rw [List.take_length] at hi2
  unfold BP
  refine ⟨_,ld (l2 _ _ q1) rfl,fun h=>⟨_,ld (l2 _ _ q1) rfl,_,ld (l2 _ _ q1) rfl,.dec ?_ l12⟩,fun h=> .no (fun hn=>h hn.2.1) l12⟩
  rw [ec]
  exact ⟨fun h'=>⟨hi2,h,h'⟩,fun h=>h.2.2⟩
theorem tG {v:Array Value} {x:Pr} (hp:Mem.rep F x v) (k:Int) (hr:x.right.length<=1000000000):ae prog 220 #[.agg v,vi k] F (RB F (k=0\/(0<k/\k<=x.right.length/\∃s,x.right[(k - 1).toNat]? =some s/\s.t=true))):=by
 obtain ⟨r,n,l,rfl,h1,h2,h3⟩:=hp
 have er:=h1.len (by decide)
 refine S9 ?_
 unfold Mk
 refine fresh fun b2 F1 l1 q1 _=>⟨fun h=> .yes (.inl h) l1,fun h0=>⟨fun hk=>⟨_,ld q1 rfl,fun hle=> ?_,fun h=> .no (fun hp=> ?_) l1⟩,fun h=> .no (fun hp=> ?_) l1⟩⟩
 ·refine ⟨_,ld q1 rfl,?_⟩
  dsimp only
  have ew:IntKind.i64.wrap (k - 1)=k - 1:=aN (by omega) (by omega)
  rw [ew]
  refine ixc (h1.le l1) (by decide) (by omega) (by omega) fun a c y hy hr' hc=> ?_
  rw [show c=y.arr from hc] at hr'
  refine ⟨_,aF hr' rfl,.is ⟨fun h=> .inr ⟨hk,by omega,y,hy,h⟩,fun hp=> ?_⟩ l1⟩
  rcases hp with hp|⟨_,_,s,hs,ht⟩
  ·exact absurd hp h0
  ·rw [hy] at hs
   cases hs
   exact ht
 ·rcases hp with hp|hp
  ·exact h0 hp
  ·omega
 ·rcases hp with hp|hp
  ·exact h0 hp
  ·exact h hp.1
theorem Ds {v:Array Value} {x:Pr} (hp:Mem.rep F x v) (hr:x.right.length<=1000000000):ae prog 195 #[.agg v] F (RB F (cD x.right x.sco.d x.sco.k 1 7/\cD x.right x.sco.u x.sco.a 0 255)):=by
 have hp0:=hp
 obtain ⟨r,n,l,rfl,h1,h2,h3⟩:=hp
 refine S6 ?_
 unfold Mh
 refine fresh fun b1 F1 l1 q1 _=>⟨x.sco.arr,rfl,dP q1 rfl,?_⟩
 refine C6 (by simp [ai]) (fun b3 F2 l2 q3=> ?_) rfl rfl
 have l12:=aa l1 l2
 refine ⟨_,rfl,aj (l2 _ _ q1),_,ld q3 rfl,?_⟩
 refine (tG (Mem.le l12 hp0) x.sco.d hr).mono ?_
 rintro _ F3 ⟨⟨b,rfl,hb⟩,l3⟩
 have l13:=aa l12 l3
 have q1':=l3 _ _ (l2 _ _ q1)
 have q3':=l3 _ _ q3
 refine ⟨b,rfl,fun h=> .no (fun hn=> ?_) l13,fun hd=>⟨_,rfl,aj q1',_,ld q3' rfl,?_⟩⟩
 ·have:b=true:=hb.2 (hn.1.elim (fun h=> .inl h.1) fun h=> .inr ⟨h.1,h.2.1,h.2.2.1⟩)
  rw [this] at h;cases h
 refine (tG (Mem.le l13 hp0) x.sco.u hr).mono ?_
 rintro _ F4 ⟨⟨b',rfl,hb'⟩,l4⟩
 have l14:=aa l13 l4
 have q4:=l4 _ _ q3'
 refine ⟨b',rfl,fun h=> .no (fun hn=> ?_) l14,fun hu=> ?_⟩
 ·have:b'=true:=hb'.2 (hn.2.elim (fun h=> .inl h.1) fun h=> .inr ⟨h.1,h.2.1,h.2.2.1⟩)
  rw [this] at h;cases h
 have hD:=hb.1 (cI hd)
 have hU:=hb'.1 (cI hu)
 have eD:cD x.right x.sco.d x.sco.k 1 7↔(x.sco.d=0/\x.sco.k=0)\/(x.sco.d≠0/\1<=x.sco.k/\x.sco.k<=7):=by
  unfold cD
  constructor
  ·rintro (h|h)
   ·exact .inl h
   ·exact .inr ⟨by omega,h.2.2.2⟩
  ·rintro (h|h)
   ·exact .inl h
   ·have h':=hD.resolve_left h.1
    exact .inr ⟨h'.1,h'.2.1,h'.2.2,h.2⟩
 have eU:cD x.right x.sco.u x.sco.a 0 255↔(x.sco.u=0/\x.sco.a=0)\/(x.sco.u≠0/\0<=x.sco.a/\x.sco.a<=255):=by
  unfold cD
  constructor
  ·rintro (h|h)
   ·exact .inl h
   ·exact .inr ⟨by omega,h.2.2.2⟩
  ·rintro (h|h)
   ·exact .inl h
   ·have h':=hU.resolve_left h.1
    exact .inr ⟨h'.1,h'.2.1,h'.2.2,h.2⟩
 rw [eD,eU]
 have j2:∀a c:Bool,(a=true↔(x.sco.d=0/\x.sco.k=0)\/(x.sco.d≠0/\1<=x.sco.k/\x.sco.k<=7))->(c=true↔(x.sco.u=0/\x.sco.a=0)\/(x.sco.u≠0/\0<=x.sco.a/\x.sco.a<=255))->fE a c (RB F (((x.sco.d=0/\x.sco.k=0)\/(x.sco.d≠0/\1<=x.sco.k/\x.sco.k<=7))/\((x.sco.u=0/\x.sco.a=0)\/(x.sco.u≠0/\0<=x.sco.a/\x.sco.a<=255)))) F4:=fun a c ha hc=>by
  unfold fE
  exact ⟨fun h=> .is ⟨fun h'=>⟨ha.1 h,hc.1 h'⟩,fun h'=>hc.2 h'.2⟩ l14,fun h=> .no (fun h'=>by rw [ha.2 h'.1] at h;cases h) l14⟩
 have j1:∀a:Bool,(a=true↔(x.sco.d=0/\x.sco.k=0)\/(x.sco.d≠0/\1<=x.sco.k/\x.sco.k<=7))->fF b3 a (RB F (((x.sco.d=0/\x.sco.k=0)\/(x.sco.d≠0/\1<=x.sco.k/\x.sco.k<=7))/\((x.sco.u=0/\x.sco.a=0)\/(x.sco.u≠0/\0<=x.sco.a/\x.sco.a<=255)))) F4:=fun a ha=>by
  unfold fF
  refine ⟨_,ld q4 rfl,fun k1=>⟨_,ld q4 rfl,fun k2=>j2 a _ ha ⟨fun _=> .inl ⟨k1,k2⟩,fun _=>rfl⟩,fun k2=>⟨_,ld q4 rfl,fun k3=>absurd k1 k3,fun _=>j2 a _ ha ⟨fun h=>(by cases h),fun h=>by omega⟩⟩⟩,fun k1=>⟨_,ld q4 rfl,fun k3=>⟨_,ld q4 rfl,fun k4=>⟨_,ld q4 rfl,j2 a _ ha ?_⟩,fun k4=>j2 a _ ha ⟨fun h=>(by cases h),fun h=>by omega⟩⟩,fun k3=>absurd k1 k3⟩⟩
  rw [decide_eq_true_eq]
  constructor
  ·intro h;exact .inr ⟨k1,k4,h⟩
  ·intro h;omega
 refine ⟨_,ld q4 rfl,fun k1=>⟨_,ld q4 rfl,fun k2=>j1 _ ⟨fun _=> .inl ⟨k1,k2⟩,fun _=>rfl⟩,fun k2=>⟨_,ld q4 rfl,fun k3=>absurd k1 k3,fun _=>j1 _ ⟨fun h=>(by cases h),fun h=>by omega⟩⟩⟩,fun k1=>⟨_,ld q4 rfl,fun k3=>⟨_,ld q4 rfl,fun k4=>⟨_,ld q4 rfl,j1 _ ?_⟩,fun k4=>j1 _ ⟨fun h=>(by cases h),fun h=>by omega⟩⟩,fun k3=>absurd k1 k3⟩⟩
 rw [decide_eq_true_eq]
 constructor
 ·intro h;exact .inr ⟨k1,k4,h⟩
 ·intro h;omega
end
def NY (n:Nat) (t:Tk):Prop:=0<=t.cls/\t.cls<=2/\fg t.cond n/\(t.lit≠emp->t.smp=emp/\t.pat=[])/\(t.lit=emp->fh t.pat=0/\(t.cls=0->t.smp≠emp/\LgL t.pat (bs t.smp))/\(t.cls≠0->t.smp=emp))
theorem Hg {n:Nat} {done:List ByteArray} {t:Tk}:wT n done t↔(t.name≠emp/\t.name ∉ done)/\NY n t:=by
 unfold wT NY
 rw [and_assoc]
section
variable {F:PH}
theorem Dt {v:Array Value} {x:Tk} {n:Nat} (hx:Mem.rep F x v) (hc:x.cond.1.length<=1000000) (hs:x.smp.size<=100000):ae prog 192 #[.agg v,vi n] F (RB F (NY n x)):=by
 obtain ⟨p,m,rfl,hp,hm⟩:=hx
 have ep:=hp.len (by decide)
 refine S3 ?_
 unfold Me
 refine fresh fun b2 F1 l1 q1 _=>⟨_,ld q1 rfl,fun h=> .no (fun hn=>by have:=hn.1;omega) l1,fun h0=>⟨_,ld q1 rfl,fun h=> .no (fun hn=>by have:=hn.2.1;omega) l1,fun h1=>⟨#[m.v,vi x.cond.2],rfl,dP q1 rfl,?_⟩⟩⟩
 refine (iR (d:=x.cond) (DV.mk (hm.le l1)) (by unfold Fit;omega) hc).mono ?_
 rintro _ F2 ⟨rfl,l2⟩
 have l12:=aa l1 l2
 refine ⟨_,rfl,fun h=> .no (fun hn=> ?_) l12,fun hf=>⟨_,ld (l2 _ _ q1) rfl,?_⟩⟩
 ·rw [bh.2 hn.2.2.1] at h;cases h
 have hfit:=bh.1 (cI hf)
 dsimp only
 rw [gz]
 refine ⟨fun hl=> ?_,fun hl=> ?_⟩
 ·have hl:x.lit≠emp:=fun e=>by rw [decide_eq_true e] at hl;cases hl
  refine ⟨_,ld (l2 _ _ q1) rfl,fun h=>⟨_,ld (l2 _ _ q1) rfl,?_⟩,fun h=> .no (fun hn=> ?_) l12⟩
  ·dsimp only
   rw [gz]
   refine .dec ⟨fun e=>⟨by omega,by omega,hfit,fun _=>⟨e,List.eq_nil_of_length_eq_zero (by omega)⟩,fun e=>absurd e hl⟩,fun hn=>(hn.2.2.2.1 hl).1⟩ l12
  ·rw [(hn.2.2.2.1 hl).2] at ep
   exact h (by rw [ep];rfl)
 ·have hl:x.lit=emp:=by
   cases e:decide (x.lit=emp) with
   |true=>exact of_decide_eq_true e
   |false=>rw [e] at hl;cases hl
  refine ⟨_,ld (l2 _ _ q1) rfl,?_⟩
  refine (jG (RL.nds.1 (hp.le l12))).mono ?_
  rintro _ F3 ⟨rfl,l3⟩
  have l13:=aa l12 l3
  have q3:=l3 _ _ (l2 _ _ q1)
  refine ⟨_,rfl,fun h=> .no (fun hn=>h (hn.2.2.2.2 hl).1) l13,fun hk=>⟨_,ld q3 rfl,fun hc0=>⟨_,ld q3 rfl,?_⟩,fun hc0=>⟨_,ld q3 rfl,?_⟩⟩⟩
  ·dsimp only
   rw [gz]
   exact .dec ⟨fun e=>⟨by omega,by omega,hfit,fun h=>absurd hl h,fun _=>⟨Decidable.not_not.1 hk,fun h=>absurd h hc0,fun _=>e⟩⟩,fun hn=>(hn.2.2.2.2 hl).2.2 hc0⟩ l13
  ·have hc0:=Decidable.not_not.1 hc0
   dsimp only
   rw [gz]
   refine ⟨fun hse=>⟨_,ld q3 rfl,_,ld q3 rfl,?_⟩,fun hse=> .no (fun hn=> ?_) l13⟩
   ·refine (nk (RL.nds.1 (hp.le l13)) x.smp hs).mono ?_
    rintro _ F4 ⟨⟨q,rfl,hq⟩,l4⟩
    refine ⟨q,rfl,.is ⟨fun h=> ?_,fun hn=>hq.2 ⟨(hn.2.2.2.2 hl).1,((hn.2.2.2.2 hl).2.1 hc0).2⟩⟩ (aa l13 l4)⟩
    have:=hq.1 h
    exact ⟨by omega,by omega,hfit,fun h=>absurd hl h,fun _=>⟨this.1,fun _=>⟨fun e=>(by rw [decide_eq_true e] at hse;cases hse),this.2⟩,fun h=>absurd hc0 h⟩⟩
   ·have:=((hn.2.2.2.2 hl).2.1 hc0).1
    rw [decide_eq_false this] at hse
    cases hse
theorem rE {G F:PH} {s:Sl} {l:List ByteArray} {As:List (PH->Prop)} (h:St G F (own s 9 1 (l.map Value.string)::As)) (x:ByteArray) (hl:l.length<=10000000000) {K:Sl->PH->Prop}
  (k:∀s' G' F',G.le G'->St G' F' (own s' 9 1 ((l++[x]).map Value.string)::As)->RL F' s' (l++[x])->K s' F'):
  ∀b,F b=none->atF (F.set b (.cells #[.string x] 9)) fun F=>aE prog (Builtin.append_ #[30,30] 30 #[s.v,Sl.v (Sl.mk (some (Addr.mk b 0 none)) 1 1)]) F fun v F=>∃s':Sl,v=Sl.v s'/\K s' F:=by
 have hs:s.len=l.length:=by
  have:=(h.ownAt (i:=0) rfl).1.rd.len
  rw [List.length_map] at this
  omega
 refine h.push0 J0 (c:= #[.string x]) rfl (by simp [ai]) (by omega) fun s' G' F' l' h' _=> ?_
 have e:l.map Value.string++(#[Value.string x]:Array Value).toList=(l++[x]).map Value.string:=by rw [List.map_append];rfl
 rw [e] at h'
 exact k s' G' F' l' h' (RL.strs.2 (h'.ownAt (i:=0) rfl).1.rd)
theorem zq {v:Array Value} {g:Gr} (hg:GV F v g) (hz:Sml g):ae prog 132 #[.agg v] F (RB F (cN g.conds.length [] g.toks)):=by
 obtain ⟨c,n,t,s,p,l,f,rfl,hs⟩:=hg
 have ec:=hs.c.len (by decide)
 have et:=hs.t.len (by decide)
 have hcl:=hz.m.t
 refine SH ?_
 unfold LU
 refine (St.start F).newG fun b1 G1 F1 l1 q1 _ h=> ?_
 refine h.new fun b5 F2 h=> ?_
 have h:=h.imp (A':=own (Sl.mk (some (Addr.mk b5 0 none)) 0 0) 9 1 []) 0 rfl fun H _ hH=>bK hH
 refine ⟨fun m nm i F'=>∃(k:Nat) (G:PH),i=(k:Int)/\m=g.toks.length - k/\k<=g.toks.length/\G1.le G/\St G F' [own nm 9 1 (((g.toks.take k).map Tk.name).map Value.string)]/\(cN g.conds.length [] g.toks↔cN g.conds.length ((g.toks.take k).map Tk.name) (g.toks.drop k)),g.toks.length,
  ⟨0,G1,rfl,rfl,by omega,le_refl' _,h,Iff.rfl⟩,?_⟩
 rintro m nm i F3 ⟨k,G,rfl,rfl,hk,lG,h,hE⟩
 have l1G:=aa l1 lG
 unfold BO
 have lF:=aa l1G h.le
 refine ⟨_,ld (h.le _ _ (lG _ _ q1)) rfl,fun hlt=> ?_,fun hge=> ?_⟩
 ·have hlt:k<g.toks.length:=by omega
  refine ⟨_,ld (h.le _ _ (lG _ _ q1)) rfl,ixc (hs.t.le lF) (by decide) (by omega) (by omega) fun a cc x hx hr hc=> ?_⟩
  rw [Int.toNat_natCast] at hx
  have hxm:=List.mem_of_getElem? hx
  obtain ⟨pp,pn,rfl,hpp,hpn⟩:=hc
  rw [du hx,cN,Hg] at hE
  refine ⟨_,aF hr rfl,?_⟩
  refine rE h x.name (by rw [List.length_map,List.length_take];omega) fun s' G' F4 lG' h hrl=> ?_
  have lF4:=aa l1G (aa lG' h.le)
  have hnx:((g.toks.take k).map Tk.name++[x.name])[k]? =some x.name:=by
   rw [List.getElem?_append_right (by rw [List.length_map,List.length_take];omega),List.length_map,List.length_take,Nat.min_eq_left hk,Nat.sub_self]
   rfl
  have htk:((g.toks.take k).map Tk.name++[x.name]).take k=(g.toks.take k).map Tk.name:=by
   rw [List.take_append_of_le_length (by rw [List.length_map,List.length_take];omega),List.take_of_length_le (by rw [List.length_map,List.length_take];omega)]
  refine (jC hrl (by rw [List.length_append,List.length_map,List.length_take,List.length_singleton];omega) hnx).mono ?_
  rintro _ F5 ⟨⟨b,rfl,hb⟩,l5⟩
  rw [htk] at hb
  have h:=h.up l5
  have lF5:=aa lF4 l5
  have q5:=h.le _ _ (lG' _ _ (lG _ _ q1))
  refine ⟨b,rfl,fun hn=> .no (fun ho=> ?_) lF5,fun hn=>⟨_,ld q5 rfl,ixc (hs.t.le lF5) (by decide) (by omega) (by omega) fun a' c' x' hx' hr' hc'=> ?_⟩⟩
  ·rw [hb.2 (hE.1 ho).1.1] at hn;cases hn
  ·rw [Int.toNat_natCast,hx] at hx'
   cases hx'
   refine ⟨_,Mem.len hc',hr',_,ld q5 rfl,?_⟩
   dsimp only
   rw [ec]
   refine (Dt hc' (hz.t x hxm) (hz.z.t x hxm)).mono ?_
   rintro _ F6 ⟨⟨b',rfl,hb'⟩,l6⟩
   have h:=h.up l6
   have lF6:=aa lF5 l6
   refine ⟨b',rfl,ld (l6 _ _ q5) rfl,ld (l6 _ _ q5) rfl,fun hn'=> .no (fun ho=> ?_) lF6,fun hn'=> ?_⟩
   ·rw [hb'.2 (hE.1 ho).1.2] at hn';cases hn'
   ·rw [aB hlt (by omega)]
    refine ⟨g.toks.length - (k+1),by omega,k+1,G',rfl,rfl,by omega,aa lG lG',?_,?_⟩
    ·rw [aI hx,List.map_append]
     exact h
    ·rw [aI hx,List.map_append]
     exact hE.trans ⟨fun h=>h.2,fun h=>⟨⟨hb.1 (cI hn),hb'.1 (cI hn')⟩,h⟩⟩
 ·have e:k=g.toks.length:=by omega
  rw [e,List.drop_length,cN] at hE
  unfold BN
  exact .yes (hE.2 trivial) lF
theorem xB {v w:Array Value} {g:Gr} {x:Pr} (hg:GV F v g) (hx:Mem.rep F x w) (hl:x.right.length<=1000000000):ae prog 193 #[.agg v,.agg w] F (RB F (cz g x)):=by
 obtain ⟨c,n,t,s,p,l,f,rfl,hs⟩:=hg
 obtain ⟨r,m,y,rfl,hr,hm,hy⟩:=hx
 have et:=hs.t.len (by decide)
 have es:=hs.s.len (by decide)
 have er:=hr.len (by decide)
 refine S4 ?_
 unfold Mf
 refine fresh fun b2 F1 l1 q2 _=>fresh fun b3 F2 l2 q3 _=> ?_
 have l12:=aa l1 l2
 replace q2:=l2 _ _ q2
 refine bj (vK · b2 b3 _) x.right.length (fun k F'=>F2.le F'/\∀s∈x.right.take k,iv g s) ⟨le_refl' _,by simp⟩ ?_
 rintro k F3 N hk ⟨l3,hi⟩ next
 have l13:=aa l12 l3
 unfold vK
 refine ⟨_,ld (l3 _ _ q3) rfl,fun hlt=> ?_,fun hge=> ?_⟩
 ·have hlt:k<x.right.length:=by omega
  refine ⟨_,ld (l3 _ _ q3) rfl,ixc (hr.le l13) (by decide) (by omega) (by omega) fun a cc z hz hrz hc=> ?_⟩
  rw [Int.toNat_natCast] at hz
  rw [show cc=z.arr from hc] at hrz
  have hzm:=List.mem_of_getElem? hz
  refine ⟨_,rfl,hrz,?_⟩
  refine C6 (by simp [ai]) (fun b6 F4 l4 q6=> ?_) rfl rfl
  have l14:=aa l13 l4
  have p2:=l4 _ _ (l3 _ _ q2)
  have good:iv g z->oP N b2 b3 (k:Int) (RB F (cz g x)) F4:=fun h=>by
   unfold oP
   rw [aB hlt (by omega)]
   refine next _ hlt ⟨aa l3 l4,fun s hs'=> ?_⟩
   rw [aI hz] at hs'
   rcases List.mem_append.1 hs' with hs'|hs'
   ·exact hi s hs'
   ·rw [List.mem_singleton.1 hs'];exact h
  have bad:¬iv g z->RB F (cz g x) (.bool false) F4:=fun h=> .no (fun ho=>h (ho.2 z hzm)) l14
  have j3:∀most:Nat,most=(if z.t then g.toks.length else g.nons.length)->oQ N b2 b3 (k:Int) b6 (most:Int) (RB F (cz g x)) F4:=fun most hmost=>by
   unfold oQ
   refine ⟨_,ld q6 rfl,fun h=>bad fun hn=>by have:=hn.1;omega,fun h0=>⟨_,ld q6 rfl,fun h=>bad fun hn=> ?_,fun h1=>⟨_,ld q6 rfl,fun ht=>⟨_,ld p2 rfl,_,ld q6 rfl,?_⟩,fun ht=>good ⟨by omega,fun _=> ?_,fun h=>by rw [ht] at h;cases h⟩⟩⟩⟩
   ·cases e:z.t with
    |true=>
     rw [e,if_pos rfl] at hmost
     obtain ⟨u,hu,_⟩:=hn.2.2 e
     have:=(List.getElem?_eq_some_iff.1 hu).1
     have:=hn.1
     omega
    |false=>
     rw [e,if_neg (by decide)] at hmost
     have:=hn.2.1 e
     omega
   ·rw [ht,if_pos rfl] at hmost
    refine ixc (hs.t.le l14) (by decide) (by omega) (by omega) fun a2 c2 u hu hru hcu=> ?_
    obtain ⟨p2,n2,rfl,_⟩:=hcu
    refine ⟨_,aD hru rfl,fun h=>bad fun hn=> ?_,fun h=>good ⟨by omega,fun h=>(by rw [ht] at h;cases h),fun _=>⟨u,hu,Decidable.not_not.1 h⟩⟩⟩
    obtain ⟨u',hu',hc'⟩:=hn.2.2 ht
    rw [hu] at hu'
    cases hu'
    exact h hc'
   ·rw [ht,if_neg (by decide)] at hmost
    omega
  refine ⟨_,ld p2 rfl,_,ld q6 rfl,fun ht=>⟨_,ld p2 rfl,?_⟩,fun ht=> ?_⟩
  ·dsimp only
   rw [et]
   exact j3 _ (by rw [ht];rfl)
  ·rw [es]
   exact j3 _ (by rw [ht];rfl)
 ·have e:k=x.right.length:=by omega
  subst e
  rw [List.take_length] at hi
  unfold B4
  refine ⟨_,ld (l3 _ _ q3) rfl,fun h0=>⟨_,ld (l3 _ _ q3) rfl,_,ld (l3 _ _ q2) rfl,.dec ?_ l13⟩,fun h=> .no (fun ho=>h ho.1.1) l13⟩
  rw [es]
  exact ⟨fun h=>⟨⟨h0,fun _=>h,fun h=>(by cases h)⟩,hi⟩,fun ho=>ho.1.2.1 rfl⟩
theorem nj {w:Array Value} {x:Pr} (hx:Mem.rep F x w) (h1:x.right.length<=1000000000) (h2:x.lay.length<=1000000000):ae prog 194 #[.agg w] F (RB F (∀y∈x.lay,kR x.right y)):=by
 obtain ⟨r,m,y,rfl,hr,hm,hy⟩:=hx
 have er:=hr.len (by decide)
 have ey:=hy.len (by decide)
 refine S5 ?_
 unfold Mg
 refine fresh fun b1 F1 l1 q1 _=> ?_
 refine bj (vL · b1 _) x.lay.length (fun k F'=>F1.le F'/\∀s∈x.lay.take k,kR x.right s) ⟨le_refl' _,by simp⟩ ?_
 rintro k F3 N hk ⟨l3,hi⟩ next
 have l13:=aa l1 l3
 unfold vL
 refine ⟨_,ld (l3 _ _ q1) rfl,fun hlt=> ?_,fun hge=> ?_⟩
 ·have hlt:k<x.lay.length:=by omega
  refine ⟨_,ld (l3 _ _ q1) rfl,ixc (hy.le l13) (by decide) (by omega) (by omega) fun a cc z hz hrz hc=> ?_⟩
  rw [Int.toNat_natCast] at hz
  rw [show cc=z.arr from hc] at hrz
  have hzm:=List.mem_of_getElem? hz
  refine ⟨_,rfl,hrz,?_⟩
  refine C6 (by simp [ai]) (fun b4 F4 l4 q4=> ?_) rfl rfl
  have l14:=aa l13 l4
  have p1:=l4 _ _ (l3 _ _ q1)
  have good:kR x.right z->oR N b1 (k:Int) (RB F (∀y∈x.lay,kR x.right y)) F4:=fun h=>by
   unfold oR
   rw [aB hlt (by omega)]
   refine next _ hlt ⟨aa l3 l4,fun s hs'=> ?_⟩
   rw [aI hz] at hs'
   rcases List.mem_append.1 hs' with hs'|hs'
   ·exact hi s hs'
   ·rw [List.mem_singleton.1 hs'];exact h
  have bad:¬kR x.right z->RB F (∀y∈x.lay,kR x.right y) (.bool false) F4:=fun h=> .no (fun ho=>h (ho z hzm)) l14
  unfold kR at good bad
  refine ⟨_,ld q4 rfl,fun h=>bad (by omega),fun g1=>⟨_,ld q4 rfl,fun h=>bad (by omega),fun g2=>⟨_,ld q4 rfl,fun h=>bad (by omega),fun g3=>⟨_,ld q4 rfl,_,ld p1 rfl,fun h=>bad (by omega),fun g4=>⟨_,ld q4 rfl,fun h=>bad (by omega),fun g5=>⟨_,ld q4 rfl,_,ld p1 rfl,fun h=>bad (by omega),fun g6=>⟨_,ld q4 rfl,fun k1=>⟨_,ld q4 rfl,fun h=>bad fun hn=>h (hn.2.2.2.2.2.2 k1),fun h=>good ?_⟩,fun k1=>good ?_⟩⟩⟩⟩⟩⟩⟩
  ·exact ⟨by omega,by omega,by omega,by omega,by omega,by omega,fun _=>Decidable.not_not.1 h⟩
  ·exact ⟨by omega,by omega,by omega,by omega,by omega,by omega,fun h=>absurd h k1⟩
 ·have e:k=x.lay.length:=by omega
  subst e
  rw [List.take_length] at hi
  unfold B5
  exact .yes hi l13
end
end Go.Proofs.YtenpmjhnhepfdaaGreatDoor
