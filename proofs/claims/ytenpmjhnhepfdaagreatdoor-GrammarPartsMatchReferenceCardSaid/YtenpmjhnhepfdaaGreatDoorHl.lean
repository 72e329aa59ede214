/-
  Grammars of a configuration: within, In, At.
-/
import Derived.Test.YtenpmjhnhepfdaaGreatDoorHh
namespace Go.Proofs.YtenpmjhnhepfdaaGreatDoor
open Go Go.Proofs.Tryz
set_option maxRecDepth 10000
def wT (n:Nat) (done:List ByteArray) (t:Tk):Prop:=t.name≠emp/\t.name ∉ done/\0<=t.cls/\t.cls<=2/\fg t.cond n/\(t.lit≠emp->t.smp=emp/\t.pat=[])/\
 (t.lit=emp->fh t.pat=0/\(t.cls=0->t.smp≠emp/\LgL t.pat (bs t.smp))/\(t.cls≠0->t.smp=emp))
def cN (n:Nat) (done:List ByteArray):List Tk->Prop
 |[]=>True
 |t::r=>wT n done t/\cN n (done++[t.name]) r
open Classical in
theorem me {F:PH} {v:Array Value} {g:Gr} (hT:Tab F) (hg:GV F v g) (hl:bE g=false) (hz:Sz g):ae prog 76 #[.agg v] F fun r F'=>r=vi (if cN g.conds.length [] g.toks then 0 else 51)/\F.le F':=by
 obtain ⟨_,hlt',_⟩:=dU hl
 obtain ⟨c,n,t,s,p,lv,f,rfl,hs⟩:=hg
 have ec:=hs.c.len (by decide)
 have et:=hs.t.len (by decide)
 refine UD ?_
 unfold QT
 refine fresh fun b1 F1 l1 q1 _=> ?_
 replace hs:=hs.le l1
 replace hT:=hT.le l1
 refine (g0 F1).mono ?_
 rintro _ F2 ⟨G2,bn,m,rfl,l2,hcn,h⟩
 refine ⟨_,rfl,_,ld (h.le _ _ (l2 _ _ q1)) rfl,?_⟩
 refine bj (yV · b1 (wX bn) t _) g.toks.length (fun k F'=>∃G,G2.le G/\St G F' [cK m ((g.toks.take k).map Tk.name).reverse]/\(cN g.conds.length [] g.toks↔cN g.conds.length ((g.toks.take k).map Tk.name) (g.toks.drop k)))
  ⟨G2,le_refl' _,h,by simp⟩ ?_
 rintro k F3 N hk ⟨G3,l3,h,hE⟩ next
 have l13:=aa l2 l3
 unfold yV
 refine ⟨fun hlt=> ?_,fun hge=> ?_⟩
 ·have hlt:k<g.toks.length:=by omega
  refine h.ix (hs.t.le l13) (by decide) (by omega) (by omega) fun a cc x hx hr hc=> ?_
  rw [Int.toNat_natCast] at hx
  have hxm:x∈g.toks:=List.mem_of_getElem? hx
  have hxz:=hz.t x hxm
  rw [du hx,cN] at hE
  have hst:=Mem.st hc
  obtain ⟨pp,nn,rfl,h1,h2⟩:=hc
  have epp:=h1.len (by decide)
  refine ⟨x.arr pp nn,rfl,hr,?_⟩
  refine h.var hst fun b5 G4 F4 l4 q5 h=> ?_
  have bad:∀{F'},G3.le F'->¬wT g.conds.length ((g.toks.take k).map Tk.name) x->(vi 51=vi (if cN g.conds.length [] g.toks then 0 else 51)/\F.le F'):=fun {F'} l hn=>⟨by rw [if_neg (fun h=>hn (hE.1 h).1)],aa l1 (aa l13 l)⟩
  refine ⟨_,ld (h.le _ _ q5) rfl,?_⟩
  refine nK h (aq (aa l3 l4) hcn) x.name fun G5 F5 l5 h=>⟨_,rfl,fun hb=>bad (aa l4 (aa l5 h.le)) fun hn=> ?_,fun hb=> ?_⟩
  ·rw [decide_eq_true ⟨hn.1,hn.2.1⟩] at hb;cases hb
  have hnm:x.name≠emp/\x.name ∉ (g.toks.take k).map Tk.name:=by simpa using hb
  have l35:=aa l4 l5
  replace q5:=l5 _ _ q5
  refine ⟨_,ld (h.le _ _ q5) rfl,fun hb=>bad (aa l35 h.le) fun hn=>by have:=hn.2.2.1;omega,fun c0=>⟨_,ld (h.le _ _ q5) rfl,fun hb=>bad (aa l35 h.le) fun hn=>by have:=hn.2.2.2.1;omega,fun c2=>⟨#[nn.v,vi x.cond.2],rfl,dP (h.le _ _ q5) rfl,_,ld (h.le _ _ (l35 _ _ (l13 _ _ q1))) rfl,?_⟩⟩⟩
  dsimp only
  rw [ec]
  refine h.runv (gB (d:=x.cond) (DV.mk (h2.le l35))) fun G6 F6 l6 h=>⟨_,rfl,fun hb=>bad (aa l35 (aa l6 h.le)) fun hn=> ?_,fun hb=> ?_⟩
  ·rw [bh.2 hn.2.2.2.2.1] at hb;cases hb
  have hfit:fg x.cond g.conds.length:=bh.1 (by simpa using hb)
  replace l35:=aa l35 l6
  replace q5:=l6 _ _ q5
  have e:(g.toks.take k).map Tk.name++[x.name]=(g.toks.take (k+1)).map Tk.name:=by rw [aI hx,List.map_append];rfl
  have j2:∀(fine:Bool) G9 F9,G3.le G9->St G9 F9 [cK m ((g.toks.take k).map Tk.name++[x.name]).reverse]->(fine=true↔wT g.conds.length ((g.toks.take k).map Tk.name) x)->
    jb N b1 (wX bn) t (k:Int) fine (fun r F'=>r=vi (if cN g.conds.length [] g.toks then 0 else 51)/\F.le F') F9:=fun fine G9 F9 l9 h hiff=>by
   unfold jb
   refine ⟨fun hb=>bad (aa l9 h.le) fun hn=>(by rw [hiff.2 hn] at hb;cases hb),fun hb=> ?_⟩
   rw [aB hlt (by omega)]
   have hok:=hiff.1 (by simpa using hb)
   rw [e] at h hE
   exact next _ hlt ⟨G9,aa l3 l9,h,hE.trans ⟨fun h=>h.2,fun h=>⟨hok,h⟩⟩⟩
  refine ⟨_,ld (h.le _ _ q5) rfl,_,ld (h.le _ _ q5) rfl,fun hlit=> ?_,fun hlit=> ?_⟩
  ·rw [gz] at hlit
   have hlit:x.lit≠emp:=by simpa using hlit
   rw [gz]
   refine ⟨fun hsm=>⟨_,ld (h.le _ _ q5) rfl,?_⟩,fun hsm=> ?_⟩
   ·have hsm:=of_decide_eq_true hsm
    refine j2 _ G6 F6 l35 h ?_
    rw [decide_eq_true_eq]
    constructor
    ·intro h0
     exact ⟨hnm.1,hnm.2,by omega,by omega,hfit,fun _=>⟨hsm,List.eq_nil_of_length_eq_zero (by omega)⟩,fun h=>absurd h hlit⟩
    ·intro hok
     rw [(hok.2.2.2.2.2.1 hlit).2] at epp
     simp at epp
     omega
   ·have hsm:=of_decide_eq_false hsm
    exact j2 _ G6 F6 l35 h ⟨fun h=>(by cases h),fun hok=>absurd (hok.2.2.2.2.2.1 hlit).1 hsm⟩
  ·rw [gz] at hlit
   have hlit:x.lit=emp:=by simpa using hlit
   refine ⟨_,ld (h.le _ _ q5) rfl,?_⟩
   refine h.runv (mR (RL.nds.1 (h1.le l35))) fun G7 F7 l7 h=>⟨_,rfl,fun hp=>j2 _ G7 F7 (aa l35 l7) h ⟨fun h=>(by cases h),fun hok=>absurd (hok.2.2.2.2.2.2 hlit).1 hp⟩,fun hp=>⟨_,ld (h.le _ _ (l7 _ _ q5)) rfl,?_⟩⟩
   have hp:=Classical.not_not.1 hp
   replace l35:=aa l35 l7
   replace q5:=l7 _ _ q5
   have mk:((x.cls=0->x.smp≠emp/\LgL x.pat (bs x.smp))/\(x.cls≠0->x.smp=emp))->wT g.conds.length ((g.toks.take k).map Tk.name) x:=fun hm=>⟨hnm.1,hnm.2,by omega,by omega,hfit,fun h=>absurd hlit h,fun _=>⟨hp,hm⟩⟩
   rw [gz]
   refine ⟨fun hc0=>⟨fun hsm=>⟨_,ld (h.le _ _ q5) rfl,_,ld (h.le _ _ q5) rfl,?_⟩,fun hsm=> ?_⟩,fun hc0=> ?_⟩
   ·have hsm:x.smp≠emp:=by simpa using hsm
    refine (h.call (rO (hT.le (aa l13 l35)) (RL.nds.1 (h1.le l35)) x.smp (by omega))).mono ?_
    rintro _ F8 ⟨G8,⟨⟨q,rfl,hq⟩,l8⟩,h⟩
    refine ⟨_,rfl,j2 _ G8 F8 (aa l35 l8) h ?_⟩
    rw [hq]
    exact ⟨fun hm=>mk ⟨fun _=>⟨hsm,hm.2⟩,fun h=>absurd hc0 h⟩,fun hok=>⟨hp,((hok.2.2.2.2.2.2 hlit).2.1 hc0).2⟩⟩
   ·have hsm:x.smp=emp:=by simpa using hsm
    exact j2 _ G7 F7 l35 h ⟨fun h=>(by cases h),fun hok=>absurd hsm ((hok.2.2.2.2.2.2 hlit).2.1 hc0).1⟩
   ·refine j2 _ G7 F7 l35 h ?_
    rw [decide_eq_true_eq]
    exact ⟨fun hm=>mk ⟨fun h=>absurd h hc0,fun _=>hm⟩,fun hok=>(hok.2.2.2.2.2.2 hlit).2.2 hc0⟩
 ·have e:k=g.toks.length:=by omega
  subst e
  rw [List.drop_length,cN] at hE
  unfold GE
  exact ⟨by rw [if_pos (hE.2 trivial)],aa l1 (aa l13 h.le)⟩
open Classical in
noncomputable def bT (g:Gr):Int:=
 if bE g=true then 2 else if ¬fa g then 54 else if ¬cN g.conds.length [] g.toks then 51 else if ¬dO g then 50 else if bJ g [] g.prods≠0 then bJ g [] g.prods
 else if ¬cC g [] g.lvs then 53 else if ¬∀x∈g.fils,bO g x then 53 else 0
structure OkG (g:Gr):Prop where
 large:bE g=false
 fam:fa g
 toks:cN g.conds.length [] g.toks
 nons:dO g
 prods:bJ g [] g.prods=0
 lvs:cC g [] g.lvs
 fils:∀x∈g.fils,bO g x
theorem eV {g:Gr}:bT g=0↔OkG g:=by
 unfold bT
 constructor
 ·intro h
  split at h
  ·cases h
  ·rename_i h1
   split at h
   ·cases h
   ·rename_i h2
    split at h
    ·cases h
    ·rename_i h3
     split at h
     ·cases h
     ·rename_i h4
      split at h
      ·rename_i h5;exact absurd h h5
      ·rename_i h5
       split at h
       ·cases h
       ·rename_i h6
        split at h
        ·cases h
        ·rename_i h7
         exact ⟨by simpa using h1,Classical.not_not.1 h2,Classical.not_not.1 h3,Classical.not_not.1 h4,Classical.not_not.1 h5,Classical.not_not.1 h6,Classical.not_not.1 h7⟩
 ·rintro ⟨h1,h2,h3,h4,h5,h6,h7⟩
  rw [if_neg (by simp [h1]),if_neg (fun h=>h h2),if_neg (fun h=>h h3),if_neg (fun h=>h h4),if_neg (fun h=>h h5),if_neg (fun h=>h h6),if_neg (fun h=>h h7)]
theorem IF:aC prog 75=true/\aC prog 76=true/\aC prog 77=true/\aC prog 78=true/\aC prog 79=true/\aC prog 80=true:=by
 refine ⟨?_,?_,?_,?_,?_,?_⟩<;>kernel_rfl
open Classical in
noncomputable def wU (g:Gr) (k:Nat):Int:=match k with
 |0=>if fa g then 0 else 54
 |1=>if cN g.conds.length [] g.toks then 0 else 51
 |2=>if dO g then 0 else 50
 |3=>bJ g [] g.prods
 |4=>if cC g [] g.lvs then 0 else 53
 |_=>if ∀x∈g.fils,bO g x then 0 else 53
def Au (k:Nat):Nat:=match k with
 |0=>75
 |1=>76
 |2=>77
 |3=>78
 |4=>79
 |_=>80
theorem C4 {F:PH} {v:Array Value} {g:Gr} (hT:Tab F) (hg:GV F v g) (hl:bE g=false) (hz:Sz g) (k:Nat):aC prog (Au k)=true/\ae prog (Au k) #[.agg v] F fun r F'=>r=vi (wU g k)/\F.le F':=by
 obtain ⟨c1,c2,c3,c4,c5,c6⟩:=IF
 have hb:=dU hl
 match k with
 |0=>exact ⟨c1,ml hg hz hb.1⟩
 |1=>exact ⟨c2,me hT hg hl hz⟩
 |2=>exact ⟨c3,qn hg hb.2.2.2.1⟩
 |3=>exact ⟨c4,mZ hg hl⟩
 |4=>exact ⟨c5,mi hg hl hz⟩
 |n+5=>exact ⟨c6,kQ hg hl hz⟩
theorem nz0 {p:Prop} [Decidable p] {a:Int} (ha:a≠0) (h:(if p then 0 else a)=0):p:=by
 by_cases hp:p
 ·exact hp
 ·rw [if_neg hp] at h;exact absurd h ha
open Classical in
theorem eZ {F:PH} {v:Array Value} {g:Gr} (hT:Tab F) (hg:GV F v g) (hz:Sz g):ae prog 20 #[.agg v] F fun r F'=>r=vi (bT g)/\F.le F':=by
 refine Uw ?_
 unfold QM
 refine fresh fun b1 F1 l1 q1 _=>⟨v,hg.size,aj q1,?_⟩
 refine (yu (hg.le l1)).mono ?_
 rintro _ F2 ⟨rfl,l2⟩
 replace l1:=aa l1 l2
 replace q1:=l2 _ _ q1
 refine ⟨_,rfl,fun hb=>⟨?_,l1⟩,fun hb=> ?_⟩
 ·unfold bT;rw [if_pos hb]
 refine fresh fun b9 F3 l3 q9 _=> ?_
 replace l1:=aa l1 l3
 replace q1:=l3 _ _ q1
 have hfin:∀k,k<6->(∀j,j<k->wU g j=0)->wU g k≠0->bT g=wU g k:=fun k hk hj hne=>by
  have s0:0<k->fa g:=fun h=>nz0 (a:=54) (by decide) (hj 0 h)
  have s1:1<k->cN g.conds.length [] g.toks:=fun h=>nz0 (a:=51) (by decide) (hj 1 h)
  have s2:2<k->dO g:=fun h=>nz0 (a:=50) (by decide) (hj 2 h)
  have s3:3<k->bJ g [] g.prods=0:=fun h=>hj 3 h
  have s4:4<k->cC g [] g.lvs:=fun h=>nz0 (a:=53) (by decide) (hj 4 h)
  unfold bT
  rw [if_neg (by simp [hb])]
  match k,hk with
  |0,_=>
   have hn:¬fa g:=fun h=>hne (if_pos h)
   rw [if_pos hn];exact (if_neg hn).symm
  |1,_=>
   have hn:¬cN g.conds.length [] g.toks:=fun h=>hne (if_pos h)
   rw [if_neg (fun h=>h (s0 (by decide))),if_pos hn];exact (if_neg hn).symm
  |2,_=>
   have hn:¬dO g:=fun h=>hne (if_pos h)
   rw [if_neg (fun h=>h (s0 (by decide))),if_neg (fun h=>h (s1 (by decide))),if_pos hn];exact (if_neg hn).symm
  |3,_=>
   rw [if_neg (fun h=>h (s0 (by decide))),if_neg (fun h=>h (s1 (by decide))),if_neg (fun h=>h (s2 (by decide))),if_pos (show bJ g [] g.prods≠0 from hne)];rfl
  |4,_=>
   have hn:¬cC g [] g.lvs:=fun h=>hne (if_pos h)
   rw [if_neg (fun h=>h (s0 (by decide))),if_neg (fun h=>h (s1 (by decide))),if_neg (fun h=>h (s2 (by decide))),if_neg (fun h=>h (s3 (by decide))),if_pos hn];exact (if_neg hn).symm
  |5,_=>
   have hn:¬∀x∈g.fils,bO g x:=fun h=>hne (if_pos h)
   rw [if_neg (fun h=>h (s0 (by decide))),if_neg (fun h=>h (s1 (by decide))),if_neg (fun h=>h (s2 (by decide))),if_neg (fun h=>h (s3 (by decide))),if_neg (fun h=>h (s4 (by decide))),if_pos hn];exact (if_neg hn).symm
 refine bj (yP · b1 b9 _) 6 (fun k F'=>F3.le F'/\∀j,j<k->wU g j=0) ⟨le_refl' _,fun j h=>by omega⟩ ?_
 rintro k F4 N hk ⟨l4,hi⟩ next
 unfold yP
 refine ⟨fun hlt=> ?_,fun hge=> ?_⟩
 ·have hlt:k<6:=by simp only at hlt;omega
  refine ⟨_,rfl,by omega,by simp only;omega,.func (.func (Au k)) #[] #[],?_,v,hg.size,aj (l4 _ _ q1),Au k,#[],#[],rfl,?_⟩
  ·rw [Int.toNat_natCast,aK,am (l4 _ _ q9)]
   match k,hlt with
   |0,_=>rfl
   |1,_=>rfl
   |2,_=>rfl
   |3,_=>rfl
   |4,_=>rfl
   |5,_=>rfl
  ·obtain ⟨h1,h2⟩:=C4 (hT.le (aa l1 l4)) (hg.le (aa l1 l4)) hb hz k
   refine ⟨h1,?_⟩
   have e:(#[]:Array Value)++[Value.agg v].toArray++ #[]= #[.agg v]:=by simp
   dsimp only
   rw [e]
   refine h2.mono ?_
   rintro _ F5 ⟨rfl,l5⟩
   refine ⟨_,rfl,fun hne=>⟨by rw [hfin k hlt hi hne],aa l1 (aa l4 l5)⟩,fun hz0=> ?_⟩
   rw [aB hlt (by omega)]
   refine next _ hlt ⟨aa l4 l5,fun j hj=> ?_⟩
   by_cases e:j=k
   ·rw [e];exact Classical.not_not.1 hz0
   ·exact hi j (by omega)
 ·have e:k=6:=by simp only at hge;omega
  subst e
  unfold GC
  refine ⟨?_,aa l1 l4⟩
  rw [eV.2 ⟨hb,nz0 (a:=54) (by decide) (hi 0 (by decide)),nz0 (a:=51) (by decide) (hi 1 (by decide)),nz0 (a:=50) (by decide) (hi 2 (by decide)),hi 3 (by decide),nz0 (a:=53) (by decide) (hi 4 (by decide)),nz0 (a:=53) (by decide) (hi 5 (by decide))⟩]
section
variable {α:Type} [Mem α] [DecidableEq α] {F:PH}
end
section
variable {F:PH} {s t:Sl}
end
structure Sm (g:Gr):Prop where
 c:g.conds.length<=1000000000
 n:g.fam.1.length<=1000000000
 t:g.toks.length<=1000000000
 s:g.nons.length<=1000000000
 p:g.prods.length<=1000000000
 l:g.lvs.length<=1000000000
 f:g.fils.length<=1000000000
 ti:∀x∈g.toks,x.pat.length<=1000000000/\x.cond.1.length<=1000000000
 pi:∀x∈g.prods,x.right.length<=1000000000/\x.cond.1.length<=1000000000/\x.lay.length<=1000000000
 li:∀x∈g.lvs,x.ps.length<=1000000000/\x.cond.1.length<=1000000000
 fi:∀x∈g.fils,x.toks.length<=1000000000/\x.cond.1.length<=1000000000
structure SlT (t e:TypeId) (n bytes:Nat) (z:Value):Prop where
 ht:prog.underlying t=some (.slice e)
 hsz:tsz prog e=some (n,bytes)
 hz:bk prog e=some z
 hzs:z.cells.size=n
 hn:0<n
 hb:bytes<=250
theorem wV {n m b:Nat} (hb:b<=250) (h:n+m<=500000000000):(n+m)*b<=140737488355328:=
 Nat.le_trans (Nat.mul_le_mul h hb) (by decide)
theorem St.appAt {G F:PH} {As:List (PH->Prop)} {t e n bytes:Nat} {z:Value} (T:SlT t e n bytes z) {s x:Sl} {olds news:List Value} {ty:TypeId} (h:St G F As) (i:Nat) (hi:As[i]? =some (own s e n olds)) (hx:RdS F x n news) (hst:∀v∈news,ai v)
  (hlen:s.len+x.len<=500000000000) {K:Sl->PH->Prop} (k:∀s' F',St G F' (As.set i (own s' e n (olds++news)))->s'.len=s.len+x.len->K s' F'):
  aE prog (Builtin.append_ #[t,t] ty #[s.v,x.v]) F fun v F=>∃s':Sl,v=Sl.v s'/\K s' F:=by
 obtain ⟨H,a1,a2,a3,a4⟩:=h.set (A':=own s e n olds) hi
 have ho:=(h.ownAt hi).1
 by_cases h0:x.len=0
 ·have hnil:news=[]:=List.eq_nil_of_length_eq_zero (by rw [hx.len,h0,Nat.zero_mul])
  subst hnil
  refine mE T.ht T.hsz T.hz T.hzs ho hx h0 (by have:=wV (n:=s.len) (m:=0) T.hb (by omega);simpa using this) (by omega) ⟨s,rfl,k s F ?_ (by omega)⟩
  rw [List.append_nil]
  exact a4 H F a1 (fun b hb=> .inl hb) a3 (fun b o hb _=>hb)
 ·refine oZ T.ht T.hsz T.hz T.hzs T.hn ho hx (by omega) hst (wV T.hb hlen) (by omega) ?_
  rintro s' F' b ob rfl ho' hl' hbase hb
  obtain ⟨H,a1,a2,a3,a4⟩:=h.set (A':=own s' e n (olds++news)) hi
  have hb':H b≠none\/F b=none:=by
   rcases hb with ⟨a,ha,rfl⟩|hb
   ·obtain ⟨cur,hc⟩:=bA.elem a1 ha
    exact .inl (by rw [hc];simp)
   ·exact .inr hb
  refine ⟨s',rfl,k s' _ ?_ hl'⟩
  refine a4 (PH.set (fun _=>none) b ob) _ (ho'.keep fun a ha=>by rw [hbase a ha,an,an]) (fun x hx=> ?_) (fun x p hx=> ?_) (fun x p hx hn=> ?_)
  ·by_cases e:x=b
   ·rw [e];exact hb'
   ·rw [az _ _ e] at hx;exact absurd rfl hx
  ·by_cases e:x=b
   ·rw [e,an] at hx ⊢;exact hx
   ·rw [az _ _ e] at hx;cases hx
  ·have e:x≠b:=fun e=>by
    subst e
    rcases hb' with h|h
    ·exact h hn
    ·rw [h] at hx;cases hx
   rw [az _ _ e];exact hx
namespace St
section
variable {G F:PH} {As:List (PH->Prop)} {t e n bytes:Nat} {z:Value}
theorem pinOwn {s:Sl} {vs:List Value} (h:St G F (own s e n vs::As)) {K:PH->Prop} (k:∀G',G.le G'->RdS G' s n vs->St G' F As->K F):K F:=by
 obtain ⟨G',h1,⟨H,hA,hH⟩,h2⟩:=h.pin
 exact k G' h1 ((bA.rd hA).le hH) h2
theorem app0 (T:SlT t e n bytes z) {s x:Sl} {olds news:List Value} {ty:TypeId} (h:St G F (own s e n olds::As)) (hx:RdS F x n news) (hst:∀v∈news,ai v) (hlen:s.len+x.len<=500000000000) {K:Sl->PH->Prop}
  (k:∀s' F',St G F' (own s' e n (olds++news)::As)->s'.len=s.len+x.len->K s' F'):
  aE prog (Builtin.append_ #[t,t] ty #[s.v,x.v]) F fun v F=>∃s':Sl,v=Sl.v s'/\K s' F:=h.appAt T 0 rfl hx hst hlen k
theorem push0 (T:SlT t e n bytes z) {s:Sl} {olds:List Value} {c:Array Value} {ty:TypeId} (h:St G F (own s e n olds::As)) (hc:c.size=n) (hst:∀v∈c.toList,ai v) (hlen:s.len<=400000000000) {K:Sl->PH->Prop}
  (k:∀s' G' F',G.le G'->St G' F' (own s' e n (olds++c.toList)::As)->s'.len=s.len+1->K s' F'):
  ∀b,F b=none->atF (F.set b (.cells c e)) fun F=>aE prog (Builtin.append_ #[t,t] ty #[s.v,Sl.v (Sl.mk (some (Addr.mk b 0 none)) 1 1)]) F fun v F=>∃s':Sl,v=Sl.v s'/\K s' F:=by
 refine h.newG fun b G' F' l q _ h=> ?_
 have hx:RdS F' (Sl.mk (some (Addr.mk b 0 none)) 1 1) n c.toList:=RdS.new (h.le _ _ q) (List.take_of_length_le (by rw [Array.length_toList,hc,Nat.one_mul];exact Nat.le_refl _)) (by rw [Array.length_toList,hc,Nat.one_mul]) (Nat.le_refl _)
 exact h.app0 T hx hst (by show s.len+1<=_;omega) fun s' F'' h' hl'=>k s' G' F'' l h' hl'
theorem app1 {p0:PH->Prop} (T:SlT t e n bytes z) {s x:Sl} {olds news:List Value} {ty:TypeId} (h:St G F (p0::own s e n olds::As)) (hx:RdS F x n news) (hst:∀v∈news,ai v) (hlen:s.len+x.len<=500000000000) {K:Sl->PH->Prop}
  (k:∀s' F',St G F' (p0::own s' e n (olds++news)::As)->s'.len=s.len+x.len->K s' F'):
  aE prog (Builtin.append_ #[t,t] ty #[s.v,x.v]) F fun v F=>∃s':Sl,v=Sl.v s'/\K s' F:=h.appAt T 1 rfl hx hst hlen k
theorem push1 {p0:PH->Prop} (T:SlT t e n bytes z) {s:Sl} {olds:List Value} {c:Array Value} {ty:TypeId} (h:St G F (p0::own s e n olds::As)) (hc:c.size=n) (hst:∀v∈c.toList,ai v) (hlen:s.len<=400000000000) {K:Sl->PH->Prop}
  (k:∀s' G' F',G.le G'->St G' F' (p0::own s' e n (olds++c.toList)::As)->s'.len=s.len+1->K s' F'):
  ∀b,F b=none->atF (F.set b (.cells c e)) fun F=>aE prog (Builtin.append_ #[t,t] ty #[s.v,Sl.v (Sl.mk (some (Addr.mk b 0 none)) 1 1)]) F fun v F=>∃s':Sl,v=Sl.v s'/\K s' F:=by
 refine h.newG fun b G' F' l q _ h=> ?_
 have hx:RdS F' (Sl.mk (some (Addr.mk b 0 none)) 1 1) n c.toList:=RdS.new (h.le _ _ q) (List.take_of_length_le (by rw [Array.length_toList,hc,Nat.one_mul];exact Nat.le_refl _)) (by rw [Array.length_toList,hc,Nat.one_mul]) (Nat.le_refl _)
 exact h.app1 T hx hst (by show s.len+1<=_;omega) fun s' F'' h' hl'=>k s' G' F'' l h' hl'
end
end St
section
variable {α:Type} [Mem α] {F:PH}
def Nj (t e:TypeId) (a:Sl) (R:VR) (F:PH):Prop:=(((a.base.isNone)=true-> R (Sl.v Sl.nil) F)/\((a.base.isNone)=false-> ∀c,F c=none->atF (F.set c (.cells #[] e)) fun F=>aE prog (Builtin.append_ #[t,t] t #[Sl.v (Sl.mk (some (Addr.mk c 0 none)) 0 0),Sl.v a]) F fun v F=>∃b:Sl,v=(Sl.v b)/\R (Sl.v b) F))
theorem iW {s:Sl} {l:List α} {t e bytes:Nat} {z:Value} (T:SlT t e (Mem.n α) bytes z) (hs:RL F s l) (hl:l.length<=1000000000):Nj t e s (fun r F'=>(∃s',r=Sl.v s'/\RL F' s' l)/\F.le F') F:=by
 have hlen:=hs.len T.hn
 obtain ⟨vs,h1,h2⟩:=hs
 refine ⟨fun hb=> ?_,fun hb=> ?_⟩
 ·have h0:s.len=0:=by
   rcases Nat.eq_zero_or_pos s.len with h|h
   ·exact h
   ·obtain ⟨b,o,hb',_⟩:=h2.cells h
    rw [hb'] at hb
    cases hb
  have:l=[]:=List.eq_nil_of_length_eq_zero (by omega)
  subst this
  exact ⟨⟨Sl.nil,rfl,RL.nil F⟩,le_refl' F⟩
 ·refine fresh fun b5 F1 l1 q1 _=> ?_
  refine iD (olds:=[]) T.ht T.hsz T.hz T.hzs ⟨by simp,by simp,fun h=>by simp at h⟩ (h2.le l1) h1.st (wV T.hb (by simp only;omega)) (by simp only;omega) (fun h0 _=> ?_) (fun h0 hr=> ?_) (fun hlt cap b hc hb=> ?_)
  ·have h0:s.len=0:=by
    rcases Nat.eq_zero_or_pos s.len with h|h
    ·exact h
    ·have:=Nat.mul_pos h T.hn
     omega
   have:l=[]:=List.eq_nil_of_length_eq_zero (by omega)
   subst this
   exact ⟨_,rfl,⟨_,rfl,[],.nil,⟨by simp [cat,h0],by simp [h0],fun h=>by simp [h0] at h⟩⟩,l1⟩
  ·simp only at hr
   have:s.len=0:=by omega
   rw [this] at h0
   simp at h0
  ·refine ⟨_,rfl,⟨_,rfl,vs,h1.le (aa l1 (ac _ hb)),?_⟩,aa l1 (ac _ hb)⟩
   have e0:(0:Nat)+s.len=s.len:=by omega
   rw [e0] at hc ⊢
   refine RdS.new (an _ _ _) ?_ h2.len hc
   rw [show (([]:List Value).toArray++(cat vs).toArray++Builtin.zeroCells z.cells (cap - s.len)).toList=cat vs++(Builtin.zeroCells z.cells (cap - s.len)).toList by simp]
   rw [List.take_append_of_le_length (by rw [h2.len];exact Nat.le_refl _),List.take_of_length_le (by rw [h2.len];exact Nat.le_refl _)]
end
theorem J0:SlT 30 9 1 16 (.string ⟨#[]⟩):=⟨underlying30,sz9,zr9,rfl,by decide,by decide⟩
theorem Av:SlT 70 3 1 8 (.int .i64 0):=⟨underlying70,sz3,zr3,rfl,by decide,by decide⟩
theorem Ug:∃b z,SlT 77 97 5 b z:=⟨_,_,underlying77,Tx,TF,rfl,by decide,by decide⟩
theorem Nk:∃b z,SlT 62 69 2 b z:=⟨_,_,underlying62,Ts,TB,rfl,by decide,by decide⟩
theorem Uh:∃b z,SlT 63 101 3 b z:=⟨_,_,underlying63,Oi,Oj,rfl,by decide,by decide⟩
theorem Fl:∃b z,SlT 34 79 7 b z:=⟨_,_,underlying34,Tw,TE,rfl,by decide,by decide⟩
theorem C5:∃b z,SlT 35 67 13 b z:=⟨_,_,underlying35,Tq,TA,rfl,by decide,by decide⟩
theorem IG:∃b z,SlT 36 72 4 b z:=⟨_,_,underlying36,Tu,TC,rfl,by decide,by decide⟩
theorem IH:∃b z,SlT 37 74 9 b z:=⟨_,_,underlying37,Tv,TD,rfl,by decide,by decide⟩
theorem Ph:SlT 57 54 1 8 (.int .u64 0):=⟨underlying57,To,Tz,rfl,by decide,by decide⟩
section
variable {F:PH} {s:Sl}
theorem mh {l:List ByteArray} (hs:RL F s l) (hl:l.length<=1000000000):ae prog 83 #[s.v] F fun r F'=>(∃s',r=Sl.v s'/\RL F' s' l)/\F.le F':=TR (iW J0 hs hl)
theorem sV {l:List Int} (hs:RL F s l) (hl:l.length<=1000000000):ae prog 87 #[s.v] F fun r F'=>(∃s',r=Sl.v s'/\RL F' s' l)/\F.le F':=TZ (iW Av hs hl)
theorem Fm {l:List Nd} (hs:RL F s l) (hl:l.length<=1000000000):ae prog 84 #[s.v] F fun r F'=>(∃s',r=Sl.v s'/\RL F' s' l)/\F.le F':=by
 obtain ⟨b,z,T⟩:=Ug
 exact TT (iW T hs hl)
theorem Fo {l:List Sy} (hs:RL F s l) (hl:l.length<=1000000000):ae prog 85 #[s.v] F fun r F'=>(∃s',r=Sl.v s'/\RL F' s' l)/\F.le F':=by
 obtain ⟨b,z,T⟩:=Nk
 exact TV (iW T hs hl)
theorem Fp {l:List Cn} (hs:RL F s l) (hl:l.length<=1000000000):ae prog 86 #[s.v] F fun r F'=>(∃s',r=Sl.v s'/\RL F' s' l)/\F.le F':=by
 obtain ⟨b,z,T⟩:=Uh
 exact TX (iW T hs hl)
end
end Go.Proofs.YtenpmjhnhepfdaaGreatDoor
namespace Go.Proofs.YtenpmjhnhepfdaaGreatDoor
open Go Go.Proofs.Tryz Tr
set_option maxRecDepth 10000
noncomputable def inW (g:Gr) (c:Int):Bool:=decide (Int.fdiv c (2 ^ min g.conds.length 64)=0) && dQ g.fam c
theorem kN {F:PH} {v:Array Value} {g:Gr} (hg:GV F v g) {c:Int} (c0:0<=c) (c1:c<18446744073709551616):ae prog 81 #[.agg v,.int .u64 c] F fun r F'=>r=.bool (inW g c)/\F.le F':=by
 obtain ⟨c',n,t,s,p,l,f,rfl,hs⟩:=hg
 have ec:=hs.c.len (by decide)
 refine UI ?_
 unfold QY
 refine fresh fun b2 F1 l1 q1 _=>⟨_,ld q1 rfl,by omega,fun h=>⟨#[n.v,vi g.fam.2],rfl,dP q1 rfl,?_⟩,fun h=>⟨?_,l1⟩⟩
 all_goals rw [Int.toNat_natCast,ec,show IntKind.u64.bits=64 from rfl] at h
 ·refine (qA (a:=g.fam) (DV.mk (hs.n.le l1)) c0 c1).mono ?_
  rintro _ F2 ⟨rfl,l2⟩
  refine ⟨_,rfl,?_,aa l1 l2⟩
  unfold inW
  rw [decide_eq_true h,Bool.true_and]
 ·unfold inW
  rw [decide_eq_false h,Bool.false_and]
noncomputable def inG (g:Gr) (c:Int):Bool:=decide (bT g=0) && inW g c
theorem Fq {F:PH} {v:Array Value} {g:Gr} (hT:Tab F) (hg:GV F v g) (hz:Sz g) {c:Int} (c0:0<=c) (c1:c<18446744073709551616):ae prog 25 #[.agg v,.int .u64 c] F fun r F'=>r=.bool (inG g c)/\F.le F':=by
 refine Uz ?_
 unfold QP
 refine fresh fun b2 F1 l1 q1 _=>⟨v,hg.size,aj q1,?_⟩
 refine (eZ (hT.le l1) (hg.le l1) hz).mono ?_
 rintro _ F2 ⟨rfl,l2⟩
 have l12:=aa l1 l2
 refine ⟨_,rfl,fun h=>⟨v,hg.size,aj (l2 _ _ q1),?_⟩,fun h=>⟨?_,l12⟩⟩
 ·refine (kN (hg.le l12) c0 c1).mono ?_
  rintro _ F3 ⟨rfl,l3⟩
  refine ⟨_,rfl,?_,aa l12 l3⟩
  unfold inG
  rw [decide_eq_true h,Bool.true_and]
 ·unfold inG
  rw [decide_eq_false h,Bool.false_and]
noncomputable def atD (d:Dia) (c:Int):Dia:=dia (leaf (dQ d c))
noncomputable def atG (g:Gr) (c:Int):Gr:=
 {conds:=[],fam:=dia (leaf true),toks:=g.toks.map fun t=>{t with cond:=atD t.cond c},nons:=g.nons,prods:=g.prods.map fun p=>{p with cond:=atD p.cond c},start:=g.start,
  lvs:=g.lvs.map fun l=>{l with cond:=atD l.cond c},fils:=g.fils.map fun f=>{f with cond:=atD f.cond c}}
def gr0:Gr:=⟨[],([],0),[],[],[],0,[],[]⟩
theorem GV.zero (F:PH):GV F #[.slice none 0 0,.slice none 0 0,.int .i64 0,.slice none 0 0,.slice none 0 0,.slice none 0 0,.int .i64 0,.slice none 0 0,.slice none 0 0] gr0:=
 ⟨Sl.nil,Sl.nil,Sl.nil,Sl.nil,Sl.nil,Sl.nil,Sl.nil,rfl,RL.nil F,RL.nil F,RL.nil F,RL.nil F,RL.nil F,RL.nil F,RL.nil F⟩
noncomputable def j9 (g:Gr) (c:Int):Int:=if bT g≠0 then bT g else if inW g c=false then 1 else 0
noncomputable def jE (g:Gr) (c:Int):Gr:=if j9 g c≠0 then gr0 else atG g c
theorem kO {F:PH} {v:Array Value} {d:Dia} (hd:DV F v d) {b:Nat} {c:Int} (hc:F.cell ⟨b,0,none⟩=some (.int .u64 c)) (c0:0<=c) (c1:c<18446744073709551616):
  ae prog 82 #[.agg v,.pointer (some ⟨b,0,none⟩)] F fun r F'=>(∃n,r=.agg #[Sl.v n,vi (atD d c).2]/\RL F' n (atD d c).1)/\F.le F':=by
 refine UJ ?_
 unfold QZ
 refine fresh fun b2 F1 l1 q1 _=> ?_
 refine (St.start F1).new fun b3 F2 h=> ?_
 refine ⟨v,hd.size,aj (h.le _ _ q1),_,rfl,_,aq h.le (aq l1 hc),?_⟩
 refine h.runv (qA (hd.le l1) c0 c1) fun G3 F3 l3 h=>⟨_,rfl,?_⟩
 refine h.run (P:=fun r G=>∃w,r=.agg w/\DV G w (dia (leaf (dQ d c)))) ((gi (dQ d c)).mono fun r F' ⟨w,h1,h2,h3⟩=>⟨⟨w,h1,h2⟩,h3⟩) fun r G4 F4 hr l4 h=> ?_
 obtain ⟨w,rfl,s,rfl,hw⟩:=hr
 refine ⟨_,rfl,?_⟩
 refine h.put0 (w':= #[s.v,vi (atD d c).2]) rfl rfl (by simp [ai,Sl.v]) fun F5 h=>⟨_,rfl,h.whole0,⟨s,rfl,(RL.brs.2 hw).le h.le⟩,aa l1 (aa l3 (aa l4 h.le))⟩
end Go.Proofs.YtenpmjhnhepfdaaGreatDoor
