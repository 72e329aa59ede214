/-
  At: the grammar of a configuration. Printed in part by a program (mkHm.py).
-/
import Derived.Test.YtcemhghkipgdiaaGreatDoorHh
namespace Go.Proofs.YtcemhghkipgdiaaGreatDoor
open Go Go.Proofs.Tryz
set_option maxRecDepth 10000
def DP (n:Nat) (done:List ByteArray) (t:Tk):Prop:=t.name≠emp/\t.name ∉ done/\0<=t.cls/\t.cls<=2/\ij t.cond n/\(t.lit≠emp->t.smp=emp/\t.pat=[])/\
 (t.lit=emp->iZ t.pat=0/\(t.cls=0->t.smp≠emp/\LgL t.pat (bs t.smp))/\(t.cls≠0->t.smp=emp))
def fk (n:Nat) (done:List ByteArray):List Tk->Prop
 |[]=>True
 |t::r=>DP n done t/\fk n (done++[t.name]) r
open Classical in
theorem nc {F:PH} {v:Γ} {g:Gr} (hT:Tab F) (hg:GV F v g) (hl:dP g=false) (hz:Sz g):ai prog 90 #[.agg v] F λr F'=>r=vi (if fk g.conds.length [] g.toks then 0 else 51)/\F.le F':=by
 obtain ⟨_,hlt',_⟩:=gQ hl;obtain ⟨c,n,t,s,p,lv,f,rfl,hs⟩:=hg;have ec:=hs.c.len (by decide);have et:=hs.t.len (by decide);refine TZ ?_;unfold QC;refine fresh λb1 F1 l1 q1 _=> ?_;replace hs:=hs.le l1;replace hT:=hT.le l1;refine (ii F1).mono ?_;rintro _ F2 ⟨G2,bn,m,rfl,l2,hcn,h⟩;refine ⟨_,rfl,_,ld (h.le _ _ (l2 _ _ q1)) rfl,?_⟩;refine bz (zH · b1 (w8 bn) t _) g.toks.length (λk F'=>∃G,G2.le G/\St G F' [bK m ((g.toks.take k).map Tk.name).reverse]/\(fk g.conds.length [] g.toks↔fk g.conds.length ((g.toks.take k).map Tk.name) (g.toks.drop k)))
  ⟨G2,aq _,h,by simp⟩ ?_
 rintro k F3 N hk ⟨G3,l3,h,hE⟩ next;have l13:=aa l2 l3;unfold zH;refine ⟨λhlt=> ?_,λhge=> ?_⟩
 ·have hlt:k<g.toks.length:=by omega
  refine h.ix (hs.t.le l13) (by decide) (by omega) (by omega) λa cc x hx hr hc=> ?_;rw [N4] at hx;have hxm:x∈g.toks:=UY hx;have hxz:=hz.t x hxm;rw [cL hx,fk] at hE;have hst:=Mem.st hc;obtain ⟨pp,nn,rfl,h1,h2⟩:=hc;have epp:=h1.len (by decide);refine ⟨x.arr pp nn,rfl,hr,?_⟩;refine h.var hst λb5 G4 F4 l4 q5 h=> ?_;have bad:∀{F'},G3.le F'->¬DP g.conds.length ((g.toks.take k).map Tk.name) x->(vi 51=vi (if fk g.conds.length [] g.toks then 0 else 51)/\F.le F'):=λ{F'} l hn=>⟨by rw [if_neg (λh=>hn (hE.1 h).1)],aa l1 (aa l13 l)⟩;refine ⟨_,ld (h.le _ _ q5) rfl,?_⟩;refine o7 h (aH (aa l3 l4) hcn) x.name λG5 F5 l5 h=>⟨_,rfl,λhb=>bad (aa l4 (aa l5 h.le)) λhn=> ?_,λhb=> ?_⟩
  ·rw [decide_eq_true ⟨hn.1,hn.2.1⟩] at hb;cases hb
  have hnm:x.name≠emp/\x.name ∉ (g.toks.take k).map Tk.name:=by simpa using hb
  have l35:=aa l4 l5;replace q5:=l5 _ _ q5;refine ⟨_,ld (h.le _ _ q5) rfl,λhb=>bad (aa l35 h.le) λhn=>by have:=hn.2.2.1;omega,λc0=>⟨_,ld (h.le _ _ q5) rfl,λhb=>bad (aa l35 h.le) λhn=>by have:=hn.2.2.2.1;omega,λc2=>⟨#[nn.v,vi x.cond.2],rfl,kD (h.le _ _ q5) rfl,_,ld (h.le _ _ (l35 _ _ (l13 _ _ q1))) rfl,?_⟩⟩⟩;dsimp only;rw [ec];refine h.runv (gS (d:=x.cond) (DV.mk (h2.le l35))) λG6 F6 l6 h=>⟨_,rfl,λhb=>bad (aa l35 (aa l6 h.le)) λhn=> ?_,λhb=> ?_⟩
  ·rw [cM.2 hn.2.2.2.2.1] at hb;cases hb
  have hfit:ij x.cond g.conds.length:=cM.1 (by simpa using hb);replace l35:=aa l35 l6;replace q5:=l6 _ _ q5;have e:(g.toks.take k).map Tk.name++[x.name]=(g.toks.take (k+1)).map Tk.name:=by rw [bu hx,Vm];rfl
  have j2:∀(fine:Bool) G9 F9,G3.le G9->St G9 F9 [bK m ((g.toks.take k).map Tk.name++[x.name]).reverse]->(fine=true↔DP g.conds.length ((g.toks.take k).map Tk.name) x)->
    jt N b1 (w8 bn) t (k:Int) fine (λr F'=>r=vi (if fk g.conds.length [] g.toks then 0 else 51)/\F.le F') F9:=λfine G9 F9 l9 h hiff=>by
   unfold jt;refine ⟨λhb=>bad (aa l9 h.le) λhn=>(by rw [hiff.2 hn] at hb;cases hb),λhb=> ?_⟩;rw [aI hlt (by omega)];have hok:=hiff.1 (by simpa using hb);rw [e] at h hE;exact next _ hlt ⟨G9,aa l3 l9,h,hE.trans ⟨λh=>h.2,λh=>⟨hok,h⟩⟩⟩
  refine ⟨_,ld (h.le _ _ q5) rfl,_,ld (h.le _ _ q5) rfl,λhlit=> ?_,λhlit=> ?_⟩
  ·rw [qv] at hlit;have hlit:x.lit≠emp:=by simpa using hlit
   rw [qv];refine ⟨λhsm=>⟨_,ld (h.le _ _ q5) rfl,?_⟩,λhsm=> ?_⟩
   ·have hsm:=of_decide_eq_true hsm;refine j2 _ G6 F6 l35 h ?_;rw [decide_eq_true_eq];constructor
    ·intro h0;exact ⟨hnm.1,hnm.2,by omega,by omega,hfit,λ_=>⟨hsm,Vc (by omega)⟩,λh=>absurd h hlit⟩
    ·intro hok;rw [(hok.2.2.2.2.2.1 hlit).2] at epp;simp at epp;omega
   ·have hsm:=of_decide_eq_false hsm;exact j2 _ G6 F6 l35 h ⟨λh=>(by cases h),λhok=>absurd (hok.2.2.2.2.2.1 hlit).1 hsm⟩
  ·rw [qv] at hlit;have hlit:x.lit=emp:=by simpa using hlit
   refine ⟨_,ld (h.le _ _ q5) rfl,?_⟩;refine h.runv (oo (RL.nds.1 (h1.le l35))) λG7 F7 l7 h=>⟨_,rfl,λhp=>j2 _ G7 F7 (aa l35 l7) h ⟨λh=>(by cases h),λhok=>absurd (hok.2.2.2.2.2.2 hlit).1 hp⟩,λhp=>⟨_,ld (h.le _ _ (l7 _ _ q5)) rfl,?_⟩⟩;have hp:=Classical.not_not.1 hp;replace l35:=aa l35 l7;replace q5:=l7 _ _ q5;have mk:((x.cls=0->x.smp≠emp/\LgL x.pat (bs x.smp))/\(x.cls≠0->x.smp=emp))->DP g.conds.length ((g.toks.take k).map Tk.name) x:=λhm=>⟨hnm.1,hnm.2,by omega,by omega,hfit,λh=>absurd hlit h,λ_=>⟨hp,hm⟩⟩;rw [qv];refine ⟨λhc0=>⟨λhsm=>⟨_,ld (h.le _ _ q5) rfl,_,ld (h.le _ _ q5) rfl,?_⟩,λhsm=> ?_⟩,λhc0=> ?_⟩
   ·have hsm:x.smp≠emp:=by simpa using hsm
    refine (h.call (sR (hT.le (aa l13 l35)) (RL.nds.1 (h1.le l35)) x.smp (by omega))).mono ?_;rintro _ F8 ⟨G8,⟨⟨q,rfl,hq⟩,l8⟩,h⟩;refine ⟨_,rfl,j2 _ G8 F8 (aa l35 l8) h ?_⟩;rw [hq];exact ⟨λhm=>mk ⟨λ_=>⟨hsm,hm.2⟩,λh=>absurd hc0 h⟩,λhok=>⟨hp,((hok.2.2.2.2.2.2 hlit).2.1 hc0).2⟩⟩
   ·have hsm:x.smp=emp:=by simpa using hsm
    exact j2 _ G7 F7 l35 h ⟨λh=>(by cases h),λhok=>absurd hsm ((hok.2.2.2.2.2.2 hlit).2.1 hc0).1⟩
   ·refine j2 _ G7 F7 l35 h ?_;rw [decide_eq_true_eq];exact ⟨λhm=>mk ⟨λh=>absurd h hc0,λ_=>hm⟩,λhok=>(hok.2.2.2.2.2.2 hlit).2.2 hc0⟩
 ·have e:k=g.toks.length:=by omega
  subst e;rw [VO,fk] at hE;unfold Gb;exact ⟨by rw [if_pos (hE.2 trivial)],aa l1 (aa l13 h.le)⟩
open Classical in
noncomputable def nf (g:Gr):Int:=
 if dP g=true then 2 else if ¬og g then 54 else if ¬fk g.conds.length [] g.toks then 51 else if ¬jl g then 50 else if dM g [] g.prods≠0 then dM g [] g.prods
 else if ¬eB g [] g.lvs then 53 else if ¬∀x∈g.fils,bZ g x then 53 else 0
structure OkG (g:Gr):Prop where
 large:dP g=false
 fam:og g
 toks:fk g.conds.length [] g.toks
 nons:jl g
 prods:dM g [] g.prods=0
 lvs:eB g [] g.lvs
 fils:∀x∈g.fils,bZ g x
theorem lu {g:Gr}:nf g=0↔OkG g:=by
 unfold nf;constructor
 ·intro h;split at h
  ·cases h
  ·rename_i h1;split at h
   ·cases h
   ·rename_i h2;split at h
    ·cases h
    ·rename_i h3;split at h
     ·cases h
     ·rename_i h4;split at h
      ·rename_i h5;exact absurd h h5
      ·rename_i h5;split at h
       ·cases h
       ·rename_i h6;split at h
        ·cases h
        ·rename_i h7;exact ⟨by simpa using h1,Classical.not_not.1 h2,Classical.not_not.1 h3,Classical.not_not.1 h4,Classical.not_not.1 h5,Classical.not_not.1 h6,Classical.not_not.1 h7⟩
 ·rintro ⟨h1,h2,h3,h4,h5,h6,h7⟩;rw [if_neg (by simp [h1]),if_neg (λh=>h h2),if_neg (λh=>h h3),if_neg (λh=>h h4),if_neg (λh=>h h5),if_neg (λh=>h h6),if_neg (λh=>h h7)]
theorem HF:aE prog 89=true/\aE prog 90=true/\aE prog 91=true/\aE prog 92=true/\aE prog 93=true/\aE prog 94=true:=by refine ⟨?_,?_,?_,?_,?_,?_⟩<;>kernel_rfl
open Classical in
noncomputable def w6 (g:Gr) (k:Nat):Int:=match k with
 |0=>if og g then 0 else 54
 |1=>if fk g.conds.length [] g.toks then 0 else 51
 |2=>if jl g then 0 else 50
 |3=>dM g [] g.prods
 |4=>if eB g [] g.lvs then 0 else 53
 |_=>if ∀x∈g.fils,bZ g x then 0 else 53
def AR (k:Nat):Nat:=match k with
 |0=>89
 |1=>90
 |2=>91
 |3=>92
 |4=>93
 |_=>94
theorem CL {F:PH} {v:Γ} {g:Gr} (hT:Tab F) (hg:GV F v g) (hl:dP g=false) (hz:Sz g) (k:Nat):aE prog (AR k)=true/\ai prog (AR k) #[.agg v] F λr F'=>r=vi (w6 g k)/\F.le F':=by
 obtain ⟨c1,c2,c3,c4,c5,c6⟩:=HF;have hb:=gQ hl
 match k with
 |0=>exact ⟨c1,nk hg hz hb.1⟩
 |1=>exact ⟨c2,nc hT hg hl hz⟩
 |2=>exact ⟨c3,qy hg hb.2.2.2.1⟩
 |3=>exact ⟨c4,oO hg hl⟩
 |4=>exact ⟨c5,nj hg hl hz⟩
 |n+5=>exact ⟨c6,lz hg hl hz⟩
theorem nz0 {p:Prop} [Decidable p] {a:Int} (ha:a≠0) (h:(if p then 0 else a)=0):p:=by
 by_cases hp:p
 ·exact hp
 ·rw [if_neg hp] at h;exact absurd h ha
open Classical in
theorem ji {F:PH} {v:Γ} {g:Gr} (hT:Tab F) (hg:GV F v g) (hz:Sz g):ai prog 36 #[.agg v] F λr F'=>r=vi (nf g)/\F.le F':=by
 refine TU ?_;unfold Qx;refine fresh λb1 F1 l1 q1 _=>⟨v,hg.size,ac q1,?_⟩;refine (yC (hg.le l1)).mono ?_;rintro _ F2 ⟨rfl,l2⟩;replace l1:=aa l1 l2;replace q1:=l2 _ _ q1;refine ⟨_,rfl,λhb=>⟨?_,l1⟩,λhb=> ?_⟩
 ·unfold nf;rw [if_pos hb]
 refine fresh λb9 F3 l3 q9 _=> ?_;replace l1:=aa l1 l3;replace q1:=l3 _ _ q1;have hfin:∀k,k<6->(∀j,j<k->w6 g j=0)->w6 g k≠0->nf g=w6 g k:=λk hk hj hne=>by
  have s0:0<k->og g:=λh=>nz0 (a:=54) (by decide) (hj 0 h);have s1:1<k->fk g.conds.length [] g.toks:=λh=>nz0 (a:=51) (by decide) (hj 1 h);have s2:2<k->jl g:=λh=>nz0 (a:=50) (by decide) (hj 2 h);have s3:3<k->dM g [] g.prods=0:=λh=>hj 3 h;have s4:4<k->eB g [] g.lvs:=λh=>nz0 (a:=53) (by decide) (hj 4 h);unfold nf;rw [if_neg (by simp [hb])]
  match k,hk with
  |0,_=>have hn:¬og g:=λh=>hne (if_pos h);rw [if_pos hn];exact (if_neg hn).symm
  |1,_=>have hn:¬fk g.conds.length [] g.toks:=λh=>hne (if_pos h);rw [if_neg (λh=>h (s0 (by decide))),if_pos hn];exact (if_neg hn).symm
  |2,_=>have hn:¬jl g:=λh=>hne (if_pos h);rw [if_neg (λh=>h (s0 (by decide))),if_neg (λh=>h (s1 (by decide))),if_pos hn];exact (if_neg hn).symm
  |3,_=>rw [if_neg (λh=>h (s0 (by decide))),if_neg (λh=>h (s1 (by decide))),if_neg (λh=>h (s2 (by decide))),if_pos (show dM g [] g.prods≠0 from hne)];rfl
  |4,_=>have hn:¬eB g [] g.lvs:=λh=>hne (if_pos h);rw [if_neg (λh=>h (s0 (by decide))),if_neg (λh=>h (s1 (by decide))),if_neg (λh=>h (s2 (by decide))),if_neg (λh=>h (s3 (by decide))),if_pos hn];exact (if_neg hn).symm
  |5,_=>have hn:¬∀x∈g.fils,bZ g x:=λh=>hne (if_pos h);rw [if_neg (λh=>h (s0 (by decide))),if_neg (λh=>h (s1 (by decide))),if_neg (λh=>h (s2 (by decide))),if_neg (λh=>h (s3 (by decide))),if_neg (λh=>h (s4 (by decide))),if_pos hn];exact (if_neg hn).symm
 refine bz (zx · b1 b9 _) 6 (λk F'=>F3.le F'/\∀j,j<k->w6 g j=0) ⟨aq _,λj h=>by omega⟩ ?_;rintro k F4 N hk ⟨l4,hi⟩ next;unfold zx;refine ⟨λhlt=> ?_,λhge=> ?_⟩
 ·have hlt:k<6:=by simp only at hlt;omega
  refine ⟨_,rfl,by omega,by simp only;omega,.func (.func (AR k)) #[] #[],?_,v,hg.size,ac (l4 _ _ q1),AR k,#[],#[],rfl,?_⟩
  ·rw [N4,aB,am (l4 _ _ q9)]
   match k,hlt with
   |0,_=>rfl
   |1,_=>rfl
   |2,_=>rfl
   |3,_=>rfl
   |4,_=>rfl
   |5,_=>rfl
  ·obtain ⟨h1,h2⟩:=CL (hT.le (aa l1 l4)) (hg.le (aa l1 l4)) hb hz k;refine ⟨h1,?_⟩;have e:(#[]:Γ)++[Value.agg v].toArray++ #[]= #[.agg v]:=by simp
   dsimp only;rw [e];refine h2.mono ?_;rintro _ F5 ⟨rfl,l5⟩;refine ⟨_,rfl,λhne=>⟨by rw [hfin k hlt hi hne],aa l1 (aa l4 l5)⟩,λhz0=> ?_⟩;rw [aI hlt (by omega)];refine next _ hlt ⟨aa l4 l5,λj hj=> ?_⟩;by_cases e:j=k
   ·rw [e];exact Classical.not_not.1 hz0
   ·exact hi j (by omega)
 ·have e:k=6:=by simp only at hge;omega
  subst e;unfold FZ;refine ⟨?_,aa l1 l4⟩;rw [lu.2 ⟨hb,nz0 (a:=54) (by decide) (hi 0 (by decide)),nz0 (a:=51) (by decide) (hi 1 (by decide)),nz0 (a:=50) (by decide) (hi 2 (by decide)),hi 3 (by decide),nz0 (a:=53) (by decide) (hi 4 (by decide)),nz0 (a:=53) (by decide) (hi 5 (by decide))⟩]
section
end
section
end
structure Sm (g:Gr):Prop where
 c:g.conds.length<=1000000000
 n:g.fam.1.length<=1000000000
 t:g.toks.length<=1000000000
 s:g.nons.length<=1000000000
 p:g.prods.length<=1000000000
 l:g.lvs.length<=1000000000
 f:g.fils.length<=1000000000
 ti:∀x∈g.toks,x.pat.length<=1000000000/\x.cond.1.length<=1000000000
 pi:∀x∈g.prods,x.right.length<=1000000000/\x.cond.1.length<=1000000000/\x.lay.length<=1000000000
 li:∀x∈g.lvs,x.ps.length<=1000000000/\x.cond.1.length<=1000000000
 fi:∀x∈g.fils,x.toks.length<=1000000000/\x.cond.1.length<=1000000000
structure SlT (t e:TypeId) (n bytes:Nat) (z:Value):Prop where
 ht:prog.underlying t=some (.slice e)
 hsz:tsz prog e=some (n,bytes)
 hz:bP prog e=some z
 hzs:z.cells.size=n
 hn:0<n
 hb:bytes<=250
theorem AT {n m b:Nat} (hb:b<=250) (h:n+m<=500000000000):(n+m)*b<=140737488355328:=
 VK (Nat.mul_le_mul h hb) (by decide)
theorem St.appAt {G F:PH} {As:List (Ψ)} {t e n bytes:Nat} {z:Value} (T:SlT t e n bytes z) {s x:Sl} {olds news:Ξ} {ty:TypeId} (h:St G F As) (i:Nat) (hi:As[i]? =some (own s e n olds)) (hx:RdS F x n news) (hst:∀v∈news,ak v)
  (hlen:s.len+x.len<=500000000000) {K:Sl->Ψ} (k:∀s' F',St G F' (As.set i (own s' e n (olds++news)))->s'.len=s.len+x.len->K s' F'):
  aG prog (Builtin.append_ #[t,t] ty #[s.v,x.v]) F λv F=>∃s':Sl,v=Sl.v s'/\K s' F:=by
 obtain ⟨H,a1,a2,a3,a4⟩:=h.set (A':=own s e n olds) hi;have ho:=(h.ownAt hi).1;by_cases h0:x.len=0
 ·have hnil:news=[]:=Vc (by rw [hx.len,h0,V5]);subst hnil;refine ow T.ht T.hsz T.hz T.hzs ho hx h0 (by have:=AT (n:=s.len) (m:=0) T.hb (by omega);simpa using this) (by omega) ⟨s,rfl,k s F ?_ (by omega)⟩;rw [Vx];exact a4 H F a1 (λb hb=> .inl hb) a3 (λb o hb _=>hb)
 ·refine qJ T.ht T.hsz T.hz T.hzs T.hn ho hx (by omega) hst (AT T.hb hlen) (by omega) ?_;rintro s' F' b ob rfl ho' hl' hbase hb;obtain ⟨H,a1,a2,a3,a4⟩:=h.set (A':=own s' e n (olds++news)) hi;have hb':H b≠none\/F b=none:=by
   rcases hb with ⟨a,ha,rfl⟩|hb
   ·obtain ⟨cur,hc⟩:=cf.elem a1 ha;exact .inl (by rw [hc];simp)
   ·exact .inr hb
  refine ⟨s',rfl,k s' _ ?_ hl'⟩;refine a4 (PH.set (λ_=>none) b ob) _ (ho'.keep λa ha=>by rw [hbase a ha,al,al]) (λx hx=> ?_) (λx p hx=> ?_) (λx p hx hn=> ?_)
  ·by_cases e:x=b
   ·rw [e];exact hb'
   ·rw [av _ _ e] at hx;exact absurd rfl hx
  ·by_cases e:x=b
   ·rw [e,al] at hx ⊢;exact hx
   ·rw [av _ _ e] at hx;cases hx
  ·have e:x≠b:=λe=>by
    subst e;rcases hb' with h|h
    ·exact h hn
    ·rw [h] at hx;cases hx
   rw [av _ _ e];exact hx
namespace St
section
variable {G F:PH} {As:List (Ψ)} {t e n bytes:Nat} {z:Value}
theorem pinOwn {s:Sl} {vs:Ξ} (h:St G F (own s e n vs::As)) {K:Ψ} (k:∀G',G.le G'->RdS G' s n vs->St G' F As->K F):K F:=by obtain ⟨G',h1,⟨H,hA,hH⟩,h2⟩:=h.pin;exact k G' h1 ((cf.rd hA).le hH) h2
theorem app0 (T:SlT t e n bytes z) {s x:Sl} {olds news:Ξ} {ty:TypeId} (h:St G F (own s e n olds::As)) (hx:RdS F x n news) (hst:∀v∈news,ak v) (hlen:s.len+x.len<=500000000000) {K:Sl->Ψ}
  (k:∀s' F',St G F' (own s' e n (olds++news)::As)->s'.len=s.len+x.len->K s' F'):
  aG prog (Builtin.append_ #[t,t] ty #[s.v,x.v]) F λv F=>∃s':Sl,v=Sl.v s'/\K s' F:=h.appAt T 0 rfl hx hst hlen k
theorem push0 (T:SlT t e n bytes z) {s:Sl} {olds:Ξ} {c:Γ} {ty:TypeId} (h:St G F (own s e n olds::As)) (hc:c.size=n) (hst:∀v∈c.toList,ak v) (hlen:s.len<=400000000000) {K:Sl->Ψ}
  (k:∀s' G' F',G.le G'->St G' F' (own s' e n (olds++c.toList)::As)->s'.len=s.len+1->K s' F'):
  ∀b,F b=none->atF (F.set b (.cells c e)) λF=>aG prog (Builtin.append_ #[t,t] ty #[s.v,Sl.v (Sl.mk (some (Addr.mk b 0 none)) 1 1)]) F λv F=>∃s':Sl,v=Sl.v s'/\K s' F:=by
 refine h.newG λb G' F' l q _ h=> ?_;have hx:RdS F' (Sl.mk (some (Addr.mk b 0 none)) 1 1) n c.toList:=RdS.new (h.le _ _ q) (UZ (by rw [U4,hc,Wp];exact UW _)) (by rw [U4,hc,Wp]) (UW _);exact h.app0 T hx hst (by show s.len+1<=_;omega) λs' F'' h' hl'=>k s' G' F'' l h' hl'
theorem app1 {p0:Ψ} (T:SlT t e n bytes z) {s x:Sl} {olds news:Ξ} {ty:TypeId} (h:St G F (p0::own s e n olds::As)) (hx:RdS F x n news) (hst:∀v∈news,ak v) (hlen:s.len+x.len<=500000000000) {K:Sl->Ψ}
  (k:∀s' F',St G F' (p0::own s' e n (olds++news)::As)->s'.len=s.len+x.len->K s' F'):
  aG prog (Builtin.append_ #[t,t] ty #[s.v,x.v]) F λv F=>∃s':Sl,v=Sl.v s'/\K s' F:=h.appAt T 1 rfl hx hst hlen k
theorem push1 {p0:Ψ} (T:SlT t e n bytes z) {s:Sl} {olds:Ξ} {c:Γ} {ty:TypeId} (h:St G F (p0::own s e n olds::As)) (hc:c.size=n) (hst:∀v∈c.toList,ak v) (hlen:s.len<=400000000000) {K:Sl->Ψ}
  (k:∀s' G' F',G.le G'->St G' F' (p0::own s' e n (olds++c.toList)::As)->s'.len=s.len+1->K s' F'):
  ∀b,F b=none->atF (F.set b (.cells c e)) λF=>aG prog (Builtin.append_ #[t,t] ty #[s.v,Sl.v (Sl.mk (some (Addr.mk b 0 none)) 1 1)]) F λv F=>∃s':Sl,v=Sl.v s'/\K s' F:=by
 refine h.newG λb G' F' l q _ h=> ?_;have hx:RdS F' (Sl.mk (some (Addr.mk b 0 none)) 1 1) n c.toList:=RdS.new (h.le _ _ q) (UZ (by rw [U4,hc,Wp];exact UW _)) (by rw [U4,hc,Wp]) (UW _);exact h.app1 T hx hst (by show s.len+1<=_;omega) λs' F'' h' hl'=>k s' G' F'' l h' hl'
theorem app2 {p0 p1:Ψ} (T:SlT t e n bytes z) {s x:Sl} {olds news:Ξ} {ty:TypeId} (h:St G F (p0::p1::own s e n olds::As)) (hx:RdS F x n news) (hst:∀v∈news,ak v) (hlen:s.len+x.len<=500000000000) {K:Sl->Ψ}
  (k:∀s' F',St G F' (p0::p1::own s' e n (olds++news)::As)->s'.len=s.len+x.len->K s' F'):
  aG prog (Builtin.append_ #[t,t] ty #[s.v,x.v]) F λv F=>∃s':Sl,v=Sl.v s'/\K s' F:=h.appAt T 2 rfl hx hst hlen k
theorem push2 {p0 p1:Ψ} (T:SlT t e n bytes z) {s:Sl} {olds:Ξ} {c:Γ} {ty:TypeId} (h:St G F (p0::p1::own s e n olds::As)) (hc:c.size=n) (hst:∀v∈c.toList,ak v) (hlen:s.len<=400000000000) {K:Sl->Ψ}
  (k:∀s' G' F',G.le G'->St G' F' (p0::p1::own s' e n (olds++c.toList)::As)->s'.len=s.len+1->K s' F'):
  ∀b,F b=none->atF (F.set b (.cells c e)) λF=>aG prog (Builtin.append_ #[t,t] ty #[s.v,Sl.v (Sl.mk (some (Addr.mk b 0 none)) 1 1)]) F λv F=>∃s':Sl,v=Sl.v s'/\K s' F:=by
 refine h.newG λb G' F' l q _ h=> ?_;have hx:RdS F' (Sl.mk (some (Addr.mk b 0 none)) 1 1) n c.toList:=RdS.new (h.le _ _ q) (UZ (by rw [U4,hc,Wp];exact UW _)) (by rw [U4,hc,Wp]) (UW _);exact h.app2 T hx hst (by show s.len+1<=_;omega) λs' F'' h' hl'=>k s' G' F'' l h' hl'
end
end St
section
variable {α:Type} [Mem α] {F:PH}
def LU (t e:TypeId) (a:Sl) (R:VR) (F:PH):Prop:=(((a.base.isNone)=true-> R (Sl.v Sl.nil) F)/\((a.base.isNone)=false-> ∀c,F c=none->atF (F.set c (.cells #[] e)) λF=>aG prog (Builtin.append_ #[t,t] t #[Sl.v (Sl.mk (some (Addr.mk c 0 none)) 0 0),Sl.v a]) F λv F=>∃b:Sl,v=(Sl.v b)/\R (Sl.v b) F))
theorem jj {s:Sl} {l:List α} {t e bytes:Nat} {z:Value} (T:SlT t e (Mem.n α) bytes z) (hs:RL F s l) (hl:l.length<=1000000000):LU t e s (λr F'=>(∃s',r=Sl.v s'/\RL F' s' l)/\F.le F') F:=by
 have hlen:=hs.len T.hn;obtain ⟨vs,h1,h2⟩:=hs;refine ⟨λhb=> ?_,λhb=> ?_⟩
 ·have h0:s.len=0:=by
   rcases VT s.len with h|h
   ·exact h
   ·obtain ⟨b,o,hb',_⟩:=h2.cells h;rw [hb'] at hb;cases hb
  have:l=[]:=Vc (by omega);subst this;exact ⟨⟨Sl.nil,rfl,RL.nil F⟩,aq F⟩
 ·refine fresh λb5 F1 l1 q1 _=> ?_;refine gj (olds:=[]) T.ht T.hsz T.hz T.hzs ⟨by simp,by simp,λh=>by simp at h⟩ (h2.le l1) h1.st (AT T.hb (by simp only;omega)) (by simp only;omega) (λh0 _=> ?_) (λh0 hr=> ?_) (λhlt cap b hc hb=> ?_)
  ·have h0:s.len=0:=by
    rcases VT s.len with h|h
    ·exact h
    ·have:=Nat.mul_pos h T.hn;omega
   have:l=[]:=Vc (by omega);subst this;exact ⟨_,rfl,⟨_,rfl,[],.nil,⟨by simp [cat,h0],by simp [h0],λh=>by simp [h0] at h⟩⟩,l1⟩
  ·simp only at hr;have:s.len=0:=by omega
   rw [this] at h0;simp at h0
  ·refine ⟨_,rfl,⟨_,rfl,vs,h1.le (aa l1 (ae _ hb)),?_⟩,aa l1 (ae _ hb)⟩;have e0:(0:Nat)+s.len=s.len:=by omega
   rw [e0] at hc ⊢;refine RdS.new (al _ _ _) ?_ h2.len hc;rw [show (([]:Ξ).toArray++(cat vs).toArray++Builtin.zeroCells z.cells (cap - s.len)).toList=cat vs++(Builtin.zeroCells z.cells (cap - s.len)).toList by simp];rw [Vg (by rw [h2.len];exact UW _),UZ (by rw [h2.len];exact UW _)]
end
theorem NH:SlT 28 9 1 16 (.string ⟨#[]⟩):=⟨underlying28,sz9,zr9,rfl,by decide,by decide⟩
theorem Jw:SlT 67 3 1 8 (.int .i64 0):=⟨underlying67,sz3,zr3,rfl,by decide,by decide⟩
theorem SO:∃b z,SlT 144 149 5 b z:=⟨_,_,underlying144,OK,OQ,rfl,by decide,by decide⟩
theorem NI:∃b z,SlT 50 63 2 b z:=⟨_,_,underlying50,OI,OO,rfl,by decide,by decide⟩
theorem SP:∃b z,SlT 51 153 3 b z:=⟨_,_,underlying51,OL,OR,rfl,by decide,by decide⟩
theorem LV:∃b z,SlT 32 146 7 b z:=⟨_,_,underlying32,OJ,OP,rfl,by decide,by decide⟩
theorem HG:∃b z,SlT 33 55 13 b z:=⟨_,_,underlying33,OH,ON,rfl,by decide,by decide⟩
theorem NJ:∃b z,SlT 34 69 4 b z:=⟨_,_,underlying34,Tb,Te,rfl,by decide,by decide⟩
theorem NK:∃b z,SlT 35 156 9 b z:=⟨_,_,underlying35,OM,OS,rfl,by decide,by decide⟩
theorem SQ:SlT 73 77 1 8 (.int .u64 0):=⟨underlying73,Tc,Tf,rfl,by decide,by decide⟩
section
variable {F:PH} {s:Sl}
theorem ni {l:List ByteArray} (hs:RL F s l) (hl:l.length<=1000000000):ai prog 103 #[s.v] F λr F'=>(∃s',r=Sl.v s'/\RL F' s' l)/\F.le F':=Pq (jj NH hs hl)
theorem tL {l:Φ} (hs:RL F s l) (hl:l.length<=1000000000):ai prog 107 #[s.v] F λr F'=>(∃s',r=Sl.v s'/\RL F' s' l)/\F.le F':=PA (jj Jw hs hl)
theorem DQ {l:List Nd} (hs:RL F s l) (hl:l.length<=1000000000):ai prog 104 #[s.v] F λr F'=>(∃s',r=Sl.v s'/\RL F' s' l)/\F.le F':=by obtain ⟨b,z,T⟩:=SO;exact Pu (jj T hs hl)
theorem DS {l:List Sy} (hs:RL F s l) (hl:l.length<=1000000000):ai prog 105 #[s.v] F λr F'=>(∃s',r=Sl.v s'/\RL F' s' l)/\F.le F':=by obtain ⟨b,z,T⟩:=NI;exact Pw (jj T hs hl)
theorem DT {l:List Cn} (hs:RL F s l) (hl:l.length<=1000000000):ai prog 106 #[s.v] F λr F'=>(∃s',r=Sl.v s'/\RL F' s' l)/\F.le F':=by obtain ⟨b,z,T⟩:=SP;exact Py (jj T hs hl)
end
end Go.Proofs.YtcemhghkipgdiaaGreatDoor
namespace Go.Proofs.YtcemhghkipgdiaaGreatDoor
open Go Go.Proofs.Tryz Tr
set_option maxRecDepth 10000
noncomputable def inW (g:Gr) (c:Int):Bool:=decide (Int.fdiv c (2 ^ min g.conds.length 64)=0) && gH g.fam c
theorem uP {F:PH} {v:Γ} {g:Gr} (hg:GV F v g) {c:Int} (c0:0<=c) (c1:c<18446744073709551616):ai prog 101 #[.agg v,.int .u64 c] F λr F'=>r=.bool (inW g c)/\F.le F':=by
 obtain ⟨c',n,t,s,p,l,f,rfl,hs⟩:=hg;have ec:=hs.c.len (by decide);refine QI ?_;unfold KH;refine fresh λb2 F1 l1 q1 _=>⟨_,ld q1 rfl,by omega,λh=>⟨#[n.v,vi g.fam.2],rfl,kD q1 rfl,?_⟩,λh=>⟨?_,l1⟩⟩;all_goals rw [N4,ec,show IntKind.u64.bits=64 from rfl] at h
 ·refine (kP (a:=g.fam) (DV.mk (hs.n.le l1)) c0 c1).mono ?_;rintro _ F2 ⟨rfl,l2⟩;refine ⟨_,rfl,?_,aa l1 l2⟩;unfold inW;rw [decide_eq_true h,V4]
 ·unfold inW;rw [decide_eq_false h,WI]
noncomputable def atD (d:Dia) (c:Int):Dia:=dia (leaf (gH d c))
noncomputable def atG (g:Gr) (c:Int):Gr:=
 {conds:=[],fam:=dia (leaf true),toks:=g.toks.map λt=>{t with cond:=atD t.cond c},nons:=g.nons,prods:=g.prods.map λp=>{p with cond:=atD p.cond c},start:=g.start,
  lvs:=g.lvs.map λl=>{l with cond:=atD l.cond c},fils:=g.fils.map λf=>{f with cond:=atD f.cond c}}
def gr0:Gr:=⟨[],([],0),[],[],[],0,[],[]⟩
theorem GV.zero (F:PH):GV F #[.slice none 0 0,.slice none 0 0,.int .i64 0,.slice none 0 0,.slice none 0 0,.slice none 0 0,.int .i64 0,.slice none 0 0,.slice none 0 0] gr0:=
 ⟨Sl.nil,Sl.nil,Sl.nil,Sl.nil,Sl.nil,Sl.nil,Sl.nil,rfl,RL.nil F,RL.nil F,RL.nil F,RL.nil F,RL.nil F,RL.nil F,RL.nil F⟩
noncomputable def sK (g:Gr) (c:Int):Int:=if nf g≠0 then nf g else if inW g c=false then 1 else 0
noncomputable def uQ (g:Gr) (c:Int):Gr:=if sK g c≠0 then gr0 else atG g c
theorem lw {F:PH} {v:Γ} {d:Dia} (hd:DV F v d) {b:Nat} {c:Int} (hc:F.cell ⟨b,0,none⟩=some (.int .u64 c)) (c0:0<=c) (c1:c<18446744073709551616):
  ai prog 102 #[.agg v,.pointer (some ⟨b,0,none⟩)] F λr F'=>(∃n,r=.agg #[Sl.v n,vi (atD d c).2]/\RL F' n (atD d c).1)/\F.le F':=by
 refine QJ ?_;unfold KI;refine fresh λb2 F1 l1 q1 _=> ?_;refine (St.start F1).new λb3 F2 h=> ?_;refine ⟨v,hd.size,ac (h.le _ _ q1),_,rfl,_,aH h.le (aH l1 hc),?_⟩;refine h.runv (kP (hd.le l1) c0 c1) λG3 F3 l3 h=>⟨_,rfl,?_⟩;refine h.run (P:=λr G=>∃w,r=.agg w/\DV G w (dia (leaf (gH d c)))) ((di (gH d c)).mono λr F' ⟨w,h1,h2,h3⟩=>⟨⟨w,h1,h2⟩,h3⟩) λr G4 F4 hr l4 h=> ?_;obtain ⟨w,rfl,s,rfl,hw⟩:=hr;refine ⟨_,rfl,?_⟩;refine h.put0 (w':= #[s.v,vi (atD d c).2]) rfl rfl (by simp [ak,Sl.v]) λF5 h=>⟨_,rfl,h.whole0,⟨s,rfl,(RL.brs.2 hw).le h.le⟩,aa l1 (aa l3 (aa l4 h.le))⟩
abbrev fX (c n t s p l f:Sl) (root start:Int):Γ:= #[c.v,n.v,vi root,t.v,s.v,p.v,vi start,l.v,f.v]
abbrev fm:Γ:=fX Sl.nil Sl.nil Sl.nil Sl.nil Sl.nil Sl.nil Sl.nil 0 0
theorem jI (c n t s p l f:Sl) (root start:Int):∀v∈(fX c n t s p l f root start).toList,ak v:=by simp [ak,Sl.v]
section
variable {F1:PH} {g:Gr} {c:Int} {b2 b3 b4 b8:Nat} {sc sn st' ss sp sl sf:Sl} {R:VR} (hz:Sm g) (hs:GS F1 g sc sn st' ss sp sl sf) (q2:F1 b2=some (.cells (g.arr sc sn st' ss sp sl sf) 37))
 (hc:F1.cell ⟨b3,0,none⟩=some (.int .u64 c)) (c0:0<=c) (c1:c<18446744073709551616)
include hz hs q2 hc c0 c1
theorem SR {G F:PH} {n s t' p' l':Sl} {root start:Int} (l:F1.le G) (h:St G F [pt b8 (.cells (fX Sl.nil n t' s p' l' Sl.nil root start) 37),pt b4 (.cells fm 37)]) (_:RL G t' (atG g c).toks) (_:RL G p' (atG g c).prods) (_:RL G l' (atG g c).lvs)
  (next:∀G' F' f',G.le G'->St G' F' [pt b8 (.cells (fX Sl.nil n t' s p' l' f' root start) 37),pt b4 (.cells fm 37)]->RL G' f' (atG g c).fils->vE b4 (some (Addr.mk b8 0 none)) R F'):
  rp b2 b4 b3 (some (Addr.mk b8 0 none)) R F:=by
 obtain ⟨bytes,z,T⟩:=NK;unfold rp;have elen:=hs.f.len (by decide);have hmax:=hz.f;refine ⟨_,ld (h.le _ _ (l _ _ q2)) rfl,?_⟩;refine bz (zy · b4 b3 (some (Addr.mk b8 0 none)) sf _) g.fils.length (λk F'=>∃G' f' vs,G.le G'/\St G' F' [own f' 156 9 (cat vs),pt b8 (.cells (fX Sl.nil n t' s p' l' f' root start) 37),pt b4 (.cells fm 37)]/\cN G' ((g.fils.take k).map λx=>{x with cond:=atD x.cond c}) vs/\f'.len=k)
  ⟨G,Sl.nil,[],aq _,h.nilOwn _ _,.nil,rfl⟩ ?_
 rintro k F3 N hk ⟨G3,f',vs,l3,h,hR,hlen⟩ next';have l13:=aa l l3;unfold zy;refine ⟨λhlt=> ?_,λhge=> ?_⟩
 ·have hlt:k<g.fils.length:=by omega
  refine h.ix (hs.f.le l13) (by decide) (by omega) (by omega) λa cc x hx hr hc'=> ?_;rw [N4] at hx;have hxm:x∈g.fils:=UY hx;have hst:=Mem.st hc';obtain ⟨tt,nn,rfl,hp,hn⟩:=hc';refine ⟨x.arr tt nn,rfl,hr,?_⟩;refine h.new λb10 F4 h=> ?_;refine h.put0 (w':=x.arr tt nn) rfl rfl hst λF5 h=> ?_;refine ⟨_,h.ld0 rfl,#[nn.v,vi x.cond.2],rfl,h.row0 rfl,?_⟩;refine h.run (P:=λr G=>∃s',r=Sl.v s'/\RL G s' x.toks) (tL hp (hz.fi x hxm).1) λr G5 F5 hr5 l5 h=> ?_;obtain ⟨sp5,rfl,hsp⟩:=hr5;refine ⟨_,rfl,h.row0 rfl,?_⟩;refine h.run (P:=λr G=>∃n,r=.agg #[Sl.v n,vi (atD x.cond c).2]/\RL G n (atD x.cond c).1) (lw (d:=x.cond) (DV.mk (hn.le l5)) (aH (aa l13 l5) hc) c0 c1) λr G6 F6 hr6 l6 h=> ?_;obtain ⟨sn6,rfl,hsn⟩:=hr6;refine ⟨_,rfl,?_⟩;refine h.set0 (w':=x.arr sp5 nn) (by simp) rfl λF7 h=> ?_;refine h.putR0 (w':=({x with cond:=atD x.cond c}:Fi).arr sp5 sn6) rfl (by simp [ak,Sl.v]) (by simp) rfl λF8 h=> ?_;refine ⟨_,rfl,_,by rw [aB];exact h.ld2 rfl,_,rfl,h.whole0,rfl,?_⟩;refine h.push1 T rfl (by simp [ak,Sl.v]) (by omega) λs9 G9 F9 l9 h hl9=> ?_;rw [aB];refine h.set2 (w':=fX Sl.nil n t' s p' l' s9 root start) (by simp) rfl λF10 h=> ?_;rw [aI hlt (by omega)];have lall:=aa l5 (aa l6 l9);refine next' _ hlt ⟨G9,s9,vs++[({x with cond:=atD x.cond c}:Fi).arr sp5 sn6],aa l3 lall,?_,?_,by omega⟩
  ·rw [bF,bV];exact h.tail
  ·rw [bu hx,Vm];exact (hR.le lall).append (.cons ⟨sp5,sn6,rfl,hsp.le (aa l6 l9),hsn.le l9⟩ .nil)
 ·have e:k=g.fils.length:=by omega
  subst e;rw [U7] at hR;refine h.pinOwn (K:=λF3=>vE b4 (some (Addr.mk b8 0 none)) R F3) λG4 l4 hrd h=> ?_;exact next G4 F3 f' (aa l3 l4) h ⟨vs,hR.le l4,hrd⟩
theorem ST {G F:PH} {n s t' p':Sl} {root start:Int} (l:F1.le G) (h:St G F [pt b8 (.cells (fX Sl.nil n t' s p' Sl.nil Sl.nil root start) 37),pt b4 (.cells fm 37)]) (_:RL G t' (atG g c).toks) (_:RL G p' (atG g c).prods)
  (next:∀G' F' l',G.le G'->St G' F' [pt b8 (.cells (fX Sl.nil n t' s p' l' Sl.nil root start) 37),pt b4 (.cells fm 37)]->RL G' l' (atG g c).lvs->rp b2 b4 b3 (some (Addr.mk b8 0 none)) R F'):
  rq b2 b4 b3 (some (Addr.mk b8 0 none)) R F:=by
 obtain ⟨bytes,z,T⟩:=NJ;unfold rq;have elen:=hs.l.len (by decide);have hmax:=hz.l;refine ⟨_,ld (h.le _ _ (l _ _ q2)) rfl,?_⟩;refine bz (zA · b2 b4 b3 (some (Addr.mk b8 0 none)) sl _) g.lvs.length (λk F'=>∃G' l' vs,G.le G'/\St G' F' [own l' 69 4 (cat vs),pt b8 (.cells (fX Sl.nil n t' s p' l' Sl.nil root start) 37),pt b4 (.cells fm 37)]/\cN G' ((g.lvs.take k).map λx=>{x with cond:=atD x.cond c}) vs/\l'.len=k)
  ⟨G,Sl.nil,[],aq _,h.nilOwn _ _,.nil,rfl⟩ ?_
 rintro k F3 N hk ⟨G3,l',vs,l3,h,hR,hlen⟩ next';have l13:=aa l l3;unfold zA;refine ⟨λhlt=> ?_,λhge=> ?_⟩
 ·have hlt:k<g.lvs.length:=by omega
  refine h.ix (hs.l.le l13) (by decide) (by omega) (by omega) λa cc x hx hr hc'=> ?_;rw [N4] at hx;have hxm:x∈g.lvs:=UY hx;have hst:=Mem.st hc';obtain ⟨tt,nn,rfl,hp,hn⟩:=hc';refine ⟨x.arr tt nn,rfl,hr,?_⟩;refine h.new λb10 F4 h=> ?_;refine h.put0 (w':=x.arr tt nn) rfl rfl hst λF5 h=> ?_;refine ⟨_,h.ld0 rfl,#[nn.v,vi x.cond.2],rfl,h.row0 rfl,?_⟩;refine h.run (P:=λr G=>∃s',r=Sl.v s'/\RL G s' x.ps) (tL hp (hz.li x hxm).1) λr G5 F5 hr5 l5 h=> ?_;obtain ⟨sp5,rfl,hsp⟩:=hr5;refine ⟨_,rfl,h.row0 rfl,?_⟩;refine h.run (P:=λr G=>∃n,r=.agg #[Sl.v n,vi (atD x.cond c).2]/\RL G n (atD x.cond c).1) (lw (d:=x.cond) (DV.mk (hn.le l5)) (aH (aa l13 l5) hc) c0 c1) λr G6 F6 hr6 l6 h=> ?_;obtain ⟨sn6,rfl,hsn⟩:=hr6;refine ⟨_,rfl,?_⟩;refine h.set0 (w':=x.arr sp5 nn) (by simp) rfl λF7 h=> ?_;refine h.putR0 (w':=({x with cond:=atD x.cond c}:Lv).arr sp5 sn6) rfl (by simp [ak,Sl.v]) (by simp) rfl λF8 h=> ?_;refine ⟨_,rfl,_,by rw [aB];exact h.ld2 rfl,_,rfl,h.whole0,rfl,?_⟩;refine h.push1 T rfl (by simp [ak,Sl.v]) (by omega) λs9 G9 F9 l9 h hl9=> ?_;rw [aB];refine h.set2 (w':=fX Sl.nil n t' s p' s9 Sl.nil root start) (by simp) rfl λF10 h=> ?_;rw [aI hlt (by omega)];have lall:=aa l5 (aa l6 l9);refine next' _ hlt ⟨G9,s9,vs++[({x with cond:=atD x.cond c}:Lv).arr sp5 sn6],aa l3 lall,?_,?_,by omega⟩
  ·rw [bF,bV];exact h.tail
  ·rw [bu hx,Vm];exact (hR.le lall).append (.cons ⟨sp5,sn6,rfl,hsp.le (aa l6 l9),hsn.le l9⟩ .nil)
 ·have e:k=g.lvs.length:=by omega
  subst e;rw [U7] at hR;refine h.pinOwn (K:=λF3=>rp b2 b4 b3 (some (Addr.mk b8 0 none)) R F3) λG4 l4 hrd h=> ?_;exact next G4 F3 l' (aa l3 l4) h ⟨vs,hR.le l4,hrd⟩
theorem SU {G F:PH} {n s t':Sl} {root start:Int} (l:F1.le G) (h:St G F [pt b8 (.cells (fX Sl.nil n t' s Sl.nil Sl.nil Sl.nil root start) 37),pt b4 (.cells fm 37)]) (_:RL G t' (atG g c).toks)
  (next:∀G' F' p',G.le G'->St G' F' [pt b8 (.cells (fX Sl.nil n t' s p' Sl.nil Sl.nil root start) 37),pt b4 (.cells fm 37)]->RL G' p' (atG g c).prods->rq b2 b4 b3 (some (Addr.mk b8 0 none)) R F'):
  rt b2 b4 b3 (some (Addr.mk b8 0 none)) R F:=by
 obtain ⟨bytes,z,T⟩:=HG;unfold rt;have elen:=hs.p.len (by decide);have hmax:=hz.p;refine ⟨_,ld (h.le _ _ (l _ _ q2)) rfl,?_⟩;refine bz (zB · b2 b4 b3 (some (Addr.mk b8 0 none)) sp _) g.prods.length (λk F'=>∃G' p' vs,G.le G'/\St G' F' [own p' 55 13 (cat vs),pt b8 (.cells (fX Sl.nil n t' s p' Sl.nil Sl.nil root start) 37),pt b4 (.cells fm 37)]/\cN G' ((g.prods.take k).map λx=>{x with cond:=atD x.cond c}) vs/\p'.len=k)
  ⟨G,Sl.nil,[],aq _,h.nilOwn _ _,.nil,rfl⟩ ?_
 rintro k F3 N hk ⟨G3,p',vs,l3,h,hR,hlen⟩ next';have l13:=aa l l3;unfold zB;refine ⟨λhlt=> ?_,λhge=> ?_⟩
 ·have hlt:k<g.prods.length:=by omega
  refine h.ix (hs.p.le l13) (by decide) (by omega) (by omega) λa cc x hx hr hc'=> ?_;rw [N4] at hx;have hxm:x∈g.prods:=UY hx;have hst:=Mem.st hc';obtain ⟨tt,nn,mm,rfl,hp,hn,hm⟩:=hc';refine ⟨x.arr tt nn mm,rfl,hr,?_⟩;refine h.new λb10 F4 h=> ?_;refine h.put0 (w':=x.arr tt nn mm) rfl rfl hst λF5 h=> ?_;refine ⟨_,h.ld0 rfl,_,h.ld0 rfl,#[nn.v,vi x.cond.2],rfl,h.row0 rfl,?_⟩;refine h.run (P:=λr G=>∃s',r=Sl.v s'/\RL G s' x.right) (DS hp (hz.pi x hxm).1) λr G5 F5 hr5 l5 h=> ?_;obtain ⟨sp5,rfl,hsp⟩:=hr5;refine ⟨_,rfl,h.row0 rfl,h.ld0 rfl,?_⟩;refine h.run (P:=λr G=>∃s',r=Sl.v s'/\RL G s' x.lay) (DT (hm.le l5) (hz.pi x hxm).2.2) λr G6 F6 hr6 l6 h=> ?_;obtain ⟨sm6,rfl,hsm⟩:=hr6;refine ⟨_,rfl,h.row0 rfl,?_⟩;refine h.run (P:=λr G=>∃n,r=.agg #[Sl.v n,vi (atD x.cond c).2]/\RL G n (atD x.cond c).1) (lw (d:=x.cond) (DV.mk (hn.le (aa l5 l6))) (aH (aa l13 (aa l5 l6)) hc) c0 c1) λr G7 F7 hr7 l7 h=> ?_;obtain ⟨sn7,rfl,hsn⟩:=hr7;refine ⟨_,rfl,?_⟩;refine h.set0 (w':=x.arr sp5 nn mm) (by simp) rfl λF7 h=> ?_;refine h.set0 (w':=x.arr sp5 nn sm6) (by simp) rfl λF7 h=> ?_;refine h.putR0 (w':=({x with cond:=atD x.cond c}:Pr).arr sp5 sn7 sm6) rfl (by simp [ak,Sl.v]) (by simp) rfl λF8 h=> ?_;refine ⟨_,rfl,_,by rw [aB];exact h.ld2 rfl,_,rfl,h.whole0,rfl,?_⟩;refine h.push1 T rfl (by simp [ak,Sl.v]) (by omega) λs9 G9 F9 l9 h hl9=> ?_;rw [aB];refine h.set2 (w':=fX Sl.nil n t' s s9 Sl.nil Sl.nil root start) (by simp) rfl λF10 h=> ?_;rw [aI hlt (by omega)];have lall:=aa l5 (aa l6 (aa l7 l9));refine next' _ hlt ⟨G9,s9,vs++[({x with cond:=atD x.cond c}:Pr).arr sp5 sn7 sm6],aa l3 lall,?_,?_,by omega⟩
  ·rw [bF,bV];exact h.tail
  ·rw [bu hx,Vm];exact (hR.le lall).append (.cons ⟨sp5,sn7,sm6,rfl,hsp.le (aa l6 (aa l7 l9)),hsn.le l9,hsm.le (aa l7 l9)⟩ .nil)
 ·have e:k=g.prods.length:=by omega
  subst e;rw [U7] at hR;refine h.pinOwn (K:=λF3=>rq b2 b4 b3 (some (Addr.mk b8 0 none)) R F3) λG4 l4 hrd h=> ?_;exact next G4 F3 p' (aa l3 l4) h ⟨vs,hR.le l4,hrd⟩
theorem SW {G F:PH} {n s:Sl} {root start:Int} (l:F1.le G) (h:St G F [pt b8 (.cells (fX Sl.nil n Sl.nil s Sl.nil Sl.nil Sl.nil root start) 37),pt b4 (.cells fm 37)])
  (next:∀G' F' t',G.le G'->St G' F' [pt b8 (.cells (fX Sl.nil n t' s Sl.nil Sl.nil Sl.nil root start) 37),pt b4 (.cells fm 37)]->RL G' t' (atG g c).toks->rt b2 b4 b3 (some (Addr.mk b8 0 none)) R F'):
  nG b2 b4 b3 (some (Addr.mk b8 0 none)) R F:=by
 obtain ⟨bytes,z,T⟩:=LV;unfold nG;have elen:=hs.t.len (by decide);have hmax:=hz.t;refine ⟨_,ld (h.le _ _ (l _ _ q2)) rfl,?_⟩;refine bz (zC · b2 b4 b3 (some (Addr.mk b8 0 none)) st' _) g.toks.length (λk F'=>∃G' t' vs,G.le G'/\St G' F' [own t' 146 7 (cat vs),pt b8 (.cells (fX Sl.nil n t' s Sl.nil Sl.nil Sl.nil root start) 37),pt b4 (.cells fm 37)]/\cN G' ((g.toks.take k).map λx=>{x with cond:=atD x.cond c}) vs/\t'.len=k)
  ⟨G,Sl.nil,[],aq _,h.nilOwn _ _,.nil,rfl⟩ ?_
 rintro k F3 N hk ⟨G3,t',vs,l3,h,hR,hlen⟩ next';have l13:=aa l l3;unfold zC;refine ⟨λhlt=> ?_,λhge=> ?_⟩
 ·have hlt:k<g.toks.length:=by omega
  refine h.ix (hs.t.le l13) (by decide) (by omega) (by omega) λa cc x hx hr hc'=> ?_;rw [N4] at hx;have hxm:x∈g.toks:=UY hx;have hst:=Mem.st hc';obtain ⟨tt,nn,rfl,hp,hn⟩:=hc';refine ⟨x.arr tt nn,rfl,hr,?_⟩;refine h.new λb10 F4 h=> ?_;refine h.put0 (w':=x.arr tt nn) rfl rfl hst λF5 h=> ?_;refine ⟨_,h.ld0 rfl,#[nn.v,vi x.cond.2],rfl,h.row0 rfl,?_⟩;refine h.run (P:=λr G=>∃s',r=Sl.v s'/\RL G s' x.pat) (DQ hp (hz.ti x hxm).1) λr G5 F5 hr5 l5 h=> ?_;obtain ⟨sp5,rfl,hsp⟩:=hr5;refine ⟨_,rfl,h.row0 rfl,?_⟩;refine h.run (P:=λr G=>∃n,r=.agg #[Sl.v n,vi (atD x.cond c).2]/\RL G n (atD x.cond c).1) (lw (d:=x.cond) (DV.mk (hn.le l5)) (aH (aa l13 l5) hc) c0 c1) λr G6 F6 hr6 l6 h=> ?_;obtain ⟨sn6,rfl,hsn⟩:=hr6;refine ⟨_,rfl,?_⟩;refine h.set0 (w':=x.arr sp5 nn) (by simp) rfl λF7 h=> ?_;refine h.putR0 (w':=({x with cond:=atD x.cond c}:Tk).arr sp5 sn6) rfl (by simp [ak,Sl.v]) (by simp) rfl λF8 h=> ?_;refine ⟨_,rfl,_,by rw [aB];exact h.ld2 rfl,_,rfl,h.whole0,rfl,?_⟩;refine h.push1 T rfl (by simp [ak,Sl.v]) (by omega) λs9 G9 F9 l9 h hl9=> ?_;rw [aB];refine h.set2 (w':=fX Sl.nil n s9 s Sl.nil Sl.nil Sl.nil root start) (by simp) rfl λF10 h=> ?_;rw [aI hlt (by omega)];have lall:=aa l5 (aa l6 l9);refine next' _ hlt ⟨G9,s9,vs++[({x with cond:=atD x.cond c}:Tk).arr sp5 sn6],aa l3 lall,?_,?_,by omega⟩
  ·rw [bF,bV];exact h.tail
  ·rw [bu hx,Vm];exact (hR.le lall).append (.cons ⟨sp5,sn6,rfl,hsp.le (aa l6 l9),hsn.le l9⟩ .nil)
 ·have e:k=g.toks.length:=by omega
  subst e;rw [U7] at hR;refine h.pinOwn (K:=λF3=>rt b2 b4 b3 (some (Addr.mk b8 0 none)) R F3) λG4 l4 hrd h=> ?_;exact next G4 F3 t' (aa l3 l4) h ⟨vs,hR.le l4,hrd⟩
end
theorem DU {F:PH} {v:Γ} {g:Gr} (hT:Tab F) (hg:GV F v g) (hz:Sz g) (hm:Sm g) {c:Int} (c0:0<=c) (c1:c<18446744073709551616):
  ai prog 42 #[.agg v,.int .u64 c] F λr F'=>(∃w,r=.tuple #[.agg w,vi (sK g c)]/\GV F' w (uQ g c))/\F.le F':=by
 have hg0:=hg;obtain ⟨sc,sn,st',ss,sp,sl,sf,rfl,hs⟩:=hg;refine TW ?_;unfold Qz;refine fresh λb2 F1 l1 q2 _=> ?_;refine fresh λb3 F2 l2 q3 _=> ?_;replace l1:=aa l1 l2;replace q2:=l2 _ _ q2;refine (St.start F2).new λb4 F3 h=>⟨_,hg0.size,ac (h.le _ _ q2),?_⟩;refine h.runv (ji (hT.le l1) (hg0.le l1) hz) λG4 F4 l4 h=>⟨_,rfl,λhb=> ?_,λhb=>⟨_,hg0.size,ac (h.le _ _ (l4 _ _ q2)),_,ld (h.le _ _ (l4 _ _ q3)) rfl,?_⟩⟩
 ·refine h.put0 (w':=fm) rfl rfl (jI _ _ _ _ _ _ _ _ _) λF5 h=>⟨_,rfl,h.whole0,⟨fm,?_,?_⟩,aa l1 (aa l4 h.le)⟩
  ·rw [show sK g c=nf g from if_pos hb]
  ·rw [show uQ g c=gr0 by unfold uQ sK;rw [if_pos hb,if_pos hb]];exact GV.zero _
 have hb:nf g=0:=Classical.not_not.1 hb;refine h.runv (uP (hg0.le (aa l1 l4)) c0 c1) λG5 F5 l5 h=>⟨_,rfl,λhw=> ?_,λhw=> ?_⟩
 ·have hw:inW g c=false:=by simpa using hw
  have e1:sK g c=1:=by unfold sK;rw [if_neg (λh=>h hb),if_pos hw]
  refine h.put0 (w':=fm) rfl rfl (jI _ _ _ _ _ _ _ _ _) λF5 h=>⟨_,rfl,h.whole0,⟨fm,?_,?_⟩,aa l1 (aa l4 (aa l5 h.le))⟩
  ·rw [e1]
  ·rw [show uQ g c=gr0 by unfold uQ;rw [e1];rfl];exact GV.zero _
 have hw:inW g c=true:=by simpa using hw
 have e1:sK g c=0:=by unfold sK;rw [if_neg (λh=>h hb),if_neg (by rw [hw];decide)]
 have e2:uQ g c=atG g c:=by unfold uQ;rw [if_neg (λh=>h e1)]
 rw [e1,e2];have l25:=aa l4 l5;replace q2:=l25 _ _ q2;replace q3:=l25 _ _ q3;replace l1:=aa l1 l25;replace hs:=hs.le l1;have j1:∀G6 F6 b8 n s,G5.le G6->St G6 F6 [pt b8 (.cells (fX Sl.nil n Sl.nil s Sl.nil Sl.nil Sl.nil (dia (leaf true)).2 g.start) 37),pt b4 (.cells fm 37)]->RL G6 n (dia (leaf true)).1->RL G6 s g.nons->
   nG b2 b4 b3 (some (Addr.mk b8 0 none)) (λr F'=>(∃w,r=.tuple #[.agg w,vi 0]/\GV F' w (atG g c))/\F.le F') F6:=λG6 F6 b8 n s l6 h hn hns=>by
  refine SW hm hs q2 (ld q3 rfl) c0 c1 l6 h λG7 F7 t' l7 h ht=> ?_;refine SU hm hs q2 (ld q3 rfl) c0 c1 (aa l6 l7) h ht λG8 F8 p' l8 h hp=> ?_;refine ST hm hs q2 (ld q3 rfl) c0 c1 (aa l6 (aa l7 l8)) h (ht.le l8) hp λG9 F9 l' l9 h hl=> ?_;refine SR hm hs q2 (ld q3 rfl) c0 c1 (aa l6 (aa l7 (aa l8 l9))) h (ht.le (aa l8 l9)) (hp.le l9) hl λG10 F10 f' l10 h hf=> ?_;unfold vE;refine ⟨_,rfl,_,rfl,h.whole0,?_⟩;refine h.put1 (w':=fX Sl.nil n t' s p' l' f' (dia (leaf true)).2 g.start) rfl rfl (jI _ _ _ _ _ _ _ _ _) λF11 h=>⟨_,rfl,h.whole1,⟨_,rfl,?_⟩,aa l1 (aa l6 (aa l7 (aa l8 (aa l9 (aa l10 h.le)))))⟩;exact ⟨Sl.nil,n,t',s,p',l',f',rfl,RL.nil _,(hn.le (aa l7 (aa l8 (aa l9 l10)))).le h.le,(ht.le (aa l8 (aa l9 l10))).le h.le,(hns.le (aa l7 (aa l8 (aa l9 l10)))).le h.le,(hp.le (aa l9 l10)).le h.le,(hl.le l10).le h.le,hf.le h.le⟩
 have cn:∀{G:PH},ai prog 27 #[.bool true] G λr F'=>(∃n,r=.agg #[Sl.v n,vi (dia (leaf true)).2]/\RL F' n (dia (leaf true)).1)/\G.le F':=λ{G}=>(di true).mono λr F' ⟨w,h1,⟨s,h4,h5⟩,h3⟩=>⟨⟨s,by rw [h1,h4],RL.brs.2 h5⟩,h3⟩;refine ⟨_,ld (h.le _ _ q2) rfl,_,ld (h.le _ _ q2) rfl,⟨?_,?_⟩⟩
 ·refine h.run (P:=λr G=>∃n,r=.agg #[Sl.v n,vi (dia (leaf true)).2]/\RL G n (dia (leaf true)).1) cn λr G6 F6 hr l6 h=> ?_;obtain ⟨n,rfl,hn⟩:=hr;refine ⟨_,rfl,ld (h.le _ _ (l6 _ _ q2)) rfl,ld (h.le _ _ (l6 _ _ q2)) rfl,⟨?_,?_⟩⟩
  ·refine h.run (P:=λr G=>∃s',r=Sl.v s'/\RL G s' g.nons) (ni (hs.s.le l6) hm.s) λr G7 F7 hr l7 h=> ?_;obtain ⟨s,rfl,hns⟩:=hr;refine ⟨_,rfl,ld (h.le _ _ (l7 _ _ (l6 _ _ q2))) rfl,rfl,?_⟩;refine h.new λb8 F8 h=> ?_;refine h.put0 (w':=fX Sl.nil n Sl.nil s Sl.nil Sl.nil Sl.nil (dia (leaf true)).2 g.start) rfl rfl (jI _ _ _ _ _ _ _ _ _) λF9 h=> ?_;exact j1 G7 F9 b8 n s (aa l6 l7) h (hn.le l7) hns
  ·refine h.new λb8 F8 h=> ?_;refine h.run (P:=λr G=>∃s',r=Sl.v s'/\RL G s' g.nons) (ni (hs.s.le l6) hm.s) λr G7 F7 hr l7 h=> ?_;obtain ⟨s,rfl,hns⟩:=hr;refine ⟨_,rfl,ld (h.le _ _ (l7 _ _ (l6 _ _ q2))) rfl,rfl,?_⟩;refine h.put0 (w':=fX Sl.nil n Sl.nil s Sl.nil Sl.nil Sl.nil (dia (leaf true)).2 g.start) rfl rfl (jI _ _ _ _ _ _ _ _ _) λF9 h=> ?_;exact j1 G7 F9 b8 n s (aa l6 l7) h (hn.le l7) hns
 ·refine h.new λb8 F8 h=> ?_;refine h.run (P:=λr G=>∃n,r=.agg #[Sl.v n,vi (dia (leaf true)).2]/\RL G n (dia (leaf true)).1) cn λr G6 F6 hr l6 h=> ?_;obtain ⟨n,rfl,hn⟩:=hr;refine ⟨_,rfl,ld (h.le _ _ (l6 _ _ q2)) rfl,ld (h.le _ _ (l6 _ _ q2)) rfl,?_⟩;refine h.run (P:=λr G=>∃s',r=Sl.v s'/\RL G s' g.nons) (ni (hs.s.le l6) hm.s) λr G7 F7 hr l7 h=> ?_;obtain ⟨s,rfl,hns⟩:=hr;refine ⟨_,rfl,ld (h.le _ _ (l7 _ _ (l6 _ _ q2))) rfl,rfl,?_⟩;refine h.put0 (w':=fX Sl.nil n Sl.nil s Sl.nil Sl.nil Sl.nil (dia (leaf true)).2 g.start) rfl rfl (jI _ _ _ _ _ _ _ _ _) λF9 h=> ?_;exact j1 G7 F9 b8 n s (aa l6 l7) h (hn.le l7) hns
end Go.Proofs.YtcemhghkipgdiaaGreatDoor
