/-
  The codec that writes: tokens, productions, levels, filters, grammars; Encode. Printed in part by a program (mkHr.py).
-/
import Derived.Test.YtcemhghkipgdiaaGreatDoorHh
namespace Go.Proofs.YtcemhghkipgdiaaGreatDoor
open Go Go.Proofs.Tryz
set_option maxRecDepth 10000
def CH (n:Nat) (done:List ByteArray) (t:Tk):Prop:=t.name≠emp/\t.name ∉ done/\0<=t.cls/\t.cls<=2/\iz t.cond n/\(t.lit≠emp->t.smp=emp/\t.pat=[])/\
 (t.lit=emp->iD t.pat=0/\(t.cls=0->t.smp≠emp/\LgL t.pat (bs t.smp))/\(t.cls≠0->t.smp=emp))
def fH (n:Nat) (done:List ByteArray):List Tk->Prop
 |[]=>True
 |t::r=>CH n done t/\fH n (done++[t.name]) r
open Classical in
theorem lV {F:PH} {v:Γ} {g:Gr} (hT:Tab F) (hg:GV F v g) (hl:dN g=false) (hz:Sz g):aj prog 90 #[.agg v] F λr F'=>r=vi (if fH g.conds.length [] g.toks then 0 else 51)/\F.le F':=by
 obtain ⟨_,hlt',_⟩:=gz hl;obtain ⟨c,n,t,s,p,lv,f,rfl,hs⟩:=hg;have ec:=hs.c.len (by decide);have et:=hs.t.len (by decide);refine Qy ?_;unfold Mk;refine fresh λb1 F1 l1 q1 _=> ?_;replace hs:=hs.le l1;replace hT:=hT.le l1;refine (gP F1).mono ?_;rintro _ F2 ⟨G2,bn,m,rfl,l2,hcn,h⟩;refine ⟨_,rfl,_,ld (h.le _ _ (l2 _ _ q1)) rfl,?_⟩;refine bu (xy · b1 (vG bn) t _) g.toks.length (λk F'=>∃G,G2.le G/\St G F' [bD m ((g.toks.take k).map Tk.name).reverse]/\(fH g.conds.length [] g.toks↔fH g.conds.length ((g.toks.take k).map Tk.name) (g.toks.drop k)))
  ⟨G2,aq _,h,by simp⟩ ?_
 rintro k F3 N hk ⟨G3,l3,h,hE⟩ next;have l13:=aa l2 l3;unfold xy;refine ⟨λhlt=> ?_,λhge=> ?_⟩
 ·have hlt:k<g.toks.length:=by omega
  refine h.ix (hs.t.le l13) (by decide) (by omega) (by omega) λa cc x hx hr hc=> ?_;rw [N4] at hx;have hxm:x∈g.toks:=SE hx;have hxz:=hz.t x hxm;rw [cv hx,fH] at hE;have hst:=Mem.st hc;obtain ⟨pp,nn,rfl,h1,h2⟩:=hc;have epp:=h1.len (by decide);refine ⟨x.arr pp nn,rfl,hr,?_⟩;refine h.var hst λb5 G4 F4 l4 q5 h=> ?_;have bad:∀{F'},G3.le F'->¬CH g.conds.length ((g.toks.take k).map Tk.name) x->(vi 51=vi (if fH g.conds.length [] g.toks then 0 else 51)/\F.le F'):=λ{F'} l hn=>⟨by rw [if_neg (λh=>hn (hE.1 h).1)],aa l1 (aa l13 l)⟩;refine ⟨_,ld (h.le _ _ q5) rfl,?_⟩;refine nY h (aH (aa l3 l4) hcn) x.name λG5 F5 l5 h=>⟨_,rfl,λhb=>bad (aa l4 (aa l5 h.le)) λhn=> ?_,λhb=> ?_⟩
  ·rw [decide_eq_true ⟨hn.1,hn.2.1⟩] at hb;cases hb
  have hnm:x.name≠emp/\x.name ∉ (g.toks.take k).map Tk.name:=by simpa using hb
  have l35:=aa l4 l5;replace q5:=l5 _ _ q5;refine ⟨_,ld (h.le _ _ q5) rfl,λhb=>bad (aa l35 h.le) λhn=>by have:=hn.2.2.1;omega,λc0=>⟨_,ld (h.le _ _ q5) rfl,λhb=>bad (aa l35 h.le) λhn=>by have:=hn.2.2.2.1;omega,λc2=>⟨#[nn.v,vi x.cond.2],rfl,mb (h.le _ _ q5) rfl,_,ld (h.le _ _ (l35 _ _ (l13 _ _ q1))) rfl,?_⟩⟩⟩;dsimp only;rw [ec];refine h.runv (gB (d:=x.cond) (DV.mk (h2.le l35))) λG6 F6 l6 h=>⟨_,rfl,λhb=>bad (aa l35 (aa l6 h.le)) λhn=> ?_,λhb=> ?_⟩
  ·rw [cH.2 hn.2.2.2.2.1] at hb;cases hb
  have hfit:iz x.cond g.conds.length:=cH.1 (by simpa using hb);replace l35:=aa l35 l6;replace q5:=l6 _ _ q5;have e:(g.toks.take k).map Tk.name++[x.name]=(g.toks.take (k+1)).map Tk.name:=by rw [bB hx,Tf];rfl
  have j2:∀(fine:Bool) G9 F9,G3.le G9->St G9 F9 [bD m ((g.toks.take k).map Tk.name++[x.name]).reverse]->(fine=true↔CH g.conds.length ((g.toks.take k).map Tk.name) x)->
    iQ N b1 (vG bn) t (k:Int) fine (λr F'=>r=vi (if fH g.conds.length [] g.toks then 0 else 51)/\F.le F') F9:=λfine G9 F9 l9 h hiff=>by
   unfold iQ;refine ⟨λhb=>bad (aa l9 h.le) λhn=>(by rw [hiff.2 hn] at hb;cases hb),λhb=> ?_⟩;rw [aE hlt (by omega)];have hok:=hiff.1 (by simpa using hb);rw [e] at h hE;exact next _ hlt ⟨G9,aa l3 l9,h,hE.trans ⟨λh=>h.2,λh=>⟨hok,h⟩⟩⟩
  refine ⟨_,ld (h.le _ _ q5) rfl,_,ld (h.le _ _ q5) rfl,λhlit=> ?_,λhlit=> ?_⟩
  ·rw [pq] at hlit;have hlit:x.lit≠emp:=by simpa using hlit
   rw [pq];refine ⟨λhsm=>⟨_,ld (h.le _ _ q5) rfl,?_⟩,λhsm=> ?_⟩
   ·have hsm:=of_decide_eq_true hsm;refine j2 _ G6 F6 l35 h ?_;rw [decide_eq_true_eq];constructor
    ·intro h0;exact ⟨hnm.1,hnm.2,by omega,by omega,hfit,λ_=>⟨hsm,SU (by omega)⟩,λh=>absurd h hlit⟩
    ·intro hok;rw [(hok.2.2.2.2.2.1 hlit).2] at epp;simp at epp;omega
   ·have hsm:=of_decide_eq_false hsm;exact j2 _ G6 F6 l35 h ⟨λh=>(by cases h),λhok=>absurd (hok.2.2.2.2.2.1 hlit).1 hsm⟩
  ·rw [pq] at hlit;have hlit:x.lit=emp:=by simpa using hlit
   refine ⟨_,ld (h.le _ _ q5) rfl,?_⟩;refine h.runv (nB (RL.nds.1 (h1.le l35))) λG7 F7 l7 h=>⟨_,rfl,λhp=>j2 _ G7 F7 (aa l35 l7) h ⟨λh=>(by cases h),λhok=>absurd (hok.2.2.2.2.2.2 hlit).1 hp⟩,λhp=>⟨_,ld (h.le _ _ (l7 _ _ q5)) rfl,?_⟩⟩;have hp:=Classical.not_not.1 hp;replace l35:=aa l35 l7;replace q5:=l7 _ _ q5;have mk:((x.cls=0->x.smp≠emp/\LgL x.pat (bs x.smp))/\(x.cls≠0->x.smp=emp))->CH g.conds.length ((g.toks.take k).map Tk.name) x:=λhm=>⟨hnm.1,hnm.2,by omega,by omega,hfit,λh=>absurd hlit h,λ_=>⟨hp,hm⟩⟩;rw [pq];refine ⟨λhc0=>⟨λhsm=>⟨_,ld (h.le _ _ q5) rfl,_,ld (h.le _ _ q5) rfl,?_⟩,λhsm=> ?_⟩,λhc0=> ?_⟩
   ·have hsm:x.smp≠emp:=by simpa using hsm
    refine (h.call (rG (hT.le (aa l13 l35)) (RL.nds.1 (h1.le l35)) x.smp (by omega))).mono ?_;rintro _ F8 ⟨G8,⟨⟨q,rfl,hq⟩,l8⟩,h⟩;refine ⟨_,rfl,j2 _ G8 F8 (aa l35 l8) h ?_⟩;rw [hq];exact ⟨λhm=>mk ⟨λ_=>⟨hsm,hm.2⟩,λh=>absurd hc0 h⟩,λhok=>⟨hp,((hok.2.2.2.2.2.2 hlit).2.1 hc0).2⟩⟩
   ·have hsm:x.smp=emp:=by simpa using hsm
    exact j2 _ G7 F7 l35 h ⟨λh=>(by cases h),λhok=>absurd hsm ((hok.2.2.2.2.2.2 hlit).2.1 hc0).1⟩
   ·refine j2 _ G7 F7 l35 h ?_;rw [decide_eq_true_eq];exact ⟨λhm=>mk ⟨λh=>absurd h hc0,λ_=>hm⟩,λhok=>(hok.2.2.2.2.2.2 hlit).2.2 hc0⟩
 ·have e:k=g.toks.length:=by omega
  subst e;rw [Tv,fH] at hE;unfold CM;exact ⟨by rw [if_pos (hE.2 trivial)],aa l1 (aa l13 h.le)⟩
open Classical in
noncomputable def Bw (g:Gr):Int:=
 if dN g=true then 2 else if ¬mY g then 54 else if ¬fH g.conds.length [] g.toks then 51 else if ¬iP g then 50 else if eD g [] g.prods≠0 then eD g [] g.prods
 else if ¬eE g [] g.lvs then 53 else if ¬∀x∈g.fils,bZ g x then 53 else 0
structure OkG (g:Gr):Prop where
 large:dN g=false
 fam:mY g
 toks:fH g.conds.length [] g.toks
 nons:iP g
 prods:eD g [] g.prods=0
 lvs:eE g [] g.lvs
 fils:∀x∈g.fils,bZ g x
theorem zo {g:Gr}:Bw g=0↔OkG g:=by
 unfold Bw;constructor
 ·intro h;split at h
  ·cases h
  ·rename_i h1;split at h
   ·cases h
   ·rename_i h2;split at h
    ·cases h
    ·rename_i h3;split at h
     ·cases h
     ·rename_i h4;split at h
      ·rename_i h5;exact absurd h h5
      ·rename_i h5;split at h
       ·cases h
       ·rename_i h6;split at h
        ·cases h
        ·rename_i h7;exact ⟨by simpa using h1,Classical.not_not.1 h2,Classical.not_not.1 h3,Classical.not_not.1 h4,Classical.not_not.1 h5,Classical.not_not.1 h6,Classical.not_not.1 h7⟩
 ·rintro ⟨h1,h2,h3,h4,h5,h6,h7⟩;rw [if_neg (by simp [h1]),if_neg (λh=>h h2),if_neg (λh=>h h3),if_neg (λh=>h h4),if_neg (λh=>h h5),if_neg (λh=>h h6),if_neg (λh=>h h7)]
theorem FO:aB prog 89=true/\aB prog 90=true/\aB prog 91=true/\aB prog 92=true/\aB prog 93=true/\aB prog 94=true:=by refine ⟨?_,?_,?_,?_,?_,?_⟩<;>kernel_rfl
open Classical in
noncomputable def vD (g:Gr) (k:Nat):Int:=match k with
 |0=>if mY g then 0 else 54
 |1=>if fH g.conds.length [] g.toks then 0 else 51
 |2=>if iP g then 0 else 50
 |3=>eD g [] g.prods
 |4=>if eE g [] g.lvs then 0 else 53
 |_=>if ∀x∈g.fils,bZ g x then 0 else 53
def zp (k:Nat):Nat:=match k with
 |0=>89
 |1=>90
 |2=>91
 |3=>92
 |4=>93
 |_=>94
theorem Bx {F:PH} {v:Γ} {g:Gr} (hT:Tab F) (hg:GV F v g) (hl:dN g=false) (hz:Sz g) (k:Nat):aB prog (zp k)=true/\aj prog (zp k) #[.agg v] F λr F'=>r=vi (vD g k)/\F.le F':=by
 obtain ⟨c1,c2,c3,c4,c5,c6⟩:=FO;have hb:=gz hl
 match k with
 |0=>exact ⟨c1,lX hg hz hb.1⟩
 |1=>exact ⟨c2,lV hT hg hl hz⟩
 |2=>exact ⟨c3,py hg hb.2.2.2.1⟩
 |3=>exact ⟨c4,nK hg hl⟩
 |4=>exact ⟨c5,lW hg hl hz⟩
 |n+5=>exact ⟨c6,kB hg hl hz⟩
theorem nz0 {p:Prop} [Decidable p] {a:Int} (ha:a≠0) (h:(if p then 0 else a)=0):p:=by
 by_cases hp:p
 ·exact hp
 ·rw [if_neg hp] at h;exact absurd h ha
open Classical in
theorem vE {F:PH} {v:Γ} {g:Gr} (hT:Tab F) (hg:GV F v g) (hz:Sz g):aj prog 36 #[.agg v] F λr F'=>r=vi (Bw g)/\F.le F':=by
 refine Qv ?_;unfold Mh;refine fresh λb1 F1 l1 q1 _=>⟨v,hg.size,ac q1,?_⟩;refine (xr (hg.le l1)).mono ?_;rintro _ F2 ⟨rfl,l2⟩;replace l1:=aa l1 l2;replace q1:=l2 _ _ q1;refine ⟨_,rfl,λhb=>⟨?_,l1⟩,λhb=> ?_⟩
 ·unfold Bw;rw [if_pos hb]
 refine fresh λb9 F3 l3 q9 _=> ?_;replace l1:=aa l1 l3;replace q1:=l3 _ _ q1;have hfin:∀k,k<6->(∀j,j<k->vD g j=0)->vD g k≠0->Bw g=vD g k:=λk hk hj hne=>by
  have s0:0<k->mY g:=λh=>nz0 (a:=54) (by decide) (hj 0 h);have s1:1<k->fH g.conds.length [] g.toks:=λh=>nz0 (a:=51) (by decide) (hj 1 h);have s2:2<k->iP g:=λh=>nz0 (a:=50) (by decide) (hj 2 h);have s3:3<k->eD g [] g.prods=0:=λh=>hj 3 h;have s4:4<k->eE g [] g.lvs:=λh=>nz0 (a:=53) (by decide) (hj 4 h);unfold Bw;rw [if_neg (by simp [hb])]
  match k,hk with
  |0,_=>have hn:¬mY g:=λh=>hne (if_pos h);rw [if_pos hn];exact (if_neg hn).symm
  |1,_=>have hn:¬fH g.conds.length [] g.toks:=λh=>hne (if_pos h);rw [if_neg (λh=>h (s0 (by decide))),if_pos hn];exact (if_neg hn).symm
  |2,_=>have hn:¬iP g:=λh=>hne (if_pos h);rw [if_neg (λh=>h (s0 (by decide))),if_neg (λh=>h (s1 (by decide))),if_pos hn];exact (if_neg hn).symm
  |3,_=>rw [if_neg (λh=>h (s0 (by decide))),if_neg (λh=>h (s1 (by decide))),if_neg (λh=>h (s2 (by decide))),if_pos (show eD g [] g.prods≠0 from hne)];rfl
  |4,_=>have hn:¬eE g [] g.lvs:=λh=>hne (if_pos h);rw [if_neg (λh=>h (s0 (by decide))),if_neg (λh=>h (s1 (by decide))),if_neg (λh=>h (s2 (by decide))),if_neg (λh=>h (s3 (by decide))),if_pos hn];exact (if_neg hn).symm
  |5,_=>have hn:¬∀x∈g.fils,bZ g x:=λh=>hne (if_pos h);rw [if_neg (λh=>h (s0 (by decide))),if_neg (λh=>h (s1 (by decide))),if_neg (λh=>h (s2 (by decide))),if_neg (λh=>h (s3 (by decide))),if_neg (λh=>h (s4 (by decide))),if_pos hn];exact (if_neg hn).symm
 refine bu (xw · b1 b9 _) 6 (λk F'=>F3.le F'/\∀j,j<k->vD g j=0) ⟨aq _,λj h=>by omega⟩ ?_;rintro k F4 N hk ⟨l4,hi⟩ next;unfold xw;refine ⟨λhlt=> ?_,λhge=> ?_⟩
 ·have hlt:k<6:=by simp only at hlt;omega
  refine ⟨_,rfl,by omega,by simp only;omega,.func (.func (zp k)) #[] #[],?_,v,hg.size,ac (l4 _ _ q1),zp k,#[],#[],rfl,?_⟩
  ·rw [N4,aC,am (l4 _ _ q9)]
   match k,hlt with
   |0,_=>rfl
   |1,_=>rfl
   |2,_=>rfl
   |3,_=>rfl
   |4,_=>rfl
   |5,_=>rfl
  ·obtain ⟨h1,h2⟩:=Bx (hT.le (aa l1 l4)) (hg.le (aa l1 l4)) hb hz k;refine ⟨h1,?_⟩;have e:(#[]:Γ)++[Value.agg v].toArray++ #[]= #[.agg v]:=by simp
   dsimp only;rw [e];refine h2.mono ?_;rintro _ F5 ⟨rfl,l5⟩;refine ⟨_,rfl,λhne=>⟨by rw [hfin k hlt hi hne],aa l1 (aa l4 l5)⟩,λhz0=> ?_⟩;rw [aE hlt (by omega)];refine next _ hlt ⟨aa l4 l5,λj hj=> ?_⟩;by_cases e:j=k
   ·rw [e];exact Classical.not_not.1 hz0
   ·exact hi j (by omega)
 ·have e:k=6:=by simp only at hge;omega
  subst e;unfold CJ;refine ⟨?_,aa l1 l4⟩;rw [zo.2 ⟨hb,nz0 (a:=54) (by decide) (hi 0 (by decide)),nz0 (a:=51) (by decide) (hi 1 (by decide)),nz0 (a:=50) (by decide) (hi 2 (by decide)),hi 3 (by decide),nz0 (a:=53) (by decide) (hi 4 (by decide)),nz0 (a:=53) (by decide) (hi 5 (by decide))⟩]
section
end
section
end
structure SlT (t e:TypeId) (n bytes:Nat) (z:Value):Prop where
 ht:prog.underlying t=some (.slice e)
 hsz:tsz prog e=some (n,bytes)
 hz:bP prog e=some z
 hzs:z.cells.size=n
 hn:0<n
 hb:bytes<=250
theorem CI {n m b:Nat} (hb:b<=250) (h:n+m<=500000000000):(n+m)*b<=140737488355328:=
 TO (Nat.mul_le_mul h hb) (by decide)
theorem St.appAt {G F:PH} {As:List (Ψ)} {t e n bytes:Nat} {z:Value} (T:SlT t e n bytes z) {s x:Sl} {olds news:Ξ} {ty:TypeId} (h:St G F As) (i:Nat) (hi:As[i]? =some (own s e n olds)) (hx:RdS F x n news) (hst:∀v∈news,ak v)
  (hlen:s.len+x.len<=500000000000) {K:Sl->Ψ} (k:∀s' F',St G F' (As.set i (own s' e n (olds++news)))->s'.len=s.len+x.len->K s' F'):
  aD prog (Builtin.append_ #[t,t] ty #[s.v,x.v]) F λv F=>∃s':Sl,v=Sl.v s'/\K s' F:=by
 obtain ⟨H,a1,a2,a3,a4⟩:=h.set (A':=own s e n olds) hi;have ho:=(h.ownAt hi).1;by_cases h0:x.len=0
 ·have hnil:news=[]:=SU (by rw [hx.len,h0,TN]);subst hnil;refine nf T.ht T.hsz T.hz T.hzs ho hx h0 (by have:=CI (n:=s.len) (m:=0) T.hb (by omega);simpa using this) (by omega) ⟨s,rfl,k s F ?_ (by omega)⟩;rw [Tn];exact a4 H F a1 (λb hb=> .inl hb) a3 (λb o hb _=>hb)
 ·refine pI T.ht T.hsz T.hz T.hzs T.hn ho hx (by omega) hst (CI T.hb hlen) (by omega) ?_;rintro s' F' b ob rfl ho' hl' hbase hb;obtain ⟨H,a1,a2,a3,a4⟩:=h.set (A':=own s' e n (olds++news)) hi;have hb':H b≠none\/F b=none:=by
   rcases hb with ⟨a,ha,rfl⟩|hb
   ·obtain ⟨cur,hc⟩:=ca.elem a1 ha;exact .inl (by rw [hc];simp)
   ·exact .inr hb
  refine ⟨s',rfl,k s' _ ?_ hl'⟩;refine a4 (PH.set (λ_=>none) b ob) _ (ho'.keep λa ha=>by rw [hbase a ha,al,al]) (λx hx=> ?_) (λx p hx=> ?_) (λx p hx hn=> ?_)
  ·by_cases e:x=b
   ·rw [e];exact hb'
   ·rw [az _ _ e] at hx;exact absurd rfl hx
  ·by_cases e:x=b
   ·rw [e,al] at hx ⊢;exact hx
   ·rw [az _ _ e] at hx;cases hx
  ·have e:x≠b:=λe=>by
    subst e;rcases hb' with h|h
    ·exact h hn
    ·rw [h] at hx;cases hx
   rw [az _ _ e];exact hx
namespace St
section
variable {G F:PH} {As:List (Ψ)} {t e n bytes:Nat} {z:Value}
theorem pinOwn {s:Sl} {vs:Ξ} (h:St G F (own s e n vs::As)) {K:Ψ} (k:∀G',G.le G'->RdS G' s n vs->St G' F As->K F):K F:=by obtain ⟨G',h1,⟨H,hA,hH⟩,h2⟩:=h.pin;exact k G' h1 ((ca.rd hA).le hH) h2
theorem app0 (T:SlT t e n bytes z) {s x:Sl} {olds news:Ξ} {ty:TypeId} (h:St G F (own s e n olds::As)) (hx:RdS F x n news) (hst:∀v∈news,ak v) (hlen:s.len+x.len<=500000000000) {K:Sl->Ψ}
  (k:∀s' F',St G F' (own s' e n (olds++news)::As)->s'.len=s.len+x.len->K s' F'):
  aD prog (Builtin.append_ #[t,t] ty #[s.v,x.v]) F λv F=>∃s':Sl,v=Sl.v s'/\K s' F:=h.appAt T 0 rfl hx hst hlen k
theorem push0 (T:SlT t e n bytes z) {s:Sl} {olds:Ξ} {c:Γ} {ty:TypeId} (h:St G F (own s e n olds::As)) (hc:c.size=n) (hst:∀v∈c.toList,ak v) (hlen:s.len<=400000000000) {K:Sl->Ψ}
  (k:∀s' G' F',G.le G'->St G' F' (own s' e n (olds++c.toList)::As)->s'.len=s.len+1->K s' F'):
  ∀b,F b=none->atF (F.set b (.cells c e)) λF=>aD prog (Builtin.append_ #[t,t] ty #[s.v,Sl.v (Sl.mk (some (Addr.mk b 0 none)) 1 1)]) F λv F=>∃s':Sl,v=Sl.v s'/\K s' F:=by
 refine h.newG λb G' F' l q _ h=> ?_;have hx:RdS F' (Sl.mk (some (Addr.mk b 0 none)) 1 1) n c.toList:=RdS.new (h.le _ _ q) (SI (by rw [SH,hc,T7];exact SC _)) (by rw [SH,hc,T7]) (SC _);exact h.app0 T hx hst (by show s.len+1<=_;omega) λs' F'' h' hl'=>k s' G' F'' l h' hl'
theorem app1 {p0:Ψ} (T:SlT t e n bytes z) {s x:Sl} {olds news:Ξ} {ty:TypeId} (h:St G F (p0::own s e n olds::As)) (hx:RdS F x n news) (hst:∀v∈news,ak v) (hlen:s.len+x.len<=500000000000) {K:Sl->Ψ}
  (k:∀s' F',St G F' (p0::own s' e n (olds++news)::As)->s'.len=s.len+x.len->K s' F'):
  aD prog (Builtin.append_ #[t,t] ty #[s.v,x.v]) F λv F=>∃s':Sl,v=Sl.v s'/\K s' F:=h.appAt T 1 rfl hx hst hlen k
theorem push1 {p0:Ψ} (T:SlT t e n bytes z) {s:Sl} {olds:Ξ} {c:Γ} {ty:TypeId} (h:St G F (p0::own s e n olds::As)) (hc:c.size=n) (hst:∀v∈c.toList,ak v) (hlen:s.len<=400000000000) {K:Sl->Ψ}
  (k:∀s' G' F',G.le G'->St G' F' (p0::own s' e n (olds++c.toList)::As)->s'.len=s.len+1->K s' F'):
  ∀b,F b=none->atF (F.set b (.cells c e)) λF=>aD prog (Builtin.append_ #[t,t] ty #[s.v,Sl.v (Sl.mk (some (Addr.mk b 0 none)) 1 1)]) F λv F=>∃s':Sl,v=Sl.v s'/\K s' F:=by
 refine h.newG λb G' F' l q _ h=> ?_;have hx:RdS F' (Sl.mk (some (Addr.mk b 0 none)) 1 1) n c.toList:=RdS.new (h.le _ _ q) (SI (by rw [SH,hc,T7];exact SC _)) (by rw [SH,hc,T7]) (SC _);exact h.app1 T hx hst (by show s.len+1<=_;omega) λs' F'' h' hl'=>k s' G' F'' l h' hl'
theorem app2 {p0 p1:Ψ} (T:SlT t e n bytes z) {s x:Sl} {olds news:Ξ} {ty:TypeId} (h:St G F (p0::p1::own s e n olds::As)) (hx:RdS F x n news) (hst:∀v∈news,ak v) (hlen:s.len+x.len<=500000000000) {K:Sl->Ψ}
  (k:∀s' F',St G F' (p0::p1::own s' e n (olds++news)::As)->s'.len=s.len+x.len->K s' F'):
  aD prog (Builtin.append_ #[t,t] ty #[s.v,x.v]) F λv F=>∃s':Sl,v=Sl.v s'/\K s' F:=h.appAt T 2 rfl hx hst hlen k
theorem push2 {p0 p1:Ψ} (T:SlT t e n bytes z) {s:Sl} {olds:Ξ} {c:Γ} {ty:TypeId} (h:St G F (p0::p1::own s e n olds::As)) (hc:c.size=n) (hst:∀v∈c.toList,ak v) (hlen:s.len<=400000000000) {K:Sl->Ψ}
  (k:∀s' G' F',G.le G'->St G' F' (p0::p1::own s' e n (olds++c.toList)::As)->s'.len=s.len+1->K s' F'):
  ∀b,F b=none->atF (F.set b (.cells c e)) λF=>aD prog (Builtin.append_ #[t,t] ty #[s.v,Sl.v (Sl.mk (some (Addr.mk b 0 none)) 1 1)]) F λv F=>∃s':Sl,v=Sl.v s'/\K s' F:=by
 refine h.newG λb G' F' l q _ h=> ?_;have hx:RdS F' (Sl.mk (some (Addr.mk b 0 none)) 1 1) n c.toList:=RdS.new (h.le _ _ q) (SI (by rw [SH,hc,T7];exact SC _)) (by rw [SH,hc,T7]) (SC _);exact h.app2 T hx hst (by show s.len+1<=_;omega) λs' F'' h' hl'=>k s' G' F'' l h' hl'
end
end St
section
end
theorem L7:SlT 67 3 1 8 (.int .i64 0):=⟨underlying67,sz3,zr3,rfl,by decide,by decide⟩
theorem Qp:∃b z,SlT 50 63 2 b z:=⟨_,_,underlying50,M2,M6,rfl,by decide,by decide⟩
theorem L8:∃b z,SlT 32 146 7 b z:=⟨_,_,underlying32,M3,M7,rfl,by decide,by decide⟩
theorem JY:∃b z,SlT 33 55 13 b z:=⟨_,_,underlying33,M1,M5,rfl,by decide,by decide⟩
theorem Qq:∃b z,SlT 34 69 4 b z:=⟨_,_,underlying34,QJ,QN,rfl,by decide,by decide⟩
theorem Qr:∃b z,SlT 35 156 9 b z:=⟨_,_,underlying35,M4,M8,rfl,by decide,by decide⟩
section
end
end Go.Proofs.YtcemhghkipgdiaaGreatDoor
namespace Go.Proofs.YtcemhghkipgdiaaGreatDoor
open Go Go.Proofs.Tryz Tr
set_option maxRecDepth 10000
section
end
instance (t:Tr):Decidable (t=leaf false):=match t with
 |leaf true=>isFalse (by simp)
 |leaf false=>isTrue rfl
 |node _ _ _=>isFalse (by simp)
theorem By {d:Dia} {n:Nat} (h:iz d n):∃t:Tr,t.ok/\d=dia t/\tre d=t/\(be t).length<=4096/\dT n t:=by
 obtain ⟨h1,h2⟩:=h;unfold chk at h1;split at h1
 ·cases h1
 ·rename_i hl;split at h1
  ·rename_i hv;obtain ⟨t,ht,rfl⟩:=hv;refine ⟨t,ht,rfl,gY ht,by simpa [dia,aN] using hl,?_⟩;refine p6 (bC ht) (λx hx=> ?_) t (bO ht);obtain ⟨_,v,l,r,rfl,_,_⟩:=(bC ht).mem x hx;have:=h2 (br (be t) (node v l r)) (SL.2 ⟨_,hx,rfl⟩);simp only [br] at this;simp only [top];omega
  ·cases h1
abbrev vB (n:Nat):Value:=.int .u8 (n:Int)
theorem Bz (a:Addr) (i j:Nat):Addr.add (Addr.add a i) j=Addr.add a (i+j):=by
 unfold Addr.add;by_cases hi:i=0
 ·simp [hi]
 ·by_cases hj:j=0
  ·simp [hj]
  ·simp [hi,hj,Nat.add_assoc]
theorem zq {F:PH} {a:Addr} {c d:Γ} {o:Nat} (h:F.row a c) (hd:(c.toList.drop o).take d.size=d.toList):F.row (a.add o) d:=by intro i hi;rw [Bz];have:=congrArg (λl=>l[i]?) hd;simp only [Tq hi,List.getElem?_drop,TV] at this;exact bN h (this.trans (by simp [hi]))
section
variable {G:PH} {bc:Nat}
end
theorem St.pinO {G F:PH} {As:List (Ψ)} {e n:Nat} {s:Sl} {vs:Ξ} (h:St G F (own s e n vs::As)):∃G',G.le G'/\RdS G' s n vs/\St G' F As:=by obtain ⟨G',h1,⟨H,hA,hH⟩,h2⟩:=h.pin;exact ⟨G',h1,(ca.rd hA).le hH,h2⟩
section
end
end Go.Proofs.YtcemhghkipgdiaaGreatDoor
