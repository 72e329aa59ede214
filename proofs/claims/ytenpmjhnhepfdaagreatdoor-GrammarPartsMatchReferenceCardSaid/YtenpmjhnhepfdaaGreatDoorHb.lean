/-
  A base that stays, and parts beside it that may change: what a heap holds, by parts.
-/
import Derived.Test.YtenpmjhnhepfdaaGreatDoorFa
import Derived.Test.YtenpmjhnhepfdaaGreatDoorEx
import Derived.Test.YtenpmjhnhepfdaaGreatDoorHa
import Derived.Test.YtenpmjhnhepfdaaGreatDoorEd
namespace Go.Proofs.YtenpmjhnhepfdaaGreatDoor
open Go Go.Proofs.Tryz Tr
set_option maxRecDepth 10000
theorem qr {n v:Nat} {t:Tr} (h:cv n t):cv n (lo v t):=by
 cases t with
 |leaf b=>trivial
 |node w l r=>
  simp only [lo]
  split
  ·exact h.2.1
  ·exact h
theorem qs {n v:Nat} {t:Tr} (h:cv n t):cv n (hi v t):=by
 cases t with
 |leaf b=>trivial
 |node w l r=>
  simp only [hi]
  split
  ·exact h.2.2
  ·exact h
theorem qt {n v:Nat} {l h:Tr} (hv:v<n) (h1:cv n l) (h2:cv n h):cv n (mk v l h):=by
 unfold mk
 split
 ·exact h1
 ·exact ⟨hv,h1,h2⟩
theorem mn {n:Nat} {t:Tr} (h:cv n t) (hl:t.isL=false):t.top<n:=by
 cases t with
 |leaf b=>cases hl
 |node v l r=>exact h.1
theorem Ft (o:Op3) {n:Nat}:∀(k:Nat) (a b d:Tr),a.sz+b.sz+d.sz<=k->a.ok->b.ok->d.ok->cv n a->cv n b->cv n d->cv n (ap o a b d):=by
 intro k
 induction k with
 |zero=>intro a b d hk;have:=o8 a;omega
 |succ k ih=>
  intro a b d hk ha hb hd na nb nd
  by_cases hv:aY a b d<64
  ·have hst:=zE (o:=o) ha hb hd hv
   have v1:aY a b d<=a.top:=by unfold aY;omega
   have v2:aY a b d<=b.top:=by unfold aY;omega
   have v3:aY a b d<=d.top:=by unfold aY;omega
   have hcase:aY a b d=a.top\/aY a b d=b.top\/aY a b d=d.top:=by unfold aY;omega
   generalize aY a b d=v at*
   have nl:∀{t:Tr},v=t.top->t.isL=false:=fun {t} e=>by
    cases t with
    |leaf b=>simp only [top] at e;omega
    |node _ _ _=>rfl
   obtain ⟨al1,al2,al3,al4,al5⟩:=cR ha v1
   obtain ⟨bl1,bl2,bl3,bl4,bl5⟩:=cR hb v2
   obtain ⟨dl1,dl2,dl3,dl4,dl5⟩:=cR hd v3
   obtain ⟨ah1,ah2,ah3,ah4,ah5⟩:=cS ha v1
   obtain ⟨bh1,bh2,bh3,bh4,bh5⟩:=cS hb v2
   obtain ⟨dh1,dh2,dh3,dh4,dh5⟩:=cS hd v3
   have hvn:v<n:=by
    rcases hcase with e|e|e
    ·have:=mn na (nl e);omega
    ·have:=mn nb (nl e);omega
    ·have:=mn nd (nl e);omega
   have hsl:(lo v a).sz+(lo v b).sz+(lo v d).sz<=k:=by
    rcases hcase with e|e|e
    ·have:=al4 e.symm (nl e);omega
    ·have:=bl4 e.symm (nl e);omega
    ·have:=dl4 e.symm (nl e);omega
   have hsh:(hi v a).sz+(hi v b).sz+(hi v d).sz<=k:=by
    rcases hcase with e|e|e
    ·have:=ah4 e.symm (nl e);omega
    ·have:=bh4 e.symm (nl e);omega
    ·have:=dh4 e.symm (nl e);omega
   rw [hst]
   exact qt hvn (ih _ _ _ hsl al1 bl1 dl1 (qr na) (qr nb) (qr nd)) (ih _ _ _ hsh ah1 bh1 dh1 (qs na) (qs nb) (qs nd))
  ·unfold aY at hv
   obtain ⟨p,rfl⟩:=iB ha (by omega)
   obtain ⟨q,rfl⟩:=iB hb (by omega)
   obtain ⟨r,rfl⟩:=iB hd (by omega)
   rw [zH]
   trivial
theorem iZ {n w:Nat} {b:Bool}:∀(t:Tr),t.ok->cv n t->cv n (fx w b t)
 |leaf x,_,_=>by rw [ia];trivial
 |node v l h,hk,⟨b0,b1,b2⟩=>by
  have hf:=nN (w:=w) (b:=b) hk
  obtain ⟨h0,h1,h2,h3,h4,h5⟩:=hk
  rw [hf]
  split
  ·split
   ·exact iZ h h5 b2
   ·exact iZ l h4 b1
  ·exact qt b0 (iZ l h4 b1) (iZ h h5 b2)
theorem yv {n:Nat} (hn:n<=64):∀(t:Tr),t.ok->cv n t->cnt t+1<=2 ^ (n - min n t.top)
 |leaf b,_,_=>by
  have:n - min n (leaf b).top=0:=by simp only [top];omega
  rw [this]
  simp [cnt]
 |node v l h,⟨h0,h1,h2,h3,h4,h5⟩,⟨b0,b1,b2⟩=>by
  have il:=yv hn l h4 b1
  have ih:=yv hn h h5 b2
  have k1:2 ^ (n - min n l.top)<=2 ^ (n - (v+1)):=Nat.pow_le_pow_right (by decide) (by omega)
  have k2:2 ^ (n - min n h.top)<=2 ^ (n - (v+1)):=Nat.pow_le_pow_right (by decide) (by omega)
  have e:n - min n (node v l h).top=n - (v+1)+1:=by simp only [top];omega
  rw [e,Nat.pow_succ]
  simp only [cnt]
  omega
def Sx (n:Nat) (t:Tr):Prop:=t.ok/\cv n t
theorem Sx.cnt63 {n:Nat} {t:Tr} (h:Sx n t) (hn:n<=6):cnt t<=63:=by
 have h1:=yv (by omega:n<=64) t h.1 h.2
 have h2:2 ^ (n - min n t.top)<=2 ^ 6:=Nat.pow_le_pow_right (by decide) (by omega)
 omega
theorem Sx.len {n:Nat} {t:Tr} (h:Sx n t) (hn:n<=6):(aH t).length<=63:=Nat.le_trans (vW t) (h.cnt63 hn)
theorem Sx.ap {n:Nat} {o:Op3} {a b d:Tr} (ha:Sx n a) (hb:Sx n b) (hd:Sx n d):Sx n (Tr.ap o a b d):=⟨Oh ha.1 hb.1 hd.1,Ft o _ a b d (Nat.le_refl _) ha.1 hb.1 hd.1 ha.2 hb.2 hd.2⟩
theorem Sx.leaf (n:Nat) (b:Bool):Sx n (Tr.leaf b):=⟨trivial,trivial⟩
theorem Sx.ap2 {n:Nat} {o:Op2} {a b:Tr} (ha:Sx n a) (hb:Sx n b):Sx n (ap2 o a b):=Sx.ap ha hb (Sx.leaf n _)
theorem Sx.fx {n w:Nat} {b:Bool} {t:Tr} (h:Sx n t):Sx n (fx w b t):=⟨(cU w b h.1).1,iZ t h.1 h.2⟩
theorem Sx.tv {n v:Nat} (hv:v<n) (hn:n<=6):Sx n (tv v):=⟨PP (by omega),hv,trivial,trivial⟩
theorem Sx.mono {n m:Nat} {t:Tr} (h:Sx n t) (hm:n<=m):Sx m t:=by
 refine ⟨h.1,?_⟩
 have:∀t:Tr,cv n t->cv m t:=by
  intro t
  induction t with
  |leaf b=>exact fun _=>trivial
  |node v l r il ir=>exact fun ⟨a,b,c⟩=>⟨by omega,il b,ir c⟩
 exact this t h.2
theorem Sx.f2 {n:Nat} {o:Op2} {a b:Tr} (ha:Sx n a) (hb:Sx n b) (hn:n<=6):F2 o a b:=by
 have la:=ha.len hn
 have lb:=hb.len hn
 have lt:=(ha.ap2 (o:=o) hb).len hn
 have hp:((aH a).length+2)*((aH b).length+2)<=65*65:=Nat.mul_le_mul (by omega) (by omega)
 exact ⟨ha.1,hb.1,by omega,by omega,by omega,by omega⟩
theorem J2 {v:Nat} (h:v<64):IntKind.u64.wrap (v:Int)=(v:Int):=eG (by omega) (by omega)
theorem Fu {S:Tr->Prop} {f:FuncId} {args:Array Value} {F:PH} {x:Nat} {o:Obj} (h:ae prog f args (dX F x) fun r F'=>∃w t,r=.agg w/\S t/\DV F' w (dia t)/\(dX F x).le F') (hx:F x=some o):
  ae prog f args F fun r F'=>∃w t,r=.agg w/\S t/\(∃G,DV G w (dia t)/\G.le F'/\G x=none)/\F.le F'/\F' x=some o:=
 (ae.avoid h hx).mono fun r F' ⟨G,⟨w,t,hr,ht,hw,lg⟩,lG,q,g⟩=>⟨w,t,hr,ht,⟨G,hw,lG,g⟩,qC lg lG q hx,q⟩
def qv (l:List Int) (k:Nat):Bool:=
 if h:k / 8<l.length then decide (IntKind.u8.wrap ((BitVec.ofInt (IntKind.u8).bits (Int.fdiv l[k / 8] (2 ^ (min (Int.toNat (((k % 8:Nat):Int))) (IntKind.u8).bits))) &&& BitVec.ofInt (IntKind.u8).bits (1:Int)).toNat)=(1:Int)) else false
noncomputable def eP (l:List Int):Nat->Nat->Nat->Tr
 |0,_,k=>Tr.leaf (qv l k)
 |m+1,v,k=>ap2 oOr (ap2 i8 (tv v) (eP l m (v+1) (k+2 ^ v))) (ap2 i8 (eP l m (v+1) k) (ap2 i9 (tv v) (Tr.leaf true)))
theorem yw {n:Nat} (hn:n<=6):∀(m v k:Nat),v+m=n->k<2 ^ v->∀(F:PH) (sl:Sl) (l:List Int),RdS F sl 1 (l.map (Value.int .u8))->
  ae prog 106 #[sl.v,vi n,vi v,vi k] F fun r F'=>∃u t,r=.agg u/\(Sx n t/\t=eP l m v k)/\DV F' u (dia t)/\F.le F':=by
 intro m
 induction m with
 |zero=>
  intro v k hvm hk F sl l hr
  obtain rfl:v=n:=by omega
  have hk64:k<64:=Nat.lt_of_lt_of_le hk (Nat.pow_le_pow_right (by decide) hn)
  refine J3 ?_
  unfold FB
  intro b8 hb8
  refine atI ?_
  have l8:=ac (.cells #[Value.slice none 0 0,Value.int .i64 0] 33) hb8
  have q8:=an F b8 (.cells #[Value.slice none 0 0,Value.int .i64 0] 33)
  have hr8:=hr.le l8
  generalize F.set b8 (.cells #[Value.slice none 0 0,Value.int .i64 0] 33)=F8 at*
  have hd:IntKind.i64.wrap (Int.tdiv (k:Int) 8)=((k / 8:Nat):Int):=by
   rw [Int.tdiv_eq_ediv_of_nonneg (by omega),aN (by omega) (by omega)]
   rfl
  have hm:IntKind.u64.wrap (Int.tmod (k:Int) 8)=((k % 8:Nat):Int):=by
   rw [Int.tmod_eq_emod_of_nonneg (by omega),eG (by omega) (by omega)]
   rfl
  have hlen:=hr8.len
  simp at hlen
  refine ⟨fun _=>⟨fun hlt=> ?_,fun _=> ?_⟩,fun h=>absurd rfl h⟩
  ·rw [hd] at hlt ⊢
   have hkl:k / 8<l.length:=by omega
   obtain ⟨b,o,hb,hc⟩:=hr8.cells (by omega)
   have hcell:=hc (k / 8) (by simpa using hkl)
   refine ⟨_,hb,by omega,hlt,l[k / 8],by rw [aK,Int.toNat_natCast,Nat.mul_one];simpa using hcell,by rw [hm];omega,?_⟩
   refine (fU (cE (F:=dX F8 b8) _) q8).mono ?_
   rintro _ F9 ⟨u,rfl,⟨G,hu,lG,gG⟩,l9,q9⟩
   refine ⟨_,rfl,?_⟩
   exact gD (K:=fun vres F'=>∃u t,Value.agg vres=.agg u/\(Sx v t/\t=eP l 0 v k)/\DV F' u (dia t)/\F.le F') hu q9 rfl ⟨_,_,rfl,⟨Sx.leaf v _,by rw [eP,qv,dif_pos hkl,hm]⟩,hu.le (aw lG gG),aw (l8.trans l9) hb8⟩
  ·rename_i hge
   rw [hd] at hge
   refine (fU (cE (F:=dX F8 b8) false) q8).mono ?_
   rintro _ F9 ⟨u,rfl,⟨G,hu,lG,gG⟩,l9,q9⟩
   refine ⟨_,rfl,?_⟩
   exact gD (K:=fun vres F'=>∃u t,Value.agg vres=.agg u/\(Sx v t/\t=eP l 0 v k)/\DV F' u (dia t)/\F.le F') hu q9 rfl ⟨_,_,rfl,⟨Sx.leaf v _,by rw [eP,qv,dif_neg (by omega)]⟩,hu.le (aw lG gG),aw (l8.trans l9) hb8⟩
 |succ m ih=>
  intro v k hvm hk F sl l hr
  have hvn:v<n:=by omega
  have hk64:k<64:=Nat.lt_of_lt_of_le hk (Nat.le_trans (Nat.pow_le_pow_right (by decide:2>0) (by omega:v<=6)) (by decide))
  have hp64:2 ^ v<=32:=Nat.le_trans (Nat.pow_le_pow_right (by decide:2>0) (by omega:v<=5)) (by decide)
  refine J3 ?_
  unfold FB
  intro b8 hb8
  refine atI ?_
  have l8:=ac (.cells #[Value.slice none 0 0,Value.int .i64 0] 33) hb8
  have q8:=an F b8 (.cells #[Value.slice none 0 0,Value.int .i64 0] 33)
  generalize F.set b8 (.cells #[Value.slice none 0 0,Value.int .i64 0] 33)=F8 at*
  refine ⟨fun h=>by omega,fun _=> ?_⟩
  have hvar:=sW (F:=dX F8 b8) (v:Int)
  rw [IL (by omega)] at hvar
  refine (FM hvar q8).mono ?_
  rintro _ F9 ⟨x,rfl,⟨G,hx,lG,gG⟩,l9,q9⟩
  refine ⟨_,_,rfl,?_⟩
  intro b9 hb9
  refine atI ?_
  refine stW (an _ _ _) hx.size rfl hx.st ?_
  rw [aR]
  have n89:b8≠b9:=aG hb9 q9
  have lx:=ac (.cells x 33) hb9
  have r9:=an F9 b9 (.cells x 33)
  have q10:=lx _ _ q9
  have hx10:=hx.beside (lG.trans lx) gG
  have l10:=l8.trans (l9.trans lx)
  generalize F9.set b9 (.cells x 33)=F10 at*
  have wv:IntKind.i64.wrap ((v:Int)+1)=((v+1:Nat):Int):=fd (by omega)
  have w2:IntKind.i64.wrap ((1:Int)*2 ^ (min (Int.toNat (IntKind.u64.wrap (v:Int))) (IntKind.i64).bits))=((2 ^ v:Nat):Int):=by
   rw [J2 (by omega)]
   have hm:min (Int.toNat (v:Int)) (IntKind.i64).bits=v:=by simp only [IntKind.bits,Int.toNat_natCast];omega
   have e1:(1:Int)*2 ^ v=((2 ^ v:Nat):Int):=by simp
   rw [hm,e1,aN (by omega) (by omega)]
  have wk:IntKind.i64.wrap ((k:Int)+((2 ^ v:Nat):Int))=((k+2 ^ v:Nat):Int):=by rw [aN (by omega) (by omega)];omega
  rw [w2,wk,wv]
  refine ⟨x,hx.size,aj r9,by rw [J2 (by omega)];omega,x,hx.size,aj r9,?_⟩
  have hpow:2 ^ (v+1)=2 ^ v+2 ^ v:=by rw [Nat.pow_succ];omega
  refine (Fu (ih (v+1) (k+2 ^ v) (by omega) (by omega) (dX F10 b8) sl l (hr.le (fz l10 hb8))) q10).mono ?_
  rintro _ F11 ⟨u1,t1,rfl,⟨k1,e1⟩,⟨G1,h1,lG1,gG1⟩,l11,q11⟩
  refine ⟨_,rfl,aj (l11 _ _ r9),aj (l11 _ _ r9),?_⟩
  refine (fU (qx (hx10.le (mp l11)) (h1.beside lG1 gG1) ((Sx.tv hvn hn).f2 k1 hn)) q11).mono ?_
  rintro _ F12 ⟨u2,rfl,⟨G2,h2,lG2,gG2⟩,l12,q12⟩
  have k2:=(Sx.tv hvn hn).ap2 (o:=i8) k1
  refine ⟨_,rfl,aj (l12 _ _ (l11 _ _ r9)),?_⟩
  refine (Fu (ih (v+1) k (by omega) (by omega) (dX F12 b8) sl l (hr.le (fz (l10.trans (l11.trans l12)) hb8))) q12).mono ?_
  rintro _ F13 ⟨u3,t3,rfl,⟨k3,e3⟩,⟨G3,h3,lG3,gG3⟩,l13,q13⟩
  refine ⟨_,rfl,aj (l13 _ _ (l12 _ _ (l11 _ _ r9))),?_⟩
  have kx:=(Sx.tv hvn hn).ap2 (o:=i9) (Sx.leaf n true)
  refine (fU (yA (h3.beside lG3 gG3) (hx10.le (mp (l11.trans (l12.trans l13)))) ((Sx.tv hvn hn).f2 (Sx.leaf n true) hn) (k3.f2 kx hn)) q13).mono ?_
  rintro _ F14 ⟨u4,rfl,⟨G4,h4,lG4,gG4⟩,l14,q14⟩
  have k4:=k3.ap2 (o:=i8) kx
  refine ⟨_,rfl,?_⟩
  refine (fU (yz ((h2.beside lG2 gG2).le (mp (l13.trans l14))) (h4.beside lG4 gG4) (k2.f2 k4 hn)) q14).mono ?_
  rintro _ F15 ⟨u5,rfl,⟨G5,h5,lG5,gG5⟩,l15,q15⟩
  refine ⟨_,rfl,?_⟩
  exact gD (K:=fun vres F'=>∃u t,Value.agg vres=.agg u/\(Sx n t/\t=eP l (m+1) v k)/\DV F' u (dia t)/\F.le F') h5 q15 rfl ⟨_,_,rfl,⟨k2.ap2 k4,by rw [eP,<- e1,<- e3]⟩,h5.le (aw lG5 gG5),aw (l10.trans (l11.trans (l12.trans (l13.trans (l14.trans l15))))) hb8⟩
theorem i6 {n:Nat} (hn:n<=6) {F:PH} {sl:Sl} {l:List Int} (hr:RdS F sl 1 (l.map (Value.int .u8))):ae prog 35 #[sl.v,vi n] F fun r F'=>∃u t,r=.agg u/\(Sx n t/\t=eP l n 0 0)/\DV F' u (dia t)/\F.le F':=by
 refine Uk ?_
 unfold Pu
 intro b4 hb4
 refine atI ?_
 have l4:=ac (.cells #[Value.slice none 0 0,Value.int .i64 0] 33) hb4
 have q4:=an F b4 (.cells #[Value.slice none 0 0,Value.int .i64 0] 33)
 generalize F.set b4 (.cells #[Value.slice none 0 0,Value.int .i64 0] 33)=F4 at*
 have e:max (0:Int) (min (n:Int) 6)=(n:Int):=by omega
 rw [e]
 refine (Fu (yw hn n 0 0 (by omega) (by simp) (dX F4 b4) sl l (hr.le (fz l4 hb4))) q4).mono ?_
 rintro _ F5 ⟨u,t,rfl,kt,⟨G,hu,lG,gG⟩,l5,q5⟩
 refine ⟨_,rfl,?_⟩
 exact gD (K:=fun vres F'=>∃u t,Value.agg vres=.agg u/\(Sx n t/\t=eP l n 0 0)/\DV F' u (dia t)/\F.le F') hu q5 rfl ⟨_,_,rfl,kt,hu.le (aw lG gG),aw (l4.trans l5) hb4⟩
section
variable {F:PH} {v:Array Value} {d:Dia}
open Classical in
theorem yx (hd:DV F v d) (hf:Fit (d.1.length+4)) {S:List Tr} (hS:Cl S) {k:Nat} (hk:S.length=k) (hkd:k<d.1.length) (hb:brs S=d.1.take k):
  ae prog 241 #[.agg v,vi k] F fun r F'=>r=.bool (decide (xe S d.1[k]))/\F.le F':=by
 have hd':=hd
 obtain ⟨s,rfl,hr⟩:=hd
 have hlen:=hr.blen
 have hpre:brs S<+:d.1:=by rw [hb];exact List.take_prefix _ _
 generalize hB:d.1[k]=B
 have hget:d.1[k]? =some B:=by rw [List.getElem?_eq_getElem hkd,hB]
 refine PM ?_
 unfold Kj
 intro b2 hb2
 refine atI ?_
 have l2:=ac (.cells #[s.v,vi d.2] 33) hb2
 have q2:=an F b2 (.cells #[s.v,vi d.2] 33)
 generalize F.set b2 (.cells #[s.v,vi d.2] 33)=F2 at*
 obtain ⟨p,hp,hrow,_⟩:=rdb (hr.le l2) hget
 refine ⟨s,by rw [am q2];rfl,p,hp,by omega,by omega,aQ B,rfl,by simpa using hrow,?_⟩
 intro b5 hb5
 refine atI ?_
 refine stW (an _ _ _) rfl rfl (fR _) ?_
 rw [aR]
 have lx:=ac (.cells (aQ B) 103) hb5
 have q5:=an F2 b5 (.cells (aQ B) 103)
 replace q2:=lx _ _ q2
 have l5:=l2.trans lx
 generalize F2.set b5 (.cells (aQ B) 103)=F5 at*
 have c0:∀{G:PH},F5.le G->G.cell (Addr.mk b5 0 none)=some (vi B.v):=fun h=>by rw [am (h _ _ q5)];rfl
 have c1:∀{G:PH},F5.le G->G.cell (Addr.mk b5 1 none)=some (vi B.l):=fun h=>by rw [am (h _ _ q5)];rfl
 have c2:∀{G:PH},F5.le G->G.cell (Addr.mk b5 2 none)=some (vi B.h):=fun h=>by rw [am (h _ _ q5)];rfl
 have r0:=PH.le_rfl (F:=F5)
 have hw:IntKind.i64.wrap ((k:Int)+2)=(k:Int)+2:=by rw [aN (by omega) (by omega)]
 have bad:∀{G:PH},F.le G->¬xe S B->(Value.bool false=.bool (decide (xe S B))/\F.le G):=fun {G} hg hn=>⟨by rw [decide_eq_false hn],hg⟩
 rw [hw]
 refine ⟨_,c0 r0,fun h=>bad l5 fun hF=>(by have:=bX hS hF;omega),fun h1=> ?_⟩
 refine ⟨_,c0 r0,fun h=>bad l5 fun hF=>(by have:=bX hS hF;omega),fun h2=> ?_⟩
 refine ⟨_,c1 r0,fun h=>bad l5 fun hF=>(by have:=bX hS hF;omega),fun h3=> ?_⟩
 refine ⟨_,c2 r0,fun h=>bad l5 fun hF=>(by have:=bX hS hF;omega),fun h4=> ?_⟩
 refine ⟨_,c1 r0,fun h=>bad l5 fun hF=>(by have:=bX hS hF;omega),fun h5=> ?_⟩
 refine ⟨_,c2 r0,fun h=>bad l5 fun hF=>(by have:=bX hS hF;omega),fun h6=> ?_⟩
 refine ⟨_,c1 r0,_,c2 r0,fun h=>bad l5 fun hF=>(by have:=bX hS hF;omega),fun h7=> ?_⟩
 have il:inn S (tr S B.l.toNat):=fZ (by omega)
 have ih:inn S (tr S B.h.toNat):=fZ (by omega)
 have nl:((num S (tr S B.l.toNat):Nat):Int)=B.l:=by rw [fI hS (by omega)];omega
 have nh:((num S (tr S B.h.toNat):Nat):Int)=B.h:=by rw [fI hS (by omega)];omega
 refine ⟨_,rfl,aj q2,_,c1 r0,_,c0 r0,?_⟩
 have s1:=fb (hd'.le l5) hpre il (by omega)
 rw [nl] at s1
 refine s1.mono ?_
 rintro _ F6 ⟨rfl,l6⟩
 refine ⟨_,rfl,c0 l6,fun h=>bad (l5.trans l6) fun hF=>(by have:=bX hS hF;omega),fun h9=> ?_⟩
 refine ⟨_,rfl,aj (l6 _ _ q2),_,c2 l6,_,c0 l6,?_⟩
 have s2:=fb (hd'.le (l5.trans l6)) hpre ih (by omega)
 rw [nh] at s2
 refine s2.mono ?_
 rintro _ F7 ⟨rfl,l7⟩
 have l57:=l6.trans l7
 refine ⟨_,rfl,c0 l57,c0 l57,fun h=>bad (l5.trans l57) fun hF=>(by have:=bX hS hF;omega),fun h10=> ?_⟩
 have hmem:∀i,i<k->∀x,d.1[i]? =some x->x∈brs S:=fun i hi x hx=>by
  rw [hb]
  exact List.mem_of_getElem? (by rw [List.getElem?_take_of_lt hi];exact hx)
 refine ⟨fun m i F'=>∃j:Nat,i=j/\j<=k/\m=k - j/\F7.le F'/\∀x∈d.1.take j,x≠B,k,⟨0,rfl,by omega,rfl,PH.le_rfl,by simp⟩,?_⟩
 rintro m i F8 ⟨j,rfl,hj,rfl,l8,hne⟩
 have l58:=l57.trans l8
 unfold AC
 refine ⟨fun hlt=> ?_,fun hge=> ?_⟩
 ·have hjd:j<d.1.length:=by omega
  have hjg:=List.getElem?_eq_getElem hjd
  obtain ⟨p,hp,hrow,_⟩:=rdb (hr.le (l5.trans l58)) hjg
  refine ⟨s,by rw [am (l58 _ _ q2)];rfl,p,hp,by omega,by omega,aQ d.1[j],rfl,by simpa using hrow,aQ B,rfl,aj (l58 _ _ q5),_,fun F=>FO _ _ F,fun he=> ?_,fun hn=> ?_⟩
  ·refine bad (l5.trans l58) fun hF=>(bX hS hF).2.2.2.2.2.2.2.1 ?_
   rw [<- of_decide_eq_true he]
   exact hmem j (by omega) _ hjg
  ·refine ⟨k - (j+1),by omega,j+1,fd (by omega),by omega,rfl,l8,fun x hx=> ?_⟩
   rw [List.take_succ_eq_append_getElem hjd] at hx
   rcases List.mem_append.1 hx with hx|hx
   ·exact hne x hx
   ·rw [List.mem_singleton.1 hx]
    exact of_decide_eq_false hn
 ·obtain rfl:j=k:=by omega
  unfold AB
  refine ⟨?_,l5.trans l58⟩
  rw [decide_eq_true (AE hS (by omega) (by omega) (by omega) (by omega) (by omega) (by omega) h7 (fun hm=>hne B (by rw [<- hb];exact hm) rfl) (by omega) (by omega))]
open Classical in
theorem C9 (hd:DV F v d) (hf:Fit (d.1.length+4)):ae prog 235 #[.agg v] F fun r F'=>r=.bool (decide (ip d))/\F.le F':=by
 have hd':=hd
 obtain ⟨s,rfl,hr⟩:=hd
 have hlen:=hr.blen
 refine PL ?_
 unfold Ki
 intro b1 hb1
 refine atI ?_
 have l1:=ac (.cells #[s.v,vi d.2] 33) hb1
 have q1:=an F b1 (.cells #[s.v,vi d.2] 33)
 generalize F.set b1 (.cells #[s.v,vi d.2] 33)=F1 at*
 have bad:∀{G:PH},F.le G->¬ip d->(Value.bool false=.bool (decide (ip d))/\F.le G):=fun {G} hg hn=>⟨by rw [decide_eq_false hn],hg⟩
 have hrange:ip d->0<=d.2/\d.2<=(d.1.length:Int)+1:=by
  rintro ⟨t,ht,rfl⟩
  have h1:=cY (ce ht)
  have h2:(dia t).1.length=(aH t).length:=aO _
  have h3:(dia t).2=((num (aH t) t:Nat):Int):=rfl
  omega
 have hw:IntKind.i64.wrap ((s.len:Int)+2)=(s.len:Int)+2:=by rw [aN (by omega) (by omega)]
 have c1:∀{G:PH},F1.le G->G.cell (Addr.mk b1 1 none)=some (vi d.2):=fun h=>by rw [am (h _ _ q1)];rfl
 have c0:∀{G:PH},F1.le G->G.cell (Addr.mk b1 0 none)=some s.v:=fun h=>by rw [am (h _ _ q1)];rfl
 have r0:=PH.le_rfl (F:=F1)
 refine ⟨_,c1 r0,fun h=>bad l1 fun hv=>(by have:=hrange hv;omega),fun h1=> ?_⟩
 refine ⟨_,c1 r0,s,c0 r0,?_⟩
 dsimp only
 rw [hw]
 refine ⟨fun h=>bad l1 fun hv=>(by have:=hrange hv;omega),fun h2=> ?_⟩
 refine ⟨fun m i F'=>∃(k:Nat) (S:List Tr),i=k/\k<=d.1.length/\m=d.1.length - k/\F1.le F'/\Cl S/\S.length=k/\brs S=d.1.take k,d.1.length,⟨0,[],rfl,by omega,rfl,r0,.nil,rfl,by simp [brs]⟩,?_⟩
 rintro m i F2 ⟨k,S,rfl,hk,rfl,l2,hS,hSk,hSb⟩
 unfold AA
 refine ⟨s,c0 l2,fun hlt=> ?_,fun hge=> ?_⟩
 ·have hkd:k<d.1.length:=by omega
  refine ⟨_,rfl,aj (l2 _ _ q1),?_⟩
  refine (yx (hd'.le (l1.trans l2)) hf hS hSk hkd hSb).mono ?_
  rintro _ F3 ⟨rfl,l3⟩
  by_cases hF:xe S d.1[k]
  ·rw [decide_eq_true hF]
   refine ⟨_,rfl,fun h=>(by cases h),fun _=> ?_⟩
   obtain ⟨v,l,h,e,hl,hh,hok,hn⟩:=hF
   refine ⟨d.1.length - (k+1),by omega,k+1,S++[node v l h],fd (by omega),by omega,rfl,l2.trans l3,.snoc hS hl hh hok hn,by simp [hSk],?_⟩
   rw [d9 hS hl hh,List.take_succ_eq_append_getElem hkd,hSb,e]
  ·rw [decide_eq_false hF]
   exact ⟨_,rfl,fun _=>bad (l1.trans (l2.trans l3)) fun hv=>hF (jN hv hS hSk hkd hSb),fun h=>by cases h⟩
 ·obtain rfl:k=d.1.length:=by omega
  rw [List.take_length] at hSb
  unfold Az
  have hin:inn S (tr S d.2.toNat):=fZ (by omega)
  have hnum:((num S (tr S d.2.toNat):Nat):Int)=d.2:=by rw [fI hS (by omega)];omega
  refine ⟨_,rfl,aj (l2 _ _ q1),s,c0 l2,_,c1 l2,?_⟩
  have sp:=jM (ns:=s) (t:=tr S d.2.toNat) (by rw [hSb];exact hr.le (l1.trans l2)) hS hin (by omega)
  rw [hnum] at sp
  refine sp.mono ?_
  rintro _ F3 ⟨w,rfl,hw3,l3⟩
  refine ⟨_,rfl,aj ((l2.trans l3) _ _ q1),?_⟩
  refine (yB (hd'.le (l1.trans (l2.trans l3))) hw3 (by omega)).mono ?_
  rintro _ F4 ⟨rfl,l4⟩
  refine ⟨_,rfl,?_,l1.trans (l2.trans (l3.trans l4))⟩
  have key:(d=dia (tr S d.2.toNat))↔ip d:=by
   constructor
   ·exact fun e=>⟨_,hS.inn_ok hin,e⟩
   ·rintro ⟨u,hu,e⟩
    have e1:brs S=brs (aH u):=by rw [hSb,e];rfl
    have e2:S=aH u:=nq hS (cx hu) e1
    have e3:d.2.toNat=num (aH u) u:=by rw [e];show ((num (aH u) u:Nat):Int).toNat=_;simp
    rw [e3,e2,f7 (cx hu) (ce hu)]
    exact e
  congr 1
  rw [Bool.eq_iff_iff,decide_eq_true_iff,decide_eq_true_iff]
  exact key
theorem Da (hd:DV F v d) (hf:Fit (d.1.length+4)):ae prog 216 #[.agg v] F fun r F'=>r=vi (chk d)/\F.le F':=by
 have hd':=hd
 obtain ⟨s,rfl,hr⟩:=hd
 have hlen:=hr.blen
 refine PF ?_
 unfold Kb
 intro b1 hb1
 refine atI ?_
 have l1:=ac (.cells #[s.v,vi d.2] 33) hb1
 have q1:=an F b1 (.cells #[s.v,vi d.2] 33)
 generalize F.set b1 (.cells #[s.v,vi d.2] 33)=F1 at*
 refine ⟨s,by rw [am q1];rfl,fun h=>⟨?_,l1⟩,fun h=> ?_⟩
 ·unfold chk
  rw [if_pos (by omega)]
 ·refine ⟨_,rfl,aj q1,?_⟩
  refine (C9 (hd'.le l1) hf).mono ?_
  rintro _ F2 ⟨rfl,l2⟩
  refine ⟨_,rfl,fun h2=>⟨?_,l1.trans l2⟩,fun h2=>⟨?_,l1.trans l2⟩⟩
  ·unfold chk
   rw [if_neg (by omega),if_neg (by simpa using h2)]
  ·unfold chk
   rw [if_neg (by omega),if_pos (by simpa using h2)]
end
theorem fresh {F:PH} {o:Obj} {K:Nat->PH->Prop} (k:∀b F',F.le F'->F' b=some o->F b=none->K b F'):∀b,F b=none->atF (F.set b o) (K b):=fun b hb=>k b _ (ac o hb) (an _ _ _) hb
theorem ld {F:PH} {b i:Nat} {c:Array Value} {e:TypeId} {fr:Nat×Nat} {v:Value} (h:F b=some (.cells c e fr)) (hv:c[i]? =some v):F.cell (Addr.mk b i none)=some v:=(am h).trans hv
theorem dP {F:PH} {b o e:Nat} {c d:Array Value} {fr:Nat×Nat} (h:F b=some (.cells c e fr)) (hd:(c.toList.drop o).take d.size=d.toList):F.row (Addr.mk b o none) d:=by
 intro i hi
 rw [aK,am h]
 have:=congrArg (fun l=>l[i]?) hd
 simp only [List.getElem?_take_of_lt hi,List.getElem?_drop,Array.getElem?_toList] at this
 rw [this]
 simp [hi]
theorem aD {F:PH} {a:Addr} {c:Array Value} {i:Nat} {v:Value} (h:F.row a c) (hv:c[i]? =some v):F.cell (a.add i)=some v:=by
 obtain ⟨hi,rfl⟩:=Array.getElem?_eq_some_iff.1 hv
 exact h i hi
theorem aF {F:PH} {a:Addr} {c:Array Value} {v:Value} (h:F.row a c) (hv:c[0]? =some v):F.cell a=some v:=by
 have:=aD h hv
 rwa [show a.add 0=a by unfold Addr.add;cases a;rename_i b o s;cases s<;>simp] at this
def Dj (G H:PH):Prop:=∀b,G b=none\/H b=none
theorem Dj.symm {G H:PH} (h:Dj G H):Dj H G:=fun b=>(h b).symm
theorem Dj.sub {G H K L:PH} (h:Dj G H) (h1:K.le G) (h2:L.le H):Dj K L:=fun b=>by
 rcases h b with e|e
 ·exact .inl (aV h1 e)
 ·exact .inr (aV h2 e)
structure St (G F:PH) (As:List (PH->Prop)):Prop where
 le:G.le F
 ex:∃Hs:Nat->PH,(∀i A,As[i]? =some A->A (Hs i)/\Dj G (Hs i)/\(Hs i).le F)/\∀i j,i<As.length->j<As.length->i≠j->Dj (Hs i) (Hs j)
def pt (b:Nat) (o:Obj):PH->Prop:=fun H=>H b=some o
def own (s:Sl) (e n:Nat) (vs:List Value):PH->Prop:=fun H=>bA H e n s vs
namespace St
section
variable {G F:PH} {As:List (PH->Prop)}
theorem start (F:PH):St F F []:=⟨le_refl' F,fun _ _=>none,fun i A h=>(by cases h),fun i j h=>(by cases h)⟩
theorem get (h:St G F As) {i:Nat} {A:PH->Prop} (hi:As[i]? =some A):∃H,A H/\Dj G H/\H.le F:=by
 obtain ⟨Hs,h1,_⟩:=h.ex
 exact ⟨Hs i,h1 i A hi⟩
theorem set (h:St G F As) {i:Nat} {A A':PH->Prop} (hi:As[i]? =some A):∃H,A H/\Dj G H/\H.le F/\∀H' F',A' H'->(∀b,H' b≠none->H b≠none\/F b=none)->H'.le F'->(∀b o,F b=some o->H b=none->F' b=some o)->St G F' (As.set i A'):=by
 obtain ⟨Hs,h1,h2⟩:=h.ex
 obtain ⟨a1,a2,a3⟩:=h1 i A hi
 refine ⟨Hs i,a1,a2,a3,fun H' F' hA hb hl hk=> ?_⟩
 have hil:i<As.length:=(List.getElem?_eq_some_iff.1 hi).1
 have hfree:∀{K:PH},K.le F->Dj (Hs i) K->Dj H' K:=fun {K} hK hd b=>by
  by_cases e:H' b=none
  ·exact .inl e
  ·rcases hb b e with e|e
   ·rcases hd b with h|h
    ·exact absurd h e
    ·exact .inr h
   ·exact .inr (aV hK e)
 have hkeep:∀{K:PH},K.le F->Dj (Hs i) K->K.le F':=fun {K} hK hd b o ho=>hk b o (hK b o ho) (by
  rcases hd b with h|h
  ·exact h
  ·rw [h] at ho;cases ho)
 refine ⟨hkeep h.le a2.symm,fun j=>if j=i then H' else Hs j,fun j B hj=> ?_,fun j k hj hk' hne=> ?_⟩
 ·dsimp only
  by_cases e:j=i
  ·subst e
   rw [List.getElem?_set_self hil] at hj
   cases hj
   rw [if_pos rfl]
   exact ⟨hA,(hfree h.le a2.symm).symm,hl⟩
  ·rw [List.getElem?_set_ne (Ne.symm e)] at hj
   rw [if_neg e]
   obtain ⟨b1,b2,b3⟩:=h1 j B hj
   have hjl:j<As.length:=(List.getElem?_eq_some_iff.1 hj).1
   exact ⟨b1,b2,hkeep b3 (h2 i j hil hjl (Ne.symm e))⟩
 ·rw [List.length_set] at hj hk'
  have hle:∀{m:Nat},m<As.length->(Hs m).le F:=fun {m} hm=>(h1 m _ (List.getElem?_eq_getElem hm)).2.2
  dsimp only
  by_cases e:j=i
  ·subst e
   rw [if_pos rfl,if_neg (Ne.symm hne)]
   exact hfree (hle hk') (h2 j k hj hk' hne)
  ·rw [if_neg e]
   by_cases e2:k=i
   ·subst e2
    rw [if_pos rfl]
    exact (hfree (hle hj) (h2 k j hk' hj (Ne.symm hne))).symm
   ·rw [if_neg e2]
    exact h2 j k hj hk' hne
theorem push (h:St G F As) {A:PH->Prop} {H F':PH} (hA:A H) (hd:∀b,H b≠none->F b=none) (hl:H.le F') (hk:F.le F'):St G F' (A::As):=by
 obtain ⟨Hs,h1,h2⟩:=h.ex
 have hdj:∀{K:PH},K.le F->Dj K H:=fun {K} hK b=>by
  by_cases e:H b=none
  ·exact .inr e
  ·exact .inl (aV hK (hd b e))
 refine ⟨aa h.le hk,fun j=>match j with|0=>H|j+1=>Hs j,fun j B hj=> ?_,fun j k hj hk' hne=> ?_⟩
 ·cases j with
  |zero=>cases hj;exact ⟨hA,hdj h.le,hl⟩
  |succ j=>
   obtain ⟨b1,b2,b3⟩:=h1 j B (by simpa using hj)
   exact ⟨b1,b2,aa b3 hk⟩
 ·have hle:∀{m:Nat},m<As.length->(Hs m).le F:=fun {m} hm=>(h1 m _ (List.getElem?_eq_getElem hm)).2.2
  cases j with
  |zero=>
   cases k with
   |zero=>exact absurd rfl hne
   |succ k=>exact (hdj (hle (by simpa using hk'))).symm
  |succ j=>
   cases k with
   |zero=>exact hdj (hle (by simpa using hj))
   |succ k=>exact h2 j k (by simpa using hj) (by simpa using hk') (by omega)
theorem tail {A:PH->Prop} (h:St G F (A::As)):St G F As:=by
 obtain ⟨Hs,h1,h2⟩:=h.ex
 exact ⟨h.le,fun j=>Hs (j+1),fun j B hj=>h1 (j+1) B (by simpa using hj),fun j k hj hk hne=>h2 (j+1) (k+1) (by simpa using hj) (by simpa using hk) (by omega)⟩
theorem weaken (h:St G F As) {G':PH} (hl:G'.le G):St G' F As:=by
 obtain ⟨Hs,h1,h2⟩:=h.ex
 exact ⟨aa hl h.le,Hs,fun i A hi=>⟨(h1 i A hi).1,(h1 i A hi).2.1.sub hl (le_refl' _),(h1 i A hi).2.2⟩,h2⟩
theorem pin {A:PH->Prop} (h:St G F (A::As)):∃G',G.le G'/\(∃H,A H/\H.le G')/\St G' F As:=by
 obtain ⟨Hs,h1,h2⟩:=h.ex
 obtain ⟨a1,a2,a3⟩:=h1 0 A rfl
 have hle:(Hs 0).le (G.and (Hs 0)):=fun b o hb=>by
  rcases a2 b with e|e
  ·rw [PH.and_right e];exact hb
  ·rw [e] at hb;cases hb
 refine ⟨G.and (Hs 0),fun b o hb=>PH.and_left hb,⟨Hs 0,a1,hle⟩,fun b o hb=> ?_,fun j=>Hs (j+1),fun j B hj=> ?_,fun j k hj hk hne=>h2 (j+1) (k+1) (by simpa using hj) (by simpa using hk) (by omega)⟩
 ·cases e:G b with
  |some o'=>rw [PH.and_left e] at hb;rw [<- hb];exact h.le _ _ e
  |none=>rw [PH.and_right e] at hb;exact a3 _ _ hb
 ·obtain ⟨b1,b2,b3⟩:=h1 (j+1) B (by simpa using hj)
  refine ⟨b1,fun b=> ?_,b3⟩
  rcases b2 b with e|e
  ·have hl:j+1<(A::As).length:=by
    have:=(List.getElem?_eq_some_iff.1 hj).1
    simpa using this
   rcases h2 0 (j+1) (by simp) hl (by omega) b with e2|e2
   ·exact .inl ((PH.and_right e).trans e2)
   ·exact .inr e2
  ·exact .inr e
theorem pinb {b:Nat} {o:Obj} (h:St G F (pt b o::As)) {K:PH->Prop} (k:∀G',G.le G'->G' b=some o->St G' F As->K F):K F:=by
 obtain ⟨G',h1,⟨H,hA,hH⟩,h2⟩:=h.pin
 exact k G' h1 (hH _ _ hA) h2
theorem swap {A B:PH->Prop} (h:St G F (A::B::As)):St G F (B::A::As):=by
 obtain ⟨Hs,h1,h2⟩:=h.ex
 refine ⟨h.le,fun j=>match j with|0=>Hs 1|1=>Hs 0|j+2=>Hs (j+2),fun j C hj=> ?_,fun j k hj hk hne=> ?_⟩
 ·match j with
  |0=>exact h1 1 C hj
  |1=>exact h1 0 C hj
  |j+2=>exact h1 (j+2) C hj
 ·match j,k with
  |0,0=>exact absurd rfl hne
  |1,1=>exact absurd rfl hne
  |0,1=>exact h2 1 0 (by simp) (by simp) (by omega)
  |1,0=>exact h2 0 1 (by simp) (by simp) (by omega)
  |0,k+2=>exact h2 1 (k+2) (by simp) hk (by omega)
  |1,k+2=>exact h2 0 (k+2) (by simp) hk (by omega)
  |j+2,0=>exact h2 (j+2) 1 hj (by simp) (by omega)
  |j+2,1=>exact h2 (j+2) 0 hj (by simp) (by omega)
  |j+2,k+2=>exact h2 (j+2) (k+2) hj hk hne
theorem pick (h:St G F As) (f:Nat->Nat) {Bs:List (PH->Prop)} (hf:∀i j,i<Bs.length->j<Bs.length->f i=f j->i=j) (hb:∀i,i<Bs.length->As[f i]? =Bs[i]?):St G F Bs:=by
 obtain ⟨Hs,h1,h2⟩:=h.ex
 have hl:∀i,i<Bs.length->f i<As.length:=fun i hi=>by
  have:=hb i hi
  rw [List.getElem?_eq_getElem hi] at this
  exact (List.getElem?_eq_some_iff.1 this).1
 refine ⟨h.le,fun i=>Hs (f i),fun i B hi=> ?_,fun i j hi hj hne=>h2 _ _ (hl i hi) (hl j hj) fun e=>hne (hf i j hi hj e)⟩
 have hi':i<Bs.length:=(List.getElem?_eq_some_iff.1 hi).1
 exact h1 (f i) B ((hb i hi').trans hi)
theorem call {f:FuncId} {args:Array Value} {P:Value->PH->Prop} (h:St G F As) (s:ae prog f args G P):ae prog f args F fun r F'=>∃G',P r G'/\St G' F' As:=by
 refine (s.upon h.le).mono fun r F' ⟨G',hp,hl,hk⟩=>⟨G',hp,hl,?_⟩
 obtain ⟨Hs,h1,h2⟩:=h.ex
 refine ⟨Hs,fun i A hi=> ?_,h2⟩
 obtain ⟨a1,a2,a3⟩:=h1 i A hi
 have key:∀b o,Hs i b=some o->F' b=some o/\G' b=none:=fun b o hb=>by
  rcases a2 b with e|e
  ·exact hk b o e (a3 b o hb)
  ·rw [e] at hb;cases hb
 refine ⟨a1,fun b=> ?_,fun b o hb=>(key b o hb).1⟩
 cases e:Hs i b with
 |none=>exact .inr rfl
 |some o=>exact .inl (key b o e).2
theorem run {f:FuncId} {args:Array Value} {P:Value->PH->Prop} {Q:Value->PH->Prop} (h:St G F As) (s:ae prog f args G fun r G'=>P r G'/\G.le G') (k:∀r G' F',P r G'->G.le G'->St G' F' As->Q r F'):ae prog f args F Q:=
 (h.call s).mono fun r F' ⟨G',⟨h1,h2⟩,h3⟩=>k r G' F' h1 h2 h3
theorem runv {f:FuncId} {args:Array Value} {v:Value} {Q:Value->PH->Prop} (h:St G F As) (s:ae prog f args G fun r G'=>r=v/\G.le G') (k:∀G' F',G.le G'->St G' F' As->Q v F'):ae prog f args F Q:=
 (h.call s).mono fun r F' ⟨G',⟨h1,h2⟩,h3⟩=>by rw [h1];exact k G' F' h2 h3
def uni (G:PH) (Hs:Nat->PH):Nat->PH
 |0=>G
 |n+1=>(uni G Hs n).and (Hs n)
theorem qw {G:PH} {Hs:Nat->PH} {b:Nat}:∀{n:Nat},uni G Hs n b=none↔G b=none/\∀i,i<n->Hs i b=none
 |0=>⟨fun h=>⟨h,fun i hi=>by omega⟩,fun h=>h.1⟩
 |n+1=>by
  have ih:=qw (G:=G) (Hs:=Hs) (b:=b) (n:=n)
  constructor
  ·intro h
   have h0:uni G Hs n b=none:=by
    cases e:uni G Hs n b with
    |none=>rfl
    |some o=>rw [uni,PH.and_left e] at h;cases h
   rw [uni,PH.and_right h0] at h
   refine ⟨(ih.1 h0).1,fun i hi=> ?_⟩
   by_cases e:i=n
   ·rw [e];exact h
   ·exact (ih.1 h0).2 i (by omega)
  ·intro h
   have h0:=ih.2 ⟨h.1,fun i hi=>h.2 i (by omega)⟩
   rw [uni,PH.and_right h0]
   exact h.2 n (by omega)
theorem Fv {G K:PH} {Hs:Nat->PH} (hG:G.le K):∀{n:Nat},(∀i,i<n->(Hs i).le K)->(uni G Hs n).le K
 |0,_=>hG
 |n+1,h=>fun b o hb=>by
  have ih:=Fv hG (n:=n) fun i hi=>h i (by omega)
  cases e:uni G Hs n b with
  |none=>rw [uni,PH.and_right e] at hb;exact h n (by omega) b o hb
  |some o'=>rw [uni,PH.and_left e] at hb;rw [<- hb];exact ih b _ e
theorem Fw {G:PH} {Hs:Nat->PH}:∀{n:Nat},G.le (uni G Hs n)
 |0=>le_refl' _
 |n+1=>fun b o hb=>PH.and_left (Fw (n:=n) b o hb)
theorem w8 {G:PH} {Hs:Nat->PH}:∀{n:Nat} {i:Nat},i<n->(∀i,i<n->Dj G (Hs i))->(∀i j,i<n->j<n->i≠j->Dj (Hs i) (Hs j))->(Hs i).le (uni G Hs n)
 |0,i,h,_,_=>by omega
 |n+1,i,hi,hd,hp=>fun b o hb=>by
  by_cases e:i=n
  ·subst e
   have h0:uni G Hs i b=none:=by
    refine qw.2 ⟨?_,fun j hj=> ?_⟩
    ·rcases hd i (by omega) b with e|e
     ·exact e
     ·rw [e] at hb;cases hb
    ·rcases hp j i (by omega) (by omega) (by omega) b with e|e
     ·exact e
     ·rw [e] at hb;cases hb
   rw [uni,PH.and_right h0];exact hb
  ·exact PH.and_left (w8 (n:=n) (i:=i) (by omega) (fun j hj=>hd j (by omega)) (fun j k hj hk=>hp j k (by omega) (by omega)) b o hb)
theorem callL {f:FuncId} {args:Array Value} {Bs Cs:List (PH->Prop)} {Bs':Value->PH->List (PH->Prop)} {P:Value->PH->Prop} (h:St G F (Bs++Cs))
  (s:∀F1,St G F1 Bs->ae prog f args F1 fun r F'=>∃G',P r G'/\G.le G'/\St G' F' (Bs' r G')):
  ae prog f args F fun r F'=>∃G',P r G'/\G.le G'/\St G' F' (Bs' r G'++Cs):=by
 obtain ⟨Hs,h1,h2⟩:=h.ex
 have hlen:(Bs++Cs).length=Bs.length+Cs.length:=List.length_append
 have g1:∀i,i<Bs.length+Cs.length->Dj G (Hs i)/\(Hs i).le F:=fun i hi=>(h1 i _ (List.getElem?_eq_getElem (by omega))).2
 rw [hlen] at h2
 have hU:(uni G Hs Bs.length).le F:=Fv h.le fun i hi=>(g1 i (by omega)).2
 have hst:St G (uni G Hs Bs.length) Bs:=by
  refine ⟨Fw,Hs,fun i A hi=> ?_,fun i j hi hj=>h2 i j (by omega) (by omega)⟩
  have hi':i<Bs.length:=(List.getElem?_eq_some_iff.1 hi).1
  obtain ⟨a1,a2,_⟩:=h1 i A (by rw [List.getElem?_append_left hi'];exact hi)
  exact ⟨a1,a2,w8 hi' (fun j hj=>(g1 j (by omega)).1) (fun j k hj hk=>h2 j k (by omega) (by omega))⟩
 refine ((s _ hst).upon hU).mono ?_
 rintro r F' ⟨F1,⟨G',hp,hg,hst'⟩,hl,hk⟩
 refine ⟨G',hp,hg,aa hst'.le hl,?_⟩
 obtain ⟨Ks,k1,k2⟩:=hst'.ex
 have key:∀i,i<Cs.length->∀b o,Hs (Bs.length+i) b=some o->F' b=some o/\F1 b=none:=fun i hi b o hb=>by
  refine hk b o (qw.2 ⟨?_,fun j hj=> ?_⟩) ((g1 (Bs.length+i) (by omega)).2 b o hb)
  ·rcases (g1 (Bs.length+i) (by omega)).1 b with e|e
   ·exact e
   ·rw [e] at hb;cases hb
  ·rcases h2 j (Bs.length+i) (by omega) (by omega) (by omega) b with e|e
   ·exact e
   ·rw [e] at hb;cases hb
 have dj:∀i,i<Cs.length->∀{K:PH},K.le F1->Dj K (Hs (Bs.length+i)):=fun i hi {K} hK b=>by
  cases e:Hs (Bs.length+i) b with
  |none=>exact .inr rfl
  |some o=>exact .inl (aV hK (key i hi b o e).2)
 refine ⟨fun j=>if j<(Bs' r G').length then Ks j else Hs (Bs.length+(j - (Bs' r G').length)),fun j A hj=> ?_,fun j k hj hk' hne=> ?_⟩
 ·dsimp only
  by_cases e:j<(Bs' r G').length
  ·rw [if_pos e]
   rw [List.getElem?_append_left e] at hj
   obtain ⟨b1,b2,b3⟩:=k1 j A hj
   exact ⟨b1,b2,aa b3 hl⟩
  ·rw [if_neg e]
   rw [List.getElem?_append_right (by omega)] at hj
   have hjc:j - (Bs' r G').length<Cs.length:=(List.getElem?_eq_some_iff.1 hj).1
   refine ⟨(h1 (Bs.length+(j - (Bs' r G').length)) A ?_).1,dj _ hjc hst'.le,fun b o hb=>(key _ hjc b o hb).1⟩
   rw [List.getElem?_append_right (by omega),show Bs.length+(j - (Bs' r G').length) - Bs.length=j - (Bs' r G').length by omega]
   exact hj
 ·rw [List.length_append] at hj hk'
  have hle:∀m,m<(Bs' r G').length->(Ks m).le F1:=fun m hm=>(k1 m _ (List.getElem?_eq_getElem hm)).2.2
  dsimp only
  by_cases e:j<(Bs' r G').length
  ·rw [if_pos e]
   by_cases e2:k<(Bs' r G').length
   ·rw [if_pos e2];exact k2 j k e e2 hne
   ·rw [if_neg e2];exact dj _ (by omega) (hle j e)
  ·rw [if_neg e]
   by_cases e2:k<(Bs' r G').length
   ·rw [if_pos e2];exact (dj _ (by omega) (hle k e2)).symm
   ·rw [if_neg e2];exact h2 _ _ (by omega) (by omega) (by omega)
theorem new (h:St G F As) {o:Obj} {K:Nat->PH->Prop} (k:∀b F',St G F' (pt b o::As)->K b F'):∀b,F b=none->atF (F.set b o) (K b):=fun b hb=>by
 refine atI (k b _ (h.push (H:=PH.set (fun _=>none) b o) (an _ _ _) (fun x hx=> ?_) (fun x p hx=> ?_) (ac o hb)))
 ·by_cases e:x=b
  ·rw [e];exact hb
  ·rw [az _ _ e] at hx;exact absurd rfl hx
 ·by_cases e:x=b
  ·rw [e,an] at hx ⊢;exact hx
  ·rw [az _ _ e] at hx;cases hx
theorem newG (h:St G F As) {o:Obj} {K:Nat->PH->Prop} (k:∀b G' F',G.le G'->G' b=some o->G b=none->St G' F' As->K b F'):∀b,F b=none->atF (F.set b o) (K b):=fun b hb=>by
 refine h.new (K:=K) (fun b' F' h'=> ?_) b hb
 have hgb:G b'=none:=by
  obtain ⟨H,a1,a2,_⟩:=h'.get (i:=0) rfl
  rcases a2 b' with e|e
  ·exact e
  ·rw [a1] at e;cases e
 exact h'.pinb fun G' h1 h2 h3=>k b' G' F' h1 h2 hgb h3
theorem ptAt (h:St G F As) {i b:Nat} {o:Obj} (hi:As[i]? =some (pt b o)):F b=some o:=by
 obtain ⟨H,a1,_,a3⟩:=h.get hi
 exact a3 _ _ a1
theorem putAt (h:St G F As) (i:Nat) {b:Nat} {o:Obj} (o':Obj) (hi:As[i]? =some (pt b o)):St G (F.set b o') (As.set i (pt b o')):=by
 obtain ⟨H,a1,a2,a3,a4⟩:=h.set (A':=pt b o') hi
 refine a4 (H.set b o') _ (an _ _ _) (fun x hx=> ?_) (fun x p hx=> ?_) (fun x p hx hn=> ?_)
 ·by_cases e:x=b
  ·rw [e,a1];exact .inl (by simp)
  ·rw [az _ _ e] at hx;exact .inl hx
 ·by_cases e:x=b
  ·rw [e,an] at hx ⊢;exact hx
  ·rw [az _ _ e] at hx ⊢;exact a3 _ _ hx
 ·have e:x≠b:=fun e=>by rw [e,a1] at hn;cases hn
  rw [az _ _ e];exact hx
theorem ownAt (h:St G F As) {i:Nat} {s:Sl} {e n:Nat} {vs:List Value} (hi:As[i]? =some (own s e n vs)):bA F e n s vs/\∀a,s.base=some a->G a.block=none:=by
 obtain ⟨H,a1,a2,a3⟩:=h.get hi
 refine ⟨bA.upto a1 a3,fun a ha=> ?_⟩
 obtain ⟨cur,hc⟩:=bA.elem a1 ha
 rcases a2 a.block with e|e
 ·exact e
 ·rw [hc] at e;cases e
theorem nilOwn (h:St G F As) (e n:Nat):St G F (own Sl.nil e n []::As):=h.push (H:=fun _=>none) (.inl ⟨rfl,rfl⟩) (fun b hb=>absurd rfl hb) (fun b o hb=>(by cases hb)) (le_refl' F)
end
end St
theorem aB {k n:Nat} (h:k<n) (hn:n<=9223372036854775807):IntKind.i64.wrap ((k:Int)+1)=((k+1:Nat):Int):=by
 rw [aN (by omega) (by omega)];omega
theorem bj {F:PH} (L:(Int->PH->Prop)->Int->PH->Prop) (n:Nat) (Inv:Nat->PH->Prop) (h0:Inv 0 F)
  (step:∀(k:Nat) (F:PH) (N:Int->PH->Prop),k<=n->Inv k F->(∀F',k<n->Inv (k+1) F'->N ((k+1:Nat):Int) F')->L N (k:Int) F):
  ∃(I:Nat->Int->PH->Prop) (m:Nat),I m (0:Int) F/\∀m v F,I m v F->L (fun y F=>∃m',m'<m/\I m' y F) v F:=by
 refine ⟨fun m i F'=>∃k:Nat,i=k/\k<=n/\m=n - k/\Inv k F',n,⟨0,rfl,by omega,rfl,h0⟩,?_⟩
 rintro m i F' ⟨k,rfl,hk,rfl,hi⟩
 exact step k F' _ hk hi fun F'' hlt hi'=>⟨n - (k+1),by omega,k+1,rfl,by omega,rfl,hi'⟩
end Go.Proofs.YtenpmjhnhepfdaaGreatDoor
