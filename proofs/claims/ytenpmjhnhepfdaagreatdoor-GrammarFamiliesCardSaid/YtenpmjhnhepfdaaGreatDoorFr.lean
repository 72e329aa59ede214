/-
  The reference: branch, Valid, Check, limited.
-/
import Derived.Test.YtenpmjhnhepfdaaGreatDoorFa
import Derived.Test.YtenpmjhnhepfdaaGreatDoorEy
import Derived.Test.YtenpmjhnhepfdaaGreatDoorEs
namespace Go.Proofs.YtenpmjhnhepfdaaGreatDoor
open Go Go.Proofs.Tryz Tr
set_option maxRecDepth 10000
theorem oP {n v:Nat} {t:Tr} (h:bi n t):bi n (lo v t):=by
 cases t with
 |leaf b=>trivial
 |node w l r=>
  simp only [lo]
  split
  ·exact h.2.1
  ·exact h
theorem oQ {n v:Nat} {t:Tr} (h:bi n t):bi n (hi v t):=by
 cases t with
 |leaf b=>trivial
 |node w l r=>
  simp only [hi]
  split
  ·exact h.2.2
  ·exact h
theorem oR {n v:Nat} {l h:Tr} (hv:v<n) (h1:bi n l) (h2:bi n h):bi n (mk v l h):=by
 unfold mk
 split
 ·exact h1
 ·exact ⟨hv,h1,h2⟩
theorem kV {n:Nat} {t:Tr} (h:bi n t) (hl:t.isL=false):t.top<n:=by
 cases t with
 |leaf b=>cases hl
 |node v l r=>exact h.1
theorem Cb (o:Op3) {n:Nat}:∀(k:Nat) (a b d:Tr),a.sz+b.sz+d.sz≤k→a.ok→b.ok→d.ok→bi n a→bi n b→bi n d→bi n (ap o a b d):=by
 intro k
 induction k with
 |zero=>intro a b d hk;have:=oB a;omega
 |succ k ih=>
  intro a b d hk ha hb hd na nb nd
  by_cases hv:aY a b d<64
  ·have hst:=w7 (o:=o) ha hb hd hv
   have v1:aY a b d≤a.top:=by unfold aY;omega
   have v2:aY a b d≤b.top:=by unfold aY;omega
   have v3:aY a b d≤d.top:=by unfold aY;omega
   have hcase:aY a b d=a.top∨aY a b d=b.top∨aY a b d=d.top:=by unfold aY;omega
   generalize aY a b d=v at*
   have nl:∀{t:Tr},v=t.top→t.isL=false:=fun {t} e=>by
    cases t with
    |leaf b=>simp only [top] at e;omega
    |node _ _ _=>rfl
   obtain ⟨al1,al2,al3,al4,al5⟩:=cC ha v1
   obtain ⟨bl1,bl2,bl3,bl4,bl5⟩:=cC hb v2
   obtain ⟨dl1,dl2,dl3,dl4,dl5⟩:=cC hd v3
   obtain ⟨ah1,ah2,ah3,ah4,ah5⟩:=cD ha v1
   obtain ⟨bh1,bh2,bh3,bh4,bh5⟩:=cD hb v2
   obtain ⟨dh1,dh2,dh3,dh4,dh5⟩:=cD hd v3
   have hvn:v<n:=by
    rcases hcase with e|e|e
    ·have:=kV na (nl e);omega
    ·have:=kV nb (nl e);omega
    ·have:=kV nd (nl e);omega
   have hsl:(lo v a).sz+(lo v b).sz+(lo v d).sz≤k:=by
    rcases hcase with e|e|e
    ·have:=al4 e.symm (nl e);omega
    ·have:=bl4 e.symm (nl e);omega
    ·have:=dl4 e.symm (nl e);omega
   have hsh:(hi v a).sz+(hi v b).sz+(hi v d).sz≤k:=by
    rcases hcase with e|e|e
    ·have:=ah4 e.symm (nl e);omega
    ·have:=bh4 e.symm (nl e);omega
    ·have:=dh4 e.symm (nl e);omega
   rw [hst]
   exact oR hvn (ih _ _ _ hsl al1 bl1 dl1 (oP na) (oP nb) (oP nd)) (ih _ _ _ hsh ah1 bh1 dh1 (oQ na) (oQ nb) (oQ nd))
  ·unfold aY at hv
   obtain ⟨p,rfl⟩:=g0 ha (by omega)
   obtain ⟨q,rfl⟩:=g0 hb (by omega)
   obtain ⟨r,rfl⟩:=g0 hd (by omega)
   rw [w8]
   trivial
theorem ib {n w:Nat} {b:Bool}:∀(t:Tr),t.ok→bi n t→bi n (fx w b t)
 |leaf x,_,_=>by rw [eJ];trivial
 |node v l h,hk,⟨b0,b1,b2⟩=>by
  have hf:=mC (w:=w) (b:=b) hk
  obtain ⟨h0,h1,h2,h3,h4,h5⟩:=hk
  rw [hf]
  split
  ·split
   ·exact ib h h5 b2
   ·exact ib l h4 b1
  ·exact oR b0 (ib l h4 b1) (ib h h5 b2)
theorem vO {n:Nat} (hn:n≤64):∀(t:Tr),t.ok→bi n t→cnt t+1≤2 ^ (n - min n t.top)
 |leaf b,_,_=>by
  have:n - min n (leaf b).top=0:=by simp only [top];omega
  rw [this]
  simp [cnt]
 |node v l h,⟨h0,h1,h2,h3,h4,h5⟩,⟨b0,b1,b2⟩=>by
  have il:=vO hn l h4 b1
  have ih:=vO hn h h5 b2
  have k1:2 ^ (n - min n l.top)≤2 ^ (n - (v+1)):=Nat.pow_le_pow_right (by decide) (by omega)
  have k2:2 ^ (n - min n h.top)≤2 ^ (n - (v+1)):=Nat.pow_le_pow_right (by decide) (by omega)
  have e:n - min n (node v l h).top=n - (v+1)+1:=by simp only [top];omega
  rw [e,Nat.pow_succ]
  simp only [cnt]
  omega
def Sx (n:Nat) (t:Tr):Prop:=t.ok∧bi n t
theorem Sx.cnt63 {n:Nat} {t:Tr} (h:Sx n t) (hn:n≤6):cnt t≤63:=by
 have h1:=vO (by omega:n≤64) t h.1 h.2
 have h2:2 ^ (n - min n t.top)≤2 ^ 6:=Nat.pow_le_pow_right (by decide) (by omega)
 omega
theorem Sx.small {n:Nat} {t:Tr} (h:Sx n t) (hn:n≤6):xR t:=Ck h.1 (by have:=h.cnt63 hn;omega)
theorem Sx.len {n:Nat} {t:Tr} (h:Sx n t) (hn:n≤6):(aA t).length≤63:=Nat.le_trans (lJ t) (h.cnt63 hn)
theorem Sx.ap {n:Nat} {o:Op3} {a b d:Tr} (ha:Sx n a) (hb:Sx n b) (hd:Sx n d):Sx n (Tr.ap o a b d):=⟨Kj ha.1 hb.1 hd.1,Cb o _ a b d (Nat.le_refl _) ha.1 hb.1 hd.1 ha.2 hb.2 hd.2⟩
theorem Sx.leaf (n:Nat) (b:Bool):Sx n (Tr.leaf b):=⟨trivial,trivial⟩
theorem Sx.ap2 {n:Nat} {o:Op2} {a b:Tr} (ha:Sx n a) (hb:Sx n b):Sx n (ap2 o a b):=Sx.ap ha hb (Sx.leaf n _)
theorem Sx.fx {n w:Nat} {b:Bool} {t:Tr} (h:Sx n t):Sx n (fx w b t):=⟨(bX w b h.1).1,ib t h.1 h.2⟩
theorem Sx.tv {n v:Nat} (hv:v<n) (hn:n≤6):Sx n (tv v):=⟨LV (by omega),hv,trivial,trivial⟩
theorem Sx.mono {n m:Nat} {t:Tr} (h:Sx n t) (hm:n≤m):Sx m t:=by
 refine ⟨h.1,?_⟩
 have:∀t:Tr,bi n t→bi m t:=by
  intro t
  induction t with
  |leaf b=>exact fun _=>trivial
  |node v l r il ir=>exact fun ⟨a,b,c⟩=>⟨by omega,il b,ir c⟩
 exact this t h.2
theorem Sx.f2 {n:Nat} {o:Op2} {a b:Tr} (ha:Sx n a) (hb:Sx n b) (hn:n≤6):F2 o a b:=by
 have la:=ha.len hn
 have lb:=hb.len hn
 have lt:=(ha.ap2 (o:=o) hb).len hn
 have hp:((aA a).length+2)*((aA b).length+2)≤65*65:=Nat.mul_le_mul (by omega) (by omega)
 exact ⟨ha.1,hb.1,by omega,by omega,by omega,by omega⟩
theorem FC {v:Nat} (h:v<64):IntKind.u64.wrap (v:Int)=(v:Int):=cV (by omega) (by omega)
theorem Cc {S:Tr→Prop} {f:FuncId} {args:Array Value} {F:PH} {x:Nat} {o:Obj} (h:ae prog f args (bF F x) fun r F'=>∃w t,r=.agg w∧S t∧DV F' w (dia t)∧(bF F x).le F') (hx:F x=some o):
  ae prog f args F fun r F'=>∃w t,r=.agg w∧S t∧(∃G,DV G w (dia t)∧G.le F'∧G x=none)∧F.le F'∧F' x=some o:=
 (ae.avoid h hx).mono fun r F' ⟨G,⟨w,t,hr,ht,hw,lg⟩,lG,q,g⟩=>⟨w,t,hr,ht,⟨G,hw,lG,g⟩,ii lg lG q hx,q⟩
def oS (l:List Int) (k:Nat):Bool:=
 if h:k / 8<l.length then decide (IntKind.u8.wrap ((BitVec.ofInt (IntKind.u8).bits (Int.fdiv l[k / 8] (2 ^ (min (Int.toNat (((k % 8:Nat):Int))) (IntKind.u8).bits))) &&& BitVec.ofInt (IntKind.u8).bits (1:Int)).toNat)=(1:Int)) else false
noncomputable def dT (l:List Int):Nat→Nat→Nat→Tr
 |0,_,k=>Tr.leaf (oS l k)
 |m+1,v,k=>ap2 oOr (ap2 ik (tv v) (dT l m (v+1) (k+2 ^ v))) (ap2 ik (dT l m (v+1) k) (ap2 im (tv v) (Tr.leaf true)))
theorem vP {n:Nat} (hn:n≤6):∀(m v k:Nat),v+m=n→k<2 ^ v→∀(F:PH) (sl:Sl) (l:List Int),RdS F sl 1 (l.map (Value.int .u8))→
  ae prog 106 #[sl.v,vi n,vi v,vi k] F fun r F'=>∃u t,r=.agg u∧(Sx n t∧t=dT l m v k)∧DV F' u (dia t)∧F.le F':=by
 intro m
 induction m with
 |zero=>
  intro v k hvm hk F sl l hr
  obtain rfl:v=n:=by omega
  have hk64:k<64:=Nat.lt_of_lt_of_le hk (Nat.pow_le_pow_right (by decide) hn)
  refine FD ?_
  unfold Ch
  intro b8 hb8
  refine atI ?_
  have l8:=ac (.cells #[Value.slice none 0 0,Value.int .i64 0] 33) hb8
  have q8:=an F b8 (.cells #[Value.slice none 0 0,Value.int .i64 0] 33)
  have hr8:=hr.le l8
  generalize F.set b8 (.cells #[Value.slice none 0 0,Value.int .i64 0] 33)=F8 at*
  have hd:IntKind.i64.wrap (Int.tdiv (k:Int) 8)=((k / 8:Nat):Int):=by
   rw [Int.tdiv_eq_ediv_of_nonneg (by omega),aJ (by omega) (by omega)]
   rfl
  have hm:IntKind.u64.wrap (Int.tmod (k:Int) 8)=((k % 8:Nat):Int):=by
   rw [Int.tmod_eq_emod_of_nonneg (by omega),cV (by omega) (by omega)]
   rfl
  have hlen:=hr8.len
  simp at hlen
  refine ⟨fun _=>⟨fun hlt=> ?_,fun _=> ?_⟩,fun h=>absurd rfl h⟩
  ·rw [hd] at hlt ⊢
   have hkl:k / 8<l.length:=by omega
   obtain ⟨b,o,hb,hc⟩:=hr8.cells (by omega)
   have hcell:=hc (k / 8) (by simpa using hkl)
   refine ⟨_,hb,by omega,hlt,l[k / 8],by rw [aL,Int.toNat_natCast,Nat.mul_one];simpa using hcell,by rw [hm];omega,?_⟩
   refine (fb (dL (F:=bF F8 b8) _) q8).mono ?_
   rintro _ F9 ⟨u,rfl,⟨G,hu,lG,gG⟩,l9,q9⟩
   refine ⟨_,rfl,?_⟩
   exact fS (K:=fun vres F'=>∃u t,Value.agg vres=.agg u∧(Sx v t∧t=dT l 0 v k)∧DV F' u (dia t)∧F.le F') hu q9 rfl ⟨_,_,rfl,⟨Sx.leaf v _,by rw [dT,oS,dif_pos hkl,hm]⟩,hu.le (au lG gG),au (l8.trans l9) hb8⟩
  ·rename_i hge
   rw [hd] at hge
   refine (fb (dL (F:=bF F8 b8) false) q8).mono ?_
   rintro _ F9 ⟨u,rfl,⟨G,hu,lG,gG⟩,l9,q9⟩
   refine ⟨_,rfl,?_⟩
   exact fS (K:=fun vres F'=>∃u t,Value.agg vres=.agg u∧(Sx v t∧t=dT l 0 v k)∧DV F' u (dia t)∧F.le F') hu q9 rfl ⟨_,_,rfl,⟨Sx.leaf v _,by rw [dT,oS,dif_neg (by omega)]⟩,hu.le (au lG gG),au (l8.trans l9) hb8⟩
 |succ m ih=>
  intro v k hvm hk F sl l hr
  have hvn:v<n:=by omega
  have hk64:k<64:=Nat.lt_of_lt_of_le hk (Nat.le_trans (Nat.pow_le_pow_right (by decide:2>0) (by omega:v≤6)) (by decide))
  have hp64:2 ^ v≤32:=Nat.le_trans (Nat.pow_le_pow_right (by decide:2>0) (by omega:v≤5)) (by decide)
  refine FD ?_
  unfold Ch
  intro b8 hb8
  refine atI ?_
  have l8:=ac (.cells #[Value.slice none 0 0,Value.int .i64 0] 33) hb8
  have q8:=an F b8 (.cells #[Value.slice none 0 0,Value.int .i64 0] 33)
  generalize F.set b8 (.cells #[Value.slice none 0 0,Value.int .i64 0] 33)=F8 at*
  refine ⟨fun h=>by omega,fun _=> ?_⟩
  have hvar:=qS (F:=bF F8 b8) (v:Int)
  rw [Ef (by omega)] at hvar
  refine (CA hvar q8).mono ?_
  rintro _ F9 ⟨x,rfl,⟨G,hx,lG,gG⟩,l9,q9⟩
  refine ⟨_,_,rfl,?_⟩
  intro b9 hb9
  refine atI ?_
  refine stW (an _ _ _) hx.size rfl hx.st ?_
  rw [aP]
  have n89:b8≠b9:=aE hb9 q9
  have lx:=ac (.cells x 33) hb9
  have r9:=an F9 b9 (.cells x 33)
  have q10:=lx _ _ q9
  have hx10:=hx.beside (lG.trans lx) gG
  have l10:=l8.trans (l9.trans lx)
  generalize F9.set b9 (.cells x 33)=F10 at*
  have wv:IntKind.i64.wrap ((v:Int)+1)=((v+1:Nat):Int):=eW (by omega)
  have w2:IntKind.i64.wrap ((1:Int)*2 ^ (min (Int.toNat (IntKind.u64.wrap (v:Int))) (IntKind.i64).bits))=((2 ^ v:Nat):Int):=by
   rw [FC (by omega)]
   have hm:min (Int.toNat (v:Int)) (IntKind.i64).bits=v:=by simp only [IntKind.bits,Int.toNat_natCast];omega
   have e1:(1:Int)*2 ^ v=((2 ^ v:Nat):Int):=by simp
   rw [hm,e1,aJ (by omega) (by omega)]
  have wk:IntKind.i64.wrap ((k:Int)+((2 ^ v:Nat):Int))=((k+2 ^ v:Nat):Int):=by rw [aJ (by omega) (by omega)];omega
  rw [w2,wk,wv]
  refine ⟨x,hx.size,aj r9,by rw [FC (by omega)];omega,x,hx.size,aj r9,?_⟩
  have hpow:2 ^ (v+1)=2 ^ v+2 ^ v:=by rw [Nat.pow_succ];omega
  refine (Cc (ih (v+1) (k+2 ^ v) (by omega) (by omega) (bF F10 b8) sl l (hr.le (dY l10 hb8))) q10).mono ?_
  rintro _ F11 ⟨u1,t1,rfl,⟨k1,e1⟩,⟨G1,h1,lG1,gG1⟩,l11,q11⟩
  refine ⟨_,rfl,aj (l11 _ _ r9),aj (l11 _ _ r9),?_⟩
  refine (fb (oT (hx10.le (eM l11)) (h1.beside lG1 gG1) ((Sx.tv hvn hn).f2 k1 hn)) q11).mono ?_
  rintro _ F12 ⟨u2,rfl,⟨G2,h2,lG2,gG2⟩,l12,q12⟩
  have k2:=(Sx.tv hvn hn).ap2 (o:=ik) k1
  refine ⟨_,rfl,aj (l12 _ _ (l11 _ _ r9)),?_⟩
  refine (Cc (ih (v+1) k (by omega) (by omega) (bF F12 b8) sl l (hr.le (dY (l10.trans (l11.trans l12)) hb8))) q12).mono ?_
  rintro _ F13 ⟨u3,t3,rfl,⟨k3,e3⟩,⟨G3,h3,lG3,gG3⟩,l13,q13⟩
  refine ⟨_,rfl,aj (l13 _ _ (l12 _ _ (l11 _ _ r9))),?_⟩
  have kx:=(Sx.tv hvn hn).ap2 (o:=im) (Sx.leaf n true)
  refine (fb (vT (h3.beside lG3 gG3) (hx10.le (eM (l11.trans (l12.trans l13)))) ((Sx.tv hvn hn).f2 (Sx.leaf n true) hn) (k3.f2 kx hn)) q13).mono ?_
  rintro _ F14 ⟨u4,rfl,⟨G4,h4,lG4,gG4⟩,l14,q14⟩
  have k4:=k3.ap2 (o:=ik) kx
  refine ⟨_,rfl,?_⟩
  refine (fb (vS ((h2.beside lG2 gG2).le (eM (l13.trans l14))) (h4.beside lG4 gG4) (k2.f2 k4 hn)) q14).mono ?_
  rintro _ F15 ⟨u5,rfl,⟨G5,h5,lG5,gG5⟩,l15,q15⟩
  refine ⟨_,rfl,?_⟩
  exact fS (K:=fun vres F'=>∃u t,Value.agg vres=.agg u∧(Sx n t∧t=dT l (m+1) v k)∧DV F' u (dia t)∧F.le F') h5 q15 rfl ⟨_,_,rfl,⟨k2.ap2 k4,by rw [dT,← e1,← e3]⟩,h5.le (au lG5 gG5),au (l10.trans (l11.trans (l12.trans (l13.trans (l14.trans l15))))) hb8⟩
theorem ic {n:Nat} (hn:n≤6) {F:PH} {sl:Sl} {l:List Int} (hr:RdS F sl 1 (l.map (Value.int .u8))):ae prog 35 #[sl.v,vi n] F fun r F'=>∃u t,r=.agg u∧(Sx n t∧t=dT l n 0 0)∧DV F' u (dia t)∧F.le F':=by
 refine Ot ?_
 unfold Lc
 intro b4 hb4
 refine atI ?_
 have l4:=ac (.cells #[Value.slice none 0 0,Value.int .i64 0] 33) hb4
 have q4:=an F b4 (.cells #[Value.slice none 0 0,Value.int .i64 0] 33)
 generalize F.set b4 (.cells #[Value.slice none 0 0,Value.int .i64 0] 33)=F4 at*
 have e:max (0:Int) (min (n:Int) 6)=(n:Int):=by omega
 rw [e]
 refine (Cc (vP hn n 0 0 (by omega) (by simp) (bF F4 b4) sl l (hr.le (dY l4 hb4))) q4).mono ?_
 rintro _ F5 ⟨u,t,rfl,kt,⟨G,hu,lG,gG⟩,l5,q5⟩
 refine ⟨_,rfl,?_⟩
 exact fS (K:=fun vres F'=>∃u t,Value.agg vres=.agg u∧(Sx n t∧t=dT l n 0 0)∧DV F' u (dia t)∧F.le F') hu q5 rfl ⟨_,_,rfl,kt,hu.le (au lG gG),au (l4.trans l5) hb4⟩
section
variable {F:PH} {v:Array Value} {d:Dia}
open Classical in
theorem vQ (hd:DV F v d) (hf:Fit (d.1.length+4)) {S:List Tr} (hS:Cl S) {k:Nat} (hk:S.length=k) (hkd:k<d.1.length) (hb:brs S=d.1.take k):
  ae prog 241 #[.agg v,vi k] F fun r F'=>r=.bool (decide (uz S d.1[k]))∧F.le F':=by
 have hd':=hd
 obtain ⟨s,rfl,hr⟩:=hd
 have hlen:=hr.blen
 have hpre:brs S<+:d.1:=by rw [hb];exact List.take_prefix _ _
 generalize hB:d.1[k]=B
 have hget:d.1[k]? =some B:=by rw [List.getElem?_eq_getElem hkd,hB]
 refine LF ?_
 unfold FT
 intro b2 hb2
 refine atI ?_
 have l2:=ac (.cells #[s.v,vi d.2] 33) hb2
 have q2:=an F b2 (.cells #[s.v,vi d.2] 33)
 generalize F.set b2 (.cells #[s.v,vi d.2] 33)=F2 at*
 obtain ⟨p,hp,hrow,_⟩:=rdb (hr.le l2) hget
 refine ⟨s,by rw [am q2];rfl,p,hp,by omega,by omega,aO B,rfl,by simpa using hrow,?_⟩
 intro b5 hb5
 refine atI ?_
 refine stW (an _ _ _) rfl rfl (eE _) ?_
 rw [aP]
 have lx:=ac (.cells (aO B) 103) hb5
 have q5:=an F2 b5 (.cells (aO B) 103)
 replace q2:=lx _ _ q2
 have l5:=l2.trans lx
 generalize F2.set b5 (.cells (aO B) 103)=F5 at*
 have c0:∀{G:PH},F5.le G→G.cell (Addr.mk b5 0 none)=some (vi B.v):=fun h=>by rw [am (h _ _ q5)];rfl
 have c1:∀{G:PH},F5.le G→G.cell (Addr.mk b5 1 none)=some (vi B.l):=fun h=>by rw [am (h _ _ q5)];rfl
 have c2:∀{G:PH},F5.le G→G.cell (Addr.mk b5 2 none)=some (vi B.h):=fun h=>by rw [am (h _ _ q5)];rfl
 have r0:=PH.le_rfl (F:=F5)
 have hw:IntKind.i64.wrap ((k:Int)+2)=(k:Int)+2:=by rw [aJ (by omega) (by omega)]
 have bad:∀{G:PH},F.le G→¬uz S B→(Value.bool false=.bool (decide (uz S B))∧F.le G):=fun {G} hg hn=>⟨by rw [decide_eq_false hn],hg⟩
 rw [hw]
 refine ⟨_,c0 r0,fun h=>bad l5 fun hF=>(by have:=bO hS hF;omega),fun h1=> ?_⟩
 refine ⟨_,c0 r0,fun h=>bad l5 fun hF=>(by have:=bO hS hF;omega),fun h2=> ?_⟩
 refine ⟨_,c1 r0,fun h=>bad l5 fun hF=>(by have:=bO hS hF;omega),fun h3=> ?_⟩
 refine ⟨_,c2 r0,fun h=>bad l5 fun hF=>(by have:=bO hS hF;omega),fun h4=> ?_⟩
 refine ⟨_,c1 r0,fun h=>bad l5 fun hF=>(by have:=bO hS hF;omega),fun h5=> ?_⟩
 refine ⟨_,c2 r0,fun h=>bad l5 fun hF=>(by have:=bO hS hF;omega),fun h6=> ?_⟩
 refine ⟨_,c1 r0,_,c2 r0,fun h=>bad l5 fun hF=>(by have:=bO hS hF;omega),fun h7=> ?_⟩
 have il:inn S (tr S B.l.toNat):=ft (by omega)
 have ih:inn S (tr S B.h.toNat):=ft (by omega)
 have nl:((num S (tr S B.l.toNat):Nat):Int)=B.l:=by rw [eU hS (by omega)];omega
 have nh:((num S (tr S B.h.toNat):Nat):Int)=B.h:=by rw [eU hS (by omega)];omega
 refine ⟨_,rfl,aj q2,_,c1 r0,_,c0 r0,?_⟩
 have s1:=d6 (hd'.le l5) hpre il (by omega)
 rw [nl] at s1
 refine s1.mono ?_
 rintro _ F6 ⟨rfl,l6⟩
 refine ⟨_,rfl,c0 l6,fun h=>bad (l5.trans l6) fun hF=>(by have:=bO hS hF;omega),fun h9=> ?_⟩
 refine ⟨_,rfl,aj (l6 _ _ q2),_,c2 l6,_,c0 l6,?_⟩
 have s2:=d6 (hd'.le (l5.trans l6)) hpre ih (by omega)
 rw [nh] at s2
 refine s2.mono ?_
 rintro _ F7 ⟨rfl,l7⟩
 have l57:=l6.trans l7
 refine ⟨_,rfl,c0 l57,c0 l57,fun h=>bad (l5.trans l57) fun hF=>(by have:=bO hS hF;omega),fun h10=> ?_⟩
 have hmem:∀i,i<k→∀x,d.1[i]? =some x→x∈brs S:=fun i hi x hx=>by
  rw [hb]
  exact List.mem_of_getElem? (by rw [List.getElem?_take_of_lt hi];exact hx)
 refine ⟨fun m i F'=>∃j:Nat,i=j∧j≤k∧m=k - j∧F7.le F'∧∀x∈d.1.take j,x≠B,k,⟨0,rfl,by omega,rfl,PH.le_rfl,by simp⟩,?_⟩
 rintro m i F8 ⟨j,rfl,hj,rfl,l8,hne⟩
 have l58:=l57.trans l8
 unfold xP
 refine ⟨fun hlt=> ?_,fun hge=> ?_⟩
 ·have hjd:j<d.1.length:=by omega
  have hjg:=List.getElem?_eq_getElem hjd
  obtain ⟨p,hp,hrow,_⟩:=rdb (hr.le (l5.trans l58)) hjg
  refine ⟨s,by rw [am (l58 _ _ q2)];rfl,p,hp,by omega,by omega,aO d.1[j],rfl,by simpa using hrow,aO B,rfl,aj (l58 _ _ q5),_,fun F=>BZ _ _ F,fun he=> ?_,fun hn=> ?_⟩
  ·refine bad (l5.trans l58) fun hF=>(bO hS hF).2.2.2.2.2.2.2.1 ?_
   rw [← of_decide_eq_true he]
   exact hmem j (by omega) _ hjg
  ·refine ⟨k - (j+1),by omega,j+1,eW (by omega),by omega,rfl,l8,fun x hx=> ?_⟩
   rw [List.take_succ_eq_append_getElem hjd] at hx
   rcases List.mem_append.1 hx with hx|hx
   ·exact hne x hx
   ·rw [List.mem_singleton.1 hx]
    exact of_decide_eq_false hn
 ·obtain rfl:j=k:=by omega
  unfold xO
  refine ⟨?_,l5.trans l58⟩
  rw [decide_eq_true (xX hS (by omega) (by omega) (by omega) (by omega) (by omega) (by omega) h7 (fun hm=>hne B (by rw [← hb];exact hm) rfl) (by omega) (by omega))]
open Classical in
theorem zE (hd:DV F v d) (hf:Fit (d.1.length+4)):ae prog 235 #[.agg v] F fun r F'=>r=.bool (decide (gC d))∧F.le F':=by
 have hd':=hd
 obtain ⟨s,rfl,hr⟩:=hd
 have hlen:=hr.blen
 refine LD ?_
 unfold FS
 intro b1 hb1
 refine atI ?_
 have l1:=ac (.cells #[s.v,vi d.2] 33) hb1
 have q1:=an F b1 (.cells #[s.v,vi d.2] 33)
 generalize F.set b1 (.cells #[s.v,vi d.2] 33)=F1 at*
 have bad:∀{G:PH},F.le G→¬gC d→(Value.bool false=.bool (decide (gC d))∧F.le G):=fun {G} hg hn=>⟨by rw [decide_eq_false hn],hg⟩
 have hrange:gC d→0≤d.2∧d.2≤(d.1.length:Int)+1:=by
  rintro ⟨t,ht,rfl⟩
  have h1:=bY (bG ht)
  have h2:(dia t).1.length=(aA t).length:=aK _
  have h3:(dia t).2=((num (aA t) t:Nat):Int):=rfl
  omega
 have hw:IntKind.i64.wrap ((s.len:Int)+2)=(s.len:Int)+2:=by rw [aJ (by omega) (by omega)]
 have c1:∀{G:PH},F1.le G→G.cell (Addr.mk b1 1 none)=some (vi d.2):=fun h=>by rw [am (h _ _ q1)];rfl
 have c0:∀{G:PH},F1.le G→G.cell (Addr.mk b1 0 none)=some s.v:=fun h=>by rw [am (h _ _ q1)];rfl
 have r0:=PH.le_rfl (F:=F1)
 refine ⟨_,c1 r0,fun h=>bad l1 fun hv=>(by have:=hrange hv;omega),fun h1=> ?_⟩
 refine ⟨_,c1 r0,s,c0 r0,?_⟩
 dsimp only
 rw [hw]
 refine ⟨fun h=>bad l1 fun hv=>(by have:=hrange hv;omega),fun h2=> ?_⟩
 refine ⟨fun m i F'=>∃(k:Nat) (S:List Tr),i=k∧k≤d.1.length∧m=d.1.length - k∧F1.le F'∧Cl S∧S.length=k∧brs S=d.1.take k,d.1.length,⟨0,[],rfl,by omega,rfl,r0,.nil,rfl,by simp [brs]⟩,?_⟩
 rintro m i F2 ⟨k,S,rfl,hk,rfl,l2,hS,hSk,hSb⟩
 unfold xN
 refine ⟨s,c0 l2,fun hlt=> ?_,fun hge=> ?_⟩
 ·have hkd:k<d.1.length:=by omega
  refine ⟨_,rfl,aj (l2 _ _ q1),?_⟩
  refine (vQ (hd'.le (l1.trans l2)) hf hS hSk hkd hSb).mono ?_
  rintro _ F3 ⟨rfl,l3⟩
  by_cases hF:uz S d.1[k]
  ·rw [decide_eq_true hF]
   refine ⟨_,rfl,fun h=>(by cases h),fun _=> ?_⟩
   obtain ⟨v,l,h,e,hl,hh,hok,hn⟩:=hF
   refine ⟨d.1.length - (k+1),by omega,k+1,S++[node v l h],eW (by omega),by omega,rfl,l2.trans l3,.snoc hS hl hh hok hn,by simp [hSk],?_⟩
   rw [dI hS hl hh,List.take_succ_eq_append_getElem hkd,hSb,e]
  ·rw [decide_eq_false hF]
   exact ⟨_,rfl,fun _=>bad (l1.trans (l2.trans l3)) fun hv=>hF (i9 hv hS hSk hkd hSb),fun h=>by cases h⟩
 ·obtain rfl:k=d.1.length:=by omega
  rw [List.take_length] at hSb
  unfold xM
  have hin:inn S (tr S d.2.toNat):=ft (by omega)
  have hnum:((num S (tr S d.2.toNat):Nat):Int)=d.2:=by rw [eU hS (by omega)];omega
  refine ⟨_,rfl,aj (l2 _ _ q1),s,c0 l2,_,c1 l2,?_⟩
  have sp:=i8 (ns:=s) (t:=tr S d.2.toNat) (by rw [hSb];exact hr.le (l1.trans l2)) hS hin (by omega)
  rw [hnum] at sp
  refine sp.mono ?_
  rintro _ F3 ⟨w,rfl,hw3,l3⟩
  refine ⟨_,rfl,aj ((l2.trans l3) _ _ q1),?_⟩
  refine (vU (hd'.le (l1.trans (l2.trans l3))) hw3 (by omega)).mono ?_
  rintro _ F4 ⟨rfl,l4⟩
  refine ⟨_,rfl,?_,l1.trans (l2.trans (l3.trans l4))⟩
  have key:(d=dia (tr S d.2.toNat))↔gC d:=by
   constructor
   ·exact fun e=>⟨_,hS.inn_ok hin,e⟩
   ·rintro ⟨u,hu,e⟩
    have e1:brs S=brs (aA u):=by rw [hSb,e];rfl
    have e2:S=aA u:=mo hS (bW hu) e1
    have e3:d.2.toNat=num (aA u) u:=by rw [e];show ((num (aA u) u:Nat):Int).toNat=_;simp
    rw [e3,e2,eV (bW hu) (bG hu)]
    exact e
  congr 1
  rw [Bool.eq_iff_iff,decide_eq_true_iff,decide_eq_true_iff]
  exact key
theorem zH (hd:DV F v d) (hf:Fit (d.1.length+4)):ae prog 216 #[.agg v] F fun r F'=>r=vi (chk d)∧F.le F':=by
 have hd':=hd
 obtain ⟨s,rfl,hr⟩:=hd
 have hlen:=hr.blen
 refine Ly ?_
 unfold FM
 intro b1 hb1
 refine atI ?_
 have l1:=ac (.cells #[s.v,vi d.2] 33) hb1
 have q1:=an F b1 (.cells #[s.v,vi d.2] 33)
 generalize F.set b1 (.cells #[s.v,vi d.2] 33)=F1 at*
 refine ⟨s,by rw [am q1];rfl,fun h=>⟨?_,l1⟩,fun h=> ?_⟩
 ·unfold chk
  rw [if_pos (by omega)]
 ·refine ⟨_,rfl,aj q1,?_⟩
  refine (zE (hd'.le l1) hf).mono ?_
  rintro _ F2 ⟨rfl,l2⟩
  refine ⟨_,rfl,fun h2=>⟨?_,l1.trans l2⟩,fun h2=>⟨?_,l1.trans l2⟩⟩
  ·unfold chk
   rw [if_neg (by omega),if_neg (by simpa using h2)]
  ·unfold chk
   rw [if_neg (by omega),if_pos (by simpa using h2)]
end
end Go.Proofs.YtenpmjhnhepfdaaGreatDoor
