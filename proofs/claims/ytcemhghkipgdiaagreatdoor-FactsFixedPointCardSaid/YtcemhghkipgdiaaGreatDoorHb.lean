/-
  A base that stays, and parts beside it that may change: what a heap holds, by parts.
-/
import Derived.Test.YtcemhghkipgdiaaGreatDoorFa
import Derived.Test.YtcemhghkipgdiaaGreatDoorEx
import Derived.Test.YtcemhghkipgdiaaGreatDoorQm
import Derived.Test.YtcemhghkipgdiaaGreatDoorEd
namespace Go.Proofs.YtcemhghkipgdiaaGreatDoor
open Go.IntKind (i64 u8 u64)
open Go Go.Proofs.Tryz Tr
set_option maxRecDepth 10000
theorem pE {n v:Nat} {t:Tr} (h:dT n t):dT n (lo v t):=by
 cases t with
 |leaf b=>trivial
 |node w l r=>
  simp only [lo];split
  ·exact h.2.1
  ·exact h
theorem pF {n v:Nat} {t:Tr} (h:dT n t):dT n (hi v t):=by
 cases t with
 |leaf b=>trivial
 |node w l r=>
  simp only [hi];split
  ·exact h.2.2
  ·exact h
theorem CS {n v:Nat} {l h:Tr} (hv:v<n) (h1:dT n l) (h2:dT n h):dT n (mk v l h):=by
 unfold mk;split
 ·exact h1
 ·exact ⟨hv,h1,h2⟩
theorem ma {n:Nat} {t:Tr} (h:dT n t) (hl:t.isL=false):t.top<n:=by
 cases t with
 |leaf b=>cases hl
 |node v l r=>exact h.1
theorem CT (o:Op3) {n:Nat}:∀(k:Nat) (a b d:Tr),a.sz+b.sz+d.sz<=k->a.ok->b.ok->d.ok->dT n a->dT n b->dT n d->dT n (ap o a b d):=by
 intro k;induction k with
 |zero=>intro a b d hk;have:=jR a;omega
 |succ k ih=>
  intro a b d hk ha hb hd na nb nd;by_cases hv:aS a b d<64
  ·have hst:=tX (o:=o) ha hb hd hv;have v1:aS a b d<=a.top:=by unfold aS;omega
   have v2:aS a b d<=b.top:=by unfold aS;omega
   have v3:aS a b d<=d.top:=by unfold aS;omega
   have hcase:aS a b d=a.top\/aS a b d=b.top\/aS a b d=d.top:=by unfold aS;omega
   generalize aS a b d=v at*;have nl:∀{t:Tr},v=t.top->t.isL=false:=λ{t} e=>by
    cases t with
    |leaf b=>simp only [top] at e;omega
    |node _ _ _=>rfl
   obtain ⟨al1,al2,al3,al4,al5⟩:=cd ha v1;obtain ⟨bl1,bl2,bl3,bl4,bl5⟩:=cd hb v2;obtain ⟨dl1,dl2,dl3,dl4,dl5⟩:=cd hd v3;obtain ⟨ah1,ah2,ah3,ah4,ah5⟩:=ce ha v1;obtain ⟨bh1,bh2,bh3,bh4,bh5⟩:=ce hb v2;obtain ⟨dh1,dh2,dh3,dh4,dh5⟩:=ce hd v3;have hvn:v<n:=by
    rcases hcase with e|e|e
    ·have:=ma na (nl e);omega
    ·have:=ma nb (nl e);omega
    ·have:=ma nd (nl e);omega
   have hsl:(lo v a).sz+(lo v b).sz+(lo v d).sz<=k:=by
    rcases hcase with e|e|e
    ·have:=al4 e.symm (nl e);omega
    ·have:=bl4 e.symm (nl e);omega
    ·have:=dl4 e.symm (nl e);omega
   have hsh:(hi v a).sz+(hi v b).sz+(hi v d).sz<=k:=by
    rcases hcase with e|e|e
    ·have:=ah4 e.symm (nl e);omega
    ·have:=bh4 e.symm (nl e);omega
    ·have:=dh4 e.symm (nl e);omega
   rw [hst];exact CS hvn (ih _ _ _ hsl al1 bl1 dl1 (pE na) (pE nb) (pE nd)) (ih _ _ _ hsh ah1 bh1 dh1 (pF na) (pF nb) (pF nd))
  ·unfold aS at hv;obtain ⟨p,rfl⟩:=fW ha (by omega);obtain ⟨q,rfl⟩:=fW hb (by omega);obtain ⟨r,rfl⟩:=fW hd (by omega);rw [kG];trivial
theorem xE {n:Nat} (hn:n<=64):∀(t:Tr),t.ok->dT n t->cnt t+1<=2 ^ (n - min n t.top)
 |leaf b,_,_=>by
  have:n - min n (leaf b).top=0:=by simp only [top];omega
  rw [this];simp [cnt]
 |node v l h,⟨h0,h1,h2,h3,h4,h5⟩,⟨b0,b1,b2⟩=>by
  have il:=xE hn l h4 b1;have ih:=xE hn h h5 b2;have k1:2 ^ (n - min n l.top)<=2 ^ (n - (v+1)):=Ti (by decide) (by omega);have k2:2 ^ (n - min n h.top)<=2 ^ (n - (v+1)):=Ti (by decide) (by omega);have e:n - min n (node v l h).top=n - (v+1)+1:=by simp only [top];omega
  rw [e,Nat.pow_succ];simp only [cnt];omega
def Sx (n:Nat) (t:Tr):Prop:=t.ok/\dT n t
theorem Sx.cnt63 {n:Nat} {t:Tr} (h:Sx n t) (hn:n<=6):cnt t<=63:=by have h1:=xE (by omega:n<=64) t h.1 h.2;have h2:2 ^ (n - min n t.top)<=2 ^ 6:=Ti (by decide) (by omega);omega
theorem Sx.small {n:Nat} {t:Tr} (h:Sx n t) (hn:n<=6):ii t:=C2 h.1 (by have:=h.cnt63 hn;omega)
theorem Sx.len {n:Nat} {t:Tr} (h:Sx n t) (hn:n<=6):(be t).length<=63:=TO (ni t) (h.cnt63 hn)
theorem Sx.ap {n:Nat} {o:Op3} {a b d:Tr} (ha:Sx n a) (hb:Sx n b) (hd:Sx n d):Sx n (Tr.ap o a b d):=⟨C6 ha.1 hb.1 hd.1,CT o _ a b d (SC _) ha.1 hb.1 hd.1 ha.2 hb.2 hd.2⟩
theorem Sx.leaf (n:Nat) (b:Bool):Sx n (Tr.leaf b):=⟨trivial,trivial⟩
theorem Sx.ap2 {n:Nat} {o:Op2} {a b:Tr} (ha:Sx n a) (hb:Sx n b):Sx n (ap2 o a b):=Sx.ap ha hb (Sx.leaf n _)
theorem Sx.tv {n v:Nat} (hv:v<n) (hn:n<=6):Sx n (tv v):=⟨p5 (by omega),hv,trivial,trivial⟩
theorem Sx.f2 {n:Nat} {o:Op2} {a b:Tr} (ha:Sx n a) (hb:Sx n b) (hn:n<=6):F2 o a b:=by have la:=ha.len hn;have lb:=hb.len hn;have lt:=(ha.ap2 (o:=o) hb).len hn;have hp:((be a).length+2)*((be b).length+2)<=65*65:=Nat.mul_le_mul (by omega) (by omega);exact ⟨ha.1,hb.1,by omega,by omega,by omega,by omega⟩
theorem Ic {v:Nat} (h:v<64):u64.wrap (v:Int)=(v:Int):=Aa (by omega) (by omega)
theorem CU {S:Tr->Prop} {f:FuncId} {args:Γ} {F:PH} {x:Nat} {o:Obj} (h:aj prog f args (dD F x) λr F'=>∃w t,r=.agg w/\S t/\DV F' w (dia t)/\(dD F x).le F') (hx:F x=some o):
  aj prog f args F λr F'=>∃w t,r=.agg w/\S t/\(∃G,DV G w (dia t)/\G.le F'/\G x=none)/\F.le F'/\F' x=some o:=
 (aj.avoid h hx).mono λr _ ⟨G,⟨w,t,hr,ht,hw,lg⟩,lG,q,g⟩=>⟨w,t,hr,ht,⟨G,hw,lG,g⟩,gD lg lG q hx,q⟩
def J4 (l:Φ) (k:Nat):Bool:=
 if h:k / 8<l.length then decide (u8.wrap ((BitVec.ofInt (u8).bits (Int.fdiv l[k / 8] (2 ^ (min (Int.toNat (((k % 8:Nat):Int))) (u8).bits))) &&& BitVec.ofInt (u8).bits (1:Int)).toNat)=(1:Int)) else false
noncomputable def iA (l:Φ):Nat->Nat->Nat->Tr
 |0,_,k=>Tr.leaf (J4 l k)
 |m+1,v,k=>ap2 oOr (ap2 aV (tv v) (iA l m (v+1) (k+2 ^ v))) (ap2 aV (iA l m (v+1) k) (ap2 j5 (tv v) (Tr.leaf true)))
theorem xF {n:Nat} (hn:n<=6):∀(m v k:Nat),v+m=n->k<2 ^ v->∀(F:PH) (sl:Sl) (l:Φ),RdS F sl 1 (l.map (Value.int .u8))->
  aj prog 135 #[sl.v,vi n,vi v,vi k] F λr F'=>∃u t,r=.agg u/\(Sx n t/\t=iA l m v k)/\DV F' u (dia t)/\F.le F':=by
 intro m;induction m with
 |zero=>
  intro v k hvm hk F sl l hr;obtain rfl:v=n:=by omega
  have hk64:k<64:=Nat.lt_of_lt_of_le hk (Ti (by decide) hn);refine Ig ?_;unfold C0;intro b8 hb8;refine atI ?_;have l8:=ae (.cells zD 31) hb8;have q8:=al F b8 (.cells zD 31);have hr8:=hr.le l8;generalize F.set b8 (.cells zD 31)=F8 at*;have hd:i64.wrap (Int.tdiv (k:Int) 8)=((k / 8:Nat):Int):=by rw [TR (by omega),aO (by omega) (by omega)];rfl
  have hm:u64.wrap (Int.tmod (k:Int) 8)=((k % 8:Nat):Int):=by rw [Tw (by omega),Aa (by omega) (by omega)];rfl
  have hlen:=hr8.len;simp at hlen;refine ⟨λ_=>⟨λhlt=> ?_,λ_=> ?_⟩,λh=>absurd rfl h⟩
  ·rw [hd] at hlt ⊢;have hkl:k / 8<l.length:=by omega
   obtain ⟨b,o,hb,hc⟩:=hr8.cells (by omega);have hcell:=hc (k / 8) (by simpa using hkl);refine ⟨_,hb,by omega,hlt,l[k / 8],by rw [aC,N4,Tb];simpa using hcell,by rw [hm];omega,?_⟩;refine (ik (df (F:=dD F8 b8) _) q8).mono ?_;rintro _ F9 ⟨u,rfl,⟨G,hu,lG,gG⟩,l9,q9⟩;refine ⟨_,rfl,?_⟩;exact fS (K:=λvres F'=>∃u t,Value.agg vres=.agg u/\(Sx v t/\t=iA l 0 v k)/\DV F' u (dia t)/\F.le F') hu q9 rfl ⟨_,_,rfl,⟨Sx.leaf v _,by rw [iA,J4,dif_pos hkl,hm]⟩,hu.le (aw lG gG),aw (l8.trans l9) hb8⟩
  ·rename_i hge;rw [hd] at hge;refine (ik (df (F:=dD F8 b8) false) q8).mono ?_;rintro _ F9 ⟨u,rfl,⟨G,hu,lG,gG⟩,l9,q9⟩;refine ⟨_,rfl,?_⟩;exact fS (K:=λvres F'=>∃u t,Value.agg vres=.agg u/\(Sx v t/\t=iA l 0 v k)/\DV F' u (dia t)/\F.le F') hu q9 rfl ⟨_,_,rfl,⟨Sx.leaf v _,by rw [iA,J4,dif_neg (by omega)]⟩,hu.le (aw lG gG),aw (l8.trans l9) hb8⟩
 |succ m ih=>
  intro v k hvm hk F sl l hr;have hvn:v<n:=by omega
  have hk64:k<64:=Nat.lt_of_lt_of_le hk (TO (Ti (by decide:2>0) (by omega:v<=6)) (by decide));have hp64:2 ^ v<=32:=TO (Ti (by decide:2>0) (by omega:v<=5)) (by decide);refine Ig ?_;unfold C0;intro b8 hb8;refine atI ?_;have l8:=ae (.cells zD 31) hb8;have q8:=al F b8 (.cells zD 31);generalize F.set b8 (.cells zD 31)=F8 at*;refine ⟨λh=>by omega,λ_=> ?_⟩;have hvar:=me (F:=dD F8 b8) (v:Int);rw [zH (by omega)] at hvar;refine (yf hvar q8).mono ?_;rintro _ F9 ⟨x,rfl,⟨G,hx,lG,gG⟩,l9,q9⟩;refine ⟨_,_,rfl,?_⟩;intro b9 hb9;refine atI ?_;refine stW (al _ _ _) hx.size rfl hx.st ?_;rw [bi];have n89:b8≠b9:=aG hb9 q9;have lx:=ae (.cells x 31) hb9;have r9:=al F9 b9 (.cells x 31);have q10:=lx _ _ q9;have hx10:=hx.beside (lG.trans lx) gG;have l10:=l8.trans (l9.trans lx);generalize F9.set b9 (.cells x 31)=F10 at*;have wv:i64.wrap ((v:Int)+1)=((v+1:Nat):Int):=iR (by omega);have w2:i64.wrap ((1:Int)*2 ^ (min (Int.toNat (u64.wrap (v:Int))) (i64).bits))=((2 ^ v:Nat):Int):=by
   rw [Ic (by omega)];have hm:min (Int.toNat (v:Int)) (i64).bits=v:=by simp only [IntKind.bits,N4];omega
   have e1:(1:Int)*2 ^ v=((2 ^ v:Nat):Int):=by simp
   rw [hm,e1,aO (by omega) (by omega)]
  have wk:i64.wrap ((k:Int)+((2 ^ v:Nat):Int))=((k+2 ^ v:Nat):Int):=by rw [aO (by omega) (by omega)];omega
  rw [w2,wk,wv];refine ⟨x,hx.size,ac r9,by rw [Ic (by omega)];omega,x,hx.size,ac r9,?_⟩;have hpow:2 ^ (v+1)=2 ^ v+2 ^ v:=by rw [Nat.pow_succ];omega
  refine (CU (ih (v+1) (k+2 ^ v) (by omega) (by omega) (dD F10 b8) sl l (hr.le (ee l10 hb8))) q10).mono ?_;rintro _ F11 ⟨u1,t1,rfl,⟨k1,e1⟩,⟨G1,h1,lG1,gG1⟩,l11,q11⟩;refine ⟨_,rfl,ac (l11 _ _ r9),ac (l11 _ _ r9),?_⟩;refine (ik (gQ (hx10.le (ml l11)) (h1.beside lG1 gG1) ((Sx.tv hvn hn).f2 k1 hn)) q11).mono ?_;rintro _ F12 ⟨u2,rfl,⟨G2,h2,lG2,gG2⟩,l12,q12⟩;have k2:=(Sx.tv hvn hn).ap2 (o:=aV) k1;refine ⟨_,rfl,ac (l12 _ _ (l11 _ _ r9)),?_⟩;refine (CU (ih (v+1) k (by omega) (by omega) (dD F12 b8) sl l (hr.le (ee (l10.trans (l11.trans l12)) hb8))) q12).mono ?_;rintro _ F13 ⟨u3,t3,rfl,⟨k3,e3⟩,⟨G3,h3,lG3,gG3⟩,l13,q13⟩;refine ⟨_,rfl,ac (l13 _ _ (l12 _ _ (l11 _ _ r9))),?_⟩;have kx:=(Sx.tv hvn hn).ap2 (o:=j5) (Sx.leaf n true);refine (ik (xJ (h3.beside lG3 gG3) (hx10.le (ml (l11.trans (l12.trans l13)))) ((Sx.tv hvn hn).f2 (Sx.leaf n true) hn) (k3.f2 kx hn)) q13).mono ?_;rintro _ F14 ⟨u4,rfl,⟨G4,h4,lG4,gG4⟩,l14,q14⟩;have k4:=k3.ap2 (o:=aV) kx;refine ⟨_,rfl,?_⟩;refine (ik (xI ((h2.beside lG2 gG2).le (ml (l13.trans l14))) (h4.beside lG4 gG4) (k2.f2 k4 hn)) q14).mono ?_;rintro _ F15 ⟨u5,rfl,⟨G5,h5,lG5,gG5⟩,l15,q15⟩;refine ⟨_,rfl,?_⟩;exact fS (K:=λvres F'=>∃u t,Value.agg vres=.agg u/\(Sx n t/\t=iA l (m+1) v k)/\DV F' u (dia t)/\F.le F') h5 q15 rfl ⟨_,_,rfl,⟨k2.ap2 k4,by rw [iA,<- e1,<- e3]⟩,h5.le (aw lG5 gG5),aw (l10.trans (l11.trans (l12.trans (l13.trans (l14.trans l15))))) hb8⟩
theorem mZ {n:Nat} (hn:n<=6) {F:PH} {sl:Sl} {l:Φ} (hr:RdS F sl 1 (l.map (Value.int .u8))):aj prog 82 #[sl.v,vi n] F λr F'=>∃u t,r=.agg u/\(Sx n t/\t=iA l n 0 0)/\DV F' u (dia t)/\F.le F':=by
 refine QG ?_;unfold MI;intro b4 hb4;refine atI ?_;have l4:=ae (.cells zD 31) hb4;have q4:=al F b4 (.cells zD 31);generalize F.set b4 (.cells zD 31)=F4 at*;have e:max (0:Int) (min (n:Int) 6)=(n:Int):=by omega
 rw [e];refine (CU (xF hn n 0 0 (by omega) (by simp) (dD F4 b4) sl l (hr.le (ee l4 hb4))) q4).mono ?_;rintro _ F5 ⟨u,t,rfl,kt,⟨G,hu,lG,gG⟩,l5,q5⟩;refine ⟨_,rfl,?_⟩;exact fS (K:=λvres F'=>∃u t,Value.agg vres=.agg u/\(Sx n t/\t=iA l n 0 0)/\DV F' u (dia t)/\F.le F') hu q5 rfl ⟨_,_,rfl,kt,hu.le (aw lG gG),aw (l4.trans l5) hb4⟩
section
variable {F:PH} {v:Γ} {d:Dia}
open Classical in
theorem xG (hd:DV F v d) (hf:Fit (d.1.length+4)) {S:List Tr} (hS:Cl S) {k:Nat} (hk:S.length=k) (hkd:k<d.1.length) (hb:brs S=d.1.take k):
  aj prog 216 #[.agg v,vi k] F λr F'=>r=.bool (decide (wh S d.1[k]))/\F.le F':=by
 have hd':=hd;obtain ⟨s,rfl,hr⟩:=hd;have hlen:=hr.blen;have hpre:brs S<+:d.1:=by rw [hb];exact List.take_prefix _ _
 generalize hB:d.1[k]=B;have hget:d.1[k]? =some B:=by rw [N5 hkd,hB]
 refine MW ?_;unfold Ir;intro b2 hb2;refine atI ?_;have l2:=ae (.cells #[s.v,vi d.2] 31) hb2;have q2:=al F b2 (.cells #[s.v,vi d.2] 31);generalize F.set b2 (.cells #[s.v,vi d.2] 31)=F2 at*;obtain ⟨p,hp,hrow,_⟩:=rdb (hr.le l2) hget;refine ⟨s,by rw [am q2];rfl,p,hp,by omega,by omega,aW B,rfl,by simpa using hrow,?_⟩;intro b5 hb5;refine atI ?_;refine stW (al _ _ _) rfl rfl (kY _) ?_;rw [bi];have lx:=ae (.cells (aW B) 124) hb5;have q5:=al F2 b5 (.cells (aW B) 124);replace q2:=lx _ _ q2;have l5:=l2.trans lx;generalize F2.set b5 (.cells (aW B) 124)=F5 at*;have c0:∀{G:PH},F5.le G->G.cell (Addr.mk b5 0 none)=some (vi B.v):=λh=>by rw [am (h _ _ q5)];rfl
 have c1:∀{G:PH},F5.le G->G.cell (Addr.mk b5 1 none)=some (vi B.l):=λh=>by rw [am (h _ _ q5)];rfl
 have c2:∀{G:PH},F5.le G->G.cell (Addr.mk b5 2 none)=some (vi B.h):=λh=>by rw [am (h _ _ q5)];rfl
 have r0:=PH.le_rfl (F:=F5);have hw:i64.wrap ((k:Int)+2)=(k:Int)+2:=by rw [aO (by omega) (by omega)]
 have bad:∀{G:PH},F.le G->¬wh S B->(Value.bool false=.bool (decide (wh S B))/\F.le G):=λ{G} hg hn=>⟨by rw [decide_eq_false hn],hg⟩;rw [hw];refine ⟨_,c0 r0,λh=>bad l5 λhF=>(by have:=ci hS hF;omega),λh1=> ?_⟩;refine ⟨_,c0 r0,λh=>bad l5 λhF=>(by have:=ci hS hF;omega),λh2=> ?_⟩;refine ⟨_,c1 r0,λh=>bad l5 λhF=>(by have:=ci hS hF;omega),λh3=> ?_⟩;refine ⟨_,c2 r0,λh=>bad l5 λhF=>(by have:=ci hS hF;omega),λh4=> ?_⟩;refine ⟨_,c1 r0,λh=>bad l5 λhF=>(by have:=ci hS hF;omega),λh5=> ?_⟩;refine ⟨_,c2 r0,λh=>bad l5 λhF=>(by have:=ci hS hF;omega),λh6=> ?_⟩;refine ⟨_,c1 r0,_,c2 r0,λh=>bad l5 λhF=>(by have:=ci hS hF;omega),λh7=> ?_⟩;have il:inn S (tr S B.l.toNat):=gi (by omega);have ih:inn S (tr S B.h.toNat):=gi (by omega);have nl:((num S (tr S B.l.toNat):Nat):Int)=B.l:=by rw [fK hS (by omega)];omega
 have nh:((num S (tr S B.h.toNat):Nat):Int)=B.h:=by rw [fK hS (by omega)];omega
 refine ⟨_,rfl,ac q2,_,c1 r0,_,c0 r0,?_⟩;have s1:=eT (hd'.le l5) hpre il (by omega);rw [nl] at s1;refine s1.mono ?_;rintro _ F6 ⟨rfl,l6⟩;refine ⟨_,rfl,c0 l6,λh=>bad (l5.trans l6) λhF=>(by have:=ci hS hF;omega),λh9=> ?_⟩;refine ⟨_,rfl,ac (l6 _ _ q2),_,c2 l6,_,c0 l6,?_⟩;have s2:=eT (hd'.le (l5.trans l6)) hpre ih (by omega);rw [nh] at s2;refine s2.mono ?_;rintro _ F7 ⟨rfl,l7⟩;have l57:=l6.trans l7;refine ⟨_,rfl,c0 l57,c0 l57,λh=>bad (l5.trans l57) λhF=>(by have:=ci hS hF;omega),λh10=> ?_⟩;have hmem:∀i,i<k->∀x,d.1[i]? =some x->x∈brs S:=λi hi x hx=>by rw [hb];exact SE (by rw [Tq hi];exact hx)
 refine ⟨λm i F'=>∃j:Nat,i=j/\j<=k/\m=k - j/\F7.le F'/\∀x∈d.1.take j,x≠B,k,⟨0,rfl,by omega,rfl,PH.le_rfl,by simp⟩,?_⟩;rintro m i F8 ⟨j,rfl,hj,rfl,l8,hne⟩;have l58:=l57.trans l8;unfold zE;refine ⟨λhlt=> ?_,λhge=> ?_⟩
 ·have hjd:j<d.1.length:=by omega
  have hjg:=N5 hjd;obtain ⟨p,hp,hrow,_⟩:=rdb (hr.le (l5.trans l58)) hjg;refine ⟨s,by rw [am (l58 _ _ q2)];rfl,p,hp,by omega,by omega,aW d.1[j],rfl,by simpa using hrow,aW B,rfl,ac (l58 _ _ q5),_,λF=>D2 _ _ F,λhe=> ?_,λhn=> ?_⟩
  ·refine bad (l5.trans l58) λhF=>(ci hS hF).2.2.2.2.2.2.2.1 ?_;rw [<- of_decide_eq_true he];exact hmem j (by omega) _ hjg
  ·refine ⟨k - (j+1),by omega,j+1,iR (by omega),by omega,rfl,l8,λx hx=> ?_⟩;rw [SW hjd] at hx;rcases SD.1 hx with hx|hx
   ·exact hne x hx
   ·rw [SA.1 hx];exact of_decide_eq_false hn
 ·obtain rfl:j=k:=by omega
  unfold zC;refine ⟨?_,l5.trans l58⟩;rw [decide_eq_true (Ab hS (by omega) (by omega) (by omega) (by omega) (by omega) (by omega) h7 (λhm=>hne B (by rw [<- hb];exact hm) rfl) (by omega) (by omega))]
open Classical in
theorem BB (hd:DV F v d) (hf:Fit (d.1.length+4)):aj prog 210 #[.agg v] F λr F'=>r=.bool (decide (im d))/\F.le F':=by
 have hd':=hd;obtain ⟨s,rfl,hr⟩:=hd;have hlen:=hr.blen;refine MV ?_;unfold Iq;intro b1 hb1;refine atI ?_;have l1:=ae (.cells #[s.v,vi d.2] 31) hb1;have q1:=al F b1 (.cells #[s.v,vi d.2] 31);generalize F.set b1 (.cells #[s.v,vi d.2] 31)=F1 at*;have bad:∀{G:PH},F.le G->¬im d->(Value.bool false=.bool (decide (im d))/\F.le G):=λ{G} hg hn=>⟨by rw [decide_eq_false hn],hg⟩;have hrange:im d->0<=d.2/\d.2<=(d.1.length:Int)+1:=by rintro ⟨t,ht,rfl⟩;have h1:=eG (bO ht);have h2:(dia t).1.length=(be t).length:=aN _;have h3:(dia t).2=((num (be t) t:Nat):Int):=rfl;omega
 have hw:i64.wrap ((s.len:Int)+2)=(s.len:Int)+2:=by rw [aO (by omega) (by omega)]
 have c1:∀{G:PH},F1.le G->G.cell (Addr.mk b1 1 none)=some (vi d.2):=λh=>by rw [am (h _ _ q1)];rfl
 have c0:∀{G:PH},F1.le G->G.cell (Addr.mk b1 0 none)=some s.v:=λh=>by rw [am (h _ _ q1)];rfl
 have r0:=PH.le_rfl (F:=F1);refine ⟨_,c1 r0,λh=>bad l1 λhv=>(by have:=hrange hv;omega),λh1=> ?_⟩;refine ⟨_,c1 r0,s,c0 r0,?_⟩;dsimp only;rw [hw];refine ⟨λh=>bad l1 λhv=>(by have:=hrange hv;omega),λh2=> ?_⟩;refine ⟨λm i F'=>∃(k:Nat) (S:List Tr),i=k/\k<=d.1.length/\m=d.1.length - k/\F1.le F'/\Cl S/\S.length=k/\brs S=d.1.take k,d.1.length,⟨0,[],rfl,by omega,rfl,r0,.nil,rfl,by simp [brs]⟩,?_⟩;rintro m i F2 ⟨k,S,rfl,hk,rfl,l2,hS,hSk,hSb⟩;unfold zB;refine ⟨s,c0 l2,λhlt=> ?_,λhge=> ?_⟩
 ·have hkd:k<d.1.length:=by omega
  refine ⟨_,rfl,ac (l2 _ _ q1),?_⟩;refine (xG (hd'.le (l1.trans l2)) hf hS hSk hkd hSb).mono ?_;rintro _ F3 ⟨rfl,l3⟩;by_cases hF:wh S d.1[k]
  ·rw [decide_eq_true hF];refine ⟨_,rfl,λh=>(by cases h),λ_=> ?_⟩;obtain ⟨v,l,h,e,hl,hh,hok,hn⟩:=hF;refine ⟨d.1.length - (k+1),by omega,k+1,S++[node v l h],iR (by omega),by omega,rfl,l2.trans l3,.snoc hS hl hh hok hn,by simp [hSk],?_⟩;rw [d7 hS hl hh,SW hkd,hSb,e]
  ·rw [decide_eq_false hF];exact ⟨_,rfl,λ_=>bad (l1.trans (l2.trans l3)) λhv=>hF (jK hv hS hSk hkd hSb),λh=>by cases h⟩
 ·obtain rfl:k=d.1.length:=by omega
  rw [SK] at hSb;unfold zA;have hin:inn S (tr S d.2.toNat):=gi (by omega);have hnum:((num S (tr S d.2.toNat):Nat):Int)=d.2:=by rw [fK hS (by omega)];omega
  refine ⟨_,rfl,ac (l2 _ _ q1),s,c0 l2,_,c1 l2,?_⟩;have sp:=jF (ns:=s) (t:=tr S d.2.toNat) (by rw [hSb];exact hr.le (l1.trans l2)) hS hin (by omega);rw [hnum] at sp;refine sp.mono ?_;rintro _ F3 ⟨w,rfl,hw3,l3⟩;refine ⟨_,rfl,ac ((l2.trans l3) _ _ q1),?_⟩;refine (gR (hd'.le (l1.trans (l2.trans l3))) hw3 (by omega)).mono ?_;rintro _ F4 ⟨rfl,l4⟩;refine ⟨_,rfl,?_,l1.trans (l2.trans (l3.trans l4))⟩;have key:(d=dia (tr S d.2.toNat))↔im d:=by
   constructor
   ·exact λe=>⟨_,hS.inn_ok hin,e⟩
   ·rintro ⟨u,hu,e⟩;have e1:brs S=brs (be u):=by rw [hSb,e];rfl
    have e2:S=be u:=oq hS (bC hu) e1;have e3:d.2.toNat=num (be u) u:=by rw [e];show ((num (be u) u:Nat):Int).toNat=_;simp
    rw [e3,e2,mh (bC hu) (bO hu)];exact e
  congr 1;rw [SG,decide_eq_true_iff,decide_eq_true_iff];exact key
theorem BC (hd:DV F v d) (hf:Fit (d.1.length+4)):aj prog 197 #[.agg v] F λr F'=>r=vi (chk d)/\F.le F':=by
 have hd':=hd;obtain ⟨s,rfl,hr⟩:=hd;have hlen:=hr.blen;refine MU ?_;unfold Ip;intro b1 hb1;refine atI ?_;have l1:=ae (.cells #[s.v,vi d.2] 31) hb1;have q1:=al F b1 (.cells #[s.v,vi d.2] 31);generalize F.set b1 (.cells #[s.v,vi d.2] 31)=F1 at*;refine ⟨s,by rw [am q1];rfl,λh=>⟨?_,l1⟩,λh=> ?_⟩
 ·unfold chk;rw [if_pos (by omega)]
 ·refine ⟨_,rfl,ac q1,?_⟩;refine (BB (hd'.le l1) hf).mono ?_;rintro _ F2 ⟨rfl,l2⟩;refine ⟨_,rfl,λh2=>⟨?_,l1.trans l2⟩,λh2=>⟨?_,l1.trans l2⟩⟩
  ·unfold chk;rw [if_neg (by omega),if_neg (by simpa using h2)]
  ·unfold chk;rw [if_neg (by omega),if_pos (by simpa using h2)]
end
theorem fresh {F:PH} {o:Obj} {K:Nat->Ψ} (k:∀b F',F.le F'->F' b=some o->F b=none->K b F'):∀b,F b=none->atF (F.set b o) (K b):=λb hb=>k b _ (ae o hb) (al _ _ _) hb
theorem ld {F:PH} {b i:Nat} {c:Γ} {e:TypeId} {fr:Nat×Nat} {v:Value} (h:F b=some (.cells c e fr)) (hv:c[i]? =some v):F.cell (Addr.mk b i none)=some v:=(am h).trans hv
theorem mb {F:PH} {b o e:Nat} {c d:Γ} {fr:Nat×Nat} (h:F b=some (.cells c e fr)) (hd:(c.toList.drop o).take d.size=d.toList):F.row (Addr.mk b o none) d:=by intro i hi;rw [aC,am h];have:=congrArg (λl=>l[i]?) hd;simp only [Tq hi,List.getElem?_drop,TV] at this;rw [this];simp [hi]
theorem bN {F:PH} {a:Addr} {c:Γ} {i:Nat} {v:Value} (h:F.row a c) (hv:c[i]? =some v):F.cell (a.add i)=some v:=by obtain ⟨hi,rfl⟩:=Array.getElem?_eq_some_iff.1 hv;exact h i hi
theorem aY {F:PH} {a:Addr} {c:Γ} {v:Value} (h:F.row a c) (hv:c[0]? =some v):F.cell a=some v:=by have:=bN h hv;rwa [show a.add 0=a by unfold Addr.add;cases a;rename_i b o s;cases s<;>simp] at this
def Dj (G H:PH):Prop:=∀b,G b=none\/H b=none
theorem Dj.symm {G H:PH} (h:Dj G H):Dj H G:=λb=>(h b).symm
structure St (G F:PH) (As:List (Ψ)):Prop where
 le:G.le F
 ex:∃Hs:Nat->PH,(∀i A,As[i]? =some A->A (Hs i)/\Dj G (Hs i)/\(Hs i).le F)/\∀i j,i<As.length->j<As.length->i≠j->Dj (Hs i) (Hs j)
def pt (b:Nat) (o:Obj):Ψ:=λH=>H b=some o
def own (s:Sl) (e n:Nat) (vs:Ξ):Ψ:=λH=>ca H e n s vs
namespace St
section
variable {G F:PH} {As:List (Ψ)}
theorem start (F:PH):St F F []:=⟨aq F,λ_ _=>none,λi A h=>(by cases h),λi j h=>(by cases h)⟩
theorem get (h:St G F As) {i:Nat} {A:Ψ} (hi:As[i]? =some A):∃H,A H/\Dj G H/\H.le F:=by obtain ⟨Hs,h1,_⟩:=h.ex;exact ⟨Hs i,h1 i A hi⟩
theorem set (h:St G F As) {i:Nat} {A A':Ψ} (hi:As[i]? =some A):∃H,A H/\Dj G H/\H.le F/\∀H' F',A' H'->(∀b,H' b≠none->H b≠none\/F b=none)->H'.le F'->(∀b o,F b=some o->H b=none->F' b=some o)->St G F' (As.set i A'):=by
 obtain ⟨Hs,h1,h2⟩:=h.ex;obtain ⟨a1,a2,a3⟩:=h1 i A hi;refine ⟨Hs i,a1,a2,a3,λH' F' hA hb hl hk=> ?_⟩;have hil:i<As.length:=(N6.1 hi).1;have hfree:∀{K:PH},K.le F->Dj (Hs i) K->Dj H' K:=λ{K} hK hd b=>by
  by_cases e:H' b=none
  ·exact .inl e
  ·rcases hb b e with e|e
   ·rcases hd b with h|h
    ·exact absurd h e
    ·exact .inr h
   ·exact .inr (aQ hK e)
 have hkeep:∀{K:PH},K.le F->Dj (Hs i) K->K.le F':=λ{K} hK hd b o ho=>hk b o (hK b o ho) (by
  rcases hd b with h|h
  ·exact h
  ·rw [h] at ho;cases ho)
 refine ⟨hkeep h.le a2.symm,λj=>if j=i then H' else Hs j,λj B hj=> ?_,λj k hj hk' hne=> ?_⟩
 ·dsimp only;by_cases e:j=i
  ·subst e;rw [List.getElem?_set_self hil] at hj;cases hj;rw [if_pos rfl];exact ⟨hA,(hfree h.le a2.symm).symm,hl⟩
  ·rw [List.getElem?_set_ne (Ne.symm e)] at hj;rw [if_neg e];obtain ⟨b1,b2,b3⟩:=h1 j B hj;have hjl:j<As.length:=(N6.1 hj).1;exact ⟨b1,b2,hkeep b3 (h2 i j hil hjl (Ne.symm e))⟩
 ·rw [List.length_set] at hj hk';have hle:∀{m:Nat},m<As.length->(Hs m).le F:=λ{m} hm=>(h1 m _ (N5 hm)).2.2;dsimp only;by_cases e:j=i
  ·subst e;rw [if_pos rfl,if_neg (Ne.symm hne)];exact hfree (hle hk') (h2 j k hj hk' hne)
  ·rw [if_neg e];by_cases e2:k=i
   ·subst e2;rw [if_pos rfl];exact (hfree (hle hj) (h2 k j hk' hj (Ne.symm hne))).symm
   ·rw [if_neg e2];exact h2 j k hj hk' hne
theorem push (h:St G F As) {A:Ψ} {H F':PH} (hA:A H) (hd:∀b,H b≠none->F b=none) (hl:H.le F') (hk:F.le F'):St G F' (A::As):=by
 obtain ⟨Hs,h1,h2⟩:=h.ex;have hdj:∀{K:PH},K.le F->Dj K H:=λ{K} hK b=>by
  by_cases e:H b=none
  ·exact .inr e
  ·exact .inl (aQ hK (hd b e))
 refine ⟨aa h.le hk,λj=>match j with|0=>H|j+1=>Hs j,λj B hj=> ?_,λj k hj hk' hne=> ?_⟩
 ·cases j with
  |zero=>cases hj;exact ⟨hA,hdj h.le,hl⟩
  |succ j=>obtain ⟨b1,b2,b3⟩:=h1 j B (by simpa using hj);exact ⟨b1,b2,aa b3 hk⟩
 ·have hle:∀{m:Nat},m<As.length->(Hs m).le F:=λ{m} hm=>(h1 m _ (N5 hm)).2.2;cases j with
  |zero=>
   cases k with
   |zero=>exact absurd rfl hne
   |succ k=>exact (hdj (hle (by simpa using hk'))).symm
  |succ j=>
   cases k with
   |zero=>exact hdj (hle (by simpa using hj))
   |succ k=>exact h2 j k (by simpa using hj) (by simpa using hk') (by omega)
theorem tail {A:Ψ} (h:St G F (A::As)):St G F As:=by obtain ⟨Hs,h1,h2⟩:=h.ex;exact ⟨h.le,λj=>Hs (j+1),λj B hj=>h1 (j+1) B (by simpa using hj),λj k hj hk hne=>h2 (j+1) (k+1) (by simpa using hj) (by simpa using hk) (by omega)⟩
theorem pin {A:Ψ} (h:St G F (A::As)):∃G',G.le G'/\(∃H,A H/\H.le G')/\St G' F As:=by
 obtain ⟨Hs,h1,h2⟩:=h.ex;obtain ⟨a1,a2,a3⟩:=h1 0 A rfl;have hle:(Hs 0).le (G.and (Hs 0)):=λb o hb=>by
  rcases a2 b with e|e
  ·rw [PH.and_right e];exact hb
  ·rw [e] at hb;cases hb
 refine ⟨G.and (Hs 0),λb o hb=>PH.and_left hb,⟨Hs 0,a1,hle⟩,λb o hb=> ?_,λj=>Hs (j+1),λj B hj=> ?_,λj k hj hk hne=>h2 (j+1) (k+1) (by simpa using hj) (by simpa using hk) (by omega)⟩
 ·cases e:G b with
  |some o'=>rw [PH.and_left e] at hb;rw [<- hb];exact h.le _ _ e
  |none=>rw [PH.and_right e] at hb;exact a3 _ _ hb
 ·obtain ⟨b1,b2,b3⟩:=h1 (j+1) B (by simpa using hj);refine ⟨b1,λb=> ?_,b3⟩;rcases b2 b with e|e
  ·have hl:j+1<(A::As).length:=by have:=(N6.1 hj).1;simpa using this
   rcases h2 0 (j+1) (by simp) hl (by omega) b with e2|e2
   ·exact .inl ((PH.and_right e).trans e2)
   ·exact .inr e2
  ·exact .inr e
theorem pinb {b:Nat} {o:Obj} (h:St G F (pt b o::As)) {K:Ψ} (k:∀G',G.le G'->G' b=some o->St G' F As->K F):K F:=by obtain ⟨G',h1,⟨H,hA,hH⟩,h2⟩:=h.pin;exact k G' h1 (hH _ _ hA) h2
theorem swap {A B:Ψ} (h:St G F (A::B::As)):St G F (B::A::As):=by
 obtain ⟨Hs,h1,h2⟩:=h.ex;refine ⟨h.le,λj=>match j with|0=>Hs 1|1=>Hs 0|j+2=>Hs (j+2),λj C hj=> ?_,λj k hj hk hne=> ?_⟩
 ·match j with
  |0=>exact h1 1 C hj
  |1=>exact h1 0 C hj
  |j+2=>exact h1 (j+2) C hj
 ·match j,k with
  |0,0=>exact absurd rfl hne
  |1,1=>exact absurd rfl hne
  |0,1=>exact h2 1 0 (by simp) (by simp) (by omega)
  |1,0=>exact h2 0 1 (by simp) (by simp) (by omega)
  |0,k+2=>exact h2 1 (k+2) (by simp) hk (by omega)
  |1,k+2=>exact h2 0 (k+2) (by simp) hk (by omega)
  |j+2,0=>exact h2 (j+2) 1 hj (by simp) (by omega)
  |j+2,1=>exact h2 (j+2) 0 hj (by simp) (by omega)
  |j+2,k+2=>exact h2 (j+2) (k+2) hj hk hne
theorem pick (h:St G F As) (f:Nat->Nat) {Bs:List (Ψ)} (hf:∀i j,i<Bs.length->j<Bs.length->f i=f j->i=j) (hb:∀i,i<Bs.length->As[f i]? =Bs[i]?):St G F Bs:=by
 obtain ⟨Hs,h1,h2⟩:=h.ex;have hl:∀i,i<Bs.length->f i<As.length:=λi hi=>by have:=hb i hi;rw [N5 hi] at this;exact (N6.1 this).1
 refine ⟨h.le,λi=>Hs (f i),λi B hi=> ?_,λi j hi hj hne=>h2 _ _ (hl i hi) (hl j hj) λe=>hne (hf i j hi hj e)⟩;have hi':i<Bs.length:=(N6.1 hi).1;exact h1 (f i) B ((hb i hi').trans hi)
theorem call {f:FuncId} {args:Γ} {P:Value->Ψ} (h:St G F As) (s:aj prog f args G P):aj prog f args F λr F'=>∃G',P r G'/\St G' F' As:=by
 refine (s.upon h.le).mono λr F' ⟨G',hp,hl,hk⟩=>⟨G',hp,hl,?_⟩;obtain ⟨Hs,h1,h2⟩:=h.ex;refine ⟨Hs,λi A hi=> ?_,h2⟩;obtain ⟨a1,a2,a3⟩:=h1 i A hi;have key:∀b o,Hs i b=some o->F' b=some o/\G' b=none:=λb o hb=>by
  rcases a2 b with e|e
  ·exact hk b o e (a3 b o hb)
  ·rw [e] at hb;cases hb
 refine ⟨a1,λb=> ?_,λb o hb=>(key b o hb).1⟩;cases e:Hs i b with
 |none=>exact .inr rfl
 |some o=>exact .inl (key b o e).2
theorem run {f:FuncId} {args:Γ} {P:Value->Ψ} {Q:Value->Ψ} (h:St G F As) (s:aj prog f args G λr G'=>P r G'/\G.le G') (k:∀r G' F',P r G'->G.le G'->St G' F' As->Q r F'):aj prog f args F Q:=
 (h.call s).mono λr F' ⟨G',⟨h1,h2⟩,h3⟩=>k r G' F' h1 h2 h3
theorem runv {f:FuncId} {args:Γ} {v:Value} {Q:Value->Ψ} (h:St G F As) (s:aj prog f args G λr G'=>r=v/\G.le G') (k:∀G' F',G.le G'->St G' F' As->Q v F'):aj prog f args F Q:=
 (h.call s).mono λr F' ⟨G',⟨h1,h2⟩,h3⟩=>by rw [h1];exact k G' F' h2 h3
def uni (G:PH) (Hs:Nat->PH):Nat->PH
 |0=>G
 |n+1=>(uni G Hs n).and (Hs n)
theorem pG {G:PH} {Hs:Nat->PH} {b:Nat}:∀{n:Nat},uni G Hs n b=none↔G b=none/\∀i,i<n->Hs i b=none
 |0=>⟨λh=>⟨h,λi hi=>by omega⟩,λh=>h.1⟩
 |n+1=>by
  have ih:=pG (G:=G) (Hs:=Hs) (b:=b) (n:=n);constructor
  ·intro h;have h0:uni G Hs n b=none:=by
    cases e:uni G Hs n b with
    |none=>rfl
    |some o=>rw [uni,PH.and_left e] at h;cases h
   rw [uni,PH.and_right h0] at h;refine ⟨(ih.1 h0).1,λi hi=> ?_⟩;by_cases e:i=n
   ·rw [e];exact h
   ·exact (ih.1 h0).2 i (by omega)
  ·intro h;have h0:=ih.2 ⟨h.1,λi hi=>h.2 i (by omega)⟩;rw [uni,PH.and_right h0];exact h.2 n (by omega)
theorem CV {G K:PH} {Hs:Nat->PH} (hG:G.le K):∀{n:Nat},(∀i,i<n->(Hs i).le K)->(uni G Hs n).le K
 |0,_=>hG
 |n+1,h=>λb o hb=>by
  have ih:=CV hG (n:=n) λi hi=>h i (by omega);cases e:uni G Hs n b with
  |none=>rw [uni,PH.and_right e] at hb;exact h n (by omega) b o hb
  |some o'=>rw [uni,PH.and_left e] at hb;rw [<- hb];exact ih b _ e
theorem CW {G:PH} {Hs:Nat->PH}:∀{n:Nat},G.le (uni G Hs n)
 |0=>aq _
 |n+1=>λb o hb=>PH.and_left (CW (n:=n) b o hb)
theorem vJ {G:PH} {Hs:Nat->PH}:∀{n:Nat} {i:Nat},i<n->(∀i,i<n->Dj G (Hs i))->(∀i j,i<n->j<n->i≠j->Dj (Hs i) (Hs j))->(Hs i).le (uni G Hs n)
 |0,i,h,_,_=>by omega
 |n+1,i,hi,hd,hp=>λb o hb=>by
  by_cases e:i=n
  ·subst e;have h0:uni G Hs i b=none:=by
    refine pG.2 ⟨?_,λj hj=> ?_⟩
    ·rcases hd i (by omega) b with e|e
     ·exact e
     ·rw [e] at hb;cases hb
    ·rcases hp j i (by omega) (by omega) (by omega) b with e|e
     ·exact e
     ·rw [e] at hb;cases hb
   rw [uni,PH.and_right h0];exact hb
  ·exact PH.and_left (vJ (n:=n) (i:=i) (by omega) (λj hj=>hd j (by omega)) (λj k hj hk=>hp j k (by omega) (by omega)) b o hb)
theorem callL {f:FuncId} {args:Γ} {Bs Cs:List (Ψ)} {Bs':Value->PH->List (Ψ)} {P:Value->Ψ} (h:St G F (Bs++Cs))
  (s:∀F1,St G F1 Bs->aj prog f args F1 λr F'=>∃G',P r G'/\G.le G'/\St G' F' (Bs' r G')):
  aj prog f args F λr F'=>∃G',P r G'/\G.le G'/\St G' F' (Bs' r G'++Cs):=by
 obtain ⟨Hs,h1,h2⟩:=h.ex;have hlen:(Bs++Cs).length=Bs.length+Cs.length:=SF;have g1:∀i,i<Bs.length+Cs.length->Dj G (Hs i)/\(Hs i).le F:=λi hi=>(h1 i _ (N5 (by omega))).2;rw [hlen] at h2;have hU:(uni G Hs Bs.length).le F:=CV h.le λi hi=>(g1 i (by omega)).2;have hst:St G (uni G Hs Bs.length) Bs:=by refine ⟨CW,Hs,λi A hi=> ?_,λi j hi hj=>h2 i j (by omega) (by omega)⟩;have hi':i<Bs.length:=(N6.1 hi).1;obtain ⟨a1,a2,_⟩:=h1 i A (by rw [SJ hi'];exact hi);exact ⟨a1,a2,vJ hi' (λj hj=>(g1 j (by omega)).1) (λj k hj hk=>h2 j k (by omega) (by omega))⟩
 refine ((s _ hst).upon hU).mono ?_;rintro r F' ⟨F1,⟨G',hp,hg,hst'⟩,hl,hk⟩;refine ⟨G',hp,hg,aa hst'.le hl,?_⟩;obtain ⟨Ks,k1,k2⟩:=hst'.ex;have key:∀i,i<Cs.length->∀b o,Hs (Bs.length+i) b=some o->F' b=some o/\F1 b=none:=λi hi b o hb=>by
  refine hk b o (pG.2 ⟨?_,λj hj=> ?_⟩) ((g1 (Bs.length+i) (by omega)).2 b o hb)
  ·rcases (g1 (Bs.length+i) (by omega)).1 b with e|e
   ·exact e
   ·rw [e] at hb;cases hb
  ·rcases h2 j (Bs.length+i) (by omega) (by omega) (by omega) b with e|e
   ·exact e
   ·rw [e] at hb;cases hb
 have dj:∀i,i<Cs.length->∀{K:PH},K.le F1->Dj K (Hs (Bs.length+i)):=λi hi {K} hK b=>by
  cases e:Hs (Bs.length+i) b with
  |none=>exact .inr rfl
  |some o=>exact .inl (aQ hK (key i hi b o e).2)
 refine ⟨λj=>if j<(Bs' r G').length then Ks j else Hs (Bs.length+(j - (Bs' r G').length)),λj A hj=> ?_,λj k hj hk' hne=> ?_⟩
 ·dsimp only;by_cases e:j<(Bs' r G').length
  ·rw [if_pos e];rw [SJ e] at hj;obtain ⟨b1,b2,b3⟩:=k1 j A hj;exact ⟨b1,b2,aa b3 hl⟩
  ·rw [if_neg e];rw [S6 (by omega)] at hj;have hjc:j - (Bs' r G').length<Cs.length:=(N6.1 hj).1;refine ⟨(h1 (Bs.length+(j - (Bs' r G').length)) A ?_).1,dj _ hjc hst'.le,λb o hb=>(key _ hjc b o hb).1⟩;rw [S6 (by omega),show Bs.length+(j - (Bs' r G').length) - Bs.length=j - (Bs' r G').length by omega];exact hj
 ·rw [SF] at hj hk';have hle:∀m,m<(Bs' r G').length->(Ks m).le F1:=λm hm=>(k1 m _ (N5 hm)).2.2;dsimp only;by_cases e:j<(Bs' r G').length
  ·rw [if_pos e];by_cases e2:k<(Bs' r G').length
   ·rw [if_pos e2];exact k2 j k e e2 hne
   ·rw [if_neg e2];exact dj _ (by omega) (hle j e)
  ·rw [if_neg e];by_cases e2:k<(Bs' r G').length
   ·rw [if_pos e2];exact (dj _ (by omega) (hle k e2)).symm
   ·rw [if_neg e2];exact h2 _ _ (by omega) (by omega) (by omega)
theorem new (h:St G F As) {o:Obj} {K:Nat->Ψ} (k:∀b F',St G F' (pt b o::As)->K b F'):∀b,F b=none->atF (F.set b o) (K b):=λb hb=>by
 refine atI (k b _ (h.push (H:=PH.set (λ_=>none) b o) (al _ _ _) (λx hx=> ?_) (λx p hx=> ?_) (ae o hb)))
 ·by_cases e:x=b
  ·rw [e];exact hb
  ·rw [az _ _ e] at hx;exact absurd rfl hx
 ·by_cases e:x=b
  ·rw [e,al] at hx ⊢;exact hx
  ·rw [az _ _ e] at hx;cases hx
theorem newG (h:St G F As) {o:Obj} {K:Nat->Ψ} (k:∀b G' F',G.le G'->G' b=some o->G b=none->St G' F' As->K b F'):∀b,F b=none->atF (F.set b o) (K b):=λb hb=>by
 refine h.new (K:=K) (λb' F' h'=> ?_) b hb;have hgb:G b'=none:=by
  obtain ⟨H,a1,a2,_⟩:=h'.get (i:=0) rfl;rcases a2 b' with e|e
  ·exact e
  ·rw [a1] at e;cases e
 exact h'.pinb λG' h1 h2 h3=>k b' G' F' h1 h2 hgb h3
theorem ptAt (h:St G F As) {i b:Nat} {o:Obj} (hi:As[i]? =some (pt b o)):F b=some o:=by obtain ⟨H,a1,_,a3⟩:=h.get hi;exact a3 _ _ a1
theorem putAt (h:St G F As) (i:Nat) {b:Nat} {o:Obj} (o':Obj) (hi:As[i]? =some (pt b o)):St G (F.set b o') (As.set i (pt b o')):=by
 obtain ⟨H,a1,a2,a3,a4⟩:=h.set (A':=pt b o') hi;refine a4 (H.set b o') _ (al _ _ _) (λx hx=> ?_) (λx p hx=> ?_) (λx p hx hn=> ?_)
 ·by_cases e:x=b
  ·rw [e,a1];exact .inl (by simp)
  ·rw [az _ _ e] at hx;exact .inl hx
 ·by_cases e:x=b
  ·rw [e,al] at hx ⊢;exact hx
  ·rw [az _ _ e] at hx ⊢;exact a3 _ _ hx
 ·have e:x≠b:=λe=>by rw [e,a1] at hn;cases hn
  rw [az _ _ e];exact hx
theorem ownAt (h:St G F As) {i:Nat} {s:Sl} {e n:Nat} {vs:Ξ} (hi:As[i]? =some (own s e n vs)):ca F e n s vs/\∀a,s.base=some a->G a.block=none:=by
 obtain ⟨H,a1,a2,a3⟩:=h.get hi;refine ⟨ca.upto a1 a3,λa ha=> ?_⟩;obtain ⟨cur,hc⟩:=ca.elem a1 ha;rcases a2 a.block with e|e
 ·exact e
 ·rw [hc] at e;cases e
theorem nilOwn (h:St G F As) (e n:Nat):St G F (own Sl.nil e n []::As):=h.push (H:=λ_=>none) (.inl ⟨rfl,rfl⟩) (λb hb=>absurd rfl hb) (λb o hb=>(by cases hb)) (aq F)
end
end St
theorem aE {k n:Nat} (h:k<n) (hn:n<=9223372036854775807):i64.wrap ((k:Int)+1)=((k+1:Nat):Int):=by rw [aO (by omega) (by omega)];omega
theorem bu {F:PH} (L:(Ω)->Ω) (n:Nat) (Inv:Nat->Ψ) (h0:Inv 0 F)
  (step:∀(k:Nat) (F:PH) (N:Ω),k<=n->Inv k F->(∀F',k<n->Inv (k+1) F'->N ((k+1:Nat):Int) F')->L N (k:Int) F):
  ∃(I:Nat->Ω) (m:Nat),I m (0:Int) F/\∀m v F,I m v F->L (λy F=>∃m',m'<m/\I m' y F) v F:=by
 refine ⟨λm i F'=>∃k:Nat,i=k/\k<=n/\m=n - k/\Inv k F',n,⟨0,rfl,by omega,rfl,h0⟩,?_⟩;rintro m i F' ⟨k,rfl,hk,rfl,hi⟩;exact step k F' _ hk hi λF'' hlt hi'=>⟨n - (k+1),by omega,k+1,rfl,by omega,rfl,hi'⟩
end Go.Proofs.YtcemhghkipgdiaaGreatDoor
