/-
  The reference: branch, Valid, Check, limited.
-/
import Derived.Test.YtcemhghkipgdiaaGreatDoorEz
import Derived.Test.YtcemhghkipgdiaaGreatDoorEs
namespace Go.Proofs.YtcemhghkipgdiaaGreatDoor
open Go.IntKind (i64 u8 u64)
open Go Go.Proofs.Tryz Tr
set_option maxRecDepth 10000
noncomputable abbrev ap2 (o:Op2) (a b:Tr):Tr:=ap (λx y _=>o x y) a b (leaf false)
structure F2 (o:Op2) (a b:Tr):Prop where
 ka:a.ok
 kb:b.ok
 fA:Fit ((aL a).length+2)
 fB:Fit ((aL b).length+2)
 fP:Fit (((aL a).length+2)*((aL b).length+2)+2)
 fT:Fit ((aL (ap2 o a b)).length+4)
theorem bA {o:Op2} {a b:Tr} (ha:a.ok) (hb:b.ok):(ap2 o a b).ok/\∀c,(ap2 o a b).ev c=o (a.ev c) (b.ev c):=by obtain ⟨h1,_,h2⟩:=fq (o:=λx y _=>o x y) ha hb (d:=leaf false) trivial;exact ⟨h1,h2⟩
section
variable {F:PH} {v w:Γ} {a b:Tr}
theorem gF {o:Op2} {opc:Int} (hop:(opc=0/\o=bj)\/(opc=1/\o=oOr)\/(opc=2/\o=kQ)) (ha:DV F v (dia a)) (hb:DV F w (dia b)) (h:F2 o a b):
  ai prog 110 #[.agg v,.agg w,vi opc] F λr F'=>∃u,r=.agg u/\DV F' u (dia (ap2 o a b))/\F.le F':=by
 obtain ⟨ka,kb,fA,fB,fP,fT⟩:=h;obtain ⟨sa,rfl,hra⟩:=ha;obtain ⟨sb,rfl,hrb⟩:=hb;refine Qh ?_;unfold Kr;intro b3 hb3;refine atI ?_;have l3:=ae (.cells #[sa.v,vi (dia a).2] 31) hb3;have q3:=al F b3 (.cells #[sa.v,vi (dia a).2] 31);generalize F.set b3 (.cells #[sa.v,vi (dia a).2] 31)=F3 at*;intro b4 hb4;refine atI ?_;have lx:=ae (.cells #[sb.v,vi (dia b).2] 31) hb4;have q4:=al F3 b4 (.cells #[sb.v,vi (dia b).2] 31);replace q3:=lx _ _ q3;have l4:=l3.trans lx;clear lx;generalize F3.set b4 (.cells #[sb.v,vi (dia b).2] 31)=F4 at*;intro b6 hb6;refine atI ?_;have f6:F b6=none:=aT l4 hb6;have lx:=ae (.cells zD 31) hb6;have q6:=al F4 b6 (.cells zD 31);replace q3:=lx _ _ q3;replace q4:=lx _ _ q4;have l6:=l4.trans lx;clear lx;generalize F4.set b6 (.cells zD 31)=F6 at*;refine ⟨#[sa.v,vi (dia a).2],rfl,ac q3,#[sb.v,vi (dia b).2],rfl,ac q4,rfl,rfl,λb13 hb13=> ?_⟩;refine atI ?_
 let p:RP:=⟨b13,sa,sb,opc,o,dia a,dia b,aL a,aL b⟩
 have e13:(Array.setIfInBounds (wr (wr (#[Value.slice none 0 0,vi 0,Value.slice none 0 0,vi 0,vi 0,Value.slice none 0 0,Value.slice none 0 0]:Γ) 0 (#[sa.v,vi (dia a).2]:Γ).toList) 2 (#[sb.v,vi (dia b).2]:Γ).toList) 4 (vi opc))=p.obj Sl.nil Sl.nil:=rfl;rw [e13];have lx:=ae (.cells (p.obj Sl.nil Sl.nil) 203) hb13;have q13:=al F6 b13 (.cells (p.obj Sl.nil Sl.nil) 203);have q3':=lx _ _ q3;have q4':=lx _ _ q4;have hrf:RF p:=⟨bv ka,bv kb,WL _,WL _,by show Fit ((brs (aL a)).length+2);rw [aO];exact fA,by show Fit ((brs (aL b)).length+2);rw [aO];exact fB,fP,hop⟩;have hre:RE F6 p:=⟨hra.le l6,hrb.le l6⟩;have hrs:RS F6 (F6.set b13 (.cells (p.obj Sl.nil Sl.nil) 203)) p [] []:=⟨lx,hb13,.nil,⟨λe he=>(by cases he),by simp⟩,Sl.nil,Sl.nil,q13,.inl ⟨rfl,rfl⟩,λa ha=>(by cases ha),.inl ⟨rfl,rfl⟩,λa ha=>by cases ha⟩;generalize F6.set b13 (.cells (p.obj Sl.nil Sl.nil) 203)=F7 at*;refine ⟨(dia a).2,by rw [am q3'];rfl,(dia b).2,by rw [am q4'];rfl,?_⟩;have hres:p.q.res (mb a b (leaf false))=ap2 o a b:=rfl;have hat:=FH hrf _ (mb a b (leaf false)) (UW _) ⟨bI ka,bI kb,rfl⟩ F6 F7 [] [] hre hrs (by rw [hres];exact fT);rw [hres] at hat;refine hat.mono ?_;rintro _ F8 ⟨rfl,Ls',hs8,_⟩;obtain ⟨hle8,hnb8,hcl8,_,nodes,bK,hb8,hon8,hnn8,_,_⟩:=hs8;replace hb8:F8 b13=some (.cells (p.obj nodes bK) 203):=hb8;refine ⟨_,rfl,nodes,by rw [am hb8];rfl,?_⟩;have ev:vis (ap2 o a b) []=aL (ap2 o a b):=rfl;rw [ev] at*;have q68:=hle8 _ _ q6
 have hon':cf (dz F8 b6) 124 3 nodes (aY (brs (aL (ap2 o a b)))):=hon8.keep λa ha=>dX (λe=>by
  have:=hnn8 a ha;rw [e,q6] at this
  cases this)
 have hkT:=(bA (o:=o) ka kb).1;refine (gr (ko hon'.rd hcl8 (bI hkT) fT) q68).mono ?_;rintro _ F9 ⟨u,rfl,⟨G,hu,lG,gG⟩,l9,q9⟩;refine ⟨_,rfl,?_⟩;exact f8 (K:=λvres F'=>∃u,Value.agg vres=.agg u/\DV F' u (dia (ap2 o a b))/\F.le F') hu q9 rfl ⟨_,rfl,hu.le (aw lG gG),aw (l6.trans (hle8.trans l9)) f6⟩
theorem kO (ha:DV F v (dia a)) (hb:DV F w (dia b)) (h:F2 bj a b):ai prog 45 #[.agg v,.agg w] F λr F'=>∃u,r=.agg u/\DV F' u (dia (ap2 bj a b))/\F.le F':=by refine TJ ?_;unfold Qc;intro b2 hb2;refine atI ?_;have l2:=ae (.cells v 31) hb2;have q2:=al F b2 (.cells v 31);generalize F.set b2 (.cells v 31)=F2 at*;intro b3 hb3;refine atI ?_;have lx:=ae (.cells w 31) hb3;have q3:=al F2 b3 (.cells w 31);replace q2:=lx _ _ q2;have l3:=l2.trans lx;clear lx;generalize F2.set b3 (.cells w 31)=F3 at*;intro b4 hb4;refine atI ?_;have f4:F b4=none:=aT l3 hb4;have lx:=ae (.cells zD 31) hb4;have q4:=al F3 b4 (.cells zD 31);replace q2:=lx _ _ q2;replace q3:=lx _ _ q3;have l4:=l3.trans lx;clear lx;generalize F3.set b4 (.cells zD 31)=F4 at*;refine ⟨v,ha.size,ac q2,w,hb.size,ac q3,?_⟩;have ld:=dY l4 f4;refine (gr (gF (opc:=0) (.inl ⟨rfl,rfl⟩) (ha.le ld) (hb.le ld) h) q4).mono ?_;rintro _ F5 ⟨z,rfl,⟨G,hz,lG,gG⟩,l5,q5⟩;refine ⟨_,rfl,?_⟩;exact f8 (K:=λvres F'=>∃u,Value.agg vres=.agg u/\DV F' u (dia (ap2 bj a b))/\F.le F') hz q5 rfl ⟨_,rfl,hz.le (aw lG gG),aw (l4.trans l5) f4⟩
theorem zi (ha:DV F v (dia a)) (hb:DV F w (dia b)) (h:F2 oOr a b):ai prog 123 #[.agg v,.agg w] F λr F'=>∃u,r=.agg u/\DV F' u (dia (ap2 oOr a b))/\F.le F':=by refine Qi ?_;unfold Kt;intro b2 hb2;refine atI ?_;have l2:=ae (.cells v 31) hb2;have q2:=al F b2 (.cells v 31);generalize F.set b2 (.cells v 31)=F2 at*;intro b3 hb3;refine atI ?_;have lx:=ae (.cells w 31) hb3;have q3:=al F2 b3 (.cells w 31);replace q2:=lx _ _ q2;have l3:=l2.trans lx;clear lx;generalize F2.set b3 (.cells w 31)=F3 at*;intro b4 hb4;refine atI ?_;have f4:F b4=none:=aT l3 hb4;have lx:=ae (.cells zD 31) hb4;have q4:=al F3 b4 (.cells zD 31);replace q2:=lx _ _ q2;replace q3:=lx _ _ q3;have l4:=l3.trans lx;clear lx;generalize F3.set b4 (.cells zD 31)=F4 at*;refine ⟨v,ha.size,ac q2,w,hb.size,ac q3,?_⟩;have ld:=dY l4 f4;refine (gr (gF (opc:=1) (.inr (.inl ⟨rfl,rfl⟩)) (ha.le ld) (hb.le ld) h) q4).mono ?_;rintro _ F5 ⟨z,rfl,⟨G,hz,lG,gG⟩,l5,q5⟩;refine ⟨_,rfl,?_⟩;exact f8 (K:=λvres F'=>∃u,Value.agg vres=.agg u/\DV F' u (dia (ap2 oOr a b))/\F.le F') hz q5 rfl ⟨_,rfl,hz.le (aw lG gG),aw (l4.trans l5) f4⟩
theorem rg (ha:DV F v (dia a)) (h:F2 kQ a (leaf true)):ai prog 86 #[.agg v] F λr F'=>∃u,r=.agg u/\DV F' u (dia (ap2 kQ a (leaf true)))/\F.le F':=by refine TM ?_;unfold Qf;intro b2 hb2;refine atI ?_;have l2:=ae (.cells v 31) hb2;have q2:=al F b2 (.cells v 31);generalize F.set b2 (.cells v 31)=F3 at*;intro b4 hb4;refine atI ?_;have f4:F b4=none:=aT l2 hb4;have lx:=ae (.cells zD 31) hb4;have q4:=al F3 b4 (.cells zD 31);replace q2:=lx _ _ q2;have l4:=l2.trans lx;clear lx;generalize F3.set b4 (.cells zD 31)=F4 at*;refine ⟨v,ha.size,ac q2,?_⟩;refine (gr (dy (F:=dz F4 b4) true) q4).mono ?_;rintro _ F5 ⟨y,rfl,⟨G0,hy,lG0,gG0⟩,l5,q5⟩;refine ⟨_,rfl,ac (l5 _ _ q2),?_⟩;have ld:=dY (l4.trans l5) f4;refine (gr (gF (opc:=2) (.inr (.inr ⟨rfl,rfl⟩)) (ha.le ld) (hy.beside lG0 gG0) h) q5).mono ?_;rintro _ F6 ⟨z,rfl,⟨G,hz,lG,gG⟩,l6,q6⟩;refine ⟨_,rfl,?_⟩;exact f8 (K:=λvres F'=>∃u,Value.agg vres=.agg u/\DV F' u (dia (ap2 kQ a (leaf true)))/\F.le F') hz q6 rfl ⟨_,rfl,hz.le (aw lG gG),aw (l4.trans (l5.trans l6)) f4⟩
theorem zj (ha:DV F v (dia a)) (hb:DV F w (dia b)) (h1:F2 kQ b (leaf true)) (h2:F2 bj a (ap2 kQ b (leaf true))):
  ai prog 175 #[.agg v,.agg w] F λr F'=>∃u,r=.agg u/\DV F' u (dia (ap2 bj a (ap2 kQ b (leaf true))))/\F.le F':=by
 refine Ql ?_;unfold Kx;intro b2 hb2;refine atI ?_;have l2:=ae (.cells v 31) hb2;have q2:=al F b2 (.cells v 31);generalize F.set b2 (.cells v 31)=F2 at*;intro b3 hb3;refine atI ?_;have lx:=ae (.cells w 31) hb3;have q3:=al F2 b3 (.cells w 31);replace q2:=lx _ _ q2;have l3:=l2.trans lx;clear lx;generalize F2.set b3 (.cells w 31)=F3 at*;intro b4 hb4;refine atI ?_;have f4:F b4=none:=aT l3 hb4;have lx:=ae (.cells zD 31) hb4;have q4:=al F3 b4 (.cells zD 31);replace q2:=lx _ _ q2;replace q3:=lx _ _ q3;have l4:=l3.trans lx;clear lx;generalize F3.set b4 (.cells zD 31)=F4 at*;refine ⟨v,ha.size,ac q2,w,hb.size,ac q3,?_⟩;refine (gr (rg (hb.le (dY l4 f4)) h1) q4).mono ?_;rintro _ F5 ⟨y,rfl,⟨G0,hy,lG0,gG0⟩,l5,q5⟩;refine ⟨_,rfl,ac (l5 _ _ q2),?_⟩;refine (gr (kO (ha.le (dY (l4.trans l5) f4)) (hy.beside lG0 gG0) h2) q5).mono ?_;rintro _ F6 ⟨z,rfl,⟨G,hz,lG,gG⟩,l6,q6⟩;refine ⟨_,rfl,?_⟩;exact f8 (K:=λvres F'=>∃u,Value.agg vres=.agg u/\DV F' u (dia (ap2 bj a (ap2 kQ b (leaf true))))/\F.le F') hz q6 rfl ⟨_,rfl,hz.le (aw lG gG),aw (l4.trans (l5.trans l6)) f4⟩
end
theorem ri {n v:Nat} {t:Tr} (h:df n t):df n (lo v t):=by
 cases t with
 |leaf b=>trivial
 |node w l r=>
  simp only [lo];split
  ·exact h.2.1
  ·exact h
theorem rj {n v:Nat} {t:Tr} (h:df n t):df n (hi v t):=by
 cases t with
 |leaf b=>trivial
 |node w l r=>
  simp only [hi];split
  ·exact h.2.2
  ·exact h
theorem xH {n v:Nat} {l h:Tr} (hv:v<n) (h1:df n l) (h2:df n h):df n (mk v l h):=by
 unfold mk;split
 ·exact h1
 ·exact ⟨hv,h1,h2⟩
theorem nz {n:Nat} {t:Tr} (h:df n t) (hl:t.isL=false):t.top<n:=by
 cases t with
 |leaf b=>cases hl
 |node v l r=>exact h.1
theorem FD (o:Op3) {n:Nat}:∀(k:Nat) (a b d:Tr),a.sz+b.sz+d.sz<=k->a.ok->b.ok->d.ok->df n a->df n b->df n d->df n (ap o a b d):=by
 intro k;induction k with
 |zero=>intro a b d hk;have:=kI a;omega
 |succ k ih=>
  intro a b d hk ha hb hd na nb nd;by_cases hv:aZ a b d<64
  ·have hst:=va (o:=o) ha hb hd hv;have v1:aZ a b d<=a.top:=by unfold aZ;omega
   have v2:aZ a b d<=b.top:=by unfold aZ;omega
   have v3:aZ a b d<=d.top:=by unfold aZ;omega
   have hcase:aZ a b d=a.top\/aZ a b d=b.top\/aZ a b d=d.top:=by unfold aZ;omega
   generalize aZ a b d=v at*;have nl:∀{t:Tr},v=t.top->t.isL=false:=λ{t} e=>by
    cases t with
    |leaf b=>simp only [top] at e;omega
    |node _ _ _=>rfl
   obtain ⟨al1,al2,al3,al4,al5⟩:=cq ha v1;obtain ⟨bl1,bl2,bl3,bl4,bl5⟩:=cq hb v2;obtain ⟨dl1,dl2,dl3,dl4,dl5⟩:=cq hd v3;obtain ⟨ah1,ah2,ah3,ah4,ah5⟩:=cu ha v1;obtain ⟨bh1,bh2,bh3,bh4,bh5⟩:=cu hb v2;obtain ⟨dh1,dh2,dh3,dh4,dh5⟩:=cu hd v3;have hvn:v<n:=by
    rcases hcase with e|e|e
    ·have:=nz na (nl e);omega
    ·have:=nz nb (nl e);omega
    ·have:=nz nd (nl e);omega
   have hsl:(lo v a).sz+(lo v b).sz+(lo v d).sz<=k:=by
    rcases hcase with e|e|e
    ·have:=al4 e.symm (nl e);omega
    ·have:=bl4 e.symm (nl e);omega
    ·have:=dl4 e.symm (nl e);omega
   have hsh:(hi v a).sz+(hi v b).sz+(hi v d).sz<=k:=by
    rcases hcase with e|e|e
    ·have:=ah4 e.symm (nl e);omega
    ·have:=bh4 e.symm (nl e);omega
    ·have:=dh4 e.symm (nl e);omega
   rw [hst];exact xH hvn (ih _ _ _ hsl al1 bl1 dl1 (ri na) (ri nb) (ri nd)) (ih _ _ _ hsh ah1 bh1 dh1 (rj na) (rj nb) (rj nd))
  ·unfold aZ at hv;obtain ⟨p,rfl⟩:=gm ha (by omega);obtain ⟨q,rfl⟩:=gm hb (by omega);obtain ⟨r,rfl⟩:=gm hd (by omega);rw [lP];trivial
theorem zk {n:Nat} (hn:n<=64):∀(t:Tr),t.ok->df n t->cnt t+1<=2 ^ (n - min n t.top)
 |leaf b,_,_=>by
  have:n - min n (leaf b).top=0:=by simp only [top];omega
  rw [this];simp [cnt]
 |node v l h,⟨h0,h1,h2,h3,h4,h5⟩,⟨b0,b1,b2⟩=>by
  have il:=zk hn l h4 b1;have ih:=zk hn h h5 b2;have k1:2 ^ (n - min n l.top)<=2 ^ (n - (v+1)):=Vq (by decide) (by omega);have k2:2 ^ (n - min n h.top)<=2 ^ (n - (v+1)):=Vq (by decide) (by omega);have e:n - min n (node v l h).top=n - (v+1)+1:=by simp only [top];omega
  rw [e,WA];simp only [cnt];omega
def Sx (n:Nat) (t:Tr):Prop:=t.ok/\df n t
theorem Sx.cnt63 {n:Nat} {t:Tr} (h:Sx n t) (hn:n<=6):cnt t<=63:=by have h1:=zk (by omega:n<=64) t h.1 h.2;have h2:2 ^ (n - min n t.top)<=2 ^ 6:=Vq (by decide) (by omega);omega
theorem Sx.small {n:Nat} {t:Tr} (h:Sx n t) (hn:n<=6):gW t:=FM h.1 (by have:=h.cnt63 hn;omega)
theorem Sx.len {n:Nat} {t:Tr} (h:Sx n t) (hn:n<=6):(aL t).length<=63:=VK (oz t) (h.cnt63 hn)
theorem Sx.ap {n:Nat} {o:Op3} {a b d:Tr} (ha:Sx n a) (hb:Sx n b) (hd:Sx n d):Sx n (Tr.ap o a b d):=⟨EE ha.1 hb.1 hd.1,FD o _ a b d (UW _) ha.1 hb.1 hd.1 ha.2 hb.2 hd.2⟩
theorem Sx.leaf (n:Nat) (b:Bool):Sx n (Tr.leaf b):=⟨trivial,trivial⟩
theorem Sx.ap2 {n:Nat} {o:Op2} {a b:Tr} (ha:Sx n a) (hb:Sx n b):Sx n (ap2 o a b):=Sx.ap ha hb (Sx.leaf n _)
theorem Sx.tv {n v:Nat} (hv:v<n) (hn:n<=6):Sx n (tv v):=⟨rn (by omega),hv,trivial,trivial⟩
theorem Sx.f2 {n:Nat} {o:Op2} {a b:Tr} (ha:Sx n a) (hb:Sx n b) (hn:n<=6):F2 o a b:=by have la:=ha.len hn;have lb:=hb.len hn;have lt:=(ha.ap2 (o:=o) hb).len hn;have hp:((aL a).length+2)*((aL b).length+2)<=65*65:=Nat.mul_le_mul (by omega) (by omega);exact ⟨ha.1,hb.1,by omega,by omega,by omega,by omega⟩
theorem Kp {v:Nat} (h:v<64):u64.wrap (v:Int)=(v:Int):=lY (by omega) (by omega)
theorem FE {S:Tr->Prop} {f:FuncId} {args:Γ} {F:PH} {x:Nat} {o:Obj} (h:ai prog f args (dz F x) λr F'=>∃w t,r=.agg w/\S t/\DV F' w (dia t)/\(dz F x).le F') (hx:F x=some o):
  ai prog f args F λr F'=>∃w t,r=.agg w/\S t/\(∃G,DV G w (dia t)/\G.le F'/\G x=none)/\F.le F'/\F' x=some o:=
 (ai.avoid h hx).mono λr _ ⟨G,⟨w,t,hr,ht,hw,lg⟩,lG,q,g⟩=>⟨w,t,hr,ht,⟨G,hw,lG,g⟩,gX lg lG q hx,q⟩
def MW (l:Φ) (k:Nat):Bool:=
 if h:k / 8<l.length then decide (u8.wrap ((BitVec.ofInt (u8).bits (Int.fdiv l[k / 8] (2 ^ (min (Int.toNat (((k % 8:Nat):Int))) (u8).bits))) &&& BitVec.ofInt (u8).bits (1:Int)).toNat)=(1:Int)) else false
noncomputable def i9 (l:Φ):Nat->Nat->Nat->Tr
 |0,_,k=>Tr.leaf (MW l k)
 |m+1,v,k=>ap2 oOr (ap2 bj (tv v) (i9 l m (v+1) (k+2 ^ v))) (ap2 bj (i9 l m (v+1) k) (ap2 kQ (tv v) (Tr.leaf true)))
theorem zl {n:Nat} (hn:n<=6):∀(m v k:Nat),v+m=n->k<2 ^ v->∀(F:PH) (sl:Sl) (l:Φ),RdS F sl 1 (l.map (Value.int .u8))->
  ai prog 135 #[sl.v,vi n,vi v,vi k] F λr F'=>∃u t,r=.agg u/\(Sx n t/\t=i9 l m v k)/\DV F' u (dia t)/\F.le F':=by
 intro m;induction m with
 |zero=>
  intro v k hvm hk F sl l hr;obtain rfl:v=n:=by omega
  have hk64:k<64:=Wr hk (Vq (by decide) hn);refine Ku ?_;unfold FK;intro b8 hb8;refine atI ?_;have l8:=ae (.cells zD 31) hb8;have q8:=al F b8 (.cells zD 31);have hr8:=hr.le l8;generalize F.set b8 (.cells zD 31)=F8 at*;have hd:i64.wrap (Int.tdiv (k:Int) 8)=((k / 8:Nat):Int):=by rw [V8 (by omega),aS (by omega) (by omega)];rfl
  have hm:u64.wrap (Int.tmod (k:Int) 8)=((k % 8:Nat):Int):=by rw [VH (by omega),lY (by omega) (by omega)];rfl
  have hlen:=hr8.len;simp at hlen;refine ⟨λ_=>⟨λhlt=> ?_,λ_=> ?_⟩,λh=>absurd rfl h⟩
  ·rw [hd] at hlt ⊢;have hkl:k / 8<l.length:=by omega
   obtain ⟨b,o,hb,hc⟩:=hr8.cells (by omega);have hcell:=hc (k / 8) (by simpa using hkl);refine ⟨_,hb,by omega,hlt,l[k / 8],by rw [aB,N4,Vs];simpa using hcell,by rw [hm];omega,?_⟩;refine (gr (dy (F:=dz F8 b8) _) q8).mono ?_;rintro _ F9 ⟨u,rfl,⟨G,hu,lG,gG⟩,l9,q9⟩;refine ⟨_,rfl,?_⟩;exact f8 (K:=λvres F'=>∃u t,Value.agg vres=.agg u/\(Sx v t/\t=i9 l 0 v k)/\DV F' u (dia t)/\F.le F') hu q9 rfl ⟨_,_,rfl,⟨Sx.leaf v _,by rw [i9,MW,dif_pos hkl,hm]⟩,hu.le (aw lG gG),aw (l8.trans l9) hb8⟩
  ·rename_i hge;rw [hd] at hge;refine (gr (dy (F:=dz F8 b8) false) q8).mono ?_;rintro _ F9 ⟨u,rfl,⟨G,hu,lG,gG⟩,l9,q9⟩;refine ⟨_,rfl,?_⟩;exact f8 (K:=λvres F'=>∃u t,Value.agg vres=.agg u/\(Sx v t/\t=i9 l 0 v k)/\DV F' u (dia t)/\F.le F') hu q9 rfl ⟨_,_,rfl,⟨Sx.leaf v _,by rw [i9,MW,dif_neg (by omega)]⟩,hu.le (aw lG gG),aw (l8.trans l9) hb8⟩
 |succ m ih=>
  intro v k hvm hk F sl l hr;have hvn:v<n:=by omega
  have hk64:k<64:=Wr hk (VK (Vq (by decide:2>0) (by omega:v<=6)) (by decide));have hp64:2 ^ v<=32:=VK (Vq (by decide:2>0) (by omega:v<=5)) (by decide);refine Ku ?_;unfold FK;intro b8 hb8;refine atI ?_;have l8:=ae (.cells zD 31) hb8;have q8:=al F b8 (.cells zD 31);generalize F.set b8 (.cells zD 31)=F8 at*;refine ⟨λh=>by omega,λ_=> ?_⟩;have hvar:=nA (F:=dz F8 b8) (v:Int);rw [BN (by omega)] at hvar;refine (vy hvar q8).mono ?_;rintro _ F9 ⟨x,rfl,⟨G,hx,lG,gG⟩,l9,q9⟩;refine ⟨_,_,rfl,?_⟩;intro b9 hb9;refine atI ?_;refine stW (al _ _ _) hx.size rfl hx.st ?_;rw [bh];have n89:b8≠b9:=aJ hb9 q9;have lx:=ae (.cells x 31) hb9;have r9:=al F9 b9 (.cells x 31);have q10:=lx _ _ q9;have hx10:=hx.beside (lG.trans lx) gG;have l10:=l8.trans (l9.trans lx);generalize F9.set b9 (.cells x 31)=F10 at*;have wv:i64.wrap ((v:Int)+1)=((v+1:Nat):Int):=i6 (by omega);have w2:i64.wrap ((1:Int)*2 ^ (min (Int.toNat (u64.wrap (v:Int))) (i64).bits))=((2 ^ v:Nat):Int):=by
   rw [Kp (by omega)];have hm:min (Int.toNat (v:Int)) (i64).bits=v:=by simp only [IntKind.bits,N4];omega
   have e1:(1:Int)*2 ^ v=((2 ^ v:Nat):Int):=by simp
   rw [hm,e1,aS (by omega) (by omega)]
  have wk:i64.wrap ((k:Int)+((2 ^ v:Nat):Int))=((k+2 ^ v:Nat):Int):=by rw [aS (by omega) (by omega)];omega
  rw [w2,wk,wv];refine ⟨x,hx.size,ac r9,by rw [Kp (by omega)];omega,x,hx.size,ac r9,?_⟩;have hpow:2 ^ (v+1)=2 ^ v+2 ^ v:=by rw [WA];omega
  refine (FE (ih (v+1) (k+2 ^ v) (by omega) (by omega) (dz F10 b8) sl l (hr.le (dY l10 hb8))) q10).mono ?_;rintro _ F11 ⟨u1,t1,rfl,⟨k1,e1⟩,⟨G1,h1,lG1,gG1⟩,l11,q11⟩;refine ⟨_,rfl,ac (l11 _ _ r9),ac (l11 _ _ r9),?_⟩;refine (gr (kO (hx10.le (nC l11)) (h1.beside lG1 gG1) ((Sx.tv hvn hn).f2 k1 hn)) q11).mono ?_;rintro _ F12 ⟨u2,rfl,⟨G2,h2,lG2,gG2⟩,l12,q12⟩;have k2:=(Sx.tv hvn hn).ap2 (o:=bj) k1;refine ⟨_,rfl,ac (l12 _ _ (l11 _ _ r9)),?_⟩;refine (FE (ih (v+1) k (by omega) (by omega) (dz F12 b8) sl l (hr.le (dY (l10.trans (l11.trans l12)) hb8))) q12).mono ?_;rintro _ F13 ⟨u3,t3,rfl,⟨k3,e3⟩,⟨G3,h3,lG3,gG3⟩,l13,q13⟩;refine ⟨_,rfl,ac (l13 _ _ (l12 _ _ (l11 _ _ r9))),?_⟩;have kx:=(Sx.tv hvn hn).ap2 (o:=kQ) (Sx.leaf n true);refine (gr (zj (h3.beside lG3 gG3) (hx10.le (nC (l11.trans (l12.trans l13)))) ((Sx.tv hvn hn).f2 (Sx.leaf n true) hn) (k3.f2 kx hn)) q13).mono ?_;rintro _ F14 ⟨u4,rfl,⟨G4,h4,lG4,gG4⟩,l14,q14⟩;have k4:=k3.ap2 (o:=bj) kx;refine ⟨_,rfl,?_⟩;refine (gr (zi ((h2.beside lG2 gG2).le (nC (l13.trans l14))) (h4.beside lG4 gG4) (k2.f2 k4 hn)) q14).mono ?_;rintro _ F15 ⟨u5,rfl,⟨G5,h5,lG5,gG5⟩,l15,q15⟩;refine ⟨_,rfl,?_⟩;exact f8 (K:=λvres F'=>∃u t,Value.agg vres=.agg u/\(Sx n t/\t=i9 l (m+1) v k)/\DV F' u (dia t)/\F.le F') h5 q15 rfl ⟨_,_,rfl,⟨k2.ap2 k4,by rw [i9,<- e1,<- e3]⟩,h5.le (aw lG5 gG5),aw (l10.trans (l11.trans (l12.trans (l13.trans (l14.trans l15))))) hb8⟩
theorem oD {n:Nat} (hn:n<=6) {F:PH} {sl:Sl} {l:Φ} (hr:RdS F sl 1 (l.map (Value.int .u8))):ai prog 82 #[sl.v,vi n] F λr F'=>∃u t,r=.agg u/\(Sx n t/\t=i9 l n 0 0)/\DV F' u (dia t)/\F.le F':=by
 refine TL ?_;unfold Qe;intro b4 hb4;refine atI ?_;have l4:=ae (.cells zD 31) hb4;have q4:=al F b4 (.cells zD 31);generalize F.set b4 (.cells zD 31)=F4 at*;have e:max (0:Int) (min (n:Int) 6)=(n:Int):=by omega
 rw [e];refine (FE (zl hn n 0 0 (by omega) (by simp) (dz F4 b4) sl l (hr.le (dY l4 hb4))) q4).mono ?_;rintro _ F5 ⟨u,t,rfl,kt,⟨G,hu,lG,gG⟩,l5,q5⟩;refine ⟨_,rfl,?_⟩;exact f8 (K:=λvres F'=>∃u t,Value.agg vres=.agg u/\(Sx n t/\t=i9 l n 0 0)/\DV F' u (dia t)/\F.le F') hu q5 rfl ⟨_,_,rfl,kt,hu.le (aw lG gG),aw (l4.trans l5) hb4⟩
section
variable {F:PH} {v:Γ} {d:Dia}
open Classical in
theorem zn (hd:DV F v d) (hf:Fit (d.1.length+4)) {S:List Tr} (hS:Cl S) {k:Nat} (hk:S.length=k) (hkd:k<d.1.length) (hb:brs S=d.1.take k):
  ai prog 216 #[.agg v,vi k] F λr F'=>r=.bool (decide (xO S d.1[k]))/\F.le F':=by
 have hd':=hd;obtain ⟨s,rfl,hr⟩:=hd;have hlen:=hr.blen;have hpre:brs S<+:d.1:=by rw [hb];exact List.take_prefix _ _
 generalize hB:d.1[k]=B;have hget:d.1[k]? =some B:=by rw [N5 hkd,hB]
 refine Qt ?_;unfold KG;intro b2 hb2;refine atI ?_;have l2:=ae (.cells #[s.v,vi d.2] 31) hb2;have q2:=al F b2 (.cells #[s.v,vi d.2] 31);generalize F.set b2 (.cells #[s.v,vi d.2] 31)=F2 at*;obtain ⟨p,hp,hrow,_⟩:=rdb (hr.le l2) hget;refine ⟨s,by rw [am q2];rfl,p,hp,by omega,by omega,aV B,rfl,by simpa using hrow,?_⟩;intro b5 hb5;refine atI ?_;refine stW (al _ _ _) rfl rfl (iA _) ?_;rw [bh];have lx:=ae (.cells (aV B) 124) hb5;have q5:=al F2 b5 (.cells (aV B) 124);replace q2:=lx _ _ q2;have l5:=l2.trans lx;generalize F2.set b5 (.cells (aV B) 124)=F5 at*;have c0:∀{G:PH},F5.le G->G.cell (Addr.mk b5 0 none)=some (vi B.v):=λh=>by rw [am (h _ _ q5)];rfl
 have c1:∀{G:PH},F5.le G->G.cell (Addr.mk b5 1 none)=some (vi B.l):=λh=>by rw [am (h _ _ q5)];rfl
 have c2:∀{G:PH},F5.le G->G.cell (Addr.mk b5 2 none)=some (vi B.h):=λh=>by rw [am (h _ _ q5)];rfl
 have r0:=PH.le_rfl (F:=F5);have hw:i64.wrap ((k:Int)+2)=(k:Int)+2:=by rw [aS (by omega) (by omega)]
 have bad:∀{G:PH},F.le G->¬xO S B->(Value.bool false=.bool (decide (xO S B))/\F.le G):=λ{G} hg hn=>⟨by rw [decide_eq_false hn],hg⟩;rw [hw];refine ⟨_,c0 r0,λh=>bad l5 λhF=>(by have:=cv hS hF;omega),λh1=> ?_⟩;refine ⟨_,c0 r0,λh=>bad l5 λhF=>(by have:=cv hS hF;omega),λh2=> ?_⟩;refine ⟨_,c1 r0,λh=>bad l5 λhF=>(by have:=cv hS hF;omega),λh3=> ?_⟩;refine ⟨_,c2 r0,λh=>bad l5 λhF=>(by have:=cv hS hF;omega),λh4=> ?_⟩;refine ⟨_,c1 r0,λh=>bad l5 λhF=>(by have:=cv hS hF;omega),λh5=> ?_⟩;refine ⟨_,c2 r0,λh=>bad l5 λhF=>(by have:=cv hS hF;omega),λh6=> ?_⟩;refine ⟨_,c1 r0,_,c2 r0,λh=>bad l5 λhF=>(by have:=cv hS hF;omega),λh7=> ?_⟩;have il:inn S (tr S B.l.toNat):=gD (by omega);have ih:inn S (tr S B.h.toNat):=gD (by omega);have nl:((num S (tr S B.l.toNat):Nat):Int)=B.l:=by rw [f7 hS (by omega)];omega
 have nh:((num S (tr S B.h.toNat):Nat):Int)=B.h:=by rw [f7 hS (by omega)];omega
 refine ⟨_,rfl,ac q2,_,c1 r0,_,c0 r0,?_⟩;have s1:=fu (hd'.le l5) hpre il (by omega);rw [nl] at s1;refine s1.mono ?_;rintro _ F6 ⟨rfl,l6⟩;refine ⟨_,rfl,c0 l6,λh=>bad (l5.trans l6) λhF=>(by have:=cv hS hF;omega),λh9=> ?_⟩;refine ⟨_,rfl,ac (l6 _ _ q2),_,c2 l6,_,c0 l6,?_⟩;have s2:=fu (hd'.le (l5.trans l6)) hpre ih (by omega);rw [nh] at s2;refine s2.mono ?_;rintro _ F7 ⟨rfl,l7⟩;have l57:=l6.trans l7;refine ⟨_,rfl,c0 l57,c0 l57,λh=>bad (l5.trans l57) λhF=>(by have:=cv hS hF;omega),λh10=> ?_⟩;have hmem:∀i,i<k->∀x,d.1[i]? =some x->x∈brs S:=λi hi x hx=>by rw [hb];exact UY (by rw [VN hi];exact hx)
 refine ⟨λm i F'=>∃j:Nat,i=j/\j<=k/\m=k - j/\F7.le F'/\∀x∈d.1.take j,x≠B,k,⟨0,rfl,by omega,rfl,PH.le_rfl,by simp⟩,?_⟩;rintro m i F8 ⟨j,rfl,hj,rfl,l8,hne⟩;have l58:=l57.trans l8;unfold BM;refine ⟨λhlt=> ?_,λhge=> ?_⟩
 ·have hjd:j<d.1.length:=by omega
  have hjg:=N5 hjd;obtain ⟨p,hp,hrow,_⟩:=rdb (hr.le (l5.trans l58)) hjg;refine ⟨s,by rw [am (l58 _ _ q2)];rfl,p,hp,by omega,by omega,aV d.1[j],rfl,by simpa using hrow,aV B,rfl,ac (l58 _ _ q5),_,λF=>Ff _ _ F,λhe=> ?_,λhn=> ?_⟩
  ·refine bad (l5.trans l58) λhF=>(cv hS hF).2.2.2.2.2.2.2.1 ?_;rw [<- of_decide_eq_true he];exact hmem j (by omega) _ hjg
  ·refine ⟨k - (j+1),by omega,j+1,i6 (by omega),by omega,rfl,l8,λx hx=> ?_⟩;rw [Vh hjd] at hx;rcases UX.1 hx with hx|hx
   ·exact hne x hx
   ·rw [UU.1 hx];exact of_decide_eq_false hn
 ·obtain rfl:j=k:=by omega
  unfold BL;refine ⟨?_,l5.trans l58⟩;rw [decide_eq_true (BP hS (by omega) (by omega) (by omega) (by omega) (by omega) (by omega) h7 (λhm=>hne B (by rw [<- hb];exact hm) rfl) (by omega) (by omega))]
open Classical in
theorem Da (hd:DV F v d) (hf:Fit (d.1.length+4)):ai prog 210 #[.agg v] F λr F'=>r=.bool (decide (iU d))/\F.le F':=by
 have hd':=hd;obtain ⟨s,rfl,hr⟩:=hd;have hlen:=hr.blen;refine Qr ?_;unfold KE;intro b1 hb1;refine atI ?_;have l1:=ae (.cells #[s.v,vi d.2] 31) hb1;have q1:=al F b1 (.cells #[s.v,vi d.2] 31);generalize F.set b1 (.cells #[s.v,vi d.2] 31)=F1 at*;have bad:∀{G:PH},F.le G->¬iU d->(Value.bool false=.bool (decide (iU d))/\F.le G):=λ{G} hg hn=>⟨by rw [decide_eq_false hn],hg⟩;have hrange:iU d->0<=d.2/\d.2<=(d.1.length:Int)+1:=by rintro ⟨t,ht,rfl⟩;have h1:=dt (bI ht);have h2:(dia t).1.length=(aL t).length:=aO _;have h3:(dia t).2=((num (aL t) t:Nat):Int):=rfl;omega
 have hw:i64.wrap ((s.len:Int)+2)=(s.len:Int)+2:=by rw [aS (by omega) (by omega)]
 have c1:∀{G:PH},F1.le G->G.cell (Addr.mk b1 1 none)=some (vi d.2):=λh=>by rw [am (h _ _ q1)];rfl
 have c0:∀{G:PH},F1.le G->G.cell (Addr.mk b1 0 none)=some s.v:=λh=>by rw [am (h _ _ q1)];rfl
 have r0:=PH.le_rfl (F:=F1);refine ⟨_,c1 r0,λh=>bad l1 λhv=>(by have:=hrange hv;omega),λh1=> ?_⟩;refine ⟨_,c1 r0,s,c0 r0,?_⟩;dsimp only;rw [hw];refine ⟨λh=>bad l1 λhv=>(by have:=hrange hv;omega),λh2=> ?_⟩;refine ⟨λm i F'=>∃(k:Nat) (S:List Tr),i=k/\k<=d.1.length/\m=d.1.length - k/\F1.le F'/\Cl S/\S.length=k/\brs S=d.1.take k,d.1.length,⟨0,[],rfl,by omega,rfl,r0,.nil,rfl,by simp [brs]⟩,?_⟩;rintro m i F2 ⟨k,S,rfl,hk,rfl,l2,hS,hSk,hSb⟩;unfold BK;refine ⟨s,c0 l2,λhlt=> ?_,λhge=> ?_⟩
 ·have hkd:k<d.1.length:=by omega
  refine ⟨_,rfl,ac (l2 _ _ q1),?_⟩;refine (zn (hd'.le (l1.trans l2)) hf hS hSk hkd hSb).mono ?_;rintro _ F3 ⟨rfl,l3⟩;by_cases hF:xO S d.1[k]
  ·rw [decide_eq_true hF];refine ⟨_,rfl,λh=>(by cases h),λ_=> ?_⟩;obtain ⟨v,l,h,e,hl,hh,hok,hn⟩:=hF;refine ⟨d.1.length - (k+1),by omega,k+1,S++[node v l h],i6 (by omega),by omega,rfl,l2.trans l3,.snoc hS hl hh hok hn,by simp [hSk],?_⟩;rw [eN hS hl hh,Vh hkd,hSb,e]
  ·rw [decide_eq_false hF];exact ⟨_,rfl,λ_=>bad (l1.trans (l2.trans l3)) λhv=>hF (kq hv hS hSk hkd hSb),λh=>by cases h⟩
 ·obtain rfl:k=d.1.length:=by omega
  rw [U7] at hSb;unfold BJ;have hin:inn S (tr S d.2.toNat):=gD (by omega);have hnum:((num S (tr S d.2.toNat):Nat):Int)=d.2:=by rw [f7 hS (by omega)];omega
  refine ⟨_,rfl,ac (l2 _ _ q1),s,c0 l2,_,c1 l2,?_⟩;have sp:=ko (ns:=s) (t:=tr S d.2.toNat) (by rw [hSb];exact hr.le (l1.trans l2)) hS hin (by omega);rw [hnum] at sp;refine sp.mono ?_;rintro _ F3 ⟨w,rfl,hw3,l3⟩;refine ⟨_,rfl,ac ((l2.trans l3) _ _ q1),?_⟩;refine (iD (hd'.le (l1.trans (l2.trans l3))) hw3 (by omega)).mono ?_;rintro _ F4 ⟨rfl,l4⟩;refine ⟨_,rfl,?_,l1.trans (l2.trans (l3.trans l4))⟩;have key:(d=dia (tr S d.2.toNat))↔iU d:=by
   constructor
   ·exact λe=>⟨_,hS.inn_ok hin,e⟩
   ·rintro ⟨u,hu,e⟩;have e1:brs S=brs (aL u):=by rw [hSb,e];rfl
    have e2:S=aL u:=po hS (bv hu) e1;have e3:d.2.toNat=num (aL u) u:=by rw [e];show ((num (aL u) u:Nat):Int).toNat=_;simp
    rw [e3,e2,gE (bv hu) (bI hu)];exact e
  congr 1;rw [U3,decide_eq_true_iff,decide_eq_true_iff];exact key
theorem Db (hd:DV F v d) (hf:Fit (d.1.length+4)):ai prog 197 #[.agg v] F λr F'=>r=vi (chk d)/\F.le F':=by
 have hd':=hd;obtain ⟨s,rfl,hr⟩:=hd;have hlen:=hr.blen;refine Qq ?_;unfold KD;intro b1 hb1;refine atI ?_;have l1:=ae (.cells #[s.v,vi d.2] 31) hb1;have q1:=al F b1 (.cells #[s.v,vi d.2] 31);generalize F.set b1 (.cells #[s.v,vi d.2] 31)=F1 at*;refine ⟨s,by rw [am q1];rfl,λh=>⟨?_,l1⟩,λh=> ?_⟩
 ·unfold chk;rw [if_pos (by omega)]
 ·refine ⟨_,rfl,ac q1,?_⟩;refine (Da (hd'.le l1) hf).mono ?_;rintro _ F2 ⟨rfl,l2⟩;refine ⟨_,rfl,λh2=>⟨?_,l1.trans l2⟩,λh2=>⟨?_,l1.trans l2⟩⟩
  ·unfold chk;rw [if_neg (by omega),if_neg (by simpa using h2)]
  ·unfold chk;rw [if_neg (by omega),if_pos (by simpa using h2)]
end
end Go.Proofs.YtcemhghkipgdiaaGreatDoor
