/-
  Variables beside a heap that calls work on; the links of a machine.
-/
import Derived.Test.YtcemhghkipgdiaaGreatDoorQk
import Derived.Test.YtcemhghkipgdiaaGreatDoorGbits
namespace Go.Proofs.YtcemhghkipgdiaaGreatDoor
open Go Go.Proofs.Tryz
set_option maxRecDepth 10000
theorem Qa:tsz prog 4=some (1,1):=by kernel_rfl
theorem Qb:bO prog 4=some (.bool false):=by kernel_rfl
structure GoodTo (l:List Nd) (j:Nat):Prop where
 ok:∀i x,i<j->l[i]? =some x->okN i x
 nd:(usL (l.take j)).Nodup
theorem GoodTo.zero (l:List Nd):GoodTo l 0:=⟨λi x h=>by omega,by simp [usL]⟩
theorem vE {j:Nat} {x:Nd} {W:Φ}:(okN j x/\(us x++W).Nodup)↔W.Nodup/\(0<=ar x.k/\(x.k=1->0<=x.lo/\x.lo<=x.hi/\x.hi<=255)/\(x.k≠1->x.lo=0/\x.hi=0))/\
  (ar x.k<1->x.a=0)/\(ar x.k<2->x.b=0)/\(1<=ar x.k->0<=x.a/\x.a<j/\x.a ∉ W)/\(2<=ar x.k->0<=x.b/\x.b<j/\x.b ∉ x.a::W):=by
 unfold okN us;by_cases h2:2<=ar x.k
 ·rw [if_pos h2];simp only [RM,Rj,RT,QU,not_or];constructor
  ·rintro ⟨⟨a1,a2,a3,a4,a5,a6,a7⟩,⟨n1,n2⟩,n3,n4⟩;exact ⟨n4,⟨a1,a2,a3⟩,a4,a5,λh=>⟨(a6 h).1,(a6 h).2,n3⟩,λh=>⟨(a7 h).1,(a7 h).2,n1,n2⟩⟩
  ·rintro ⟨n4,⟨a1,a2,a3⟩,a4,a5,a6,a7⟩;exact ⟨⟨a1,a2,a3,a4,a5,λh=>⟨(a6 h).1,(a6 h).2.1⟩,λh=>⟨(a7 h).1,(a7 h).2.1⟩⟩,⟨(a7 h2).2.2.1,(a7 h2).2.2.2⟩,(a6 (by omega)).2.2,n4⟩
 ·rw [if_neg h2];by_cases h1:1<=ar x.k
  ·rw [if_pos h1];simp only [RM,Rj,RT];constructor
   ·rintro ⟨⟨a1,a2,a3,a4,a5,a6,a7⟩,n3,n4⟩;exact ⟨n4,⟨a1,a2,a3⟩,a4,a5,λh=>⟨(a6 h).1,(a6 h).2,n3⟩,λh=>absurd h h2⟩
   ·rintro ⟨n4,⟨a1,a2,a3⟩,a4,a5,a6,a7⟩;exact ⟨⟨a1,a2,a3,a4,a5,λh=>⟨(a6 h).1,(a6 h).2.1⟩,λh=>absurd h h2⟩,(a6 h1).2.2,n4⟩
  ·rw [if_neg h1];simp only [Rj];constructor
   ·rintro ⟨⟨a1,a2,a3,a4,a5,a6,a7⟩,n4⟩;exact ⟨n4,⟨a1,a2,a3⟩,a4,a5,λh=>absurd h h1,λh=>absurd h h2⟩
   ·rintro ⟨n4,⟨a1,a2,a3⟩,a4,a5,a6,a7⟩;exact ⟨⟨a1,a2,a3,a4,a5,λh=>absurd h h1,λh=>absurd h h2⟩,n4⟩
theorem GoodTo.succ {l:List Nd} {j:Nat} {x:Nd} (hx:l[j]? =some x):GoodTo l (j+1)↔GoodTo l j/\okN j x/\(us x++usL (l.take j)).Nodup:=by
 have e:l.take (j+1)=l.take j++[x]:=by rw [List.take_add_one,hx];rfl
 constructor
 ·rintro ⟨h1,h2⟩;rw [e,pO] at h2;exact ⟨⟨λi y hi hy=>h1 i y (by omega) hy,(Rm.1 h2).2.1⟩,h1 j x (by omega) hx,h2⟩
 ·rintro ⟨⟨h1,h2⟩,h3,h4⟩;refine ⟨λi y hi hy=> ?_,by rw [e,pO];exact h4⟩;by_cases hij:i=j
  ·subst hij;rw [hx] at hy;cases hy;exact h3
  ·exact h1 i y (by omega) hy
theorem GoodL_iff (l:List Nd):GoodL l↔GoodTo l l.length/\(∀i:Nat,i+1<l.length->(i:Int)∈usL l)/\l≠[]:=by
 constructor
 ·rintro ⟨h1,h2,h3,h4⟩;exact ⟨⟨λi x _ hx=>h2 i x hx,by rw [Q4];exact h3⟩,h4,h1⟩
 ·rintro ⟨⟨h2,h3⟩,h4,h1⟩;rw [Q4] at h3;exact ⟨h1,λi x hx=>h2 i x (by have:=(N5.1 hx).1;omega) hx,h3,h4⟩
theorem Dp {l:List Nd} (hl:l.length<=512) (h:¬GoodL l):io l=40:=by unfold io;rw [if_neg (by omega),if_neg h]
theorem AX {l:List Nd} (hl:l.length<=512) (h:GoodL l):io l=0:=by unfold io;rw [if_neg (by omega),if_pos h]
section
variable {F:PH}
theorem mQ {s:Sl} {l:List Nd} (hs:RdS F s 5 (eT l)):aj prog 144 #[s.v] F λr F'=>r=vi (io l)/\F.le F':=by
 have hlen:=hs.nlen;refine Nt ?_;unfold HU;refine ⟨λh=>⟨?_,aq F⟩,λh=> ?_⟩
 ·have e:io l=2:=by unfold io;rw [if_pos (by omega)]
  rw [e]
 have hl:l.length<=512:=by omega
 refine cW underlying211 Qa Qb rfl (by omega) (Int.le_refl _) (by omega) (by omega) ?_;intro u hu;rw [zc1 _ rfl,N6,hlen];have em:(List.replicate l.length (Value.bool false)).toArray=(gu l.length []).toArray:=by
  congr 1;apply RZ;intro j;by_cases hj:j<l.length
  ·simp [gu,hj]
  ·rw [R1 (by simp;omega),R1 (by simp [gu];omega)]
 rw [em];refine ⟨_,rfl,λb3 hb3=> ?_⟩;refine atI ?_;have hne:u≠b3:=λe=>by rw [e,al] at hb3;cases hb3
 have hb3F:F b3=none:=by rwa [aw _ _ hne.symm] at hb3
 refine st1 (al _ _ _) (by simp) ?_;rw [ba];have hU:Usd F ((F.set u (.cells (gu l.length []).toArray 4)).set b3 (.cells #[Sl.v ⟨some ⟨u,0,none⟩,l.length,l.length⟩] 211)) b3 u l.length []:=
  ⟨hb3F,hu,av (ae _ hu) hb3F,hne,al _ _ _,by rw [aw _ _ hne];exact al _ _ _⟩
 show ∃(I2:Nat->Ω) (m2:Nat),_;have e0:(#[Value.slice Option.none 0 0]:Γ).setIfInBounds 0 (Sl.v ⟨some ⟨u,0,none⟩,l.length,l.length⟩)= #[Sl.v ⟨some ⟨u,0,none⟩,l.length,l.length⟩]:=rfl;rw [e0];generalize (F.set u (.cells (gu l.length []).toArray 4)).set b3 (.cells #[Sl.v ⟨some ⟨u,0,none⟩,l.length,l.length⟩] 211)=F1 at*;have bad:∀{F':PH},¬GoodL l->F.le F'->vi 40=vi (io l)/\F.le F':=λh hl'=>⟨by rw [Dp hl h],hl'⟩;refine ⟨λm i F'=>∃j:Nat,i=j/\j<=l.length/\m=l.length - j/\GoodTo l j/\Usd F F' b3 u l.length (usL (l.take j)),l.length,⟨0,rfl,by omega,rfl,GoodTo.zero l,by simpa [usL] using hU⟩,?_⟩;rintro _ _ F2 ⟨j,rfl,hj,rfl,hg,hW⟩;unfold zl;refine ⟨λhlt=> ?_,λhge=> ?_⟩
 ·have hjl:j<l.length:=by omega
  have hx:l[j]? =some l[j]:=N4 hjl;generalize l[j]=x at hx;obtain ⟨a,ha,hrow⟩:=rdn (hs.le hW.le) hx;refine ⟨a,ha,by omega,by omega,x.arr,rfl,hrow,λb6 hb6=> ?_⟩;refine atI ?_;refine stW (al _ _ _) rfl rfl (jc x) ?_;rw [ba];have hub:u≠b6:=aE hb6 hW.qu;have hW6:Usd F (F2.set b6 (.cells x.arr 149)) b3 u l.length (usL (l.take j)):=⟨hW.zb,hW.zu,av hW.le (aP hW.le hb6),hW.ne,by rw [aw _ _ (aE hb6 hW.qb)];exact hW.qb,by rw [aw _ _ hub];exact hW.qu⟩;have q6:=al F2 b6 (.cells x.arr 149);generalize F2.set b6 (.cells x.arr 149)=F3 at*;have j4:∀ok:Bool,(ok=true↔(0<=ar x.k/\(x.k=1->0<=x.lo/\x.lo<=x.hi/\x.hi<=255)/\(x.k≠1->x.lo=0/\x.hi=0)))->
    fk (λy2_0 F=>∃m',m'<l.length - j/\∃j:Nat,y2_0=j/\j<=l.length/\m'=l.length - j/\GoodTo l j/\Usd _ F b3 u l.length (usL (l.take j))) s b3 j b6 (ar x.k) ok (λr F'=>r=vi (io l)/\PH.le _ F') F3:=λok hok=>by
   refine Dy hW6 q6 (by omega) hub (λhn F' hl'=>bad (λhG=>hn ?_) hl') λhy F' hU'=> ?_
   ·obtain ⟨hgt,_,_⟩:=(GoodL_iff l).1 hG
    have h1:GoodTo l (j+1):=⟨λi y hi hy=>hgt.ok i y (by omega) hy,by
     have:=hgt.nd;rw [Q4] at this;have e:usL l=usL (l.drop (j+1))++usL (l.take (j+1))\/True:=.inr trivial;have hsub:∀(p q:List Nd),usL (p++q)=usL q++usL p:=by
      intro p q;induction p with
      |nil=>simp [usL]
      |cons y p ih=>simp [usL,ih]
     rw [<- List.take_append_drop (j+1) l,hsub] at this
     exact (Rm.1 this).2.1⟩
    obtain ⟨_,h3⟩:=(GoodTo.succ hx).1 h1;obtain ⟨h4,h5,h6⟩:=vE.1 h3;exact ⟨hok.2 h5,h6⟩
   ·refine ⟨l.length - (j+1),by omega,j+1,iI (by omega),hjl,rfl,?_,?_⟩
    ·exact (GoodTo.succ hx).2 ⟨hg,vE.2 ⟨hg.nd,hok.1 hy.1,hy.2⟩⟩
    ·rw [List.take_add_one,hx];show Usd F F' b3 u l.length (usL (l.take j++[x]));rw [pO];exact hU'
  have c0:F3.cell (Addr.mk b6 0 none)=some (vi x.k):=by rw [am q6];rfl
  have c1:F3.cell (Addr.mk b6 1 none)=some (vi x.lo):=by rw [am q6];rfl
  have c2:F3.cell (Addr.mk b6 2 none)=some (vi x.hi):=by rw [am q6];rfl
  have a1:x.k=1->ar x.k=0:=λh=>by unfold ar;rw [if_neg (by omega),if_neg (by omega),if_pos (by omega)]
  refine ⟨_,c0,?_⟩;refine (xF _).mono ?_;rintro _ F3' ⟨rfl,e⟩;obtain rfl:=e.symm;refine ⟨_,rfl,_,c0,λh1=>⟨_,c1,λh2=>⟨_,c1,_,c2,λh3=>⟨_,c2,j4 _ ?_⟩,λh3=>j4 _ ?_⟩,λh2=>j4 _ ?_⟩,λh1=>⟨_,c1,λh2=>j4 _ ?_,λh2=>⟨_,c2,λh3=>j4 _ ?_,λh3=>j4 _ ?_⟩⟩⟩
  ·have:=a1 h1;rw [decide_eq_true_eq];exact ⟨λh=>⟨by omega,λ_=>⟨h2,h3,h⟩,λh=>absurd h1 h⟩,λh=>(h.2.1 h1).2.2⟩
  ·exact ⟨λh=>(by cases h),λh=>absurd (h.2.1 h1).2.1 h3⟩
  ·exact ⟨λh=>(by cases h),λh=>absurd (h.2.1 h1).1 h2⟩
  ·exact ⟨λh=>(by cases h),λh=>absurd (h.2.2 h1).1 h2⟩
  ·exact ⟨λh=>(by cases h),λh=>absurd (h.2.2 h1).2 h3⟩
  ·rw [decide_eq_true_eq];exact ⟨λh=>⟨h,λh=>absurd h h1,λ_=>⟨by omega,by omega⟩⟩,λh=>h.1⟩
 ·obtain rfl:j=l.length:=by omega
  rw [Q4] at hW;unfold zk;have ew:IntKind.i64.wrap ((s.len:Int) - 1)=(l.length:Int) - 1:=by rw [hlen,aQ (by omega) (by omega)]
  refine ⟨λm i F'=>∃j:Nat,i=j/\j<=l.length/\m=l.length - j/\F'=F2/\∀i:Nat,i<j->(i:Int)∈usL l,l.length,⟨0,rfl,by omega,rfl,rfl,λi hi=>by omega⟩,?_⟩;rintro _ _ F3 ⟨j,rfl,hj',rfl,e3,hall⟩;obtain rfl:=e3.symm;unfold zj;rw [ew];refine ⟨λhlt=> ?_,λhge=> ?_⟩
  ·have hjl:j<l.length:=by omega
   have hr:F2.cell ((Addr.mk u 0 none).add (Int.toNat (j:Int)*1))=some (.bool (decide ((j:Int)∈usL l))):=by rw [N6,Rs,show (Addr.mk u 0 none).add j=⟨u,j,none⟩ by simp [Addr.add];omega,am hW.qu];exact r6 hjl
   refine ⟨_,by rw [am hW.qb];rfl,_,rfl,by omega,by simp only;omega,_,hr,λhm=>bad (λhG=> ?_) hW.le,λhm=>⟨l.length - (j+1),by omega,j+1,iI (by omega),hjl,rfl,rfl,λi hi=> ?_⟩⟩
   ·have:=hG.all j (by omega);simp [this] at hm
   ·by_cases hij:i=j
    ·subst hij;simpa using hm
    ·exact hall i (by omega)
  ·unfold zi;refine ⟨λh0=>bad (λhG=>hG.ne (R9.1 (by omega))) hW.le,λh0=>⟨?_,hW.le⟩⟩;rw [AX hl ((GoodL_iff l).2 ⟨hg,λi hi=>hall i (by omega),λe=>by rw [e] at hlen;simp at hlen;omega⟩)]
end
def Par (l:List Nd) (j k:Nat):Prop:=∃x,l[k]? =some x/\(j:Int)∈us x
inductive Up (l:List Nd):Nat->Nat->Prop where
 |refl (j:Nat):Up l j j
 |step {j k m:Nat}:Up l j k->Par l k m->Up l j m
inductive cK (l:List Nd):Nat->Lt->Δ->Prop where
 |emp {i:Nat} {x:Nd}:l[i]? =some x->x.k=0->cK l i .emp [i]
 |rng {i lo hi:Nat} {x:Nd}:l[i]? =some x->x.k=1->x.lo=lo->x.hi=hi->lo<=hi->hi<=255->cK l i (.rng i lo hi) [i]
 |seq {i a b:Nat} {x:Nd} {t u:Lt} {na nb:Δ}:l[i]? =some x->x.k=2->x.a=a->x.b=b->cK l a t na->cK l b u nb->cK l i (.seq t u) (i::na++nb)
 |alt {i a b:Nat} {x:Nd} {t u:Lt} {na nb:Δ}:l[i]? =some x->x.k=3->x.a=a->x.b=b->cK l a t na->cK l b u nb->cK l i (.alt t u) (i::na++nb)
 |rep {i a:Nat} {x:Nd} {t:Lt} {na:Δ}:l[i]? =some x->x.k=4->x.a=a->cK l a t na->cK l i (.rep t) (i::na)
theorem gS {x:Nd} (h:x.k=2\/x.k=3):us x=[x.b,x.a]:=by
 have:ar x.k=2:=by unfold ar;rw [if_neg (by omega),if_pos h]
 unfold us;rw [this];rfl
theorem Dq {x:Nd} (h:x.k=4):us x=[x.a]:=by
 have:ar x.k=1:=by unfold ar;rw [if_pos h]
 unfold us;rw [this];rfl
theorem vF {k:Int} (h:0<=ar k):k=0\/k=1\/k=2\/k=3\/k=4:=by
 unfold ar at h;split at h
 ·omega
 ·split at h
  ·omega
  ·split at h<;>omega
theorem tQ {k:Int} (h:k=2\/k=3):ar k=2:=by unfold ar;rw [if_neg (by omega),if_pos h]
theorem Dr {k:Int} (h:k=4):ar k=1:=by unfold ar;rw [if_pos h]
theorem zg {k:Int} (h:k=0\/k=1):ar k=0:=by unfold ar;rw [if_neg (by omega),if_neg (by omega),if_pos h]
section
variable {l:List Nd} (hG:GoodL l)
include hG
theorem zh:∀(n i:Nat),i<n->i<l.length->∃t ns,cK l i t ns:=by
 intro n;induction n with
 |zero=>intro i h;omega
 |succ n ih=>
  intro i hi hl;have hx:=N4 hl;have ho:=hG.ok i _ hx;generalize l[i]=x at hx ho;obtain ⟨h0,h1,h2,h3,h4,h5,h6⟩:=ho;rcases vF h0 with hk|hk|hk|hk|hk
  ·exact ⟨_,_,.emp hx hk⟩
  ·obtain ⟨a,b,c⟩:=h1 hk;exact ⟨_,_,.rng (lo:=x.lo.toNat) (hi:=x.hi.toNat) hx hk (by omega) (by omega) (by omega) (by omega)⟩
  ·have e:=tQ (k:=x.k) (.inl hk);obtain ⟨a1,a2⟩:=h5 (by omega);obtain ⟨b1,b2⟩:=h6 (by omega);obtain ⟨t,na,ht⟩:=ih x.a.toNat (by omega) (by omega);obtain ⟨u,nb,hu⟩:=ih x.b.toNat (by omega) (by omega);exact ⟨_,_,.seq hx hk (by omega) (by omega) ht hu⟩
  ·have e:=tQ (k:=x.k) (.inr hk);obtain ⟨a1,a2⟩:=h5 (by omega);obtain ⟨b1,b2⟩:=h6 (by omega);obtain ⟨t,na,ht⟩:=ih x.a.toNat (by omega) (by omega);obtain ⟨u,nb,hu⟩:=ih x.b.toNat (by omega) (by omega);exact ⟨_,_,.alt hx hk (by omega) (by omega) ht hu⟩
  ·have e:=Dr (k:=x.k) hk;obtain ⟨a1,a2⟩:=h5 (by omega);obtain ⟨t,na,ht⟩:=ih x.a.toNat (by omega) (by omega);exact ⟨_,_,.rep hx hk (by omega) ht⟩
theorem Par.lt {j k:Nat} (h:Par l j k):j<k/\k<l.length:=by
 obtain ⟨x,hx,hm⟩:=h;have hlt:=(N5.1 hx).1;obtain ⟨h0,h1,h2,h3,h4,h5,h6⟩:=hG.ok k x hx;rcases vF h0 with hk|hk|hk|hk|hk
 ·have e:=zg (k:=x.k) (.inl hk);unfold us at hm;rw [e] at hm;simp at hm
 ·have e:=zg (k:=x.k) (.inr hk);unfold us at hm;rw [e] at hm;simp at hm
 ·have e:=tQ (k:=x.k) (.inl hk);rw [gS (.inl hk)] at hm;have:=h5 (by omega);have:=h6 (by omega);simp at hm;omega
 ·have e:=tQ (k:=x.k) (.inr hk);rw [gS (.inr hk)] at hm;have:=h5 (by omega);have:=h6 (by omega);simp at hm;omega
 ·have e:=Dr (k:=x.k) hk;rw [Dq hk] at hm;have:=h5 (by omega);simp at hm;omega
omit hG in
theorem tR {j:Int}:∀(l:List Nd) {k:Nat} {x:Nd},l[k]? =some x->j∈us x->j∈usL l
 |y::l,0,x,h,hm=>by simp at h;subst h;simp [usL,hm]
 |y::l,k+1,x,h,hm=>by simp at h;simp only [usL,QX];exact .inl (tR l h hm)
omit hG in
theorem vG {j:Int}:∀(l:List Nd),(usL l).Nodup->∀{k m:Nat} {x y:Nd},l[k]? =some x->l[m]? =some y->j∈us x->j∈us y->k=m
 |z::l,hn,0,0,x,y,h1,h2,h3,h4=>rfl
 |z::l,hn,0,m+1,x,y,h1,h2,h3,h4=>by simp at h1 h2;subst h1;rw [usL] at hn;exact absurd rfl ((Rm.1 hn).2.2 j (tR l h2 h4) j h3)
 |z::l,hn,k+1,0,x,y,h1,h2,h3,h4=>by simp at h1 h2;subst h2;rw [usL] at hn;exact absurd rfl ((Rm.1 hn).2.2 j (tR l h1 h3) j h4)
 |z::l,hn,k+1,m+1,x,y,h1,h2,h3,h4=>by simp at h1 h2;rw [usL] at hn;rw [vG l (Rm.1 hn).1 h1 h2 h3 h4]
theorem Par.uniq {j k m:Nat} (h1:Par l j k) (h2:Par l j m):k=m:=by obtain ⟨x,hx,hm⟩:=h1;obtain ⟨y,hy,hn⟩:=h2;exact vG l hG.nd hx hy hm hn
omit hG in
theorem Up.head {j m:Nat} (h:Up l j m):j=m\/∃k,Par l j k/\Up l k m:=by
 induction h with
 |refl=>exact .inl rfl
 | @step k m h hp ih=>
  rcases ih with rfl|⟨c,h1,h2⟩
  ·exact .inr ⟨m,hp,.refl m⟩
  ·exact .inr ⟨c,h1,h2.step hp⟩
theorem Up.le {j m:Nat} (h:Up l j m):j<=m:=by
 induction h with
 |refl=>exact QW _
 |step _ hp ih=>have:=hp.lt hG;omega
theorem Up.chain {j a b:Nat} (ha:Up l j a) (hb:Up l j b):Up l a b\/Up l b a:=by
 induction ha with
 |refl=>exact .inl hb
 | @step k m h hp ih=>
  rcases ih with h1|h1
  ·rcases h1.head with rfl|⟨c,h2,h3⟩
   ·exact .inr ((Up.refl k).step hp)
   ·rw [h2.uniq hG hp] at h3;exact .inl h3
  ·exact .inr (h1.step hp)
omit hG in
theorem oa {i:Nat} {t:Lt} {ns:Δ} (h:cK l i t ns):∀j∈ns,Up l j i:=by
 induction h with
 | @emp i x hx hk=>intro j hj;simp at hj;subst hj;exact .refl _
 | @rng i lo hi x hx hk _ _ _ _=>intro j hj;simp at hj;subst hj;exact .refl _
 | @seq i a b x t u na nb hx hk ha hb h1 h2 i1 i2=>
  intro j hj;simp only [RM,QU,QX] at hj;rcases hj with rfl|hj|hj
  ·exact .refl _
  ·exact (i1 j hj).step ⟨x,hx,by rw [gS (.inl hk),ha];simp⟩
  ·exact (i2 j hj).step ⟨x,hx,by rw [gS (.inl hk),hb];simp⟩
 | @alt i a b x t u na nb hx hk ha hb h1 h2 i1 i2=>
  intro j hj;simp only [RM,QU,QX] at hj;rcases hj with rfl|hj|hj
  ·exact .refl _
  ·exact (i1 j hj).step ⟨x,hx,by rw [gS (.inr hk),ha];simp⟩
  ·exact (i2 j hj).step ⟨x,hx,by rw [gS (.inr hk),hb];simp⟩
 | @rep i a x t na hx hk ha h1 i1=>
  intro j hj;simp only [QU] at hj;rcases hj with rfl|hj
  ·exact .refl _
  ·exact (i1 j hj).step ⟨x,hx,by rw [Dq hk,ha];simp⟩
theorem Nc {i a b:Nat} {x:Nd} (hx:l[i]? =some x) (hk:x.k=2\/x.k=3) (ha:x.a=a) (hb:x.b=b):a≠b:=by
 intro e;have hn:=hG.nd;have hsub:∀(l:List Nd) (i:Nat),l[i]? =some x->(usL l).Nodup->(us x).Nodup:=by
  intro l;induction l with
  |nil=>intro i h;simp at h
  |cons y l ih=>
   intro i h hn;rw [usL] at hn;cases i with
   |zero=>simp at h;subst h;exact (Rm.1 hn).2.1
   |succ i=>simp at h;exact ih i h (Rm.1 hn).1
 have:=hsub l i hx hn;rw [gS hk,ha,hb,e] at this;simp at this
theorem HN {i a b j:Nat} {x:Nd} (hx:l[i]? =some x) (hk:x.k=2\/x.k=3) (ha:x.a=a) (hb:x.b=b) (h1:Up l j a) (h2:Up l j b):False:=by
 have pa:Par l a i:=⟨x,hx,by rw [gS hk,ha];simp⟩;have pb:Par l b i:=⟨x,hx,by rw [gS hk,hb];simp⟩;have hne:=Nc hG hx hk ha hb;rcases h1.chain hG h2 with h|h
 ·rcases h.head with e|⟨c,h3,h4⟩
  ·exact hne e
  ·rw [h3.uniq hG pa] at h4;have:=h4.le hG;have:=pb.lt hG;omega
 ·rcases h.head with e|⟨c,h3,h4⟩
  ·exact hne e.symm
  ·rw [h3.uniq hG pb] at h4;have:=h4.le hG;have:=pa.lt hG;omega
end
section
variable {F:PH}
open Classical in
noncomputable def bL (l:List Nd):Lt:=if h:GoodL l then (zh h (l.length) (l.length - 1) (by have:=Sv.2 h.ne;omega) (by have:=Sv.2 h.ne;omega)).choose else .emp
theorem jM {l:List Nd} (h:GoodL l):∃ns,cK l (l.length - 1) (bL l) ns:=by unfold bL;rw [dif_pos h];exact (zh h (l.length) (l.length - 1) (by have:=Sv.2 h.ne;omega) (by have:=Sv.2 h.ne;omega)).choose_spec
theorem AY {l:List Nd} (h:io l=0):GoodL l/\l.length<=512:=by
 unfold io at h;split at h
 ·omega
 ·split at h
  ·rename_i hg;exact ⟨hg,by omega⟩
  ·omega
end
structure Lo (G F:PH) (xs:List (Nat×Γ×TypeId)):Prop where
 le:G.le F
 z:∀p∈xs,F p.1=some (.cells p.2.1 p.2.2)/\G p.1=none
 nd:(xs.map (·.1)).Nodup
theorem Lo.start (F:PH):Lo F F []:=⟨aq F,λp hp=>(by cases hp),List.nodup_nil⟩
section
variable {F G:PH} {xs:List (Nat×Γ×TypeId)}
theorem Lo.get (h:Lo G F xs) {b:Nat} {w:Γ} {e:TypeId} (hm:(b,w,e)∈xs):F b=some (.cells w e):=(h.z _ hm).1
theorem Lo.row (h:Lo G F xs) {b:Nat} {w:Γ} {e:TypeId} (hm:(b,w,e)∈xs):F.row (Addr.mk b 0 none) w:=ac (h.z _ hm).1
theorem Lo.cell (h:Lo G F xs) {b i:Nat} {w:Γ} {e:TypeId} (hm:(b,w,e)∈xs):F.cell (Addr.mk b i none)=w[i]? :=am (h.z _ hm).1
theorem Lo.call {f:FuncId} {args:Γ} {P:Value->Ψ} (h:Lo G F xs) (s:aj prog f args G P):aj prog f args F λr F'=>∃G',P r G'/\Lo G' F' xs:=
 (s.upon h.le).mono λr F' ⟨G',hp,hl,hk⟩=>⟨G',hp,hl,λp hp=>by
  obtain ⟨a,b⟩:=h.z p hp
  exact hk _ _ b a,h.nd⟩
theorem Lo.new (h:Lo G F xs) (c:Γ) (e:TypeId) {K:Nat->Ψ} (k:∀b F',Lo G F' ((b,c,e)::xs)->K b F'):∀b,F b=none->atF (F.set b (.cells c e)) (K b):=by
 intro b hb;refine atI ?_;have hne:∀p∈xs,p.1≠b:=λp hp=>aE hb (h.z p hp).1;refine k b _ ⟨aa h.le (ae _ hb),λp hp=> ?_,?_⟩
 ·rcases QU.1 hp with rfl|hp
  ·exact ⟨al _ _ _,aP h.le hb⟩
  ·obtain ⟨a,c⟩:=h.z p hp;exact ⟨(aw _ _ (hne p hp)).trans a,c⟩
 ·rw [Rh,RT];refine ⟨λhm=> ?_,h.nd⟩;obtain ⟨p,hp,e⟩:=Q5.1 hm;exact hne p hp e
theorem Lo.upd (l1 l2:List (Nat×Γ×TypeId)) {b:Nat} {w0 w:Γ} {e:TypeId} (h:Lo G F (l1++(b,w0,e)::l2)) {F':PH} (hb:F' b=some (.cells w e)) (hk:cC (λx=>x=b) F F'):Lo G F' (l1++(b,w,e)::l2):=by
 obtain ⟨q,g⟩:=h.z (b,w0,e) (by simp);have nd:=h.nd;rw [RB,Rh] at nd;have hne:∀p,p∈l1\/p∈l2->p.1≠b:=λp hp e=>by
  obtain ⟨_,n2,n3⟩:=Rm.1 nd;rcases hp with hp|hp
  ·exact n3 p.1 (Q5.2 ⟨p,hp,rfl⟩) b (by simp) e
  ·exact (RT.1 n2).1 (Q5.2 ⟨p,hp,e⟩)
 have hkp:∀p,p∈l1\/p∈l2->F' p.1=some (.cells p.2.1 p.2.2)/\G p.1=none:=λp hp=>by obtain ⟨a,c⟩:=h.z p (by simp only [QX,QU];rcases hp with hp|hp<;>simp [hp]);exact ⟨hk _ _ a (hne p hp),c⟩
 refine ⟨λx o hx=>hk x o (h.le x o hx) λe=>(by rw [e] at hx;rw [g] at hx;cases hx),λp hp=> ?_,by rw [RB,Rh];exact nd⟩;rcases QX.1 hp with hp|hp
 ·exact hkp p (.inl hp)
 ·rcases QU.1 hp with rfl|hp
  ·exact ⟨hb,g⟩
  ·exact hkp p (.inr hp)
theorem Lo.put (l1 l2:List (Nat×Γ×TypeId)) {b n:Nat} {w0 w:Γ} {e:TypeId} (h:Lo G F (l1++(b,w0,e)::l2)) (h1:w.size=n) (h2:w0.size=n) (hst:∀v∈w.toList,ak v)
  {K:Ψ} (k:∀F',Lo G F' (l1++(b,w,e)::l2)->K F'):
  w.size=n/\(∀v∈w.toList,ak v)/\∃c e,F (Addr.mk b 0 none).block=some (.cells c e (0,0))/\(Addr.mk b 0 none).spot=none/\(Addr.mk b 0 none).off+n<=c.size/\
   atF (F.set (Addr.mk b 0 none).block (.cells (wr c (Addr.mk b 0 none).off w.toList) e)) K:=by
 obtain ⟨q,g⟩:=h.z (b,w0,e) (by simp);refine stW q h1 h2 hst (k _ (h.upd l1 l2 (al _ _ _) (cC.set _ (.inl rfl))))
theorem Lo.put1 (l1 l2:List (Nat×Γ×TypeId)) {b i:Nat} {w0 w:Γ} {v:Value} {e:TypeId} (h:Lo G F (l1++(b,w0,e)::l2)) (h2:i<w0.size) (hw:w0.setIfInBounds i v=w)
  {K:Ψ} (k:∀F',Lo G F' (l1++(b,w,e)::l2)->K F'):
  ∃c e,F (Addr.mk b i none).block=some (.cells c e (0,0))/\(Addr.mk b i none).spot=none/\(Addr.mk b i none).off<c.size/\
   atF (F.set (Addr.mk b i none).block (.cells (c.setIfInBounds (Addr.mk b i none).off v) e)) K:=by
 obtain ⟨q,g⟩:=h.z (b,w0,e) (by simp);subst hw;exact st1 (o:=i) q h2 (k _ (h.upd l1 l2 (al _ _ _) (cC.set _ (.inl rfl))))
theorem Lo.join (l1 l2:List (Nat×Γ×TypeId)) {b:Nat} {P Q:Nat->Bool} (h:Lo G F (l1++(b,plA P,229)::l2)):
  aj prog 205 #[pa b,.agg (plA Q)] F λr F'=>r=.tuple #[]/\Lo G F' (l1++(b,plA (λi=>P i || Q i),229)::l2):=by
 obtain ⟨q,g⟩:=h.z (b,plA P,229) (by simp);refine (r4 (Q:=Q) (jl.own.2 q)).mono ?_;rintro _ F' ⟨rfl,hs,hk⟩;exact ⟨rfl,h.upd l1 l2 (jl.own.1 hs) hk⟩
theorem Lo.add (l1 l2:List (Nat×Γ×TypeId)) {b i:Nat} {P:Nat->Bool} (hi:i<512) (h:Lo G F (l1++(b,plA P,229)::l2)):
  aj prog 207 #[pa b,vi i] F λr F'=>r=.tuple #[]/\Lo G F' (l1++(b,plA (λj=>P j || decide (j=i)),229)::l2):=by
 obtain ⟨q,g⟩:=h.z (b,plA P,229) (by simp);refine (A0 hi q).mono ?_;rintro _ F' ⟨rfl,rfl⟩;exact ⟨rfl,h.upd l1 l2 (al _ _ _) (cC.set _ (.inl rfl))⟩
end
def cO (n:Nat) (R:Nat->Nat->Bool):Ξ:=(List.range n).flatMap λi=>(plA (R i)).toList
theorem tS (n:Nat) (R:Nat->Nat->Bool):(cO n R).length=n*8:=by
 unfold cO;induction n with
 |zero=>rfl
 |succ n ih=>rw [ST,Sw,QY,ih];simp [plA];omega
theorem pL {f g:Nat->Ξ}:∀{l:Δ},(∀j∈l,f j=g j)->l.flatMap f=l.flatMap g
 |[],_=>rfl
 |a::l,h=>by rw [RC,RC,h a (by simp),pL λj hj=>h j (by simp [hj])]
theorem vH (f:Nat->Ξ) {n i:Nat} (hi:i<n):(List.range n).flatMap f=(List.range i).flatMap f++f i++((List.range (n - i - 1)).map (· +(i+1))).flatMap f:=by
 have:List.range n=List.range i++[i]++(List.range (n - i - 1)).map (· +(i+1)):=by
  have h1:n=(i+1)+(n - i - 1):=by omega
  rw [h1,List.range_add,ST,show i+1+(n - i - 1) - i - 1=n - i - 1 by omega];congr 1;apply SM;intro a _;omega
 rw [this,Sw,Sw,RC,List.flatMap_nil,RA]
theorem mR {n:Nat} {R S:Nat->Nat->Bool} (h:∀i,i<n->R i=S i):cO n R=cO n S:=by unfold cO;exact pL λj hj=>by rw [h j (RN.1 hj)]
theorem mT {n i:Nat} (hi:i<n) (R:Nat->Nat->Bool):∃pre post,pre.length=i*8/\cO n R=pre++(plA (R i)).toList++post/\∀R',(∀j,j≠i->R' j=R j)->cO n R'=pre++(plA (R' i)).toList++post:=by
 refine ⟨cO i R,((List.range (n - i - 1)).map (· +(i+1))).flatMap (λj=>(plA (R j)).toList),tS i R,vH _ hi,λR' h=> ?_⟩;have e:=vH (λj=>(plA (R' j)).toList) hi;have e1:cO i R'=cO i R:=mR λj hj=>h j (by omega);have e2:((List.range (n - i - 1)).map (· +(i+1))).flatMap (λj=>(plA (R' j)).toList)=((List.range (n - i - 1)).map (· +(i+1))).flatMap (λj=>(plA (R j)).toList):=pL λj hj=>by obtain ⟨a,_,rfl⟩:=Q5.1 hj;rw [h _ (by omega)]
 rw [e2] at e;rw [<- e1];exact e
structure Lnk (F:PH) (b3 bm bf n:Nat) (R:Nat->Nat->Bool):Prop where
 tab:Tab F
 q3:F b3=some (.cells #[pa bm] 226)
 q17:∃mc,F bm=some (.cells mc 232)/\mc[17]? =some (Sl.v ⟨some ⟨bf,0,none⟩,n,n⟩)
 qf:F bf=some (.cells (cO n R).toArray 229)
theorem Lnk.keep {F F':PH} {b3 bm bf n:Nat} {R R':Nat->Nat->Bool} (h:Lnk F b3 bm bf n R) (hk:cC (λx=>x=bf) F F') (hf:F' bf=some (.cells (cO n R').toArray 229)) (h0:bf≠0):Lnk F' b3 bm bf n R':=by
 obtain ⟨tab,q3,⟨mc,qm,h17⟩,qf⟩:=h;refine ⟨λk v hv=> ?_,hk _ _ q3 λe=> ?_,⟨mc,hk _ _ qm λe=> ?_,h17⟩,hf⟩
 ·have:=tab k v hv;unfold PH.cell at this ⊢;cases hz:F 0 with
  |none=>rw [hz] at this;cases this
  |some o=>rw [hz] at this;rw [hk _ _ hz h0.symm];exact this
 ·rw [e,qf] at q3;simp at q3
 ·rw [e,qf] at qm;simp at qm
theorem Lnk.le {F F':PH} {b3 bm bf n:Nat} {R:Nat->Nat->Bool} (h:Lnk F b3 bm bf n R) (hl:F.le F'):Lnk F' b3 bm bf n R:=by obtain ⟨tab,q3,⟨mc,qm,h17⟩,qf⟩:=h;exact ⟨tab.le hl,hl _ _ q3,⟨mc,hl _ _ qm,h17⟩,hl _ _ qf⟩
section
variable {F:PH} {b3 bm bf n:Nat} {R:Nat->Nat->Bool}
theorem xE (h:Lnk F b3 bm bf n R) (h0:bf≠0) {i bt:Nat} {Q:Nat->Bool} (hi:i<n) (ht:F bt=some (.cells (plA Q) 229)) (_:bt≠bf):
  aj prog 204 #[vi i,pa b3,pa bt] F λr F'=>r=.tuple #[]/\Lnk F' b3 bm bf n (λk j=>R k j || (decide (k=i) && Q j))/\cC (λx=>x=bf) F F':=by
 obtain ⟨tab,q3,⟨mc,qm,h17⟩,qf⟩:=id h;refine ND ?_;unfold Ic;obtain ⟨pre,post,hpre,hsp,hup⟩:=mT hi R;have c3:F.cell (Addr.mk b3 0 none)=some (pa bm):=by rw [am q3];rfl
 have c17:F.cell ((Addr.mk bm 0 none).add 17)=some (Sl.v ⟨some ⟨bf,0,none⟩,n,n⟩):=by rw [cf,Q8,am qm];exact h17
 refine ⟨_,rfl,_,c3,_,rfl,_,c17,_,rfl,by omega,by simp only;omega,_,rfl,plA Q,rfl,ac ht,?_⟩;have ea:(Addr.mk bf 0 none).add (Int.toNat (i:Int)*8)=⟨bf,pre.length,none⟩:=by rw [cf,Q8,N6,hpre]
 rw [ea];have hs:jl F bf 229 pre (R i) post:=by unfold jl;rw [<- hsp];exact qf
 refine (r4 (Q:=Q) hs).mono ?_;rintro _ F' ⟨rfl,hs',hk⟩;have e:∀k,k≠i->(λk j=>R k j || (decide (k=i) && Q j)) k=R k:=λk hk=>by funext j;simp [hk]
 have hL:Lnk F' b3 bm bf n (λk j=>R k j || (decide (k=i) && Q j)):=h.keep hk (by
  rw [hup _ e];have:(λj=>R i j || (decide (i=i) && Q j))=λj=>R i j || Q j:=by funext j;simp
  show F' bf=some (.cells (pre++(plA (λj=>R i j || (decide (i=i) && Q j))).toList++post).toArray 229);rw [this]
  exact hs') h0
 obtain ⟨mc',qm',h17'⟩:=hL.q17;exact ⟨rfl,by rw [cf,Q8,am qm'];exact h17',by rw [am hL.q3];rfl,rfl,hL,hk⟩
theorem JZ:aB prog 204=true:=by kernel_rfl
theorem rZ (h:Lnk F b3 bm bf n R) (h0:bf≠0) (hn:n<=512) {P Q:Nat->Bool} (hP:∀i,P i=true->i<n):
  aj prog 202 #[.agg (plA P),.agg (plA Q),pa b3] F λr F'=>r=.tuple #[]/\Lnk F' b3 bm bf n (λk j=>R k j || (P k && Q j))/\cC (λx=>x=bf) F F':=by
 refine NB ?_;unfold Ia;intro c hc;refine atI ?_;have lc:=ae (.cells (plA P) 229) hc;have qc:=al F c (.cells (plA P) 229);generalize F.set c (.cells (plA P) 229)=F1 at*;intro d hd;refine atI ?_;have ld:=ae (.cells (plA Q) 229) hd;have qd:=al F1 d (.cells (plA Q) 229);have qc':=ld _ _ qc;generalize F1.set d (.cells (plA Q) 229)=F2 at*;have hcf:c≠bf:=λe=>by rw [e,h.qf] at hc;cases hc
 have hdf:d≠bf:=λe=>by rw [e,lc _ _ h.qf] at hd;cases hd
 have l2:=aa lc ld
 refine (r5 (a:=⟨c,0,none⟩) (P:=P) (k:=204) (cap:= #[pa b3,pa d]) (Inv:=λm F'=>Lnk F' b3 bm bf n (λk j=>R k j || (decide (k<m) && P k && Q j))/\cC (λx=>x=bf) F2 F') JZ rfl
  (λm F' hI=>⟨hI.1.tab,ac (hI.2 _ _ qc' hcf)⟩) (λi F' hi hp hI=> ?_) (λi F' hi hp hI=> ?_) ⟨?_,cC.refl _ _⟩).mono ?_
 ·refine ⟨?_,hI.2⟩;have:(λk j=>R k j || (decide (k<i+1) && P k && Q j))=λk j=>R k j || (decide (k<i) && P k && Q j):=by
   funext k j;by_cases hk:k=i
   ·subst hk;simp [hp]
   ·rw [show decide (k<i+1)=decide (k<i) by rw [Q0];simp;omega]
  rw [this];exact hI.1
 ·refine (xE hI.1 h0 (hP i hp) (hI.2 _ _ qd hdf) hdf).mono ?_;rintro _ F'' ⟨rfl,hL,hk⟩;refine ⟨rfl,?_,hI.2.trans hk⟩;have:(λk j=>(R k j || (decide (k<i) && P k && Q j)) || (decide (k=i) && Q j))=λk j=>R k j || (decide (k<i+1) && P k && Q j):=by
   funext k j;by_cases hk:k=i
   ·subst hk;simp [hp]
   ·rw [show decide (k<i+1)=decide (k<i) by rw [Q0];simp;omega];simp [hk]
  rw [<- this];exact hL
 ·have:(λk j=>R k j || (decide (k<0) && P k && Q j))=R:=by funext k j;simp
  rw [this];exact h.le l2
 ·rintro _ F' ⟨rfl,hL,hk⟩;refine ⟨rfl,rfl,?_,λx o hx hn=>hk x o (l2 _ _ hx) hn⟩;have:Lnk F' b3 bm bf n (λk j=>R k j || (P k && Q j)):=by
   refine ⟨hL.tab,hL.q3,hL.q17,?_⟩;have e:cO n (λk j=>R k j || (P k && Q j))=cO n (λk j=>R k j || (decide (k<512) && P k && Q j)):=by refine mR λi hi=> ?_;funext j;rw [show decide (i<512)=true by simp;omega,Sq]
   rw [e];exact hL.qf
  exact this
end
end Go.Proofs.YtcemhghkipgdiaaGreatDoor
