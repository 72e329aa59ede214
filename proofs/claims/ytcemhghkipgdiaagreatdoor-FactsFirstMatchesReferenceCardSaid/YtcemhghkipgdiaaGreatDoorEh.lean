/-
  The diagrams: an operation on three diagrams: the walk.
-/
import Derived.Test.YtcemhghkipgdiaaGreatDoorGkoineref04
open Option renaming some->Y3,none->Y5
open Go.Obj renaming cells->Y4
open Bool renaming false->Y6,true->Y8
open Go.Value renaming agg->Y9,bool->Za,pointer->Ze,int->Zf,string->Zg,tuple->Zh
open Go.Addr renaming add->Zb,mk->Zc
open Int renaming toNat->Zd
noncomputable section
namespace Go.Proofs.YtcemhghkipgdiaaGreatDoor
open Go.IntKind (i64 u8 u64)
open Go Go.Proofs.Tryz
set_option maxRecDepth 10000
section
variable {F:PH}
theorem rdn {s:Sl} {l:List Nd} (h:RdS F s 5 (dW l)) {i:Nat} {x:Nd} (hx:l[i]? =Y3 x):∃a,s.YZ=Y3 a/\F.row (a.add (i*5)) x.arr:=by
 obtain ⟨hi,hx⟩:=N6.1 hx;subst hx;have hlen:=h.nlen;obtain ⟨b,o,hb,_⟩:=h.cells (by omega)
 exact ⟨_,hb,h.row hb (i*5) l[i].arr (by
  have:=uk l i hi
  simpa [Nd.arr,Nd.cells] using this.symm)⟩
def mb (k:Int):Int:=if k=4 then 1 else if k=2\/k=3 then 2 else 0
def eM (k:Int):Bool:=decide (0<=k/\k<=4)
theorem kA (F:PH) (k:Int):ν 212 #[vi k] F λr F'=>r=Zh #[vi (mb k),Za (eM k)]/\F'=F:=by
 refine T6 ?_;unfold Nu;have j1:∀t:Bool,t=decide (k=0\/k=1)->p7 k t (λr F'=>r=Zh #[vi (mb k),Za (eM k)]/\F'=F) F:=λt ht=>by
  unfold p7;refine ⟨λh=>⟨?_,rfl⟩,λh=> ?_⟩
  ·have:=ε (ht.symm.trans h);have e1:mb k=0:=by unfold mb;rw [Υ (by omega),Υ (by omega)]
   have e2:eM k=Y8:=by unfold eM;simp;omega
   rw [e1,e2]
  ·have h01:=η (ht.symm.trans h);refine ⟨λh4=>⟨?_,rfl⟩,λh4=>⟨λh2=>⟨λ_=>⟨?_,rfl⟩,λh=>absurd h2 h⟩,λh2=>⟨λh3=>⟨?_,rfl⟩,λh3=>⟨?_,rfl⟩⟩⟩⟩
   ·have e1:mb k=1:=by unfold mb;rw [Χ (by omega)]
    have e2:eM k=Y8:=by unfold eM;simp;omega
    rw [e1,e2]
   ·have e1:mb k=2:=by unfold mb;rw [Υ (by omega),Χ (by omega)]
    have e2:eM k=Y8:=by unfold eM;simp;omega
    rw [e1,e2]
   ·have e1:mb k=2:=by unfold mb;rw [Υ (by omega),Χ (by omega)]
    have e2:eM k=Y8:=by unfold eM;simp;omega
    rw [e1,e2]
   ·have e1:mb k=0:=by unfold mb;rw [Υ (by omega),Υ (by omega)]
    have e2:eM k=Y6:=by unfold eM;simp;omega
    rw [e1,e2]
 refine ⟨λh=>j1 _ ?_,λh=>j1 _ ?_⟩
 ·rw [Xc];simp;omega
 ·rw [Xc];simp;omega
end
def ar (k:Int):Int:=if k=4 then 1 else if k=2\/k=3 then 2 else if k=0\/k=1 then 0 else -1
def okN (i:Nat) (x:Nd):Prop:=0<=ar x.k/\(x.k=1->0<=x.lo/\x.lo<=x.hi/\x.hi<=255)/\(x.k≠1->x.lo=0/\x.hi=0)/\(ar x.k<1->x.a=0)/\(ar x.k<2->x.b=0)/\
 (1<=ar x.k->0<=x.a/\x.a<i)/\(2<=ar x.k->0<=x.b/\x.b<i)
def us (x:Nd):Φ:=if 2<=ar x.k then [x.b,x.a] else if 1<=ar x.k then [x.a] else []
def usL:List Nd->Φ
 |[]=>[]
 |x::l=>usL l++us x
theorem jx (l:List Nd) (x:Nd):usL (l++[x])=us x++usL l:=by
 induction l with
 |nil=>simp [usL]
 |cons y l ih=>simp [usL,ih]
structure GoodL (l:List Nd):Prop where
 ne:l≠[]
 ok:∀i x,l[i]? =Y3 x->okN i x
 nd:(usL l).Nodup
 all:∀i:Nat,i+1<l.length->(i:Int)∈usL l
open Classical in
def fH (l:List Nd):Int:=if 512<l.length then 2 else if GoodL l then 0 else 40
section
variable {F0 F:PH}
theorem Ab (k:Int):ν 183 #[vi k] F λr F'=>r=vi (ar k)/\F'=F:=by
 refine TO ?_;unfold Na;have j1:∀t:Bool,t=decide (k=0\/k=1)->pV k t (λr F'=>r=vi (ar k)/\F'=F) F:=λt ht=>by
  unfold pV;refine ⟨λh=>⟨?_,rfl⟩,λh=> ?_⟩
  ·have:=ε (ht.symm.trans h);have e1:ar k=0:=by unfold ar;rw [Υ (by omega),Υ (by omega),Χ (by omega)]
   rw [e1]
  ·have h01:=η (ht.symm.trans h);refine ⟨λh4=>⟨?_,rfl⟩,λh4=>⟨λh2=>⟨λ_=>⟨?_,rfl⟩,λh=>absurd h2 h⟩,λh2=>⟨λh3=>⟨?_,rfl⟩,λh3=>⟨?_,rfl⟩⟩⟩⟩
   ·have e1:ar k=1:=by unfold ar;rw [Χ (by omega)]
    rw [e1]
   ·have e1:ar k=2:=by unfold ar;rw [Υ (by omega),Χ (by omega)]
    rw [e1]
   ·have e1:ar k=2:=by unfold ar;rw [Υ (by omega),Χ (by omega)]
    rw [e1]
   ·have e1:ar k= -1:=by unfold ar;rw [Υ (by omega),Υ (by omega),Υ (by omega)]
    rw [e1]
 refine ⟨λh=>j1 _ ?_,λh=>j1 _ ?_⟩
 ·rw [Xc];simp;omega
 ·rw [Xc];simp;omega
def ig (n:Nat) (W:Φ):Ξ:=(List.range n).map λ(i:Nat)=>Za (decide ((i:Int)∈W))
structure Usd (F0 F:PH) (b u n:Nat) (W:Φ):Prop where
 zb:F0 b=Y5
 zu:F0 u=Y5
 le:F0.le F
 ne:u≠b
 qb:F b=Y3 (Y4 #[Sl.v ⟨Y3 ⟨u,0,Y5⟩,n,n⟩] 211)
 qu:F u=Y3 (Y4 (ig n W).toArray 4)
theorem D5 (n:Nat) (W:Φ) (i:Nat) (hi:i<n):(ig n W).toArray.setIfInBounds i (Za Y8)=(ig n ((i:Int)::W)).toArray:=by
 apply Array.ext';rw [Array.toList_setIfInBounds];apply XR;intro j;rw [Yt];simp only [ig,Xd,XI,Xj];by_cases h:i=j
 ·subst h;rw [Χ rfl,Χ hi,XF hi];simp
 ·rw [Υ h];by_cases hj:j<n
  ·rw [XF hj];simp only [XT,W6];congr 2;rw [Xc];simp only [δ];constructor
   ·exact .inr
   ·rintro (e|e)
    ·omega
    ·exact e
  ·rw [XC (by simp;omega)];rfl
theorem t8 {n:Nat} {W:Φ} {i:Nat} (hi:i<n):(ig n W).toArray[i]? =Y3 (Za (decide ((i:Int)∈W))):=by simp [ig,hi]
theorem rS {b u n:Nat} {W:Φ} (h:Usd F0 F b u n W) (i:Int) {at_:Nat} (ha:at_<=n):
  ν 182 #[vi i,vi at_,pa b] F λr F'=>((0<=i/\i<at_/\i ∉ W)/\r=Za Y8/\Usd F0 F' b u n (i::W)/\∀x,x≠u->F' x=F x)\/(¬(0<=i/\i<at_/\i ∉ W)/\r=Za Y6/\F'=F):=by
 refine TN ?_;unfold M9;refine ⟨λh0=> .inr ⟨by omega,rfl,rfl⟩,λh0=>⟨λh1=> .inr ⟨by omega,rfl,rfl⟩,λh1=> ?_⟩⟩;obtain ⟨k,rfl⟩:=XW (by omega:0<=i);have hk:k<n:=by omega
 have hr:F.cell ((Zc u 0 Y5).add (Zd (k:Int)*1))=Y3 (Za (decide ((k:Int)∈W))):=by rw [N4,Xz,show (Zc u 0 Y5).add k=⟨u,k,Y5⟩ by simp [Zb];omega,aq h.qu];exact t8 hk
 have hc:F.cell ⟨b,0,Y5⟩=Y3 (Sl.v ⟨Y3 ⟨u,0,Y5⟩,n,n⟩):=by rw [aq h.qb];rfl
 refine ⟨_,rfl,_,hc,_,rfl,by omega,by simp only;omega,_,hr,λhm=> .inr ⟨λhn=>hn.2.2 (ε hm),rfl,rfl⟩,λhm=>⟨_,hc,_,rfl,by omega,by simp only;omega,?_⟩⟩;have hm:=η hm;refine sE (b:=u) (o:=k) (by rw [N4,Xz];simp [Zb];omega) h.qu (by simp [ig];exact hk) ?_;refine .inl ⟨⟨by omega,by omega,hm⟩,rfl,⟨h.zb,h.zu,aw h.le h.zu,h.ne,?_,?_⟩,λx hx=>az _ _ hx⟩
 ·rw [az _ _ h.ne.symm];exact h.qb
 ·show (F.set u (Y4 ((ig n W).toArray.setIfInBounds k (Za Y8)) 4)) u=_;rw [D5 n W k hk];exact al _ _ _
theorem Gg {s:Sl} {b u n b6 j:Nat} {W:Φ} {x:Nd} {ok:Bool} {N:Ω} {R:ξ->Ψ} (h:Usd F0 F b u n W) (q6:F b6=Y3 (Y4 x.arr 149)) (hj:j<=n) (hu:u≠b6)
  (bad:¬(ok=Y8/\(ar x.k<1->x.a=0)/\(ar x.k<2->x.b=0)/\(1<=ar x.k->0<=x.a/\x.a<j/\x.a ∉ W)/\(2<=ar x.k->0<=x.b/\x.b<j/\x.b ∉ x.a::W))->∀F',F0.le F'->R (vi 40) F')
  (good:(ok=Y8/\(ar x.k<1->x.a=0)/\(ar x.k<2->x.b=0)/\(1<=ar x.k->0<=x.a/\x.a<j/\x.a ∉ W)/\(2<=ar x.k->0<=x.b/\x.b<j/\x.b ∉ x.a::W))->∀F',Usd F0 F' b u n (us x++W)->N (i64.wrap ((j:Int)+1)) F'):
  fW N s b j b6 (ar x.k) ok R F:=by
 have cA:∀{F':PH},F' b6=Y3 (Y4 x.arr 149)->F'.cell (Zc b6 3 Y5)=Y3 (vi x.a):=λh=>by rw [aq h];rfl
 have cB:∀{F':PH},F' b6=Y3 (Y4 x.arr 149)->F'.cell (Zc b6 4 Y5)=Y3 (vi x.b):=λh=>by rw [aq h];rfl
 unfold fW;refine ⟨λhk=>bad (λhg=>by rw [hg.1] at hk;cases hk) _ h.le,λhk=> ?_⟩;have hok:ok=Y8:=by simpa using hk
 refine ⟨λh1=>⟨_,cA q6,λha=>bad (λhg=>ha (hg.2.1 h1)) _ h.le,λha=>⟨λh2=>⟨_,cB q6,λhb=>bad (λhg=>hb (hg.2.2.1 h2)) _ h.le,λhb=>⟨λh3=>absurd h3 (by omega),λh3=>⟨λh4=>absurd h4 (by omega),λh4=> ?_⟩⟩⟩,λh2=>absurd h2 (by omega)⟩⟩,
  λh1=>⟨λh2=>⟨_,cB q6,λhb=>bad (λhg=>hb (hg.2.2.1 h2)) _ h.le,λhb=>⟨λh3=>⟨_,cA q6,?_⟩,λh3=>absurd h3 (by omega)⟩⟩,λh2=>⟨λh3=>⟨_,cA q6,?_⟩,λh3=>absurd h3 (by omega)⟩⟩⟩
 ·unfold cj;refine good ⟨hok,λ_=>by omega,λ_=>by omega,λh=>by omega,λh=>by omega⟩ _ ?_;have:us x=[]:=by unfold us;rw [Υ h4,Υ h3]
  rw [this];exact h
 ·refine (rS h x.a hj).mono ?_;rintro _ F2 (⟨hg,rfl,h2',hk2⟩|⟨hg,rfl,rfl⟩)
  ·refine ⟨_,rfl,λh=>by simp at h,λ_=>⟨λh4=>absurd h4 (by omega),λh4=> ?_⟩⟩;unfold cj;refine good ⟨hok,λ_=>by omega,λ_=>by omega,λ_=>hg,λh=>by omega⟩ _ ?_;have:us x=[x.a]:=by unfold us;rw [Υ h4,Χ h3]
   rw [this];exact h2'
  ·exact ⟨_,rfl,λ_=>bad (λhg2=>hg (hg2.2.2.2.1 h3)) _ h.le,λh=>by simp at h⟩
 ·refine (rS h x.a hj).mono ?_;rintro _ F2 (⟨hg,rfl,h2',hk2⟩|⟨hg,rfl,rfl⟩)
  ·have q6':F2 b6=Y3 (Y4 x.arr 149):=(hk2 _ hu.symm).trans q6;refine ⟨_,rfl,λh=>by simp at h,λ_=>⟨λh4=>⟨_,cB q6',?_⟩,λh4=>absurd h4 (by omega)⟩⟩;refine (rS h2' x.b hj).mono ?_;rintro _ F3 (⟨hg3,rfl,h3',hk3⟩|⟨hg3,rfl,rfl⟩)
   ·refine ⟨_,rfl,λh=>by simp at h,λ_=> ?_⟩;unfold cj;refine good ⟨hok,λ_=>by omega,λ_=>by omega,λ_=>hg,λ_=>hg3⟩ _ ?_;have:us x=[x.b,x.a]:=by unfold us;rw [Χ h4]
    rw [this];exact h3'
   ·exact ⟨_,rfl,λ_=>bad (λhg2=>hg3 (hg2.2.2.2.2 h4)) _ h2'.le,λh=>by simp at h⟩
  ·exact ⟨_,rfl,λ_=>bad (λhg2=>hg (hg2.2.2.2.1 h3)) _ h.le,λh=>by simp at h⟩
end
theorem SD:tsz prog 4=Y3 (1,1):=by kernel_rfl
theorem SE:bO prog 4=Y3 (Za Y6):=by kernel_rfl
structure GoodTo (l:List Nd) (j:Nat):Prop where
 ok:∀i x,i<j->l[i]? =Y3 x->okN i x
 nd:(usL (l.take j)).Nodup
theorem GoodTo.zero (l:List Nd):GoodTo l 0:=⟨λi x h=>by omega,by simp [usL]⟩
theorem xW {j:Nat} {x:Nd} {W:Φ}:(okN j x/\(us x++W).Nodup)↔W.Nodup/\(0<=ar x.k/\(x.k=1->0<=x.lo/\x.lo<=x.hi/\x.hi<=255)/\(x.k≠1->x.lo=0/\x.hi=0))/\
  (ar x.k<1->x.a=0)/\(ar x.k<2->x.b=0)/\(1<=ar x.k->0<=x.a/\x.a<j/\x.a ∉ W)/\(2<=ar x.k->0<=x.b/\x.b<j/\x.b ∉ x.a::W):=by
 unfold okN us;by_cases h2:2<=ar x.k
 ·rw [Χ h2];simp only [XP,XM,X1,W6,not_or];constructor
  ·rintro ⟨⟨a1,a2,a3,a4,a5,a6,a7⟩,⟨n1,n2⟩,n3,n4⟩;exact ⟨n4,⟨a1,a2,a3⟩,a4,a5,λh=>⟨(a6 h).1,(a6 h).2,n3⟩,λh=>⟨(a7 h).1,(a7 h).2,n1,n2⟩⟩
  ·rintro ⟨n4,⟨a1,a2,a3⟩,a4,a5,a6,a7⟩;exact ⟨⟨a1,a2,a3,a4,a5,λh=>⟨(a6 h).1,(a6 h).2.1⟩,λh=>⟨(a7 h).1,(a7 h).2.1⟩⟩,⟨(a7 h2).2.2.1,(a7 h2).2.2.2⟩,(a6 (by omega)).2.2,n4⟩
 ·rw [Υ h2];by_cases h1:1<=ar x.k
  ·rw [Χ h1];simp only [XP,XM,X1];constructor
   ·rintro ⟨⟨a1,a2,a3,a4,a5,a6,a7⟩,n3,n4⟩;exact ⟨n4,⟨a1,a2,a3⟩,a4,a5,λh=>⟨(a6 h).1,(a6 h).2,n3⟩,λh=>absurd h h2⟩
   ·rintro ⟨n4,⟨a1,a2,a3⟩,a4,a5,a6,a7⟩;exact ⟨⟨a1,a2,a3,a4,a5,λh=>⟨(a6 h).1,(a6 h).2.1⟩,λh=>absurd h h2⟩,(a6 h1).2.2,n4⟩
  ·rw [Υ h1];simp only [XM];constructor
   ·rintro ⟨⟨a1,a2,a3,a4,a5,a6,a7⟩,n4⟩;exact ⟨n4,⟨a1,a2,a3⟩,a4,a5,λh=>absurd h h1,λh=>absurd h h2⟩
   ·rintro ⟨n4,⟨a1,a2,a3⟩,a4,a5,a6,a7⟩;exact ⟨⟨a1,a2,a3,a4,a5,λh=>absurd h h1,λh=>absurd h h2⟩,n4⟩
theorem GoodTo.succ {l:List Nd} {j:Nat} {x:Nd} (hx:l[j]? =Y3 x):GoodTo l (j+1)↔GoodTo l j/\okN j x/\(us x++usL (l.take j)).Nodup:=by
 have e:l.take (j+1)=l.take j++[x]:=by rw [XL,hx];rfl
 constructor
 ·rintro ⟨h1,h2⟩;rw [e,jx] at h2;exact ⟨⟨λi y hi hy=>h1 i y (by omega) hy,(Xv.1 h2).2.1⟩,h1 j x (by omega) hx,h2⟩
 ·rintro ⟨⟨h1,h2⟩,h3,h4⟩;refine ⟨λi y hi hy=> ?_,by rw [e,jx];exact h4⟩;by_cases hij:i=j
  ·subst hij;rw [hx] at hy;cases hy;exact h3
  ·exact h1 i y (by omega) hy
theorem GoodL_iff (l:List Nd):GoodL l↔GoodTo l l.length/\(∀i:Nat,i+1<l.length->(i:Int)∈usL l)/\l≠[]:=by
 constructor
 ·rintro ⟨h1,h2,h3,h4⟩;exact ⟨⟨λi x _ hx=>h2 i x hx,by rw [Xg];exact h3⟩,h4,h1⟩
 ·rintro ⟨⟨h2,h3⟩,h4,h1⟩;rw [Xg] at h3;exact ⟨h1,λi x hx=>h2 i x (by have:=(N6.1 hx).1;omega) hx,h3,h4⟩
theorem xX {l:List Nd} (hl:l.length<=512) (h:¬GoodL l):fH l=40:=by unfold fH;rw [Υ (by omega),Υ h]
theorem ua {l:List Nd} (hl:l.length<=512) (h:GoodL l):fH l=0:=by unfold fH;rw [Υ (by omega),Χ h]
section
variable {F:PH}
theorem oA {s:Sl} {l:List Nd} (hs:RdS F s 5 (dW l)):ν 144 #[s.v] F λr F'=>r=vi (fH l)/\F.le F':=by
 have hlen:=hs.nlen;refine TL ?_;unfold M7;refine ⟨λh=>⟨?_,am F⟩,λh=> ?_⟩
 ·have e:fH l=2:=by unfold fH;rw [Χ (by omega)]
  rw [e]
 have hl:l.length<=512:=by omega
 refine bU underlying211 SD SE rfl (by omega) (YK _) (by omega) (by omega) ?_;intro u hu;rw [zc1 _ rfl,N4,hlen];have em:(List.replicate l.length (Value.bool Y6)).toArray=(ig l.length []).toArray:=by
  congr 1;apply XR;intro j;by_cases hj:j<l.length
  ·simp [ig,hj]
  ·rw [XC (by simp;omega),XC (by simp [ig];omega)]
 rw [em];refine ⟨_,rfl,λb3 hb3=> ?_⟩;refine atI ?_;have hne:u≠b3:=λe=>by rw [e,al] at hb3;cases hb3
 have hb3F:F b3=Y5:=by rwa [az _ _ hne.symm] at hb3
 refine st1 (al _ _ _) (by simp) ?_;rw [aT];have hU:Usd F ((F.set u (Y4 (ig l.length []).toArray 4)).set b3 (Y4 #[Sl.v ⟨Y3 ⟨u,0,Y5⟩,l.length,l.length⟩] 211)) b3 u l.length []:=
  ⟨hb3F,hu,aw (ae _ hu) hb3F,hne,al _ _ _,by rw [az _ _ hne];exact al _ _ _⟩
 show ∃(I2:Nat->Ω) (m2:Nat),_;have e0:(#[Value.slice Y5 0 0]:Γ).setIfInBounds 0 (Sl.v ⟨Y3 ⟨u,0,Y5⟩,l.length,l.length⟩)= #[Sl.v ⟨Y3 ⟨u,0,Y5⟩,l.length,l.length⟩]:=rfl;rw [e0];generalize (F.set u (Y4 (ig l.length []).toArray 4)).set b3 (Y4 #[Sl.v ⟨Y3 ⟨u,0,Y5⟩,l.length,l.length⟩] 211)=F1 at*;have bad:∀{F':PH},¬GoodL l->F.le F'->vi 40=vi (fH l)/\F.le F':=λh hl'=>⟨by rw [xX hl h],hl'⟩;refine ⟨λm i F'=>∃j:Nat,i=j/\j<=l.length/\m=l.length - j/\GoodTo l j/\Usd F F' b3 u l.length (usL (l.take j)),l.length,⟨0,rfl,by omega,rfl,GoodTo.zero l,by simpa [usL] using hU⟩,?_⟩;rintro _ _ F2 ⟨j,rfl,hj,rfl,hg,hW⟩;unfold CJ;refine ⟨λhlt=> ?_,λhge=> ?_⟩
 ·have hjl:j<l.length:=by omega
  have hx:l[j]? =Y3 l[j]:=N5 hjl;generalize l[j]=x at hx;obtain ⟨a,ha,hrow⟩:=rdn (hs.le hW.le) hx;refine ⟨a,ha,by omega,by omega,x.arr,rfl,hrow,λb6 hb6=> ?_⟩;refine atI ?_;refine stW (al _ _ _) rfl rfl (gC x) ?_;rw [aT];have hub:u≠b6:=aG hb6 hW.qu;have hW6:Usd F (F2.set b6 (Y4 x.arr 149)) b3 u l.length (usL (l.take j)):=⟨hW.zb,hW.zu,aw hW.le (aS hW.le hb6),hW.ne,by rw [az _ _ (aG hb6 hW.qb)];exact hW.qb,by rw [az _ _ hub];exact hW.qu⟩;have q6:=al F2 b6 (Y4 x.arr 149);generalize F2.set b6 (Y4 x.arr 149)=F3 at*;have j4:∀ok:Bool,(ok=Y8↔(0<=ar x.k/\(x.k=1->0<=x.lo/\x.lo<=x.hi/\x.hi<=255)/\(x.k≠1->x.lo=0/\x.hi=0)))->
    fW (λy2_0 F=>∃m',m'<l.length - j/\∃j:Nat,y2_0=j/\j<=l.length/\m'=l.length - j/\GoodTo l j/\Usd _ F b3 u l.length (usL (l.take j))) s b3 j b6 (ar x.k) ok (λr F'=>r=vi (fH l)/\PH.le _ F') F3:=λok hok=>by
   refine Gg hW6 q6 (by omega) hub (λhn F' hl'=>bad (λhG=>hn ?_) hl') λhy F' hU'=> ?_
   ·obtain ⟨hgt,_,_⟩:=(GoodL_iff l).1 hG
    have h1:GoodTo l (j+1):=⟨λi y hi hy=>hgt.ok i y (by omega) hy,by
     have:=hgt.nd;rw [Xg] at this;have e:usL l=usL (l.drop (j+1))++usL (l.take (j+1))\/True:=.inr trivial;have hsub:∀(p q:List Nd),usL (p++q)=usL q++usL p:=by
      intro p q;induction p with
      |nil=>simp [usL]
      |cons y p ih=>simp [usL,ih]
     rw [<- YF (j+1) l,hsub] at this
     exact (Xv.1 this).2.1⟩
    obtain ⟨_,h3⟩:=(GoodTo.succ hx).1 h1;obtain ⟨h4,h5,h6⟩:=xW.1 h3;exact ⟨hok.2 h5,h6⟩
   ·refine ⟨l.length - (j+1),by omega,j+1,fz (by omega),hjl,rfl,?_,?_⟩
    ·exact (GoodTo.succ hx).2 ⟨hg,xW.2 ⟨hg.nd,hok.1 hy.1,hy.2⟩⟩
    ·rw [XL,hx];show Usd F F' b3 u l.length (usL (l.take j++[x]));rw [jx];exact hU'
  have c0:F3.cell (Zc b6 0 Y5)=Y3 (vi x.k):=by rw [aq q6];rfl
  have c1:F3.cell (Zc b6 1 Y5)=Y3 (vi x.lo):=by rw [aq q6];rfl
  have c2:F3.cell (Zc b6 2 Y5)=Y3 (vi x.hi):=by rw [aq q6];rfl
  have a1:x.k=1->ar x.k=0:=λh=>by unfold ar;rw [Υ (by omega),Υ (by omega),Χ (by omega)]
  refine ⟨_,c0,?_⟩;refine (Ab _).mono ?_;rintro _ F3' ⟨rfl,e⟩;obtain rfl:=e.symm;refine ⟨_,rfl,_,c0,λh1=>⟨_,c1,λh2=>⟨_,c1,_,c2,λh3=>⟨_,c2,j4 _ ?_⟩,λh3=>j4 _ ?_⟩,λh2=>j4 _ ?_⟩,λh1=>⟨_,c1,λh2=>j4 _ ?_,λh2=>⟨_,c2,λh3=>j4 _ ?_,λh3=>j4 _ ?_⟩⟩⟩
  ·have:=a1 h1;rw [δ];exact ⟨λh=>⟨by omega,λ_=>⟨h2,h3,h⟩,λh=>absurd h1 h⟩,λh=>(h.2.1 h1).2.2⟩
  ·exact ⟨λh=>(by cases h),λh=>absurd (h.2.1 h1).2.1 h3⟩
  ·exact ⟨λh=>(by cases h),λh=>absurd (h.2.1 h1).1 h2⟩
  ·exact ⟨λh=>(by cases h),λh=>absurd (h.2.2 h1).1 h2⟩
  ·exact ⟨λh=>(by cases h),λh=>absurd (h.2.2 h1).2 h3⟩
  ·rw [δ];exact ⟨λh=>⟨h,λh=>absurd h h1,λ_=>⟨by omega,by omega⟩⟩,λh=>h.1⟩
 ·obtain rfl:j=l.length:=by omega
  rw [Xg] at hW;unfold CI;have ew:i64.wrap ((s.len:Int) - 1)=(l.length:Int) - 1:=by rw [hlen,aP (by omega)]
  refine ⟨λm i F'=>∃j:Nat,i=j/\j<=l.length/\m=l.length - j/\F'=F2/\∀i:Nat,i<j->(i:Int)∈usL l,l.length,⟨0,rfl,by omega,rfl,rfl,λi hi=>by omega⟩,?_⟩;rintro _ _ F3 ⟨j,rfl,hj',rfl,e3,hall⟩;obtain rfl:=e3.symm;unfold CH;rw [ew];refine ⟨λhlt=> ?_,λhge=> ?_⟩
  ·have hjl:j<l.length:=by omega
   have hr:F2.cell ((Zc u 0 Y5).add (Zd (j:Int)*1))=Y3 (Za (decide ((j:Int)∈usL l))):=by rw [N4,Xz,show (Zc u 0 Y5).add j=⟨u,j,Y5⟩ by simp [Zb];omega,aq hW.qu];exact t8 hjl
   refine ⟨_,by rw [aq hW.qb];rfl,_,rfl,by omega,by simp only;omega,_,hr,λhm=>bad (λhG=> ?_) hW.le,λhm=>⟨l.length - (j+1),by omega,j+1,fz (by omega),hjl,rfl,rfl,λi hi=> ?_⟩⟩
   ·have:=hG.all j (by omega);simp [this] at hm
   ·by_cases hij:i=j
    ·subst hij;simpa using hm
    ·exact hall i (by omega)
  ·unfold CG;refine ⟨λh0=>bad (λhG=>hG.ne (XV.1 (by omega))) hW.le,λh0=>⟨?_,hW.le⟩⟩;rw [ua hl ((GoodL_iff l).2 ⟨hg,λi hi=>hall i (by omega),λe=>by rw [e] at hlen;simp at hlen;omega⟩)]
end
def Par (l:List Nd) (j k:Nat):Prop:=∃x,l[k]? =Y3 x/\(j:Int)∈us x
inductive Up (l:List Nd):Nat->Nat->Prop where
 |refl (j:Nat):Up l j j
 |step {j k m:Nat}:Up l j k->Par l k m->Up l j m
inductive cT (l:List Nd):Nat->Lt->Δ->Prop where
 |emp {i:Nat} {x:Nd}:l[i]? =Y3 x->x.k=0->cT l i .emp [i]
 |rng {i lo hi:Nat} {x:Nd}:l[i]? =Y3 x->x.k=1->x.lo=lo->x.hi=hi->lo<=hi->hi<=255->cT l i (.rng i lo hi) [i]
 |seq {i a b:Nat} {x:Nd} {t u:Lt} {na nb:Δ}:l[i]? =Y3 x->x.k=2->x.a=a->x.b=b->cT l a t na->cT l b u nb->cT l i (.seq t u) (i::na++nb)
 |alt {i a b:Nat} {x:Nd} {t u:Lt} {na nb:Δ}:l[i]? =Y3 x->x.k=3->x.a=a->x.b=b->cT l a t na->cT l b u nb->cT l i (.alt t u) (i::na++nb)
 |rep {i a:Nat} {x:Nd} {t:Lt} {na:Δ}:l[i]? =Y3 x->x.k=4->x.a=a->cT l a t na->cT l i (.rep t) (i::na)
theorem iI {x:Nd} (h:x.k=2\/x.k=3):us x=[x.b,x.a]:=by
 have:ar x.k=2:=by unfold ar;rw [Υ (by omega),Χ h]
 unfold us;rw [this];rfl
theorem Gh {x:Nd} (h:x.k=4):us x=[x.a]:=by
 have:ar x.k=1:=by unfold ar;rw [Χ h]
 unfold us;rw [this];rfl
theorem rT {k:Int} (h:0<=ar k):k=0\/k=1\/k=2\/k=3\/k=4:=by
 unfold ar at h;split at h
 ·omega
 ·split at h
  ·omega
  ·split at h<;>omega
theorem wn {k:Int} (h:k=2\/k=3):ar k=2:=by unfold ar;rw [Υ (by omega),Χ h]
theorem Gi {k:Int} (h:k=4):ar k=1:=by unfold ar;rw [Χ h]
theorem Ck {k:Int} (h:k=0\/k=1):ar k=0:=by unfold ar;rw [Υ (by omega),Υ (by omega),Χ h]
section
variable {l:List Nd} (hG:GoodL l)
include hG
theorem Cm:∀(n i:Nat),i<n->i<l.length->∃t ns,cT l i t ns:=by
 intro n;induction n with
 |zero=>intro i h;omega
 |succ n ih=>
  intro i hi hl;have hx:=N5 hl;have ho:=hG.ok i _ hx;generalize l[i]=x at hx ho;obtain ⟨h0,h1,h2,h3,h4,h5,h6⟩:=ho;rcases rT h0 with hk|hk|hk|hk|hk
  ·exact ⟨_,_,.emp hx hk⟩
  ·obtain ⟨a,b,c⟩:=h1 hk;exact ⟨_,_,.rng (lo:=x.lo.toNat) (hi:=x.hi.toNat) hx hk (by omega) (by omega) (by omega) (by omega)⟩
  ·have e:=wn (k:=x.k) (.inl hk);obtain ⟨a1,a2⟩:=h5 (by omega);obtain ⟨b1,b2⟩:=h6 (by omega);obtain ⟨t,na,ht⟩:=ih x.a.toNat (by omega) (by omega);obtain ⟨u,nb,hu⟩:=ih x.b.toNat (by omega) (by omega);exact ⟨_,_,.seq hx hk (by omega) (by omega) ht hu⟩
  ·have e:=wn (k:=x.k) (.inr hk);obtain ⟨a1,a2⟩:=h5 (by omega);obtain ⟨b1,b2⟩:=h6 (by omega);obtain ⟨t,na,ht⟩:=ih x.a.toNat (by omega) (by omega);obtain ⟨u,nb,hu⟩:=ih x.b.toNat (by omega) (by omega);exact ⟨_,_,.alt hx hk (by omega) (by omega) ht hu⟩
  ·have e:=Gi (k:=x.k) hk;obtain ⟨a1,a2⟩:=h5 (by omega);obtain ⟨t,na,ht⟩:=ih x.a.toNat (by omega) (by omega);exact ⟨_,_,.rep hx hk (by omega) ht⟩
theorem Par.lt {j k:Nat} (h:Par l j k):j<k/\k<l.length:=by
 obtain ⟨x,hx,hm⟩:=h;have hlt:=(N6.1 hx).1;obtain ⟨h0,h1,h2,h3,h4,h5,h6⟩:=hG.ok k x hx;rcases rT h0 with hk|hk|hk|hk|hk
 ·have e:=Ck (k:=x.k) (.inl hk);unfold us at hm;rw [e] at hm;simp at hm
 ·have e:=Ck (k:=x.k) (.inr hk);unfold us at hm;rw [e] at hm;simp at hm
 ·have e:=wn (k:=x.k) (.inl hk);rw [iI (.inl hk)] at hm;have:=h5 (by omega);have:=h6 (by omega);simp at hm;omega
 ·have e:=wn (k:=x.k) (.inr hk);rw [iI (.inr hk)] at hm;have:=h5 (by omega);have:=h6 (by omega);simp at hm;omega
 ·have e:=Gi (k:=x.k) hk;rw [Gh hk] at hm;have:=h5 (by omega);simp at hm;omega
omit hG in
theorem wo {j:Int}:∀(l:List Nd) {k:Nat} {x:Nd},l[k]? =Y3 x->j∈us x->j∈usL l
 |y::l,0,x,h,hm=>by simp at h;subst h;simp [usL,hm]
 |y::l,k+1,x,h,hm=>by simp at h;simp only [usL,W9];exact .inl (wo l h hm)
omit hG in
theorem xY {j:Int}:∀(l:List Nd),(usL l).Nodup->∀{k m:Nat} {x y:Nd},l[k]? =Y3 x->l[m]? =Y3 y->j∈us x->j∈us y->k=m
 |z::l,hn,0,0,x,y,h1,h2,h3,h4=>rfl
 |z::l,hn,0,m+1,x,y,h1,h2,h3,h4=>by simp at h1 h2;subst h1;rw [usL] at hn;exact absurd rfl ((Xv.1 hn).2.2 j (wo l h2 h4) j h3)
 |z::l,hn,k+1,0,x,y,h1,h2,h3,h4=>by simp at h1 h2;subst h2;rw [usL] at hn;exact absurd rfl ((Xv.1 hn).2.2 j (wo l h1 h3) j h4)
 |z::l,hn,k+1,m+1,x,y,h1,h2,h3,h4=>by simp at h1 h2;rw [usL] at hn;rw [xY l (Xv.1 hn).1 h1 h2 h3 h4]
theorem Par.uniq {j k m:Nat} (h1:Par l j k) (h2:Par l j m):k=m:=by obtain ⟨x,hx,hm⟩:=h1;obtain ⟨y,hy,hn⟩:=h2;exact xY l hG.nd hx hy hm hn
omit hG in
theorem Up.head {j m:Nat} (h:Up l j m):j=m\/∃k,Par l j k/\Up l k m:=by
 induction h with
 |refl=>exact .inl rfl
 | @step k m h hp ih=>
  rcases ih with rfl|⟨c,h1,h2⟩
  ·exact .inr ⟨m,hp,.refl m⟩
  ·exact .inr ⟨c,h1,h2.step hp⟩
theorem Up.le {j m:Nat} (h:Up l j m):j<=m:=by
 induction h with
 |refl=>exact W8 _
 |step _ hp ih=>have:=hp.lt hG;omega
theorem Up.chain {j a b:Nat} (ha:Up l j a) (hb:Up l j b):Up l a b\/Up l b a:=by
 induction ha with
 |refl=>exact .inl hb
 | @step k m h hp ih=>
  rcases ih with h1|h1
  ·rcases h1.head with rfl|⟨c,h2,h3⟩
   ·exact .inr ((Up.refl k).step hp)
   ·rw [h2.uniq hG hp] at h3;exact .inl h3
  ·exact .inr (h1.step hp)
omit hG in
theorem pM {i:Nat} {t:Lt} {ns:Δ} (h:cT l i t ns):∀j∈ns,Up l j i:=by
 induction h with
 | @emp i x hx hk=>intro j hj;simp at hj;subst hj;exact .refl _
 | @rng i lo hi x hx hk _ _ _ _=>intro j hj;simp at hj;subst hj;exact .refl _
 | @seq i a b x t u na nb hx hk ha hb h1 h2 i1 i2=>
  intro j hj;simp only [XP,W6,W9] at hj;rcases hj with rfl|hj|hj
  ·exact .refl _
  ·exact (i1 j hj).step ⟨x,hx,by rw [iI (.inl hk),ha];simp⟩
  ·exact (i2 j hj).step ⟨x,hx,by rw [iI (.inl hk),hb];simp⟩
 | @alt i a b x t u na nb hx hk ha hb h1 h2 i1 i2=>
  intro j hj;simp only [XP,W6,W9] at hj;rcases hj with rfl|hj|hj
  ·exact .refl _
  ·exact (i1 j hj).step ⟨x,hx,by rw [iI (.inr hk),ha];simp⟩
  ·exact (i2 j hj).step ⟨x,hx,by rw [iI (.inr hk),hb];simp⟩
 | @rep i a x t na hx hk ha h1 i1=>
  intro j hj;simp only [W6] at hj;rcases hj with rfl|hj
  ·exact .refl _
  ·exact (i1 j hj).step ⟨x,hx,by rw [Gh hk,ha];simp⟩
theorem SF {i a b:Nat} {x:Nd} (hx:l[i]? =Y3 x) (hk:x.k=2\/x.k=3) (ha:x.a=a) (hb:x.b=b):a≠b:=by
 intro e;have hn:=hG.nd;have hsub:∀(l:List Nd) (i:Nat),l[i]? =Y3 x->(usL l).Nodup->(us x).Nodup:=by
  intro l;induction l with
  |nil=>intro i h;simp at h
  |cons y l ih=>
   intro i h hn;rw [usL] at hn;cases i with
   |zero=>simp at h;subst h;exact (Xv.1 hn).2.1
   |succ i=>simp at h;exact ih i h (Xv.1 hn).1
 have:=hsub l i hx hn;rw [iI hk,ha,hb,e] at this;simp at this
theorem MP {i a b j:Nat} {x:Nd} (hx:l[i]? =Y3 x) (hk:x.k=2\/x.k=3) (ha:x.a=a) (hb:x.b=b) (h1:Up l j a) (h2:Up l j b):False:=by
 have pa:Par l a i:=⟨x,hx,by rw [iI hk,ha];simp⟩;have pb:Par l b i:=⟨x,hx,by rw [iI hk,hb];simp⟩;have hne:=SF hG hx hk ha hb;rcases h1.chain hG h2 with h|h
 ·rcases h.head with e|⟨c,h3,h4⟩
  ·exact hne e
  ·rw [h3.uniq hG pa] at h4;have:=h4.le hG;have:=pb.lt hG;omega
 ·rcases h.head with e|⟨c,h3,h4⟩
  ·exact hne e.symm
  ·rw [h3.uniq hG pb] at h4;have:=h4.le hG;have:=pa.lt hG;omega
end
section
variable {F:PH}
open Classical in
def bS (l:List Nd):Lt:=if h:GoodL l then (Cm h (l.length) (l.length - 1) (by have:=Yh.2 h.ne;omega) (by have:=Yh.2 h.ne;omega)).choose else .emp
theorem iJ {l:List Nd} (h:GoodL l):∃ns,cT l (l.length - 1) (bS l) ns:=by unfold bS;rw [dif_pos h];exact (Cm h (l.length) (l.length - 1) (by have:=Yh.2 h.ne;omega) (by have:=Yh.2 h.ne;omega)).choose_spec
theorem ub {l:List Nd} (h:fH l=0):GoodL l/\l.length<=512:=by
 unfold fH at h;split at h
 ·omega
 ·split at h
  ·rename_i hg;exact ⟨hg,by omega⟩
  ·omega
end
structure Lo (G F:PH) (xs:List (Nat×Γ×TypeId)):Prop where
 le:G.le F
 z:∀p∈xs,F p.1=Y3 (Y4 p.2.1 p.2.2)/\G p.1=Y5
 nd:(xs.map (·.1)).Nodup
theorem Lo.start (F:PH):Lo F F []:=⟨am F,λp hp=>(by cases hp),List.nodup_nil⟩
section
variable {F G:PH} {xs:List (Nat×Γ×TypeId)}
theorem Lo.get (h:Lo G F xs) {b:Nat} {w:Γ} {e:TypeId} (hm:(b,w,e)∈xs):F b=Y3 (Y4 w e):=(h.z _ hm).1
theorem Lo.row (h:Lo G F xs) {b:Nat} {w:Γ} {e:TypeId} (hm:(b,w,e)∈xs):F.row (Zc b 0 Y5) w:=ac (h.z _ hm).1
theorem Lo.cell (h:Lo G F xs) {b i:Nat} {w:Γ} {e:TypeId} (hm:(b,w,e)∈xs):F.cell (Zc b i Y5)=w[i]? :=aq (h.z _ hm).1
theorem Lo.ro (h:Lo G F xs) (i:Nat) {b:Nat} {w:Γ} {e:TypeId} (hi:xs[i]? =Y3 (b,w,e)):F.row (Zc b 0 Y5) w:=h.row (W7 hi)
theorem Lo.cl (h:Lo G F xs) (i:Nat) {b k:Nat} {w:Γ} {e:TypeId} {v:ξ} (hi:xs[i]? =Y3 (b,w,e)) (hv:w[k]? =Y3 v):F.cell (Zc b k Y5)=Y3 v:=(h.cell (W7 hi)).trans hv
theorem Lo.call {f:FuncId} {args:Γ} {P:ξ->Ψ} (h:Lo G F xs) (s:ai prog f args G P):ai prog f args F λr F'=>∃G',P r G'/\Lo G' F' xs:=
 (s.upon h.le).mono λr F' ⟨G',hp,hl,hk⟩=>⟨G',hp,hl,λp hp=>by
  obtain ⟨a,b⟩:=h.z p hp
  exact hk _ _ b a,h.nd⟩
theorem Lo.new (h:Lo G F xs) (c:Γ) (e:TypeId) {K:Nat->Ψ} (k:∀b F',Lo G F' ((b,c,e)::xs)->K b F'):∀b,F b=Y5->atF (F.set b (Y4 c e)) (K b):=by
 intro b hb;refine atI ?_;have hne:∀p∈xs,p.1≠b:=λp hp=>aG hb (h.z p hp).1;refine k b _ ⟨aa h.le (ae _ hb),λp hp=> ?_,?_⟩
 ·rcases W6.1 hp with rfl|hp
  ·exact ⟨al _ _ _,aS h.le hb⟩
  ·obtain ⟨a,c⟩:=h.z p hp;exact ⟨(az _ _ (hne p hp)).trans a,c⟩
 ·rw [Xw,X1];refine ⟨λhm=> ?_,h.nd⟩;obtain ⟨p,hp,e⟩:=Xi.1 hm;exact hne p hp e
theorem Lo.upd (l1 l2:List (Nat×Γ×TypeId)) {b:Nat} {w0 w:Γ} {e:TypeId} (h:Lo G F (l1++(b,w0,e)::l2)) {F':PH} (hb:F' b=Y3 (Y4 w e)) (hk:dE (λx=>x=b) F F'):Lo G F' (l1++(b,w,e)::l2):=by
 obtain ⟨q,g⟩:=h.z (b,w0,e) (by simp);have nd:=h.nd;rw [Xt,Xw] at nd;have hne:∀p,p∈l1\/p∈l2->p.1≠b:=λp hp e=>by
  obtain ⟨_,n2,n3⟩:=Xv.1 nd;rcases hp with hp|hp
  ·exact n3 p.1 (Xi.2 ⟨p,hp,rfl⟩) b (by simp) e
  ·exact (X1.1 n2).1 (Xi.2 ⟨p,hp,e⟩)
 have hkp:∀p,p∈l1\/p∈l2->F' p.1=Y3 (Y4 p.2.1 p.2.2)/\G p.1=Y5:=λp hp=>by obtain ⟨a,c⟩:=h.z p (by simp only [W9,W6];rcases hp with hp|hp<;>simp [hp]);exact ⟨hk _ _ a (hne p hp),c⟩
 refine ⟨λx o hx=>hk x o (h.le x o hx) λe=>(by rw [e] at hx;rw [g] at hx;cases hx),λp hp=> ?_,by rw [Xt,Xw];exact nd⟩;rcases W9.1 hp with hp|hp
 ·exact hkp p (.inl hp)
 ·rcases W6.1 hp with rfl|hp
  ·exact ⟨hb,g⟩
  ·exact hkp p (.inr hp)
theorem Lo.put (l1 l2:List (Nat×Γ×TypeId)) {b n:Nat} {w0 w:Γ} {e:TypeId} (h:Lo G F (l1++(b,w0,e)::l2)) (h1:w.size=n) (h2:w0.size=n) (hst:∀v∈w.toList,ak v)
  {K:Ψ} (k:∀F',Lo G F' (l1++(b,w,e)::l2)->K F'):
  w.size=n/\(∀v∈w.toList,ak v)/\∃c e,F (Zc b 0 Y5).block=Y3 (Y4 c e (0,0))/\(Zc b 0 Y5).spot=Y5/\(Zc b 0 Y5).off+n<=c.size/\
   atF (F.set (Zc b 0 Y5).block (Y4 (wr c (Zc b 0 Y5).off w.toList) e)) K:=by
 obtain ⟨q,g⟩:=h.z (b,w0,e) (by simp);refine stW q h1 h2 hst (k _ (h.upd l1 l2 (al _ _ _) (dE.set _ (.inl rfl))))
theorem Lo.put1 (l1 l2:List (Nat×Γ×TypeId)) {b i:Nat} {w0 w:Γ} {v:ξ} {e:TypeId} (h:Lo G F (l1++(b,w0,e)::l2)) (h2:i<w0.size) (hw:w0.setIfInBounds i v=w)
  {K:Ψ} (k:∀F',Lo G F' (l1++(b,w,e)::l2)->K F'):
  ∃c e,F (Zc b i Y5).block=Y3 (Y4 c e (0,0))/\(Zc b i Y5).spot=Y5/\(Zc b i Y5).off<c.size/\
   atF (F.set (Zc b i Y5).block (Y4 (c.setIfInBounds (Zc b i Y5).off v) e)) K:=by
 obtain ⟨q,g⟩:=h.z (b,w0,e) (by simp);subst hw;exact st1 (o:=i) q h2 (k _ (h.upd l1 l2 (al _ _ _) (dE.set _ (.inl rfl))))
theorem Lo.join (l1 l2:List (Nat×Γ×TypeId)) {b:Nat} {P Q:Nat->Bool} (h:Lo G F (l1++(b,plA P,229)::l2)):
  ν 205 #[pa b,Y9 (plA Q)] F λr F'=>r=Zh #[]/\Lo G F' (l1++(b,plA (λi=>P i || Q i),229)::l2):=by
 obtain ⟨q,g⟩:=h.z (b,plA P,229) (by simp);refine (um (Q:=Q) (ko.own.2 q)).mono ?_;rintro _ F' ⟨rfl,hs,hk⟩;exact ⟨rfl,h.upd l1 l2 (ko.own.1 hs) hk⟩
theorem Lo.add (l1 l2:List (Nat×Γ×TypeId)) {b i:Nat} {P:Nat->Bool} (hi:i<512) (h:Lo G F (l1++(b,plA P,229)::l2)):
  ν 207 #[pa b,vi i] F λr F'=>r=Zh #[]/\Lo G F' (l1++(b,plA (λj=>P j || decide (j=i)),229)::l2):=by
 obtain ⟨q,g⟩:=h.z (b,plA P,229) (by simp);refine (Ee hi q).mono ?_;rintro _ F' ⟨rfl,rfl⟩;exact ⟨rfl,h.upd l1 l2 (al _ _ _) (dE.set _ (.inl rfl))⟩
theorem Lo.q0 {l:List (Nat×Γ×TypeId)} {b:Nat} {P Q:Nat->Bool} (h:Lo G F ((b,plA P,229)::l)) {K:Ψ} (k:∀F',Lo G F' ((b,plA Q,229)::l)->K F'):au F (Zc b 0 Y5) 8 (plA Q) K:=Lo.put (n:=8) (w0:=plA P) (w:=plA Q) [] l h rfl rfl (gh _) k
theorem Lo.q1 {l:List (Nat×Γ×TypeId)} {x0:Nat×Γ×TypeId} {b:Nat} {P Q:Nat->Bool} (h:Lo G F (x0::(b,plA P,229)::l)) {K:Ψ} (k:∀F',Lo G F' (x0::(b,plA Q,229)::l)->K F'):au F (Zc b 0 Y5) 8 (plA Q) K:=Lo.put (n:=8) (w0:=plA P) (w:=plA Q) [x0] l h rfl rfl (gh _) k
theorem Lo.q2 {l:List (Nat×Γ×TypeId)} {x0 x1:Nat×Γ×TypeId} {b:Nat} {P Q:Nat->Bool} (h:Lo G F (x0::x1::(b,plA P,229)::l)) {K:Ψ} (k:∀F',Lo G F' (x0::x1::(b,plA Q,229)::l)->K F'):au F (Zc b 0 Y5) 8 (plA Q) K:=Lo.put (n:=8) (w0:=plA P) (w:=plA Q) [x0,x1] l h rfl rfl (gh _) k
theorem Lo.q3 {l:List (Nat×Γ×TypeId)} {x0 x1 x2:Nat×Γ×TypeId} {b:Nat} {P Q:Nat->Bool} (h:Lo G F (x0::x1::x2::(b,plA P,229)::l)) {K:Ψ} (k:∀F',Lo G F' (x0::x1::x2::(b,plA Q,229)::l)->K F'):au F (Zc b 0 Y5) 8 (plA Q) K:=Lo.put (n:=8) (w0:=plA P) (w:=plA Q) [x0,x1,x2] l h rfl rfl (gh _) k
theorem Lo.q4 {l:List (Nat×Γ×TypeId)} {x0 x1 x2 x3:Nat×Γ×TypeId} {b:Nat} {P Q:Nat->Bool} (h:Lo G F (x0::x1::x2::x3::(b,plA P,229)::l)) {K:Ψ} (k:∀F',Lo G F' (x0::x1::x2::x3::(b,plA Q,229)::l)->K F'):au F (Zc b 0 Y5) 8 (plA Q) K:=Lo.put (n:=8) (w0:=plA P) (w:=plA Q) [x0,x1,x2,x3] l h rfl rfl (gh _) k
theorem Lo.q5 {l:List (Nat×Γ×TypeId)} {x0 x1 x2 x3 x4:Nat×Γ×TypeId} {b:Nat} {P Q:Nat->Bool} (h:Lo G F (x0::x1::x2::x3::x4::(b,plA P,229)::l)) {K:Ψ} (k:∀F',Lo G F' (x0::x1::x2::x3::x4::(b,plA Q,229)::l)->K F'):au F (Zc b 0 Y5) 8 (plA Q) K:=Lo.put (n:=8) (w0:=plA P) (w:=plA Q) [x0,x1,x2,x3,x4] l h rfl rfl (gh _) k
theorem Lo.q6 {l:List (Nat×Γ×TypeId)} {x0 x1 x2 x3 x4 x5:Nat×Γ×TypeId} {b:Nat} {P Q:Nat->Bool} (h:Lo G F (x0::x1::x2::x3::x4::x5::(b,plA P,229)::l)) {K:Ψ} (k:∀F',Lo G F' (x0::x1::x2::x3::x4::x5::(b,plA Q,229)::l)->K F'):au F (Zc b 0 Y5) 8 (plA Q) K:=Lo.put (n:=8) (w0:=plA P) (w:=plA Q) [x0,x1,x2,x3,x4,x5] l h rfl rfl (gh _) k
theorem Lo.jn0 {l:List (Nat×Γ×TypeId)} {b:Nat} {P Q:Nat->Bool} (h:Lo G F ((b,plA P,229)::l)):ν 205 #[pa b,Y9 (plA Q)] F λr F'=>r=Zh #[]/\Lo G F' ((b,plA (λi=>P i || Q i),229)::l):=Lo.join [] l h
theorem Lo.jn2 {l:List (Nat×Γ×TypeId)} {x0 x1:Nat×Γ×TypeId} {b:Nat} {P Q:Nat->Bool} (h:Lo G F (x0::x1::(b,plA P,229)::l)):ν 205 #[pa b,Y9 (plA Q)] F λr F'=>r=Zh #[]/\Lo G F' (x0::x1::(b,plA (λi=>P i || Q i),229)::l):=Lo.join [x0,x1] l h
theorem Lo.jn3 {l:List (Nat×Γ×TypeId)} {x0 x1 x2:Nat×Γ×TypeId} {b:Nat} {P Q:Nat->Bool} (h:Lo G F (x0::x1::x2::(b,plA P,229)::l)):ν 205 #[pa b,Y9 (plA Q)] F λr F'=>r=Zh #[]/\Lo G F' (x0::x1::x2::(b,plA (λi=>P i || Q i),229)::l):=Lo.join [x0,x1,x2] l h
theorem Lo.ad2 {l:List (Nat×Γ×TypeId)} {x0 x1:Nat×Γ×TypeId} {b i:Nat} {P:Nat->Bool} (hi:i<512) (h:Lo G F (x0::x1::(b,plA P,229)::l)):ν 207 #[pa b,vi i] F λr F'=>r=Zh #[]/\Lo G F' (x0::x1::(b,plA (λj=>P j || decide (j=i)),229)::l):=Lo.add [x0,x1] l hi h
end
def dk (n:Nat) (R:Nat->Nat->Bool):Ξ:=(List.range n).flatMap λi=>(plA (R i)).toList
theorem wq (n:Nat) (R:Nat->Nat->Bool):(dk n R).length=n*8:=by
 unfold dk;induction n with
 |zero=>rfl
 |succ n ih=>rw [Yw,X7,Xa,ih];simp [plA];omega
theorem rU {f g:Nat->Ξ}:∀{l:Δ},(∀j∈l,f j=g j)->l.flatMap f=l.flatMap g
 |[],_=>rfl
 |a::l,h=>by rw [XS,XS,h a (by simp),rU λj hj=>h j (by simp [hj])]
theorem xZ (f:Nat->Ξ) {n i:Nat} (hi:i<n):(List.range n).flatMap f=(List.range i).flatMap f++f i++((List.range (n - i - 1)).map (· +(i+1))).flatMap f:=by
 have:List.range n=List.range i++[i]++(List.range (n - i - 1)).map (· +(i+1)):=by
  have h1:n=(i+1)+(n - i - 1):=by omega
  rw [h1,List.range_add,Yw,show i+1+(n - i - 1) - i - 1=n - i - 1 by omega];congr 1;apply Yx;intro a _;omega
 rw [this,X7,X7,XS,List.flatMap_nil,XH]
theorem oB {n:Nat} {R S:Nat->Nat->Bool} (h:∀i,i<n->R i=S i):dk n R=dk n S:=by unfold dk;exact rU λj hj=>by rw [h j (XN.1 hj)]
theorem oC {n i:Nat} (hi:i<n) (R:Nat->Nat->Bool):∃pre post,pre.length=i*8/\dk n R=pre++(plA (R i)).toList++post/\∀R',(∀j,j≠i->R' j=R j)->dk n R'=pre++(plA (R' i)).toList++post:=by
 refine ⟨dk i R,((List.range (n - i - 1)).map (· +(i+1))).flatMap (λj=>(plA (R j)).toList),wq i R,xZ _ hi,λR' h=> ?_⟩;have e:=xZ (λj=>(plA (R' j)).toList) hi;have e1:dk i R'=dk i R:=oB λj hj=>h j (by omega);have e2:((List.range (n - i - 1)).map (· +(i+1))).flatMap (λj=>(plA (R' j)).toList)=((List.range (n - i - 1)).map (· +(i+1))).flatMap (λj=>(plA (R j)).toList):=rU λj hj=>by obtain ⟨a,_,rfl⟩:=Xi.1 hj;rw [h _ (by omega)]
 rw [e2] at e;rw [<- e1];exact e
structure Lnk (F:PH) (b3 bm bf n:Nat) (R:Nat->Nat->Bool):Prop where
 tab:Tab F
 q3:F b3=Y3 (Y4 #[pa bm] 226)
 q17:∃mc,F bm=Y3 (Y4 mc 232)/\mc[17]? =Y3 (Sl.v ⟨Y3 ⟨bf,0,Y5⟩,n,n⟩)
 qf:F bf=Y3 (Y4 (dk n R).toArray 229)
theorem Lnk.keep {F F':PH} {b3 bm bf n:Nat} {R R':Nat->Nat->Bool} (h:Lnk F b3 bm bf n R) (hk:dE (λx=>x=bf) F F') (hf:F' bf=Y3 (Y4 (dk n R').toArray 229)) (h0:bf≠0):Lnk F' b3 bm bf n R':=by
 obtain ⟨tab,q3,⟨mc,qm,h17⟩,qf⟩:=h;refine ⟨λk v hv=> ?_,hk _ _ q3 λe=> ?_,⟨mc,hk _ _ qm λe=> ?_,h17⟩,hf⟩
 ·have:=tab k v hv;unfold PH.cell at this ⊢;cases hz:F 0 with
  |none=>rw [hz] at this;cases this
  |some o=>rw [hz] at this;rw [hk _ _ hz h0.symm];exact this
 ·rw [e,qf] at q3;simp at q3
 ·rw [e,qf] at qm;simp at qm
theorem Lnk.le {F F':PH} {b3 bm bf n:Nat} {R:Nat->Nat->Bool} (h:Lnk F b3 bm bf n R) (hl:F.le F'):Lnk F' b3 bm bf n R:=by obtain ⟨tab,q3,⟨mc,qm,h17⟩,qf⟩:=h;exact ⟨tab.le hl,hl _ _ q3,⟨mc,hl _ _ qm,h17⟩,hl _ _ qf⟩
section
variable {F:PH} {b3 bm bf n:Nat} {R:Nat->Nat->Bool}
theorem Ac (h:Lnk F b3 bm bf n R) (h0:bf≠0) {i bt:Nat} {Q:Nat->Bool} (hi:i<n) (ht:F bt=Y3 (Y4 (plA Q) 229)) (_:bt≠bf):
  ν 204 #[vi i,pa b3,pa bt] F λr F'=>r=Zh #[]/\Lnk F' b3 bm bf n (λk j=>R k j || (decide (k=i) && Q j))/\dE (λx=>x=bf) F F':=by
 obtain ⟨tab,q3,⟨mc,qm,h17⟩,qf⟩:=id h;refine TW ?_;unfold Nj;obtain ⟨pre,post,hpre,hsp,hup⟩:=oC hi R;have c3:F.cell (Zc b3 0 Y5)=Y3 (pa bm):=by rw [aq q3];rfl
 have c17:F.cell ((Zc bm 0 Y5).add 17)=Y3 (Sl.v ⟨Y3 ⟨bf,0,Y5⟩,n,n⟩):=by rw [cC,Xm,aq qm];exact h17
 refine ⟨_,rfl,_,c3,_,rfl,_,c17,_,rfl,by omega,by simp only;omega,_,rfl,plA Q,rfl,ac ht,?_⟩;have ea:(Zc bf 0 Y5).add (Zd (i:Int)*8)=⟨bf,pre.length,Y5⟩:=by rw [cC,Xm,N4,hpre]
 rw [ea];have hs:ko F bf 229 pre (R i) post:=by unfold ko;rw [<- hsp];exact qf
 refine (um (Q:=Q) hs).mono ?_;rintro _ F' ⟨rfl,hs',hk⟩;have e:∀k,k≠i->(λk j=>R k j || (decide (k=i) && Q j)) k=R k:=λk hk=>by funext j;simp [hk]
 have hL:Lnk F' b3 bm bf n (λk j=>R k j || (decide (k=i) && Q j)):=h.keep hk (by
  rw [hup _ e];have:(λj=>R i j || (decide (i=i) && Q j))=λj=>R i j || Q j:=by funext j;simp
  show F' bf=Y3 (Y4 (pre++(plA (λj=>R i j || (decide (i=i) && Q j))).toList++post).toArray 229);rw [this]
  exact hs') h0
 obtain ⟨mc',qm',h17'⟩:=hL.q17;exact ⟨rfl,by rw [cC,Xm,aq qm'];exact h17',by rw [aq hL.q3];rfl,rfl,hL,hk⟩
theorem Om:aC prog 204=Y8:=by kernel_rfl
theorem uc (h:Lnk F b3 bm bf n R) (h0:bf≠0) (hn:n<=512) {P Q:Nat->Bool} (hP:∀i,P i=Y8->i<n):
  ν 202 #[Y9 (plA P),Y9 (plA Q),pa b3] F λr F'=>r=Zh #[]/\Lnk F' b3 bm bf n (λk j=>R k j || (P k && Q j))/\dE (λx=>x=bf) F F':=by
 refine TU ?_;unfold Nh;intro c hc;refine atI ?_;have lc:=ae (Y4 (plA P) 229) hc;have qc:=al F c (Y4 (plA P) 229);generalize F.set c (Y4 (plA P) 229)=F1 at*;intro d hd;refine atI ?_;have ld:=ae (Y4 (plA Q) 229) hd;have qd:=al F1 d (Y4 (plA Q) 229);have qc':=ld _ _ qc;generalize F1.set d (Y4 (plA Q) 229)=F2 at*;have hcf:c≠bf:=λe=>by rw [e,h.qf] at hc;cases hc
 have hdf:d≠bf:=λe=>by rw [e,lc _ _ h.qf] at hd;cases hd
 have l2:=aa lc ld
 refine (un (a:=⟨c,0,Y5⟩) (P:=P) (k:=204) (cap:= #[pa b3,pa d]) (Inv:=λm F'=>Lnk F' b3 bm bf n (λk j=>R k j || (decide (k<m) && P k && Q j))/\dE (λx=>x=bf) F2 F') Om rfl
  (λm F' hI=>⟨hI.1.tab,ac (hI.2 _ _ qc' hcf)⟩) (λi F' hi hp hI=> ?_) (λi F' hi hp hI=> ?_) ⟨?_,dE.refl _ _⟩).mono ?_
 ·refine ⟨?_,hI.2⟩;have:(λk j=>R k j || (decide (k<i+1) && P k && Q j))=λk j=>R k j || (decide (k<i) && P k && Q j):=by
   funext k j;by_cases hk:k=i
   ·subst hk;simp [hp]
   ·rw [show decide (k<i+1)=decide (k<i) by rw [Xc];simp;omega]
  rw [this];exact hI.1
 ·refine (Ac hI.1 h0 (hP i hp) (hI.2 _ _ qd hdf) hdf).mono ?_;rintro _ F'' ⟨rfl,hL,hk⟩;refine ⟨rfl,?_,hI.2.trans hk⟩;have:(λk j=>(R k j || (decide (k<i) && P k && Q j)) || (decide (k=i) && Q j))=λk j=>R k j || (decide (k<i+1) && P k && Q j):=by
   funext k j;by_cases hk:k=i
   ·subst hk;simp [hp]
   ·rw [show decide (k<i+1)=decide (k<i) by rw [Xc];simp;omega];simp [hk]
  rw [<- this];exact hL
 ·have:(λk j=>R k j || (decide (k<0) && P k && Q j))=R:=by funext k j;simp
  rw [this];exact h.le l2
 ·rintro _ F' ⟨rfl,hL,hk⟩;refine ⟨rfl,rfl,?_,λx o hx hn=>hk x o (l2 _ _ hx) hn⟩;have:Lnk F' b3 bm bf n (λk j=>R k j || (P k && Q j)):=by
   refine ⟨hL.tab,hL.q3,hL.q17,?_⟩;have e:dk n (λk j=>R k j || (P k && Q j))=dk n (λk j=>R k j || (decide (k<512) && P k && Q j)):=by refine oB λi hi=> ?_;funext j;rw [show decide (i<512)=Y8 by simp;omega,Yp]
   rw [e];exact hL.qf
  exact this
end
theorem Gj:aC prog 202=Y8:=by kernel_rfl
theorem nF:aC prog 206=Y8:=by kernel_rfl
open Classical in
def fB (t:Lt):Nat->Bool:=λj=>decide (t.first j)
open Classical in
def lB (t:Lt):Nat->Bool:=λj=>decide (t.last j)
open Classical in
def foB (t:Lt):Nat->Nat->Bool:=λi j=>decide (t.fol i j)
theorem eA {t:Lt} {j:Nat}:fB t j=Y8↔t.first j:=by simp [fB]
theorem dD {t:Lt} {j:Nat}:lB t j=Y8↔t.last j:=by simp [lB]
theorem jQ {t:Lt} {i j:Nat}:foB t i j=Y8↔t.fol i j:=by simp [foB]
theorem On:fB .emp=noP:=by funext j;rw [Xc,eA];simp [Lt.first,noP]
theorem Oo:lB .emp=noP:=by funext j;rw [Xc,dD];simp [Lt.last,noP]
theorem JB (i j:Nat):foB .emp i j=Y6:=by rw [<- YB,jQ];exact id
theorem Oq {i lo hi:Nat}:fB (.rng i lo hi)=λj=>noP j || decide (j=i):=by funext j;rw [Xc,eA];simp [Lt.first,noP];exact eq_comm
theorem Ot {i lo hi:Nat}:lB (.rng i lo hi)=λj=>noP j || decide (j=i):=by funext j;rw [Xc,dD];simp [Lt.last,noP];exact eq_comm
theorem JC {i lo hi:Nat} (k j:Nat):foB (.rng i lo hi) k j=Y6:=by rw [<- YB,jQ];exact id
theorem JD {t u:Lt} (h:t.nul=Y8):fB (.seq t u)=λi=>fB t i || fB u i:=by funext j;rw [Xc,XU,eA,eA,eA];simp [Lt.first,h]
theorem JE {t u:Lt} (h:t.nul=Y6):fB (.seq t u)=fB t:=by funext j;rw [Xc,eA,eA];simp [Lt.first,h]
theorem JF {t u:Lt} (h:u.nul=Y8):lB (.seq t u)=λi=>lB u i || lB t i:=by funext j;rw [Xc,XU,dD,dD,dD];simp [Lt.last,h]
theorem JG {t u:Lt} (h:u.nul=Y6):lB (.seq t u)=lB u:=by funext j;rw [Xc,dD,dD];simp [Lt.last,h]
theorem JH {t u:Lt} (k j:Nat):foB (.seq t u) k j=(foB t k j || (foB u k j || (lB t k && fB u j))):=by rw [Xc];simp only [XU,XJ,jQ,dD,eA,Lt.fol]
theorem Ou {t u:Lt}:fB (.alt t u)=λi=>fB t i || fB u i:=by funext j;rw [Xc,XU,eA,eA,eA];simp [Lt.first]
theorem Ow {t u:Lt}:lB (.alt t u)=λi=>lB t i || lB u i:=by funext j;rw [Xc,XU,dD,dD,dD];simp [Lt.last]
theorem JI {t u:Lt} (k j:Nat):foB (.alt t u) k j=(foB t k j || foB u k j):=by rw [Xc];simp only [XU,jQ,Lt.fol]
theorem Ox {t:Lt}:fB (.rep t)=fB t:=by funext j;rw [Xc,eA,eA];simp [Lt.first]
theorem Oy {t:Lt}:lB (.rep t)=lB t:=by funext j;rw [Xc,dD,dD];simp [Lt.last]
theorem JJ {t:Lt} (k j:Nat):foB (.rep t) k j=(foB t k j || (lB t k && fB t j)):=by rw [Xc];simp only [XU,XJ,jQ,dD,eA,Lt.fol]
theorem dS {l:List Nd} {i:Nat} {t:Lt} {ns:Δ} (h:cT l i t ns):(∀j∈ns,j<l.length)/\∀j,t.lab j->j∈ns:=by
 induction h with
 |emp hx hk=>exact ⟨λj hj=>by simp at hj;subst hj;exact (N6.1 hx).1,λj h=>h.elim⟩
 |rng hx hk _ _ _ _=>exact ⟨λj hj=>by simp at hj;subst hj;exact (N6.1 hx).1,λj h=>by rw [show j=_ from h.symm];simp⟩
 |seq hx hk _ _ _ _ i1 i2=>
  refine ⟨λj hj=> ?_,λj h=> ?_⟩
  ·simp only [XP,W6,W9] at hj;rcases hj with rfl|hj|hj
   ·exact (N6.1 hx).1
   ·exact i1.1 j hj
   ·exact i2.1 j hj
  ·simp only [XP,W6,W9];exact .inr (h.elim (λh=> .inl (i1.2 j h)) λh=> .inr (i2.2 j h))
 |alt hx hk _ _ _ _ i1 i2=>
  refine ⟨λj hj=> ?_,λj h=> ?_⟩
  ·simp only [XP,W6,W9] at hj;rcases hj with rfl|hj|hj
   ·exact (N6.1 hx).1
   ·exact i1.1 j hj
   ·exact i2.1 j hj
  ·simp only [XP,W6,W9];exact .inr (h.elim (λh=> .inl (i1.2 j h)) λh=> .inr (i2.2 j h))
 |rep hx hk _ _ i1=>
  refine ⟨λj hj=> ?_,λj h=> ?_⟩
  ·simp only [W6] at hj;rcases hj with rfl|hj
   ·exact (N6.1 hx).1
   ·exact i1.1 j hj
  ·exact Xo _ (i1.2 j h)
theorem Co {l:List Nd} {i:Nat} {t:Lt} {ns:Δ} (h:cT l i t ns) {j:Nat} (hj:lB t j=Y8):j<l.length:=(dS h).1 j ((dS h).2 j (t.last_lab (dD.1 hj)))
theorem RdS.keep {F F':PH} {s:Sl} {size:Nat} {vs:Ξ} (h:RdS F s size vs) (hk:∀a,s.YZ=Y3 a->∀o,F a.block=Y3 o->F' a.block=Y3 o):RdS F' s size vs:=by
 refine ⟨h.len,h.cap,λhp=> ?_⟩;obtain ⟨b,o,h1,h2⟩:=h.cells hp;refine ⟨b,o,h1,λi hi=> ?_⟩;have hc:=h2 i hi;unfold PH.cell at hc ⊢;cases hz:F b with
 |none=>simp only [hz] at hc;cases hc
 |some ob=>simp only [hz] at hc;simp only [hk _ h1 ob hz];exact hc
structure Cmp (F:PH) (b1 b3 b4 b5 bm bf:Nat) (l:List Nd) (R:Nat->Nat->Bool):Prop where
 lnk:Lnk F b3 bm bf l.length R
 q1:∃s:Sl,F b1=Y3 (Y4 #[s.v] 144)/\RdS F s 5 (dW l)/\∀a,s.YZ=Y3 a->a.block≠bf
 q4:F b4=Y3 (Y4 #[.func (.func 206) #[] #[pa b1,pa b4,pa b5]] 247)
 q5:F b5=Y3 (Y4 #[.func (.func 202) #[] #[pa b3]] 251)
section
variable {F F':PH} {b1 b3 b4 b5 bm bf:Nat} {l:List Nd} {R R':Nat->Nat->Bool}
theorem Cmp.le (h:Cmp F b1 b3 b4 b5 bm bf l R) (hl:F.le F'):Cmp F' b1 b3 b4 b5 bm bf l R:=by obtain ⟨s,a,b,c⟩:=h.q1;exact ⟨h.lnk.le hl,⟨s,hl _ _ a,b.le hl,c⟩,hl _ _ h.q4,hl _ _ h.q5⟩
theorem Cmp.keep (h:Cmp F b1 b3 b4 b5 bm bf l R) (hk:dE (λx=>x=bf) F F') (hL:Lnk F' b3 bm bf l.length R'):Cmp F' b1 b3 b4 b5 bm bf l R':=by
 obtain ⟨s,a,b,c⟩:=h.q1;have hne:∀{x:Nat} {cs:Γ} {e:TypeId},e≠229->F x=Y3 (Y4 cs e)->x≠bf:=λhe hx e=>by rw [e,h.lnk.qf] at hx;simp at hx;exact he hx.2.symm
 exact ⟨hL,⟨s,hk _ _ a (hne (by decide) a),b.keep λad had o ho=>hk _ _ ho (c ad had),c⟩,hk _ _ h.q4 (hne (by decide) h.q4),hk _ _ h.q5 (hne (by decide) h.q5)⟩
theorem Cmp.to (h:Cmp F b1 b3 b4 b5 bm bf l R) (e:∀k j,R k j=R' k j):Cmp F b1 b3 b4 b5 bm bf l R':=by
 have:R=R':=by funext k j;exact e k j
 rw [<- this];exact h
set_option maxHeartbeats 4000000 in
theorem D6 (hn:l.length<=512) (h0:bf≠0) {i:Nat} {t:Lt} {ns:Δ} (h:cT l i t ns):∀{F:PH} {R:Nat->Nat->Bool},Cmp F b1 b3 b4 b5 bm bf l R->
    ν 206 #[vi i,pa b1,pa b4,pa b5] F λr F'=>r=Zh #[Y9 (plA (fB t)),Y9 (plA (lB t)),Za t.nul]/\Cmp F' b1 b3 b4 b5 bm bf l (λk j=>R k j || foB t k j)/\dE (λx=>x=bf) F F':=by
  induction h with
    (intro F R hC
     obtain ⟨s,q1,hs,hsb⟩:=hC.q1;have hlen:=hs.nlen;have hi':=(N6.1 hx).1;obtain ⟨ad,had,hrow⟩:=rdn hs hx;refine TY ?_;unfold Nl;have h:=Lo.start F;refine h.new _ _ λr1 F1 h=>h.new _ _ λr2 F2 h=> ?_;rw [<- dX] at h;refine ⟨_,rfl,s,by rw [aq (h.le _ _ q1)];rfl,ad,had,by omega,by omega,x.arr,rfl,λk hk'=>aI h.le (hrow k hk'),?_⟩;refine h.new _ _ λb8 F3 h=>Lo.put [] _ (w:=x.arr) (n:=5) h rfl rfl (gC x) λF4 h=> ?_;refine ⟨x.k,h.cl 0 rfl rfl,?_⟩
     have hK:dE (λx=>x=bf) F F:=dE.refl _ _)
  | @emp i x hx hk=>refine ⟨λh=>absurd h (by omega),λ_=>⟨λh=>absurd h (by omega),λ_=>⟨λh=>absurd h (by omega),λ_=>⟨λh=>absurd h (by omega),λ_=> ?_⟩⟩⟩⟩;refine ⟨plA noP,rfl,h.ro 2 rfl,plA noP,rfl,h.ro 1 rfl,?_⟩;refine h.q2 λF5 h=>⟨h.ro 1 rfl,h.q1 λF6 h=>⟨plA noP,rfl,h.ro 2 rfl,plA noP,rfl,h.ro 1 rfl,?_,(hC.le h.le).to (λk j=>by rw [JB,YT]),λy o hy hn=>h.le _ _ (hK y o hy hn)⟩⟩;rw [On,Oo,Lt.nul]
  | @rng i lo hi x hx hk hlo hhi hle h255=>refine ⟨λ_=> ?_,λh=>absurd hk h⟩;refine (h.ad2 (by omega)).mono ?_;rintro _ F5 ⟨rfl,h⟩;refine ⟨rfl,_,rfl,h.ro 2 rfl,_,rfl,h.ro 2 rfl,?_⟩;refine h.q2 λF6 h=>h.q1 λF7 h=>⟨_,rfl,h.ro 2 rfl,_,rfl,h.ro 1 rfl,?_,(hC.le h.le).to (λk j=>by rw [JC,YT]),λy o hy hn=>h.le _ _ (hK y o hy hn)⟩;rw [Oq,Ot,Lt.nul]
  | @seq i a b x t u na nb hx hk hxa hxb ht hu it iu=>
    refine ⟨λh=>absurd h (by omega),λ_=>⟨λ_=> ?_,λh=>absurd hk h⟩⟩;refine ⟨_,rfl,_,by rw [aq (h.le _ _ hC.q4)];rfl,_,h.cl 0 rfl rfl,206,#[],_,rfl,nF,?_⟩;rw [hxa];refine (h.call (it hC)).mono ?_;rintro _ F5 ⟨G5,⟨rfl,hC,hk'⟩,h⟩;have hK:=hK.trans hk';refine ⟨_,_,_,rfl,?_⟩;refine h.new _ _ λb9 F6 h=>h.new _ _ λb10 F7 h=> ?_;rw [<- dX] at h;refine h.q1 λF8 h=>h.q0 λF9 h=> ?_;refine ⟨_,by rw [aq (h.le _ _ hC.q4)];rfl,_,h.cl 2 rfl rfl,206,#[],_,rfl,nF,?_⟩;rw [hxb];refine (h.call (iu hC)).mono ?_;rintro _ F10 ⟨G10,⟨rfl,hC,hk'⟩,h⟩;have hK:=hK.trans hk';refine ⟨_,_,_,rfl,?_⟩;refine h.new _ _ λb12 F11 h=>h.new _ _ λb13 F12 h=> ?_;rw [<- dX] at h;refine h.q1 λF13 h=>h.q0 λF14 h=> ?_;refine ⟨_,rfl,_,by rw [aq (h.le _ _ hC.q5)];rfl,plA (lB t),rfl,h.ro 2 rfl,plA (fB u),rfl,h.ro 1 rfl,202,#[],_,rfl,Gj,?_⟩;refine (h.call (uc (P:=lB t) (Q:=fB u) hC.lnk h0 hn (λj hj=>Co ht hj))).mono ?_;rintro _ F15 ⟨G15,⟨rfl,hL,hk'⟩,h⟩;have hC:=hC.keep hk' hL;have hK:=hK.trans hk';refine ⟨rfl,?_⟩;have hR:∀k j,(R k j || foB t k j || foB u k j || (lB t k && fB u j))=(R k j || foB (.seq t u) k j):=λk j=>by rw [JH];simp only [Bool.or_assoc]
    have j2:∀{A B:Nat->Bool} {F':PH},fB (.seq t u)=A->lB (.seq t u)=B->Lo G15 F' [(b13,plA B,229),(b12,plA (fB u),229),(b10,plA (lB t),229),(b9,plA A,229),(b8,x.arr,149),(r2,plA noP,229),(r1,plA noP,229)]->pW r1 r2 b9 t.nul b13 u.nul (λr F'=>r=Zh #[Y9 (plA (fB (.seq t u))),Y9 (plA (lB (.seq t u))),Za (Lt.nul (.seq t u))]/\Cmp F' b1 b3 b4 b5 bm bf l (λk j=>R k j || foB (.seq t u) k j)/\dE (λx=>x=bf) F F') F':=λ{A B F'} e1 e2 h=>by
      unfold pW;rw [e1,e2];refine ⟨_,rfl,h.ro 3 rfl,_,rfl,h.ro 0 rfl,λha=> ?_,λha=> ?_⟩;all_goals
        refine h.q6 λF18 h=>h.q5 λF19 h=>⟨_,rfl,h.ro 6 rfl,_,rfl,h.ro 5 rfl,?_,(hC.le h.le).to hR,λy o hy hn=>h.le _ _ (hK y o hy hn)⟩;simp only [Lt.nul,ha];rfl
    have j1:∀{A:Nat->Bool} {F':PH},fB (.seq t u)=A->Lo G15 F' [(b13,plA (lB u),229),(b12,plA (fB u),229),(b10,plA (lB t),229),(b9,plA A,229),(b8,x.arr,149),(r2,plA noP,229),(r1,plA noP,229)]->pX r1 r2 b9 b10 t.nul b13 u.nul (λr F'=>r=Zh #[Y9 (plA (fB (.seq t u))),Y9 (plA (lB (.seq t u))),Za (Lt.nul (.seq t u))]/\Cmp F' b1 b3 b4 b5 bm bf l (λk j=>R k j || foB (.seq t u) k j)/\dE (λx=>x=bf) F F') F':=λ{A F'} e1 h=>by unfold pX;refine ⟨λhb=>⟨_,rfl,h.ro 2 rfl,(h.jn0).mono ?_⟩,λhb=>j2 e1 (JG hb) h⟩;rintro _ F17 ⟨rfl,h⟩;exact ⟨rfl,j2 e1 (JF hb) h⟩
    refine ⟨λHA=>⟨_,rfl,h.ro 1 rfl,(h.jn3).mono ?_⟩,λHA=>j1 (JE HA) h⟩;rintro _ F16 ⟨rfl,h⟩;exact ⟨rfl,j1 (JD HA) h⟩
  | @alt i a b x t u na nb hx hk hxa hxb ht hu it iu=>
    refine ⟨λh=>absurd h (by omega),λ_=>⟨λh=>absurd h (by omega),λ_=>⟨λ_=> ?_,λh=>absurd hk h⟩⟩⟩;refine ⟨_,rfl,_,by rw [aq (h.le _ _ hC.q4)];rfl,_,h.cl 0 rfl rfl,206,#[],_,rfl,nF,?_⟩;rw [hxa];refine (h.call (it hC)).mono ?_;rintro _ F5 ⟨G5,⟨rfl,hC,hk'⟩,h⟩;have hK:=hK.trans hk';refine ⟨_,_,_,rfl,?_⟩;refine h.new _ _ λb15 F6 h=>h.new _ _ λb16 F7 h=> ?_;rw [<- dX] at h;refine h.q1 λF8 h=>h.q0 λF9 h=> ?_;refine ⟨_,by rw [aq (h.le _ _ hC.q4)];rfl,_,h.cl 2 rfl rfl,206,#[],_,rfl,nF,?_⟩;rw [hxb];refine (h.call (iu hC)).mono ?_;rintro _ F10 ⟨G10,⟨rfl,hC,hk'⟩,h⟩;have hK:=hK.trans hk';refine ⟨_,_,_,rfl,?_⟩;refine h.new _ _ λb18 F11 h=>h.new _ _ λb19 F12 h=> ?_;rw [<- dX] at h;refine h.q1 λF13 h=>h.q0 λF14 h=> ?_;refine ⟨_,rfl,h.ro 1 rfl,(h.jn3).mono ?_⟩;rintro _ F15 ⟨rfl,h⟩;refine ⟨rfl,_,rfl,h.ro 0 rfl,(h.jn2).mono ?_⟩;rintro _ F16 ⟨rfl,h⟩;have hR:∀k j,(R k j || foB t k j || foB u k j)=(R k j || foB (.alt t u) k j):=λk j=>by rw [JI,Bool.or_assoc]
    refine ⟨rfl,_,rfl,h.ro 3 rfl,_,rfl,h.ro 2 rfl,λha=> ?_,λha=> ?_⟩;all_goals
      refine h.q6 λF17 h=>h.q5 λF18 h=>⟨_,rfl,h.ro 6 rfl,_,rfl,h.ro 5 rfl,?_,(hC.le h.le).to hR,λy o hy hn=>h.le _ _ (hK y o hy hn)⟩;rw [Ou,Ow];simp only [Lt.nul,ha];rfl
  | @rep i a x t na hx hk hxa ht it=>
    refine ⟨λh=>absurd h (by omega),λ_=>⟨λh=>absurd h (by omega),λ_=>⟨λh=>absurd h (by omega),λ_=>⟨λ_=> ?_,λh=>absurd hk h⟩⟩⟩⟩;refine ⟨_,rfl,_,by rw [aq (h.le _ _ hC.q4)];rfl,_,h.cl 0 rfl rfl,206,#[],_,rfl,nF,?_⟩;rw [hxa];refine (h.call (it hC)).mono ?_;rintro _ F5 ⟨G5,⟨rfl,hC,hk'⟩,h⟩;have hK:=hK.trans hk';refine ⟨_,_,_,rfl,?_⟩;refine h.new _ _ λb21 F6 h=>h.new _ _ λb22 F7 h=> ?_;rw [<- dX] at h;refine h.q1 λF8 h=>h.q0 λF9 h=> ?_;refine ⟨_,rfl,_,by rw [aq (h.le _ _ hC.q5)];rfl,plA (lB t),rfl,h.ro 0 rfl,plA (fB t),rfl,h.ro 1 rfl,202,#[],_,rfl,Gj,?_⟩;refine (h.call (uc (P:=lB t) (Q:=fB t) hC.lnk h0 hn (λj hj=>Co ht hj))).mono ?_;rintro _ F10 ⟨G10,⟨rfl,hL,hk'⟩,h⟩;have hC:=hC.keep hk' hL;have hK:=hK.trans hk';have hR:∀k j,(R k j || foB t k j || (lB t k && fB t j))=(R k j || foB (.rep t) k j):=λk j=>by rw [JJ];simp only [Bool.or_assoc]
    refine ⟨rfl,_,rfl,h.ro 1 rfl,_,rfl,h.ro 0 rfl,?_⟩;refine h.q4 λF11 h=>⟨h.ro 0 rfl,h.q3 λF12 h=>⟨_,rfl,h.ro 4 rfl,_,rfl,h.ro 3 rfl,?_,(hC.le h.le).to hR,λy o hy hn=>h.le _ _ (hK y o hy hn)⟩⟩;rw [Ox,Oy,Lt.nul]
end
def bQ (s:Sl) (P Q:Nat->Bool) (bf n:Nat) (e:Bool):Γ:=
 #[s.v,dg (wd P 0),dg (wd P 1),dg (wd P 2),dg (wd P 3),dg (wd P 4),dg (wd P 5),dg (wd P 6),dg (wd P 7),
  dg (wd Q 0),dg (wd Q 1),dg (wd Q 2),dg (wd Q 3),dg (wd Q 4),dg (wd Q 5),dg (wd Q 6),dg (wd Q 7),Sl.v ⟨Y3 ⟨bf,0,Y5⟩,n,n⟩,Za e]
theorem SG (a0 a1 a2 a3 a4 a5 a6 a7 a8 a9 a10 a11 a12 a13 a14 a15 a16 a17 a18 v0 v1 v2 v3 v4 v5 v6 v7:ξ):wr (#[a0,a1,a2,a3,a4,a5,a6,a7,a8,a9,a10,a11,a12,a13,a14,a15,a16,a17,a18]:Γ) 1 [v0,v1,v2,v3,v4,v5,v6,v7]= #[a0,v0,v1,v2,v3,v4,v5,v6,v7,a9,a10,a11,a12,a13,a14,a15,a16,a17,a18]:=
 (dM [v0,v1,v2,v3,v4,v5,v6,v7] [a0,a1,a2,a3,a4,a5,a6,a7,a8,a9,a10,a11,a12,a13,a14,a15,a16,a17,a18] 1 (by show 9<=19;omega)).trans rfl
theorem SH (a0 a1 a2 a3 a4 a5 a6 a7 a8 a9 a10 a11 a12 a13 a14 a15 a16 a17 a18 v0 v1 v2 v3 v4 v5 v6 v7:ξ):wr (#[a0,a1,a2,a3,a4,a5,a6,a7,a8,a9,a10,a11,a12,a13,a14,a15,a16,a17,a18]:Γ) 9 [v0,v1,v2,v3,v4,v5,v6,v7]= #[a0,a1,a2,a3,a4,a5,a6,a7,a8,v0,v1,v2,v3,v4,v5,v6,v7,a17,a18]:=
 (dM [v0,v1,v2,v3,v4,v5,v6,v7] [a0,a1,a2,a3,a4,a5,a6,a7,a8,a9,a10,a11,a12,a13,a14,a15,a16,a17,a18] 9 (by show 17<=19;omega)).trans rfl
theorem SI (s:Sl) (P P' Q:Nat->Bool) (bf n:Nat) (e:Bool):wr (bQ s P' Q bf n e) 1 (plA P).toList=bQ s P Q bf n e:=SG _ _ _ _ _ _ _ _ _ _ _ _ _ _ _ _ _ _ _ _ _ _ _ _ _ _ _
theorem SJ (s:Sl) (P Q' Q:Nat->Bool) (bf n:Nat) (e:Bool):wr (bQ s P Q' bf n e) 9 (plA Q).toList=bQ s P Q bf n e:=SH _ _ _ _ _ _ _ _ _ _ _ _ _ _ _ _ _ _ _ _ _ _ _ _ _ _ _
theorem SK (s:Sl) (P Q:Nat->Bool) (bf n:Nat) (e e':Bool):(bQ s P Q bf n e).setIfInBounds 18 (Za e')=bQ s P Q bf n e':=rfl
def noR:Nat->Nat->Bool:=λ_ _=>Y6
theorem ud:∀n:Nat,dk n noR=List.replicate (n*8) (Zf .u64 0)
 |0=>rfl
 |n+1=>by
  have:=ud n;unfold dk at this ⊢;rw [Yw,X7,this,XS,List.flatMap_nil,XH];have e:(plA (noR n)).toList=List.replicate 8 (Zf .u64 0):=by show (plA noP).toList=_;rw [dX];rfl
  rw [e,List.replicate_append_replicate];congr 1;omega
theorem Gl:tsz prog 229=Y3 (8,64):=by kernel_rfl
theorem Gm:bO prog 229=Y3 (Y9 #[Zf .u64 0,.int .u64 0,.int .u64 0,.int .u64 0,.int .u64 0,.int .u64 0,.int .u64 0,.int .u64 0]):=by kernel_rfl
theorem zc8 (n:Nat):Builtin.zeroCells (Y9 #[Zf .u64 0,.int .u64 0,.int .u64 0,.int .u64 0,.int .u64 0,.int .u64 0,.int .u64 0,.int .u64 0]).cells n=(dk n noR).toArray:=by
 rw [ud];have hz:(Y9 #[Zf .u64 0,.int .u64 0,.int .u64 0,.int .u64 0,.int .u64 0,.int .u64 0,.int .u64 0,.int .u64 0]).cells=(List.replicate 8 (Zf .u64 0)).toArray:=rfl;rw [hz];apply Array.ext
 ·simp [Builtin.zeroCells]
 ·intro i h1 h2;simp only [Builtin.zeroCells,Array.getElem_map,Array.getElem_range,List.getElem_toArray,List.getElem_replicate];have:i % (List.replicate 8 (Zf .u64 0)).toArray.size<8:=X8 _ (by decide);rw [getElem!_pos _ _ (by simpa using this)];simp only [YI,List.length_replicate,List.getElem_toArray,List.getElem_replicate]
structure Mch (F:PH) (bm:Nat) (l:List Nd) (t:Lt):Prop where
 ex:∃(s:Sl) (bf:Nat),F bm=Y3 (Y4 (bQ s (fB t) (lB t) bf l.length t.nul) 232)/\RdS F s 5 (dW l)/\F bf=Y3 (Y4 (dk l.length (foB t)).toArray 229)
theorem Mch.le {F G:PH} {bm:Nat} {l:List Nd} {t:Lt} (h:Mch F bm l t) (hl:F.le G):Mch G bm l t:=by obtain ⟨s,bf,a,b,c⟩:=h.ex;exact ⟨s,bf,hl _ _ a,b.le hl,hl _ _ c⟩
theorem Tab.zero {F:PH} (h:Tab F):∃o,F 0=Y3 o:=by
 have:=h 0 0 rfl;unfold PH.cell at this;cases hz:F 0 with
 |none=>rw [hz] at this;cases this
 |some o=>exact ⟨o,rfl⟩
theorem RdS.block {F:PH} {s:Sl} {size:Nat} {vs:Ξ} (h:RdS F s size vs) (hv:0<vs.length) {a:Addr} (ha:s.YZ=Y3 a):∃o,F a.block=Y3 o:=by
 have hp:0<s.len:=by
  rcases Yl s.len with h0|h0
  ·have:=h.len;rw [h0,Yf] at this;omega
  ·exact h0
 obtain ⟨b,o,h1,h2⟩:=h.cells hp;rw [ha] at h1;cases h1;have hc:=h2 0 hv;unfold PH.cell at hc;cases hz:F b with
 |none=>simp only [hz] at hc;cases hc
 |some ob=>exact ⟨ob,rfl⟩
theorem Lo.new' {G F:PH} {xs:List (Nat×Γ×TypeId)} (h:Lo G F xs) (c:Γ) (e:TypeId) {b:Nat} (hb:F b=Y5):Lo G (F.set b (Y4 c e)) ((b,c,e)::xs):=
 atE (h.new c e (K:=λb F'=>Lo G F' ((b,c,e)::xs)) (λ_ _ h=>h) b hb)
section
variable {F0 F:PH} {l:List Nd}
set_option maxHeartbeats 1000000 in
theorem Ad {s:Sl} {b1 b3 bm bf:Nat} (hT:Tab F0) (hG:GoodL l) (hl:l.length<=512) (hs:RdS F0 s 5 (dW l)) (le:F0.le F) (q1:F b1=Y3 (Y4 #[s.v] 144)) (q3:F b3=Y3 (Y4 #[pa bm] 226))
  (qm:F bm=Y3 (Y4 (bQ s noP noP bf l.length Y6) 232)) (qf:F bf=Y3 (Y4 (dk l.length noR).toArray 229)) (zm:F0 bm=Y5) (zf:F0 bf=Y5) {R:ξ->Ψ}
  (k:∀F',Mch F' bm l (bS l)->F0.le F'->R (pa bm) F'):jX b1 (Y3 ⟨b3,0,Y5⟩) R F:=by
 obtain ⟨ns,ht⟩:=iJ hG;have hlen:=hs.nlen;have hpos:=Yh.2 hG.ne;have h0:bf≠0:=λe=>by obtain ⟨o,ho⟩:=hT.zero;rw [e,ho] at zf;cases zf
 unfold jX;intro b4 hb4;refine atI ?_;have l4:=ae (Y4 #[.nilFunc] 247) hb4;have q4:=al F b4 (Y4 #[.nilFunc] 247);have le4:=aa le l4;have q1:=l4 _ _ q1;have q3:=l4 _ _ q3;have qm:=l4 _ _ qm;have qf:=l4 _ _ qf;have z4:F0 b4=Y5:=aS le hb4;clear l4 hb4 le;generalize F.set b4 (Y4 #[.nilFunc] 247)=F1 at*;intro b5 hb5;refine atI ?_;have l5:=ae (Y4 #[.nilFunc] 251) hb5;have q5:=al F1 b5 (Y4 #[.nilFunc] 251);have le5:=aa le4 l5;have q1:=l5 _ _ q1;have q3:=l5 _ _ q3;have qm:=l5 _ _ qm;have qf:=l5 _ _ qf;have n45:b4≠b5:=aG hb5 q4;have q4:=l5 _ _ q4;have z5:F0 b5=Y5:=aS le4 hb5;clear l5 hb5 le4;generalize F1.set b5 (Y4 #[.nilFunc] 251)=F2 at*;have ne:∀{x y:Nat} {c d:Γ} {e e':TypeId},e≠e'->F2 x=Y3 (Y4 c e)->F2 y=Y3 (Y4 d e')->x≠y:=λhe hx hy e=>by rw [e,hy] at hx;simp at hx;exact he hx.2.symm
 refine st1 (o:=0) q5 (by simp) ?_;show ∃c e,_;have e5:(#[Value.nilFunc]:Γ).setIfInBounds 0 (.func (.func 202) #[] #[pa b3])= #[.func (.func 202) #[] #[pa b3]]:=rfl;rw [e5];have le6:=aw (o:=Y4 #[.func (.func 202) #[] #[pa b3]] 251) le5 z5;have q1':(F2.set b5 (Y4 #[.func (.func 202) #[] #[pa b3]] 251)) b1=_:=(az _ _ (ne (by decide) q1 q5)).trans q1;have q3':(F2.set b5 (Y4 #[.func (.func 202) #[] #[pa b3]] 251)) b3=_:=(az _ _ (ne (by decide) q3 q5)).trans q3;have qm':(F2.set b5 (Y4 #[.func (.func 202) #[] #[pa b3]] 251)) bm=_:=(az _ _ (ne (by decide) qm q5)).trans qm;have qf':(F2.set b5 (Y4 #[.func (.func 202) #[] #[pa b3]] 251)) bf=_:=(az _ _ (ne (by decide) qf q5)).trans qf;have q4':(F2.set b5 (Y4 #[.func (.func 202) #[] #[pa b3]] 251)) b4=_:=(az _ _ n45).trans q4;have q5':=al F2 b5 (Y4 #[.func (.func 202) #[] #[pa b3]] 251);clear q1 q3 qm qf q4 q5 le5 ne;generalize F2.set b5 (Y4 #[.func (.func 202) #[] #[pa b3]] 251)=F3 at*;have ne:∀{x y:Nat} {c d:Γ} {e e':TypeId},e≠e'->F3 x=Y3 (Y4 c e)->F3 y=Y3 (Y4 d e')->x≠y:=λhe hx hy e=>by rw [e,hy] at hx;simp at hx;exact he hx.2.symm
 refine st1 (o:=0) q4' (by simp) ?_;have e4:(#[Value.nilFunc]:Γ).setIfInBounds 0 (.func (.func 206) #[] #[pa b1,pa b4,pa b5])= #[.func (.func 206) #[] #[pa b1,pa b4,pa b5]]:=rfl;rw [e4];have le7:=aw (o:=Y4 #[.func (.func 206) #[] #[pa b1,pa b4,pa b5]] 247) le6 z4;have q1:(F3.set b4 (Y4 #[.func (.func 206) #[] #[pa b1,pa b4,pa b5]] 247)) b1=_:=(az _ _ (ne (by decide) q1' q4')).trans q1';have q3:(F3.set b4 (Y4 #[.func (.func 206) #[] #[pa b1,pa b4,pa b5]] 247)) b3=_:=(az _ _ (ne (by decide) q3' q4')).trans q3';have qm:(F3.set b4 (Y4 #[.func (.func 206) #[] #[pa b1,pa b4,pa b5]] 247)) bm=_:=(az _ _ (ne (by decide) qm' q4')).trans qm';have qf:(F3.set b4 (Y4 #[.func (.func 206) #[] #[pa b1,pa b4,pa b5]] 247)) bf=_:=(az _ _ (ne (by decide) qf' q4')).trans qf';have q5:(F3.set b4 (Y4 #[.func (.func 206) #[] #[pa b1,pa b4,pa b5]] 247)) b5=_:=(az _ _ n45.symm).trans q5';have q4:=al F3 b4 (Y4 #[.func (.func 206) #[] #[pa b1,pa b4,pa b5]] 247);clear q1' q3' qm' qf' q4' q5' le6 ne;generalize F3.set b4 (Y4 #[.func (.func 206) #[] #[pa b1,pa b4,pa b5]] 247)=F4 at*;have hs4:=hs.le le7;have hC:Cmp F4 b1 b3 b4 b5 bm bf l noR:=by refine ⟨⟨hT.le le7,q3,⟨_,qm,rfl⟩,qf⟩,⟨s,q1,hs4,λa ha e=> ?_⟩,q4,q5⟩;obtain ⟨o,ho⟩:=hs.block (by rw [iN];omega) ha;rw [e,zf] at ho;cases ho
 have c3:F4.cell (Zc b3 0 Y5)=Y3 (pa bm):=by rw [aq q3];rfl
 refine ⟨_,rfl,_,c3,_,c3,_,c3,_,by rw [aq q4];rfl,s,by rw [aq q1];rfl,206,#[],_,rfl,nF,?_⟩;have ew:i64.wrap ((s.len:Int) - 1)=((l.length - 1:Nat):Int):=by rw [hlen,aP (by omega)];omega
 rw [ew];refine (D6 hl h0 ht hC).mono ?_;rintro _ F5 ⟨rfl,hC5,hK⟩;have hne:∀{x:Nat} {c:Γ} {e:TypeId},e≠229->F4 x=Y3 (Y4 c e)->x≠bf:=λhe hx e=>by rw [e,qf] at hx;simp at hx;exact he hx.2.symm
 have q1:=hK _ _ q1 (hne (by decide) q1);have q3:=hK _ _ q3 (hne (by decide) q3);have qm:=hK _ _ qm (hne (by decide) qm);have le8:F0.le F5:=λy o hy=>hK y o (le7 y o hy) λe=>by rw [e,zf] at hy;cases hy
 have c3:∀{G:PH},G b3=Y3 (Y4 #[pa bm] 226)->G.cell (Zc b3 0 Y5)=Y3 (pa bm):=λh=>by rw [aq h];rfl
 have n3m:b3≠bm:=λe=>by rw [e,qm] at q3;simp at q3
 have nfm:bf≠bm:=λe=>by rw [<- e,hC5.lnk.qf] at qm;simp at qm
 have nsm:∀a,s.YZ=Y3 a->a.block≠bm:=λa ha e=>by obtain ⟨o,ho⟩:=hs.block (by rw [iN];omega) ha;rw [e,zm] at ho;cases ho
 have qf:=hC5.lnk.qf;have hs5:=hs.le le8;clear hC hC5 hK hne;refine ⟨_,_,_,rfl,by rw [aq q1];rfl,c3 q3,c3 q3,c3 q3,_,rfl,rfl,gh _,_,_,qm,rfl,(by show 9<=19;omega),?_⟩;refine atI ?_;have w1:wr (bQ s noP noP bf l.length Y6) ((Zc bm 0 Y5).add 1).off (plA (fB (bS l))).toList=bQ s (fB (bS l)) noP bf l.length Y6:=SI _ _ _ _ _ _ _;rw [w1];show (F5.set bm _).cell _=_/\_;have q3a:(F5.set bm (Y4 (bQ s (fB (bS l)) noP bf l.length Y6) 232)) b3=_:=(az _ _ n3m).trans q3;have qma:=al F5 bm (Y4 (bQ s (fB (bS l)) noP bf l.length Y6) 232);refine ⟨c3 q3a,c3 q3a,_,rfl,rfl,gh _,_,_,qma,rfl,(by show 17<=19;omega),?_⟩;refine atI ?_;have w2:wr (bQ s (fB (bS l)) noP bf l.length Y6) ((Zc bm 0 Y5).add 9).off (plA (lB (bS l))).toList=bQ s (fB (bS l)) (lB (bS l)) bf l.length Y6:=SJ _ _ _ _ _ _ _;rw [w2];rw [show ((F5.set ((Zc bm 0 Y5).add 1).block (Y4 (bQ s (fB (bS l)) noP bf l.length Y6) 232)).set ((Zc bm 0 Y5).add 9).block (Y4 (bQ s (fB (bS l)) (lB (bS l)) bf l.length Y6) 232))=F5.set bm (Y4 (bQ s (fB (bS l)) (lB (bS l)) bf l.length Y6) 232) from aT _ _ _ _];have q3b:(F5.set bm (Y4 (bQ s (fB (bS l)) (lB (bS l)) bf l.length Y6) 232)) b3=_:=(az _ _ n3m).trans q3;have qmb:=al F5 bm (Y4 (bQ s (fB (bS l)) (lB (bS l)) bf l.length Y6) 232);refine ⟨c3 q3b,_,rfl,?_⟩;refine sE (b:=bm) (o:=18) rfl qmb (by show 18<19;omega) ?_;rw [aT];have w3:(bQ s (fB (bS l)) (lB (bS l)) bf l.length Y6).setIfInBounds 18 (Za (bS l).nul)=bQ s (fB (bS l)) (lB (bS l)) bf l.length (bS l).nul:=SK _ _ _ _ _ _ _;rw [w3];refine ⟨_,c3 ((az _ _ n3m).trans q3),k _ ⟨s,bf,al _ _ _,hs5.keep λa ha o ho=>(az _ _ (nsm a ha)).trans ho,?_⟩ (aw le8 zm)⟩;rw [az _ _ nfm,qf];congr 3
theorem wu {s:Sl} (hT:Tab F) (hG:GoodL l) (hl:l.length<=512) (hs:RdS F s 5 (dW l)):ν 184 #[s.v] F λr F'=>(∃bm,r=pa bm/\Mch F' bm l (bS l))/\F.le F':=by
 have hlen:=hs.nlen;refine TQ ?_;unfold Nc;have fin:∀{F':PH} {xs:List (Nat×Γ×TypeId)} {b1 bf bm b3:Nat},Lo F F' xs->(b1,#[s.v],144)∈xs->(b3,#[pa bm],226)∈xs->
   (bm,(#[s.v,Zf .u64 0,.int .u64 0,.int .u64 0,.int .u64 0,.int .u64 0,.int .u64 0,.int .u64 0,.int .u64 0,.int .u64 0,.int .u64 0,.int .u64 0,.int .u64 0,.int .u64 0,.int .u64 0,.int .u64 0,.int .u64 0,Sl.v ⟨Y3 ⟨bf,0,Y5⟩,s.len,s.len⟩,Za Y6]:Γ),232)∈xs->
   (bf,(dk s.len noR).toArray,229)∈xs->jX b1 (Y3 ⟨b3,0,Y5⟩) (λr F'=>(∃bm,r=pa bm/\Mch F' bm l (bS l))/\F.le F') F':=λh m1 m3 mm mf=>by
  have em:∀bf:Nat,(#[s.v,Zf .u64 0,.int .u64 0,.int .u64 0,.int .u64 0,.int .u64 0,.int .u64 0,.int .u64 0,.int .u64 0,.int .u64 0,.int .u64 0,.int .u64 0,.int .u64 0,.int .u64 0,.int .u64 0,.int .u64 0,.int .u64 0,Sl.v ⟨Y3 ⟨bf,0,Y5⟩,s.len,s.len⟩,Za Y6]:Γ)=bQ s noP noP bf l.length Y6:=λbf=>by unfold bQ noP;simp only [wM,hlen];rfl
  rw [em] at mm;rw [hlen] at mf;exact Ad hT hG hl hs h.le (h.get m1) (h.get m3) (h.get mm) (h.get mf) (h.z _ mm).2 (h.z _ mf).2 λF'' a b=>⟨⟨_,rfl,a⟩,b⟩
 have h:=Lo.start F;refine h.new _ _ λb1 F1 h=> ?_;have c1:F1.cell (Zc b1 0 Y5)=Y3 s.v:=by rw [h.cell (b:=b1) (w:= #[s.v]) (e:=144) (by simp)];rfl
 refine ⟨s,c1,s,c1,?_,?_⟩
 ·refine bU underlying230 Gl Gm rfl (by omega) (YK _) (by omega) (by omega) ?_;intro bf hbf;rw [zc8,N4];have h:=h.new' (dk s.len noR).toArray 229 hbf;generalize F1.set bf (Y4 (dk s.len noR).toArray 229)=F2 at*;have c1:F2.cell (Zc b1 0 Y5)=Y3 s.v:=by rw [h.cell (b:=b1) (w:= #[s.v]) (e:=144) (by simp)];rfl
  refine ⟨_,rfl,c1,c1,?_,?_⟩
  ·refine h.new _ _ λbm F3 h=> ?_;refine h.new _ _ λb3 F4 h=> ?_;refine Lo.put1 [] [(bm,_,232),(bf,_,229),(b1,_,144)] (b:=b3) (i:=0) (w0:= #[Ze Y5]) (w:= #[pa bm]) (e:=226) h (by simp) rfl λF5 h=> ?_;exact fin h (.tail _ (.tail _ (.tail _ (.head _)))) (.head _) (.tail _ (.head _)) (.tail _ (.tail _ (.head _)))
  ·refine h.new _ _ λb3 F3 h=> ?_;refine h.new _ _ λbm F4 h=> ?_;refine Lo.put1 [(bm,_,232)] [(bf,_,229),(b1,_,144)] (b:=b3) (i:=0) (w0:= #[Ze Y5]) (w:= #[pa bm]) (e:=226) h (by simp) rfl λF5 h=> ?_;exact fin h (.tail _ (.tail _ (.tail _ (.head _)))) (.tail _ (.head _)) (.head _) (.tail _ (.tail _ (.head _)))
 ·refine h.new _ _ λb3 F2 h=> ?_;refine bU underlying230 Gl Gm rfl (by omega) (YK _) (by omega) (by omega) ?_;intro bf hbf;rw [zc8,N4];have h:=h.new' (dk s.len noR).toArray 229 hbf;generalize F2.set bf (Y4 (dk s.len noR).toArray 229)=F3 at*;have c1:F3.cell (Zc b1 0 Y5)=Y3 s.v:=by rw [h.cell (b:=b1) (w:= #[s.v]) (e:=144) (by simp)];rfl
  refine ⟨_,rfl,c1,c1,?_⟩;refine h.new _ _ λbm F4 h=> ?_;refine Lo.put1 [(bm,_,232),(bf,_,229)] [(b1,_,144)] (b:=b3) (i:=0) (w0:= #[Ze Y5]) (w:= #[pa bm]) (e:=226) h (by simp) rfl λF5 h=> ?_;exact fin h (.tail _ (.tail _ (.tail _ (.head _)))) (.tail _ (.tail _ (.head _))) (.head _) (.tail _ (.head _))
end
abbrev LSp:=ForInStep (Option Bool×Unit)
section
variable {F:PH}
theorem Ae {P:Program} {α:Type} (step:α->Option Bool×Unit->Sem LSp) (eqs:α->Bool):∀(l:List α),(∀a∈l,rdo P (step a (Y5,())) F (if eqs a then .yield (Y5,()) else .done (Y3 Y6,())))->
  rdo P (forIn l (Y5,()) step) F (if l.all eqs then (Y5,()) else (Y3 Y6,()))
 |[],_=>rfl
 |a::l,h=>by
  rw [YG,aj];refine ⟨_,h a (by simp),?_⟩;rw [YL];cases eqs a with
  |false=>rfl
  |true=>rw [Yp];exact Ae step eqs l λb hb=>h b (by simp [hb])
theorem Cp (t:TypeId) (k:IntKind) (ht:prog.underlying t=Y3 (.int k)) (d:Nat) (a b:Int):rdo prog (Op.equalIn (d+1) t (.int k a) (.int k b)) F (decide (a=b)):=by simp only [Op.equalIn,aj];refine ⟨_,(av ht _).2 rfl,?_⟩;simp only [if_true,cK];by_cases h:a=b<;>simp [h]
theorem ue (t:TypeId) (k:IntKind) (ht:prog.underlying t=Y3 (.int k)) {cs:Γ} {off:Nat} {v:ξ} (h:cs[off]? =Y3 v):rdo prog (part t cs off) F v:=by unfold part;simp only [aj];refine ⟨Y6,(dK ht _).2 rfl,?_⟩;simp only [XE,if_false,h];rfl
theorem Gp (t:TypeId) (k:IntKind) (ht:prog.underlying t=Y3 (.int k)) (n off:Nat) (cs ds:Γ) (x y:Int) (h1:cs[off]? =Y3 (.int k x)) (h2:ds[off]? =Y3 (.int k y)):
  rdo prog (do
   let a <- part t cs off
   let b <- part t ds off
   let r <- Op.equalIn (n+1) t a b
   if (!r)=Y8 then pure (ForInStep.done (Y3 Y6,())) else pure (ForInStep.yield (Y5,())):Sem LSp) F (if decide (x=y)=Y8 then .yield (Y5,()) else .done (Y3 Y6,())):=by
 simp only [aj];refine ⟨_,ue t k ht h1,_,ue t k ht h2,_,Cp t k ht n x y,?_⟩;by_cases h:x=y<;>simp [h]
theorem SL:tsz prog 76=Y3 (1,8):=by kernel_rfl
theorem We {cs ds:Γ} {f g:Nat->Int} (h1:∀k,k<8->cs[k]? =Y3 (Zf .u64 (f k))) (h2:∀k,k<8->ds[k]? =Y3 (Zf .u64 (g k))):
  rdo prog (Op.equal 229 (Y9 cs) (Y9 ds)) F ((List.range 8).all λk=>decide (f k=g k)):=by
 unfold Op.equal Op.maxDepth;show rdo prog (Op.equalIn (9998+1+1) 229 _ _) _ _;unfold Op.equalIn;simp only [aj];refine ⟨_,(av underlying229 _).2 rfl,?_⟩;dsimp only;refine (aj _ _ _ _).2 ⟨1,(bB SL _).2 rfl,?_⟩;rw [Std.Legacy.Range.forIn_eq_forIn_range'];simp only [Std.Legacy.Range.size,Yn,YP,Nat.div_one];rw [aj];refine ⟨_,Ae _ (λk=>decide (f k=g k)) _ λk hk=> ?_,?_⟩
 ·have hk8:k<8:=by have:=List.mem_range'.1 hk;omega
  rw [Xz];exact Gp 76 .u64 underlying76 9998 k cs ds _ _ (h1 k hk8) (h2 k hk8)
 ·have hl:List.range' 0 8 1=List.range 8:=rfl;rw [hl];cases (List.range 8).all (λk=>decide (f k=g k))<;>rfl
theorem Wf (P Q:Nat->Bool):rdo prog (Op.equal 229 (Y9 (plA P)) (Y9 (plA Q))) F ((List.range 8).all λk=>decide ((wd P k:Int)=(wd Q k:Int))):=
 We (λ_ h=>fk P h) (λ_ h=>fk Q h)
theorem D7 (P:Nat->Bool):((List.range 8).all λk=>decide ((wd P k:Int)=(wd noP k:Int)))=Y8↔∀i,i<512->P i=Y6:=by
 rw [XD];have hz:∀k,wd noP k=0:=λk=>wM k;constructor
 ·intro h i hi;have:=ε (h (i / 64) (XN.2 (by omega)));rw [hz] at this;have h0:wd P (i / 64)=0:=by omega
  have:=iR.1 h0 (i % 64) (by omega);rwa [show 64*(i / 64)+i % 64=i by omega] at this
 ·intro h k hk;have hk8:=XN.1 hk;have:wd P k=0:=iR.2 λj hj=>h _ (by omega);rw [hz,this];rfl
end
def Nx (acc fol:Nat->Nat->Prop):(Nat->Prop)->Δ->Nat->Prop
 |S,[],j=>S j
 |S,b::w,j=>Nx acc fol (λj=>∃i,S i/\acc i b/\fol i j) w j
section
variable {acc fol:Nat->Nat->Prop} {e:Nat->Prop}
theorem nG:∀(w u:Δ) (S:Nat->Prop) (j:Nat),Nx acc fol S (w++u) j↔Nx acc fol (Nx acc fol S w) u j
 |[],_,S,j=>Iff.rfl
 |b::w,u,S,j=>nG w u _ j
theorem Cq (w:Δ) (b:Nat) (S:Nat->Prop) (j:Nat):Nx acc fol S (w++[b]) j↔∃i,Nx acc fol S w i/\acc i b/\fol i j:=by rw [nG];rfl
theorem Cr:∀(w:Δ) (S:Nat->Prop),(∀j,¬S j)->∀j,¬Nx acc fol S w j
 |[],S,h,j=>h j
 |b::w,S,h,j=>Cr w _ (λj ⟨i,hi,_⟩=>h i hi) j
theorem Gq:∀(w:Δ) (b:Nat) (S:Nat->Prop),(∃i,S i/\Pth acc fol e i (w++[b]))↔∃j,Nx acc fol S w j/\acc j b/\e j
 |[],b,S=>by
  constructor
  ·rintro ⟨i,h1,h2,⟨_,h3⟩|⟨j,_,h3⟩⟩
   ·exact ⟨i,h1,h2,h3⟩
   ·exact h3.elim
  ·rintro ⟨i,h1,h2,h3⟩;exact ⟨i,h1,h2,.inl ⟨rfl,h3⟩⟩
 |c::w,b,S=>by
  have ih:=Gq w b (λj=>∃i,S i/\acc i c/\fol i j);show _↔∃j,Nx acc fol (λj=>∃i,S i/\acc i c/\fol i j) w j/\acc j b/\e j;rw [<- ih];constructor
  ·rintro ⟨i,h1,h2,⟨h3,_⟩|⟨j,h3,h4⟩⟩
   ·exact absurd h3 (by simp)
   ·exact ⟨j,⟨i,h1,h2,h3⟩,h4⟩
  ·rintro ⟨j,⟨i,h1,h2,h3⟩,h4⟩;exact ⟨i,h1,h2,.inr ⟨j,h3,h4⟩⟩
end
def me (l:List Nd) (i b:Nat):Prop:=∃x,l[i]? =Y3 x/\x.lo<=(b:Int)/\(b:Int)<=x.hi
theorem D8 {l:List Nd} (hG:GoodL l) {i:Nat} {t:Lt} {ns:Δ} (h:cT l i t ns):t.fits (me l):=by
 induction h with
 |emp=>trivial
 | @rng i lo hi x hx hk hlo hhi hle h255=>
  intro b;constructor
  ·rintro ⟨y,hy,h1,h2⟩;rw [hx] at hy;cases hy;omega
  ·rintro ⟨h1,h2⟩;exact ⟨x,hx,by omega,by omega⟩
 | @seq i a b x t u na nb hx hk hxa hxb ht hu it iu=>exact ⟨it,iu,λj h1 h2=>MP hG hx (.inl hk) hxa hxb (pM ht j ((dS ht).2 j h1)) (pM hu j ((dS hu).2 j h2))⟩
 | @alt i a b x t u na nb hx hk hxa hxb ht hu it iu=>exact ⟨it,iu,λj h1 h2=>MP hG hx (.inr hk) hxa hxb (pM ht j ((dS ht).2 j h1)) (pM hu j ((dS hu).2 j h2))⟩
 |rep _ _ _ _ it=>exact it
abbrev mh (l:List Nd) (t:Lt) (w:Δ):Nat->Prop:=Nx (me l) t.fol t.first w
theorem Ct {l:List Nd} {t:Lt} (hf:t.fits (me l)) (w:Δ) (b:Nat):Lg t.pat (w++[b])↔∃j,mh l t w j/\me l j b/\t.last j:=by rw [t.places hf _ (by simp)];exact Gq w b t.first
theorem jR {ws:Δ} {n:Nat} (h:n<ws.length):ws.take (n+1)=ws.take n++[ws[n]]:=by rw [XL,N5 h];rfl
theorem Gs {l:List Nd} {t:Lt} (hf:t.fits (me l)) {ws:Δ} {n:Nat} (h:n<ws.length) (he:∀j,¬(mh l t (ws.take n) j/\me l j ws[n])) {m:Nat} (hm:n<m) (hml:m<=ws.length):¬Lg t.pat (ws.take m):=by
 obtain ⟨m,rfl⟩:∃m',m=m'+1:=⟨m - 1,by omega⟩;have hm':m<ws.length:=by omega
 rw [jR hm',Ct hf];rintro ⟨j,h1,h2,_⟩;by_cases e:m=n
 ·subst e;exact he j ⟨h1,h2⟩
 ·have h0:∀j,¬mh l t (ws.take (n+1)) j:=λj hj=>by rw [jR h] at hj;obtain ⟨i,a,b,_⟩:=(Cq _ _ _ _).1 hj;exact he i ⟨a,b⟩
  have:ws.take m=ws.take (n+1)++(ws.take m).drop (n+1):=by have:=YF (n+1) (ws.take m);rw [List.take_take,show min (n+1) m=n+1 by omega] at this;exact this.symm
  rw [this] at h1;have h1':=(nG _ _ _ _).1 h1;exact Cr _ _ h0 j h1'
open Classical in
def oS (l:List Nd) (t:Lt) (w:Δ):Nat->Bool:=λj=>decide (mh l t w j)
open Classical in
def ww (l:List Nd) (b:Nat):Nat->Bool:=λi=>decide (me l i b)
theorem mi {l:List Nd} {t:Lt} {w:Δ} {j:Nat}:oS l t w j=Y8↔mh l t w j:=by simp [oS]
theorem mj {l:List Nd} {b i:Nat}:ww l b i=Y8↔me l i b:=by simp [ww]
theorem SM (a0 a1 a2 a3 a4 a5 a6 a7 a8 a9 a10 a11 a12 a13 a14 a15 a16 a17 a18:ξ):(#[a0,a1,a2,a3,a4,a5,a6,a7,a8,a9,a10,a11,a12,a13,a14,a15,a16,a17,a18]:Γ)[1]? =Y3 a1:=rfl
theorem SN (a0 a1 a2 a3 a4 a5 a6 a7 a8 a9 a10 a11 a12 a13 a14 a15 a16 a17 a18:ξ):(#[a0,a1,a2,a3,a4,a5,a6,a7,a8,a9,a10,a11,a12,a13,a14,a15,a16,a17,a18]:Γ)[2]? =Y3 a2:=rfl
theorem SO (a0 a1 a2 a3 a4 a5 a6 a7 a8 a9 a10 a11 a12 a13 a14 a15 a16 a17 a18:ξ):(#[a0,a1,a2,a3,a4,a5,a6,a7,a8,a9,a10,a11,a12,a13,a14,a15,a16,a17,a18]:Γ)[3]? =Y3 a3:=rfl
theorem SP (a0 a1 a2 a3 a4 a5 a6 a7 a8 a9 a10 a11 a12 a13 a14 a15 a16 a17 a18:ξ):(#[a0,a1,a2,a3,a4,a5,a6,a7,a8,a9,a10,a11,a12,a13,a14,a15,a16,a17,a18]:Γ)[4]? =Y3 a4:=rfl
theorem SQ (a0 a1 a2 a3 a4 a5 a6 a7 a8 a9 a10 a11 a12 a13 a14 a15 a16 a17 a18:ξ):(#[a0,a1,a2,a3,a4,a5,a6,a7,a8,a9,a10,a11,a12,a13,a14,a15,a16,a17,a18]:Γ)[5]? =Y3 a5:=rfl
theorem SR (a0 a1 a2 a3 a4 a5 a6 a7 a8 a9 a10 a11 a12 a13 a14 a15 a16 a17 a18:ξ):(#[a0,a1,a2,a3,a4,a5,a6,a7,a8,a9,a10,a11,a12,a13,a14,a15,a16,a17,a18]:Γ)[6]? =Y3 a6:=rfl
theorem ST (a0 a1 a2 a3 a4 a5 a6 a7 a8 a9 a10 a11 a12 a13 a14 a15 a16 a17 a18:ξ):(#[a0,a1,a2,a3,a4,a5,a6,a7,a8,a9,a10,a11,a12,a13,a14,a15,a16,a17,a18]:Γ)[7]? =Y3 a7:=rfl
theorem SU (a0 a1 a2 a3 a4 a5 a6 a7 a8 a9 a10 a11 a12 a13 a14 a15 a16 a17 a18:ξ):(#[a0,a1,a2,a3,a4,a5,a6,a7,a8,a9,a10,a11,a12,a13,a14,a15,a16,a17,a18]:Γ)[8]? =Y3 a8:=rfl
theorem SW (a0 a1 a2 a3 a4 a5 a6 a7 a8 a9 a10 a11 a12 a13 a14 a15 a16 a17 a18:ξ):(#[a0,a1,a2,a3,a4,a5,a6,a7,a8,a9,a10,a11,a12,a13,a14,a15,a16,a17,a18]:Γ)[9]? =Y3 a9:=rfl
theorem Oz (a0 a1 a2 a3 a4 a5 a6 a7 a8 a9 a10 a11 a12 a13 a14 a15 a16 a17 a18:ξ):(#[a0,a1,a2,a3,a4,a5,a6,a7,a8,a9,a10,a11,a12,a13,a14,a15,a16,a17,a18]:Γ)[10]? =Y3 a10:=rfl
theorem OA (a0 a1 a2 a3 a4 a5 a6 a7 a8 a9 a10 a11 a12 a13 a14 a15 a16 a17 a18:ξ):(#[a0,a1,a2,a3,a4,a5,a6,a7,a8,a9,a10,a11,a12,a13,a14,a15,a16,a17,a18]:Γ)[11]? =Y3 a11:=rfl
theorem OB (a0 a1 a2 a3 a4 a5 a6 a7 a8 a9 a10 a11 a12 a13 a14 a15 a16 a17 a18:ξ):(#[a0,a1,a2,a3,a4,a5,a6,a7,a8,a9,a10,a11,a12,a13,a14,a15,a16,a17,a18]:Γ)[12]? =Y3 a12:=rfl
theorem OC (a0 a1 a2 a3 a4 a5 a6 a7 a8 a9 a10 a11 a12 a13 a14 a15 a16 a17 a18:ξ):(#[a0,a1,a2,a3,a4,a5,a6,a7,a8,a9,a10,a11,a12,a13,a14,a15,a16,a17,a18]:Γ)[13]? =Y3 a13:=rfl
theorem OD (a0 a1 a2 a3 a4 a5 a6 a7 a8 a9 a10 a11 a12 a13 a14 a15 a16 a17 a18:ξ):(#[a0,a1,a2,a3,a4,a5,a6,a7,a8,a9,a10,a11,a12,a13,a14,a15,a16,a17,a18]:Γ)[14]? =Y3 a14:=rfl
theorem OE (a0 a1 a2 a3 a4 a5 a6 a7 a8 a9 a10 a11 a12 a13 a14 a15 a16 a17 a18:ξ):(#[a0,a1,a2,a3,a4,a5,a6,a7,a8,a9,a10,a11,a12,a13,a14,a15,a16,a17,a18]:Γ)[15]? =Y3 a15:=rfl
theorem OF (a0 a1 a2 a3 a4 a5 a6 a7 a8 a9 a10 a11 a12 a13 a14 a15 a16 a17 a18:ξ):(#[a0,a1,a2,a3,a4,a5,a6,a7,a8,a9,a10,a11,a12,a13,a14,a15,a16,a17,a18]:Γ)[16]? =Y3 a16:=rfl
theorem Gt {s:Sl} {P Q:Nat->Bool} {bf n:Nat} {e:Bool} {i:Nat} (hi:i<8):(bQ s P Q bf n e)[1+i]? =Y3 (dg (wd P i))/\(bQ s P Q bf n e)[9+i]? =Y3 (dg (wd Q i)):=by
 have:i=0\/i=1\/i=2\/i=3\/i=4\/i=5\/i=6\/i=7:=by omega
 unfold bQ;rcases this with rfl|rfl|rfl|rfl|rfl|rfl|rfl|rfl
 ·exact ⟨SM _ _ _ _ _ _ _ _ _ _ _ _ _ _ _ _ _ _ _,SW _ _ _ _ _ _ _ _ _ _ _ _ _ _ _ _ _ _ _⟩
 ·exact ⟨SN _ _ _ _ _ _ _ _ _ _ _ _ _ _ _ _ _ _ _,Oz _ _ _ _ _ _ _ _ _ _ _ _ _ _ _ _ _ _ _⟩
 ·exact ⟨SO _ _ _ _ _ _ _ _ _ _ _ _ _ _ _ _ _ _ _,OA _ _ _ _ _ _ _ _ _ _ _ _ _ _ _ _ _ _ _⟩
 ·exact ⟨SP _ _ _ _ _ _ _ _ _ _ _ _ _ _ _ _ _ _ _,OB _ _ _ _ _ _ _ _ _ _ _ _ _ _ _ _ _ _ _⟩
 ·exact ⟨SQ _ _ _ _ _ _ _ _ _ _ _ _ _ _ _ _ _ _ _,OC _ _ _ _ _ _ _ _ _ _ _ _ _ _ _ _ _ _ _⟩
 ·exact ⟨SR _ _ _ _ _ _ _ _ _ _ _ _ _ _ _ _ _ _ _,OD _ _ _ _ _ _ _ _ _ _ _ _ _ _ _ _ _ _ _⟩
 ·exact ⟨ST _ _ _ _ _ _ _ _ _ _ _ _ _ _ _ _ _ _ _,OE _ _ _ _ _ _ _ _ _ _ _ _ _ _ _ _ _ _ _⟩
 ·exact ⟨SU _ _ _ _ _ _ _ _ _ _ _ _ _ _ _ _ _ _ _,OF _ _ _ _ _ _ _ _ _ _ _ _ _ _ _ _ _ _ _⟩
theorem Gu {F:PH} {bm:Nat} {s:Sl} {P Q:Nat->Bool} {bf n:Nat} {e:Bool} (h:F bm=Y3 (Y4 (bQ s P Q bf n e) 232)):F.row ((Zc bm 0 Y5).add 1) (plA P)/\F.row ((Zc bm 0 Y5).add 9) (plA Q):=by
 constructor
 ·intro i hi;have hi':i<8:=hi;rw [cC,cC,aq h,<- Xu hi,fk P hi',Xm];exact (Gt hi').1
 ·intro i hi;have hi':i<8:=hi;rw [cC,cC,aq h,<- Xu hi,fk Q hi',Xm];exact (Gt hi').2
theorem Gv {F:PH} {bf n i:Nat} {R:Nat->Nat->Bool} (h:F bf=Y3 (Y4 (dk n R).toArray 229)) (hi:i<n):F.row ((Zc bf 0 Y5).add (i*8)) (plA (R i)):=by
 obtain ⟨pre,post,hpre,hsp,_⟩:=oC hi R;have hs:ko F bf 229 pre (R i) post:=by unfold ko;rw [<- hsp];exact h
 have:=hs.row;rw [hpre] at this;rw [cC,Xm];exact this
theorem Wg {F:PH} {s:Sl} {l:List Nd} (h:RdS F s 5 (dW l)) {i:Nat} {x:Nd} (hx:l[i]? =Y3 x):∃a,s.YZ=Y3 a/\F.row (a.add (i*5)) x.arr/\F.cell ((a.add (i*5)).add 1)=Y3 (vi x.lo)/\F.cell ((a.add (i*5)).add 2)=Y3 (vi x.hi):=by obtain ⟨a,h1,h2⟩:=rdn h hx;exact ⟨a,h1,h2,by have:=h2 1 (by simp);simpa using this,by have:=h2 2 (by simp);simpa using this⟩
theorem Lo.sub {G F:PH} {xs ys:List (Nat×Γ×TypeId)} (h:Lo G F xs) (hs:ys.Sublist xs):Lo G F ys:=⟨h.le,λp hp=>h.z p (hs.subset hp),h.nd.sublist (hs.map _)⟩
section
variable {G F:PH} {l:List Nd} {t:Lt} {bm b3 b4 b6 b7 b8 b9 n:Nat} {st:ο} {N P8 P9:Nat->Bool}
theorem D9 (hM:Mch G bm l t) (hl:l.length<=512) (h:Lo G F [(b9,plA P9,229),(b8,plA P8,229),(b7,#[vi n],3),(b6,plA N,229),(b4,#[Zg st],9),(b3,#[pa bm],226)]) (hn:n<st.size) (_:st.size<=9223372036854775807) {i:Nat} (hi:i<l.length):
  ν 208 #[vi i,pa b4,pa b7,pa b3,pa b8,pa b9] F λr F'=>r=Zh #[]/\
   Lo G F' [(b9,plA (λj=>P9 j || (ww l (cb st n) i && foB t i j)),229),(b8,plA (λj=>P8 j || (decide (j=i) && ww l (cb st n) i)),229),(b7,#[vi n],3),(b6,plA N,229),(b4,#[Zg st],9),(b3,#[pa bm],226)]:=by
 obtain ⟨s,bf,qm,hs,qf⟩:=(hM.le h.le).ex;have hlen:=hs.nlen;refine T0 ?_;unfold Nn;have hx:l[i]? =Y3 l[i]:=N5 hi;generalize l[i]=x at hx;obtain ⟨a,ha,_,hlo,hhi⟩:=Wg hs hx;have c3:F.cell (Zc b3 0 Y5)=Y3 (pa bm):=by rw [h.cell (b:=b3) (w:= #[pa bm]) (e:=226) (by simp)];rfl
 have cm:F.cell (Zc bm 0 Y5)=Y3 s.v:=by rw [aq qm];rfl
 have ei:Zd (i:Int)=i:=N4 i;refine ⟨_,rfl,st,by rw [h.cell (b:=b4) (w:= #[Zg st]) (e:=9) (by simp)];rfl,_,rfl,(n:Int),by rw [h.cell (b:=b7) (w:= #[vi n]) (e:=3) (by simp)];rfl,by omega,by omega,by simpa using hn,_,rfl,_,rfl,_,c3,_,rfl,s,cm,a,ha,by omega,by omega,x.lo,by rw [ei];exact hlo,?_⟩;rw [OW rfl hn,Uu (by have:=J6 st n;omega)]
 have j1:∀tt:Bool,tt=ww l (cb st n) i->pY i (Y3 ⟨b3,0,Y5⟩) (Y3 ⟨b8,0,Y5⟩) (Y3 ⟨b9,0,Y5⟩) tt (λr F'=>r=Zh #[]/\
   Lo G F' [(b9,plA (λj=>P9 j || (ww l (cb st n) i && foB t i j)),229),(b8,plA (λj=>P8 j || (decide (j=i) && ww l (cb st n) i)),229),(b7,#[vi n],3),(b6,plA N,229),(b4,#[Zg st],9),(b3,#[pa bm],226)]) F:=λtt htt=>by
  unfold pY;refine ⟨λht=> ?_,λht=> ?_⟩
  ·rw [ht] at htt;rw [<- htt];refine (Lo.add [(b9,plA P9,229)] _ (b:=b8) (P:=P8) (by omega) h).mono ?_;rintro _ F2 ⟨rfl,h2⟩;replace h2:Lo G F2 [(b9,plA P9,229),(b8,plA (λj=>P8 j || decide (j=i)),229),(b7,#[vi n],3),(b6,plA N,229),(b4,#[Zg st],9),(b3,#[pa bm],226)]:=h2;obtain ⟨s2,bf2,qm2,hs2,qf2⟩:=(hM.le h2.le).ex;have c3':F2.cell (Zc b3 0 Y5)=Y3 (pa bm):=by rw [h2.cell (b:=b3) (w:= #[pa bm]) (e:=226) (by simp)];rfl
   refine ⟨rfl,_,rfl,_,c3',_,rfl,_,by rw [cC,Xm,aq qm2];rfl,_,rfl,by omega,by simp only;omega,plA (foB t i),rfl,by rw [ei];exact Gv qf2 hi,?_⟩;refine (Lo.join [] _ (b:=b9) (P:=P9) (Q:=foB t i) h2).mono ?_;rintro _ F3 ⟨rfl,h3⟩;have e1:(λj=>P9 j || (Y8 && foB t i j))=λj=>P9 j || foB t i j:=by funext j;simp
   have e2:(λj=>P8 j || (decide (j=i) && Y8))=λj=>P8 j || decide (j=i):=by funext j;simp
   rw [e1,e2];exact ⟨rfl,rfl,h3⟩
  ·rw [ht] at htt;rw [<- htt];have e1:(λj=>P9 j || (Y6 && foB t i j))=P9:=by funext j;simp
   have e2:(λj=>P8 j || (decide (j=i) && Y6))=P8:=by funext j;simp
   rw [e1,e2];exact ⟨rfl,h⟩
 refine ⟨λh1=>⟨_,c3,_,rfl,s,cm,a,ha,by omega,by omega,x.hi,by rw [ei];exact hhi,j1 _ ?_⟩,λh1=>j1 _ ?_⟩
 ·rw [Xc,δ,mj];constructor
  ·exact λh2=>⟨x,hx,h1,h2⟩
  ·rintro ⟨y,hy,_,h2⟩;rw [hx] at hy;cases hy;exact h2
 ·symm;rw [<- YB,mj];rintro ⟨y,hy,h2,_⟩;rw [hx] at hy;cases hy;exact h1 h2
theorem OG:aC prog 208=Y8:=by kernel_rfl
theorem Gw {acc fol:Nat->Nat->Prop} {P:Nat->Prop} (hf:∀i j,fol i j->P j):∀(w:Δ) (S:Nat->Prop),(∀j,S j->P j)->∀j,Nx acc fol S w j->P j
 |[],S,hS,j,h=>hS j h
 |b::w,S,_,j,h=>Gw hf w _ (λj ⟨i,_,_,h⟩=>hf i j h) j h
theorem rV {l:List Nd} {i0:Nat} {t:Lt} {ns:Δ} (ht:cT l i0 t ns) {w:Δ} {j:Nat} (h:mh l t w j):j<l.length:=
 Gw (P:=λj=>j<l.length) (λi j h=>(dS ht).1 j ((dS ht).2 j (t.fol_lab h).2)) w t.first (λj h=>(dS ht).1 j ((dS ht).2 j (t.first_lab h))) j h
theorem Gx {l:List Nd} {t:Lt} (w:Δ) (b j:Nat):mh l t (w++[b]) j↔∃i,mh l t w i/\me l i b/\t.fol i j:=Cq w b _ j
theorem Lo.le' {G F F':PH} {xs:List (Nat×Γ×TypeId)} (h:Lo G F xs) (hl:F.le F'):Lo G F' xs:=⟨aa h.le hl,λp hp=>⟨hl _ _ (h.z p hp).1,(h.z p hp).2⟩,h.nd⟩
open Classical in
def reB (l:List Nd) (t:Lt) (w:Δ) (b m:Nat):Nat->Bool:=λj=>decide (j<m/\mh l t w j/\me l j b)
theorem jS {l:List Nd} {t:Lt} {w:Δ} {b m j:Nat}:reB l t w b m j=Y8↔j<m/\mh l t w j/\me l j b:=by simp [reB]
open Classical in
def nxB (l:List Nd) (t:Lt) (w:Δ) (b m:Nat):Nat->Bool:=λj=>decide (∃i,i<m/\mh l t w i/\me l i b/\t.fol i j)
theorem jT {l:List Nd} {t:Lt} {w:Δ} {b m j:Nat}:nxB l t w b m j=Y8↔∃i,i<m/\mh l t w i/\me l i b/\t.fol i j:=by simp [nxB]
set_option maxHeartbeats 1000000 in
theorem Gy {k:FuncId} {cap:Γ} {Inv:Nat->Ψ} (hk:aC prog k=Y8) (hl:l.length<=512) (hG:GoodL l) {ns:Δ} {i0:Nat} (ht:cT l i0 t ns) (hns:st.size<=9223372036854775806)
  (hI:∀n F,Inv n F->Tab F/\Mch F bm l t)
  (h1:∀n F (q:Bool),n<st.size->(q=Y8↔Lg t.pat ((bs st).take (n+1)))->Inv n F->ai prog k (#[vi ((n+1:Nat):Int),Za q]++cap) F λr F'=>r=Za Y8/\Inv (n+1) F') (hF:Inv 0 F):
  ν 185 #[pa bm,Zg st,.func (.func k) #[] cap] F λr F'=>r=Zh #[]/\∃n G,n<=st.size/\Inv n G/\G.le F'/\(n=st.size\/∀m,n<m->m<=st.size->¬Lg t.pat ((bs st).take m)):=by
 have hfit:=D8 hG ht;refine TR ?_;unfold Nf;have h:=Lo.start F;refine h.new _ _ λb3 F1 h=> ?_;refine h.new _ _ λb4 F2 h=> ?_;obtain ⟨s,bf,qm,hs,qf⟩:=((hI 0 F hF).2.le h.le).ex;refine ⟨_,by rw [h.cell (b:=b3) (w:= #[pa bm]) (e:=226) (by simp)];rfl,_,rfl,plA (fB t),rfl,(Gu qm).1,?_⟩;refine h.new _ _ λb6 F3 h=> ?_;rw [<- dX] at h;refine Lo.put [] _ (n:=8) (b:=b6) (w0:=plA noP) (w:=plA (fB t)) (e:=229) h rfl rfl (gh _) λF4 h=> ?_;replace h:Lo F F4 [(b6,plA (fB t),229),(b4,#[Zg st],9),(b3,#[pa bm],226)]:=h;have e0:fB t=oS l t ((bs st).take 0):=by funext j;rw [Xc,eA,mi];rfl
 rw [e0] at h;refine ⟨st,by rw [h.cell (b:=b4) (w:= #[Zg st]) (e:=9) (by simp)];rfl,λM v F'=>∃n G,v=((n:Nat):Int)/\n<=st.size/\M=st.size - n/\Inv n G/\Lo G F' [(b6,plA (oS l t ((bs st).take n)),229),(b4,#[Zg st],9),(b3,#[pa bm],226)],st.size,⟨0,F,rfl,Yz _,rfl,hF,h⟩,?_⟩;clear h qm hs qf e0;rintro _ _ F5 ⟨n,G,rfl,hn,rfl,hIn,h⟩;unfold CL;refine ⟨λhlt=> ?_,λhge=>⟨rfl,n,G,hn,hIn,h.le,.inl (by omega)⟩⟩;have hlt:n<st.size:=by omega
 have hltb:n<(bs st).length:=by rw [cU];exact hlt
 have hcb:cb st n=(bs st)[n]:=by rw [He,Xx,N5 hltb];rfl
 refine h.new _ _ λb7 F6 h=> ?_;refine Lo.put1 [] _ (b:=b7) (i:=0) (w0:= #[vi 0]) (w:= #[vi n]) (e:=3) h (by simp) rfl λF7 h=> ?_;replace h:Lo G F7 [(b7,#[vi n],3),(b6,plA (oS l t ((bs st).take n)),229),(b4,#[Zg st],9),(b3,#[pa bm],226)]:=h;refine h.new _ _ λb8 F8 h=> ?_;refine h.new _ _ λb9 F9 h=> ?_;rw [<- dX] at h;obtain ⟨hT,hM⟩:=hI n G hIn
 refine (un (a:=⟨b6,0,Y5⟩) (P:=oS l t ((bs st).take n)) (k:=208) (cap:= #[pa b4,pa b7,pa b3,pa b8,pa b9])
  (Inv:=λm F'=>Lo G F' [(b9,plA (nxB l t ((bs st).take n) (cb st n) m),229),(b8,plA (reB l t ((bs st).take n) (cb st n) m),229),(b7,#[vi n],3),(b6,plA (oS l t ((bs st).take n)),229),(b4,#[Zg st],9),(b3,#[pa bm],226)])
  OG rfl (λm F' hI'=>⟨hT.le hI'.le,hI'.row (b:=b6) (w:=plA (oS l t ((bs st).take n))) (e:=229) (by simp)⟩) ?_ ?_ ?_).mono ?_
 ·intro i F' hi hp hI';have hnp:¬mh l t ((bs st).take n) i:=λh=>by rw [mi.2 h] at hp;cases hp
  have e9:nxB l t ((bs st).take n) (cb st n) (i+1)=nxB l t ((bs st).take n) (cb st n) i:=by
   funext j;rw [Xc,jT,jT];constructor
   ·rintro ⟨i',h1,h2,h3⟩;have:i'≠i:=λe=>hnp (e▸h2);exact ⟨i',by omega,h2,h3⟩
   ·rintro ⟨i',h1,h2,h3⟩;exact ⟨i',by omega,h2,h3⟩
  have e8:reB l t ((bs st).take n) (cb st n) (i+1)=reB l t ((bs st).take n) (cb st n) i:=by
   funext j;rw [Xc,jS,jS];constructor
   ·rintro ⟨h1,h2,h3⟩;have:j≠i:=λe=>hnp (e▸h2);exact ⟨by omega,h2,h3⟩
   ·rintro ⟨h1,h2,h3⟩;exact ⟨by omega,h2,h3⟩
  rw [e9,e8];exact hI'
 ·intro i F' hi hp hI';have hnp:=mi.1 hp;have hil:=rV ht hnp;refine (D9 hM hl hI' hlt (by omega) hil).mono ?_;rintro _ F'' ⟨rfl,h2⟩;refine ⟨rfl,?_⟩;have e9:(λj=>nxB l t ((bs st).take n) (cb st n) i j || (ww l (cb st n) i && foB t i j))=nxB l t ((bs st).take n) (cb st n) (i+1):=by
   funext j;rw [Xc,XU,XJ,jT,jT,mj,jQ];constructor
   ·rintro (⟨i',h1,h2⟩|⟨h1,h2⟩)
    ·exact ⟨i',by omega,h2⟩
    ·exact ⟨i,by omega,hnp,h1,h2⟩
   ·rintro ⟨i',h1,h2,h3⟩;by_cases e:i'=i
    ·subst e;exact .inr h3
    ·exact .inl ⟨i',by omega,h2,h3⟩
  have e8:(λj=>reB l t ((bs st).take n) (cb st n) i j || (decide (j=i) && ww l (cb st n) i))=reB l t ((bs st).take n) (cb st n) (i+1):=by
   funext j;rw [Xc,XU,XJ,jS,jS,δ,mj];constructor
   ·rintro (⟨h1,h2⟩|⟨h1,h2⟩)
    ·exact ⟨by omega,h2⟩
    ·subst h1;exact ⟨by omega,hnp,h2⟩
   ·rintro ⟨h1,h2,h3⟩;by_cases e:j=i
    ·subst e;exact .inr ⟨rfl,h3⟩
    ·exact .inl ⟨by omega,h2,h3⟩
  rw [e9,e8] at h2;exact h2
 ·have e9:nxB l t ((bs st).take n) (cb st n) 0=noP:=by funext j;show _=Y6;rw [<- YB,jT];rintro ⟨i,h,_⟩;omega
  have e8:reB l t ((bs st).take n) (cb st n) 0=noP:=by funext j;show _=Y6;rw [<- YB,jS];rintro ⟨h,_⟩;omega
  rw [e9,e8];exact h
 ·clear h;rintro _ F10 ⟨rfl,h⟩;generalize hre:reB l t ((bs st).take n) (cb st n) 512=re at h;generalize hnx:nxB l t ((bs st).take n) (cb st n) 512=nx at h;have hre':∀j,re j=Y8↔mh l t ((bs st).take n) j/\me l j (cb st n):=λj=>by rw [<- hre,jS];exact ⟨λh=>h.2,λh=>⟨by have:=rV ht h.1;omega,h⟩⟩
  have hnx':nx=oS l t ((bs st).take (n+1)):=by
   rw [<- hnx];funext j;rw [Xc,jT,mi,jR hltb,Gx,<- hcb];constructor
   ·rintro ⟨i',_,h2⟩;exact ⟨i',h2⟩
   ·rintro ⟨i',h2⟩;exact ⟨i',by have:=rV ht h2.1;omega,h2⟩
  refine ⟨rfl,plA re,rfl,h.row (b:=b8) (w:=plA re) (e:=229) (by simp),_,λF=>by have:=Wf (F:=F) re noP;rw [dX] at this;exact this,λhz=> ?_,λhz=> ?_⟩
  ·have hz':=(D7 re).1 hz;refine ⟨rfl,n,G,hn,hIn,h.le,.inr λm hm hml=>Gs hfit hltb (λj hj=> ?_) hm (by rw [cU];exact hml)⟩;rw [<- hcb] at hj;have:=hz' j (by have:=rV ht hj.1;omega);rw [(hre' j).2 hj] at this;cases this
  ·obtain ⟨s,bf,qm,hs,qf⟩:=(hM.le h.le).ex;have c7:∀{F' G':PH},Lo G' F' [(b9,plA nx,229),(b8,plA re,229),(b7,#[vi n],3),(b6,plA (oS l t ((bs st).take n)),229),(b4,#[Zg st],9),(b3,#[pa bm],226)]->F'.cell (Zc b7 0 Y5)=Y3 (vi n):=λh=>by rw [h.cell (b:=b7) (w:= #[vi n]) (e:=3) (by simp)];rfl
   have c3:∀{F' G':PH},Lo G' F' [(b9,plA nx,229),(b8,plA re,229),(b7,#[vi n],3),(b6,plA (oS l t ((bs st).take n)),229),(b4,#[Zg st],9),(b3,#[pa bm],226)]->F'.cell (Zc b3 0 Y5)=Y3 (pa bm):=λh=>by rw [h.cell (b:=b3) (w:= #[pa bm]) (e:=226) (by simp)];rfl
   refine ⟨_,c7 h,_,c3 h,_,rfl,plA (lB t),rfl,(Gu qm).2,?_⟩;refine (yf (pre:=[]) (post:=[]) (Q:=lB t) (ko.own.2 (h.get (b:=b8) (w:=plA re) (e:=229) (by simp)))).mono ?_;rintro _ F11 ⟨⟨q,rfl,hq⟩,l11⟩;have h:=h.le' l11;have hq':q=Y8↔Lg t.pat ((bs st).take (n+1)):=by
    rw [hq,jR hltb,Ct hfit,<- hcb];constructor
    ·rintro ⟨i,_,h2,h3⟩;obtain ⟨h4,h5⟩:=(hre' i).1 h2;exact ⟨i,h4,h5,dD.1 h3⟩
    ·rintro ⟨i,h4,h5,h3⟩;exact ⟨i,by have:=rV ht h4;omega,(hre' i).2 ⟨h4,h5⟩,dD.2 h3⟩
   refine ⟨q,rfl,c3 h,c7 h,h.row (b:=b8) (w:=plA re) (e:=229) (by simp),k,#[],cap,rfl,hk,?_⟩;have hcall:=h.call (h1 n G q hlt hq' hIn);rw [fz (by omega)];refine ai.mono (R:=λr F'=>∃G',(r=Za Y8/\Inv (n+1) G')/\Lo G' F' _) (by simpa using hcall) ?_;clear hcall h;rintro _ F12 ⟨G',⟨rfl,hIn'⟩,h⟩;refine ⟨Y8,rfl,c3 h,c7 h,h.row (b:=b8) (w:=plA re) (e:=229) (by simp),λhh=>by simp at hh,λ_=>⟨plA nx,rfl,h.row (b:=b9) (w:=plA nx) (e:=229) (by simp),?_⟩⟩;refine Lo.put [(b9,plA nx,229),(b8,plA re,229),(b7,#[vi n],3)] _ (n:=8) (b:=b6) (w0:=plA (oS l t ((bs st).take n))) (w:=plA nx) (e:=229) h rfl rfl (gh _) λF13 h=> ?_;replace h:Lo G' F13 [(b9,plA nx,229),(b8,plA re,229),(b7,#[vi n],3),(b6,plA nx,229),(b4,#[Zg st],9),(b3,#[pa bm],226)]:=h;rw [hnx'] at h;exact ⟨st.size - (n+1),by omega,n+1,G',rfl,hlt,rfl,hIn',h.sub (.cons _ (.cons _ (.cons _ (List.Sublist.refl _))))⟩
end
section
variable {F:PH} {l:List Nd} {s:Sl}
theorem OH:aC prog 186=Y8:=by kernel_rfl
def LgL (l:List Nd) (w:Δ):Prop:=Lg (bS l).pat w
theorem tw (hT:Tab F) (hs:RdS F s 5 (dW l)) (st:ο) (hst:st.size<=1000000000):ν 145 #[s.v,Zg st] F λr F'=>(∃q:Bool,r=Za q/\(q=Y8↔fH l=0/\LgL l (bs st)))/\F.le F':=by
 refine TM ?_;unfold M8;have h:=Lo.start F;refine h.new _ _ λb3 F1 h=> ?_;refine (h.call (oA hs)).mono ?_;rintro _ F2 ⟨G1,⟨rfl,l1⟩,h⟩;refine ⟨_,rfl,λhc=>⟨⟨Y6,rfl,λh=>(by cases h),λh=>absurd h.1 hc⟩,aa l1 h.le⟩,λhc=> ?_⟩;have h0:fH l=0:=by omega
 obtain ⟨hG,hl⟩:=ub h0;obtain ⟨ns,ht⟩:=iJ hG;refine (h.call (wu (hT.le l1) hG hl (hs.le l1))).mono ?_;rintro _ F3 ⟨G,⟨⟨bm,rfl,hM⟩,l2⟩,h⟩;have c3:F3.cell (Zc b3 0 Y5)=Y3 (Zg st):=by rw [h.cell (b:=b3) (w:= #[Zg st]) (e:=9) (by simp)];rfl
 refine ⟨_,rfl,_,c3,?_⟩;have j1:∀(b6:Nat) (mt:Bool) (F4:PH),Lo G F4 [(b6,#[Za mt],4),(b3,#[Zg st],9)]->(mt=Y8↔st.size=0/\(bS l).nul=Y8)->
   pU b3 (Y3 ⟨bm,0,Y5⟩) (Y3 ⟨b6,0,Y5⟩) (λr F'=>(∃q:Bool,r=Za q/\(q=Y8↔fH l=0/\LgL l (bs st)))/\F.le F') F4:=λb6 mt F4 h hmt=>by
  unfold pU;refine ⟨_,by rw [h.cell (b:=b3) (w:= #[Zg st]) (e:=9) (by simp)];rfl,?_⟩
  refine (Gy (bm:=bm) (k:=186) (cap:= #[pa b3,pa b6]) (Inv:=λn F'=>∃mt:Bool,Lo G F' [(b6,#[Za mt],4),(b3,#[Zg st],9)]/\(n=0->(mt=Y8↔st.size=0/\(bS l).nul=Y8))/\(0<n->(mt=Y8↔n=st.size/\LgL l ((bs st).take n)))) OH hl hG ht (by omega)
   (λn F' ⟨b,hL,_⟩=>⟨(hT.le (aa l1 l2)).le hL.le,hM.le hL.le⟩) ?_ ⟨mt,h,λ_=>hmt,λh=>absurd h (by omega)⟩).mono ?_
  ·rintro n F' q hn hq ⟨mt,hL,_,_⟩;show ν 186 #[vi ((n+1:Nat):Int),Za q,pa b3,pa b6] F' _;refine TT ?_;unfold Ng;refine ⟨_,rfl,_,by rw [hL.cell (b:=b3) (w:= #[Zg st]) (e:=9) (by simp)];rfl,λhe=>⟨_,rfl,?_⟩,λhe=>⟨_,rfl,?_⟩⟩
   ·refine Lo.put1 [] [(b3,#[Zg st],9)] (b:=b6) (i:=0) (w0:= #[Za mt]) (w:= #[Za q]) (e:=4) hL (by simp) rfl λF'' h'=> ?_;exact ⟨rfl,q,h',λh=>by omega,λ_=>⟨λh=>⟨by omega,hq.1 h⟩,λh=>hq.2 h.2⟩⟩
   ·refine Lo.put1 [] [(b3,#[Zg st],9)] (b:=b6) (i:=0) (w0:= #[Za mt]) (w:= #[Za Y6]) (e:=4) hL (by simp) rfl λF'' h'=> ?_;exact ⟨rfl,Y6,h',λh=>by omega,λ_=>⟨λh=>(by cases h),λh=>by omega⟩⟩
  ·rintro _ F5 ⟨rfl,n,G',hn,⟨mt,hL,hz,hp⟩,l5,hend⟩;refine ⟨rfl,_,rfl,mt,aI l5 (by rw [hL.cell (b:=b6) (w:= #[Za mt]) (e:=4) (by simp)];rfl),⟨mt,rfl,?_⟩,aa l1 (aa l2 (aa hL.le l5))⟩;have hall:(bs st).take st.size=bs st:=Xf (by rw [cU];exact W8 _);have hnil:st.size=0->bs st=[]:=λh=>XV.1 (by rw [cU];exact h);have hnul:(bS l).nul=Y8↔LgL l []:=(bS l).nul_iff;rcases Yl n with e|e
   ·subst e;rw [hz rfl];constructor
    ·rintro ⟨h1,h2⟩;exact ⟨h0,by rw [hnil h1];exact hnul.1 h2⟩
    ·rintro ⟨_,h2⟩;rcases hend with he|he
     ·exact ⟨he.symm,hnul.2 (by rw [<- hnil he.symm];exact h2)⟩
     ·rcases Yl st.size with h1|h1
      ·exact ⟨h1,hnul.2 (by rw [<- hnil h1];exact h2)⟩
      ·exact absurd (by rw [hall];exact h2) (he st.size h1 (W8 _))
   ·rw [hp e];constructor
    ·rintro ⟨h1,h2⟩;exact ⟨h0,by rw [h1,hall] at h2;exact h2⟩
    ·rintro ⟨_,h2⟩;rcases hend with he|he
     ·exact ⟨he,by rw [he,hall];exact h2⟩
     ·by_cases h1:n=st.size
      ·exact ⟨h1,by rw [h1,hall];exact h2⟩
      ·exact absurd (by rw [hall];exact h2) (he st.size (by omega) (W8 _))
 have hemp:(st.toList==(ByteArray.mk #[]).toList)=decide (st.size=0):=by
  rw [Hf];rw [Xc,δ,δ,<- cU st];constructor
  ·intro h;rw [h];rfl
  ·intro h;exact XV.1 h
 dsimp only;rw [hemp];refine ⟨λhe=> ?_,λhe=> ?_⟩
 ·have he:=ε he;obtain ⟨s',bf,qm,_,_⟩:=(hM.le h.le).ex;refine ⟨_,rfl,(bS l).nul,by rw [cC,aq qm];rfl,?_⟩;refine h.new _ _ λb6 F4 h=> ?_;refine Lo.put1 [] [(b3,#[Zg st],9)] (b:=b6) (i:=0) (w0:= #[Za Y6]) (w:= #[Za (bS l).nul]) (e:=4) h (by simp) rfl λF5 h=> ?_;exact j1 b6 _ F5 h ⟨λh=>⟨he,h⟩,λh=>h.2⟩
 ·have he:=η he;refine h.new _ _ λb6 F4 h=> ?_;refine Lo.put1 [] [(b3,#[Zg st],9)] (b:=b6) (i:=0) (w0:= #[Za Y6]) (w:= #[Za Y6]) (e:=4) h (by simp) rfl λF5 h=> ?_;exact j1 b6 _ F5 h ⟨λh=>(by cases h),λh=>absurd h.1 he⟩
end
open Tr
theorem Gz (d:Nat) (a b:Int) (F:PH):rdo prog (Op.equalIn (d+1) 3 (vi a) (vi b)) F (decide (a=b)):=by simp only [Op.equalIn,aj];refine ⟨_,(av underlying3 _).2 rfl,?_⟩;simp only [if_true,cK];by_cases h:a=b<;>simp [h]
theorem rW (cs:Γ) (off:Nat) (v:ξ) (h:cs[off]? =Y3 v) (F:PH):rdo prog (part 3 cs off) F v:=by unfold part;simp only [aj];refine ⟨Y6,(dK underlying3 _).2 rfl,?_⟩;simp only [XE,if_false,h];rfl
theorem Cv (e:Bool) (n:Nat) (a:Int) (F:PH):rdo prog (Instr.checkKey e (n+1) 3 (vi a)) F ():=by simp only [Instr.checkKey,aj];refine ⟨_,(av underlying3 _).2 rfl,?_⟩;rfl
theorem Wh:prog.stoodInHeld 124=Y6:=by kernel_rfl
abbrev LS:=ForInStep (Option Bool×Unit)
theorem dT (n:Nat) (off:Nat) (cs ds:Γ) (x y:Int) (h1:cs[off]? =Y3 (vi x)) (h2:ds[off]? =Y3 (vi y)) (F:PH):
  rdo prog (do
   let a <- part 3 cs off
   let b <- part 3 ds off
   let r <- Op.equalIn (n+1) 3 a b
   if (!r)=Y8 then pure (ForInStep.done (Y3 Y6,())) else pure (ForInStep.yield (Y5,())):Sem LS) F (if x=y then .yield (Y5,()) else .done (Y3 Y6,())):=by
 simp only [aj];refine ⟨_,rW _ _ _ h1 F,_,rW _ _ _ h2 F,_,Gz n x y F,?_⟩;by_cases h:x=y
 ·simp [h]
 ·simp [h]
theorem GA (x y:Br) (F:PH):rdo prog (Op.equal 124 (Y9 (aZ x)) (Y9 (aZ y))) F (decide (x=y)):=by
 unfold Op.equal Op.maxDepth;show rdo prog (Op.equalIn (9998+1+1) 124 _ _) _ _;unfold Op.equalIn;simp only [aj];refine ⟨_,(av underlying124 _).2 rfl,?_⟩;dsimp only;rw [aj];refine ⟨prog,rfl,?_⟩;rw [Wh];simp only [XE,if_false];simp only [List.forIn_toArray,YG,List.forIn_nil,aj];obtain ⟨a,b,c⟩:=x;obtain ⟨d,e,f⟩:=y;rw [if_pos (by decide),if_pos (by decide),if_pos (by decide)];by_cases h1:a=d
 ·by_cases h2:b=e
  ·by_cases h3:c=f
   ·refine ⟨(Y5,()),⟨_,dT 9998 0 _ _ a d rfl rfl F,?_⟩,?_⟩
    ·rw [Χ h1];refine (aj _ _ _ _).2 ⟨_,dT 9998 1 _ _ b e rfl rfl F,?_⟩;rw [Χ h2];refine (aj _ _ _ _).2 ⟨_,dT 9998 2 _ _ c f rfl rfl F,?_⟩;rw [Χ h3];rfl
    ·simp [h1,h2,h3]
   ·refine ⟨(Y3 Y6,()),⟨_,dT 9998 0 _ _ a d rfl rfl F,?_⟩,?_⟩
    ·rw [Χ h1];refine (aj _ _ _ _).2 ⟨_,dT 9998 1 _ _ b e rfl rfl F,?_⟩;rw [Χ h2];refine (aj _ _ _ _).2 ⟨_,dT 9998 2 _ _ c f rfl rfl F,?_⟩;rw [Υ h3];rfl
    ·simp [h3]
  ·refine ⟨(Y3 Y6,()),⟨_,dT 9998 0 _ _ a d rfl rfl F,?_⟩,?_⟩
   ·rw [Χ h1];refine (aj _ _ _ _).2 ⟨_,dT 9998 1 _ _ b e rfl rfl F,?_⟩;rw [Υ h2];rfl
   ·simp [h2]
 ·refine ⟨(Y3 Y6,()),⟨_,dT 9998 0 _ _ a d rfl rfl F,?_⟩,?_⟩
  ·rw [Υ h1];rfl
  ·simp [h1]
theorem ml (e:Bool) (n:Nat) (off:Nat) (cs:Γ) (x:Int) (h1:cs[off]? =Y3 (vi x)) (F:PH):
  rdo prog (do
   let a <- part 3 cs off
   Instr.checkKey e (n+1) 3 a
   pure (ForInStep.yield PUnit.unit):Sem (ForInStep PUnit)) F (.yield PUnit.unit):=by
 simp only [aj];exact ⟨_,rW _ _ _ h1 F,_,Cv e n x F,rfl⟩
theorem SX (e:Bool) (x:Br) (F:PH):rdo prog (Instr.checkKey e 10000 124 (.agg (aZ x))) F ():=by show rdo prog (Instr.checkKey e (9998+1+1) 124 _) _ _;unfold Instr.checkKey;simp only [aj];refine ⟨_,(av underlying124 _).2 rfl,?_⟩;dsimp only;simp only [List.forIn_toArray,YG,List.forIn_nil];rw [if_pos (by decide),if_pos (by decide),if_pos (by decide)];refine (aj _ _ _ _).2 ⟨PUnit.unit,(aj _ _ _ _).2 ⟨_,ml e 9998 0 _ _ rfl F,(aj _ _ _ _).2 ⟨_,ml e 9998 1 _ _ rfl F,(aj _ _ _ _).2 ⟨_,ml e 9998 2 _ _ rfl F,rfl⟩⟩⟩,rfl⟩
theorem cI (n:Nat) (i sz:Nat) (hz:sz=1) (cs ds:Γ) (x y:Int) (h1:cs[i]? =Y3 (vi x)) (h2:ds[i]? =Y3 (vi y)) (F:PH):
  rdo prog (do
   let a <- part 3 cs (i*sz)
   let b <- part 3 ds (i*sz)
   let r <- Op.equalIn (n+1) 3 a b
   if (!r)=Y8 then pure (ForInStep.done (Y3 Y6,())) else pure (ForInStep.yield (Y5,())):Sem LS) F (if x=y then .yield (Y5,()) else .done (Y3 Y6,())):=by
 subst hz;rw [Xz];exact dT n i cs ds x y h1 h2 F
theorem mq (e:Bool) (n:Nat) (i:Nat) (cs:Γ) (x:Int) (h1:cs[i]? =Y3 (vi x)) (F:PH):
  rdo prog (do
   let s <- sizeOf 3
   let a <- part 3 cs (i*s)
   Instr.checkKey e (n+1) 3 a
   pure (ForInStep.yield PUnit.unit):Sem (ForInStep PUnit)) F (.yield PUnit.unit):=by
 refine (aj _ _ _ _).2 ⟨1,(bB sz3 _).2 rfl,?_⟩;rw [Xz];exact ml e n i cs x h1 F
abbrev dU (x:Int×Int×Int):Γ:= #[vi x.1,vi x.2.1,vi x.2.2]
abbrev wx (x:Int×Int):Γ:= #[vi x.1,vi x.2]
theorem eq3 (x y:Int×Int×Int) (F:PH):rdo prog (Op.equal 215 (Y9 (dU x)) (Y9 (dU y))) F (decide (x=y)):=by
 unfold Op.equal Op.maxDepth;show rdo prog (Op.equalIn (9998+1+1) 215 _ _) _ _;unfold Op.equalIn;simp only [aj];refine ⟨_,(av underlying215 _).2 rfl,?_⟩;dsimp only;refine (aj _ _ _ _).2 ⟨1,(bB sz3 _).2 rfl,?_⟩;rw [Std.Legacy.Range.forIn_eq_forIn_range'];simp only [Std.Legacy.Range.size,Yn,YP,Nat.div_one,List.range',YG,List.forIn_nil,Xm,Nat.reduceAdd];obtain ⟨a,b,c⟩:=x;obtain ⟨d,e,f⟩:=y;by_cases h0:a=d
 ·skip
  by_cases h1:b=e
  ·skip
   by_cases h2:c=f
   ·skip
    refine (aj _ _ _ _).2 ⟨(Y5,()),(aj _ _ _ _).2 ⟨_,cI 9998 0 1 rfl _ _ a d rfl rfl F,?_⟩,?_⟩
    ·skip
     rw [Χ h0];refine (aj _ _ _ _).2 ⟨_,cI 9998 1 1 rfl _ _ b e rfl rfl F,?_⟩;rw [Χ h1];refine (aj _ _ _ _).2 ⟨_,cI 9998 2 1 rfl _ _ c f rfl rfl F,?_⟩;rw [Χ h2];rfl
    ·simp [h0,h1,h2]
   ·skip
    refine (aj _ _ _ _).2 ⟨(Y3 Y6,()),(aj _ _ _ _).2 ⟨_,cI 9998 0 1 rfl _ _ a d rfl rfl F,?_⟩,?_⟩
    ·skip
     rw [Χ h0];refine (aj _ _ _ _).2 ⟨_,cI 9998 1 1 rfl _ _ b e rfl rfl F,?_⟩;rw [Χ h1];refine (aj _ _ _ _).2 ⟨_,cI 9998 2 1 rfl _ _ c f rfl rfl F,?_⟩;rw [Υ h2];rfl
    ·simp [h0,h1,h2]
  ·skip
   refine (aj _ _ _ _).2 ⟨(Y3 Y6,()),(aj _ _ _ _).2 ⟨_,cI 9998 0 1 rfl _ _ a d rfl rfl F,?_⟩,?_⟩
   ·skip
    rw [Χ h0];refine (aj _ _ _ _).2 ⟨_,cI 9998 1 1 rfl _ _ b e rfl rfl F,?_⟩;rw [Υ h1];rfl
   ·simp [h0,h1]
 ·skip
  refine (aj _ _ _ _).2 ⟨(Y3 Y6,()),(aj _ _ _ _).2 ⟨_,cI 9998 0 1 rfl _ _ a d rfl rfl F,?_⟩,?_⟩
  ·skip
   rw [Υ h0];rfl
  ·simp [h0]
theorem Wi (e:Bool) (x:Int×Int×Int) (F:PH):rdo prog (Instr.checkKey e 10000 215 (.agg (dU x))) F ():=by show rdo prog (Instr.checkKey e (9998+1+1) 215 _) _ _;unfold Instr.checkKey;simp only [aj];refine ⟨_,(av underlying215 _).2 rfl,?_⟩;dsimp only;rw [Std.Legacy.Range.forIn_eq_forIn_range'];simp only [Std.Legacy.Range.size,Yn,YP,Nat.div_one,List.range',YG,List.forIn_nil,Xm,Nat.reduceAdd];refine (aj _ _ _ _).2 ⟨PUnit.unit,(aj _ _ _ _).2 ⟨_,mq e 9998 0 _ _ rfl F,(aj _ _ _ _).2 ⟨_,mq e 9998 1 _ _ rfl F,(aj _ _ _ _).2 ⟨_,mq e 9998 2 _ _ rfl F,rfl⟩⟩⟩,rfl⟩
theorem eq2 (x y:Int×Int) (F:PH):rdo prog (Op.equal 115 (Y9 (wx x)) (Y9 (wx y))) F (decide (x=y)):=by
 unfold Op.equal Op.maxDepth;show rdo prog (Op.equalIn (9998+1+1) 115 _ _) _ _;unfold Op.equalIn;simp only [aj];refine ⟨_,(av underlying115 _).2 rfl,?_⟩;dsimp only;refine (aj _ _ _ _).2 ⟨1,(bB sz3 _).2 rfl,?_⟩;rw [Std.Legacy.Range.forIn_eq_forIn_range'];simp only [Std.Legacy.Range.size,Yn,YP,Nat.div_one,List.range',YG,List.forIn_nil,Xm,Nat.reduceAdd];obtain ⟨a,b⟩:=x;obtain ⟨d,e⟩:=y;by_cases h0:a=d
 ·skip
  by_cases h1:b=e
  ·skip
   refine (aj _ _ _ _).2 ⟨(Y5,()),(aj _ _ _ _).2 ⟨_,cI 9998 0 1 rfl _ _ a d rfl rfl F,?_⟩,?_⟩
   ·skip
    rw [Χ h0];refine (aj _ _ _ _).2 ⟨_,cI 9998 1 1 rfl _ _ b e rfl rfl F,?_⟩;rw [Χ h1];rfl
   ·simp [h0,h1]
  ·skip
   refine (aj _ _ _ _).2 ⟨(Y3 Y6,()),(aj _ _ _ _).2 ⟨_,cI 9998 0 1 rfl _ _ a d rfl rfl F,?_⟩,?_⟩
   ·skip
    rw [Χ h0];refine (aj _ _ _ _).2 ⟨_,cI 9998 1 1 rfl _ _ b e rfl rfl F,?_⟩;rw [Υ h1];rfl
   ·simp [h0,h1]
 ·skip
  refine (aj _ _ _ _).2 ⟨(Y3 Y6,()),(aj _ _ _ _).2 ⟨_,cI 9998 0 1 rfl _ _ a d rfl rfl F,?_⟩,?_⟩
  ·skip
   rw [Υ h0];rfl
  ·simp [h0]
theorem Wj (e:Bool) (x:Int×Int) (F:PH):rdo prog (Instr.checkKey e 10000 115 (.agg (wx x))) F ():=by show rdo prog (Instr.checkKey e (9998+1+1) 115 _) _ _;unfold Instr.checkKey;simp only [aj];refine ⟨_,(av underlying115 _).2 rfl,?_⟩;dsimp only;rw [Std.Legacy.Range.forIn_eq_forIn_range'];simp only [Std.Legacy.Range.size,Yn,YP,Nat.div_one,List.range',YG,List.forIn_nil,Xm,Nat.reduceAdd];refine (aj _ _ _ _).2 ⟨PUnit.unit,(aj _ _ _ _).2 ⟨_,mq e 9998 0 _ _ rfl F,(aj _ _ _ _).2 ⟨_,mq e 9998 1 _ _ rfl F,rfl⟩⟩,rfl⟩
abbrev Af (x:Br):Value:=Y9 (aZ x)
abbrev aH (x:Int):Value:=vi x
theorem JK:oG prog 3 aH:=by
 refine ⟨λF a b=> ?_,λF e a=> ?_,λa=> ?_,_,underlying3,.inl λa b=> ?_⟩
 ·unfold Op.equal Op.maxDepth;exact Gz 9999 a b F
 ·exact Cv e 9999 a F
 ·unfold Instr.sameBits;simp
 ·unfold Instr.sameNow;simp only [if_true];by_cases h:a=b<;>simp [h]
theorem SY:oG prog 124 Af:=by
 refine ⟨λF a b=>GA a b F,λF e a=>SX e a F,λa=> ?_,_,underlying124,.inr λa b=> ?_⟩
 ·show Instr.sameBits (9998+1+1) _ _=Y8;simp [Instr.sameBits]
 ·rfl
abbrev JL (x:Int×Int×Int):Value:=Y9 (dU x)
theorem Wk:oG prog 215 JL:=by
 refine ⟨λF a b=>eq3 a b F,λF e a=>Wi e a F,λa=> ?_,_,underlying215,.inr λa b=> ?_⟩
 ·show Instr.sameBits (9998+1+1) _ _=Y8;simp [Instr.sameBits]
 ·rfl
abbrev bT (x:Int×Int):Value:=Y9 (wx x)
theorem Wl:oG prog 115 bT:=by
 refine ⟨λF a b=>eq2 a b F,λF e a=>Wj e a F,λa=> ?_,_,underlying115,.inr λa b=> ?_⟩
 ·show Instr.sameBits (9998+1+1) _ _=Y8;simp [Instr.sameBits]
 ·rfl
theorem Wm:bO prog 4=Y3 (Za Y6):=by kernel_rfl
theorem mtN:gj prog 238 aH (vi 0):=⟨_,_,underlying238,zr3,JK⟩
theorem mtB:gj prog 197 Af (vi 0):=⟨_,_,underlying197,zr3,SY⟩
theorem mtK:gj prog 195 Af (.bool Y6):=⟨_,_,underlying195,Wm,SY⟩
theorem mt3:gj prog 213 JL (vi 0):=⟨_,_,underlying213,zr3,Wk⟩
theorem Ah {F:PH} {a b:Sl} {x y:List Br} (ha:RdS F a 3 (aW x)) (hb:RdS F b 3 (aW y)) (hl:Fit x.length):
  ν 79 #[a.v,b.v] F λv F'=>v=Za (decide (x=y))/\F'=F:=by
 have hal:=ha.blen;have hbl:=hb.blen;refine Ww ?_;unfold Tw;refine ⟨λh=> ?_,λh=> ?_⟩
 ·refine ⟨?_,rfl⟩;have:¬x=y:=by intro e;subst e;omega
  simp [this]
 ·have hlen:x.length=y.length:=by omega
  refine ⟨λm i F'=>∃k:Nat,i=k/\k<=x.length/\m=x.length - k/\F'=F/\x.take k=y.take k,x.length,⟨0,rfl,by omega,rfl,rfl,rfl⟩,?_⟩;rintro m i F' ⟨k,rfl,hk,rfl,rfl,htake⟩;unfold Hd;refine ⟨λhlt=> ?_,λhge=> ?_⟩
  ·have hkx:k<x.length:=by omega
   have hky:k<y.length:=by omega
   obtain ⟨p,hp,hpr,_⟩:=rdb ha (N5 hkx);obtain ⟨q,hq,hqr,_⟩:=rdb hb (N5 hky);refine ⟨p,hp,by omega,hlt,aZ x[k],rfl,by simpa using hpr,q,hq,by omega,by omega,aZ y[k],rfl,by simpa using hqr,decide (x[k]=y[k]),λF=>GA x[k] y[k] F,λhne=> ?_,λheq=> ?_⟩
   ·refine ⟨?_,rfl⟩;have:¬x=y:=by rintro rfl;simp at hne
    simp [this]
   ·refine ⟨x.length - (k+1),by omega,k+1,fz (by omega),by omega,rfl,rfl,?_⟩;rw [Xr hkx,Xr hky,htake];simp at heq;rw [heq]
  ·refine ⟨?_,rfl⟩;have hk':k=x.length:=by omega
   rw [hk',Xg,hlen,Xg] at htake;simp [htake]
theorem jU {F:PH} {v w:Γ} {d e:Dia} (hd:DV F v d) (he:DV F w e) (hl:Fit d.1.length):
  ν 31 #[Y9 v,Y9 w] F λr F'=>r=Za (decide (d=e))/\F.le F':=by
 obtain ⟨s,rfl,hr⟩:=hd;obtain ⟨t,rfl,ht⟩:=he;refine Wq ?_;unfold Tb;intro b2 hb2;refine atI ?_;have hle2:=ae (Y4 #[s.v,vi d.2] 31) hb2;intro b3 hb3;refine atI ?_;have hle3:=ae (Y4 #[t.v,vi e.2] 31) hb3;have hle:F.le _:=λb o h=>hle3 b o (hle2 b o h);have hc2:=hle3 _ _ (al F b2 (Y4 #[s.v,vi d.2] 31));have hc3:=al (F.set b2 (Y4 #[s.v,vi d.2] 31)) b3 (Y4 #[t.v,vi e.2] 31);generalize (F.set b2 (Y4 #[s.v,vi d.2] 31)).set b3 (Y4 #[t.v,vi e.2] 31)=G at*;refine ⟨_,by rw [aq hc2];rfl,_,by rw [aq hc3];rfl,λh=> ?_,λh=> ?_⟩
 ·refine ⟨s,by rw [aq hc2];rfl,t,by rw [aq hc3];rfl,?_⟩;refine (Ah (hr.le hle) (ht.le hle) hl).mono ?_;rintro _ F' ⟨rfl,rfl⟩;refine ⟨_,rfl,?_,hle⟩;obtain ⟨d1,d2⟩:=d;obtain ⟨e1,e2⟩:=e;simp only at h;simp [h]
 ·refine ⟨?_,hle⟩;have:¬d=e:=by rintro rfl;exact h rfl
  simp [this]
def mpS (S:List Tr) (x:Br):Option ξ:=if x∈brs S then Y3 (vi (((brs S).idxOf x+2:Nat):Int)) else Y5
structure BD (F0 F:PH) (b m:Nat) (S:List Tr):Prop where
 le:F0.le F
 cl:Cl S
 nb:F0 b=Y5
 nm:F0 m=Y5
 ex:∃s:Sl,F b=Y3 (Y4 #[s.v,.map (Y3 m)] 199)/\bV F 124 3 s (aW (brs S))/\∀a,s.YZ=Y3 a->F0 a.block=Y5
 map:∃o,F m=Y3 o/\eJ Af (mpS S) o
theorem bV.elem {F:PH} {e size:Nat} {s:Sl} {vs:Ξ} (h:bV F e size s vs) {a:Addr} (ha:s.YZ=Y3 a):∃cur,F a.block=Y3 (Y4 cur e (0,0)):=by
 rcases h with ⟨rfl,rfl⟩|⟨b,cur,h1,h2,_⟩
 ·cases ha
 ·rw [h1] at ha;cases ha;exact ⟨cur,h2⟩
theorem oT (F:PH):ν 172 #[] F λr F'=>∃b m,r=Ze (Y3 ⟨b,0,Y5⟩)/\b≠m/\BD F F' b m []:=by
 refine Tt ?_;unfold MZ;intro b1 hb1;refine atI ?_;intro b3 hb3;refine atI ?_;have hle1:=ae (.map #[] 0) hb1;have hle3:=ae (Y4 #[Value.slice Y5 0 0,Value.map (Y3 b1)] 199) hb3;have hne:b3≠b1:=λe=>by rw [e,al] at hb3;cases hb3
 refine ⟨b3,b1,rfl,hne,λb o h=>hle3 b o (hle1 b o h),.nil,aS hle1 hb3,hb1,⟨Sl.nil,al _ _ _,.inl ⟨rfl,rfl⟩,λa ha=>by cases ha⟩,_,hle3 _ _ (al _ _ _),?_⟩;have:mpS []=λ_=>Y5:=by funext x;simp [mpS,brs]
 rw [this];exact eJ.empty Af
instance (S:List Tr) (t:Tr):Decidable (inn S t):=inferInstanceAs (Decidable (t.isL=Y8\/t∈S))
def fu (S:List Tr) (t:Tr):List Tr:=if inn S t then S else S++[t]
theorem rX {S:List Tr} (hS:Cl S) {v:Nat} {l h:Tr} (hk:v<64/\v<l.top/\v<h.top/\l.ok/\h.ok):fu (vis h (vis l S)) (mk v l h)=vis (mk v l h) S:=by
 obtain ⟨h0,h1,h2,h3,h4⟩:=hk;obtain ⟨a1,a2,X,a3,a4⟩:=bA l S h3 hS;obtain ⟨b1,b2,Y,b3,b4⟩:=bA h (vis l S) h4 a1;unfold mk;split
 ·rename_i e;subst e;rw [gF a2];unfold fu;rw [Χ a2]
 ·rename_i e
  conv=>rhs;unfold vis
  unfold fu;by_cases hm:Y1 v l h∈S
  ·have hl:=(hS.inn_kids (.inr hm)).1;have hh:=(hS.inn_kids (.inr hm)).2;rw [Χ hm,gF hl,gF hh,Χ (.inr hm)]
  ·rw [Υ hm,Υ];rintro (hc|hc)
   ·cases hc
   ·rw [b3,a3] at hc;rcases W9.1 hc with hc|hc
    ·rcases W9.1 hc with hc|hc
     ·exact hm hc
     ·have:=a4 _ hc;simp only [sz] at this;omega
    ·have:=b4 _ hc;simp only [sz] at this;omega
theorem uf {α β:Type} [DecidableEq α] [DecidableEq β] (f:α->β) (x:α):∀(l:List α),x∈l->(∀y∈l,f y=f x->y=x)->(l.map f).idxOf (f x)=l.idxOf x
 |[],h,_=>by cases h
 |a::l,h,hi=>by
  simp only [Xw,List.idxOf_cons];by_cases ha:a=x
  ·subst ha;simp
  ·have h1:¬f a=f x:=λe=>ha (hi a (by simp) e);have h2:(a==x)=Y6:=by simpa using ha
   have h3:(f a==f x)=Y6:=by simpa using h1
   rw [h2,h3];simp only [cond_false];rw [uf f x l (by simpa [Ne.symm ha] using h) (λy hy=>hi y (by simp [hy]))]
theorem iK {S:List Tr} (hS:Cl S) {v:Nat} {l h:Tr} (hl:inn S l) (hh:inn S h):br S (Y1 v l h)∈brs S↔Y1 v l h∈S:=by
 constructor
 ·intro hm;obtain ⟨u,hu,he⟩:=Xi.1 hm;obtain ⟨_,v',l',h',rfl,hl',hh'⟩:=hS.mem u hu;simp only [br,Br.mk.injEq] at he;obtain ⟨e1,e2,e3⟩:=he;rw [<- cQ hl' hl (by omega),<- cQ hh' hh (by omega),<- show v'=v by omega];exact hu
 ·intro hm;exact YQ hm
theorem Ea {S:List Tr} (hS:Cl S) {v:Nat} {l h:Tr} (hm:Y1 v l h∈S):(brs S).idxOf (br S (Y1 v l h))+2=num S (Y1 v l h):=by unfold brs;rw [uf _ _ _ hm (λy hy e=>HP hS hy hm e)];rfl
theorem GB {S:List Tr} (hS:Cl S) {v:Nat} {l h:Tr} (hl:inn S l) (hh:inn S h) (hn:Y1 v l h ∉ S):
  mpS (S++[Y1 v l h])=λx=>if x=br S (Y1 v l h) then Y3 (vi (((S.length+2:Nat):Int))) else mpS S x:=by
 have hb:br S (Y1 v l h) ∉ brs S:=λhm=>hn ((iK hS hl hh).1 hm);have hbr:br S (Y1 v l h)=⟨(v:Int),(num S l:Int),(num S h:Int)⟩:=rfl;funext x;unfold mpS;rw [eR hS hl hh,<- hbr];by_cases hx:x=br S (Y1 v l h)
 ·subst hx;rw [Χ rfl,Χ (by simp),List.idxOf_append,Υ hb];simp [aN]
 ·rw [Υ hx];by_cases hm:x∈brs S
  ·rw [Χ hm,Χ (by simp [hm]),List.idxOf_append,Χ hm]
  ·rw [Υ hm,Υ (by simp [hm,hx])]
section
variable {F0 F:PH} {b m:Nat} {S:List Tr}
theorem x6 (hd:BD F0 F b m S) {v:Nat} {l h:Tr} (hl:inn S l) (hh:inn S h) (hv:v<64/\v<l.top/\v<h.top) (hf:Fit (S.length+2)):
  ν 174 #[Ze (Y3 ⟨b,0,Y5⟩),vi v,vi (num S l),vi (num S h)] F λr F'=>r=vi (num (fu S (mk v l h)) (mk v l h))/\BD F0 F' b m (fu S (mk v l h)):=by
 have hd':=hd;obtain ⟨hle,hS,hb0,hm0,⟨s,hb,ho,hs0⟩,ob,hm,hmp⟩:=hd;refine Tv ?_;unfold M1;refine ⟨λhe=> ?_,λhe=> ?_⟩
 ·obtain rfl:=cQ hl hh (by omega);have e:mk v l l=l:=by simp [mk]
  rw [e];have e2:fu S l=S:=by unfold fu;rw [Χ hl]
  rw [e2];exact ⟨rfl,hd'⟩
 have hlh:l≠h:=λe=>he (by rw [e]);have emk:mk v l h=Y1 v l h:=by simp [mk,hlh]
 have hok:(Y1 v l h).ok:=⟨hv.1,hv.2.1,hv.2.2,hlh,hS.inn_ok hl,hS.inn_ok hh⟩;rw [emk];intro b9 hb9;refine atI ?_;refine stW (al _ _ _) rfl rfl (mz ⟨v,num S l,num S h⟩) ?_;rw [aT];have hle9:=ae (Y4 (aZ ⟨v,num S l,num S h⟩) 124) hb9;have h9:=al F b9 (Y4 (aZ ⟨v,num S l,num S h⟩) 124);have hbr:br S (Y1 v l h)=⟨(v:Int),(num S l:Int),(num S h:Int)⟩:=rfl;rw [<- hbr] at h9 hle9;show ∃b0a_:Addr,_;rw [show (#[vi v,vi (num S l),vi (num S h)]:Γ)=aZ (br S (Y1 v l h)) from rfl];have hb:=hle9 _ _ hb;have hm:=hle9 _ _ hm;have hle1:F0.le (F.set b9 (Y4 (aZ (br S (Y1 v l h))) 124)):=λx o hx=>hle9 x o (hle x o hx);have ne9:∀a,s.YZ=Y3 a->a.block≠b9:=λa ha e=>by obtain ⟨cur,hcur⟩:=ho.elem ha;rw [e,hb9] at hcur;cases hcur
 have hbase:∀a,s.YZ=Y3 a->(∃cur,(F.set b9 (Y4 (aZ (br S (Y1 v l h))) 124)) a.block=Y3 (Y4 cur 124 (0,0))):=λa ha=>by obtain ⟨cur,hcur⟩:=ho.elem ha;exact ⟨cur,hle9 _ _ hcur⟩
 replace ho:bV (F.set b9 (Y4 (aZ (br S (Y1 v l h))) 124)) 124 3 s (aW (brs S)):=ho.keep λa ha=>by obtain ⟨cur,hcur⟩:=ho.elem ha;rw [hcur,hle9 _ _ hcur]
 generalize F.set b9 (Y4 (aZ (br S (Y1 v l h))) 124)=F1 at*;refine ⟨_,rfl,Y3 m,by simp only [aE];rw [aq hb];rfl,aZ (br S (Y1 v l h)),rfl,ac h9,?_⟩;have hlk:=bJ (F:=F1) mtB hm hmp (br S (Y1 v l h)) Y8;by_cases hmem:Y1 v l h∈S
 ·have hx:=(iK hS hl hh).2 hmem;have e1:mpS S (br S (Y1 v l h))=Y3 (vi (num S (Y1 v l h))):=by unfold mpS;rw [Χ hx,Ea hS hmem]
  rw [e1] at hlk;refine ⟨_,_,hlk,λhc=>(by cases hc),λ_=> ?_⟩;have e2:fu S (Y1 v l h)=S:=by unfold fu;rw [Χ (.inr hmem)]
  rw [e2];exact ⟨rfl,hle1,hS,hb0,hm0,⟨s,hb,ho,hs0⟩,ob,hm,hmp⟩
 ·have hx:br S (Y1 v l h) ∉ brs S:=λhx=>hmem ((iK hS hl hh).1 hx);have e1:mpS S (br S (Y1 v l h))=Y5:=by unfold mpS;rw [Υ hx]
  rw [e1] at hlk;have e2:fu S (Y1 v l h)=S++[Y1 v l h]:=by
   unfold fu;rw [Υ];rintro (hc|hc)
   ·cases hc
   ·exact hmem hc
  rw [e2];have hS':Cl (S++[Y1 v l h]):=.snoc hS hl hh hok hmem;refine ⟨_,_,hlk,λ_=> ?_,λhc=>(by cases hc)⟩;refine ⟨s,by rw [aq hb];rfl,aZ (br S (Y1 v l h)),rfl,ac h9,rfl,λb37 hb37=> ?_⟩;refine atI ?_;have hle37:=ae (Y4 (aZ (br S (Y1 v l h))) 124) hb37;have h37:=al F1 b37 (Y4 (aZ (br S (Y1 v l h))) 124);have hb:=hle37 _ _ hb;have hm:=hle37 _ _ hm;have h9:=hle37 _ _ h9;have hle2:F0.le (F1.set b37 (Y4 (aZ (br S (Y1 v l h))) 124)):=λx o hx=>hle37 x o (hle1 x o hx);replace ho:bV (F1.set b37 (Y4 (aZ (br S (Y1 v l h))) 124)) 124 3 s (aW (brs S)):=ho.keep λa ha=>by obtain ⟨cur,hcur⟩:=hbase a ha;rw [hcur,hle37 _ _ hcur]
  generalize F1.set b37 (Y4 (aZ (br S (Y1 v l h))) 124)=F2 at*;have hlen:=ho.rd.blen;rw [aN] at hlen;refine iS underlying29 yt yu rfl (by decide) hle2 ho hs0 (x:=⟨Y3 ⟨b37,0,Y5⟩,1,1⟩) (news:=dr (br S (Y1 v l h))) (RdS.new h37 rfl rfl (W8 _)) (λx hx=>ii [br S (Y1 v l h)] x (by simpa [aW] using hx)) (by simp only [hlen];omega) (by simp only [hlen];omega) ?_;intro s' F3 hle3 ho3 hlen3 hs3 hk3 hfr3;have neB:∀a,s.YZ=Y3 a->a.block≠b:=λa ha e=>by obtain ⟨cur,hcur⟩:=ho.elem ha;rw [e,hb] at hcur;cases hcur
  have neM:∀a,s.YZ=Y3 a->a.block≠m:=λa ha e=>by obtain ⟨cur,hcur⟩:=ho.elem ha;obtain ⟨es,c,L,rfl,_⟩:=hmp;rw [e,hm] at hcur;cases hcur
  have hb:=hk3 _ _ hb (λ⟨a,ha,e⟩=>neB a ha e);have hm:=hk3 _ _ hm (λ⟨a,ha,e⟩=>neM a ha e);have h9:=hk3 _ _ h9 (λ⟨a,ha,e⟩=>ne9 a ha e);refine ⟨s',rfl,?_⟩;refine st1 hb (by simp) ?_;have hbm:b≠m:=λe=>by obtain ⟨es,c,L,rfl,_⟩:=hmp;rw [e,hm] at hb;cases hb
  have h9b:b9≠b:=λe=>by rw [e,hb] at h9;cases h9
  have hsb:∀a,s'.YZ=Y3 a->a.block≠b/\a.block≠m:=λa ha=>by
   obtain ⟨cur,hcur⟩:=ho3.elem ha;refine ⟨λe=> ?_,λe=> ?_⟩
   ·rw [e,hb] at hcur;cases hcur
   ·obtain ⟨es,c,L,rfl,_⟩:=hmp;rw [e,hm] at hcur;cases hcur
  have hle4:F0.le (F3.set b (Y4 (#[s'.v,Value.map (Y3 m)]:Γ) 199)):=aw hle3 hb0;have hb4:=al F3 b (Y4 (#[s'.v,Value.map (Y3 m)]:Γ) 199);have hm4:(F3.set b (Y4 (#[s'.v,Value.map (Y3 m)]:Γ) 199)) m=Y3 ob:=by rw [az _ _ hbm.symm];exact hm
  have h94:(F3.set b (Y4 (#[s'.v,Value.map (Y3 m)]:Γ) 199)) b9=Y3 (Y4 (aZ (br S (Y1 v l h))) 124):=by rw [az _ _ h9b];exact h9
  have ho4:bV (F3.set b (Y4 (#[s'.v,Value.map (Y3 m)]:Γ) 199)) 124 3 s' (aW (brs S)++dr (br S (Y1 v l h))):=ho3.keep λa ha=>az _ _ (hsb a ha).1;rw [show (#[s.v,Value.map (Y3 m)].setIfInBounds 0 s'.v:Γ)= #[s'.v,Value.map (Y3 m)] from rfl];generalize F3.set b (Y4 (#[s'.v,Value.map (Y3 m)]:Γ) 199)=F4 at*;have hlen4:s'.len=S.length+1:=by rw [hlen3,hlen]
  refine ⟨s',by rw [aq hb4];rfl,Y3 m,by simp only [aE];rw [aq hb4];rfl,aZ (br S (Y1 v l h)),rfl,ac h94,?_⟩;refine aV mtB hm4 hmp (br S (Y1 v l h)) _ λo' ho'=> ?_;have hw:i64.wrap ((s'.len:Int)+1)=((S.length+2:Nat):Int):=by rw [hlen4,aP (by omega)];omega
  rw [hw] at ho' ⊢;refine ⟨?_,aw hle4 hm0,hS',hb0,hm0,⟨s',by rw [az _ _ hbm];exact hb4,?_,hs3⟩,o',al _ _ _,by rw [GB hS hl hh hmem];exact ho'⟩
  ·have hl2:=eC hS' (k:=S.length) (t:=Y1 v l h) (by simp);rw [hl2]
  ·have e3:aW (brs (S++[Y1 v l h]))=aW (brs S)++dr (br S (Y1 v l h)):=by rw [eR hS hl hh,<- hbr,eO];simp [aW]
   rw [e3];exact ho4.keep λa ha=>az _ _ (hsb a ha).2
end
theorem dJ {α:Type} [DecidableEq α]:∀(l m:List α),l.Nodup->(∀x∈l,x∈m)->l.length<=m.length
 |[],_,_,_=>Yz _
 |a::l,m,hn,hs=>by rw [X1] at hn;have ha:=hs a (by simp);have h:=dJ l (m.erase a) hn.2 (λx hx=>(List.mem_erase_of_ne (by rintro rfl;exact hn.1 hx)).2 (hs x (by simp [hx])));rw [List.length_erase_of_mem ha] at h;have:=List.length_pos_of_mem ha;simp only [Xl];omega
theorem GC:aC prog 190=Y8:=by kernel_rfl
def nmS (S0 S:List Tr) (n:Int):Option ξ:=
 if 0<=n/\n<=(S0.length:Int)+1/\inn S (tr S0 n.toNat) then Y3 (vi (num S (tr S0 n.toNat):Int)) else Y5
theorem pN {S0 S:List Tr} (h0:Cl S0) {t:Tr} (ht:inn S0 t) (hi:inn S t):nmS S0 S (num S0 t)=Y3 (vi (num S t)):=by have h1:=fc ht;unfold nmS;rw [N4,nJ h0 ht,Χ ⟨by omega,by omega,hi⟩]
theorem GD {S0 S:List Tr} (h0:Cl S0) {t:Tr} (ht:inn S0 t) (hi:¬inn S t):nmS S0 S (num S0 t)=Y5:=by unfold nmS;rw [N4,nJ h0 ht,Υ (λh=>hi h.2.2)]
theorem GE {S0 S:List Tr} (h0:Cl S0) (_:Cl S) {t:Tr} (ht:inn S0 t) (hS':Cl (S++[t])):
  nmS S0 (S++[t])=λn=>if n=(num S0 t:Int) then Y3 (vi (((S.length+2:Nat)):Int)) else nmS S0 S n:=by
 funext n;by_cases hn:n=(num S0 t:Int)
 ·subst hn;rw [Χ rfl,pN h0 ht (.inr (by simp)),eC hS' (k:=S.length) (by simp)]
 ·rw [Υ hn];unfold nmS;by_cases hr:0<=n/\n<=(S0.length:Int)+1
  ·have hne:tr S0 n.toNat≠t:=λe=>by have:=gm h0 (n:=n.toNat) (by omega);rw [e] at this;omega
   by_cases hi:inn S (tr S0 n.toNat)
   ·rw [Χ ⟨hr.1,hr.2,cd hi⟩,Χ ⟨hr.1,hr.2,hi⟩,bR hi]
   ·rw [Υ,Υ (λh=>hi h.2.2)];rintro ⟨_,_,h|h⟩
    ·exact hi (.inl h)
    ·rcases W9.1 h with h|h
     ·exact hi (.inr h)
     ·exact hne (W5.1 h)
  ·rw [Υ (λh=>hr ⟨h.1,h.2.1⟩),Υ (λh=>hr ⟨h.1,h.2.1⟩)]
theorem JM {S0:List Tr} (h0:Cl S0):nmS S0 []=λn=>if n=1 then Y3 (vi 1) else if n=0 then Y3 (vi 0) else Y5:=by
 funext n;unfold nmS;by_cases h1:n=1
 ·subst h1;have e:tr S0 (Zd 1)=Y0 Y8:=rfl;rw [Χ rfl,e,Χ ⟨by omega,by omega,gl _ _⟩];rfl
 ·rw [Υ h1];by_cases h2:n=0
  ·subst h2;have e:tr S0 (Zd 0)=Y0 Y6:=rfl;rw [Χ rfl,e,Χ ⟨by omega,by omega,gl _ _⟩];rfl
  ·rw [Υ h2,Υ];rintro ⟨a,b,c|c⟩
   ·have h3:inn S0 (tr S0 n.toNat):=gP (by omega);have h4:=gm h0 (n:=n.toNat) (by omega);generalize tr S0 n.toNat=t at*;cases t with
    |Y0 x=>have:=dF S0 x;omega
    |Y1 _ _ _=>cases c
   ·cases c
structure VE (F0:PH) (b6 b2 b7 b5 M b:Nat) (ns:Sl) (S0:List Tr):Prop where
 c6:F0.cell ⟨b6,0,Y5⟩=Y3 (.map (Y3 M))
 c2:F0.cell ⟨b2,0,Y5⟩=Y3 (Ze (Y3 ⟨b,0,Y5⟩))
 c7:F0.cell ⟨b7,0,Y5⟩=Y3 (.func (.func 190) #[] #[Ze (Y3 ⟨b6,0,Y5⟩),Ze (Y3 ⟨b2,0,Y5⟩),Ze (Y3 ⟨b7,0,Y5⟩),Ze (Y3 ⟨b5,0,Y5⟩)])
 cb:F0.cell ⟨b,0,Y5⟩=Y3 ns.v
 rd:RdS F0 ns 3 (aW (brs S0))
theorem VE.le {F0 G:PH} {b6 b2 b7 b5 M b:Nat} {ns:Sl} {S0:List Tr} (h:VE F0 b6 b2 b7 b5 M b ns S0) (hl:F0.le G):VE G b6 b2 b7 b5 M b ns S0:=
 ⟨aI hl h.c6,aI hl h.c2,aI hl h.c7,aI hl h.cb,h.rd.le hl⟩
structure VS (F0 F:PH) (b5 M:Nat) (S0 S:List Tr):Prop where
 le:F0.le F
 cl:Cl S
 sub:∀x∈S,x∈S0
 n5:F0 b5=Y5
 nM:F0 M=Y5
 ex:∃(s:Sl),F b5=Y3 (Y4 #[s.v,vi 0] 31)/\bV F 124 3 s (aW (brs S))/\∀a,s.YZ=Y3 a->F0 a.block=Y5
 map:∃o,F M=Y3 o/\eJ aH (nmS S0 S) o
theorem bV.upto {F G:PH} {e size:Nat} {s:Sl} {vs:Ξ} (h:bV F e size s vs) (hl:F.le G):bV G e size s vs:=by
 rcases h with h|⟨b,cur,h1,h2,h3⟩
 ·exact .inl h
 ·exact .inr ⟨b,cur,h1,hl _ _ h2,h3⟩
theorem Ai {b6 b2 b7 b5 M b:Nat} {ns:Sl} {S0:List Tr} (h0:Cl S0) (hf:Fit (S0.length+4)):∀(t:Tr),inn S0 t->∀(F0 F:PH) (S:List Tr),VE F0 b6 b2 b7 b5 M b ns S0->VS F0 F b5 M S0 S->
  ν 190 #[vi (num S0 t),Ze (Y3 ⟨b6,0,Y5⟩),Ze (Y3 ⟨b2,0,Y5⟩),Ze (Y3 ⟨b7,0,Y5⟩),Ze (Y3 ⟨b5,0,Y5⟩)] F
   λr F'=>r=vi (num (vis t S) t)/\VS F0 F' b5 M S0 (vis t S):=by
 intro t;induction t with
 |Y0 x=>intro ht F0 F S he hs;have hs':=hs;obtain ⟨hle,hS,hsub,hn5,hnM,⟨s,h5,ho,hsb⟩,o,hM,hmo⟩:=hs;refine M2 ?_;unfold Hc;have hlk:=bJ (F:=F) mtN hM hmo (num S0 (Y0 x)) Y8;rw [pN h0 ht (gl _ _)] at hlk;exact ⟨_,rfl,_,aI hle he.c6,_,_,hlk,λ_=>⟨rfl,hs'⟩,λhc=>by cases hc⟩
 |Y1 v l h ihl ihh=>
  intro ht F0 F S he hs;have hs':=hs;obtain ⟨hle,hS,hsub,hn5,hnM,⟨s,h5,ho,hsb⟩,o,hM,hmo⟩:=hs;have htm:=cP ht rfl;obtain ⟨hil,hih⟩:=h0.inn_kids ht;have hok:=h0.inn_ok ht;refine M2 ?_;unfold Hc;have hlk:=bJ (F:=F) mtN hM hmo (num S0 (Y1 v l h)) Y8;by_cases hin:Y1 v l h∈S
  ·rw [pN h0 ht (.inr hin)] at hlk;have e:vis (Y1 v l h) S=S:=gF (.inr hin);rw [e];exact ⟨_,rfl,_,aI hle he.c6,_,_,hlk,λ_=>⟨rfl,hs'⟩,λhc=>by cases hc⟩
  ·have hnin:¬inn S (Y1 v l h):=by
    rintro (hc|hc)
    ·cases hc
    ·exact hin hc
   rw [GD h0 ht hnin] at hlk;have hw:=uj (n:=num S0 (Y1 v l h)) (by have:=fc ht;omega) (eB rfl);have hnl:=fc ht;have hng:=eB (S:=S0) (t:=Y1 v l h) rfl;obtain ⟨a,ha,hrow,_⟩:=rdb (he.rd.le hle) (qr (fX htm rfl));have hns:=he.rd.blen;rw [aN] at hns;refine ⟨_,rfl,_,aI hle he.c6,_,_,hlk,λhc=>(by cases hc),λ_=> ?_⟩;refine ⟨_,rfl,_,aI hle he.c2,_,rfl,ns,aI hle he.cb,a,ha,by rw [hw];omega,by rw [hw];omega,aZ (br S0 (Y1 v l h)),rfl,by rw [hw];exact hrow,?_⟩;intro b9 hb9;refine atI ?_;refine stW (al _ _ _) rfl rfl (mz _) ?_;rw [aT];have h90:F0 b9=Y5:=aS hle hb9;have he9:VE (F0.set b9 (Y4 (aZ (br S0 (Y1 v l h))) 124)) b6 b2 b7 b5 M b ns S0:=he.le (ae _ h90);have ne95:b5≠b9:=aG hb9 h5;have ne9M:M≠b9:=aG hb9 hM;have hle9:(F0.set b9 (Y4 (aZ (br S0 (Y1 v l h))) 124)).le (F.set b9 (Y4 (aZ (br S0 (Y1 v l h))) 124)):=λx ob hx=>by
    by_cases hxb:x=b9
    ·subst hxb;rw [al] at hx ⊢;exact hx
    ·rw [az _ _ hxb] at hx ⊢;exact hle _ _ hx
   have hs9:VS (F0.set b9 (Y4 (aZ (br S0 (Y1 v l h))) 124)) (F.set b9 (Y4 (aZ (br S0 (Y1 v l h))) 124)) b5 M S0 S:=by refine ⟨hle9,hS,hsub,by rw [az _ _ ne95];exact hn5,by rw [az _ _ ne9M];exact hnM,⟨s,by rw [az _ _ ne95];exact h5,ho.upto (ae _ hb9),λa ha=> ?_⟩,o,by rw [az _ _ ne9M];exact hM,hmo⟩;obtain ⟨cur,hcur⟩:=ho.elem ha;rw [az _ _ (aG hb9 hcur)];exact hsb a ha
   have hle0:F0.le (F0.set b9 (Y4 (aZ (br S0 (Y1 v l h))) 124)):=ae _ h90;have hc9:(F0.set b9 (Y4 (aZ (br S0 (Y1 v l h))) 124)) b9=Y3 (Y4 (aZ (br S0 (Y1 v l h))) 124):=al _ _ _;generalize F0.set b9 (Y4 (aZ (br S0 (Y1 v l h))) 124)=G0 at*;generalize F.set b9 (Y4 (aZ (br S0 (Y1 v l h))) 124)=F1 at*;refine ⟨_,rfl,_,aI hs9.le he9.c7,_,by rw [aq (hs9.le _ _ hc9)];rfl,_,_,_,rfl,GC,?_⟩;refine (ihl hil G0 F1 S he9 hs9).mono ?_;rintro _ F2 ⟨rfl,hs2⟩;refine ⟨_,rfl,_,aI hs2.le he9.c7,_,by rw [aq (hs2.le _ _ hc9)];rfl,_,_,_,rfl,GC,?_⟩;refine (ihh hih G0 F2 _ he9 hs2).mono ?_;rintro _ F3 ⟨rfl,hs3⟩;have hs3':=hs3;obtain ⟨hle3,hS3,hsub3,hn53,hnM3,⟨s3,h53,ho3,hsb3⟩,o3,hM3,hmo3⟩:=hs3;obtain ⟨fl1,fl2,X,fl3,fl4⟩:=bA l S hok.2.2.2.2.1 hS;obtain ⟨fh1,fh2,Y,fh3,fh4⟩:=bA h (vis l S) hok.2.2.2.2.2 fl1;have hnl':num (vis l S) l=num (vis h (vis l S)) l:=by rw [fh3,bR fl2]
   have evis:vis (Y1 v l h) S=vis h (vis l S)++[Y1 v l h]:=by
    conv=>lhs;unfold vis
    rw [Υ hin]
   obtain ⟨hSv,_,_⟩:=bA (Y1 v l h) S hok hS;rw [evis] at hSv ⊢;rw [hnl'];have hil3:inn (vis h (vis l S)) l:=by rw [fh3];exact cd fl2
   generalize vis h (vis l S)=T at*;refine ⟨_,rfl,_,rfl,s3,by rw [aq h53];rfl,_,by rw [aq (hle3 _ _ hc9)];rfl,rfl,λb43 hb43=> ?_⟩;refine atI ?_;have hb430:G0 b43=Y5:=aS hle3 hb43;have hTl:T.length<=S0.length:=dJ T S0 hS3.nodup hsub3;have hlen:=ho3.rd.blen;rw [aN] at hlen;have ex:(#[vi (v:Int),vi (num T l:Int),vi (num T h:Int)]:Γ)=aZ ⟨(v:Int),(num T l:Int),(num T h:Int)⟩:=rfl;have hle43:=ae (Y4 (aZ ⟨(v:Int),(num T l:Int),(num T h:Int)⟩) 124) hb43;have h43:=al F3 b43 (Y4 (aZ ⟨(v:Int),(num T l:Int),(num T h:Int)⟩) 124);show aF prog _ (F3.set b43 (Y4 (aZ ⟨(v:Int),(num T l:Int),(num T h:Int)⟩) 124)) _;replace hle3:G0.le (F3.set b43 (Y4 (aZ ⟨(v:Int),(num T l:Int),(num T h:Int)⟩) 124)):=λx ob hx=>hle43 _ _ (hle3 _ _ hx);have ho3:=ho3.upto hle43;have h53:=hle43 _ _ h53;have hM3:=hle43 _ _ hM3;generalize F3.set b43 (Y4 (aZ ⟨(v:Int),(num T l:Int),(num T h:Int)⟩) 124)=F4 at*;refine iS underlying29 yt yu rfl (by decide) hle3 ho3 hsb3 (x:=⟨Y3 ⟨b43,0,Y5⟩,1,1⟩) (news:=dr ⟨(v:Int),(num T l:Int),(num T h:Int)⟩) (RdS.new h43 rfl rfl (W8 _))
    (λx hx=>ii [⟨(v:Int),(num T l:Int),(num T h:Int)⟩] x (by simpa [aW] using hx)) (by simp only [hlen];omega) (by simp only [hlen];omega) ?_
   intro s5 F5 hle5 ho5 hlen5 hsb5 hk5 _;have ne5:∀a,s3.YZ=Y3 a->a.block≠b5:=λa ha e=>by obtain ⟨cur,hcur⟩:=ho3.elem ha;rw [e,h53] at hcur;cases hcur
   have neM:∀a,s3.YZ=Y3 a->a.block≠M:=λa ha e=>by obtain ⟨cur,hcur⟩:=ho3.elem ha;obtain ⟨es,c,L,rfl,_⟩:=hmo3;rw [e,hM3] at hcur;cases hcur
   have h53:=hk5 _ _ h53 (λ⟨a,ha,e⟩=>ne5 a ha e);have hM3:=hk5 _ _ hM3 (λ⟨a,ha,e⟩=>neM a ha e);have n5M:b5≠M:=λe=>by obtain ⟨es,c,L,rfl,_⟩:=hmo3;rw [e,hM3] at h53;cases h53
   have hsb6:∀a,s5.YZ=Y3 a->a.block≠b5/\a.block≠M:=λa ha=>by
    obtain ⟨cur,hcur⟩:=ho5.elem ha;refine ⟨λe=> ?_,λe=> ?_⟩
    ·rw [e,h53] at hcur;cases hcur
    ·obtain ⟨es,c,L,rfl,_⟩:=hmo3;rw [e,hM3] at hcur;cases hcur
   refine ⟨s5,rfl,?_⟩;refine st1 h53 (by simp) ?_;rw [show (#[s3.v,vi 0].setIfInBounds 0 s5.v:Γ)= #[s5.v,vi 0] from rfl];have hle6:G0.le (F5.set b5 (Y4 #[s5.v,vi 0] 31)):=aw hle5 hn53;have h56:=al F5 b5 (Y4 #[s5.v,vi 0] 31);have hM6:(F5.set b5 (Y4 #[s5.v,vi 0] 31)) M=Y3 o3:=by rw [az _ _ n5M.symm];exact hM3
   have ho6:bV (F5.set b5 (Y4 #[s5.v,vi 0] 31)) 124 3 s5 _:=ho5.keep λa ha=>az _ _ (hsb6 a ha).1;generalize F5.set b5 (Y4 #[s5.v,vi 0] 31)=F6 at*;have hlen6:s5.len=T.length+1:=by rw [hlen5,hlen]
   have hw6:i64.wrap ((s5.len:Int)+1)=((T.length+2:Nat):Int):=by rw [hlen6,aP (by omega)];omega
   refine ⟨_,aI hle6 he9.c6,s5,by rw [aq h56];rfl,?_⟩;dsimp only;rw [hw6];refine aV mtN hM6 hmo3 (num S0 (Y1 v l h):Int) _ λo' ho'=> ?_;rw [<- GE h0 hS3 ht hSv] at ho';have hle7:G0.le (F6.set M o'):=aw hle6 hnM3;have hlk7:=bJ (F:=F6.set M o') mtN (al F6 M o') ho' (num S0 (Y1 v l h)) Y6;rw [pN h0 ht (.inr (by simp))] at hlk7;refine ⟨_,aI hle7 he9.c6,_,hlk7,rfl,λx ob hx=>hle7 _ _ (hle0 _ _ hx),hSv,λx hx=> ?_,hn5,hnM,⟨s5,by rw [az _ _ n5M];exact h56,?_,λa ha=>aS hle0 (hsb5 a ha)⟩,o',al _ _ _,ho'⟩
   ·rcases W9.1 hx with hx|hx
    ·exact hsub3 x hx
    ·rw [W5.1 hx];exact htm
   ·have e3:aW (brs (T++[Y1 v l h]))=aW (brs T)++dr ⟨(v:Int),(num T l:Int),(num T h:Int)⟩:=by rw [eR hS3 hil3 fh2,eO];simp [aW]
    rw [e3];exact ho6.keep λa ha=>az _ _ (hsb6 a ha).2
def nH (F:PH) (a b:Nat):PH:=λx=>if x=a\/x=b then Y5 else F x
theorem JN (F:PH) (a b:Nat):(nH F a b).le F:=λx o h=>by
 unfold nH at h;split at h
 ·cases h
 ·exact h
theorem mv {F:PH} {a b x:Nat} (h1:x≠a) (h2:x≠b):nH F a b x=F x:=by simp [nH,h1,h2]
theorem OI (F:PH) (a b:Nat):nH F a b a=Y5:=by simp [nH]
theorem OJ (F:PH) (a b:Nat):nH F a b b=Y5:=by simp [nH]
theorem JO {F G:PH} {a b:Nat} (h:F.le G) (ha:F a=Y5) (hb:F b=Y5):F.le (nH G a b):=λx o hx=>by
 have h1:x≠a:=λe=>by rw [e,ha] at hx;cases hx
 have h2:x≠b:=λe=>by rw [e,hb] at hx;cases hx
 rw [mv h1 h2];exact h _ _ hx
theorem PH.le.trans {F G H:PH} (h:F.le G) (k:G.le H):F.le H:=λb o hx=>k _ _ (h _ _ hx)
section
variable {F:PH} {b:Nat} {ns:Sl} {S0:List Tr} {t:Tr}
theorem mw (hb:F.cell ⟨b,0,Y5⟩=Y3 ns.v) (hr:RdS F ns 3 (aW (brs S0))) (h0:Cl S0) (ht:inn S0 t) (hf:Fit (S0.length+4)):
  ν 159 #[Ze (Y3 ⟨b,0,Y5⟩),vi (num S0 t)] F λr F'=>∃v,r=Y9 v/\DV F' v (dia t)/\F.le F':=by
 have hok:=h0.inn_ok ht;refine Ts ?_;unfold MY;intro b2 hb2;refine atI ?_;have l2:=ae (Y4 #[Ze (Y3 ⟨b,0,Y5⟩)] 196) hb2;have h2:=al F b2 (Y4 #[Ze (Y3 ⟨b,0,Y5⟩)] 196);generalize F.set b2 (Y4 #[Ze (Y3 ⟨b,0,Y5⟩)] 196)=F2 at*;intro b4 hb4;refine atI ?_;have l4:=ae (Y4 zD 31) hb4;have h4:=al F2 b4 (Y4 zD 31);have h2:=l4 _ _ h2;have f4:F b4=Y5:=aS l2 hb4;have l4:=l2.trans l4;generalize F2.set b4 (Y4 zD 31)=F4 at*;intro b5 hb5;refine atI ?_;have n25:b2≠b5:=aG hb5 h2;have n45:b4≠b5:=aG hb5 h4;refine stW (al _ _ _) rfl rfl (λx hx=> ?_) ?_
 ·simp only [W6,X6,or_false] at hx;rcases hx with rfl|rfl
  ·exact HJ (x:=Sl.nil)
  ·exact jD
 rw [aT];have l5:=ae (Y4 zD 31) hb5;have h5:=al F4 b5 (Y4 zD 31);have h2:=l5 _ _ h2;have h4:=l5 _ _ h4;have f5:F b5=Y5:=aS l4 hb5;have l5:=l4.trans l5;generalize F4.set b5 (Y4 zD 31)=F5 at*;intro b9 hb9;refine atI ?_;have f9:F b9=Y5:=aS l5 hb9;have n92:b2≠b9:=aG hb9 h2;have n94:b4≠b9:=aG hb9 h4;have n95:b5≠b9:=aG hb9 h5;refine aV mtN (al _ _ _) (eJ.empty aH) 0 (vi 0) λo1 ho1=> ?_;rw [aT];refine aV mtN (al _ _ _) ho1 1 (vi 1) λo2 ho2=> ?_;rw [aT];have hn:nmS S0 []=(λk'=>if k'=1 then Y3 (vi 1) else if k'=0 then Y3 (vi 0) else Y5):=JM h0;rw [<- hn] at ho2;have l9:F.le (F5.set b9 o2):=l5.trans (ae o2 hb9);have h9:=al F5 b9 o2;have h2:=ae o2 hb9 _ _ h2;have h4:=ae o2 hb9 _ _ h4;have h5:=ae o2 hb9 _ _ h5;generalize F5.set b9 o2=F9 at*;intro b6 hb6;refine atI ?_;refine st1 (al _ _ _) (by simp) ?_;rw [aT,show (#[Value.map Y5].setIfInBounds 0 (Value.map (Y3 b9)):Γ)= #[Value.map (Y3 b9)] from rfl];have n65:b6≠b5:=(aG hb6 h5).symm;have n69:b6≠b9:=(aG hb6 h9).symm;have hx:=ae (Y4 #[Value.map (Y3 b9)] 238) hb6;have h6:=al F9 b6 (Y4 #[Value.map (Y3 b9)] 238);have l6:F.le (F9.set b6 (Y4 #[Value.map (Y3 b9)] 238)):=l9.trans hx;have h2:=hx _ _ h2;have h4:=hx _ _ h4;have h5:=hx _ _ h5;have h9:=hx _ _ h9;clear hx;generalize F9.set b6 (Y4 #[Value.map (Y3 b9)] 238)=F6 at*;intro b7 hb7;refine atI ?_;refine st1 (al _ _ _) (by simp) ?_;rw [aT];generalize hfv:(Value.func (.func 190) #[] #[(Ze (Y3 (Zc b6 0 Y5))),(Ze (Y3 (Zc b2 0 Y5))),(Ze (Y3 (Zc b7 0 Y5))),(Ze (Y3 (Zc b5 0 Y5)))])=fv;rw [show (#[Value.nilFunc].setIfInBounds (Zc b7 0 Y5).off fv:Γ)= #[fv] from rfl];have n75:b7≠b5:=(aG hb7 h5).symm;have n79:b7≠b9:=(aG hb7 h9).symm;have hx:=ae (Y4 #[fv] 225) hb7;have h7:=al F6 b7 (Y4 #[fv] 225);have l7:F.le (F6.set b7 (Y4 #[fv] 225)):=l6.trans hx;have h2:=hx _ _ h2;have h4:=hx _ _ h4;have h5:=hx _ _ h5;have h9:=hx _ _ h9;have h6:=hx _ _ h6;clear hx;generalize F6.set b7 (Y4 #[fv] 225)=F7 at*;have lF:F.le (nH F7 b5 b9):=JO l7 f5 f9;have g4:(nH F7 b5 b9) b4=_:=(mv n45 n94).trans h4;have he:VE (nH F7 b5 b9) b6 b2 b7 b5 b9 b ns S0:=by
  refine ⟨?_,?_,?_,aI lF hb,hr.le lF⟩
  ·rw [aq ((mv n65 n69).trans h6)];rfl
  ·rw [aq ((mv n25 n92).trans h2)];rfl
  ·rw [aq ((mv n75 n79).trans h7),<- hfv];rfl
 have hs:VS (nH F7 b5 b9) F7 b5 b9 S0 []:=by refine ⟨JN _ _ _,.nil,λx hx=>(by cases hx),OI _ _ _,OJ _ _ _,⟨Sl.nil,h5,.inl ⟨rfl,rfl⟩,λa ha=>by cases ha⟩,o2,h9,ho2⟩
 refine ⟨_,by rw [aq h7];rfl,_,_,_,hfv.symm,GC,?_⟩;refine (Ai h0 hf t ht _ _ _ he hs).mono ?_;rintro _ G ⟨rfl,hs'⟩;refine ⟨_,rfl,?_⟩;obtain ⟨gle,gcl,_,_,_,⟨s,g5,go,gs⟩,_⟩:=hs';have ev:vis t []=bi t:=rfl;rw [ev] at*;refine st1 g5 (by simp) ?_;rw [show (#[s.v,vi 0].setIfInBounds 1 (vi (num (bi t) t)):Γ)= #[s.v,vi (num (bi t) t)] from rfl];refine ⟨#[s.v,vi (num (bi t) t)],rfl,ac (al _ _ _),?_⟩;have k4:(G.set b5 (Y4 #[s.v,vi (num (bi t) t)] 31)) b4=Y3 (Y4 zD 31):=by rw [az _ _ n45];exact gle _ _ g4
 refine stW k4 rfl rfl (λx hx=> ?_) ?_
 ·simp only [W6,X6,or_false] at hx;rcases hx with rfl|rfl
  ·exact HJ
  ·exact jD
 refine ⟨#[s.v,vi (num (bi t) t)],rfl,ac (al _ _ _),_,rfl,⟨s,rfl,?_⟩,?_⟩
 ·have hsb:∀a,s.YZ=Y3 a->a.block≠b5/\a.block≠b4:=λa ha=>by
   obtain ⟨cur,hcur⟩:=go.elem ha;refine ⟨λe=> ?_,λe=> ?_⟩
   ·rw [e,g5] at hcur;cases hcur
   ·rw [e,gle _ _ g4] at hcur;cases hcur
  exact (go.keep λa ha=>by rw [az _ _ (hsb a ha).2,az _ _ (hsb a ha).1]).rd
 ·exact aw (aw (lF.trans gle) f5) f4
end
def i7 (d:Dia):Prop:=∃t:Tr,t.ok/\d=dia t
open Classical in
def chk (d:Dia):Int:=if 4096<d.1.length then 2 else if i7 d then 0 else 20
def x7 (S:List Tr) (b:Br):Prop:=∃(v:Nat) (l h:Tr),b=⟨(v:Int),(num S l:Int),(num S h:Int)⟩/\inn S l/\inn S h/\(Y1 v l h).ok/\Y1 v l h ∉ S
theorem GF {T:List Tr} (hT:Cl T):∀k,k<T.length->Cl (T.take k)/\∃v l h,T[k]? =Y3 (Y1 v l h)/\inn (T.take k) l/\inn (T.take k) h/\(Y1 v l h).ok/\Y1 v l h ∉ T.take k:=by
 induction hT with
 |nil=>intro k hk;simp at hk
 | @snoc S v l h hS hl hh hok hn ih=>
  intro k hk;by_cases hks:k<S.length
  ·obtain ⟨h1,v',l',h',h2,h3,h4,h5,h6⟩:=ih k hks;rw [Xs (by omega)];exact ⟨h1,v',l',h',by rw [Xh hks];exact h2,h3,h4,h5,h6⟩
  ·have e:k=S.length:=by simp at hk;omega
   subst e;rw [List.take_left' rfl];exact ⟨hS,v,l,h,by simp,hl,hh,hok,hn⟩
theorem x8 {T:List Tr} {k:Nat} {t:Tr} (h:inn (T.take k) t):num T t=num (T.take k) t:=by have:=bR (X:=T.drop k) h;rw [YF] at this;exact this
theorem GG {T:List Tr} (hT:Cl T) (k:Nat):brs (T.take k)=(brs T).take k:=by
 by_cases hk:k<T.length
 ·have h:=sI (X:=T.drop k) (GF hT k hk).1;rw [YF] at h;rw [h,List.take_left' (by rw [aN,Xe];omega)]
 ·rw [Xf (by omega),Xf (by rw [aN];omega)]
theorem wy {S0:List Tr} (h0:Cl S0):∀(t:Tr) (S:List Tr),inn S0 t->(∀x∈S,x∈S0)->∀x∈vis t S,x∈S0
 |Y0 _,_,_,hs=>hs
 |Y1 v l h,S,ht,hs=>by
  obtain ⟨hl,hh⟩:=h0.inn_kids ht;unfold vis;split
  ·exact hs
  ·intro x hx;rcases W9.1 hx with hx|hx
   ·exact wy h0 h _ hh (wy h0 l S hl hs) x hx
   ·rw [W5.1 hx];exact cP ht rfl
theorem JP {S0:List Tr} (h0:Cl S0) {t:Tr} (ht:inn S0 t):(bi t).length<=S0.length:=
 dJ _ _ (bF (h0.inn_ok ht)).nodup (wy h0 t [] ht (λx hx=>by cases hx))
theorem kB {d:Dia} (hv:i7 d) {S:List Tr} (hS:Cl S) {k:Nat} (hk:S.length=k) (hkd:k<d.1.length) (hb:brs S=d.1.take k):x7 S d.1[k]:=by
 obtain ⟨t,ht,rfl⟩:=hv;have hT:=bF ht;have hl:k<(bi t).length:=by simpa [dia,aN] using hkd
 obtain ⟨h1,v,l,h,h2,h3,h4,h5,h6⟩:=GF hT k hl;have e:S=(bi t).take k:=qt hS h1 (by rw [hb,GG hT];rfl);subst e;refine ⟨v,l,h,?_,h3,h4,h5,h6⟩;have hg:=qr h2;have e2:(brs (bi t))[k]? =Y3 (dia t).1[k]:=N5 (by simpa [dia] using hkd);rw [e2] at hg;rw [Xy hg];simp only [br];rw [x8 h3,x8 h4]
theorem cu {S:List Tr} (hS:Cl S) {b:Br} (h:x7 S b):0<=b.v/\b.v<=63/\0<=b.l/\0<=b.h/\b.l<=S.length+1/\b.h<=S.length+1/\b.l≠b.h/\b ∉ brs S/\
  b.v<(tr S b.l.toNat).top/\b.v<(tr S b.h.toNat).top:=by
 obtain ⟨v,l,h,rfl,hl,hh,⟨o1,o2,o3,o4,o5,o6⟩,hn⟩:=h;have h1:=fc hl;have h2:=fc hh;refine ⟨by simp,by simp only;omega,by simp,by simp,by simp only;omega,by simp only;omega,λe=>o4 (cQ hl hh (by simp only at e;omega)),λhm=>hn ((iK hS hl hh).1 hm),?_,?_⟩
 ·simp only [N4,nJ hS hl];omega
 ·simp only [N4,nJ hS hh];omega
theorem Cw {S:List Tr} (hS:Cl S) {b:Br} (h1:0<=b.v) (h2:b.v<=63) (h3:0<=b.l) (h4:0<=b.h) (h5:b.l<=S.length+1) (h6:b.h<=S.length+1) (h7:b.l≠b.h) (h8:b ∉ brs S)
  (h9:b.v<(tr S b.l.toNat).top) (h10:b.v<(tr S b.h.toNat).top):x7 S b:=by
 have il:inn S (tr S b.l.toNat):=gP (by omega);have ih:inn S (tr S b.h.toNat):=gP (by omega);have nl:=gm hS (n:=b.l.toNat) (by omega);have nh:=gm hS (n:=b.h.toNat) (by omega);have e:b=⟨((b.v.toNat:Nat):Int),((num S (tr S b.l.toNat):Nat):Int),((num S (tr S b.h.toNat):Nat):Int)⟩:=by rw [nl,nh];obtain ⟨x,y,z⟩:=b;simp only [Br.mk.injEq];simp only at*;omega
 refine ⟨b.v.toNat,_,_,e,il,ih,⟨by omega,by omega,by omega,λhe=> ?_,hS.inn_ok il,hS.inn_ok ih⟩,λhm=>h8 ?_⟩
 ·rw [he] at nl;omega
 ·rw [e];exact (iK hS il ih).2 hm
def kmS (S:List Tr) (x:Br):Option ξ:=if x∈brs S then Y3 (Za Y8) else Y5
theorem GH {S:List Tr} {b:Br} {S':List Tr} (h:brs S'=brs S++[b]):kmS S'=λx=>if x=b then Y3 (Za Y8) else kmS S x:=by funext x;unfold kmS;rw [h];by_cases hx:x=b<;>by_cases hm:x∈brs S<;>simp [hx,hm]
section
variable {F:PH} {v:Γ} {d:Dia}
theorem rY (hd:DV F v d):ν 100 #[Y9 v] F λr F'=>r=vi (chk d)/\F.le F':=by
 have hd':=hd;obtain ⟨s,rfl,hr⟩:=hd;have hlen:=hr.blen;refine Tj ?_;unfold MS;intro b1 hb1;refine atI ?_;have l1:=ae (Y4 #[s.v,vi d.2] 31) hb1;have h1:=al F b1 (Y4 #[s.v,vi d.2] 31);generalize F.set b1 (Y4 #[s.v,vi d.2] 31)=G at*;refine ⟨s,by rw [aq h1];rfl,λhbig=> ?_,λhbig=> ?_⟩
 ·refine ⟨?_,l1⟩;unfold chk;rw [Χ (by omega)]
 have hsm:d.1.length<=4096:=by omega
 intro b11 hb11;refine atI ?_;refine ⟨s,by rw [aq (ae _ hb11 _ _ h1)];rfl,?_⟩;have fin:∀{F':PH},G.le F'->¬i7 d->(vi 20=vi (chk d)/\F.le F'):=λ{F'} hl hn=>by refine ⟨?_,l1.trans hl⟩;unfold chk;rw [Υ (by omega),Υ hn]
 refine ⟨λm i F'=>∃(k:Nat) (S:List Tr),i=k/\k<=d.1.length/\m=d.1.length - k/\Cl S/\S.length=k/\brs S=d.1.take k/\G.le F'/\∃o,F' b11=Y3 o/\eJ Af (kmS S) o,d.1.length,
  ⟨0,[],rfl,by omega,rfl,.nil,rfl,rfl,ae _ hb11,_,al _ _ _,eJ.empty Af⟩,?_⟩
 rintro m i F1 ⟨k,S,rfl,hk,rfl,hS,hSk,hSb,hle,o,hm,hmo⟩;unfold CD;refine ⟨λhlt=> ?_,λhge=> ?_⟩
 ·have hkd:k<d.1.length:=by omega
  obtain ⟨a,ha,hrow,_⟩:=rdb (hr.le (l1.trans hle)) (N5 hkd);have hbad:¬x7 S d.1[k]->¬i7 d:=λhn hv=>hn (kB hv hS hSk hkd hSb);have hfits:=cu hS (b:=d.1[k]);have hof:=Cw hS (b:=d.1[k]);refine ⟨a,ha,by omega,hlt,aZ d.1[k],rfl,by simpa using hrow,?_⟩;generalize hB:d.1[k]=B at*;intro b5 hb5;refine atI ?_;refine stW (al _ _ _) rfl rfl (mz _) ?_;rw [aT];have l5:=ae (Y4 (aZ B) 124) hb5;have h5:=al F1 b5 (Y4 (aZ B) 124);have hm:=l5 _ _ hm;have hle:=hle.trans l5;generalize F1.set b5 (Y4 (aZ B) 124)=F2 at*;have c0:F2.cell ⟨b5,0,Y5⟩=Y3 (vi B.v):=by rw [aq h5];rfl
  have c1:F2.cell ⟨b5,1,Y5⟩=Y3 (vi B.l):=by rw [aq h5];rfl
  have c2:F2.cell ⟨b5,2,Y5⟩=Y3 (vi B.h):=by rw [aq h5];rfl
  refine ⟨_,c0,λh=>fin hle (hbad λhf=> ?_),λg1=> ?_⟩
  ·have:=(hfits hf).1;omega
  refine ⟨_,c0,λh=>fin hle (hbad λhf=> ?_),λg2=> ?_⟩
  ·have:=(hfits hf).2.1;omega
  refine ⟨_,c1,λh=>fin hle (hbad λhf=> ?_),λg3=> ?_⟩
  ·have:=(hfits hf).2.2.1;omega
  refine ⟨_,c2,λh=>fin hle (hbad λhf=> ?_),λg4=> ?_⟩
  ·have:=(hfits hf).2.2.2.1;omega
  have hw:i64.wrap ((k:Int)+1)=((k+1:Nat):Int):=fz (by omega);rw [hw];refine ⟨_,c1,λh=>fin hle (hbad λhf=> ?_),λg5=> ?_⟩
  ·have:=(hfits hf).2.2.2.2.1;omega
  refine ⟨_,c2,λh=>fin hle (hbad λhf=> ?_),λg6=> ?_⟩
  ·have:=(hfits hf).2.2.2.2.2.1;omega
  refine ⟨_,c1,_,c2,λh=>fin hle (hbad λhf=> ?_),λg7=> ?_⟩
  ·exact (hfits hf).2.2.2.2.2.2.1 h
  have hlk:=bJ (F:=F2) mtK hm hmo B Y6;refine ⟨aZ B,rfl,ac h5,decide (B∈brs S),?_,λh=>fin hle (hbad λhf=> ?_),λg8=> ?_⟩
  ·unfold kmS at hlk;by_cases hx:B∈brs S
   ·rw [Χ hx] at hlk;simpa [hx] using hlk
   ·rw [Υ hx] at hlk;simpa [hx] using hlk
  ·exact (hfits hf).2.2.2.2.2.2.2.1 (by simpa using h)
  have g8':B ∉ brs S:=by simpa using g8
  have hpre:brs S<+:d.1:=by rw [hSb];exact List.take_prefix _ _
  have il:inn S (tr S B.l.toNat):=gP (by omega);have ih:inn S (tr S B.h.toNat):=gP (by omega);have nl:=gm hS (n:=B.l.toNat) (by omega);have nh:=gm hS (n:=B.h.toNat) (by omega);have el:vi B.l=vi (num S (tr S B.l.toNat)):=by rw [nl];congr 1;omega
  have eh:vi B.h=vi (num S (tr S B.h.toNat)):=by rw [nh];congr 1;omega
  refine ⟨_,rfl,ac (hle _ _ h1),_,c1,_,c0,?_⟩;rw [el];refine (eZ (hd'.le (l1.trans hle)) hpre il (by omega)).mono ?_;rintro _ F3 ⟨rfl,l3⟩;refine ⟨_,rfl,aI l3 c0,λh=>fin (hle.trans l3) (hbad λhf=> ?_),λg9=> ?_⟩
  ·have:=(hfits hf).2.2.2.2.2.2.2.2.1;omega
  refine ⟨_,rfl,ac ((hle.trans l3) _ _ h1),_,aI l3 c2,_,aI l3 c0,?_⟩;rw [eh];refine (eZ (hd'.le (l1.trans (hle.trans l3))) hpre ih (by omega)).mono ?_;rintro _ F4 ⟨rfl,l4⟩;refine ⟨_,rfl,aI l4 (aI l3 c0),aI l4 (aI l3 c0),λh=>fin ((hle.trans l3).trans l4) (hbad λhf=> ?_),λg10=> ?_⟩
  ·have:=(hfits hf).2.2.2.2.2.2.2.2.2;omega
  have hF:=hof (by omega) (by omega) (by omega) (by omega) (by omega) (by omega) g7 g8' (by omega) (by omega);refine ⟨aZ B,rfl,ac (l4 _ _ (l3 _ _ h5)),?_⟩;refine aV mtK (l4 _ _ (l3 _ _ hm)) hmo B _ λo' ho'=> ?_;obtain ⟨v,l,h,e,hl,hh,hok,hn⟩:=hF;have e2:brs (S++[Y1 v l h])=brs S++[B]:=by rw [eR hS hl hh,e]
  rw [<- GH e2] at ho';have hg11:G b11=Y5:=hb11;refine ⟨d.1.length - (k+1),by omega,k+1,S++[Y1 v l h],rfl,by omega,rfl,.snoc hS hl hh hok hn,by simp [hSk],?_,aw ((hle.trans l3).trans l4) hg11,o',al _ _ _,ho'⟩;rw [e2,hSb,Xr hkd,hB]
 ·unfold CC;have hk':k=d.1.length:=by omega
  have hSd:brs S=d.1:=by rw [hSb,hk',Xg]
  have cr:F1.cell ⟨b1,1,Y5⟩=Y3 (vi d.2):=by rw [aq (hle _ _ h1)];rfl
  have cs:F1.cell ⟨b1,0,Y5⟩=Y3 s.v:=by rw [aq (hle _ _ h1)];rfl
  have key:∀t,t.ok->d=dia t->S=bi t/\d.2=num S t:=λt ht e=>by subst e;have:=qt hS (bF ht) hSd;exact ⟨this,by rw [this];rfl⟩
  have hrange:i7 d->0<=d.2/\d.2<=(d.1.length:Int)+1:=by
   rintro ⟨t,ht,e⟩;obtain ⟨h1,h2⟩:=key t ht e;have h3:inn S t:=by rw [h1];exact bW ht
   have:=fc h3;omega
  refine ⟨_,cr,λh=>fin hle (λhv=>by have:=(hrange hv).1;omega),λg1=> ?_⟩;have hw:i64.wrap ((s.len:Int)+1)=((d.1.length+1:Nat):Int):=by rw [hlen];exact fz (by omega)
  refine ⟨_,cr,s,cs,?_⟩;dsimp only;rw [hw];refine ⟨λh=>fin hle (λhv=>by have:=(hrange hv).2;omega),λg2=> ?_⟩;refine ⟨s,cs,?_⟩;intro b98 hb98;refine atI ?_;have l98:=ae (Y4 #[s.v,Value.map Y5] 199) hb98;have h98:=al F1 b98 (Y4 #[s.v,Value.map Y5] 199);have hle:=hle.trans l98;generalize F1.set b98 (Y4 #[s.v,Value.map Y5] 199)=F2 at*;refine ⟨_,aI l98 cr,?_⟩;have it:inn S (tr S d.2.toNat):=gP (by omega);have nt:=gm hS (n:=d.2.toNat) (by omega);have et:vi d.2=vi (num S (tr S d.2.toNat)):=by rw [nt];congr 1;omega
  dsimp only;rw [et];refine (mw (by rw [aq h98];rfl) (by rw [hSd];exact hr.le (l1.trans hle)) hS it (by omega)).mono ?_;rintro _ F3 ⟨w,rfl,hw,l3⟩;refine ⟨_,rfl,?_⟩;intro b6 hb6;refine atI ?_;refine stW (al _ _ _) hw.size rfl hw.st ?_;rw [aT];have l6:=ae (Y4 w 31) hb6;have h6:=al F3 b6 (Y4 w 31);have hle:=(hle.trans l3).trans l6;have hw:=hw.le l6;generalize F3.set b6 (Y4 w 31)=F4 at*;refine ⟨w,hw.size,ac h6,_,rfl,ac (hle _ _ h1),?_⟩;have hok:=hS.inn_ok it
  refine (jU hw (hd'.le (l1.trans hle)) (by
   have:=JP hS it;simp only [dia,aN]
   omega)).mono ?_
  rintro _ F5 ⟨rfl,l5⟩;refine ⟨_,rfl,λh=>fin (hle.trans l5) ?_,λh=> ?_⟩
  ·rintro ⟨t,ht,e⟩;obtain ⟨k1,k2⟩:=key t ht e;have:tr S d.2.toNat=t:=by rw [k2,N4];exact nJ hS (by rw [k1];exact bW ht)
   rw [this,<- e] at h;simp at h
  ·refine ⟨?_,l1.trans (hle.trans l5)⟩;have:dia (tr S d.2.toNat)=d:=by simpa using h
   unfold chk;rw [Υ (by omega),Χ ⟨_,hok,this.symm⟩]
end
theorem GI:aC prog 173=Y8:=by kernel_rfl
theorem BD.weaken {F0 F1 F:PH} {b m:Nat} {S:List Tr} (h:BD F1 F b m S) (hl:F0.le F1):BD F0 F b m S:=by obtain ⟨h1,h2,h3,h4,⟨s,h5,h6,h7⟩,h8⟩:=h;exact ⟨hl.trans h1,h2,aS hl h3,aS hl h4,⟨s,h5,h6,λa ha=>aS hl (h7 a ha)⟩,h8⟩
theorem BD.upto {F0 F G:PH} {b m:Nat} {S:List Tr} (h:BD F0 F b m S) (hl:F.le G):BD F0 G b m S:=by obtain ⟨h1,h2,h3,h4,⟨s,h5,h6,h7⟩,o,h8,h9⟩:=h;exact ⟨h1.trans hl,h2,h3,h4,⟨s,hl _ _ h5,h6.upto hl,h7⟩,o,hl _ _ h8,h9⟩
theorem BD.grow {F0 G F:PH} {b m x:Nat} {o:Obj} {S:List Tr} (h:BD F0 G b m S) (hl:G.le F) (hx:G x=Y5) (ho:F x=Y3 o):BD (F0.set x o) F b m S:=by
 obtain ⟨h1,h2,h3,h4,⟨s,h5,h6,h7⟩,o',h8,h9⟩:=h;refine ⟨λy oy hy=> ?_,h2,?_,?_,⟨s,hl _ _ h5,h6.upto hl,λa ha=> ?_⟩,o',hl _ _ h8,h9⟩
 ·by_cases hyx:y=x
  ·subst hyx;rw [al] at hy;rw [ho];exact hy
  ·rw [az _ _ hyx] at hy;exact hl _ _ (h1 _ _ hy)
 ·rw [az _ _ (aG hx h5)];exact h3
 ·rw [az _ _ (aG hx h8)];exact h4
 ·obtain ⟨cur,hcur⟩:=h6.elem ha;rw [az _ _ (aG hx hcur)];exact h7 a ha
theorem BD.other {F0 F:PH} {b m x:Nat} {o:Obj} {S:List Tr} (h:BD F0 F b m S) (h0:F0 x=Y5) (hb:b≠x) (hm:m≠x) (hc:∀c e fr,F x≠Y3 (Y4 c e fr)):BD F0 (F.set x o) b m S:=by obtain ⟨h1,h2,h3,h4,⟨s,h5,h6,h7⟩,o',h8,h9⟩:=h;refine ⟨aw h1 h0,h2,h3,h4,⟨s,by rw [az _ _ hb];exact h5,h6.keep λa ha=>az _ _ (λe=> ?_),h7⟩,o',by rw [az _ _ hm];exact h8,h9⟩;obtain ⟨cur,hcur⟩:=h6.elem ha;rw [e] at hcur;exact hc _ _ _ hcur
structure AP where
 b3:Nat
 b6:Nat
 b2:Nat
 b7:Nat
 b5:Nat
 bb:Nat
 mm:Nat
 b9:Nat
 opv:ξ
 o:Op3
 dd:Nat->Dia
 SS:Nat->List Tr
def AP.key (p:AP) (t:Nat->Tr):Int×Int×Int:=((num (p.SS 0) (t 0):Int),(num (p.SS 1) (t 1):Int),(num (p.SS 2) (t 2):Int))
def AP.res (p:AP) (t:Nat->Tr):Tr:=ap p.o (t 0) (t 1) (t 2)
def AP.inK (p:AP) (t:Nat->Tr):Prop:=inn (p.SS 0) (t 0)/\inn (p.SS 1) (t 1)/\inn (p.SS 2) (t 2)
def AP.caps (p:AP):Γ:= #[Ze (Y3 ⟨p.b3,0,Y5⟩),Ze (Y3 ⟨p.b6,0,Y5⟩),Ze (Y3 ⟨p.b2,0,Y5⟩),Ze (Y3 ⟨p.b7,0,Y5⟩),Ze (Y3 ⟨p.b5,0,Y5⟩)]
def OpV (F0:PH) (v:ξ) (o:Op3):Prop:=∃(k:Nat) (fst cap:Γ),v=.func (.func k) fst cap/\aC prog k=Y8/\
 ∀(x y z:Bool) (F:PH),F0.le F->ai prog k (fst++[Za x,Za y,Za z].toArray++cap) F λr F'=>r=Za (o x y z)/\F.le F'
theorem OpV.le {F0 G:PH} {v:ξ} {o:Op3} (h:OpV F0 v o) (hl:F0.le G):OpV G v o:=by obtain ⟨k,f,c,h1,h2,h3⟩:=h;exact ⟨k,f,c,h1,h2,λx y z F hF=>h3 x y z F (hl.trans hF)⟩
structure AF (p:AP):Prop where
 cl:∀i,i<3->Cl (p.SS i)
 pre:∀i,i<3->brs (p.SS i)<+:(p.dd i).1
 fit:∀i,i<3->Fit ((p.dd i).1.length+2)
structure AE (F0:PH) (p:AP):Prop where
 c3:F0.cell ⟨p.b3,0,Y5⟩=Y3 p.opv
 c6:F0.cell ⟨p.b6,0,Y5⟩=Y3 (.map (Y3 p.b9))
 c2:∀i,i<3->∃w,F0.row ⟨p.b2,i*2,Y5⟩ w/\DV F0 w (p.dd i)
 c7:F0.cell ⟨p.b7,0,Y5⟩=Y3 (.func (.func 173) #[] p.caps)
 c5:F0.cell ⟨p.b5,0,Y5⟩=Y3 (Ze (Y3 ⟨p.bb,0,Y5⟩))
 op:OpV F0 p.opv p.o
theorem aU {F G:PH} (h:F.le G) {a:Addr} {cs:Γ} (hr:F.row a cs):G.row a cs:=λi hi=>aI h (hr i hi)
theorem AE.le {F0 G:PH} {p:AP} (h:AE F0 p) (hl:F0.le G):AE G p:=
 ⟨aI hl h.c3,aI hl h.c6,λi hi=>by
  obtain ⟨w,h1,h2⟩:=h.c2 i hi
  exact ⟨w,aU hl h1,h2.le hl⟩,aI hl h.c7,aI hl h.c5,h.op.le hl⟩
def OK (p:AP) (S:List Tr) (m3:Int×Int×Int->Option ξ):Prop:=∀k v,m3 k=Y3 v->∃t,p.inK t/\k=p.key t/\inn S (p.res t)/\v=vi (num S (p.res t))
structure AS (F0 F:PH) (p:AP) (S:List Tr):Prop where
 bd:BD F0 F p.bb p.mm S
 n9:F0 p.b9=Y5
 ne:p.mm≠p.b9
 memo:∃o m3,F p.b9=Y3 o/\eJ JL m3 o/\OK p S m3
theorem AS.upto {F0 F G:PH} {p:AP} {S:List Tr} (h:AS F0 F p S) (hl:F.le G):AS F0 G p S:=by obtain ⟨h1,h2,h3,o,m3,h4,h5⟩:=h;exact ⟨h1.upto hl,h2,h3,o,m3,hl _ _ h4,h5⟩
theorem AS.weaken {F0 F1 F:PH} {p:AP} {S:List Tr} (h:AS F1 F p S) (hl:F0.le F1):AS F0 F p S:=by obtain ⟨h1,h2,h3,h4⟩:=h;exact ⟨h1.weaken hl,aS hl h2,h3,h4⟩
theorem AS.grow {F0 G F:PH} {p:AP} {S:List Tr} {x:Nat} {o:Obj} (h:AS F0 G p S) (hl:G.le F) (hx:G x=Y5) (ho:F x=Y3 o):AS (F0.set x o) F p S:=by obtain ⟨h1,h2,h3,o',m3,h4,h5⟩:=h;exact ⟨h1.grow hl hx ho,by rw [az _ _ (aG hx h4)];exact h2,h3,o',m3,hl _ _ h4,h5⟩
theorem pO {p:AP} {t u:Nat->Tr} (ht:p.inK t) (hu:p.inK u) (h:p.key t=p.key u):p.res t=p.res u:=by unfold AP.key at h;simp only [YU] at h;obtain ⟨h1,h2,h3⟩:=h;unfold AP.res;rw [cQ ht.1 hu.1 (by omega),cQ ht.2.1 hu.2.1 (by omega),cQ ht.2.2 hu.2.2 (by omega)]
theorem x9 (t:Tr) (S:List Tr):S.length<=(vis t S).length:=by
 induction t generalizing S with
 |Y0 b=>exact W8 _
 |Y1 v l h ihl ihh=>
  unfold vis;split
  ·exact W8 _
  ·have h1:=ihl S;have h2:=ihh (vis l S);simp only [Xa];omega
theorem Cx (S:List Tr) (t:Tr):S.length<=(fu S t).length:=by unfold fu;split<;>simp
def szs (t:Nat->Tr):Nat:=(t 0).sz+(t 1).sz+(t 2).sz
def GJ (p:AP) (t:Nat->Tr):Prop:=∀(F0 F:PH) (S:List Tr),AE F0 p->AS F0 F p S->Fit ((vis (p.res t) S).length+4)->
 ai prog 173 (#[Y9 (dU (p.key t))]++p.caps) F λr F'=>r=vi (num (vis (p.res t) S) (p.res t))/\AS F0 F' p (vis (p.res t) S)
structure Wn (p:AP) (t:Nat->Tr) (v:Nat):Prop where
 hv:v=aX (t 0) (t 1) (t 2)
 lt:v<64
 il:p.inK (λi=>lo v (t i))
 ih:p.inK (λi=>hi v (t i))
 sl:szs (λi=>lo v (t i))<szs t
 sh:szs (λi=>hi v (t i))<szs t
 tl:v<(p.res (λi=>lo v (t i))).top
 th:v<(p.res (λi=>hi v (t i))).top
 ol:(p.res (λi=>lo v (t i))).ok
 oh:(p.res (λi=>hi v (t i))).ok
 res:p.res t=mk v (p.res (λi=>lo v (t i))) (p.res (λi=>hi v (t i)))
theorem SZ {p:AP} (hf:AF p) {t:Nat->Tr} (ht:p.inK t) (hv:aX (t 0) (t 1) (t 2)<64):Wn p t (aX (t 0) (t 1) (t 2)):=by
 have h0:=(hf.cl 0 (by omega)).inn_ok ht.1;have h1:=(hf.cl 1 (by omega)).inn_ok ht.2.1;have h2:=(hf.cl 2 (by omega)).inn_ok ht.2.2;have hs:=wQ (o:=p.o) h0 h1 h2 hv;have v1:aX (t 0) (t 1) (t 2)<=(t 0).top:=by unfold aX;omega
 have v2:aX (t 0) (t 1) (t 2)<=(t 1).top:=by unfold aX;omega
 have v3:aX (t 0) (t 1) (t 2)<=(t 2).top:=by unfold aX;omega
 have hcase:aX (t 0) (t 1) (t 2)=(t 0).top\/aX (t 0) (t 1) (t 2)=(t 1).top\/aX (t 0) (t 1) (t 2)=(t 2).top:=by unfold aX;omega
 generalize hw:aX (t 0) (t 1) (t 2)=v at*;have nl:∀{t:Tr},v=t.top->t.isL=Y6:=λ{t} e=>by
  cases t with
  |Y0 b=>simp only [top] at e;omega
  |Y1 _ _ _=>rfl
 obtain ⟨al1,al2,al3,al4,al5⟩:=cy h0 v1;obtain ⟨bl1,bl2,bl3,bl4,bl5⟩:=cy h1 v2;obtain ⟨dl1,dl2,dl3,dl4,dl5⟩:=cy h2 v3;obtain ⟨ah1,ah2,ah3,ah4,ah5⟩:=cz h0 v1;obtain ⟨bh1,bh2,bh3,bh4,bh5⟩:=cz h1 v2;obtain ⟨dh1,dh2,dh3,dh4,dh5⟩:=cz h2 v3;obtain ⟨l1,l2,l3⟩:=fC (o:=p.o) al1 bl1 dl1;obtain ⟨g1,g2,g3⟩:=fC (o:=p.o) ah1 bh1 dh1
 refine ⟨hw.symm,hv,⟨(hf.cl 0 (by omega)).inn_lo ht.1 v,(hf.cl 1 (by omega)).inn_lo ht.2.1 v,(hf.cl 2 (by omega)).inn_lo ht.2.2 v⟩,
  ⟨(hf.cl 0 (by omega)).inn_hi ht.1 v,(hf.cl 1 (by omega)).inn_hi ht.2.1 v,(hf.cl 2 (by omega)).inn_hi ht.2.2 v⟩,?_,?_,?_,?_,l1,g1,hs⟩
 ·simp only [szs];rcases hcase with e|e|e
  ·have:=al4 e.symm (nl e);omega
  ·have:=bl4 e.symm (nl e);omega
  ·have:=dl4 e.symm (nl e);omega
 ·simp only [szs];rcases hcase with e|e|e
  ·have:=ah4 e.symm (nl e);omega
  ·have:=bh4 e.symm (nl e);omega
  ·have:=dh4 e.symm (nl e);omega
 ·have:=al2 hv;have:=bl2 hv;have:=dl2 hv;unfold aX at l2;show v<(ap p.o (lo v (t 0)) (lo v (t 1)) (lo v (t 2))).top;omega
 ·have:=ah2 hv;have:=bh2 hv;have:=dh2 hv;unfold aX at g2;show v<(ap p.o (hi v (t 0)) (hi v (t 1)) (hi v (t 2))).top;omega
theorem dV {S:List Tr} {t:Tr}:((num S t:Int)<2)↔t.isL=Y8:=by
 constructor
 ·intro h;exact qp (S:=S) (by omega)
 ·intro h;cases t with
  |Y0 b=>have:=dF S b;omega
  |Y1 _ _ _=>cases h
section
variable {p:AP} {t:Nat->Tr} {F0 F:PH} {S:List Tr} {n6:Nat}
theorem JQ (he:AE F0 p) (hs:AS F0 F p S) (h6:F0 n6=Y3 (Y4 (dU (p.key t)) 215)) (h0:(t 0).isL=Y8) (h1:(t 1).isL=Y8) (h2:(t 2).isL=Y8) {R:ξ->Ψ}
  (hR:∀F',F.le F'->R (vi (num S (p.res t))) F'):
  gA (Y3 ⟨p.b3,0,Y5⟩) (Y3 ⟨p.b6,0,Y5⟩) (Y3 ⟨p.b2,0,Y5⟩) (Y3 ⟨p.b7,0,Y5⟩) (Y3 ⟨p.b5,0,Y5⟩) n6 Y8 R F:=by
 unfold gA;obtain ⟨k,fst,cap,hop,hcb,hsp⟩:=he.op;have hle:=hs.bd.le;have h6':=hle _ _ h6;refine ⟨λ_=> ?_,λhc=>by cases hc⟩;refine ⟨_,rfl,_,aI hle he.c3,by omega,by omega,_,by simp only [aE];rw [aq h6'];rfl,by omega,by omega,_,by simp only [aE];rw [aq h6'];rfl,by omega,by omega,_,by simp only [aE];rw [aq h6'];rfl,k,fst,cap,hop,hcb,?_⟩;generalize ht0:t 0=x0 at*;generalize ht1:t 1=x1 at*;generalize ht2:t 2=x2 at*;cases x0 with
 |Y1 _ _ _=>cases h0
 |Y0 a=>
  cases x1 with
  |Y1 _ _ _=>cases h1
  |Y0 b=>
   cases x2 with
   |Y1 _ _ _=>cases h2
   |Y0 c=>
    have e:∀(S:List Tr) (x:Bool),decide ((num S (Y0 x):Int)=1)=x:=λS x=>by cases x<;>simp [num]
    simp only [AP.key,ht0,ht1,ht2,e];refine (hsp a b c F hle).mono ?_;rintro _ F' ⟨rfl,hle'⟩;have hres:p.res t=Y0 (p.o a b c):=by unfold AP.res;rw [ht0,ht1,ht2];exact mK _ _ _ _
    have hR':=hR F' hle';rw [hres] at hR';refine ⟨_,rfl,λh=> ?_,λh=> ?_⟩
    ·rw [h] at hR';exact hR'
    ·rw [h] at hR';exact hR'
theorem JR (hf:AF p) (ht:p.inK t) (ih:∀u,p.inK u->szs u<szs t->GJ p u) (he:AE F0 p) (hs:AS F0 F p S) (h6:F0 n6=Y3 (Y4 (dU (p.key t)) 215))
  (hfit:Fit ((vis (p.res t) S).length+4)) (hn:¬((t 0).isL=Y8/\(t 1).isL=Y8/\(t 2).isL=Y8)) {R:ξ->Ψ}
  (hR:∀F',AS F0 F' p (vis (p.res t) S)->R (vi (num (vis (p.res t) S) (p.res t))) F'):
  gA (Y3 ⟨p.b3,0,Y5⟩) (Y3 ⟨p.b6,0,Y5⟩) (Y3 ⟨p.b2,0,Y5⟩) (Y3 ⟨p.b7,0,Y5⟩) (Y3 ⟨p.b5,0,Y5⟩) n6 Y6 R F:=by
 have hv:aX (t 0) (t 1) (t 2)<64:=by
  have k0:=λhl=>sG ((hf.cl 0 (by omega)).inn_ok ht.1) hl;have k1:=λhl=>sG ((hf.cl 1 (by omega)).inn_ok ht.2.1) hl;have k2:=λhl=>sG ((hf.cl 2 (by omega)).inn_ok ht.2.2) hl;unfold aX;cases e0:(t 0).isL with
  |false=>have:=k0 e0;omega
  |true=>
   cases e1:(t 1).isL with
   |false=>have:=k1 e1;omega
   |true=>
    cases e2:(t 2).isL with
    |false=>have:=k2 e2;omega
    |true=>exact absurd ⟨e0,e1,e2⟩ hn
 have D:=SZ hf ht hv;unfold gA;have hle:=hs.bd.le;have h6':=hle _ _ h6;obtain ⟨om,m3,hm,hmo,hok⟩:=hs.memo;refine ⟨λhc=>(by cases hc),λ_=> ?_⟩;have hlk:=bJ (F:=F) mt3 hm hmo (p.key t) Y8;refine ⟨_,rfl,_,aI hle he.c6,dU (p.key t),rfl,ac h6',?_⟩;cases hmk:m3 (p.key t) with
 |some v=>rw [hmk] at hlk;obtain ⟨u,hu,hk,hi,rfl⟩:=hok _ _ hmk;have e:=pO ht hu hk;rw [<- e] at hi hlk;have hvi:=gF hi;refine ⟨_,_,hlk,λ_=> ?_,λhc=>by cases hc⟩;have:=hR F (by rw [hvi];exact hs);rw [hvi] at this;exact this
 |none=>
  rw [hmk] at hlk;refine ⟨_,_,hlk,λhc=>(by cases hc),λ_=> ?_⟩;obtain ⟨w0,r0,d0⟩:=he.c2 0 (by omega);obtain ⟨w1,r1,d1⟩:=he.c2 1 (by omega);obtain ⟨w2,r2,d2⟩:=he.c2 2 (by omega);have c6:∀{G:PH},F.le G->G.cell ⟨n6,0,Y5⟩=Y3 (vi (num (p.SS 0) (t 0)))/\G.cell ⟨n6,1,Y5⟩=Y3 (vi (num (p.SS 1) (t 1)))/\G.cell ⟨n6,2,Y5⟩=Y3 (vi (num (p.SS 2) (t 2))):=λ{G} hl=>by rw [aq (hl _ _ h6'),aq (hl _ _ h6'),aq (hl _ _ h6')];exact ⟨rfl,rfl,rfl⟩
  have rr:∀{G:PH},F.le G->G.row (Zb ⟨p.b2,0,Y5⟩ (Zd 0*2)) w0/\G.row (Zb ⟨p.b2,0,Y5⟩ (Zd 1*2)) w1/\G.row (Zb ⟨p.b2,0,Y5⟩ (Zd 2*2)) w2:=λ{G} hl=>by simp only [aE];exact ⟨aU (hle.trans hl) r0,aU (hle.trans hl) r1,aU (hle.trans hl) r2⟩
  have cc:∀{G:PH},F.le G->G.cell (Zb ⟨n6,0,Y5⟩ (Zd 0*1))=Y3 (vi (num (p.SS 0) (t 0)))/\G.cell (Zb ⟨n6,0,Y5⟩ (Zd 1*1))=Y3 (vi (num (p.SS 1) (t 1)))/\G.cell (Zb ⟨n6,0,Y5⟩ (Zd 2*1))=Y3 (vi (num (p.SS 2) (t 2))):=λ{G} hl=>by simp only [aE];exact c6 hl
  have hFF:F.le F:=PH.le_rfl;refine ⟨_,rfl,by omega,by omega,w0,d0.size,(rr hFF).1,by omega,by omega,_,(cc hFF).1,by omega,by omega,w1,d1.size,(rr hFF).2.1,by omega,by omega,_,(cc hFF).2.1,by omega,by omega,w2,d2.size,(rr hFF).2.2,by omega,by omega,_,(cc hFF).2.2,?_⟩;refine (eZ (d0.le hle) (hf.pre 0 (by omega)) ht.1 (hf.fit 0 (by omega))).mono ?_;rintro _ G1 ⟨rfl,l1⟩;refine ⟨_,rfl,(cc l1).2.2,(rr l1).2.2,(cc l1).2.1,(rr l1).2.1,?_⟩;refine (eZ (d1.le (hle.trans l1)) (hf.pre 1 (by omega)) ht.2.1 (hf.fit 1 (by omega))).mono ?_;rintro _ G2 ⟨rfl,l2⟩;have l2:=l1.trans l2;refine ⟨_,rfl,(cc l2).2.2,(rr l2).2.2,?_⟩;refine (eZ (d2.le (hle.trans l2)) (hf.pre 2 (by omega)) ht.2.2 (hf.fit 2 (by omega))).mono ?_;rintro _ G ⟨rfl,l3⟩;have l3:=l2.trans l3;refine ⟨_,rfl,?_⟩;have hmin:(min (min ((t 0).top:Int) ((t 1).top:Int)) ((t 2).top:Int))=((aX (t 0) (t 1) (t 2):Nat):Int):=by unfold aX;omega
  generalize aX (t 0) (t 1) (t 2)=v at*;intro b11 hb11;refine atI ?_;intro b12 hb12;refine atI ?_;have n12:b11≠b12:=aG hb12 (al _ _ _);have g12:G b12=Y5:=by rw [az _ _ n12.symm] at hb12;exact hb12
  let A (k:Nat) (f:Nat->Nat):Γ:= #[if 0<k then vi (f 0) else vi 0,if 1<k then vi (f 1) else vi 0,if 2<k then vi (f 2) else vi 0]
  let fl:Nat->Nat:=λi=>num (p.SS i) (lo v (t i))
  let fh:Nat->Nat:=λi=>num (p.SS i) (hi v (t i))
  have hA:∀k f,k<3->(A k f).setIfInBounds k (vi (f k))=A (k+1) f:=by
   intro k f hk
   match k,hk with
   |0,_=>simp [A]
   |1,_=>simp [A]
   |2,_=>simp [A]
  refine ⟨λm i F'=>∃k:Nat,i=k/\k<=3/\m=3 - k/\G.le F'/\F' b11=Y3 (Y4 (A k fl) 215)/\F' b12=Y3 (Y4 (A k fh) 215),3,
   ⟨0,rfl,by omega,rfl,(ae _ hb11).trans (ae _ hb12),by rw [az _ _ n12,al];rfl,by rw [al];rfl⟩,?_⟩
  rintro m i F1 ⟨k,rfl,hk,rfl,hG,h11,h12⟩;unfold CF;rw [hmin];refine ⟨λhlt=> ?_,λhge=> ?_⟩
  ·have hk3:k<3:=by omega
   obtain ⟨w,rw',dw⟩:=he.c2 k hk3;have hFG:F.le F1:=l3.trans hG;have hin:inn (p.SS k) (t k):=by
    match k,hk3 with
    |0,_=>exact ht.1
    |1,_=>exact ht.2.1
    |2,_=>exact ht.2.2
   have hc:F1.cell (Zb ⟨n6,0,Y5⟩ (Zd (k:Int)*1))=Y3 (vi (num (p.SS k) (t k))):=by
    match k,hk3 with
    |0,_=>exact (cc hFG).1
    |1,_=>exact (cc hFG).2.1
    |2,_=>exact (cc hFG).2.2
   refine ⟨by omega,by omega,w,dw.size,by simpa using aU (hle.trans hFG) rw',by omega,by omega,_,hc,?_⟩;refine (At (dw.le (hle.trans hFG)) (hf.pre k hk3) hin (hf.fit k hk3) D.lt).mono ?_;rintro _ F2 ⟨rfl,l4⟩;refine ⟨_,_,rfl,by omega,by omega,?_⟩;refine sE (b:=b11) (o:=k) (by simp) (l4 _ _ h11) (by simp [A];omega) ?_;rw [hA k fl hk3];refine ⟨by omega,by omega,?_⟩;refine sE (b:=b12) (o:=k) (by simp) (by rw [az _ _ n12.symm];exact l4 _ _ h12) (by simp [A];omega) ?_;rw [hA k fh hk3];refine ⟨3 - (k+1),by omega,k+1,fz (by omega),by omega,rfl,aw (aw (hG.trans l4) hb11) g12,?_,al _ _ _⟩;rw [az _ _ n12,al]
  ·obtain rfl:k=3:=by omega
   have e11:A 3 fl=dU (p.key λi=>lo v (t i)):=rfl;have e12:A 3 fh=dU (p.key λi=>hi v (t i)):=rfl;rw [e11] at h11;rw [e12] at h12;clear hA hge hk
   clear_value A fl fh
   unfold CE;rw [hmin];have hs1:=(hs.upto l3).grow (F:=G.set b11 (Y4 (dU (p.key λi=>lo v (t i))) 215)) (ae _ hb11) hb11 (al _ _ _);have lx:(G.set b11 (Y4 (dU (p.key λi=>lo v (t i))) 215)).le F1:=λx ob hx=>by
    by_cases hxb:x=b11
    ·subst hxb;rw [al] at hx;rw [h11];exact hx
    ·rw [az _ _ hxb] at hx;exact hG _ _ hx
   have hs2:=hs1.grow lx (by rw [az _ _ n12.symm];exact g12) h12;have f11:F0 b11=Y5:=aS (hle.trans l3) hb11;have f12:F0 b12=Y5:=aS (hle.trans l3) g12;have l0:F0.le ((F0.set b11 (Y4 (dU (p.key λi=>lo v (t i))) 215)).set b12 (Y4 (dU (p.key λi=>hi v (t i))) 215)):=aw (aw PH.le_rfl f11) f12;have q11:((F0.set b11 (Y4 (dU (p.key λi=>lo v (t i))) 215)).set b12 (Y4 (dU (p.key λi=>hi v (t i))) 215)) b11=Y3 (Y4 (dU (p.key λi=>lo v (t i))) 215):=by rw [az _ _ n12,al]
   have q12:((F0.set b11 (Y4 (dU (p.key λi=>lo v (t i))) 215)).set b12 (Y4 (dU (p.key λi=>hi v (t i))) 215)) b12=Y3 (Y4 (dU (p.key λi=>hi v (t i))) 215):=al _ _ _;generalize ((F0.set b11 (Y4 (dU (p.key λi=>lo v (t i))) 215)).set b12 (Y4 (dU (p.key λi=>hi v (t i))) 215))=E0 at*;have he0:=he.le l0;have hcl:=hs.bd.cl;obtain ⟨a1,a2,X,a3,a4⟩:=bA (p.res λi=>lo v (t i)) S D.ol hcl;obtain ⟨c1,c2,Y,c3,c4⟩:=bA (p.res λi=>hi v (t i)) (vis (p.res λi=>lo v (t i)) S) D.oh a1;have hadd:=rX hcl (v:=v) (l:=p.res λi=>lo v (t i)) (h:=p.res λi=>hi v (t i)) ⟨D.lt,D.tl,D.th,D.ol,D.oh⟩;rw [<- D.res] at hadd;have g1:=x9 (p.res λi=>hi v (t i)) (vis (p.res λi=>lo v (t i)) S);have g2:=Cx (vis (p.res λi=>hi v (t i)) (vis (p.res λi=>lo v (t i)) S)) (p.res t);rw [hadd] at g2;refine ⟨_,rfl,_,aI hs2.bd.le he0.c7,dU (p.key λi=>lo v (t i)),rfl,ac (hs2.bd.le _ _ q11),_,_,_,rfl,GI,?_⟩;refine (ih _ D.il D.sl E0 F1 S he0 hs2 (by omega)).mono ?_;rintro _ F2 ⟨rfl,hs3⟩;refine ⟨_,rfl,_,rfl,_,aI hs3.bd.le he0.c5,_,aI hs3.bd.le he0.c7,dU (p.key λi=>hi v (t i)),rfl,ac (hs3.bd.le _ _ q12),_,_,_,rfl,GI,?_⟩;refine (ih _ D.ih D.sh E0 F2 _ he0 hs3 (by omega)).mono ?_;rintro _ F3 ⟨rfl,hs4⟩;refine ⟨_,rfl,aI hs4.bd.le he0.c5,?_⟩;obtain ⟨bd4,n94,ne4,o9,m9,hm9,hmo9,hok9⟩:=hs4;have hnl:num (vis (p.res λi=>lo v (t i)) S) (p.res λi=>lo v (t i))=num (vis (p.res λi=>hi v (t i)) (vis (p.res λi=>lo v (t i)) S)) (p.res λi=>lo v (t i)):=by rw [c3,bR a2]
   rw [hnl];have hil:inn (vis (p.res λi=>hi v (t i)) (vis (p.res λi=>lo v (t i)) S)) (p.res λi=>lo v (t i)):=by rw [c3];exact cd a2
   have hnb:p.bb≠p.b9:=λe=>by obtain ⟨_,_,_,_,⟨s,h5,_⟩,_⟩:=bd4;obtain ⟨es,c,L,rfl,_⟩:=hmo9;rw [e,hm9] at h5;cases h5
   have bd4':BD (E0.set p.b9 o9) F3 p.bb p.mm (vis (p.res λi=>hi v (t i)) (vis (p.res λi=>lo v (t i)) S)):=by
    obtain ⟨k1,k2,k3,k4,⟨s,k5,k6,k7⟩,k8⟩:=bd4;refine ⟨λx ob hx=> ?_,k2,by rw [az _ _ hnb];exact k3,by rw [az _ _ ne4];exact k4,⟨s,k5,k6,λa ha=> ?_⟩,k8⟩
    ·by_cases hxb:x=p.b9
     ·subst hxb;rw [al] at hx;rw [hm9];exact hx
     ·rw [az _ _ hxb] at hx;exact k1 _ _ hx
    ·rw [az _ _ (λe=> ?_)]
     ·exact k7 a ha
     ·obtain ⟨cur,hcur⟩:=k6.elem ha;obtain ⟨es,c,L,rfl,_⟩:=hmo9;rw [e,hm9] at hcur;cases hcur
   refine (x6 bd4' hil c2 ⟨D.lt,D.tl,D.th⟩ (by omega)).mono ?_;rintro _ F4 ⟨rfl,bd5⟩;rw [<- D.res,hadd] at bd5 ⊢;have hm5:F4 p.b9=Y3 o9:=bd5.le _ _ (al _ _ _);have h65:F4 n6=Y3 (Y4 (dU (p.key t)) 215):=by
    have hne6:n6≠p.b9:=λe=>by rw [e,hs.n9] at h6;cases h6
    exact bd5.le _ _ (by rw [az _ _ hne6];exact l0 _ _ h6)
   have bd6:BD E0 F4 p.bb p.mm (vis (p.res t) S):=bd5.weaken (aw PH.le_rfl n94);refine ⟨_,rfl,_,aI bd6.le he0.c6,dU (p.key t),rfl,ac h65,?_⟩;refine aV mt3 hm5 hmo9 (p.key t) _ λo' ho'=> ?_;refine hR _ ?_;refine AS.weaken ?_ l0;have hinT:inn (vis (p.res t) S) (p.res t):=by
    have hokT:(p.res t).ok:=by rw [D.res];exact Db D.lt D.tl D.th D.ol D.oh
    exact (bA _ S hokT hcl).2.1
   refine ⟨bd6.other n94 hnb ne4 (λc e fr h=> ?_),n94,ne4,o',_,al _ _ _,ho',?_⟩
   ·obtain ⟨es,c,L,rfl,_⟩:=hmo9;rw [hm5] at h;cases h
   ·intro k w hkw;dsimp only at hkw;by_cases hk:k=p.key t
    ·rw [Χ hk] at hkw;exact ⟨t,ht,hk,hinT,(Xy hkw).symm⟩
    ·rw [Υ hk] at hkw;obtain ⟨u,u1,u2,u3,u4⟩:=hok9 k w hkw;refine ⟨u,u1,u2,?_,?_⟩
     ·rw [<- hadd];unfold fu;split
      ·exact u3
      ·exact cd u3
     ·rw [u4,<- hadd];unfold fu;split
      ·rfl
      ·rw [bR u3]
theorem JS (hf:AF p):∀(n:Nat) (t:Nat->Tr),szs t<=n->p.inK t->GJ p t:=by
 intro n;induction n with
 |zero=>intro t hn;have:=kU (t 0);unfold szs at hn;omega
 |succ n ih=>
  intro t hn ht F0 F S he hs hfit;show ν 173 #[Y9 (dU (p.key t)),_,_,_,_,_] F _;refine Tu ?_;unfold M0;intro n6 hn6;refine atI ?_;have hle:=hs.bd.le;have f6:F0 n6=Y5:=aS hle hn6;have hs1:=hs.grow (F:=F.set n6 (Y4 (dU (p.key t)) 215)) (ae _ hn6) hn6 (al _ _ _);have l0:F0.le (F0.set n6 (Y4 (dU (p.key t)) 215)):=ae _ f6;have he1:=he.le l0;have h6:=al F0 n6 (Y4 (dU (p.key t)) 215);generalize F0.set n6 (Y4 (dU (p.key t)) 215)=E0 at*;generalize F.set n6 (Y4 (dU (p.key t)) 215)=F1 at*;have h6':=hs1.bd.le _ _ h6;have rest:¬((t 0).isL=Y8/\(t 1).isL=Y8/\(t 2).isL=Y8)->gA (Y3 ⟨p.b3,0,Y5⟩) (Y3 ⟨p.b6,0,Y5⟩) (Y3 ⟨p.b2,0,Y5⟩) (Y3 ⟨p.b7,0,Y5⟩) (Y3 ⟨p.b5,0,Y5⟩) n6 Y6
    (λr F'=>r=vi (num (vis (p.res t) S) (p.res t))/\AS F0 F' p (vis (p.res t) S)) F1:=λhn'=>
   JR hf ht (λu hu hlt=>ih u (by omega) hu) he1 hs1 h6 hfit hn' λF' h=>⟨rfl,h.weaken l0⟩
  refine ⟨by omega,by omega,_,by simp only [aE];rw [aq h6'];rfl,λh0=> ?_,λh0=> ?_⟩
  ·refine ⟨by omega,by omega,_,by simp only [aE];rw [aq h6'];rfl,λh1=> ?_,λh1=> ?_⟩
   ·refine ⟨by omega,by omega,_,by simp only [aE];rw [aq h6'];rfl,?_⟩;have k0:=dV.1 h0;have k1:=dV.1 h1;by_cases h2:(t 2).isL=Y8
    ·have e:decide ((p.key t).2.2<2)=Y8:=decide_eq_true (dV.2 h2);dsimp only;rw [e];have hl:(p.res t).isL=Y8:=by
      unfold AP.res;generalize t 0=x0 at*;generalize t 1=x1 at*;generalize t 2=x2 at*;cases x0 with
      |Y1 _ _ _=>cases k0
      |Y0 a=>
       cases x1 with
       |Y1 _ _ _=>cases k1
       |Y0 b=>
        cases x2 with
        |Y1 _ _ _=>cases h2
        |Y0 c=>rw [mK];rfl
     have hvi:vis (p.res t) S=S:=gF (.inl hl);rw [hvi];exact JQ he1 hs1 h6 k0 k1 h2 λF' h=>⟨rfl,(hs1.upto h).weaken l0⟩
    ·have e:decide ((p.key t).2.2<2)=Y6:=decide_eq_false (λh=>h2 (dV.1 h));dsimp only;rw [e];exact rest λhc=>h2 hc.2.2
   ·exact rest λhc=>h1 (dV.2 hc.2.1)
  ·exact rest λhc=>h0 (dV.2 hc.1)
end
