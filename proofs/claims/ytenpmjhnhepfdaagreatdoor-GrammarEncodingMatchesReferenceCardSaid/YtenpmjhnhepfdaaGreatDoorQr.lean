/-
  Variables beside a heap that calls work on; the links of a machine.
-/
import Derived.Test.YtenpmjhnhepfdaaGreatDoorGpattern
import Derived.Test.YtenpmjhnhepfdaaGreatDoorGkoineref04
namespace Go.Proofs.YtenpmjhnhepfdaaGreatDoor
open Go Go.Proofs.Tryz
set_option maxRecDepth 10000
section
variable {F:PH}
theorem rdn {s:Sl} {l:List Nd} (h:RdS F s 5 (cX l)) {i:Nat} {x:Nd} (hx:l[i]? =some x):∃a,s.base=some a/\F.row (a.add (i*5)) x.arr:=by
 obtain ⟨hi,hx⟩:=N6.1 hx;subst hx;have hlen:=h.nlen;obtain ⟨b,o,hb,_⟩:=h.cells (by omega)
 exact ⟨_,hb,h.row hb (i*5) l[i].arr (by
  have:=tV l i hi
  simpa [Nd.arr,Nd.cells] using this.symm)⟩
def lM (k:Int):Int:=if k=4 then 1 else if k=2\/k=3 then 2 else 0
def eR (k:Int):Bool:=decide (0<=k/\k<=4)
theorem kg (F:PH) (k:Int):ae prog 237 #[vi k] F λr F'=>r=.tuple #[vi (lM k),.bool (eR k)]/\F'=F:=by
 refine Td ?_;unfold MU;have j1:∀t:Bool,t=decide (k=0\/k=1)->pj k t (λr F'=>r=.tuple #[vi (lM k),.bool (eR k)]/\F'=F) F:=λt ht=>by
  unfold pj;refine ⟨λh=>⟨?_,rfl⟩,λh=> ?_⟩
  ·have:=of_decide_eq_true (ht.symm.trans h);have e1:lM k=0:=by unfold lM;rw [if_neg (by omega),if_neg (by omega)]
   have e2:eR k=true:=by unfold eR;simp;omega
   rw [e1,e2]
  ·have h01:=of_decide_eq_false (ht.symm.trans h);refine ⟨λh4=>⟨?_,rfl⟩,λh4=>⟨λh2=>⟨λ_=>⟨?_,rfl⟩,λh=>absurd h2 h⟩,λh2=>⟨λh3=>⟨?_,rfl⟩,λh3=>⟨?_,rfl⟩⟩⟩⟩
   ·have e1:lM k=1:=by unfold lM;rw [if_pos (by omega)]
    have e2:eR k=true:=by unfold eR;simp;omega
    rw [e1,e2]
   ·have e1:lM k=2:=by unfold lM;rw [if_neg (by omega),if_pos (by omega)]
    have e2:eR k=true:=by unfold eR;simp;omega
    rw [e1,e2]
   ·have e1:lM k=2:=by unfold lM;rw [if_neg (by omega),if_pos (by omega)]
    have e2:eR k=true:=by unfold eR;simp;omega
    rw [e1,e2]
   ·have e1:lM k=0:=by unfold lM;rw [if_neg (by omega),if_neg (by omega)]
    have e2:eR k=false:=by unfold eR;simp;omega
    rw [e1,e2]
 refine ⟨λh=>j1 _ ?_,λh=>j1 _ ?_⟩
 ·rw [XE];simp;omega
 ·rw [XE];simp;omega
end
def ar (k:Int):Int:=if k=4 then 1 else if k=2\/k=3 then 2 else if k=0\/k=1 then 0 else -1
def okN (i:Nat) (x:Nd):Prop:=0<=ar x.k/\(x.k=1->0<=x.lo/\x.lo<=x.hi/\x.hi<=255)/\(x.k≠1->x.lo=0/\x.hi=0)/\(ar x.k<1->x.a=0)/\(ar x.k<2->x.b=0)/\
 (1<=ar x.k->0<=x.a/\x.a<i)/\(2<=ar x.k->0<=x.b/\x.b<i)
def us (x:Nd):Φ:=if 2<=ar x.k then [x.b,x.a] else if 1<=ar x.k then [x.a] else []
def usL:List Nd->Φ
 |[]=>[]
 |x::l=>usL l++us x
theorem jb (l:List Nd) (x:Nd):usL (l++[x])=us x++usL l:=by
 induction l with
 |nil=>simp [usL]
 |cons y l ih=>simp [usL,ih]
structure GoodL (l:List Nd):Prop where
 ne:l≠[]
 ok:∀i x,l[i]? =some x->okN i x
 nd:(usL l).Nodup
 all:∀i:Nat,i+1<l.length->(i:Int)∈usL l
open Classical in
noncomputable def fw (l:List Nd):Int:=if 512<l.length then 2 else if GoodL l then 0 else 40
section
variable {F0 F:PH}
theorem zl (k:Int):ae prog 202 #[vi k] F λr F'=>r=vi (ar k)/\F'=F:=by
 refine RV ?_;unfold Mb;have j1:∀t:Bool,t=decide (k=0\/k=1)->oQ k t (λr F'=>r=vi (ar k)/\F'=F) F:=λt ht=>by
  unfold oQ;refine ⟨λh=>⟨?_,rfl⟩,λh=> ?_⟩
  ·have:=of_decide_eq_true (ht.symm.trans h);have e1:ar k=0:=by unfold ar;rw [if_neg (by omega),if_neg (by omega),if_pos (by omega)]
   rw [e1]
  ·have h01:=of_decide_eq_false (ht.symm.trans h);refine ⟨λh4=>⟨?_,rfl⟩,λh4=>⟨λh2=>⟨λ_=>⟨?_,rfl⟩,λh=>absurd h2 h⟩,λh2=>⟨λh3=>⟨?_,rfl⟩,λh3=>⟨?_,rfl⟩⟩⟩⟩
   ·have e1:ar k=1:=by unfold ar;rw [if_pos (by omega)]
    rw [e1]
   ·have e1:ar k=2:=by unfold ar;rw [if_neg (by omega),if_pos (by omega)]
    rw [e1]
   ·have e1:ar k=2:=by unfold ar;rw [if_neg (by omega),if_pos (by omega)]
    rw [e1]
   ·have e1:ar k= -1:=by unfold ar;rw [if_neg (by omega),if_neg (by omega),if_neg (by omega)]
    rw [e1]
 refine ⟨λh=>j1 _ ?_,λh=>j1 _ ?_⟩
 ·rw [XE];simp;omega
 ·rw [XE];simp;omega
def gO (n:Nat) (W:Φ):Ξ:=(List.range n).map λ(i:Nat)=>Value.bool (decide ((i:Int)∈W))
structure Usd (F0 F:PH) (b u n:Nat) (W:Φ):Prop where
 zb:F0 b=none
 zu:F0 u=none
 le:F0.le F
 ne:u≠b
 qb:F b=some (.cells #[Sl.v ⟨some ⟨u,0,none⟩,n,n⟩] 265)
 qu:F u=some (.cells (gO n W).toArray 4)
theorem Ef (n:Nat) (W:Φ) (i:Nat) (hi:i<n):(gO n W).toArray.setIfInBounds i (.bool true)=(gO n ((i:Int)::W)).toArray:=by
 apply Array.ext';rw [Array.toList_setIfInBounds];apply Yd;intro j;rw [YL];simp only [gO,XH,Ym,XM];by_cases h:i=j
 ·subst h;rw [if_pos rfl,if_pos hi,Yi hi];simp
 ·rw [if_neg h];by_cases hj:j<n
  ·rw [Yi hj];simp only [Yj,XB];congr 2;rw [XE];simp only [decide_eq_true_eq];constructor
   ·exact .inr
   ·rintro (e|e)
    ·omega
    ·exact e
  ·rw [X8 (by simp;omega)];rfl
theorem tR {n:Nat} {W:Φ} {i:Nat} (hi:i<n):(gO n W).toArray[i]? =some (.bool (decide ((i:Int)∈W))):=by simp [gO,hi]
theorem qK {b u n:Nat} {W:Φ} (h:Usd F0 F b u n W) (i:Int) {at_:Nat} (ha:at_<=n):
  ae prog 201 #[vi i,vi at_,pa b] F λr F'=>((0<=i/\i<at_/\i ∉ W)/\r=.bool true/\Usd F0 F' b u n (i::W)/\∀x,x≠u->F' x=F x)\/(¬(0<=i/\i<at_/\i ∉ W)/\r=.bool false/\F'=F):=by
 refine RU ?_;unfold Ma;refine ⟨λh0=> .inr ⟨by omega,rfl,rfl⟩,λh0=>⟨λh1=> .inr ⟨by omega,rfl,rfl⟩,λh1=> ?_⟩⟩;obtain ⟨k,rfl⟩:=YU (by omega:0<=i);have hk:k<n:=by omega
 have hr:F.cell ((Addr.mk u 0 none).add (Int.toNat (k:Int)*1))=some (.bool (decide ((k:Int)∈W))):=by rw [N5,XS,show (Addr.mk u 0 none).add k=⟨u,k,none⟩ by simp [Addr.add,XZ];omega,an h.qu];exact tR hk
 have hc:F.cell ⟨b,0,none⟩=some (Sl.v ⟨some ⟨u,0,none⟩,n,n⟩):=by rw [an h.qb];rfl
 refine ⟨_,rfl,_,hc,_,rfl,by omega,by simp only;omega,_,hr,λhm=> .inr ⟨λhn=>hn.2.2 (of_decide_eq_true hm),rfl,rfl⟩,λhm=>⟨_,hc,_,rfl,by omega,by simp only;omega,?_⟩⟩;have hm:=of_decide_eq_false hm;refine qZ (b:=u) (o:=k) (by rw [N5,XS];simp [Addr.add];omega) h.qu (by simp [gO];exact hk) ?_;refine .inl ⟨⟨by omega,by omega,hm⟩,rfl,⟨h.zb,h.zu,aA h.le h.zu,h.ne,?_,?_⟩,λx hx=>aC _ _ hx⟩
 ·rw [aC _ _ h.ne.symm];exact h.qb
 ·show (F.set u (.cells ((gO n W).toArray.setIfInBounds k (.bool true)) 4)) u=_;rw [Ef n W k hk];exact aq _ _ _
theorem GB {s:Sl} {b u n b6 j:Nat} {W:Φ} {x:Nd} {ok:Bool} {N:Ω} {R:Value->Ψ} (h:Usd F0 F b u n W) (q6:F b6=some (.cells x.arr 97)) (hj:j<=n) (hu:u≠b6)
  (bad:¬(ok=true/\(ar x.k<1->x.a=0)/\(ar x.k<2->x.b=0)/\(1<=ar x.k->0<=x.a/\x.a<j/\x.a ∉ W)/\(2<=ar x.k->0<=x.b/\x.b<j/\x.b ∉ x.a::W))->∀F',F0.le F'->R (vi 40) F')
  (good:(ok=true/\(ar x.k<1->x.a=0)/\(ar x.k<2->x.b=0)/\(1<=ar x.k->0<=x.a/\x.a<j/\x.a ∉ W)/\(2<=ar x.k->0<=x.b/\x.b<j/\x.b ∉ x.a::W))->∀F',Usd F0 F' b u n (us x++W)->N (IntKind.i64.wrap ((j:Int)+1)) F'):
  fM N s b j b6 (ar x.k) ok R F:=by
 have cA:∀{F':PH},F' b6=some (.cells x.arr 97)->F'.cell (Addr.mk b6 3 none)=some (vi x.a):=λh=>by rw [an h];rfl
 have cB:∀{F':PH},F' b6=some (.cells x.arr 97)->F'.cell (Addr.mk b6 4 none)=some (vi x.b):=λh=>by rw [an h];rfl
 unfold fM;refine ⟨λhk=>bad (λhg=>by rw [hg.1] at hk;cases hk) _ h.le,λhk=> ?_⟩;have hok:ok=true:=by simpa using hk
 refine ⟨λh1=>⟨_,cA q6,λha=>bad (λhg=>ha (hg.2.1 h1)) _ h.le,λha=>⟨λh2=>⟨_,cB q6,λhb=>bad (λhg=>hb (hg.2.2.1 h2)) _ h.le,λhb=>⟨λh3=>absurd h3 (by omega),λh3=>⟨λh4=>absurd h4 (by omega),λh4=> ?_⟩⟩⟩,λh2=>absurd h2 (by omega)⟩⟩,
  λh1=>⟨λh2=>⟨_,cB q6,λhb=>bad (λhg=>hb (hg.2.2.1 h2)) _ h.le,λhb=>⟨λh3=>⟨_,cA q6,?_⟩,λh3=>absurd h3 (by omega)⟩⟩,λh2=>⟨λh3=>⟨_,cA q6,?_⟩,λh3=>absurd h3 (by omega)⟩⟩⟩
 ·unfold bY;refine good ⟨hok,λ_=>by omega,λ_=>by omega,λh=>by omega,λh=>by omega⟩ _ ?_;have:us x=[]:=by unfold us;rw [if_neg h4,if_neg h3]
  rw [this];exact h
 ·refine (qK h x.a hj).mono ?_;rintro _ F2 (⟨hg,rfl,h2',hk2⟩|⟨hg,rfl,rfl⟩)
  ·refine ⟨_,rfl,λh=>by simp at h,λ_=>⟨λh4=>absurd h4 (by omega),λh4=> ?_⟩⟩;unfold bY;refine good ⟨hok,λ_=>by omega,λ_=>by omega,λ_=>hg,λh=>by omega⟩ _ ?_;have:us x=[x.a]:=by unfold us;rw [if_neg h4,if_pos h3]
   rw [this];exact h2'
  ·exact ⟨_,rfl,λ_=>bad (λhg2=>hg (hg2.2.2.2.1 h3)) _ h.le,λh=>by simp at h⟩
 ·refine (qK h x.a hj).mono ?_;rintro _ F2 (⟨hg,rfl,h2',hk2⟩|⟨hg,rfl,rfl⟩)
  ·have q6':F2 b6=some (.cells x.arr 97):=(hk2 _ hu.symm).trans q6;refine ⟨_,rfl,λh=>by simp at h,λ_=>⟨λh4=>⟨_,cB q6',?_⟩,λh4=>absurd h4 (by omega)⟩⟩;refine (qK h2' x.b hj).mono ?_;rintro _ F3 (⟨hg3,rfl,h3',hk3⟩|⟨hg3,rfl,rfl⟩)
   ·refine ⟨_,rfl,λh=>by simp at h,λ_=> ?_⟩;unfold bY;refine good ⟨hok,λ_=>by omega,λ_=>by omega,λ_=>hg,λ_=>hg3⟩ _ ?_;have:us x=[x.b,x.a]:=by unfold us;rw [if_pos h4]
    rw [this];exact h3'
   ·exact ⟨_,rfl,λ_=>bad (λhg2=>hg3 (hg2.2.2.2.2 h4)) _ h2'.le,λh=>by simp at h⟩
  ·exact ⟨_,rfl,λ_=>bad (λhg2=>hg (hg2.2.2.2.1 h3)) _ h.le,λh=>by simp at h⟩
end
theorem RC:tsz prog 4=some (1,1):=by kernel_rfl
theorem RI:bC prog 4=some (.bool false):=by kernel_rfl
structure GoodTo (l:List Nd) (j:Nat):Prop where
 ok:∀i x,i<j->l[i]? =some x->okN i x
 nd:(usL (l.take j)).Nodup
theorem GoodTo.zero (l:List Nd):GoodTo l 0:=⟨λi x h=>by omega,by simp [usL]⟩
theorem xC {j:Nat} {x:Nd} {W:Φ}:(okN j x/\(us x++W).Nodup)↔W.Nodup/\(0<=ar x.k/\(x.k=1->0<=x.lo/\x.lo<=x.hi/\x.hi<=255)/\(x.k≠1->x.lo=0/\x.hi=0))/\
  (ar x.k<1->x.a=0)/\(ar x.k<2->x.b=0)/\(1<=ar x.k->0<=x.a/\x.a<j/\x.a ∉ W)/\(2<=ar x.k->0<=x.b/\x.b<j/\x.b ∉ x.a::W):=by
 unfold okN us;by_cases h2:2<=ar x.k
 ·rw [if_pos h2];simp only [XY,XX,Zb,XB,not_or];constructor
  ·rintro ⟨⟨a1,a2,a3,a4,a5,a6,a7⟩,⟨n1,n2⟩,n3,n4⟩;exact ⟨n4,⟨a1,a2,a3⟩,a4,a5,λh=>⟨(a6 h).1,(a6 h).2,n3⟩,λh=>⟨(a7 h).1,(a7 h).2,n1,n2⟩⟩
  ·rintro ⟨n4,⟨a1,a2,a3⟩,a4,a5,a6,a7⟩;exact ⟨⟨a1,a2,a3,a4,a5,λh=>⟨(a6 h).1,(a6 h).2.1⟩,λh=>⟨(a7 h).1,(a7 h).2.1⟩⟩,⟨(a7 h2).2.2.1,(a7 h2).2.2.2⟩,(a6 (by omega)).2.2,n4⟩
 ·rw [if_neg h2];by_cases h1:1<=ar x.k
  ·rw [if_pos h1];simp only [XY,XX,Zb];constructor
   ·rintro ⟨⟨a1,a2,a3,a4,a5,a6,a7⟩,n3,n4⟩;exact ⟨n4,⟨a1,a2,a3⟩,a4,a5,λh=>⟨(a6 h).1,(a6 h).2,n3⟩,λh=>absurd h h2⟩
   ·rintro ⟨n4,⟨a1,a2,a3⟩,a4,a5,a6,a7⟩;exact ⟨⟨a1,a2,a3,a4,a5,λh=>⟨(a6 h).1,(a6 h).2.1⟩,λh=>absurd h h2⟩,(a6 h1).2.2,n4⟩
  ·rw [if_neg h1];simp only [XX];constructor
   ·rintro ⟨⟨a1,a2,a3,a4,a5,a6,a7⟩,n4⟩;exact ⟨n4,⟨a1,a2,a3⟩,a4,a5,λh=>absurd h h1,λh=>absurd h h2⟩
   ·rintro ⟨n4,⟨a1,a2,a3⟩,a4,a5,a6,a7⟩;exact ⟨⟨a1,a2,a3,a4,a5,λh=>absurd h h1,λh=>absurd h h2⟩,n4⟩
theorem GoodTo.succ {l:List Nd} {j:Nat} {x:Nd} (hx:l[j]? =some x):GoodTo l (j+1)↔GoodTo l j/\okN j x/\(us x++usL (l.take j)).Nodup:=by
 have e:l.take (j+1)=l.take j++[x]:=by rw [Yy,hx];rfl
 constructor
 ·rintro ⟨h1,h2⟩;rw [e,jb] at h2;exact ⟨⟨λi y hi hy=>h1 i y (by omega) hy,(X4.1 h2).2.1⟩,h1 j x (by omega) hx,h2⟩
 ·rintro ⟨⟨h1,h2⟩,h3,h4⟩;refine ⟨λi y hi hy=> ?_,by rw [e,jb];exact h4⟩;by_cases hij:i=j
  ·subst hij;rw [hx] at hy;cases hy;exact h3
  ·exact h1 i y (by omega) hy
theorem GoodL_iff (l:List Nd):GoodL l↔GoodTo l l.length/\(∀i:Nat,i+1<l.length->(i:Int)∈usL l)/\l≠[]:=by
 constructor
 ·rintro ⟨h1,h2,h3,h4⟩;exact ⟨⟨λi x _ hx=>h2 i x hx,by rw [XF];exact h3⟩,h4,h1⟩
 ·rintro ⟨⟨h2,h3⟩,h4,h1⟩;rw [XF] at h3;exact ⟨h1,λi x hx=>h2 i x (by have:=(N6.1 hx).1;omega) hx,h3,h4⟩
theorem xD {l:List Nd} (hl:l.length<=512) (h:¬GoodL l):fw l=40:=by unfold fw;rw [if_neg (by omega),if_neg h]
theorem tS {l:List Nd} (hl:l.length<=512) (h:GoodL l):fw l=0:=by unfold fw;rw [if_neg (by omega),if_pos h]
section
variable {F:PH}
theorem nW {s:Sl} {l:List Nd} (hs:RdS F s 5 (cX l)):ae prog 150 #[s.v] F λr F'=>r=vi (fw l)/\F.le F':=by
 have hlen:=hs.nlen;refine RO ?_;unfold L8;refine ⟨λh=>⟨?_,am F⟩,λh=> ?_⟩
 ·have e:fw l=2:=by unfold fw;rw [if_pos (by omega)]
  rw [e]
 have hl:l.length<=512:=by omega
 refine cd underlying265 RC RI rfl (by omega) (Zc _) (by omega) (by omega) ?_;intro u hu;rw [zc1 _ rfl,N5,hlen];have em:(List.replicate l.length (Value.bool false)).toArray=(gO l.length []).toArray:=by
  congr 1;apply Yd;intro j;by_cases hj:j<l.length
  ·simp [gO,hj]
  ·rw [X8 (by simp;omega),X8 (by simp [gO];omega)]
 rw [em];refine ⟨_,rfl,λb3 hb3=> ?_⟩;refine atI ?_;have hne:u≠b3:=λe=>by rw [e,aq] at hb3;cases hb3
 have hb3F:F b3=none:=by rwa [aC _ _ hne.symm] at hb3
 refine st1 (aq _ _ _) (by simp) ?_;rw [aU];have hU:Usd F ((F.set u (.cells (gO l.length []).toArray 4)).set b3 (.cells #[Sl.v ⟨some ⟨u,0,none⟩,l.length,l.length⟩] 265)) b3 u l.length []:=
  ⟨hb3F,hu,aA (ac _ hu) hb3F,hne,aq _ _ _,by rw [aC _ _ hne];exact aq _ _ _⟩
 show ∃(I2:Nat->Ω) (m2:Nat),_;have e0:(#[Value.slice Option.none 0 0]:Γ).setIfInBounds 0 (Sl.v ⟨some ⟨u,0,none⟩,l.length,l.length⟩)= #[Sl.v ⟨some ⟨u,0,none⟩,l.length,l.length⟩]:=rfl;rw [e0];generalize (F.set u (.cells (gO l.length []).toArray 4)).set b3 (.cells #[Sl.v ⟨some ⟨u,0,none⟩,l.length,l.length⟩] 265)=F1 at*;have bad:∀{F':PH},¬GoodL l->F.le F'->vi 40=vi (fw l)/\F.le F':=λh hl'=>⟨by rw [xD hl h],hl'⟩;refine ⟨λm i F'=>∃j:Nat,i=j/\j<=l.length/\m=l.length - j/\GoodTo l j/\Usd F F' b3 u l.length (usL (l.take j)),l.length,⟨0,rfl,by omega,rfl,GoodTo.zero l,by simpa [usL] using hU⟩,?_⟩;rintro _ _ F2 ⟨j,rfl,hj,rfl,hg,hW⟩;unfold BI;refine ⟨λhlt=> ?_,λhge=> ?_⟩
 ·have hjl:j<l.length:=by omega
  have hx:l[j]? =some l[j]:=N4 hjl;generalize l[j]=x at hx;obtain ⟨a,ha,hrow⟩:=rdn (hs.le hW.le) hx;refine ⟨a,ha,by omega,by omega,x.arr,rfl,hrow,λb6 hb6=> ?_⟩;refine atI ?_;refine stW (aq _ _ _) rfl rfl (dY x) ?_;rw [aU];have hub:u≠b6:=aJ hb6 hW.qu;have hW6:Usd F (F2.set b6 (.cells x.arr 97)) b3 u l.length (usL (l.take j)):=⟨hW.zb,hW.zu,aA hW.le (aY hW.le hb6),hW.ne,by rw [aC _ _ (aJ hb6 hW.qb)];exact hW.qb,by rw [aC _ _ hub];exact hW.qu⟩;have q6:=aq F2 b6 (.cells x.arr 97);generalize F2.set b6 (.cells x.arr 97)=F3 at*;have j4:∀ok:Bool,(ok=true↔(0<=ar x.k/\(x.k=1->0<=x.lo/\x.lo<=x.hi/\x.hi<=255)/\(x.k≠1->x.lo=0/\x.hi=0)))->
    fM (λy2_0 F=>∃m',m'<l.length - j/\∃j:Nat,y2_0=j/\j<=l.length/\m'=l.length - j/\GoodTo l j/\Usd _ F b3 u l.length (usL (l.take j))) s b3 j b6 (ar x.k) ok (λr F'=>r=vi (fw l)/\PH.le _ F') F3:=λok hok=>by
   refine GB hW6 q6 (by omega) hub (λhn F' hl'=>bad (λhG=>hn ?_) hl') λhy F' hU'=> ?_
   ·obtain ⟨hgt,_,_⟩:=(GoodL_iff l).1 hG
    have h1:GoodTo l (j+1):=⟨λi y hi hy=>hgt.ok i y (by omega) hy,by
     have:=hgt.nd;rw [XF] at this;have e:usL l=usL (l.drop (j+1))++usL (l.take (j+1))\/True:=.inr trivial;have hsub:∀(p q:List Nd),usL (p++q)=usL q++usL p:=by
      intro p q;induction p with
      |nil=>simp [usL]
      |cons y p ih=>simp [usL,ih]
     rw [<- X9 (j+1) l,hsub] at this
     exact (X4.1 this).2.1⟩
    obtain ⟨_,h3⟩:=(GoodTo.succ hx).1 h1;obtain ⟨h4,h5,h6⟩:=xC.1 h3;exact ⟨hok.2 h5,h6⟩
   ·refine ⟨l.length - (j+1),by omega,j+1,fC (by omega),hjl,rfl,?_,?_⟩
    ·exact (GoodTo.succ hx).2 ⟨hg,xC.2 ⟨hg.nd,hok.1 hy.1,hy.2⟩⟩
    ·rw [Yy,hx];show Usd F F' b3 u l.length (usL (l.take j++[x]));rw [jb];exact hU'
  have c0:F3.cell (Addr.mk b6 0 none)=some (vi x.k):=by rw [an q6];rfl
  have c1:F3.cell (Addr.mk b6 1 none)=some (vi x.lo):=by rw [an q6];rfl
  have c2:F3.cell (Addr.mk b6 2 none)=some (vi x.hi):=by rw [an q6];rfl
  have a1:x.k=1->ar x.k=0:=λh=>by unfold ar;rw [if_neg (by omega),if_neg (by omega),if_pos (by omega)]
  refine ⟨_,c0,?_⟩;refine (zl _).mono ?_;rintro _ F3' ⟨rfl,e⟩;obtain rfl:=e.symm;refine ⟨_,rfl,_,c0,λh1=>⟨_,c1,λh2=>⟨_,c1,_,c2,λh3=>⟨_,c2,j4 _ ?_⟩,λh3=>j4 _ ?_⟩,λh2=>j4 _ ?_⟩,λh1=>⟨_,c1,λh2=>j4 _ ?_,λh2=>⟨_,c2,λh3=>j4 _ ?_,λh3=>j4 _ ?_⟩⟩⟩
  ·have:=a1 h1;rw [decide_eq_true_eq];exact ⟨λh=>⟨by omega,λ_=>⟨h2,h3,h⟩,λh=>absurd h1 h⟩,λh=>(h.2.1 h1).2.2⟩
  ·exact ⟨λh=>(by cases h),λh=>absurd (h.2.1 h1).2.1 h3⟩
  ·exact ⟨λh=>(by cases h),λh=>absurd (h.2.1 h1).1 h2⟩
  ·exact ⟨λh=>(by cases h),λh=>absurd (h.2.2 h1).1 h2⟩
  ·exact ⟨λh=>(by cases h),λh=>absurd (h.2.2 h1).2 h3⟩
  ·rw [decide_eq_true_eq];exact ⟨λh=>⟨h,λh=>absurd h h1,λ_=>⟨by omega,by omega⟩⟩,λh=>h.1⟩
 ·obtain rfl:j=l.length:=by omega
  rw [XF] at hW;unfold BH;have ew:IntKind.i64.wrap ((s.len:Int) - 1)=(l.length:Int) - 1:=by rw [hlen,aH (by omega) (by omega)]
  refine ⟨λm i F'=>∃j:Nat,i=j/\j<=l.length/\m=l.length - j/\F'=F2/\∀i:Nat,i<j->(i:Int)∈usL l,l.length,⟨0,rfl,by omega,rfl,rfl,λi hi=>by omega⟩,?_⟩;rintro _ _ F3 ⟨j,rfl,hj',rfl,e3,hall⟩;obtain rfl:=e3.symm;unfold BG;rw [ew];refine ⟨λhlt=> ?_,λhge=> ?_⟩
  ·have hjl:j<l.length:=by omega
   have hr:F2.cell ((Addr.mk u 0 none).add (Int.toNat (j:Int)*1))=some (.bool (decide ((j:Int)∈usL l))):=by rw [N5,XS,show (Addr.mk u 0 none).add j=⟨u,j,none⟩ by simp [Addr.add,XZ];omega,an hW.qu];exact tR hjl
   refine ⟨_,by rw [an hW.qb];rfl,_,rfl,by omega,by simp only;omega,_,hr,λhm=>bad (λhG=> ?_) hW.le,λhm=>⟨l.length - (j+1),by omega,j+1,fC (by omega),hjl,rfl,rfl,λi hi=> ?_⟩⟩
   ·have:=hG.all j (by omega);simp [this] at hm
   ·by_cases hij:i=j
    ·subst hij;simpa using hm
    ·exact hall i (by omega)
  ·unfold BF;refine ⟨λh0=>bad (λhG=>hG.ne (Yg.1 (by omega))) hW.le,λh0=>⟨?_,hW.le⟩⟩;rw [tS hl ((GoodL_iff l).2 ⟨hg,λi hi=>hall i (by omega),λe=>by rw [e] at hlen;simp at hlen;omega⟩)]
end
def Par (l:List Nd) (j k:Nat):Prop:=∃x,l[k]? =some x/\(j:Int)∈us x
inductive Up (l:List Nd):Nat->Nat->Prop where
 |refl (j:Nat):Up l j j
 |step {j k m:Nat}:Up l j k->Par l k m->Up l j m
inductive cz (l:List Nd):Nat->Lt->Δ->Prop where
 |emp {i:Nat} {x:Nd}:l[i]? =some x->x.k=0->cz l i .emp [i]
 |rng {i lo hi:Nat} {x:Nd}:l[i]? =some x->x.k=1->x.lo=lo->x.hi=hi->lo<=hi->hi<=255->cz l i (.rng i lo hi) [i]
 |seq {i a b:Nat} {x:Nd} {t u:Lt} {na nb:Δ}:l[i]? =some x->x.k=2->x.a=a->x.b=b->cz l a t na->cz l b u nb->cz l i (.seq t u) (i::na++nb)
 |alt {i a b:Nat} {x:Nd} {t u:Lt} {na nb:Δ}:l[i]? =some x->x.k=3->x.a=a->x.b=b->cz l a t na->cz l b u nb->cz l i (.alt t u) (i::na++nb)
 |rep {i a:Nat} {x:Nd} {t:Lt} {na:Δ}:l[i]? =some x->x.k=4->x.a=a->cz l a t na->cz l i (.rep t) (i::na)
theorem ii {x:Nd} (h:x.k=2\/x.k=3):us x=[x.b,x.a]:=by
 have:ar x.k=2:=by unfold ar;rw [if_neg (by omega),if_pos h]
 unfold us;rw [this];rfl
theorem GC {x:Nd} (h:x.k=4):us x=[x.a]:=by
 have:ar x.k=1:=by unfold ar;rw [if_pos h]
 unfold us;rw [this];rfl
theorem qL {k:Int} (h:0<=ar k):k=0\/k=1\/k=2\/k=3\/k=4:=by
 unfold ar at h;split at h
 ·omega
 ·split at h
  ·omega
  ·split at h<;>omega
theorem vc {k:Int} (h:k=2\/k=3):ar k=2:=by unfold ar;rw [if_neg (by omega),if_pos h]
theorem GD {k:Int} (h:k=4):ar k=1:=by unfold ar;rw [if_pos h]
theorem BC {k:Int} (h:k=0\/k=1):ar k=0:=by unfold ar;rw [if_neg (by omega),if_neg (by omega),if_pos h]
section
variable {l:List Nd} (hG:GoodL l)
include hG
theorem BE:∀(n i:Nat),i<n->i<l.length->∃t ns,cz l i t ns:=by
 intro n;induction n with
 |zero=>intro i h;omega
 |succ n ih=>
  intro i hi hl;have hx:=N4 hl;have ho:=hG.ok i _ hx;generalize l[i]=x at hx ho;obtain ⟨h0,h1,h2,h3,h4,h5,h6⟩:=ho;rcases qL h0 with hk|hk|hk|hk|hk
  ·exact ⟨_,_,.emp hx hk⟩
  ·obtain ⟨a,b,c⟩:=h1 hk;exact ⟨_,_,.rng (lo:=x.lo.toNat) (hi:=x.hi.toNat) hx hk (by omega) (by omega) (by omega) (by omega)⟩
  ·have e:=vc (k:=x.k) (.inl hk);obtain ⟨a1,a2⟩:=h5 (by omega);obtain ⟨b1,b2⟩:=h6 (by omega);obtain ⟨t,na,ht⟩:=ih x.a.toNat (by omega) (by omega);obtain ⟨u,nb,hu⟩:=ih x.b.toNat (by omega) (by omega);exact ⟨_,_,.seq hx hk (by omega) (by omega) ht hu⟩
  ·have e:=vc (k:=x.k) (.inr hk);obtain ⟨a1,a2⟩:=h5 (by omega);obtain ⟨b1,b2⟩:=h6 (by omega);obtain ⟨t,na,ht⟩:=ih x.a.toNat (by omega) (by omega);obtain ⟨u,nb,hu⟩:=ih x.b.toNat (by omega) (by omega);exact ⟨_,_,.alt hx hk (by omega) (by omega) ht hu⟩
  ·have e:=GD (k:=x.k) hk;obtain ⟨a1,a2⟩:=h5 (by omega);obtain ⟨t,na,ht⟩:=ih x.a.toNat (by omega) (by omega);exact ⟨_,_,.rep hx hk (by omega) ht⟩
theorem Par.lt {j k:Nat} (h:Par l j k):j<k/\k<l.length:=by
 obtain ⟨x,hx,hm⟩:=h;have hlt:=(N6.1 hx).1;obtain ⟨h0,h1,h2,h3,h4,h5,h6⟩:=hG.ok k x hx;rcases qL h0 with hk|hk|hk|hk|hk
 ·have e:=BC (k:=x.k) (.inl hk);unfold us at hm;rw [e] at hm;simp at hm
 ·have e:=BC (k:=x.k) (.inr hk);unfold us at hm;rw [e] at hm;simp at hm
 ·have e:=vc (k:=x.k) (.inl hk);rw [ii (.inl hk)] at hm;have:=h5 (by omega);have:=h6 (by omega);simp at hm;omega
 ·have e:=vc (k:=x.k) (.inr hk);rw [ii (.inr hk)] at hm;have:=h5 (by omega);have:=h6 (by omega);simp at hm;omega
 ·have e:=GD (k:=x.k) hk;rw [GC hk] at hm;have:=h5 (by omega);simp at hm;omega
omit hG in
theorem vd {j:Int}:∀(l:List Nd) {k:Nat} {x:Nd},l[k]? =some x->j∈us x->j∈usL l
 |y::l,0,x,h,hm=>by simp at h;subst h;simp [usL,hm]
 |y::l,k+1,x,h,hm=>by simp at h;simp only [usL,XD];exact .inl (vd l h hm)
omit hG in
theorem xE {j:Int}:∀(l:List Nd),(usL l).Nodup->∀{k m:Nat} {x y:Nd},l[k]? =some x->l[m]? =some y->j∈us x->j∈us y->k=m
 |z::l,hn,0,0,x,y,h1,h2,h3,h4=>rfl
 |z::l,hn,0,m+1,x,y,h1,h2,h3,h4=>by simp at h1 h2;subst h1;rw [usL] at hn;exact absurd rfl ((X4.1 hn).2.2 j (vd l h2 h4) j h3)
 |z::l,hn,k+1,0,x,y,h1,h2,h3,h4=>by simp at h1 h2;subst h2;rw [usL] at hn;exact absurd rfl ((X4.1 hn).2.2 j (vd l h1 h3) j h4)
 |z::l,hn,k+1,m+1,x,y,h1,h2,h3,h4=>by simp at h1 h2;rw [usL] at hn;rw [xE l (X4.1 hn).1 h1 h2 h3 h4]
theorem Par.uniq {j k m:Nat} (h1:Par l j k) (h2:Par l j m):k=m:=by obtain ⟨x,hx,hm⟩:=h1;obtain ⟨y,hy,hn⟩:=h2;exact xE l hG.nd hx hy hm hn
omit hG in
theorem Up.head {j m:Nat} (h:Up l j m):j=m\/∃k,Par l j k/\Up l k m:=by
 induction h with
 |refl=>exact .inl rfl
 | @step k m h hp ih=>
  rcases ih with rfl|⟨c,h1,h2⟩
  ·exact .inr ⟨m,hp,.refl m⟩
  ·exact .inr ⟨c,h1,h2.step hp⟩
theorem Up.le {j m:Nat} (h:Up l j m):j<=m:=by
 induction h with
 |refl=>exact XA _
 |step _ hp ih=>have:=hp.lt hG;omega
theorem Up.chain {j a b:Nat} (ha:Up l j a) (hb:Up l j b):Up l a b\/Up l b a:=by
 induction ha with
 |refl=>exact .inl hb
 | @step k m h hp ih=>
  rcases ih with h1|h1
  ·rcases h1.head with rfl|⟨c,h2,h3⟩
   ·exact .inr ((Up.refl k).step hp)
   ·rw [h2.uniq hG hp] at h3;exact .inl h3
  ·exact .inr (h1.step hp)
omit hG in
theorem oO {i:Nat} {t:Lt} {ns:Δ} (h:cz l i t ns):∀j∈ns,Up l j i:=by
 induction h with
 | @emp i x hx hk=>intro j hj;simp at hj;subst hj;exact .refl _
 | @rng i lo hi x hx hk _ _ _ _=>intro j hj;simp at hj;subst hj;exact .refl _
 | @seq i a b x t u na nb hx hk ha hb h1 h2 i1 i2=>
  intro j hj;simp only [XY,XB,XD] at hj;rcases hj with rfl|hj|hj
  ·exact .refl _
  ·exact (i1 j hj).step ⟨x,hx,by rw [ii (.inl hk),ha];simp⟩
  ·exact (i2 j hj).step ⟨x,hx,by rw [ii (.inl hk),hb];simp⟩
 | @alt i a b x t u na nb hx hk ha hb h1 h2 i1 i2=>
  intro j hj;simp only [XY,XB,XD] at hj;rcases hj with rfl|hj|hj
  ·exact .refl _
  ·exact (i1 j hj).step ⟨x,hx,by rw [ii (.inr hk),ha];simp⟩
  ·exact (i2 j hj).step ⟨x,hx,by rw [ii (.inr hk),hb];simp⟩
 | @rep i a x t na hx hk ha h1 i1=>
  intro j hj;simp only [XB] at hj;rcases hj with rfl|hj
  ·exact .refl _
  ·exact (i1 j hj).step ⟨x,hx,by rw [GC hk,ha];simp⟩
theorem RJ {i a b:Nat} {x:Nd} (hx:l[i]? =some x) (hk:x.k=2\/x.k=3) (ha:x.a=a) (hb:x.b=b):a≠b:=by
 intro e;have hn:=hG.nd;have hsub:∀(l:List Nd) (i:Nat),l[i]? =some x->(usL l).Nodup->(us x).Nodup:=by
  intro l;induction l with
  |nil=>intro i h;simp at h
  |cons y l ih=>
   intro i h hn;rw [usL] at hn;cases i with
   |zero=>simp at h;subst h;exact (X4.1 hn).2.1
   |succ i=>simp at h;exact ih i h (X4.1 hn).1
 have:=hsub l i hx hn;rw [ii hk,ha,hb,e] at this;simp at this
theorem L5 {i a b j:Nat} {x:Nd} (hx:l[i]? =some x) (hk:x.k=2\/x.k=3) (ha:x.a=a) (hb:x.b=b) (h1:Up l j a) (h2:Up l j b):False:=by
 have pa:Par l a i:=⟨x,hx,by rw [ii hk,ha];simp⟩;have pb:Par l b i:=⟨x,hx,by rw [ii hk,hb];simp⟩;have hne:=RJ hG hx hk ha hb;rcases h1.chain hG h2 with h|h
 ·rcases h.head with e|⟨c,h3,h4⟩
  ·exact hne e
  ·rw [h3.uniq hG pa] at h4;have:=h4.le hG;have:=pb.lt hG;omega
 ·rcases h.head with e|⟨c,h3,h4⟩
  ·exact hne e.symm
  ·rw [h3.uniq hG pb] at h4;have:=h4.le hG;have:=pa.lt hG;omega
end
section
variable {F:PH}
open Classical in
noncomputable def bG (l:List Nd):Lt:=if h:GoodL l then (BE h (l.length) (l.length - 1) (by have:=YM.2 h.ne;omega) (by have:=YM.2 h.ne;omega)).choose else .emp
theorem ij {l:List Nd} (h:GoodL l):∃ns,cz l (l.length - 1) (bG l) ns:=by unfold bG;rw [dif_pos h];exact (BE h (l.length) (l.length - 1) (by have:=YM.2 h.ne;omega) (by have:=YM.2 h.ne;omega)).choose_spec
theorem tT {l:List Nd} (h:fw l=0):GoodL l/\l.length<=512:=by
 unfold fw at h;split at h
 ·omega
 ·split at h
  ·rename_i hg;exact ⟨hg,by omega⟩
  ·omega
end
structure Lo (G F:PH) (xs:List (Nat×Γ×TypeId)):Prop where
 le:G.le F
 z:∀p∈xs,F p.1=some (.cells p.2.1 p.2.2)/\G p.1=none
 nd:(xs.map (·.1)).Nodup
theorem Lo.start (F:PH):Lo F F []:=⟨am F,λp hp=>(by cases hp),List.nodup_nil⟩
section
variable {F G:PH} {xs:List (Nat×Γ×TypeId)}
theorem Lo.get (h:Lo G F xs) {b:Nat} {w:Γ} {e:TypeId} (hm:(b,w,e)∈xs):F b=some (.cells w e):=(h.z _ hm).1
theorem Lo.row (h:Lo G F xs) {b:Nat} {w:Γ} {e:TypeId} (hm:(b,w,e)∈xs):F.row (Addr.mk b 0 none) w:=aj (h.z _ hm).1
theorem Lo.cell (h:Lo G F xs) {b i:Nat} {w:Γ} {e:TypeId} (hm:(b,w,e)∈xs):F.cell (Addr.mk b i none)=w[i]? :=an (h.z _ hm).1
theorem Lo.call {f:FuncId} {args:Γ} {P:Value->Ψ} (h:Lo G F xs) (s:ae prog f args G P):ae prog f args F λr F'=>∃G',P r G'/\Lo G' F' xs:=
 (s.upon h.le).mono λr F' ⟨G',hp,hl,hk⟩=>⟨G',hp,hl,λp hp=>by
  obtain ⟨a,b⟩:=h.z p hp
  exact hk _ _ b a,h.nd⟩
theorem Lo.new (h:Lo G F xs) (c:Γ) (e:TypeId) {K:Nat->Ψ} (k:∀b F',Lo G F' ((b,c,e)::xs)->K b F'):∀b,F b=none->atF (F.set b (.cells c e)) (K b):=by
 intro b hb;refine atI ?_;have hne:∀p∈xs,p.1≠b:=λp hp=>aJ hb (h.z p hp).1;refine k b _ ⟨aa h.le (ac _ hb),λp hp=> ?_,?_⟩
 ·rcases XB.1 hp with rfl|hp
  ·exact ⟨aq _ _ _,aY h.le hb⟩
  ·obtain ⟨a,c⟩:=h.z p hp;exact ⟨(aC _ _ (hne p hp)).trans a,c⟩
 ·rw [Yh,Zb];refine ⟨λhm=> ?_,h.nd⟩;obtain ⟨p,hp,e⟩:=X3.1 hm;exact hne p hp e
theorem Lo.upd (l1 l2:List (Nat×Γ×TypeId)) {b:Nat} {w0 w:Γ} {e:TypeId} (h:Lo G F (l1++(b,w0,e)::l2)) {F':PH} (hb:F' b=some (.cells w e)) (hk:cG (λx=>x=b) F F'):Lo G F' (l1++(b,w,e)::l2):=by
 obtain ⟨q,g⟩:=h.z (b,w0,e) (by simp);have nd:=h.nd;rw [XP,Yh] at nd;have hne:∀p,p∈l1\/p∈l2->p.1≠b:=λp hp e=>by
  obtain ⟨_,n2,n3⟩:=X4.1 nd;rcases hp with hp|hp
  ·exact n3 p.1 (X3.2 ⟨p,hp,rfl⟩) b (by simp) e
  ·exact (Zb.1 n2).1 (X3.2 ⟨p,hp,e⟩)
 have hkp:∀p,p∈l1\/p∈l2->F' p.1=some (.cells p.2.1 p.2.2)/\G p.1=none:=λp hp=>by obtain ⟨a,c⟩:=h.z p (by simp only [XD,XB];rcases hp with hp|hp<;>simp [hp]);exact ⟨hk _ _ a (hne p hp),c⟩
 refine ⟨λx o hx=>hk x o (h.le x o hx) λe=>(by rw [e] at hx;rw [g] at hx;cases hx),λp hp=> ?_,by rw [XP,Yh];exact nd⟩;rcases XD.1 hp with hp|hp
 ·exact hkp p (.inl hp)
 ·rcases XB.1 hp with rfl|hp
  ·exact ⟨hb,g⟩
  ·exact hkp p (.inr hp)
theorem Lo.put (l1 l2:List (Nat×Γ×TypeId)) {b n:Nat} {w0 w:Γ} {e:TypeId} (h:Lo G F (l1++(b,w0,e)::l2)) (h1:w.size=n) (h2:w0.size=n) (hst:∀v∈w.toList,ai v)
  {K:Ψ} (k:∀F',Lo G F' (l1++(b,w,e)::l2)->K F'):
  w.size=n/\(∀v∈w.toList,ai v)/\∃c e,F (Addr.mk b 0 none).block=some (.cells c e (0,0))/\(Addr.mk b 0 none).spot=none/\(Addr.mk b 0 none).off+n<=c.size/\
   atF (F.set (Addr.mk b 0 none).block (.cells (wr c (Addr.mk b 0 none).off w.toList) e)) K:=by
 obtain ⟨q,g⟩:=h.z (b,w0,e) (by simp);refine stW q h1 h2 hst (k _ (h.upd l1 l2 (aq _ _ _) (cG.set _ (.inl rfl))))
theorem Lo.put1 (l1 l2:List (Nat×Γ×TypeId)) {b i:Nat} {w0 w:Γ} {v:Value} {e:TypeId} (h:Lo G F (l1++(b,w0,e)::l2)) (h2:i<w0.size) (hw:w0.setIfInBounds i v=w)
  {K:Ψ} (k:∀F',Lo G F' (l1++(b,w,e)::l2)->K F'):
  ∃c e,F (Addr.mk b i none).block=some (.cells c e (0,0))/\(Addr.mk b i none).spot=none/\(Addr.mk b i none).off<c.size/\
   atF (F.set (Addr.mk b i none).block (.cells (c.setIfInBounds (Addr.mk b i none).off v) e)) K:=by
 obtain ⟨q,g⟩:=h.z (b,w0,e) (by simp);subst hw;exact st1 (o:=i) q h2 (k _ (h.upd l1 l2 (aq _ _ _) (cG.set _ (.inl rfl))))
theorem Lo.join (l1 l2:List (Nat×Γ×TypeId)) {b:Nat} {P Q:Nat->Bool} (h:Lo G F (l1++(b,plA P,275)::l2)):
  ae prog 225 #[pa b,.agg (plA Q)] F λr F'=>r=.tuple #[]/\Lo G F' (l1++(b,plA (λi=>P i || Q i),275)::l2):=by
 obtain ⟨q,g⟩:=h.z (b,plA P,275) (by simp);refine (ui (Q:=Q) (jZ.own.2 q)).mono ?_;rintro _ F' ⟨rfl,hs,hk⟩;exact ⟨rfl,h.upd l1 l2 (jZ.own.1 hs) hk⟩
theorem Lo.add (l1 l2:List (Nat×Γ×TypeId)) {b i:Nat} {P:Nat->Bool} (hi:i<512) (h:Lo G F (l1++(b,plA P,275)::l2)):
  ae prog 227 #[pa b,vi i] F λr F'=>r=.tuple #[]/\Lo G F' (l1++(b,plA (λj=>P j || decide (j=i)),275)::l2):=by
 obtain ⟨q,g⟩:=h.z (b,plA P,275) (by simp);refine (Ew hi q).mono ?_;rintro _ F' ⟨rfl,rfl⟩;exact ⟨rfl,h.upd l1 l2 (aq _ _ _) (cG.set _ (.inl rfl))⟩
end
def cW (n:Nat) (R:Nat->Nat->Bool):Ξ:=(List.range n).flatMap λi=>(plA (R i)).toList
theorem ve (n:Nat) (R:Nat->Nat->Bool):(cW n R).length=n*8:=by
 unfold cW;induction n with
 |zero=>rfl
 |succ n ih=>rw [List.range_succ,XU,N3,ih];simp [plA];omega
theorem qM {f g:Nat->Ξ}:∀{l:Δ},(∀j∈l,f j=g j)->l.flatMap f=l.flatMap g
 |[],_=>rfl
 |a::l,h=>by rw [XT,XT,h a (by simp),qM λj hj=>h j (by simp [hj])]
theorem xF (f:Nat->Ξ) {n i:Nat} (hi:i<n):(List.range n).flatMap f=(List.range i).flatMap f++f i++((List.range (n - i - 1)).map (· +(i+1))).flatMap f:=by
 have:List.range n=List.range i++[i]++(List.range (n - i - 1)).map (· +(i+1)):=by
  have h1:n=(i+1)+(n - i - 1):=by omega
  rw [h1,List.range_add,List.range_succ,show i+1+(n - i - 1) - i - 1=n - i - 1 by omega];congr 1;apply Y6;intro a _;omega
 rw [this,XU,XU,XT,List.flatMap_nil,Ye]
theorem nX {n:Nat} {R S:Nat->Nat->Bool} (h:∀i,i<n->R i=S i):cW n R=cW n S:=by unfold cW;exact qM λj hj=>by rw [h j (Yu.1 hj)]
theorem nY {n i:Nat} (hi:i<n) (R:Nat->Nat->Bool):∃pre post,pre.length=i*8/\cW n R=pre++(plA (R i)).toList++post/\∀R',(∀j,j≠i->R' j=R j)->cW n R'=pre++(plA (R' i)).toList++post:=by
 refine ⟨cW i R,((List.range (n - i - 1)).map (· +(i+1))).flatMap (λj=>(plA (R j)).toList),ve i R,xF _ hi,λR' h=> ?_⟩;have e:=xF (λj=>(plA (R' j)).toList) hi;have e1:cW i R'=cW i R:=nX λj hj=>h j (by omega);have e2:((List.range (n - i - 1)).map (· +(i+1))).flatMap (λj=>(plA (R' j)).toList)=((List.range (n - i - 1)).map (· +(i+1))).flatMap (λj=>(plA (R j)).toList):=qM λj hj=>by obtain ⟨a,_,rfl⟩:=X3.1 hj;rw [h _ (by omega)]
 rw [e2] at e;rw [<- e1];exact e
structure Lnk (F:PH) (b3 bm bf n:Nat) (R:Nat->Nat->Bool):Prop where
 tab:Tab F
 q3:F b3=some (.cells #[pa bm] 272)
 q17:∃mc,F bm=some (.cells mc 278)/\mc[17]? =some (Sl.v ⟨some ⟨bf,0,none⟩,n,n⟩)
 qf:F bf=some (.cells (cW n R).toArray 275)
theorem Lnk.keep {F F':PH} {b3 bm bf n:Nat} {R R':Nat->Nat->Bool} (h:Lnk F b3 bm bf n R) (hk:cG (λx=>x=bf) F F') (hf:F' bf=some (.cells (cW n R').toArray 275)) (h0:bf≠0):Lnk F' b3 bm bf n R':=by
 obtain ⟨tab,q3,⟨mc,qm,h17⟩,qf⟩:=h;refine ⟨λk v hv=> ?_,hk _ _ q3 λe=> ?_,⟨mc,hk _ _ qm λe=> ?_,h17⟩,hf⟩
 ·have:=tab k v hv;unfold PH.cell at this ⊢;cases hz:F 0 with
  |none=>rw [hz] at this;cases this
  |some o=>rw [hz] at this;rw [hk _ _ hz h0.symm];exact this
 ·rw [e,qf] at q3;simp at q3
 ·rw [e,qf] at qm;simp at qm
theorem Lnk.le {F F':PH} {b3 bm bf n:Nat} {R:Nat->Nat->Bool} (h:Lnk F b3 bm bf n R) (hl:F.le F'):Lnk F' b3 bm bf n R:=by obtain ⟨tab,q3,⟨mc,qm,h17⟩,qf⟩:=h;exact ⟨tab.le hl,hl _ _ q3,⟨mc,hl _ _ qm,h17⟩,hl _ _ qf⟩
section
variable {F:PH} {b3 bm bf n:Nat} {R:Nat->Nat->Bool}
theorem zn (h:Lnk F b3 bm bf n R) (h0:bf≠0) {i bt:Nat} {Q:Nat->Bool} (hi:i<n) (ht:F bt=some (.cells (plA Q) 275)) (hne:bt≠bf):
  ae prog 224 #[vi i,pa b3,pa bt] F λr F'=>r=.tuple #[]/\Lnk F' b3 bm bf n (λk j=>R k j || (decide (k=i) && Q j))/\cG (λx=>x=bf) F F':=by
 obtain ⟨tab,q3,⟨mc,qm,h17⟩,qf⟩:=id h;refine R1 ?_;unfold Mh;obtain ⟨pre,post,hpre,hsp,hup⟩:=nY hi R;have c3:F.cell (Addr.mk b3 0 none)=some (pa bm):=by rw [an q3];rfl
 have c17:F.cell ((Addr.mk bm 0 none).add 17)=some (Sl.v ⟨some ⟨bf,0,none⟩,n,n⟩):=by rw [cg,XZ,an qm];exact h17
 refine ⟨_,rfl,_,c3,_,rfl,_,c17,_,rfl,by omega,by simp only;omega,_,rfl,plA Q,rfl,aj ht,?_⟩;have ea:(Addr.mk bf 0 none).add (Int.toNat (i:Int)*8)=⟨bf,pre.length,none⟩:=by rw [cg,XZ,N5,hpre]
 rw [ea];have hs:jZ F bf 275 pre (R i) post:=by unfold jZ;rw [<- hsp];exact qf
 refine (ui (Q:=Q) hs).mono ?_;rintro _ F' ⟨rfl,hs',hk⟩;have e:∀k,k≠i->(λk j=>R k j || (decide (k=i) && Q j)) k=R k:=λk hk=>by funext j;simp [hk]
 have hL:Lnk F' b3 bm bf n (λk j=>R k j || (decide (k=i) && Q j)):=h.keep hk (by
  rw [hup _ e];have:(λj=>R i j || (decide (i=i) && Q j))=λj=>R i j || Q j:=by funext j;simp
  show F' bf=some (.cells (pre++(plA (λj=>R i j || (decide (i=i) && Q j))).toList++post).toArray 275);rw [this]
  exact hs') h0
 obtain ⟨mc',qm',h17'⟩:=hL.q17;exact ⟨rfl,by rw [cg,XZ,an qm'];exact h17',by rw [an hL.q3];rfl,rfl,hL,hk⟩
theorem O3:aB prog 224=true:=by kernel_rfl
theorem tU (h:Lnk F b3 bm bf n R) (h0:bf≠0) (hn:n<=512) {P Q:Nat->Bool} (hP:∀i,P i=true->i<n):
  ae prog 222 #[.agg (plA P),.agg (plA Q),pa b3] F λr F'=>r=.tuple #[]/\Lnk F' b3 bm bf n (λk j=>R k j || (P k && Q j))/\cG (λx=>x=bf) F F':=by
 refine RZ ?_;unfold Mf;intro c hc;refine atI ?_;have lc:=ac (.cells (plA P) 275) hc;have qc:=aq F c (.cells (plA P) 275);generalize F.set c (.cells (plA P) 275)=F1 at*;intro d hd;refine atI ?_;have ld:=ac (.cells (plA Q) 275) hd;have qd:=aq F1 d (.cells (plA Q) 275);have qc':=ld _ _ qc;generalize F1.set d (.cells (plA Q) 275)=F2 at*;have hcf:c≠bf:=λe=>by rw [e,h.qf] at hc;cases hc
 have hdf:d≠bf:=λe=>by rw [e,lc _ _ h.qf] at hd;cases hd
 have l2:=aa lc ld
 refine (uj (a:=⟨c,0,none⟩) (P:=P) (k:=224) (cap:= #[pa b3,pa d]) (Inv:=λm F'=>Lnk F' b3 bm bf n (λk j=>R k j || (decide (k<m) && P k && Q j))/\cG (λx=>x=bf) F2 F') O3 rfl
  (λm F' hI=>⟨hI.1.tab,aj (hI.2 _ _ qc' hcf)⟩) (λi F' hi hp hI=> ?_) (λi F' hi hp hI=> ?_) ⟨?_,cG.refl _ _⟩).mono ?_
 ·refine ⟨?_,hI.2⟩;have:(λk j=>R k j || (decide (k<i+1) && P k && Q j))=λk j=>R k j || (decide (k<i) && P k && Q j):=by
   funext k j;by_cases hk:k=i
   ·subst hk;simp [hp]
   ·rw [show decide (k<i+1)=decide (k<i) by rw [XE];simp;omega]
  rw [this];exact hI.1
 ·refine (zn hI.1 h0 (hP i hp) (hI.2 _ _ qd hdf) hdf).mono ?_;rintro _ F'' ⟨rfl,hL,hk⟩;refine ⟨rfl,?_,hI.2.trans hk⟩;have:(λk j=>(R k j || (decide (k<i) && P k && Q j)) || (decide (k=i) && Q j))=λk j=>R k j || (decide (k<i+1) && P k && Q j):=by
   funext k j;by_cases hk:k=i
   ·subst hk;simp [hp]
   ·rw [show decide (k<i+1)=decide (k<i) by rw [XE];simp;omega];simp [hk]
  rw [<- this];exact hL
 ·have:(λk j=>R k j || (decide (k<0) && P k && Q j))=R:=by funext k j;simp
  rw [this];exact h.le l2
 ·rintro _ F' ⟨rfl,hL,hk⟩;refine ⟨rfl,rfl,?_,λx o hx hn=>hk x o (l2 _ _ hx) hn⟩;have:Lnk F' b3 bm bf n (λk j=>R k j || (P k && Q j)):=by
   refine ⟨hL.tab,hL.q3,hL.q17,?_⟩;have e:cW n (λk j=>R k j || (P k && Q j))=cW n (λk j=>R k j || (decide (k<512) && P k && Q j)):=by refine nX λi hi=> ?_;funext j;rw [show decide (i<512)=true by simp;omega,Bool.true_and]
   rw [e];exact hL.qf
  exact this
end
end Go.Proofs.YtenpmjhnhepfdaaGreatDoor
