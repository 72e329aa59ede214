/-
  Variables beside a heap that calls work on; the links of a machine.
-/
import Derived.Test.YtenpmjhnhepfdaaGreatDoorGbits
import Derived.Test.YtenpmjhnhepfdaaGreatDoorGkoineref04
import Derived.Test.YtenpmjhnhepfdaaGreatDoorGpattern
namespace Go.Proofs.YtenpmjhnhepfdaaGreatDoor
open Go Go.Proofs.Tryz
set_option maxRecDepth 10000
section
variable {F:PH}
theorem rdn {s:Sl} {l:List Nd} (h:RdS F s 5 (eg l)) {i:Nat} {x:Nd} (hx:l[i]? =some x):∃a,s.base=some a∧F.row (a.add (i*5)) x.arr:=by
 obtain ⟨hi,hx⟩:=List.getElem?_eq_some_iff.1 hx
 subst hx
 have hlen:=h.nlen
 obtain ⟨b,o,hb,_⟩:=h.cells (by omega)
 exact ⟨_,hb,h.row hb (i*5) l[i].arr (by
  have:=rt l i hi
  simpa [Nd.arr,Nd.cells] using this.symm)⟩
end
def ar (k:Int):Int:=if k=4 then 1 else if k=2∨k=3 then 2 else if k=0∨k=1 then 0 else -1
def okN (i:Nat) (x:Nd):Prop:=0≤ar x.k∧(x.k=1→0≤x.lo∧x.lo≤x.hi∧x.hi≤255)∧(x.k≠1→x.lo=0∧x.hi=0)∧(ar x.k<1→x.a=0)∧(ar x.k<2→x.b=0)∧
 (1≤ar x.k→0≤x.a∧x.a<i)∧(2≤ar x.k→0≤x.b∧x.b<i)
def us (x:Nd):List Int:=if 2≤ar x.k then [x.b,x.a] else if 1≤ar x.k then [x.a] else []
def usL:List Nd→List Int
 |[]=>[]
 |x::l=>usL l++us x
theorem ph (l:List Nd) (x:Nd):usL (l++[x])=us x++usL l:=by
 induction l with
 |nil=>simp [usL]
 |cons y l ih=>simp [usL,ih]
structure GoodL (l:List Nd):Prop where
 ne:l≠[]
 ok:∀i x,l[i]? =some x→okN i x
 nd:(usL l).Nodup
 all:∀i:Nat,i+1<l.length→(i:Int)∈usL l
open Classical in
noncomputable def fX (l:List Nd):Int:=if 512<l.length then 2 else if GoodL l then 0 else 40
section
variable {F0 F:PH}
theorem wH (k:Int):ac prog 202 #[vi k] F fun r F'=>r=vi (ar k)∧F'=F:=by
 refine ML ?_
 unfold GO
 have j1:∀t:Bool,t=decide (k=0∨k=1)→ni k t (fun r F'=>r=vi (ar k)∧F'=F) F:=fun t ht=>by
  unfold ni
  refine ⟨fun h=>⟨?_,rfl⟩,fun h=> ?_⟩
  ·have:=of_decide_eq_true (ht.symm.trans h)
   have e1:ar k=0:=by unfold ar;rw [if_neg (by omega),if_neg (by omega),if_pos (by omega)]
   rw [e1]
  ·have h01:=of_decide_eq_false (ht.symm.trans h)
   refine ⟨fun h4=>⟨?_,rfl⟩,fun h4=>⟨fun h2=>⟨fun _=>⟨?_,rfl⟩,fun h=>absurd h2 h⟩,fun h2=>⟨fun h3=>⟨?_,rfl⟩,fun h3=>⟨?_,rfl⟩⟩⟩⟩
   ·have e1:ar k=1:=by unfold ar;rw [if_pos (by omega)]
    rw [e1]
   ·have e1:ar k=2:=by unfold ar;rw [if_neg (by omega),if_pos (by omega)]
    rw [e1]
   ·have e1:ar k=2:=by unfold ar;rw [if_neg (by omega),if_pos (by omega)]
    rw [e1]
   ·have e1:ar k= -1:=by unfold ar;rw [if_neg (by omega),if_neg (by omega),if_neg (by omega)]
    rw [e1]
 refine ⟨fun h=>j1 _ ?_,fun h=>j1 _ ?_⟩
 ·rw [Bool.eq_iff_iff];simp;omega
 ·rw [Bool.eq_iff_iff];simp;omega
def fY (n:Nat) (W:List Int):List Value:=(List.range n).map fun (i:Nat)=>Value.bool (decide ((i:Int)∈W))
structure Usd (F0 F:PH) (b u n:Nat) (W:List Int):Prop where
 zb:F0 b=none
 zu:F0 u=none
 le:F0.le F
 ne:u≠b
 qb:F b=some (.cells #[Sl.v ⟨some ⟨u,0,none⟩,n,n⟩] 265)
 qu:F u=some (.cells (fY n W).toArray 4)
theorem Ao (n:Nat) (W:List Int) (i:Nat) (hi:i<n):(fY n W).toArray.setIfInBounds i (.bool true)=(fY n ((i:Int)::W)).toArray:=by
 apply Array.ext'
 rw [Array.toList_setIfInBounds]
 apply List.ext_getElem?
 intro j
 rw [List.getElem?_set]
 simp only [fY,List.length_map,List.length_range,List.getElem?_map]
 by_cases h:i=j
 ·subst h
  rw [if_pos rfl,if_pos hi,List.getElem?_range hi]
  simp
 ·rw [if_neg h]
  by_cases hj:j<n
  ·rw [List.getElem?_range hj]
   simp only [Option.map_some,List.mem_cons]
   congr 2
   rw [Bool.eq_iff_iff]
   simp only [decide_eq_true_eq]
   constructor
   ·exact .inr
   ·rintro (e|e)
    ·omega
    ·exact e
  ·rw [List.getElem?_eq_none (by simp;omega)]
   rfl
theorem rp {n:Nat} {W:List Int} {i:Nat} (hi:i<n):(fY n W).toArray[i]? =some (.bool (decide ((i:Int)∈W))):=by
 simp [fY,hi]
theorem pj {b u n:Nat} {W:List Int} (h:Usd F0 F b u n W) (i:Int) {at_:Nat} (ha:at_≤n):
  ac prog 201 #[vi i,vi at_,pa b] F fun r F'=>((0≤i∧i<at_∧i ∉ W)∧r=.bool true∧Usd F0 F' b u n (i::W)∧∀x,x≠u→F' x=F x)∨(¬(0≤i∧i<at_∧i ∉ W)∧r=.bool false∧F'=F):=by
 refine MK ?_
 unfold GN
 refine ⟨fun h0=> .inr ⟨by omega,rfl,rfl⟩,fun h0=>⟨fun h1=> .inr ⟨by omega,rfl,rfl⟩,fun h1=> ?_⟩⟩
 obtain ⟨k,rfl⟩:=Int.eq_ofNat_of_zero_le (by omega:0≤i)
 have hk:k<n:=by omega
 have hr:F.cell ((Addr.mk u 0 none).add (Int.toNat (k:Int)*1))=some (.bool (decide ((k:Int)∈W))):=by
  rw [Int.toNat_natCast,Nat.mul_one,show (Addr.mk u 0 none).add k=⟨u,k,none⟩ by simp [Addr.add,Nat.zero_add];omega,am h.qu]
  exact rp hk
 have hc:F.cell ⟨b,0,none⟩=some (Sl.v ⟨some ⟨u,0,none⟩,n,n⟩):=by rw [am h.qb];rfl
 refine ⟨_,rfl,_,hc,_,rfl,by omega,by simp only;omega,_,hr,fun hm=> .inr ⟨fun hn=>hn.2.2 (of_decide_eq_true hm),rfl,rfl⟩,fun hm=>⟨_,hc,_,rfl,by omega,by simp only;omega,?_⟩⟩
 have hm:=of_decide_eq_false hm
 refine ql (b:=u) (o:=k) (by rw [Int.toNat_natCast,Nat.mul_one];simp [Addr.add];omega) h.qu (by simp [fY];exact hk) ?_
 refine .inl ⟨⟨by omega,by omega,hm⟩,rfl,⟨h.zb,h.zu,aw h.le h.zu,h.ne,?_,?_⟩,fun x hx=>az _ _ hx⟩
 ·rw [az _ _ h.ne.symm]
  exact h.qb
 ·show (F.set u (.cells ((fY n W).toArray.setIfInBounds k (.bool true)) 4)) u=_
  rw [Ao n W k hk]
  exact an _ _ _
theorem CX {s:Sl} {b u n b6 j:Nat} {W:List Int} {x:Nd} {ok:Bool} {N:Int→PH→Prop} {R:Value→PH→Prop} (h:Usd F0 F b u n W) (q6:F b6=some (.cells x.arr 97)) (hj:j≤n) (hu:u≠b6)
  (bad:¬(ok=true∧(ar x.k<1→x.a=0)∧(ar x.k<2→x.b=0)∧(1≤ar x.k→0≤x.a∧x.a<j∧x.a ∉ W)∧(2≤ar x.k→0≤x.b∧x.b<j∧x.b ∉ x.a::W))→∀F',F0.le F'→R (vi 40) F')
  (good:(ok=true∧(ar x.k<1→x.a=0)∧(ar x.k<2→x.b=0)∧(1≤ar x.k→0≤x.a∧x.a<j∧x.a ∉ W)∧(2≤ar x.k→0≤x.b∧x.b<j∧x.b ∉ x.a::W))→∀F',Usd F0 F' b u n (us x++W)→N (IntKind.i64.wrap ((j:Int)+1)) F'):
  eP N s b j b6 (ar x.k) ok R F:=by
 have cA:∀{F':PH},F' b6=some (.cells x.arr 97)→F'.cell (Addr.mk b6 3 none)=some (vi x.a):=fun h=>by rw [am h];rfl
 have cB:∀{F':PH},F' b6=some (.cells x.arr 97)→F'.cell (Addr.mk b6 4 none)=some (vi x.b):=fun h=>by rw [am h];rfl
 unfold eP
 refine ⟨fun hk=>bad (fun hg=>by rw [hg.1] at hk;cases hk) _ h.le,fun hk=> ?_⟩
 have hok:ok=true:=by simpa using hk
 refine ⟨fun h1=>⟨_,cA q6,fun ha=>bad (fun hg=>ha (hg.2.1 h1)) _ h.le,fun ha=>⟨fun h2=>⟨_,cB q6,fun hb=>bad (fun hg=>hb (hg.2.2.1 h2)) _ h.le,fun hb=>⟨fun h3=>absurd h3 (by omega),fun h3=>⟨fun h4=>absurd h4 (by omega),fun h4=> ?_⟩⟩⟩,fun h2=>absurd h2 (by omega)⟩⟩,
  fun h1=>⟨fun h2=>⟨_,cB q6,fun hb=>bad (fun hg=>hb (hg.2.2.1 h2)) _ h.le,fun hb=>⟨fun h3=>⟨_,cA q6,?_⟩,fun h3=>absurd h3 (by omega)⟩⟩,fun h2=>⟨fun h3=>⟨_,cA q6,?_⟩,fun h3=>absurd h3 (by omega)⟩⟩⟩
 ·unfold bJ
  refine good ⟨hok,fun _=>by omega,fun _=>by omega,fun h=>by omega,fun h=>by omega⟩ _ ?_
  have:us x=[]:=by unfold us;rw [if_neg h4,if_neg h3]
  rw [this]
  exact h
 ·refine (pj h x.a hj).mono ?_
  rintro _ F2 (⟨hg,rfl,h2',hk2⟩|⟨hg,rfl,rfl⟩)
  ·refine ⟨_,rfl,fun h=>by simp at h,fun _=>⟨fun h4=>absurd h4 (by omega),fun h4=> ?_⟩⟩
   unfold bJ
   refine good ⟨hok,fun _=>by omega,fun _=>by omega,fun _=>hg,fun h=>by omega⟩ _ ?_
   have:us x=[x.a]:=by unfold us;rw [if_neg h4,if_pos h3]
   rw [this]
   exact h2'
  ·exact ⟨_,rfl,fun _=>bad (fun hg2=>hg (hg2.2.2.2.1 h3)) _ h.le,fun h=>by simp at h⟩
 ·refine (pj h x.a hj).mono ?_
  rintro _ F2 (⟨hg,rfl,h2',hk2⟩|⟨hg,rfl,rfl⟩)
  ·have q6':F2 b6=some (.cells x.arr 97):=(hk2 _ hu.symm).trans q6
   refine ⟨_,rfl,fun h=>by simp at h,fun _=>⟨fun h4=>⟨_,cB q6',?_⟩,fun h4=>absurd h4 (by omega)⟩⟩
   refine (pj h2' x.b hj).mono ?_
   rintro _ F3 (⟨hg3,rfl,h3',hk3⟩|⟨hg3,rfl,rfl⟩)
   ·refine ⟨_,rfl,fun h=>by simp at h,fun _=> ?_⟩
    unfold bJ
    refine good ⟨hok,fun _=>by omega,fun _=>by omega,fun _=>hg,fun _=>hg3⟩ _ ?_
    have:us x=[x.b,x.a]:=by unfold us;rw [if_pos h4]
    rw [this]
    exact h3'
   ·exact ⟨_,rfl,fun _=>bad (fun hg2=>hg3 (hg2.2.2.2.2 h4)) _ h2'.le,fun h=>by simp at h⟩
  ·exact ⟨_,rfl,fun _=>bad (fun hg2=>hg (hg2.2.2.2.1 h3)) _ h.le,fun h=>by simp at h⟩
end
theorem PO:tsz prog 4=some (1,1):=by kernel_rfl
theorem PP:bu prog 4=some (.bool false):=by kernel_rfl
structure GoodTo (l:List Nd) (j:Nat):Prop where
 ok:∀i x,i<j→l[i]? =some x→okN i x
 nd:(usL (l.take j)).Nodup
theorem GoodTo.zero (l:List Nd):GoodTo l 0:=⟨fun i x h=>by omega,by simp [usL]⟩
theorem uR {j:Nat} {x:Nd} {W:List Int}:(okN j x∧(us x++W).Nodup)↔W.Nodup∧(0≤ar x.k∧(x.k=1→0≤x.lo∧x.lo≤x.hi∧x.hi≤255)∧(x.k≠1→x.lo=0∧x.hi=0))∧
  (ar x.k<1→x.a=0)∧(ar x.k<2→x.b=0)∧(1≤ar x.k→0≤x.a∧x.a<j∧x.a ∉ W)∧(2≤ar x.k→0≤x.b∧x.b<j∧x.b ∉ x.a::W):=by
 unfold okN us
 by_cases h2:2≤ar x.k
 ·rw [if_pos h2]
  simp only [List.cons_append,List.nil_append,List.nodup_cons,List.mem_cons,not_or]
  constructor
  ·rintro ⟨⟨a1,a2,a3,a4,a5,a6,a7⟩,⟨n1,n2⟩,n3,n4⟩
   exact ⟨n4,⟨a1,a2,a3⟩,a4,a5,fun h=>⟨(a6 h).1,(a6 h).2,n3⟩,fun h=>⟨(a7 h).1,(a7 h).2,n1,n2⟩⟩
  ·rintro ⟨n4,⟨a1,a2,a3⟩,a4,a5,a6,a7⟩
   exact ⟨⟨a1,a2,a3,a4,a5,fun h=>⟨(a6 h).1,(a6 h).2.1⟩,fun h=>⟨(a7 h).1,(a7 h).2.1⟩⟩,⟨(a7 h2).2.2.1,(a7 h2).2.2.2⟩,(a6 (by omega)).2.2,n4⟩
 ·rw [if_neg h2]
  by_cases h1:1≤ar x.k
  ·rw [if_pos h1]
   simp only [List.cons_append,List.nil_append,List.nodup_cons]
   constructor
   ·rintro ⟨⟨a1,a2,a3,a4,a5,a6,a7⟩,n3,n4⟩
    exact ⟨n4,⟨a1,a2,a3⟩,a4,a5,fun h=>⟨(a6 h).1,(a6 h).2,n3⟩,fun h=>absurd h h2⟩
   ·rintro ⟨n4,⟨a1,a2,a3⟩,a4,a5,a6,a7⟩
    exact ⟨⟨a1,a2,a3,a4,a5,fun h=>⟨(a6 h).1,(a6 h).2.1⟩,fun h=>absurd h h2⟩,(a6 h1).2.2,n4⟩
  ·rw [if_neg h1]
   simp only [List.nil_append]
   constructor
   ·rintro ⟨⟨a1,a2,a3,a4,a5,a6,a7⟩,n4⟩
    exact ⟨n4,⟨a1,a2,a3⟩,a4,a5,fun h=>absurd h h1,fun h=>absurd h h2⟩
   ·rintro ⟨n4,⟨a1,a2,a3⟩,a4,a5,a6,a7⟩
    exact ⟨⟨a1,a2,a3,a4,a5,fun h=>absurd h h1,fun h=>absurd h h2⟩,n4⟩
theorem GoodTo.succ {l:List Nd} {j:Nat} {x:Nd} (hx:l[j]? =some x):GoodTo l (j+1)↔GoodTo l j∧okN j x∧(us x++usL (l.take j)).Nodup:=by
 have e:l.take (j+1)=l.take j++[x]:=by rw [List.take_add_one,hx];rfl
 constructor
 ·rintro ⟨h1,h2⟩
  rw [e,ph] at h2
  exact ⟨⟨fun i y hi hy=>h1 i y (by omega) hy,(List.nodup_append.1 h2).2.1⟩,h1 j x (by omega) hx,h2⟩
 ·rintro ⟨⟨h1,h2⟩,h3,h4⟩
  refine ⟨fun i y hi hy=> ?_,by rw [e,ph];exact h4⟩
  by_cases hij:i=j
  ·subst hij
   rw [hx] at hy
   cases hy
   exact h3
  ·exact h1 i y (by omega) hy
theorem GoodL_iff (l:List Nd):GoodL l↔GoodTo l l.length∧(∀i:Nat,i+1<l.length→(i:Int)∈usL l)∧l≠[]:=by
 constructor
 ·rintro ⟨h1,h2,h3,h4⟩
  exact ⟨⟨fun i x _ hx=>h2 i x hx,by rw [List.take_length];exact h3⟩,h4,h1⟩
 ·rintro ⟨⟨h2,h3⟩,h4,h1⟩
  rw [List.take_length] at h3
  exact ⟨h1,fun i x hx=>h2 i x (by have:=(List.getElem?_eq_some_iff.1 hx).1;omega) hx,h3,h4⟩
theorem CY {l:List Nd} (hl:l.length≤512) (h:¬GoodL l):fX l=40:=by unfold fX;rw [if_neg (by omega),if_neg h]
theorem Aq {l:List Nd} (hl:l.length≤512) (h:GoodL l):fX l=0:=by unfold fX;rw [if_neg (by omega),if_pos h]
section
variable {F:PH}
theorem mq {s:Sl} {l:List Nd} (hs:RdS F s 5 (eg l)):ac prog 150 #[s.v] F fun r F'=>r=vi (fX l)∧F.le F':=by
 have hlen:=hs.nlen
 refine MI ?_
 unfold GL
 refine ⟨fun h=>⟨?_,le_refl' F⟩,fun h=> ?_⟩
 ·have e:fX l=2:=by unfold fX;rw [if_pos (by omega)]
  rw [e]
 have hl:l.length≤512:=by omega
 refine cN underlying265 PO PP rfl (by omega) (Int.le_refl _) (by omega) (by omega) ?_
 intro u hu
 rw [zc1 _ rfl,Int.toNat_natCast,hlen]
 have em:(List.replicate l.length (Value.bool false)).toArray=(fY l.length []).toArray:=by
  congr 1
  apply List.ext_getElem?
  intro j
  by_cases hj:j<l.length
  ·simp [fY,hj]
  ·rw [List.getElem?_eq_none (by simp;omega),List.getElem?_eq_none (by simp [fY];omega)]
 rw [em]
 refine ⟨_,rfl,fun b3 hb3=> ?_⟩
 refine atI ?_
 have hne:u≠b3:=fun e=>by rw [e,an] at hb3;cases hb3
 have hb3F:F b3=none:=by rwa [az _ _ hne.symm] at hb3
 refine st1 (an _ _ _) (by simp) ?_
 rw [ba]
 have hU:Usd F ((F.set u (.cells (fY l.length []).toArray 4)).set b3 (.cells #[Sl.v ⟨some ⟨u,0,none⟩,l.length,l.length⟩] 265)) b3 u l.length []:=
  ⟨hb3F,hu,aw (ae _ hu) hb3F,hne,an _ _ _,by rw [az _ _ hne];exact an _ _ _⟩
 show ∃(I2:Nat→Int→PH→Prop) (m2:Nat),_
 have e0:(#[Value.slice Option.none 0 0]:Array Value).setIfInBounds 0 (Sl.v ⟨some ⟨u,0,none⟩,l.length,l.length⟩)= #[Sl.v ⟨some ⟨u,0,none⟩,l.length,l.length⟩]:=rfl
 rw [e0]
 generalize (F.set u (.cells (fY l.length []).toArray 4)).set b3 (.cells #[Sl.v ⟨some ⟨u,0,none⟩,l.length,l.length⟩] 265)=F1 at*
 have bad:∀{F':PH},¬GoodL l→F.le F'→vi 40=vi (fX l)∧F.le F':=fun h hl'=>⟨by rw [CY hl h],hl'⟩
 refine ⟨fun m i F'=>∃j:Nat,i=j∧j≤l.length∧m=l.length - j∧GoodTo l j∧Usd F F' b3 u l.length (usL (l.take j)),l.length,⟨0,rfl,by omega,rfl,GoodTo.zero l,by simpa [usL] using hU⟩,?_⟩
 rintro _ _ F2 ⟨j,rfl,hj,rfl,hg,hW⟩
 unfold ym
 refine ⟨fun hlt=> ?_,fun hge=> ?_⟩
 ·have hjl:j<l.length:=by omega
  have hx:l[j]? =some l[j]:=List.getElem?_eq_getElem hjl
  generalize l[j]=x at hx
  obtain ⟨a,ha,hrow⟩:=rdn (hs.le hW.le) hx
  refine ⟨a,ha,by omega,by omega,x.arr,rfl,hrow,fun b6 hb6=> ?_⟩
  refine atI ?_
  refine stW (an _ _ _) rfl rfl (iS x) ?_
  rw [ba]
  have hub:u≠b6:=aG hb6 hW.qu
  have hW6:Usd F (F2.set b6 (.cells x.arr 97)) b3 u l.length (usL (l.take j)):=⟨hW.zb,hW.zu,aw hW.le (aU hW.le hb6),hW.ne,by rw [az _ _ (aG hb6 hW.qb)];exact hW.qb,by rw [az _ _ hub];exact hW.qu⟩
  have q6:=an F2 b6 (.cells x.arr 97)
  generalize F2.set b6 (.cells x.arr 97)=F3 at*
  have j4:∀ok:Bool,(ok=true↔(0≤ar x.k∧(x.k=1→0≤x.lo∧x.lo≤x.hi∧x.hi≤255)∧(x.k≠1→x.lo=0∧x.hi=0)))→
    eP (fun y2_0 F=>∃m',m'<l.length - j∧∃j:Nat,y2_0=j∧j≤l.length∧m'=l.length - j∧GoodTo l j∧Usd _ F b3 u l.length (usL (l.take j))) s b3 j b6 (ar x.k) ok (fun r F'=>r=vi (fX l)∧PH.le _ F') F3:=fun ok hok=>by
   refine CX hW6 q6 (by omega) hub (fun hn F' hl'=>bad (fun hG=>hn ?_) hl') fun hy F' hU'=> ?_
   ·obtain ⟨hgt,_,_⟩:=(GoodL_iff l).1 hG
    have h1:GoodTo l (j+1):=⟨fun i y hi hy=>hgt.ok i y (by omega) hy,by
     have:=hgt.nd
     rw [List.take_length] at this
     have e:usL l=usL (l.drop (j+1))++usL (l.take (j+1))∨True:=.inr trivial
     have hsub:∀(p q:List Nd),usL (p++q)=usL q++usL p:=by
      intro p q
      induction p with
      |nil=>simp [usL]
      |cons y p ih=>simp [usL,ih]
     rw [← List.take_append_drop (j+1) l,hsub] at this
     exact (List.nodup_append.1 this).2.1⟩
    obtain ⟨_,h3⟩:=(GoodTo.succ hx).1 h1
    obtain ⟨h4,h5,h6⟩:=uR.1 h3
    exact ⟨hok.2 h5,h6⟩
   ·refine ⟨l.length - (j+1),by omega,j+1,i6 (by omega),hjl,rfl,?_,?_⟩
    ·exact (GoodTo.succ hx).2 ⟨hg,uR.2 ⟨hg.nd,hok.1 hy.1,hy.2⟩⟩
    ·rw [List.take_add_one,hx]
     show Usd F F' b3 u l.length (usL (l.take j++[x]))
     rw [ph]
     exact hU'
  have c0:F3.cell (Addr.mk b6 0 none)=some (vi x.k):=by rw [am q6];rfl
  have c1:F3.cell (Addr.mk b6 1 none)=some (vi x.lo):=by rw [am q6];rfl
  have c2:F3.cell (Addr.mk b6 2 none)=some (vi x.hi):=by rw [am q6];rfl
  have a1:x.k=1→ar x.k=0:=fun h=>by unfold ar;rw [if_neg (by omega),if_neg (by omega),if_pos (by omega)]
  refine ⟨_,c0,?_⟩
  refine (wH _).mono ?_
  rintro _ F3' ⟨rfl,e⟩
  obtain rfl:=e.symm
  refine ⟨_,rfl,_,c0,fun h1=>⟨_,c1,fun h2=>⟨_,c1,_,c2,fun h3=>⟨_,c2,j4 _ ?_⟩,fun h3=>j4 _ ?_⟩,fun h2=>j4 _ ?_⟩,fun h1=>⟨_,c1,fun h2=>j4 _ ?_,fun h2=>⟨_,c2,fun h3=>j4 _ ?_,fun h3=>j4 _ ?_⟩⟩⟩
  ·have:=a1 h1
   rw [decide_eq_true_eq]
   exact ⟨fun h=>⟨by omega,fun _=>⟨h2,h3,h⟩,fun h=>absurd h1 h⟩,fun h=>(h.2.1 h1).2.2⟩
  ·exact ⟨fun h=>(by cases h),fun h=>absurd (h.2.1 h1).2.1 h3⟩
  ·exact ⟨fun h=>(by cases h),fun h=>absurd (h.2.1 h1).1 h2⟩
  ·exact ⟨fun h=>(by cases h),fun h=>absurd (h.2.2 h1).1 h2⟩
  ·exact ⟨fun h=>(by cases h),fun h=>absurd (h.2.2 h1).2 h3⟩
  ·rw [decide_eq_true_eq]
   exact ⟨fun h=>⟨h,fun h=>absurd h h1,fun _=>⟨by omega,by omega⟩⟩,fun h=>h.1⟩
 ·obtain rfl:j=l.length:=by omega
  rw [List.take_length] at hW
  unfold yl
  have ew:IntKind.i64.wrap ((s.len:Int) - 1)=(l.length:Int) - 1:=by rw [hlen,aK (by omega) (by omega)]
  refine ⟨fun m i F'=>∃j:Nat,i=j∧j≤l.length∧m=l.length - j∧F'=F2∧∀i:Nat,i<j→(i:Int)∈usL l,l.length,⟨0,rfl,by omega,rfl,rfl,fun i hi=>by omega⟩,?_⟩
  rintro _ _ F3 ⟨j,rfl,hj',rfl,e3,hall⟩
  obtain rfl:=e3.symm
  unfold yk
  rw [ew]
  refine ⟨fun hlt=> ?_,fun hge=> ?_⟩
  ·have hjl:j<l.length:=by omega
   have hr:F2.cell ((Addr.mk u 0 none).add (Int.toNat (j:Int)*1))=some (.bool (decide ((j:Int)∈usL l))):=by
    rw [Int.toNat_natCast,Nat.mul_one,show (Addr.mk u 0 none).add j=⟨u,j,none⟩ by simp [Addr.add,Nat.zero_add];omega,am hW.qu]
    exact rp hjl
   refine ⟨_,by rw [am hW.qb];rfl,_,rfl,by omega,by simp only;omega,_,hr,fun hm=>bad (fun hG=> ?_) hW.le,fun hm=>⟨l.length - (j+1),by omega,j+1,i6 (by omega),hjl,rfl,rfl,fun i hi=> ?_⟩⟩
   ·have:=hG.all j (by omega)
    simp [this] at hm
   ·by_cases hij:i=j
    ·subst hij
     simpa using hm
    ·exact hall i (by omega)
  ·unfold yj
   refine ⟨fun h0=>bad (fun hG=>hG.ne (List.length_eq_zero_iff.1 (by omega))) hW.le,fun h0=>⟨?_,hW.le⟩⟩
   rw [Aq hl ((GoodL_iff l).2 ⟨hg,fun i hi=>hall i (by omega),fun e=>by rw [e] at hlen;simp at hlen;omega⟩)]
end
def Par (l:List Nd) (j k:Nat):Prop:=∃x,l[k]? =some x∧(j:Int)∈us x
inductive Up (l:List Nd):Nat→Nat→Prop where
 |refl (j:Nat):Up l j j
 |step {j k m:Nat}:Up l j k→Par l k m→Up l j m
inductive cd (l:List Nd):Nat→Lt→List Nat→Prop where
 |emp {i:Nat} {x:Nd}:l[i]? =some x→x.k=0→cd l i .emp [i]
 |rng {i lo hi:Nat} {x:Nd}:l[i]? =some x→x.k=1→x.lo=lo→x.hi=hi→lo≤hi→hi≤255→cd l i (.rng i lo hi) [i]
 |seq {i a b:Nat} {x:Nd} {t u:Lt} {na nb:List Nat}:l[i]? =some x→x.k=2→x.a=a→x.b=b→cd l a t na→cd l b u nb→cd l i (.seq t u) (i::na++nb)
 |alt {i a b:Nat} {x:Nd} {t u:Lt} {na nb:List Nat}:l[i]? =some x→x.k=3→x.a=a→x.b=b→cd l a t na→cd l b u nb→cd l i (.alt t u) (i::na++nb)
 |rep {i a:Nat} {x:Nd} {t:Lt} {na:List Nat}:l[i]? =some x→x.k=4→x.a=a→cd l a t na→cd l i (.rep t) (i::na)
theorem gz {x:Nd} (h:x.k=2∨x.k=3):us x=[x.b,x.a]:=by
 have:ar x.k=2:=by unfold ar;rw [if_neg (by omega),if_pos h]
 unfold us
 rw [this]
 rfl
theorem CZ {x:Nd} (h:x.k=4):us x=[x.a]:=by
 have:ar x.k=1:=by unfold ar;rw [if_pos h]
 unfold us
 rw [this]
 rfl
theorem uS {k:Int} (h:0≤ar k):k=0∨k=1∨k=2∨k=3∨k=4:=by
 unfold ar at h
 split at h
 ·omega
 ·split at h
  ·omega
  ·split at h<;>omega
theorem sU {k:Int} (h:k=2∨k=3):ar k=2:=by unfold ar;rw [if_neg (by omega),if_pos h]
theorem C0 {k:Int} (h:k=4):ar k=1:=by unfold ar;rw [if_pos h]
theorem yf {k:Int} (h:k=0∨k=1):ar k=0:=by unfold ar;rw [if_neg (by omega),if_neg (by omega),if_pos h]
section
variable {l:List Nd} (hG:GoodL l)
include hG
theorem yg:∀(n i:Nat),i<n→i<l.length→∃t ns,cd l i t ns:=by
 intro n
 induction n with
 |zero=>intro i h;omega
 |succ n ih=>
  intro i hi hl
  have hx:=List.getElem?_eq_getElem hl
  have ho:=hG.ok i _ hx
  generalize l[i]=x at hx ho
  obtain ⟨h0,h1,h2,h3,h4,h5,h6⟩:=ho
  rcases uS h0 with hk|hk|hk|hk|hk
  ·exact ⟨_,_,.emp hx hk⟩
  ·obtain ⟨a,b,c⟩:=h1 hk
   exact ⟨_,_,.rng (lo:=x.lo.toNat) (hi:=x.hi.toNat) hx hk (by omega) (by omega) (by omega) (by omega)⟩
  ·have e:=sU (k:=x.k) (.inl hk)
   obtain ⟨a1,a2⟩:=h5 (by omega)
   obtain ⟨b1,b2⟩:=h6 (by omega)
   obtain ⟨t,na,ht⟩:=ih x.a.toNat (by omega) (by omega)
   obtain ⟨u,nb,hu⟩:=ih x.b.toNat (by omega) (by omega)
   exact ⟨_,_,.seq hx hk (by omega) (by omega) ht hu⟩
  ·have e:=sU (k:=x.k) (.inr hk)
   obtain ⟨a1,a2⟩:=h5 (by omega)
   obtain ⟨b1,b2⟩:=h6 (by omega)
   obtain ⟨t,na,ht⟩:=ih x.a.toNat (by omega) (by omega)
   obtain ⟨u,nb,hu⟩:=ih x.b.toNat (by omega) (by omega)
   exact ⟨_,_,.alt hx hk (by omega) (by omega) ht hu⟩
  ·have e:=C0 (k:=x.k) hk
   obtain ⟨a1,a2⟩:=h5 (by omega)
   obtain ⟨t,na,ht⟩:=ih x.a.toNat (by omega) (by omega)
   exact ⟨_,_,.rep hx hk (by omega) ht⟩
theorem Par.lt {j k:Nat} (h:Par l j k):j<k∧k<l.length:=by
 obtain ⟨x,hx,hm⟩:=h
 have hlt:=(List.getElem?_eq_some_iff.1 hx).1
 obtain ⟨h0,h1,h2,h3,h4,h5,h6⟩:=hG.ok k x hx
 rcases uS h0 with hk|hk|hk|hk|hk
 ·have e:=yf (k:=x.k) (.inl hk)
  unfold us at hm
  rw [e] at hm
  simp at hm
 ·have e:=yf (k:=x.k) (.inr hk)
  unfold us at hm
  rw [e] at hm
  simp at hm
 ·have e:=sU (k:=x.k) (.inl hk)
  rw [gz (.inl hk)] at hm
  have:=h5 (by omega)
  have:=h6 (by omega)
  simp at hm
  omega
 ·have e:=sU (k:=x.k) (.inr hk)
  rw [gz (.inr hk)] at hm
  have:=h5 (by omega)
  have:=h6 (by omega)
  simp at hm
  omega
 ·have e:=C0 (k:=x.k) hk
  rw [CZ hk] at hm
  have:=h5 (by omega)
  simp at hm
  omega
omit hG in
theorem sV {j:Int}:∀(l:List Nd) {k:Nat} {x:Nd},l[k]? =some x→j∈us x→j∈usL l
 |y::l,0,x,h,hm=>by
  simp at h
  subst h
  simp [usL,hm]
 |y::l,k+1,x,h,hm=>by
  simp at h
  simp only [usL,List.mem_append]
  exact .inl (sV l h hm)
omit hG in
theorem uT {j:Int}:∀(l:List Nd),(usL l).Nodup→∀{k m:Nat} {x y:Nd},l[k]? =some x→l[m]? =some y→j∈us x→j∈us y→k=m
 |z::l,hn,0,0,x,y,h1,h2,h3,h4=>rfl
 |z::l,hn,0,m+1,x,y,h1,h2,h3,h4=>by
  simp at h1 h2
  subst h1
  rw [usL] at hn
  exact absurd rfl ((List.nodup_append.1 hn).2.2 j (sV l h2 h4) j h3)
 |z::l,hn,k+1,0,x,y,h1,h2,h3,h4=>by
  simp at h1 h2
  subst h2
  rw [usL] at hn
  exact absurd rfl ((List.nodup_append.1 hn).2.2 j (sV l h1 h3) j h4)
 |z::l,hn,k+1,m+1,x,y,h1,h2,h3,h4=>by
  simp at h1 h2
  rw [usL] at hn
  rw [uT l (List.nodup_append.1 hn).1 h1 h2 h3 h4]
theorem Par.uniq {j k m:Nat} (h1:Par l j k) (h2:Par l j m):k=m:=by
 obtain ⟨x,hx,hm⟩:=h1
 obtain ⟨y,hy,hn⟩:=h2
 exact uT l hG.nd hx hy hm hn
omit hG in
theorem Up.trans {j k m:Nat} (h1:Up l j k) (h2:Up l k m):Up l j m:=by
 induction h2 with
 |refl=>exact h1
 |step _ h ih=>exact ih.step h
omit hG in
theorem Up.head {j m:Nat} (h:Up l j m):j=m∨∃k,Par l j k∧Up l k m:=by
 induction h with
 |refl=>exact .inl rfl
 | @step k m h hp ih=>
  rcases ih with rfl|⟨c,h1,h2⟩
  ·exact .inr ⟨m,hp,.refl m⟩
  ·exact .inr ⟨c,h1,h2.step hp⟩
theorem Up.le {j m:Nat} (h:Up l j m):j≤m:=by
 induction h with
 |refl=>exact Nat.le_refl _
 |step _ hp ih=>have:=hp.lt hG;omega
theorem Up.chain {j a b:Nat} (ha:Up l j a) (hb:Up l j b):Up l a b∨Up l b a:=by
 induction ha with
 |refl=>exact .inl hb
 | @step k m h hp ih=>
  rcases ih with h1|h1
  ·rcases h1.head with rfl|⟨c,h2,h3⟩
   ·exact .inr ((Up.refl k).step hp)
   ·rw [h2.uniq hG hp] at h3
    exact .inl h3
  ·exact .inr (h1.step hp)
omit hG in
theorem nc {i:Nat} {t:Lt} {ns:List Nat} (h:cd l i t ns):∀j∈ns,Up l j i:=by
 induction h with
 | @emp i x hx hk=>intro j hj;simp at hj;subst hj;exact .refl _
 | @rng i lo hi x hx hk _ _ _ _=>intro j hj;simp at hj;subst hj;exact .refl _
 | @seq i a b x t u na nb hx hk ha hb h1 h2 i1 i2=>
  intro j hj
  simp only [List.cons_append,List.mem_cons,List.mem_append] at hj
  rcases hj with rfl|hj|hj
  ·exact .refl _
  ·exact (i1 j hj).step ⟨x,hx,by rw [gz (.inl hk),ha];simp⟩
  ·exact (i2 j hj).step ⟨x,hx,by rw [gz (.inl hk),hb];simp⟩
 | @alt i a b x t u na nb hx hk ha hb h1 h2 i1 i2=>
  intro j hj
  simp only [List.cons_append,List.mem_cons,List.mem_append] at hj
  rcases hj with rfl|hj|hj
  ·exact .refl _
  ·exact (i1 j hj).step ⟨x,hx,by rw [gz (.inr hk),ha];simp⟩
  ·exact (i2 j hj).step ⟨x,hx,by rw [gz (.inr hk),hb];simp⟩
 | @rep i a x t na hx hk ha h1 i1=>
  intro j hj
  simp only [List.mem_cons] at hj
  rcases hj with rfl|hj
  ·exact .refl _
  ·exact (i1 j hj).step ⟨x,hx,by rw [CZ hk,ha];simp⟩
theorem Mg {i a b:Nat} {x:Nd} (hx:l[i]? =some x) (hk:x.k=2∨x.k=3) (ha:x.a=a) (hb:x.b=b):a≠b:=by
 intro e
 have hn:=hG.nd
 have hsub:∀(l:List Nd) (i:Nat),l[i]? =some x→(usL l).Nodup→(us x).Nodup:=by
  intro l
  induction l with
  |nil=>intro i h;simp at h
  |cons y l ih=>
   intro i h hn
   rw [usL] at hn
   cases i with
   |zero=>
    simp at h
    subst h
    exact (List.nodup_append.1 hn).2.1
   |succ i=>
    simp at h
    exact ih i h (List.nodup_append.1 hn).1
 have:=hsub l i hx hn
 rw [gz hk,ha,hb,e] at this
 simp at this
theorem Gw {i a b j:Nat} {x:Nd} (hx:l[i]? =some x) (hk:x.k=2∨x.k=3) (ha:x.a=a) (hb:x.b=b) (h1:Up l j a) (h2:Up l j b):False:=by
 have pa:Par l a i:=⟨x,hx,by rw [gz hk,ha];simp⟩
 have pb:Par l b i:=⟨x,hx,by rw [gz hk,hb];simp⟩
 have hne:=Mg hG hx hk ha hb
 rcases h1.chain hG h2 with h|h
 ·rcases h.head with e|⟨c,h3,h4⟩
  ·exact hne e
  ·rw [h3.uniq hG pa] at h4
   have:=h4.le hG
   have:=pb.lt hG
   omega
 ·rcases h.head with e|⟨c,h3,h4⟩
  ·exact hne e.symm
  ·rw [h3.uniq hG pb] at h4
   have:=h4.le hG
   have:=pa.lt hG
   omega
end
section
variable {F:PH}
open Classical in
noncomputable def bv (l:List Nd):Lt:=if h:GoodL l then (yg h (l.length) (l.length - 1) (by have:=List.length_pos_iff.2 h.ne;omega) (by have:=List.length_pos_iff.2 h.ne;omega)).choose else .emp
theorem gA {l:List Nd} (h:GoodL l):∃ns,cd l (l.length - 1) (bv l) ns:=by
 unfold bv
 rw [dif_pos h]
 exact (yg h (l.length) (l.length - 1) (by have:=List.length_pos_iff.2 h.ne;omega) (by have:=List.length_pos_iff.2 h.ne;omega)).choose_spec
theorem Ar {l:List Nd} (h:fX l=0):GoodL l∧l.length≤512:=by
 unfold fX at h
 split at h
 ·omega
 ·split at h
  ·rename_i hg
   exact ⟨hg,by omega⟩
  ·omega
end
structure Lo (G F:PH) (xs:List (Nat×Array Value×TypeId)):Prop where
 le:G.le F
 z:∀p∈xs,F p.1=some (.cells p.2.1 p.2.2)∧G p.1=none
 nd:(xs.map (·.1)).Nodup
theorem Lo.start (F:PH):Lo F F []:=⟨le_refl' F,fun p hp=>(by cases hp),List.nodup_nil⟩
section
variable {F G:PH} {xs:List (Nat×Array Value×TypeId)}
theorem Lo.get (h:Lo G F xs) {b:Nat} {w:Array Value} {e:TypeId} (hm:(b,w,e)∈xs):F b=some (.cells w e):=(h.z _ hm).1
theorem Lo.row (h:Lo G F xs) {b:Nat} {w:Array Value} {e:TypeId} (hm:(b,w,e)∈xs):F.row (Addr.mk b 0 none) w:=ak (h.z _ hm).1
theorem Lo.cell (h:Lo G F xs) {b i:Nat} {w:Array Value} {e:TypeId} (hm:(b,w,e)∈xs):F.cell (Addr.mk b i none)=w[i]? :=am (h.z _ hm).1
theorem Lo.call {f:FuncId} {args:Array Value} {P:Value→PH→Prop} (h:Lo G F xs) (s:ac prog f args G P):ac prog f args F fun r F'=>∃G',P r G'∧Lo G' F' xs:=
 (s.upon h.le).mono fun r F' ⟨G',hp,hl,hk⟩=>⟨G',hp,hl,fun p hp=>by
  obtain ⟨a,b⟩:=h.z p hp
  exact hk _ _ b a,h.nd⟩
theorem Lo.new (h:Lo G F xs) (c:Array Value) (e:TypeId) {K:Nat→PH→Prop} (k:∀b F',Lo G F' ((b,c,e)::xs)→K b F'):∀b,F b=none→atF (F.set b (.cells c e)) (K b):=by
 intro b hb
 refine atI ?_
 have hne:∀p∈xs,p.1≠b:=fun p hp=>aG hb (h.z p hp).1
 refine k b _ ⟨aa h.le (ae _ hb),fun p hp=> ?_,?_⟩
 ·rcases List.mem_cons.1 hp with rfl|hp
  ·exact ⟨an _ _ _,aU h.le hb⟩
  ·obtain ⟨a,c⟩:=h.z p hp
   exact ⟨(az _ _ (hne p hp)).trans a,c⟩
 ·rw [List.map_cons,List.nodup_cons]
  refine ⟨fun hm=> ?_,h.nd⟩
  obtain ⟨p,hp,e⟩:=List.mem_map.1 hm
  exact hne p hp e
theorem Lo.upd (l1 l2:List (Nat×Array Value×TypeId)) {b:Nat} {w0 w:Array Value} {e:TypeId} (h:Lo G F (l1++(b,w0,e)::l2)) {F':PH} (hb:F' b=some (.cells w e)) (hk:bU (fun x=>x=b) F F'):Lo G F' (l1++(b,w,e)::l2):=by
 obtain ⟨q,g⟩:=h.z (b,w0,e) (by simp)
 have nd:=h.nd
 rw [List.map_append,List.map_cons] at nd
 have hne:∀p,p∈l1∨p∈l2→p.1≠b:=fun p hp e=>by
  obtain ⟨_,n2,n3⟩:=List.nodup_append.1 nd
  rcases hp with hp|hp
  ·exact n3 p.1 (List.mem_map.2 ⟨p,hp,rfl⟩) b (by simp) e
  ·exact (List.nodup_cons.1 n2).1 (List.mem_map.2 ⟨p,hp,e⟩)
 have hkp:∀p,p∈l1∨p∈l2→F' p.1=some (.cells p.2.1 p.2.2)∧G p.1=none:=fun p hp=>by
  obtain ⟨a,c⟩:=h.z p (by simp only [List.mem_append,List.mem_cons];rcases hp with hp|hp<;>simp [hp])
  exact ⟨hk _ _ a (hne p hp),c⟩
 refine ⟨fun x o hx=>hk x o (h.le x o hx) fun e=>(by rw [e] at hx;rw [g] at hx;cases hx),fun p hp=> ?_,by rw [List.map_append,List.map_cons];exact nd⟩
 rcases List.mem_append.1 hp with hp|hp
 ·exact hkp p (.inl hp)
 ·rcases List.mem_cons.1 hp with rfl|hp
  ·exact ⟨hb,g⟩
  ·exact hkp p (.inr hp)
theorem Lo.put (l1 l2:List (Nat×Array Value×TypeId)) {b n:Nat} {w0 w:Array Value} {e:TypeId} (h:Lo G F (l1++(b,w0,e)::l2)) (h1:w.size=n) (h2:w0.size=n) (hst:∀v∈w.toList,aj v)
  {K:PH→Prop} (k:∀F',Lo G F' (l1++(b,w,e)::l2)→K F'):
  w.size=n∧(∀v∈w.toList,aj v)∧∃c e,F (Addr.mk b 0 none).block=some (.cells c e (0,0))∧(Addr.mk b 0 none).spot=none∧(Addr.mk b 0 none).off+n≤c.size∧
   atF (F.set (Addr.mk b 0 none).block (.cells (wr c (Addr.mk b 0 none).off w.toList) e)) K:=by
 obtain ⟨q,g⟩:=h.z (b,w0,e) (by simp)
 refine stW q h1 h2 hst (k _ (h.upd l1 l2 (an _ _ _) (bU.set _ (.inl rfl))))
theorem Lo.put1 (l1 l2:List (Nat×Array Value×TypeId)) {b i:Nat} {w0 w:Array Value} {v:Value} {e:TypeId} (h:Lo G F (l1++(b,w0,e)::l2)) (h2:i<w0.size) (hw:w0.setIfInBounds i v=w)
  {K:PH→Prop} (k:∀F',Lo G F' (l1++(b,w,e)::l2)→K F'):
  ∃c e,F (Addr.mk b i none).block=some (.cells c e (0,0))∧(Addr.mk b i none).spot=none∧(Addr.mk b i none).off<c.size∧
   atF (F.set (Addr.mk b i none).block (.cells (c.setIfInBounds (Addr.mk b i none).off v) e)) K:=by
 obtain ⟨q,g⟩:=h.z (b,w0,e) (by simp)
 subst hw
 exact st1 (o:=i) q h2 (k _ (h.upd l1 l2 (an _ _ _) (bU.set _ (.inl rfl))))
theorem Lo.join (l1 l2:List (Nat×Array Value×TypeId)) {b:Nat} {P Q:Nat→Bool} (h:Lo G F (l1++(b,plA P,275)::l2)):
  ac prog 225 #[pa b,.agg (plA Q)] F fun r F'=>r=.tuple #[]∧Lo G F' (l1++(b,plA (fun i=>P i || Q i),275)::l2):=by
 obtain ⟨q,g⟩:=h.z (b,plA P,275) (by simp)
 refine (ry (Q:=Q) (i7.own.2 q)).mono ?_
 rintro _ F' ⟨rfl,hs,hk⟩
 exact ⟨rfl,h.upd l1 l2 (i7.own.1 hs) hk⟩
theorem Lo.add (l1 l2:List (Nat×Array Value×TypeId)) {b i:Nat} {P:Nat→Bool} (hi:i<512) (h:Lo G F (l1++(b,plA P,275)::l2)):
  ac prog 227 #[pa b,vi i] F fun r F'=>r=.tuple #[]∧Lo G F' (l1++(b,plA (fun j=>P j || decide (j=i)),275)::l2):=by
 obtain ⟨q,g⟩:=h.z (b,plA P,275) (by simp)
 refine (Au hi q).mono ?_
 rintro _ F' ⟨rfl,rfl⟩
 exact ⟨rfl,h.upd l1 l2 (an _ _ _) (bU.set _ (.inl rfl))⟩
end
def cG (n:Nat) (R:Nat→Nat→Bool):List Value:=(List.range n).flatMap fun i=>(plA (R i)).toList
theorem sW (n:Nat) (R:Nat→Nat→Bool):(cG n R).length=n*8:=by
 unfold cG
 induction n with
 |zero=>rfl
 |succ n ih=>rw [List.range_succ,List.flatMap_append,List.length_append,ih];simp [plA];omega
theorem pk {f g:Nat→List Value}:∀{l:List Nat},(∀j∈l,f j=g j)→l.flatMap f=l.flatMap g
 |[],_=>rfl
 |a::l,h=>by rw [List.flatMap_cons,List.flatMap_cons,h a (by simp),pk fun j hj=>h j (by simp [hj])]
theorem uU (f:Nat→List Value) {n i:Nat} (hi:i<n):(List.range n).flatMap f=(List.range i).flatMap f++f i++((List.range (n - i - 1)).map (· +(i+1))).flatMap f:=by
 have:List.range n=List.range i++[i]++(List.range (n - i - 1)).map (· +(i+1)):=by
  have h1:n=(i+1)+(n - i - 1):=by omega
  rw [h1,List.range_add,List.range_succ,show i+1+(n - i - 1) - i - 1=n - i - 1 by omega]
  congr 1
  apply List.map_congr_left
  intro a _
  omega
 rw [this,List.flatMap_append,List.flatMap_append,List.flatMap_cons,List.flatMap_nil,List.append_nil]
theorem mr {n:Nat} {R S:Nat→Nat→Bool} (h:∀i,i<n→R i=S i):cG n R=cG n S:=by
 unfold cG
 exact pk fun j hj=>by rw [h j (List.mem_range.1 hj)]
theorem ms {n i:Nat} (hi:i<n) (R:Nat→Nat→Bool):∃pre post,pre.length=i*8∧cG n R=pre++(plA (R i)).toList++post∧∀R',(∀j,j≠i→R' j=R j)→cG n R'=pre++(plA (R' i)).toList++post:=by
 refine ⟨cG i R,((List.range (n - i - 1)).map (· +(i+1))).flatMap (fun j=>(plA (R j)).toList),sW i R,uU _ hi,fun R' h=> ?_⟩
 have e:=uU (fun j=>(plA (R' j)).toList) hi
 have e1:cG i R'=cG i R:=mr fun j hj=>h j (by omega)
 have e2:((List.range (n - i - 1)).map (· +(i+1))).flatMap (fun j=>(plA (R' j)).toList)=((List.range (n - i - 1)).map (· +(i+1))).flatMap (fun j=>(plA (R j)).toList):=pk fun j hj=>by
  obtain ⟨a,_,rfl⟩:=List.mem_map.1 hj
  rw [h _ (by omega)]
 rw [e2] at e
 rw [← e1]
 exact e
structure Lnk (F:PH) (b3 bm bf n:Nat) (R:Nat→Nat→Bool):Prop where
 tab:Tab F
 q3:F b3=some (.cells #[pa bm] 272)
 q17:∃mc,F bm=some (.cells mc 278)∧mc[17]? =some (Sl.v ⟨some ⟨bf,0,none⟩,n,n⟩)
 qf:F bf=some (.cells (cG n R).toArray 275)
theorem Lnk.keep {F F':PH} {b3 bm bf n:Nat} {R R':Nat→Nat→Bool} (h:Lnk F b3 bm bf n R) (hk:bU (fun x=>x=bf) F F') (hf:F' bf=some (.cells (cG n R').toArray 275)) (h0:bf≠0):Lnk F' b3 bm bf n R':=by
 obtain ⟨tab,q3,⟨mc,qm,h17⟩,qf⟩:=h
 refine ⟨fun k v hv=> ?_,hk _ _ q3 fun e=> ?_,⟨mc,hk _ _ qm fun e=> ?_,h17⟩,hf⟩
 ·have:=tab k v hv
  unfold PH.cell at this ⊢
  cases hz:F 0 with
  |none=>rw [hz] at this;cases this
  |some o=>
   rw [hz] at this
   rw [hk _ _ hz h0.symm]
   exact this
 ·rw [e,qf] at q3
  simp at q3
 ·rw [e,qf] at qm
  simp at qm
theorem Lnk.le {F F':PH} {b3 bm bf n:Nat} {R:Nat→Nat→Bool} (h:Lnk F b3 bm bf n R) (hl:F.le F'):Lnk F' b3 bm bf n R:=by
 obtain ⟨tab,q3,⟨mc,qm,h17⟩,qf⟩:=h
 exact ⟨tab.le hl,hl _ _ q3,⟨mc,hl _ _ qm,h17⟩,hl _ _ qf⟩
section
variable {F:PH} {b3 bm bf n:Nat} {R:Nat→Nat→Bool}
theorem wI (h:Lnk F b3 bm bf n R) (h0:bf≠0) {i bt:Nat} {Q:Nat→Bool} (hi:i<n) (ht:F bt=some (.cells (plA Q) 275)) (hne:bt≠bf):
  ac prog 224 #[vi i,pa b3,pa bt] F fun r F'=>r=.tuple #[]∧Lnk F' b3 bm bf n (fun k j=>R k j || (decide (k=i) && Q j))∧bU (fun x=>x=bf) F F':=by
 obtain ⟨tab,q3,⟨mc,qm,h17⟩,qf⟩:=id h
 refine MR ?_
 unfold GW
 obtain ⟨pre,post,hpre,hsp,hup⟩:=ms hi R
 have c3:F.cell (Addr.mk b3 0 none)=some (pa bm):=by rw [am q3];rfl
 have c17:F.cell ((Addr.mk bm 0 none).add 17)=some (Sl.v ⟨some ⟨bf,0,none⟩,n,n⟩):=by rw [bQ,Nat.zero_add,am qm];exact h17
 refine ⟨_,rfl,_,c3,_,rfl,_,c17,_,rfl,by omega,by simp only;omega,_,rfl,plA Q,rfl,ak ht,?_⟩
 have ea:(Addr.mk bf 0 none).add (Int.toNat (i:Int)*8)=⟨bf,pre.length,none⟩:=by rw [bQ,Nat.zero_add,Int.toNat_natCast,hpre]
 rw [ea]
 have hs:i7 F bf 275 pre (R i) post:=by unfold i7;rw [← hsp];exact qf
 refine (ry (Q:=Q) hs).mono ?_
 rintro _ F' ⟨rfl,hs',hk⟩
 have e:∀k,k≠i→(fun k j=>R k j || (decide (k=i) && Q j)) k=R k:=fun k hk=>by funext j;simp [hk]
 have hL:Lnk F' b3 bm bf n (fun k j=>R k j || (decide (k=i) && Q j)):=h.keep hk (by
  rw [hup _ e]
  have:(fun j=>R i j || (decide (i=i) && Q j))=fun j=>R i j || Q j:=by funext j;simp
  show F' bf=some (.cells (pre++(plA (fun j=>R i j || (decide (i=i) && Q j))).toList++post).toArray 275)
  rw [this]
  exact hs') h0
 obtain ⟨mc',qm',h17'⟩:=hL.q17
 exact ⟨rfl,by rw [bQ,Nat.zero_add,am qm'];exact h17',by rw [am hL.q3];rfl,rfl,hL,hk⟩
theorem JD:au prog 224=true:=by kernel_rfl
theorem rq (h:Lnk F b3 bm bf n R) (h0:bf≠0) (hn:n≤512) {P Q:Nat→Bool} (hP:∀i,P i=true→i<n):
  ac prog 222 #[.agg (plA P),.agg (plA Q),pa b3] F fun r F'=>r=.tuple #[]∧Lnk F' b3 bm bf n (fun k j=>R k j || (P k && Q j))∧bU (fun x=>x=bf) F F':=by
 refine MP ?_
 unfold GT
 intro c hc
 refine atI ?_
 have lc:=ae (.cells (plA P) 275) hc
 have qc:=an F c (.cells (plA P) 275)
 generalize F.set c (.cells (plA P) 275)=F1 at*
 intro d hd
 refine atI ?_
 have ld:=ae (.cells (plA Q) 275) hd
 have qd:=an F1 d (.cells (plA Q) 275)
 have qc':=ld _ _ qc
 generalize F1.set d (.cells (plA Q) 275)=F2 at*
 have hcf:c≠bf:=fun e=>by rw [e,h.qf] at hc;cases hc
 have hdf:d≠bf:=fun e=>by rw [e,lc _ _ h.qf] at hd;cases hd
 have l2:=aa lc ld
 refine (rz (a:=⟨c,0,none⟩) (P:=P) (k:=224) (cap:= #[pa b3,pa d]) (Inv:=fun m F'=>Lnk F' b3 bm bf n (fun k j=>R k j || (decide (k<m) && P k && Q j))∧bU (fun x=>x=bf) F2 F') JD rfl
  (fun m F' hI=>⟨hI.1.tab,ak (hI.2 _ _ qc' hcf)⟩) (fun i F' hi hp hI=> ?_) (fun i F' hi hp hI=> ?_) ⟨?_,bU.refl _ _⟩).mono ?_
 ·refine ⟨?_,hI.2⟩
  have:(fun k j=>R k j || (decide (k<i+1) && P k && Q j))=fun k j=>R k j || (decide (k<i) && P k && Q j):=by
   funext k j
   by_cases hk:k=i
   ·subst hk;simp [hp]
   ·rw [show decide (k<i+1)=decide (k<i) by rw [Bool.eq_iff_iff];simp;omega]
  rw [this]
  exact hI.1
 ·refine (wI hI.1 h0 (hP i hp) (hI.2 _ _ qd hdf) hdf).mono ?_
  rintro _ F'' ⟨rfl,hL,hk⟩
  refine ⟨rfl,?_,hI.2.trans hk⟩
  have:(fun k j=>(R k j || (decide (k<i) && P k && Q j)) || (decide (k=i) && Q j))=fun k j=>R k j || (decide (k<i+1) && P k && Q j):=by
   funext k j
   by_cases hk:k=i
   ·subst hk;simp [hp]
   ·rw [show decide (k<i+1)=decide (k<i) by rw [Bool.eq_iff_iff];simp;omega]
    simp [hk]
  rw [← this]
  exact hL
 ·have:(fun k j=>R k j || (decide (k<0) && P k && Q j))=R:=by funext k j;simp
  rw [this]
  exact h.le l2
 ·rintro _ F' ⟨rfl,hL,hk⟩
  refine ⟨rfl,rfl,?_,fun x o hx hn=>hk x o (l2 _ _ hx) hn⟩
  have:Lnk F' b3 bm bf n (fun k j=>R k j || (P k && Q j)):=by
   refine ⟨hL.tab,hL.q3,hL.q17,?_⟩
   have e:cG n (fun k j=>R k j || (P k && Q j))=cG n (fun k j=>R k j || (decide (k<512) && P k && Q j)):=by
    refine mr fun i hi=> ?_
    funext j
    rw [show decide (i<512)=true by simp;omega,Bool.true_and]
   rw [e]
   exact hL.qf
  exact this
end
end Go.Proofs.YtenpmjhnhepfdaaGreatDoor
