/-
  Check: which lists of nodes are patterns.
-/
import Derived.Test.YtcemhghkipgdiaaGreatDoorPhm
import Derived.Test.YtcemhghkipgdiaaGreatDoorGbits
import Derived.Test.YtcemhghkipgdiaaGreatDoorGpattern
import Derived.Test.YtcemhghkipgdiaaGreatDoorTie
import Derived.Test.YtcemhghkipgdiaaGreatDoorCards
import Derived.LaidMore
import Derived.Lay
import Derived.SevenTiedAt
import Derived.Stop.Joined
import Derived.Test.YtcemhghkipgdiaaGreatDoorPhp
import Derived.Test.YtcemhghkipgdiaaGreatDoorGdiagram
namespace Go.Proofs.YtcemhghkipgdiaaGreatDoor
open Go.IntKind (i64 u8 u64)
open Go Go.Proofs.Tryz
set_option maxRecDepth 10000
abbrev cL (n:Nat):Value:=.int .u64 (n:Int)
def plA (P:Nat->Bool):Γ:= #[cL (wd P 0),cL (wd P 1),cL (wd P 2),cL (wd P 3),cL (wd P 4),cL (wd P 5),cL (wd P 6),cL (wd P 7)]
def noP:Nat->Bool:=λ_=>false
theorem bF:plA noP= #[.int .u64 0,.int .u64 0,.int .u64 0,.int .u64 0,.int .u64 0,.int .u64 0,.int .u64 0,.int .u64 0]:=by unfold plA noP;simp only [tw];rfl
theorem Ds (P:Nat->Bool):(plA P).size=8:=rfl
theorem eL (P:Nat->Bool) {k:Nat} (h:k<8):(plA P)[k]? =some (cL (wd P k)):=by
 have:k=0\/k=1\/k=2\/k=3\/k=4\/k=5\/k=6\/k=7:=by omega
 rcases this with rfl|rfl|rfl|rfl|rfl|rfl|rfl|rfl<;>rfl
theorem bx (P:Nat->Bool):∀v∈(plA P).toList,ak v:=by intro v hv;simp only [plA,QU,Sa,or_false] at hv;rcases hv with rfl|rfl|rfl|rfl|rfl|rfl|rfl|rfl<;>exact jG
def qZ (P Q:Nat->Bool) (k:Nat):Ξ:=(List.range 8).map λj=>if j<k then cL (wd Q j) else cL (wd P j)
theorem AZ (P Q:Nat->Bool):qZ P Q 0=(plA P).toList:=rfl
theorem Dt (P Q:Nat->Bool):qZ P Q 8=(plA Q).toList:=rfl
theorem Du (P Q:Nat->Bool) {k:Nat} (hk:k<8):(qZ P Q k).set k (cL (wd Q k))=qZ P Q (k+1):=by
 have:k=0\/k=1\/k=2\/k=3\/k=4\/k=5\/k=6\/k=7:=by omega
 rcases this with rfl|rfl|rfl|rfl|rfl|rfl|rfl|rfl<;>rfl
theorem Dv (P Q:Nat->Bool) {k:Nat} (hk:k<8):(qZ P Q k)[k]? =some (cL (wd P k)):=by
 have:k=0\/k=1\/k=2\/k=3\/k=4\/k=5\/k=6\/k=7:=by omega
 rcases this with rfl|rfl|rfl|rfl|rfl|rfl|rfl|rfl<;>rfl
theorem cf (b o k:Nat):(Addr.mk b o none).add k=⟨b,o+k,none⟩:=by
 by_cases h:k=0
 ·subst h;rfl
 ·simp [Addr.add,h]
def jl (F:PH) (b:Nat) (e:TypeId) (pre:Ξ) (P:Nat->Bool) (post:Ξ):Prop:=F b=some (.cells (pre++(plA P).toList++post).toArray e)
theorem jl.row {F:PH} {b:Nat} {e:TypeId} {pre post:Ξ} {P:Nat->Bool} (h:jl F b e pre P post):F.row ⟨b,pre.length,none⟩ (plA P):=by intro i hi;have hi':i<8:=hi;rw [cf,am h];rw [List.getElem?_toArray,Rp,Rl (by omega),Nat.add_sub_cancel_left,Q3 (by exact hi')];simp
theorem jl.own {F:PH} {b:Nat} {e:TypeId} {P:Nat->Bool}:jl F b e [] P []↔F b=some (.cells (plA P) e):=by unfold jl;simp
section
variable {F:PH}
theorem r4 {b:Nat} {e:TypeId} {pre post:Ξ} {P Q:Nat->Bool} (h:jl F b e pre P post):
  aj prog 205 #[.pointer (some ⟨b,pre.length,none⟩),.agg (plA Q)] F λr F'=>r=.tuple #[]/\jl F' b e pre (λi=>P i || Q i) post/\cC (λx=>x=b) F F':=by
 refine NE ?_;unfold Id;intro b3 hb3;refine atI ?_;have hbF:∃o,F b=some o:=⟨_,h⟩;have l3:=ae (.cells (plA Q) 229) hb3;have q3:=al F b3 (.cells (plA Q) 229);have h3:(F.set b3 (.cells (plA Q) 229)) b=some (.cells (pre++qZ P (λi=>P i || Q i) 0++post).toArray e):=by rw [AZ];exact l3 _ _ h
 have hne:b≠b3:=aE hb3 h;generalize F.set b3 (.cells (plA Q) 229)=F3 at*;refine ⟨λm i F'=>∃k:Nat,i=k/\k<=8/\m=8 - k/\F' b3=some (.cells (plA Q) 229)/\F' b=some (.cells (pre++qZ P (λi=>P i || Q i) k++post).toArray e)/\cC (λx=>x=b) F F',8,⟨0,rfl,by omega,rfl,q3,h3,cC.of_le l3⟩,?_⟩;rintro _ _ F4 ⟨k,rfl,hk,rfl,q4,h4,hk4⟩;unfold zr;refine ⟨λhlt=> ?_,λhge=> ?_⟩
 ·have h8:k<8:=by omega
  have hml:(qZ P (λi=>P i || Q i) k).length=8:=by simp [qZ]
  have hg:(pre++qZ P (λi=>P i || Q i) k++post).toArray[pre.length+k]? =some (cL (wd P k)):=by rw [List.getElem?_toArray,Rp,Rl (by omega),Nat.add_sub_cancel_left,Q3 (by omega)];exact Dv P _ h8
  have ek:Int.toNat (k:Int)*1=k:=by rw [N6,Rs]
  rw [ek];have hc:F4.cell ((Addr.mk b pre.length none).add k)=some (cL (wd P k)):=by rw [cf,am h4];exact hg
  have hc3:F4.cell ((Addr.mk b3 0 none).add k)=some (cL (wd Q k)):=by rw [cf,Q8,am q4];exact eL Q h8
  refine ⟨_,rfl,by omega,by omega,_,hc,by omega,by omega,_,hc3,by omega,by omega,?_⟩;refine qS (b:=b) (o:=pre.length+k) (cf b pre.length k) h4 (by simp [hml];omega) ?_;rw [Ck (mK P k) (mK Q k),<- Ma];refine ⟨8 - (k+1),by omega,k+1,iI (by omega),h8,rfl,?_,?_,hk4.trans (cC.set _ (.inl rfl))⟩
  ·rw [aw _ _ hne.symm];exact q4
  ·rw [al];congr 2;rw [List.setIfInBounds_toArray];congr 1;rw [Rp,List.set_append_right _ _ (by omega),Nat.add_sub_cancel_left,List.set_append_left _ _ (by omega),Rp];congr 2;exact Du P (λi=>P i || Q i) h8
 ·obtain rfl:k=8:=by omega
  rw [Dt] at h4;exact ⟨rfl,h4,hk4⟩
theorem vI {b:Nat} {e:TypeId} {pre post:Ξ} {P Q:Nat->Bool} (h:jl F b e pre P post):
  aj prog 209 #[.pointer (some ⟨b,pre.length,none⟩),.agg (plA Q)] F λr F'=>(∃t:Bool,r=.bool t/\(t=true↔∃i,i<512/\P i=true/\Q i=true))/\F.le F':=by
 refine NH ?_;unfold Ig;intro b3 hb3;refine atI ?_;have l3:=ae (.cells (plA Q) 229) hb3;have q3:=al F b3 (.cells (plA Q) 229);have h3:jl (F.set b3 (.cells (plA Q) 229)) b e pre P post:=l3 _ _ h;generalize F.set b3 (.cells (plA Q) 229)=F3 at*;refine ⟨λm i F'=>∃k:Nat,i=k/\k<=8/\m=8 - k/\F'=F3/\∀i,i<64*k->¬(P i=true/\Q i=true),8,⟨0,rfl,by omega,rfl,rfl,λi hi=>by omega⟩,?_⟩;rintro _ _ F4 ⟨k,rfl,hk,rfl,e4,hall⟩;obtain rfl:=e4.symm;unfold zv;refine ⟨λhlt=> ?_,λhge=> ?_⟩
 ·have h8:k<8:=by omega
  have ek:Int.toNat (k:Int)*1=k:=by rw [N6,Rs]
  rw [ek];have hc:F3.cell ((Addr.mk b pre.length none).add k)=some (cL (wd P k)):=by have:=h3.row k h8;rw [this];have e:=eL P h8;rw [Rf (by exact h8)] at e;exact e
  have hc3:F3.cell ((Addr.mk b3 0 none).add k)=some (cL (wd Q k)):=by rw [cf,Q8,am q3];exact eL Q h8
  refine ⟨_,rfl,by omega,by omega,_,hc,by omega,by omega,_,hc3,?_⟩;dsimp only;rw [tz (mK P k) (mK Q k),<- IZ];refine ⟨λhne=>⟨⟨true,rfl,?_⟩,l3⟩,λhe=>⟨8 - (k+1),by omega,k+1,iI (by omega),h8,rfl,rfl,λi hi=> ?_⟩⟩
  ·refine ⟨λ_=> ?_,λ_=>rfl⟩;have h0:¬wd (λi=>P i && Q i) k=0:=by omega
   rw [gL] at h0;have:∃j,¬(j<64->(P (64*k+j) && Q (64*k+j))=false):=Classical.not_forall.1 h0;obtain ⟨j,hj⟩:=this;have hj64:j<64:=Classical.byContradiction λh=>hj λh'=>absurd h' h;have hj2:¬(P (64*k+j) && Q (64*k+j))=false:=λh=>hj λ_=>h;simp at hj2;exact ⟨64*k+j,by omega,hj2⟩
  ·by_cases hlt2:i<64*k
   ·exact hall i hlt2
   ·have h0:wd (λi=>P i && Q i) k=0:=by omega
    have:=gL.1 h0 (i - 64*k) (by omega);rw [show 64*k+(i - 64*k)=i by omega] at this;rintro ⟨a,c⟩;rw [a,c] at this;cases this
 ·obtain rfl:k=8:=by omega
  unfold zt;exact ⟨⟨false,rfl,λh=>(by cases h),λ⟨i,hi,hp⟩=>absurd hp (hall i (by omega))⟩,l3⟩
theorem A0 {b:Nat} {P:Nat->Bool} {i:Nat} (hi:i<512) (h:F b=some (.cells (plA P) 229)):
  aj prog 207 #[pa b,vi i] F λr F'=>r=.tuple #[]/\F'=F.set b (.cells (plA λj=>P j || decide (j=i)) 229):=by
 refine NF ?_;unfold Ie;have e1:i64.wrap (Int.tdiv (i:Int) 64)=((i / 64:Nat):Int):=by rw [show Int.tdiv (i:Int) 64=((i / 64:Nat):Int) from rfl,aQ (by omega) (by omega)]
 have e2:Int.tmod (i:Int) 64=((i % 64:Nat):Int):=rfl;rw [e1,e2];have ek:Int.toNat ((i / 64:Nat):Int)*1=i / 64:=by rw [N6,Rs]
 rw [ek];have h8:i / 64<8:=by omega
 have hc:F.cell ((Addr.mk b 0 none).add (i / 64))=some (cL (wd P (i / 64))):=by rw [cf,Q8,am h];exact eL P h8
 refine ⟨_,rfl,by omega,by omega,_,hc,by omega,by omega,by omega,?_⟩;refine qS (b:=b) (o:=i / 64) (by rw [cf,Q8]) h (by rw [Ds];exact h8) ⟨rfl,?_⟩;have hp:2 ^ (i % 64)<18446744073709551616:=by have:2 ^ (i % 64)<2 ^ 64:=Nat.pow_lt_pow_right (by omega) (by omega);exact this
 have ep:u64.wrap ((1:Int)*2 ^ (min (Int.toNat ((i % 64:Nat):Int)) (u64).bits))=((2 ^ (i % 64):Nat):Int):=by
  have hm:min (Int.toNat ((i % 64:Nat):Int)) (u64).bits=i % 64:=by rw [N6];show min (i % 64) 64=i % 64;omega
  rw [hm];have:(1:Int)*2 ^ (i % 64)=((2 ^ (i % 64):Nat):Int):=by simp
  rw [this];exact ku (Int.natCast_nonneg _) (Int.ofNat_lt.2 hp)
 rw [ep,Ck (mK P _) hp];congr 2;have ew:wd P (i / 64) ||| 2 ^ (i % 64)=wd (λj=>P j || decide (j=i)) (i / 64):=by refine rK (Nat.or_lt_two_pow (mK P _) hp) λj hj=> ?_;rw [Nat.testBit_or,gK P _ hj,SL];congr 1;rw [Q0];simp;omega
 rw [ew];have eo:∀k,k≠i / 64->k<8->wd P k=wd (λj=>P j || decide (j=i)) k:=λk hk _=>Cj λj hj=>by show P (64*k+j)=(P (64*k+j) || decide (64*k+j=i));rw [show decide (64*k+j=i)=false by simp;omega,SU]
 apply Array.ext';apply RZ;intro k;rw [Array.toList_setIfInBounds,SJ];by_cases hk8:k<8
 ·have g1:∀(Q:Nat->Bool),(plA Q).toList[k]? =some (cL (wd Q k)):=λQ=>by rw [SE];exact eL Q hk8
  rw [g1,g1];by_cases hik:i / 64=k
  ·rw [if_pos hik,if_pos (by exact h8),hik]
  ·rw [if_neg hik,eo k (λe=>hik e.symm) hk8]
 ·have g2:∀(Q:Nat->Bool),(plA Q).toList[k]? =none:=λQ=>R1 (by show 8<=k;omega);rw [g2,g2,if_neg (by omega)]
def Tab (F:PH):Prop:=∀k v,vb[k]? =some v->F.cell ⟨0,k,none⟩=some (.int .u8 ((v:Nat):Int))
theorem Tab.le {F G:PH} (h:Tab F) (hl:F.le G):Tab G:=λk v hv=>aF hl (h k v hv)
theorem FF (hT:Tab F) {x t:Nat} (hx:x<18446744073709551616) (h:Low x t):aj prog 215 #[.int .u64 x] F λr F'=>r=vi t/\F'=F:=by
 refine Nr ?_;unfold HT;have hpos:=h.pos;refine ⟨λh0=>absurd h0 (by omega),λ_=> ?_⟩;have ht:t<64:=by
  rcases Nat.lt_or_ge t 64 with h1|h1
  ·exact h1
  ·obtain ⟨m,rfl⟩:=h;have:2 ^ 64<=2 ^ t:=Ry (by omega) h1;omega
 have e1:u64.wrap (0 - (x:Int))=((2 ^ 64 - x:Nat):Int):=by
  unfold IntKind.wrap;simp only [IntKind.bits,IntKind.signed];simp only [Bool.false_and,Ro,if_false];have:(2:Nat) ^ 64=18446744073709551616:=by decide
  omega
 have e2:2 ^ 64 - x<18446744073709551616:=by omega
 rw [e1,tz hx e2,h.neg hx];have hC:=Mb t ht;have e3:u64.wrap (((2 ^ t:Nat):Int)*285870213051353865)=((2 ^ t*285870213051353865 % 18446744073709551616:Nat):Int):=by
  unfold IntKind.wrap;simp only [IntKind.bits,IntKind.signed];simp only [Bool.false_and,Ro,if_false];have:((2:Nat) ^ 64:Nat)=18446744073709551616:=by decide
  omega
 rw [e3];generalize hy:2 ^ t*285870213051353865 % 18446744073709551616=y at*;have e4:Int.fdiv ((y:Nat):Int) (2 ^ (min (Int.toNat (58:Int)) (u64).bits))=((y / 288230376151711744:Nat):Int):=by
  have:(2:Int) ^ (min (Int.toNat (58:Int)) (u64).bits)=288230376151711744:=by decide
  rw [this,Int.fdiv_eq_ediv_of_nonneg _ (by decide)];omega
 rw [e4,N6,Rs,cf,Q8];refine ⟨by omega,by omega,_,hT _ _ hC.2,?_,rfl⟩;rw [LP (by omega)]
theorem r5 {a:Addr} {P:Nat->Bool} {k:FuncId} {cap:Γ} {Inv:Nat->Ψ} (hk:aB prog k=true) (_:a.spot=none)
  (hI:∀n F,Inv n F->Tab F/\F.row a (plA P)) (h0:∀i F,i<512->P i=false->Inv i F->Inv (i+1) F)
  (h1:∀i F,i<512->P i=true->Inv i F->aj prog k (#[vi i]++cap) F λr F'=>r=.tuple #[]/\Inv (i+1) F') (hF:Inv 0 F):
  aj prog 203 #[.pointer (some a),.func (.func k) #[] cap] F λr F'=>r=.tuple #[]/\Inv 512 F':=by
 refine NC ?_;unfold Ib;refine ⟨λm i F'=>∃w:Nat,i=w/\w<=8/\m=8 - w/\Inv (64*w) F',8,⟨0,rfl,by omega,rfl,hF⟩,?_⟩;rintro _ _ F1 ⟨w,rfl,hw,rfl,hi1⟩;unfold zq;refine ⟨λhlt=> ?_,λhge=> ?_⟩
 ·have h8:w<8:=by omega
  have ek:Int.toNat (w:Int)*1=w:=by rw [N6,Rs]
  rw [ek];have hc:F1.cell (a.add w)=some (cL (wd P w)):=by rw [(hI _ _ hi1).2 w h8];have e:=eL P h8;rw [Rf (by exact h8)] at e;exact e
  refine ⟨a,rfl,by omega,by omega,_,hc,?_⟩;refine ⟨λm x F'=>∃j y:Nat,x=y/\j<=64/\m=64 - j/\y<18446744073709551616/\(∀i,y.testBit i=((wd P w).testBit i && decide (j<=i)))/\Inv (64*w+j) F',64,⟨0,wd P w,rfl,by omega,rfl,mK P w,λi=>by simp,hi1⟩,?_⟩;rintro _ _ F2 ⟨j,y,rfl,hj,rfl,hy,hbit,hi2⟩;unfold zp;have skip:∀(t:Nat),j<=t->t<=64->(∀i,j<=i->i<t->P (64*w+i)=false)->Inv (64*w+t) F2:=by
   intro t;induction t with
   |zero=>
    intro h _ _;obtain rfl:j=0:=by omega
    exact hi2
   |succ t ih=>
    intro h h2 h3;by_cases e:j=t+1
    ·subst e;exact hi2
    ·have:=ih (by omega) (by omega) λi a c=>h3 i a (by omega);exact h0 (64*w+t) F2 (by omega) (h3 t (by omega) (by omega)) this
  refine ⟨λhne=> ?_,λhe=> ?_⟩
  ·
   have hex:∃t,y.testBit t=true:=Classical.byContradiction λhn=>by
    have:y=0:=Nat.eq_of_testBit_eq λi=>by rw [Nat.zero_testBit];exact R0.2 λh=>hn ⟨i,h⟩
    omega
   obtain ⟨t,ht,hmin⟩:∃t,y.testBit t=true/\∀i,i<t->y.testBit i=false:=by
    obtain ⟨t,ht⟩:=hex;have key:∀n t,t<=n->y.testBit t=true->∃t,y.testBit t=true/\∀i,i<t->y.testBit i=false:=by
     intro n;induction n with
     |zero=>
      intro t h ht;obtain rfl:t=0:=by omega
      exact ⟨0,ht,λi hi=>by omega⟩
     |succ n ih=>
      intro t h ht;by_cases hl:∃i,i<t/\y.testBit i=true
      ·obtain ⟨i,h1,h2⟩:=hl;exact ih i (by omega) h2
      ·exact ⟨t,ht,λi hi=>R0.2 λh=>hl ⟨i,hi,h⟩⟩
    exact key t t (QW _) ht
   have hlow:Low y t:=Low.of ht hmin;have htb:=hbit t;rw [ht] at htb;simp at htb;have ht64:t<64:=by
    rcases Nat.lt_or_ge t 64 with h|h
    ·exact h
    ·rw [Nat.testBit_lt_two_pow (Nat.lt_of_lt_of_le (mK P w) (by have:2 ^ 64<=2 ^ t:=Ry (by omega) h;exact this))] at htb;simp at htb
   have hPt:P (64*w+t)=true:=by rw [<- gK P w ht64];exact htb.1
   have hz:∀i,j<=i->i<t->P (64*w+i)=false:=λi a c=>by have:=hbit i;rw [hmin i c,gK P w (by omega)] at this;simp only [decide_eq_true a,Bool.and_true] at this;exact this.symm
   have hi3:=skip t htb.2 (by omega) hz;refine (FF (hI _ _ hi3).1 hy hlow).mono ?_;rintro _ F3 ⟨rfl,e3⟩;obtain rfl:=e3.symm;have ei:i64.wrap (i64.wrap ((64:Int)*(w:Int))+(t:Int))=((64*w+t:Nat):Int):=by rw [aQ (x:=(64:Int)*w) (by omega) (by omega),aQ (by omega) (by omega)];omega
   refine ⟨_,rfl,k,#[],cap,rfl,hk,?_⟩;rw [ei];have:=h1 (64*w+t) F2 (by omega) hPt hi3;refine aj.mono (R:=λr F'=>r=.tuple #[]/\Inv (64*w+t+1) F') (by simpa using this) ?_;rintro _ F4 ⟨rfl,hi4⟩;refine ⟨rfl,64 - (t+1),by omega,t+1,y &&& (y - 1),?_,by omega,rfl,Nat.lt_of_le_of_lt Nat.and_le_left hy,λi=> ?_,hi4⟩
   ·have e:u64.wrap ((y:Int) - 1)=((y - 1:Nat):Int):=by have:=hlow.pos;rw [ku (by omega) (by omega)];omega
    rw [e,tz hy (by omega)]
   ·rw [hlow.clear,hbit i];by_cases hit:i<t
    ·have:=hmin i hit;rw [hbit i] at this;rw [this];simp;omega
    ·by_cases e:i=t
     ·subst e;simp
     ·have:j<=i:=by omega
      simp [this,e];omega
  ·have hy0:y=0:=by omega
   subst hy0;unfold zo;refine ⟨8 - (w+1),by omega,w+1,iI (by omega),h8,rfl,?_⟩;rw [show 64*(w+1)=64*w+64 by omega];refine skip 64 hj (QW _) λi a c=> ?_;have:=hbit i;rw [Nat.zero_testBit,gK P w c] at this;simp only [decide_eq_true a,Bool.and_true] at this;exact this.symm
 ·obtain rfl:w=8:=by omega
  exact ⟨rfl,hi1⟩
end
end Go.Proofs.YtcemhghkipgdiaaGreatDoor
namespace Go.Proofs.YtcemhghkipgdiaaGreatDoor
open Go.IntKind (i64 u8 u64)
open Go Go.ChangeShapes Go.WideShapes Go.ChangeAt Go.RowKit Go.Proofs.Tryz
set_option maxRecDepth 100000
abbrev pM:List (String×DataW Unit):=[("math/bits.deBruijn64tab",Rows.laid_math_bits_deBruijn64tab)]
theorem pN:prog.cellsOf 5=1:=by kernel_rfl
theorem Nf:ownKnob prog.godebug=Option.none:=by kernel_rfl
theorem FG:laidOutB prog=true:=by kernel_rfl
theorem J0:(Rows.laid_math_bits_deBruijn64tab:DataW Unit)=.agg (vb.map λ(n:Nat)=> .lit (.int .u8 (n:Int))):=by kernel_rfl
theorem vJ {W:World} (h:laidMetH prog pM W):Tab (hF W):=by
 intro r v hv;have hr:r<64:=(N5.1 hv).1;rw [MakeChecks.laidMetH_plain _ _ _ (by kernel_rfl)] at h;obtain ⟨ps,⟨g,t,cs,fuel,p,q,hg,ht,hw,hd,_,_⟩,_,_⟩:=h;obtain rfl:=Rg ((show prog.globalNamed "math/bits.deBruijn64tab"=some 0 by kernel_rfl).symm.trans hg);obtain rfl:=Rg ((show (prog.globals[0]?).map (·.type)=some 262 by kernel_rfl).symm.trans ht);obtain ⟨xs,m,_,ex,_,hl,hel⟩:=DataW.trod_array underlying262 hd;have hE:=hel r hr;rw [pN,Rs,N4 (by omega)] at hE;obtain ⟨z,e1,e2,_⟩:=DataW.trod_int underlying5 hE;rw [J0] at ex;have e3:(xs.map (·.1))=vb.map λ(n:Nat)=> .lit (.int .u8 (n:Int)):=(DataW.agg.inj (Prod.mk.inj ex).1).symm;have e4:(xs.map (·.1))[r]? =(vb.map λ(n:Nat)=>(DataW.lit (.int .u8 (n:Int)):DataW Unit))[r]? :=by rw [e3]
 rw [Rb,Rb,N4 (by omega:r<xs.length),hv,e2] at e4;have hz:z=(v:Int):=by simp only [RQ,Option.some.injEq,DataW.lit.injEq,Lit.int.injEq,true_and] at e4;exact e4
 refine yH ?_;rw [World.var?_cell hg hw r,<- hz];have:cs.toList[r]? =some (.int .u8 z):=by
  have h0:((cs.toList.drop r).take 1)[0]? =some (.int .u8 z):=by rw [e1];rfl
  simpa using h0
 simpa using this
theorem Dw (os:Os) (args:Γ):laidMetH prog pM ((World.laidAll prog os pM).forCall (λ_ _=>0) ⟨#[],args,[]⟩).memory:=by rw [MakeChecks.laidMetH_plain _ _ _ (by kernel_rfl)];exact laidMet_laidAll _ (by kernel_rfl) (by kernel_rfl)
end Go.Proofs.YtcemhghkipgdiaaGreatDoor
namespace Go.Proofs.YtcemhghkipgdiaaGreatDoor
open Go.IntKind (i64 u8 u64)
open Go Go.ChangeShapes Go.WideShapes Go.ChangeAt Go.RowKit Go.Deep Go.Proofs.Tryz
set_option maxRecDepth 10000
section
variable {H:Type} {enc:TypeId×Value->H} {P:Program} {W:World}
theorem Dx {t e fuel:Nat} {k:IntKind} {c:Value} {x:DataW H×List MemPlace} (ht:P.underlying t=some (.slice e)) (he:P.underlying e=some (.int k)) (hc:P.cellsOf e=1)
  (h:DataW.trod enc P W 0 (λ_=>true) true fuel t [c]=some x) (hw:(x.1.weights P t).all (·<=reachBytes)=true):
  ∃(sl:Sl) (zs:Φ),c=Sl.v sl/\RdS (hF W) sl 1 (zs.map (Value.int k))/\(∀z∈zs,(Lit.int k z).wf=true)/\sl.len*P.bytesOf e<=reachBytes/\sl.cap*P.bytesOf e<=reachBytes:=by
 rcases open_slice1 ht hc h with ⟨hcs,rfl⟩|⟨a,len,cap,m,n,V,D,Pl,hcs,_,hl,hm,hmm,rfl,hx⟩
 ·cases hcs;exact ⟨Sl.nil,[],rfl,RdS.nil _ _,by simp,by simp [Sl.nil],by simp [Sl.nil]⟩
 ·cases hcs;simp only [if_true] at hmm;subst hmm;have hz:∀i,i<m->∃z,V i=.int k z/\(Lit.int k z).wf=true:=λi hi=>by obtain ⟨z,h1,_,h3⟩:=DataW.trod_int he (hx i hi).2;exact ⟨z,by simpa using h1,h3⟩
  obtain ⟨Z,hZ⟩:=choose_lt hz;have hb:m*P.bytesOf e<=reachBytes:=by simp only [DataW.weights,ht,SK,Rz,decide_eq_true_eq,Q6,RI] at hw;rw [show len+(m - len)=m by omega] at hw;exact hw.1
  refine ⟨⟨some a,len,m⟩,(List.range len).map Z,rfl,⟨by simp,hl,λhp=> ?_⟩,?_,Se (R8 _ hl) hb,hb⟩
  ·have hs:=World.cell?_spot (hx 0 (by simp only at hp;omega)).1;obtain ⟨b,o,spot⟩:=a;simp only [Addr.add] at hs;subst hs;refine ⟨b,o,rfl,λi hi=> ?_⟩;simp at hi;have:=yH (hx i (by omega)).1;rw [(hZ i (by omega)).1] at this;rw [aC] at this;simpa using this
  ·intro z hz;simp only [Q5,RN] at hz;obtain ⟨i,hi,rfl⟩:=hz;exact (hZ i (by omega)).2
end
theorem J1 {z:Int} (h:(Lit.int .u8 z).wf=true):0<=z/\z<=255:=bounds_u8 h
theorem FH {F:PH} {sl:Sl} {zs:Φ} (h:RdS F sl 1 (zs.map (Value.int .u8))) (hb:sl.len*prog.bytesOf 5<=reachBytes):zs.length<=9000000000000000:=by
 have:=h.len;rw [Q6] at this;have e:prog.bytesOf 5=1:=by kernel_rfl
 have e2:reachBytes=140737488351232:=rfl;rw [e,e2] at hb;omega
class Mem (α:Type) where
 n:Nat
 rep:PH->α->Γ->Prop
 len:∀{F:PH} {x:α} {c:Γ},rep F x c->c.size=n
 le:∀{F G:PH} {x:α} {c:Γ},F.le G->rep F x c->rep G x c
 st:∀{F:PH} {x:α} {c:Γ},rep F x c->∀v∈c.toList,ak v
def cat (vs:List Γ):Ξ:=vs.flatMap Array.toList
theorem bI (c:Γ) (vs:List Γ):cat (c::vs)=c.toList++cat vs:=rfl
theorem bR (a b:List Γ):cat (a++b)=cat a++cat b:=by simp [cat]
theorem cg (c:Γ):cat [c]=c.toList:=by simp [cat]
inductive cR {α:Type} [Mem α] (F:PH):List α->List Γ->Prop
 |nil:cR F [] []
 |cons {x:α} {c:Γ} {l:List α} {vs:List Γ}:Mem.rep F x c->cR F l vs->cR F (x::l) (c::vs)
namespace cR
section
variable {α:Type} [Mem α] {F G:PH} {l m:List α} {vs ws:List Γ}
theorem le (hl:F.le G) (h:cR F l vs):cR G l vs:=by
 induction h with
 |nil=>exact .nil
 |cons h _ ih=>exact .cons (Mem.le hl h) ih
theorem cat_len (h:cR F l vs):(cat vs).length=l.length*Mem.n α:=by
 induction h with
 |nil=>simp [cat]
 |cons h _ ih=>rw [bI,QY,ih,Q1,Mem.len h,Rd,So,Nat.add_comm]
theorem append (h:cR F l vs) (k:cR F m ws):cR F (l++m) (vs++ws):=by
 induction h with
 |nil=>exact k
 |cons h _ ih=>exact .cons h ih
theorem st (h:cR F l vs):∀v∈cat vs,ak v:=by
 induction h with
 |nil=>intro v hv;cases hv
 |cons h _ ih=>
  intro v hv;rw [bI,QX] at hv;rcases hv with hv|hv
  ·exact Mem.st h v hv
  ·exact ih v hv
theorem get (h:cR F l vs):∀{i:Nat} {x:α},l[i]? =some x->∃c,vs[i]? =some c/\Mem.rep F x c/\((cat vs).drop (i*Mem.n α)).take (Mem.n α)=c.toList:=by
 induction h with
 |nil=>intro i x hx;simp at hx
 | @cons y c l vs h h2 ih=>
  intro i x hx;have hlen:=Mem.len h;cases i with
  |zero=>simp at hx;subst hx;refine ⟨c,rfl,h,?_⟩;rw [Sd,Rv,bI,Rk (by simp [hlen]),Q2 (by simp [hlen])]
  |succ i=>simp at hx;obtain ⟨d,h3,h4,h5⟩:=ih hx;refine ⟨d,by simpa using h3,h4,?_⟩;rw [bI,So,List.drop_append,List.drop_eq_nil_of_le (by simp [hlen]),Rj];rw [show i*Mem.n α+Mem.n α - c.toList.length=i*Mem.n α by simp [hlen]];exact h5
theorem take (h:cR F l vs) (k:Nat):cR F (l.take k) (vs.take k):=by
 induction h generalizing k with
 |nil=>simp only [List.take_nil];exact .nil
 |cons h _ ih=>
  cases k with
  |zero=>exact .nil
  |succ k=>exact .cons h (ih k)
theorem drop (h:cR F l vs) (k:Nat):cR F (l.drop k) (vs.drop k):=by
 induction h generalizing k with
 |nil=>simp only [List.drop_nil];exact .nil
 |cons h h2 ih=>
  cases k with
  |zero=>exact .cons h h2
  |succ k=>exact ih k
theorem cat_take (h:cR F l vs) (k:Nat):(cat vs).take (k*Mem.n α)=cat (vs.take k):=by
 induction h generalizing k with
 |nil=>simp [cat]
 |cons h _ ih=>
  cases k with
  |zero=>simp [cat]
  |succ k=>have hlen:=Mem.len h;rw [List.take_succ_cons,bI,bI,So,List.take_append,Q2 (by simp [hlen])];congr 1;rw [show k*Mem.n α+Mem.n α - (Array.toList _).length=k*Mem.n α by simp [hlen]];exact ih k
theorem cat_drop (h:cR F l vs) (k:Nat):(cat vs).drop (k*Mem.n α)=cat (vs.drop k):=by
 induction h generalizing k with
 |nil=>simp [cat]
 |cons h _ ih=>
  cases k with
  |zero=>simp [cat]
  |succ k=>have hlen:=Mem.len h;rw [SN,bI,So,List.drop_append,List.drop_eq_nil_of_le (by simp [hlen]),Rj];rw [show k*Mem.n α+Mem.n α - (Array.toList _).length=k*Mem.n α by simp [hlen]];exact ih k
theorem set (h:cR F l vs) {i:Nat} {x:α} {c:Γ} (hc:Mem.rep F x c):cR F (l.set i x) (vs.set i c):=by
 induction h generalizing i with
 |nil=>simp only [List.set_nil];exact .nil
 |cons h h2 ih=>
  cases i with
  |zero=>exact .cons hc h2
  |succ i=>exact .cons h ih
end
end cR
def RL {α:Type} [Mem α] (F:PH) (s:Sl) (l:List α):Prop:=∃vs,cR F l vs/\RdS F s (Mem.n α) (cat vs)
namespace RL
section
variable {α:Type} [Mem α] {F G:PH} {s:Sl} {l:List α}
theorem le (h:RL F s l) (hl:F.le G):RL G s l:=by obtain ⟨vs,h1,h2⟩:=h;exact ⟨vs,h1.le hl,h2.le hl⟩
theorem nil (F:PH):RL F Sl.nil ([]:List α):=⟨[],.nil,RdS.nil F _⟩
theorem len (h:RL F s l) (hn:0<Mem.n α):s.len=l.length:=by obtain ⟨vs,h1,h2⟩:=h;have:=h2.len;rw [h1.cat_len] at this;exact (Nat.eq_of_mul_eq_mul_right hn this).symm
theorem cap (h:RL F s l):s.len<=s.cap:=by obtain ⟨vs,h1,h2⟩:=h;exact h2.cap
theorem get (h:RL F s l) (hn:0<Mem.n α) {i:Nat} {x:α} (hx:l[i]? =some x):∃a c,s.base=some a/\F.row (a.add (i*Mem.n α)) c/\Mem.rep F x c:=by
 obtain ⟨vs,h1,h2⟩:=h;obtain ⟨c,h3,h4,h5⟩:=h1.get hx;have hi:i<l.length:=(N5.1 hx).1;have hlen:=h2.len;rw [h1.cat_len] at hlen;have hp:0<s.len:=by have:=Nat.eq_of_mul_eq_mul_right hn hlen;omega
 obtain ⟨b,o,hb,_⟩:=h2.cells hp;refine ⟨⟨b,o,none⟩,c,hb,h2.row hb _ c ?_,h4⟩;rw [Mem.len h4];exact h5.symm
end
end RL
instance:Mem Int where
 n:=1
 rep _ x c:=c= #[vi x]
 len h:=by rw [h];rfl
 le _ h:=h
 st h:=by rw [h];simp [ak]
instance:Mem ByteArray where
 n:=1
 rep _ x c:=c= #[.string x]
 len h:=by rw [h];rfl
 le _ h:=h
 st h:=by rw [h];simp [ak]
instance:Mem Br where
 n:=3
 rep _ x c:=c=aU x
 len h:=by rw [h];rfl
 le _ h:=h
 st h:=by rw [h];simp [ak]
instance:Mem Nd where
 n:=5
 rep _ x c:=c=x.arr
 len h:=by rw [h];rfl
 le _ h:=h
 st h:=by rw [h];simp [ak]
structure Sy where
 t:Bool
 i:Int
deriving DecidableEq
abbrev Sy.arr (x:Sy):Γ:= #[.bool x.t,vi x.i]
instance:Mem Sy where
 n:=2
 rep _ x c:=c=x.arr
 len h:=by rw [h];rfl
 le _ h:=h
 st h:=by rw [h];simp [ak]
structure Cn where
 k:Int
 a:Int
 b:Int
deriving DecidableEq
abbrev Cn.arr (x:Cn):Γ:= #[vi x.k,vi x.a,vi x.b]
instance:Mem Cn where
 n:=3
 rep _ x c:=c=x.arr
 len h:=by rw [h];rfl
 le _ h:=h
 st h:=by rw [h];simp [ak]
theorem RL.flat {α:Type} [Mem α] {f:α->Γ} (hf:∀F x c,Mem.rep F x c↔c=f x) {F:PH} {s:Sl} {l:List α}:RL F s l↔RdS F s (Mem.n α) (l.flatMap λx=>(f x).toList):=by
 have key:∀(l:List α) (vs:List Γ),cR F l vs↔vs=l.map f:=by
  intro l;induction l with
  |nil=>intro vs;exact ⟨λh=>by cases h;rfl,λh=>by rw [h];exact .nil⟩
  |cons x l ih=>
   intro vs;constructor
   ·intro h;cases h with
    |cons h1 h2=>rw [(hf _ _ _).1 h1,(ih _).1 h2];rfl
   ·intro h;rw [h];exact .cons ((hf _ _ _).2 rfl) ((ih _).2 rfl)
 have e:cat (l.map f)=l.flatMap λx=>(f x).toList:=by simp [cat,List.flatMap_map]
 constructor
 ·rintro ⟨vs,h1,h2⟩;rw [(key l vs).1 h1,e] at h2;exact h2
 ·intro h;exact ⟨_,(key l _).2 rfl,by rw [e];exact h⟩
theorem RL.brs {F:PH} {s:Sl} {l:List Br}:RL F s l↔RdS F s 3 (aT l):=RL.flat (f:=aU) (λ_ _ _=>Iff.rfl)
theorem RL.nds {F:PH} {s:Sl} {l:List Nd}:RL F s l↔RdS F s 5 (eT l):=RL.flat (f:=Nd.arr) (λ_ _ _=>Iff.rfl)
theorem HO {α:Type} (f:α->Value) (l:List α):(l.flatMap λx=>(#[f x]:Γ).toList)=l.map f:=by
 induction l with
 |nil=>rfl
 |cons x l ih=>rw [RC,ih];rfl
theorem RL.ints {F:PH} {s:Sl} {l:Φ}:RL F s l↔RdS F s 1 (l.map vi):=by rw [RL.flat (f:=λx=> #[vi x]) (λ_ _ _=>Iff.rfl),HO];rfl
theorem RL.strs {F:PH} {s:Sl} {l:List ByteArray}:RL F s l↔RdS F s 1 (l.map Value.string):=by rw [RL.flat (f:=λx=> #[.string x]) (λ_ _ _=>Iff.rfl),HO];rfl
theorem DV.mk {F:PH} {s:Sl} {d:Dia} (h:RL F s d.1):DV F #[s.v,vi d.2] d:=⟨s,rfl,RL.brs.1 h⟩
structure Tk where
 name:ByteArray
 cls:Int
 lit:ByteArray
 pat:List Nd
 smp:ByteArray
 cond:Dia
structure Sco where
 o:Bool
 d:Int
 k:Int
 u:Int
 a:Int
deriving DecidableEq
structure Pr where
 name:ByteArray
 left:Int
 right:List Sy
 cond:Dia
 brk:Bool
 rank:Int
 lay:List Cn
 sco:Sco
structure Lv where
 ps:Φ
 assoc:Int
 cond:Dia
structure Fi where
 k:Int
 par:Int
 pos:Int
 ch:Int
 left:Int
 tok:Int
 toks:Φ
 cond:Dia
structure Gr where
 conds:List ByteArray
 fam:Dia
 toks:List Tk
 nons:List ByteArray
 prods:List Pr
 start:Int
 lvs:List Lv
 fils:List Fi
deriving instance DecidableEq for Tk,Pr,Lv,Fi,Gr
abbrev Tk.arr (x:Tk) (p n:Sl):Γ:= #[.string x.name,vi x.cls,.string x.lit,p.v,.string x.smp,n.v,vi x.cond.2]
abbrev Pr.arr (x:Pr) (r n l:Sl):Γ:= #[.string x.name,vi x.left,r.v,n.v,vi x.cond.2,.bool x.brk,vi x.rank,l.v,.bool x.sco.o,vi x.sco.d,vi x.sco.k,vi x.sco.u,vi x.sco.a]
abbrev Lv.arr (x:Lv) (p n:Sl):Γ:= #[p.v,vi x.assoc,n.v,vi x.cond.2]
abbrev Fi.arr (x:Fi) (t n:Sl):Γ:= #[vi x.k,vi x.par,vi x.pos,vi x.ch,vi x.left,vi x.tok,t.v,n.v,vi x.cond.2]
abbrev Gr.arr (g:Gr) (c n t s p l f:Sl):Γ:= #[c.v,n.v,vi g.fam.2,t.v,s.v,p.v,vi g.start,l.v,f.v]
instance:Mem Tk where
 n:=7
 rep F x c:=∃p n,c=x.arr p n/\RL F p x.pat/\RL F n x.cond.1
 len h:=by obtain ⟨p,n,rfl,_⟩:=h;rfl
 le hl h:=by obtain ⟨p,n,h1,h2,h3⟩:=h;exact ⟨p,n,h1,h2.le hl,h3.le hl⟩
 st h:=by obtain ⟨p,n,rfl,_⟩:=h;simp [ak,Sl.v]
instance:Mem Pr where
 n:=13
 rep F x c:=∃r n l,c=x.arr r n l/\RL F r x.right/\RL F n x.cond.1/\RL F l x.lay
 len h:=by obtain ⟨r,n,l,rfl,_⟩:=h;rfl
 le hl h:=by obtain ⟨r,n,l,h1,h2,h3,h4⟩:=h;exact ⟨r,n,l,h1,h2.le hl,h3.le hl,h4.le hl⟩
 st h:=by obtain ⟨r,n,l,rfl,_⟩:=h;simp [ak,Sl.v]
instance:Mem Lv where
 n:=4
 rep F x c:=∃p n,c=x.arr p n/\RL F p x.ps/\RL F n x.cond.1
 len h:=by obtain ⟨p,n,rfl,_⟩:=h;rfl
 le hl h:=by obtain ⟨p,n,h1,h2,h3⟩:=h;exact ⟨p,n,h1,h2.le hl,h3.le hl⟩
 st h:=by obtain ⟨p,n,rfl,_⟩:=h;simp [ak,Sl.v]
instance:Mem Fi where
 n:=9
 rep F x c:=∃t n,c=x.arr t n/\RL F t x.toks/\RL F n x.cond.1
 len h:=by obtain ⟨p,n,rfl,_⟩:=h;rfl
 le hl h:=by obtain ⟨p,n,h1,h2,h3⟩:=h;exact ⟨p,n,h1,h2.le hl,h3.le hl⟩
 st h:=by obtain ⟨p,n,rfl,_⟩:=h;simp [ak,Sl.v]
structure GS (F:PH) (g:Gr) (c n t s p l f:Sl):Prop where
 c:RL F c g.conds
 n:RL F n g.fam.1
 t:RL F t g.toks
 s:RL F s g.nons
 p:RL F p g.prods
 l:RL F l g.lvs
 f:RL F f g.fils
theorem GS.le {F G:PH} {g:Gr} {c n t s p l f:Sl} (h:GS F g c n t s p l f) (hl:F.le G):GS G g c n t s p l f:=
 ⟨h.c.le hl,h.n.le hl,h.t.le hl,h.s.le hl,h.p.le hl,h.l.le hl,h.f.le hl⟩
def GV (F:PH) (v:Γ) (g:Gr):Prop:=∃c n t s p l f,v=g.arr c n t s p l f/\GS F g c n t s p l f
theorem GV.le {F G:PH} {v:Γ} {g:Gr} (h:GV F v g) (hl:F.le G):GV G v g:=by obtain ⟨c,n,t,s,p,l,f,h1,h2⟩:=h;exact ⟨c,n,t,s,p,l,f,h1,h2.le hl⟩
theorem GV.size {F:PH} {v:Γ} {g:Gr} (h:GV F v g):v.size=9:=by obtain ⟨c,n,t,s,p,l,f,rfl,_⟩:=h;rfl
theorem GV.st {F:PH} {v:Γ} {g:Gr} (h:GV F v g):∀x∈v.toList,ak x:=by obtain ⟨c,n,t,s,p,l,f,rfl,_⟩:=h;simp [ak,Sl.v]
set_option maxHeartbeats 4000000
section
variable {F:PH}
theorem rdn {s:Sl} {l:List Nd} (h:RdS F s 5 (eT l)) {i:Nat} {x:Nd} (hx:l[i]? =some x):∃a,s.base=some a/\F.row (a.add (i*5)) x.arr:=by
 obtain ⟨hi,hx⟩:=N5.1 hx;subst hx;have hlen:=h.nlen;obtain ⟨b,o,hb,_⟩:=h.cells (by omega)
 exact ⟨_,hb,h.row hb (i*5) l[i].arr (by
  have:=se l i hi
  simpa [Nd.arr,Nd.cells] using this.symm)⟩
end
def ar (k:Int):Int:=if k=4 then 1 else if k=2\/k=3 then 2 else if k=0\/k=1 then 0 else -1
def okN (i:Nat) (x:Nd):Prop:=0<=ar x.k/\(x.k=1->0<=x.lo/\x.lo<=x.hi/\x.hi<=255)/\(x.k≠1->x.lo=0/\x.hi=0)/\(ar x.k<1->x.a=0)/\(ar x.k<2->x.b=0)/\
 (1<=ar x.k->0<=x.a/\x.a<i)/\(2<=ar x.k->0<=x.b/\x.b<i)
def us (x:Nd):Φ:=if 2<=ar x.k then [x.b,x.a] else if 1<=ar x.k then [x.a] else []
def usL:List Nd->Φ
 |[]=>[]
 |x::l=>usL l++us x
theorem pO (l:List Nd) (x:Nd):usL (l++[x])=us x++usL l:=by
 induction l with
 |nil=>simp [usL]
 |cons y l ih=>simp [usL,ih]
structure GoodL (l:List Nd):Prop where
 ne:l≠[]
 ok:∀i x,l[i]? =some x->okN i x
 nd:(usL l).Nodup
 all:∀i:Nat,i+1<l.length->(i:Int)∈usL l
open Classical in
noncomputable def io (l:List Nd):Int:=if 512<l.length then 2 else if GoodL l then 0 else 40
section
variable {F0 F:PH}
theorem xF (k:Int):aj prog 183 #[vi k] F λr F'=>r=vi (ar k)/\F'=F:=by
 refine Nw ?_;unfold HX;have j1:∀t:Bool,t=decide (k=0\/k=1)->oe k t (λr F'=>r=vi (ar k)/\F'=F) F:=λt ht=>by
  unfold oe;refine ⟨λh=>⟨?_,rfl⟩,λh=> ?_⟩
  ·have:=of_decide_eq_true (ht.symm.trans h);have e1:ar k=0:=by unfold ar;rw [if_neg (by omega),if_neg (by omega),if_pos (by omega)]
   rw [e1]
  ·have h01:=of_decide_eq_false (ht.symm.trans h);refine ⟨λh4=>⟨?_,rfl⟩,λh4=>⟨λh2=>⟨λ_=>⟨?_,rfl⟩,λh=>absurd h2 h⟩,λh2=>⟨λh3=>⟨?_,rfl⟩,λh3=>⟨?_,rfl⟩⟩⟩⟩
   ·have e1:ar k=1:=by unfold ar;rw [if_pos (by omega)]
    rw [e1]
   ·have e1:ar k=2:=by unfold ar;rw [if_neg (by omega),if_pos (by omega)]
    rw [e1]
   ·have e1:ar k=2:=by unfold ar;rw [if_neg (by omega),if_pos (by omega)]
    rw [e1]
   ·have e1:ar k= -1:=by unfold ar;rw [if_neg (by omega),if_neg (by omega),if_neg (by omega)]
    rw [e1]
 refine ⟨λh=>j1 _ ?_,λh=>j1 _ ?_⟩
 ·rw [Q0];simp;omega
 ·rw [Q0];simp;omega
def gu (n:Nat) (W:Φ):Ξ:=(List.range n).map λ(i:Nat)=>Value.bool (decide ((i:Int)∈W))
structure Usd (F0 F:PH) (b u n:Nat) (W:Φ):Prop where
 zb:F0 b=none
 zu:F0 u=none
 le:F0.le F
 ne:u≠b
 qb:F b=some (.cells #[Sl.v ⟨some ⟨u,0,none⟩,n,n⟩] 211)
 qu:F u=some (.cells (gu n W).toArray 4)
theorem A1 (n:Nat) (W:Φ) (i:Nat) (hi:i<n):(gu n W).toArray.setIfInBounds i (.bool true)=(gu n ((i:Int)::W)).toArray:=by
 apply Array.ext';rw [Array.toList_setIfInBounds];apply RZ;intro j;rw [SJ];simp only [gu,Q6,RI,Rb];by_cases h:i=j
 ·subst h;rw [if_pos rfl,if_pos hi,RX hi];simp
 ·rw [if_neg h];by_cases hj:j<n
  ·rw [RX hj];simp only [RQ,QU];congr 2;rw [Q0];simp only [decide_eq_true_eq];constructor
   ·exact .inr
   ·rintro (e|e)
    ·omega
    ·exact e
  ·rw [R1 (by simp;omega)];rfl
theorem r6 {n:Nat} {W:Φ} {i:Nat} (hi:i<n):(gu n W).toArray[i]? =some (.bool (decide ((i:Int)∈W))):=by simp [gu,hi]
theorem pP {b u n:Nat} {W:Φ} (h:Usd F0 F b u n W) (i:Int) {at_:Nat} (ha:at_<=n):
  aj prog 182 #[vi i,vi at_,pa b] F λr F'=>((0<=i/\i<at_/\i ∉ W)/\r=.bool true/\Usd F0 F' b u n (i::W)/\∀x,x≠u->F' x=F x)\/(¬(0<=i/\i<at_/\i ∉ W)/\r=.bool false/\F'=F):=by
 refine Nv ?_;unfold HW;refine ⟨λh0=> .inr ⟨by omega,rfl,rfl⟩,λh0=>⟨λh1=> .inr ⟨by omega,rfl,rfl⟩,λh1=> ?_⟩⟩;obtain ⟨k,rfl⟩:=Int.eq_ofNat_of_zero_le (by omega:0<=i);have hk:k<n:=by omega
 have hr:F.cell ((Addr.mk u 0 none).add (Int.toNat (k:Int)*1))=some (.bool (decide ((k:Int)∈W))):=by rw [N6,Rs,show (Addr.mk u 0 none).add k=⟨u,k,none⟩ by simp [Addr.add];omega,am h.qu];exact r6 hk
 have hc:F.cell ⟨b,0,none⟩=some (Sl.v ⟨some ⟨u,0,none⟩,n,n⟩):=by rw [am h.qb];rfl
 refine ⟨_,rfl,_,hc,_,rfl,by omega,by simp only;omega,_,hr,λhm=> .inr ⟨λhn=>hn.2.2 (of_decide_eq_true hm),rfl,rfl⟩,λhm=>⟨_,hc,_,rfl,by omega,by simp only;omega,?_⟩⟩;have hm:=of_decide_eq_false hm;refine qS (b:=u) (o:=k) (by rw [N6,Rs];simp [Addr.add];omega) h.qu (by simp [gu];exact hk) ?_;refine .inl ⟨⟨by omega,by omega,hm⟩,rfl,⟨h.zb,h.zu,av h.le h.zu,h.ne,?_,?_⟩,λx hx=>aw _ _ hx⟩
 ·rw [aw _ _ h.ne.symm];exact h.qb
 ·show (F.set u (.cells ((gu n W).toArray.setIfInBounds k (.bool true)) 4)) u=_;rw [A1 n W k hk];exact al _ _ _
theorem Dy {s:Sl} {b u n b6 j:Nat} {W:Φ} {x:Nd} {ok:Bool} {N:Ω} {R:Value->Ψ} (h:Usd F0 F b u n W) (q6:F b6=some (.cells x.arr 149)) (hj:j<=n) (hu:u≠b6)
  (bad:¬(ok=true/\(ar x.k<1->x.a=0)/\(ar x.k<2->x.b=0)/\(1<=ar x.k->0<=x.a/\x.a<j/\x.a ∉ W)/\(2<=ar x.k->0<=x.b/\x.b<j/\x.b ∉ x.a::W))->∀F',F0.le F'->R (vi 40) F')
  (good:(ok=true/\(ar x.k<1->x.a=0)/\(ar x.k<2->x.b=0)/\(1<=ar x.k->0<=x.a/\x.a<j/\x.a ∉ W)/\(2<=ar x.k->0<=x.b/\x.b<j/\x.b ∉ x.a::W))->∀F',Usd F0 F' b u n (us x++W)->N (i64.wrap ((j:Int)+1)) F'):
  fk N s b j b6 (ar x.k) ok R F:=by
 have cA:∀{F':PH},F' b6=some (.cells x.arr 149)->F'.cell (Addr.mk b6 3 none)=some (vi x.a):=λh=>by rw [am h];rfl
 have cB:∀{F':PH},F' b6=some (.cells x.arr 149)->F'.cell (Addr.mk b6 4 none)=some (vi x.b):=λh=>by rw [am h];rfl
 unfold fk;refine ⟨λhk=>bad (λhg=>by rw [hg.1] at hk;cases hk) _ h.le,λhk=> ?_⟩;have hok:ok=true:=by simpa using hk
 refine ⟨λh1=>⟨_,cA q6,λha=>bad (λhg=>ha (hg.2.1 h1)) _ h.le,λha=>⟨λh2=>⟨_,cB q6,λhb=>bad (λhg=>hb (hg.2.2.1 h2)) _ h.le,λhb=>⟨λh3=>absurd h3 (by omega),λh3=>⟨λh4=>absurd h4 (by omega),λh4=> ?_⟩⟩⟩,λh2=>absurd h2 (by omega)⟩⟩,
  λh1=>⟨λh2=>⟨_,cB q6,λhb=>bad (λhg=>hb (hg.2.2.1 h2)) _ h.le,λhb=>⟨λh3=>⟨_,cA q6,?_⟩,λh3=>absurd h3 (by omega)⟩⟩,λh2=>⟨λh3=>⟨_,cA q6,?_⟩,λh3=>absurd h3 (by omega)⟩⟩⟩
 ·unfold bV;refine good ⟨hok,λ_=>by omega,λ_=>by omega,λh=>by omega,λh=>by omega⟩ _ ?_;have:us x=[]:=by unfold us;rw [if_neg h4,if_neg h3]
  rw [this];exact h
 ·refine (pP h x.a hj).mono ?_;rintro _ F2 (⟨hg,rfl,h2',hk2⟩|⟨hg,rfl,rfl⟩)
  ·refine ⟨_,rfl,λh=>by simp at h,λ_=>⟨λh4=>absurd h4 (by omega),λh4=> ?_⟩⟩;unfold bV;refine good ⟨hok,λ_=>by omega,λ_=>by omega,λ_=>hg,λh=>by omega⟩ _ ?_;have:us x=[x.a]:=by unfold us;rw [if_neg h4,if_pos h3]
   rw [this];exact h2'
  ·exact ⟨_,rfl,λ_=>bad (λhg2=>hg (hg2.2.2.2.1 h3)) _ h.le,λh=>by simp at h⟩
 ·refine (pP h x.a hj).mono ?_;rintro _ F2 (⟨hg,rfl,h2',hk2⟩|⟨hg,rfl,rfl⟩)
  ·have q6':F2 b6=some (.cells x.arr 149):=(hk2 _ hu.symm).trans q6;refine ⟨_,rfl,λh=>by simp at h,λ_=>⟨λh4=>⟨_,cB q6',?_⟩,λh4=>absurd h4 (by omega)⟩⟩;refine (pP h2' x.b hj).mono ?_;rintro _ F3 (⟨hg3,rfl,h3',hk3⟩|⟨hg3,rfl,rfl⟩)
   ·refine ⟨_,rfl,λh=>by simp at h,λ_=> ?_⟩;unfold bV;refine good ⟨hok,λ_=>by omega,λ_=>by omega,λ_=>hg,λ_=>hg3⟩ _ ?_;have:us x=[x.b,x.a]:=by unfold us;rw [if_pos h4]
    rw [this];exact h3'
   ·exact ⟨_,rfl,λ_=>bad (λhg2=>hg3 (hg2.2.2.2.2 h4)) _ h2'.le,λh=>by simp at h⟩
  ·exact ⟨_,rfl,λ_=>bad (λhg2=>hg (hg2.2.2.2.1 h3)) _ h.le,λh=>by simp at h⟩
end
end Go.Proofs.YtcemhghkipgdiaaGreatDoor
