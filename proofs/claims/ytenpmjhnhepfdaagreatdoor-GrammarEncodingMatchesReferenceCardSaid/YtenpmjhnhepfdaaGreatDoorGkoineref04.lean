/-
  What functions of the program do, in a clean form, each with the proof that its code does so. Printed by a program.
-/
import Derived.Test.YtenpmjhnhepfdaaGreatDoorPhn
import Derived.Test.YtenpmjhnhepfdaaGreatDoorGpattern
import Derived.Test.YtenpmjhnhepfdaaGreatDoorTie
import Derived.Test.YtenpmjhnhepfdaaGreatDoorCards
import Derived.LaidMore
import Derived.Lay
import Derived.SevenTiedAt
import Derived.Stop.Joined
import Derived.Test.YtenpmjhnhepfdaaGreatDoorEa
import Derived.Test.YtenpmjhnhepfdaaGreatDoorPhp
namespace Go.Proofs.YtenpmjhnhepfdaaGreatDoor
open Go.IntKind (i64 u8 u64)
open Go Go.Proofs.Tryz
set_option maxRecDepth 10000
abbrev cU (n:Nat):Value:=.int .u64 (n:Int)
def plA (P:Nat->Bool):Γ:= #[cU (wd P 0),cU (wd P 1),cU (wd P 2),cU (wd P 3),cU (wd P 4),cU (wd P 5),cU (wd P 6),cU (wd P 7)]
def noP:Nat->Bool:=λ_=>false
theorem bD:plA noP= #[.int .u64 0,.int .u64 0,.int .u64 0,.int .u64 0,.int .u64 0,.int .u64 0,.int .u64 0,.int .u64 0]:=by unfold plA noP;simp only [vu];rfl
theorem HI (P:Nat->Bool):(plA P).size=8:=rfl
theorem fh (P:Nat->Bool) {k:Nat} (h:k<8):(plA P)[k]? =some (cU (wd P k)):=by
 have:k=0\/k=1\/k=2\/k=3\/k=4\/k=5\/k=6\/k=7:=by omega
 rcases this with rfl|rfl|rfl|rfl|rfl|rfl|rfl|rfl<;>rfl
theorem bz (P:Nat->Bool):∀v∈(plA P).toList,ai v:=by intro v hv;simp only [plA,XB,Yq,or_false] at hv;rcases hv with rfl|rfl|rfl|rfl|rfl|rfl|rfl|rfl<;>exact jl
def te (P Q:Nat->Bool) (k:Nat):Ξ:=(List.range 8).map λj=>if j<k then cU (wd Q j) else cU (wd P j)
theorem Eu (P Q:Nat->Bool):te P Q 0=(plA P).toList:=rfl
theorem HJ (P Q:Nat->Bool):te P Q 8=(plA Q).toList:=rfl
theorem HK (P Q:Nat->Bool) {k:Nat} (hk:k<8):(te P Q k).set k (cU (wd Q k))=te P Q (k+1):=by
 have:k=0\/k=1\/k=2\/k=3\/k=4\/k=5\/k=6\/k=7:=by omega
 rcases this with rfl|rfl|rfl|rfl|rfl|rfl|rfl|rfl<;>rfl
theorem HM (P Q:Nat->Bool) {k:Nat} (hk:k<8):(te P Q k)[k]? =some (cU (wd P k)):=by
 have:k=0\/k=1\/k=2\/k=3\/k=4\/k=5\/k=6\/k=7:=by omega
 rcases this with rfl|rfl|rfl|rfl|rfl|rfl|rfl|rfl<;>rfl
theorem cg (b o k:Nat):(Addr.mk b o none).add k=⟨b,o+k,none⟩:=by
 by_cases h:k=0
 ·subst h;rfl
 ·simp [Addr.add,h]
def jZ (F:PH) (b:Nat) (e:TypeId) (pre:Ξ) (P:Nat->Bool) (post:Ξ):Prop:=F b=some (.cells (pre++(plA P).toList++post).toArray e)
theorem jZ.row {F:PH} {b:Nat} {e:TypeId} {pre post:Ξ} {P:Nat->Bool} (h:jZ F b e pre P post):F.row ⟨b,pre.length,none⟩ (plA P):=by intro i hi;have hi':i<8:=hi;rw [cg,an h];rw [YZ,Xz,Yb (by omega),Nat.add_sub_cancel_left,X5 (by exact hi')];simp
theorem jZ.own {F:PH} {b:Nat} {e:TypeId} {P:Nat->Bool}:jZ F b e [] P []↔F b=some (.cells (plA P) e):=by unfold jZ;simp
section
variable {F:PH}
theorem ui {b:Nat} {e:TypeId} {pre post:Ξ} {P Q:Nat->Bool} (h:jZ F b e pre P post):
  ae prog 225 #[.pointer (some ⟨b,pre.length,none⟩),.agg (plA Q)] F λr F'=>r=.tuple #[]/\jZ F' b e pre (λi=>P i || Q i) post/\cG (λx=>x=b) F F':=by
 refine R2 ?_;unfold Mi;intro b3 hb3;refine atI ?_;have hbF:∃o,F b=some o:=⟨_,h⟩;have l3:=ac (.cells (plA Q) 275) hb3;have q3:=aq F b3 (.cells (plA Q) 275);have h3:(F.set b3 (.cells (plA Q) 275)) b=some (.cells (pre++te P (λi=>P i || Q i) 0++post).toArray e):=by rw [Eu];exact l3 _ _ h
 have hne:b≠b3:=aJ hb3 h;generalize F.set b3 (.cells (plA Q) 275)=F3 at*;refine ⟨λm i F'=>∃k:Nat,i=k/\k<=8/\m=8 - k/\F' b3=some (.cells (plA Q) 275)/\F' b=some (.cells (pre++te P (λi=>P i || Q i) k++post).toArray e)/\cG (λx=>x=b) F F',8,⟨0,rfl,by omega,rfl,q3,h3,cG.of_le l3⟩,?_⟩;rintro _ _ F4 ⟨k,rfl,hk,rfl,q4,h4,hk4⟩;unfold BN;refine ⟨λhlt=> ?_,λhge=> ?_⟩
 ·have h8:k<8:=by omega
  have hml:(te P (λi=>P i || Q i) k).length=8:=by simp [te]
  have hg:(pre++te P (λi=>P i || Q i) k++post).toArray[pre.length+k]? =some (cU (wd P k)):=by rw [YZ,Xz,Yb (by omega),Nat.add_sub_cancel_left,X5 (by omega)];exact HM P _ h8
  have ek:Int.toNat (k:Int)*1=k:=by rw [N5,XS]
  rw [ek];have hc:F4.cell ((Addr.mk b pre.length none).add k)=some (cU (wd P k)):=by rw [cg,an h4];exact hg
  have hc3:F4.cell ((Addr.mk b3 0 none).add k)=some (cU (wd Q k)):=by rw [cg,XZ,an q4];exact fh Q h8
  refine ⟨_,rfl,by omega,by omega,_,hc,by omega,by omega,_,hc3,by omega,by omega,?_⟩;refine qZ (b:=b) (o:=pre.length+k) (cg b pre.length k) h4 (by simp [hml];omega) ?_;rw [Hd (oa P k) (oa Q k),<- SF];refine ⟨8 - (k+1),by omega,k+1,fC (by omega),h8,rfl,?_,?_,hk4.trans (cG.set _ (.inl rfl))⟩
  ·rw [aC _ _ hne.symm];exact q4
  ·rw [aq];congr 2;rw [List.setIfInBounds_toArray];congr 1;rw [Xz,List.set_append_right _ _ (by omega),Nat.add_sub_cancel_left,List.set_append_left _ _ (by omega),Xz];congr 2;exact HK P (λi=>P i || Q i) h8
 ·obtain rfl:k=8:=by omega
  rw [HJ] at h4;exact ⟨rfl,h4,hk4⟩
theorem x9 {b:Nat} {e:TypeId} {pre post:Ξ} {P Q:Nat->Bool} (h:jZ F b e pre P post):
  ae prog 229 #[.pointer (some ⟨b,pre.length,none⟩),.agg (plA Q)] F λr F'=>(∃t:Bool,r=.bool t/\(t=true↔∃i,i<512/\P i=true/\Q i=true))/\F.le F':=by
 refine R5 ?_;unfold Ml;intro b3 hb3;refine atI ?_;have l3:=ac (.cells (plA Q) 275) hb3;have q3:=aq F b3 (.cells (plA Q) 275);have h3:jZ (F.set b3 (.cells (plA Q) 275)) b e pre P post:=l3 _ _ h;generalize F.set b3 (.cells (plA Q) 275)=F3 at*;refine ⟨λm i F'=>∃k:Nat,i=k/\k<=8/\m=8 - k/\F'=F3/\∀i,i<64*k->¬(P i=true/\Q i=true),8,⟨0,rfl,by omega,rfl,rfl,λi hi=>by omega⟩,?_⟩;rintro _ _ F4 ⟨k,rfl,hk,rfl,e4,hall⟩;obtain rfl:=e4.symm;unfold BP;refine ⟨λhlt=> ?_,λhge=> ?_⟩
 ·have h8:k<8:=by omega
  have ek:Int.toNat (k:Int)*1=k:=by rw [N5,XS]
  rw [ek];have hc:F3.cell ((Addr.mk b pre.length none).add k)=some (cU (wd P k)):=by have:=h3.row k h8;rw [this];have e:=fh P h8;rw [XV (by exact h8)] at e;exact e
  have hc3:F3.cell ((Addr.mk b3 0 none).add k)=some (cU (wd Q k)):=by rw [cg,XZ,an q3];exact fh Q h8
  refine ⟨_,rfl,by omega,by omega,_,hc,by omega,by omega,_,hc3,?_⟩;dsimp only;rw [vx (oa P k) (oa Q k),<- Pm];refine ⟨λhne=>⟨⟨true,rfl,?_⟩,l3⟩,λhe=>⟨8 - (k+1),by omega,k+1,fC (by omega),h8,rfl,rfl,λi hi=> ?_⟩⟩
  ·refine ⟨λ_=> ?_,λ_=>rfl⟩;have h0:¬wd (λi=>P i && Q i) k=0:=by omega
   rw [iv] at h0;have:∃j,¬(j<64->(P (64*k+j) && Q (64*k+j))=false):=Classical.not_forall.1 h0;obtain ⟨j,hj⟩:=this;have hj64:j<64:=Classical.byContradiction λh=>hj λh'=>absurd h' h;have hj2:¬(P (64*k+j) && Q (64*k+j))=false:=λh=>hj λ_=>h;simp at hj2;exact ⟨64*k+j,by omega,hj2⟩
  ·by_cases hlt2:i<64*k
   ·exact hall i hlt2
   ·have h0:wd (λi=>P i && Q i) k=0:=by omega
    have:=iv.1 h0 (i - 64*k) (by omega);rw [show 64*k+(i - 64*k)=i by omega] at this;rintro ⟨a,c⟩;rw [a,c] at this;cases this
 ·obtain rfl:k=8:=by omega
  unfold BO;exact ⟨⟨false,rfl,λh=>(by cases h),λ⟨i,hi,hp⟩=>absurd hp (hall i (by omega))⟩,l3⟩
theorem Ew {b:Nat} {P:Nat->Bool} {i:Nat} (hi:i<512) (h:F b=some (.cells (plA P) 275)):
  ae prog 227 #[pa b,vi i] F λr F'=>r=.tuple #[]/\F'=F.set b (.cells (plA λj=>P j || decide (j=i)) 275):=by
 refine R3 ?_;unfold Mj;have e1:i64.wrap (Int.tdiv (i:Int) 64)=((i / 64:Nat):Int):=by rw [show Int.tdiv (i:Int) 64=((i / 64:Nat):Int) from rfl,aH (by omega) (by omega)]
 have e2:Int.tmod (i:Int) 64=((i % 64:Nat):Int):=rfl;rw [e1,e2];have ek:Int.toNat ((i / 64:Nat):Int)*1=i / 64:=by rw [N5,XS]
 rw [ek];have h8:i / 64<8:=by omega
 have hc:F.cell ((Addr.mk b 0 none).add (i / 64))=some (cU (wd P (i / 64))):=by rw [cg,XZ,an h];exact fh P h8
 refine ⟨_,rfl,by omega,by omega,_,hc,by omega,by omega,by omega,?_⟩;refine qZ (b:=b) (o:=i / 64) (by rw [cg,XZ]) h (by rw [HI];exact h8) ⟨rfl,?_⟩;have hp:2 ^ (i % 64)<18446744073709551616:=by have:2 ^ (i % 64)<2 ^ 64:=Y0 (by omega) (by omega);exact this
 have ep:u64.wrap ((1:Int)*2 ^ (min (Int.toNat ((i % 64:Nat):Int)) (u64).bits))=((2 ^ (i % 64):Nat):Int):=by
  have hm:min (Int.toNat ((i % 64:Nat):Int)) (u64).bits=i % 64:=by rw [N5];show min (i % 64) 64=i % 64;omega
  rw [hm];have:(1:Int)*2 ^ (i % 64)=((2 ^ (i % 64):Nat):Int):=by simp
  rw [this];exact jh (Int.natCast_nonneg _) (Int.ofNat_lt.2 hp)
 rw [ep,Hd (oa P _) hp];congr 2;have ew:wd P (i / 64) ||| 2 ^ (i % 64)=wd (λj=>P j || decide (j=i)) (i / 64):=by refine t6 (Nat.or_lt_two_pow (oa P _) hp) λj hj=> ?_;rw [Nat.testBit_or,iq P _ hj,Y5];congr 1;rw [XE];simp;omega
 rw [ew];have eo:∀k,k≠i / 64->k<8->wd P k=wd (λj=>P j || decide (j=i)) k:=λk hk _=>Hc λj hj=>by show P (64*k+j)=(P (64*k+j) || decide (64*k+j=i));rw [show decide (64*k+j=i)=false by simp;omega,Bool.or_false]
 apply Array.ext';apply Yd;intro k;rw [Array.toList_setIfInBounds,YL];by_cases hk8:k<8
 ·have g1:∀(Q:Nat->Bool),(plA Q).toList[k]? =some (cU (wd Q k)):=λQ=>by rw [Array.getElem?_toList];exact fh Q hk8
  rw [g1,g1];by_cases hik:i / 64=k
  ·rw [if_pos hik,if_pos (by exact h8),hik]
  ·rw [if_neg hik,eo k (λe=>hik e.symm) hk8]
 ·have g2:∀(Q:Nat->Bool),(plA Q).toList[k]? =none:=λQ=>X8 (by show 8<=k;omega);rw [g2,g2,if_neg (by omega)]
def Tab (F:PH):Prop:=∀k v,xP[k]? =some v->F.cell ⟨0,k,none⟩=some (.int .u8 ((v:Nat):Int))
theorem Tab.le {F G:PH} (h:Tab F) (hl:F.le G):Tab G:=λk v hv=>au hl (h k v hv)
theorem KH (hT:Tab F) {x t:Nat} (hx:x<18446744073709551616) (h:Low x t):ae prog 240 #[.int .u64 x] F λr F'=>r=vi t/\F'=F:=by
 refine RN ?_;unfold L7;have hpos:=h.pos;refine ⟨λh0=>absurd h0 (by omega),λ_=> ?_⟩;have ht:t<64:=by
  rcases Nat.lt_or_ge t 64 with h1|h1
  ·exact h1
  ·obtain ⟨m,rfl⟩:=h;have:2 ^ 64<=2 ^ t:=X0 (by omega) h1;omega
 have e1:u64.wrap (0 - (x:Int))=((2 ^ 64 - x:Nat):Int):=by
  unfold IntKind.wrap;simp only [IntKind.bits,IntKind.signed];simp only [Y8,X7,if_false];have:(2:Nat) ^ 64=18446744073709551616:=by decide
  omega
 have e2:2 ^ 64 - x<18446744073709551616:=by omega
 rw [e1,vx hx e2,h.neg hx];have hC:=SG t ht;have e3:u64.wrap (((2 ^ t:Nat):Int)*285870213051353865)=((2 ^ t*285870213051353865 % 18446744073709551616:Nat):Int):=by
  unfold IntKind.wrap;simp only [IntKind.bits,IntKind.signed];simp only [Y8,X7,if_false];have:((2:Nat) ^ 64:Nat)=18446744073709551616:=by decide
  omega
 rw [e3];generalize hy:2 ^ t*285870213051353865 % 18446744073709551616=y at*;have e4:Int.fdiv ((y:Nat):Int) (2 ^ (min (Int.toNat (58:Int)) (u64).bits))=((y / 288230376151711744:Nat):Int):=by
  have:(2:Int) ^ (min (Int.toNat (58:Int)) (u64).bits)=288230376151711744:=by decide
  rw [this,Int.fdiv_eq_ediv_of_nonneg _ (by decide)];omega
 rw [e4,N5,XS,cg,XZ];refine ⟨by omega,by omega,_,hT _ _ hC.2,?_,rfl⟩;rw [SH (by omega)]
theorem uj {a:Addr} {P:Nat->Bool} {k:FuncId} {cap:Γ} {Inv:Nat->Ψ} (hk:aB prog k=true) (ha:a.spot=none)
  (hI:∀n F,Inv n F->Tab F/\F.row a (plA P)) (h0:∀i F,i<512->P i=false->Inv i F->Inv (i+1) F)
  (h1:∀i F,i<512->P i=true->Inv i F->ae prog k (#[vi i]++cap) F λr F'=>r=.tuple #[]/\Inv (i+1) F') (hF:Inv 0 F):
  ae prog 223 #[.pointer (some a),.func (.func k) #[] cap] F λr F'=>r=.tuple #[]/\Inv 512 F':=by
 refine R0 ?_;unfold Mg;refine ⟨λm i F'=>∃w:Nat,i=w/\w<=8/\m=8 - w/\Inv (64*w) F',8,⟨0,rfl,by omega,rfl,hF⟩,?_⟩;rintro _ _ F1 ⟨w,rfl,hw,rfl,hi1⟩;unfold BM;refine ⟨λhlt=> ?_,λhge=> ?_⟩
 ·have h8:w<8:=by omega
  have ek:Int.toNat (w:Int)*1=w:=by rw [N5,XS]
  rw [ek];have hc:F1.cell (a.add w)=some (cU (wd P w)):=by rw [(hI _ _ hi1).2 w h8];have e:=fh P h8;rw [XV (by exact h8)] at e;exact e
  refine ⟨a,rfl,by omega,by omega,_,hc,?_⟩;refine ⟨λm x F'=>∃j y:Nat,x=y/\j<=64/\m=64 - j/\y<18446744073709551616/\(∀i,y.testBit i=((wd P w).testBit i && decide (j<=i)))/\Inv (64*w+j) F',64,⟨0,wd P w,rfl,by omega,rfl,oa P w,λi=>by simp,hi1⟩,?_⟩;rintro _ _ F2 ⟨j,y,rfl,hj,rfl,hy,hbit,hi2⟩;unfold BL;have skip:∀(t:Nat),j<=t->t<=64->(∀i,j<=i->i<t->P (64*w+i)=false)->Inv (64*w+t) F2:=by
   intro t;induction t with
   |zero=>
    intro h _ _;obtain rfl:j=0:=by omega
    exact hi2
   |succ t ih=>
    intro h h2 h3;by_cases e:j=t+1
    ·subst e;exact hi2
    ·have:=ih (by omega) (by omega) λi a c=>h3 i a (by omega);exact h0 (64*w+t) F2 (by omega) (h3 t (by omega) (by omega)) this
  refine ⟨λhne=> ?_,λhe=> ?_⟩
  ·
   have hex:∃t,y.testBit t=true:=Classical.byContradiction λhn=>by
    have:y=0:=Nat.eq_of_testBit_eq λi=>by rw [Nat.zero_testBit];exact Bool.eq_false_iff.2 λh=>hn ⟨i,h⟩
    omega
   obtain ⟨t,ht,hmin⟩:∃t,y.testBit t=true/\∀i,i<t->y.testBit i=false:=by
    obtain ⟨t,ht⟩:=hex;have key:∀n t,t<=n->y.testBit t=true->∃t,y.testBit t=true/\∀i,i<t->y.testBit i=false:=by
     intro n;induction n with
     |zero=>
      intro t h ht;obtain rfl:t=0:=by omega
      exact ⟨0,ht,λi hi=>by omega⟩
     |succ n ih=>
      intro t h ht;by_cases hl:∃i,i<t/\y.testBit i=true
      ·obtain ⟨i,h1,h2⟩:=hl;exact ih i (by omega) h2
      ·exact ⟨t,ht,λi hi=>Bool.eq_false_iff.2 λh=>hl ⟨i,hi,h⟩⟩
    exact key t t (XA _) ht
   have hlow:Low y t:=Low.of ht hmin;have htb:=hbit t;rw [ht] at htb;simp at htb;have ht64:t<64:=by
    rcases Nat.lt_or_ge t 64 with h|h
    ·exact h
    ·rw [YK (Nat.lt_of_lt_of_le (oa P w) (by have:2 ^ 64<=2 ^ t:=X0 (by omega) h;exact this))] at htb;simp at htb
   have hPt:P (64*w+t)=true:=by rw [<- iq P w ht64];exact htb.1
   have hz:∀i,j<=i->i<t->P (64*w+i)=false:=λi a c=>by have:=hbit i;rw [hmin i c,iq P w (by omega)] at this;simp only [decide_eq_true a,Bool.and_true] at this;exact this.symm
   have hi3:=skip t htb.2 (by omega) hz;refine (KH (hI _ _ hi3).1 hy hlow).mono ?_;rintro _ F3 ⟨rfl,e3⟩;obtain rfl:=e3.symm;have ei:i64.wrap (i64.wrap ((64:Int)*(w:Int))+(t:Int))=((64*w+t:Nat):Int):=by rw [aH (x:=(64:Int)*w) (by omega) (by omega),aH (by omega) (by omega)];omega
   refine ⟨_,rfl,k,#[],cap,rfl,hk,?_⟩;rw [ei];have:=h1 (64*w+t) F2 (by omega) hPt hi3;refine ae.mono (R:=λr F'=>r=.tuple #[]/\Inv (64*w+t+1) F') (by simpa using this) ?_;rintro _ F4 ⟨rfl,hi4⟩;refine ⟨rfl,64 - (t+1),by omega,t+1,y &&& (y - 1),?_,by omega,rfl,Nat.lt_of_le_of_lt Nat.and_le_left hy,λi=> ?_,hi4⟩
   ·have e:u64.wrap ((y:Int) - 1)=((y - 1:Nat):Int):=by have:=hlow.pos;rw [jh (by omega) (by omega)];omega
    rw [e,vx hy (by omega)]
   ·rw [hlow.clear,hbit i];by_cases hit:i<t
    ·have:=hmin i hit;rw [hbit i] at this;rw [this];simp;omega
    ·by_cases e:i=t
     ·subst e;simp
     ·have:j<=i:=by omega
      simp [this,e];omega
  ·have hy0:y=0:=by omega
   subst hy0;unfold BK;refine ⟨8 - (w+1),by omega,w+1,fC (by omega),h8,rfl,?_⟩;rw [show 64*(w+1)=64*w+64 by omega];refine skip 64 hj (XA _) λi a c=> ?_;have:=hbit i;rw [Nat.zero_testBit,iq P w c] at this;simp only [decide_eq_true a,Bool.and_true] at this;exact this.symm
 ·obtain rfl:w=8:=by omega
  exact ⟨rfl,hi1⟩
end
end Go.Proofs.YtenpmjhnhepfdaaGreatDoor
namespace Go.Proofs.YtenpmjhnhepfdaaGreatDoor
open Go.IntKind (i64 u8 u64)
open Go Go.ChangeShapes Go.WideShapes Go.ChangeAt Go.RowKit Go.Proofs.Tryz
set_option maxRecDepth 100000
abbrev rF:List (String×DataW Unit):=[("math/bits.deBruijn64tab",Rows.laid_math_bits_deBruijn64tab)]
theorem ny:prog.cellsOf 5=1:=by kernel_rfl
theorem S9:ownKnob prog.godebug=Option.none:=by kernel_rfl
theorem KI:laidOutB prog=true:=by kernel_rfl
theorem PK:(Rows.laid_math_bits_deBruijn64tab:DataW Unit)=.agg (xP.map λ(n:Nat)=> .lit (.int .u8 (n:Int))):=by kernel_rfl
theorem ya {W:World} (h:laidMetH prog rF W):Tab (hF W):=by
 intro r v hv;have hr:r<64:=(N6.1 hv).1;rw [MakeChecks.laidMetH_plain _ _ _ (by kernel_rfl)] at h;obtain ⟨ps,⟨g,t,cs,fuel,p,q,hg,ht,hw,hd,_,_⟩,_,_⟩:=h;obtain rfl:=X2 ((show prog.globalNamed "math/bits.deBruijn64tab"=some 0 by kernel_rfl).symm.trans hg);obtain rfl:=X2 ((show (prog.globals[0]?).map (·.type)=some 321 by kernel_rfl).symm.trans ht);obtain ⟨xs,m,_,ex,_,hl,hel⟩:=DataW.trod_array underlying321 hd;have hE:=hel r hr;rw [ny,XS,N4 (by omega)] at hE;obtain ⟨z,e1,e2,_⟩:=DataW.trod_int underlying5 hE;rw [PK] at ex;have e3:(xs.map (·.1))=xP.map λ(n:Nat)=> .lit (.int .u8 (n:Int)):=(DataW.agg.inj (Prod.mk.inj ex).1).symm;have e4:(xs.map (·.1))[r]? =(xP.map λ(n:Nat)=>(DataW.lit (.int .u8 (n:Int)):DataW Unit))[r]? :=by rw [e3]
 rw [XM,XM,N4 (by omega:r<xs.length),hv,e2] at e4;have hz:z=(v:Int):=by simp only [Yj,Option.some.injEq,DataW.lit.injEq,Lit.int.injEq,true_and] at e4;exact e4
 refine BX ?_;rw [World.var?_cell hg hw r,<- hz];have:cs.toList[r]? =some (.int .u8 z):=by
  have h0:((cs.toList.drop r).take 1)[0]? =some (.int .u8 z):=by rw [e1];rfl
  simpa using h0
 simpa using this
theorem HN (os:Os) (args:Γ):laidMetH prog rF ((World.laidAll prog os rF).forCall (λ_ _=>0) ⟨#[],args,[]⟩).memory:=by rw [MakeChecks.laidMetH_plain _ _ _ (by kernel_rfl)];exact laidMet_laidAll _ (by kernel_rfl) (by kernel_rfl)
end Go.Proofs.YtenpmjhnhepfdaaGreatDoor
namespace Go.Proofs.YtenpmjhnhepfdaaGreatDoor
open Go.IntKind (i64 u8 u64)
open Go Go.ChangeShapes Go.WideShapes Go.ChangeAt Go.RowKit Go.Deep Go.Proofs.Tryz
set_option maxRecDepth 10000
section
variable {H:Type} {enc:TypeId×Value->H} {P:Program} {W:World}
theorem HO {t e fuel:Nat} {k:IntKind} {c:Value} {x:DataW H×List MemPlace} (ht:P.underlying t=some (.slice e)) (he:P.underlying e=some (.int k)) (hc:P.cellsOf e=1)
  (h:DataW.trod enc P W 0 (λ_=>true) true fuel t [c]=some x) (hw:(x.1.weights P t).all (·<=reachBytes)=true):
  ∃(sl:Sl) (zs:Φ),c=Sl.v sl/\RdS (hF W) sl 1 (zs.map (Value.int k))/\(∀z∈zs,(Lit.int k z).wf=true)/\sl.len*P.bytesOf e<=reachBytes/\sl.cap*P.bytesOf e<=reachBytes:=by
 rcases open_slice1 ht hc h with ⟨hcs,rfl⟩|⟨a,len,cap,m,n,V,D,Pl,hcs,_,hl,hm,hmm,rfl,hx⟩
 ·cases hcs;exact ⟨Sl.nil,[],rfl,RdS.nil _ _,by simp,by simp [Sl.nil],by simp [Sl.nil]⟩
 ·cases hcs;simp only [if_true] at hmm;subst hmm;have hz:∀i,i<m->∃z,V i=.int k z/\(Lit.int k z).wf=true:=λi hi=>by obtain ⟨z,h1,_,h3⟩:=DataW.trod_int he (hx i hi).2;exact ⟨z,by simpa using h1,h3⟩
  obtain ⟨Z,hZ⟩:=choose_lt hz;have hb:m*P.bytesOf e<=reachBytes:=by simp only [DataW.weights,ht,List.all_cons,Ya,decide_eq_true_eq,XH,Ym] at hw;rw [show len+(m - len)=m by omega] at hw;exact hw.1
  refine ⟨⟨some a,len,m⟩,(List.range len).map Z,rfl,⟨by simp,hl,λhp=> ?_⟩,?_,X1 (Yl _ hl) hb,hb⟩
  ·have hs:=World.cell?_spot (hx 0 (by simp only at hp;omega)).1;obtain ⟨b,o,spot⟩:=a;simp only [Addr.add] at hs;subst hs;refine ⟨b,o,rfl,λi hi=> ?_⟩;simp at hi;have:=BX (hx i (by omega)).1;rw [(hZ i (by omega)).1] at this;rw [av] at this;simpa using this
  ·intro z hz;simp only [X3,Yu] at hz;obtain ⟨i,hi,rfl⟩:=hz;exact (hZ i (by omega)).2
end
theorem PL {z:Int} (h:(Lit.int .u8 z).wf=true):0<=z/\z<=255:=bounds_u8 h
theorem KJ {F:PH} {sl:Sl} {zs:Φ} (h:RdS F sl 1 (zs.map (Value.int .u8))) (hb:sl.len*prog.bytesOf 5<=reachBytes):zs.length<=9000000000000000:=by
 have:=h.len;rw [XH] at this;have e:prog.bytesOf 5=1:=by kernel_rfl
 have e2:reachBytes=140737488351232:=rfl;rw [e,e2] at hb;omega
class Mem (α:Type) where
 n:Nat
 rep:PH->α->Γ->Prop
 len:∀{F:PH} {x:α} {c:Γ},rep F x c->c.size=n
 le:∀{F G:PH} {x:α} {c:Γ},F.le G->rep F x c->rep G x c
 st:∀{F:PH} {x:α} {c:Γ},rep F x c->∀v∈c.toList,ai v
def cat (vs:List Γ):Ξ:=vs.flatMap Array.toList
theorem dV (c:Γ) (vs:List Γ):cat (c::vs)=c.toList++cat vs:=rfl
theorem bA (a b:List Γ):cat (a++b)=cat a++cat b:=by simp [cat]
theorem bL (c:Γ):cat [c]=c.toList:=by simp [cat]
inductive dr {α:Type} [Mem α] (F:PH):List α->List Γ->Prop
 |nil:dr F [] []
 |cons {x:α} {c:Γ} {l:List α} {vs:List Γ}:Mem.rep F x c->dr F l vs->dr F (x::l) (c::vs)
namespace dr
section
variable {α:Type} [Mem α] {F G:PH} {l m:List α} {vs ws:List Γ}
theorem le (hl:F.le G) (h:dr F l vs):dr G l vs:=by
 induction h with
 |nil=>exact .nil
 |cons h _ ih=>exact .cons (Mem.le hl h) ih
theorem cat_len (h:dr F l vs):(cat vs).length=l.length*Mem.n α:=by
 induction h with
 |nil=>simp [cat]
 |cons h _ ih=>rw [dV,N3,ih,XN,Mem.len h,XI,YS,Nat.add_comm]
theorem append (h:dr F l vs) (k:dr F m ws):dr F (l++m) (vs++ws):=by
 induction h with
 |nil=>exact k
 |cons h _ ih=>exact .cons h ih
theorem st (h:dr F l vs):∀v∈cat vs,ai v:=by
 induction h with
 |nil=>intro v hv;cases hv
 |cons h _ ih=>
  intro v hv;rw [dV,XD] at hv;rcases hv with hv|hv
  ·exact Mem.st h v hv
  ·exact ih v hv
theorem get (h:dr F l vs):∀{i:Nat} {x:α},l[i]? =some x->∃c,vs[i]? =some c/\Mem.rep F x c/\((cat vs).drop (i*Mem.n α)).take (Mem.n α)=c.toList:=by
 induction h with
 |nil=>intro i x hx;simp at hx
 | @cons y c l vs h h2 ih=>
  intro i x hx;have hlen:=Mem.len h;cases i with
  |zero=>simp at hx;subst hx;refine ⟨c,rfl,h,?_⟩;rw [YR,YX,dV,XW (by simp [hlen]),XK (by simp [hlen])]
  |succ i=>simp at hx;obtain ⟨d,h3,h4,h5⟩:=ih hx;refine ⟨d,by simpa using h3,h4,?_⟩;rw [dV,YS,List.drop_append,List.drop_eq_nil_of_le (by simp [hlen]),XX];rw [show i*Mem.n α+Mem.n α - c.toList.length=i*Mem.n α by simp [hlen]];exact h5
theorem set (h:dr F l vs) {i:Nat} {x:α} {c:Γ} (hc:Mem.rep F x c):dr F (l.set i x) (vs.set i c):=by
 induction h generalizing i with
 |nil=>simp only [List.set_nil];exact .nil
 |cons h h2 ih=>
  cases i with
  |zero=>exact .cons hc h2
  |succ i=>exact .cons h ih
end
end dr
def RL {α:Type} [Mem α] (F:PH) (s:Sl) (l:List α):Prop:=∃vs,dr F l vs/\RdS F s (Mem.n α) (cat vs)
namespace RL
section
variable {α:Type} [Mem α] {F G:PH} {s:Sl} {l:List α}
theorem le (h:RL F s l) (hl:F.le G):RL G s l:=by obtain ⟨vs,h1,h2⟩:=h;exact ⟨vs,h1.le hl,h2.le hl⟩
theorem nil (F:PH):RL F Sl.nil ([]:List α):=⟨[],.nil,RdS.nil F _⟩
theorem len (h:RL F s l) (hn:0<Mem.n α):s.len=l.length:=by obtain ⟨vs,h1,h2⟩:=h;have:=h2.len;rw [h1.cat_len] at this;exact (Nat.eq_of_mul_eq_mul_right hn this).symm
theorem get (h:RL F s l) (hn:0<Mem.n α) {i:Nat} {x:α} (hx:l[i]? =some x):∃a c,s.base=some a/\F.row (a.add (i*Mem.n α)) c/\Mem.rep F x c:=by
 obtain ⟨vs,h1,h2⟩:=h;obtain ⟨c,h3,h4,h5⟩:=h1.get hx;have hi:i<l.length:=(N6.1 hx).1;have hlen:=h2.len;rw [h1.cat_len] at hlen;have hp:0<s.len:=by have:=Nat.eq_of_mul_eq_mul_right hn hlen;omega
 obtain ⟨b,o,hb,_⟩:=h2.cells hp;refine ⟨⟨b,o,none⟩,c,hb,h2.row hb _ c ?_,h4⟩;rw [Mem.len h4];exact h5.symm
end
end RL
instance:Mem Int where
 n:=1
 rep _ x c:=c= #[vi x]
 len h:=by rw [h];rfl
 le _ h:=h
 st h:=by rw [h];simp [ai]
instance:Mem ByteArray where
 n:=1
 rep _ x c:=c= #[.string x]
 len h:=by rw [h];rfl
 le _ h:=h
 st h:=by rw [h];simp [ai]
instance:Mem Br where
 n:=3
 rep _ x c:=c=aR x
 len h:=by rw [h];rfl
 le _ h:=h
 st h:=by rw [h];simp [ai]
instance:Mem Nd where
 n:=5
 rep _ x c:=c=x.arr
 len h:=by rw [h];rfl
 le _ h:=h
 st h:=by rw [h];simp [ai]
structure Sy where
 t:Bool
 i:Int
deriving DecidableEq
abbrev Sy.arr (x:Sy):Γ:= #[.bool x.t,vi x.i]
instance:Mem Sy where
 n:=2
 rep _ x c:=c=x.arr
 len h:=by rw [h];rfl
 le _ h:=h
 st h:=by rw [h];simp [ai]
structure Cn where
 k:Int
 a:Int
 b:Int
deriving DecidableEq
abbrev Cn.arr (x:Cn):Γ:= #[vi x.k,vi x.a,vi x.b]
instance:Mem Cn where
 n:=3
 rep _ x c:=c=x.arr
 len h:=by rw [h];rfl
 le _ h:=h
 st h:=by rw [h];simp [ai]
theorem RL.flat {α:Type} [Mem α] {f:α->Γ} (hf:∀F x c,Mem.rep F x c↔c=f x) {F:PH} {s:Sl} {l:List α}:RL F s l↔RdS F s (Mem.n α) (l.flatMap λx=>(f x).toList):=by
 have key:∀(l:List α) (vs:List Γ),dr F l vs↔vs=l.map f:=by
  intro l;induction l with
  |nil=>intro vs;exact ⟨λh=>by cases h;rfl,λh=>by rw [h];exact .nil⟩
  |cons x l ih=>
   intro vs;constructor
   ·intro h;cases h with
    |cons h1 h2=>rw [(hf _ _ _).1 h1,(ih _).1 h2];rfl
   ·intro h;rw [h];exact .cons ((hf _ _ _).2 rfl) ((ih _).2 rfl)
 have e:cat (l.map f)=l.flatMap λx=>(f x).toList:=by simp [cat,List.flatMap_map]
 constructor
 ·rintro ⟨vs,h1,h2⟩;rw [(key l vs).1 h1,e] at h2;exact h2
 ·intro h;exact ⟨_,(key l _).2 rfl,by rw [e];exact h⟩
theorem RL.brs {F:PH} {s:Sl} {l:List Br}:RL F s l↔RdS F s 3 (aS l):=RL.flat (f:=aR) (λ_ _ _=>Iff.rfl)
theorem RL.nds {F:PH} {s:Sl} {l:List Nd}:RL F s l↔RdS F s 5 (cX l):=RL.flat (f:=Nd.arr) (λ_ _ _=>Iff.rfl)
theorem MQ {α:Type} (f:α->Value) (l:List α):(l.flatMap λx=>(#[f x]:Γ).toList)=l.map f:=by
 induction l with
 |nil=>rfl
 |cons x l ih=>rw [XT,ih];rfl
theorem RL.ints {F:PH} {s:Sl} {l:Φ}:RL F s l↔RdS F s 1 (l.map vi):=by rw [RL.flat (f:=λx=> #[vi x]) (λ_ _ _=>Iff.rfl),MQ];rfl
theorem RL.strs {F:PH} {s:Sl} {l:List ByteArray}:RL F s l↔RdS F s 1 (l.map Value.string):=by rw [RL.flat (f:=λx=> #[.string x]) (λ_ _ _=>Iff.rfl),MQ];rfl
theorem DV.mk {F:PH} {s:Sl} {d:Dia} (h:RL F s d.1):DV F #[s.v,vi d.2] d:=⟨s,rfl,RL.brs.1 h⟩
structure Tk where
 name:ByteArray
 cls:Int
 lit:ByteArray
 pat:List Nd
 smp:ByteArray
 cond:Dia
structure Sco where
 o:Bool
 d:Int
 k:Int
 u:Int
 a:Int
deriving DecidableEq
structure Pr where
 name:ByteArray
 left:Int
 right:List Sy
 cond:Dia
 brk:Bool
 rank:Int
 lay:List Cn
 sco:Sco
structure Lv where
 ps:Φ
 assoc:Int
 cond:Dia
structure Fi where
 k:Int
 par:Int
 pos:Int
 ch:Int
 left:Int
 tok:Int
 toks:Φ
 cond:Dia
structure Gr where
 conds:List ByteArray
 fam:Dia
 toks:List Tk
 nons:List ByteArray
 prods:List Pr
 start:Int
 lvs:List Lv
 fils:List Fi
deriving instance DecidableEq for Tk,Pr,Lv,Fi,Gr
abbrev Tk.arr (x:Tk) (p n:Sl):Γ:= #[.string x.name,vi x.cls,.string x.lit,p.v,.string x.smp,n.v,vi x.cond.2]
abbrev Pr.arr (x:Pr) (r n l:Sl):Γ:= #[.string x.name,vi x.left,r.v,n.v,vi x.cond.2,.bool x.brk,vi x.rank,l.v,.bool x.sco.o,vi x.sco.d,vi x.sco.k,vi x.sco.u,vi x.sco.a]
abbrev Lv.arr (x:Lv) (p n:Sl):Γ:= #[p.v,vi x.assoc,n.v,vi x.cond.2]
abbrev Fi.arr (x:Fi) (t n:Sl):Γ:= #[vi x.k,vi x.par,vi x.pos,vi x.ch,vi x.left,vi x.tok,t.v,n.v,vi x.cond.2]
abbrev Gr.arr (g:Gr) (c n t s p l f:Sl):Γ:= #[c.v,n.v,vi g.fam.2,t.v,s.v,p.v,vi g.start,l.v,f.v]
instance:Mem Tk where
 n:=7
 rep F x c:=∃p n,c=x.arr p n/\RL F p x.pat/\RL F n x.cond.1
 len h:=by obtain ⟨p,n,rfl,_⟩:=h;rfl
 le hl h:=by obtain ⟨p,n,h1,h2,h3⟩:=h;exact ⟨p,n,h1,h2.le hl,h3.le hl⟩
 st h:=by obtain ⟨p,n,rfl,_⟩:=h;simp [ai,Sl.v]
instance:Mem Pr where
 n:=13
 rep F x c:=∃r n l,c=x.arr r n l/\RL F r x.right/\RL F n x.cond.1/\RL F l x.lay
 len h:=by obtain ⟨r,n,l,rfl,_⟩:=h;rfl
 le hl h:=by obtain ⟨r,n,l,h1,h2,h3,h4⟩:=h;exact ⟨r,n,l,h1,h2.le hl,h3.le hl,h4.le hl⟩
 st h:=by obtain ⟨r,n,l,rfl,_⟩:=h;simp [ai,Sl.v]
instance:Mem Lv where
 n:=4
 rep F x c:=∃p n,c=x.arr p n/\RL F p x.ps/\RL F n x.cond.1
 len h:=by obtain ⟨p,n,rfl,_⟩:=h;rfl
 le hl h:=by obtain ⟨p,n,h1,h2,h3⟩:=h;exact ⟨p,n,h1,h2.le hl,h3.le hl⟩
 st h:=by obtain ⟨p,n,rfl,_⟩:=h;simp [ai,Sl.v]
instance:Mem Fi where
 n:=9
 rep F x c:=∃t n,c=x.arr t n/\RL F t x.toks/\RL F n x.cond.1
 len h:=by obtain ⟨p,n,rfl,_⟩:=h;rfl
 le hl h:=by obtain ⟨p,n,h1,h2,h3⟩:=h;exact ⟨p,n,h1,h2.le hl,h3.le hl⟩
 st h:=by obtain ⟨p,n,rfl,_⟩:=h;simp [ai,Sl.v]
structure GS (F:PH) (g:Gr) (c n t s p l f:Sl):Prop where
 c:RL F c g.conds
 n:RL F n g.fam.1
 t:RL F t g.toks
 s:RL F s g.nons
 p:RL F p g.prods
 l:RL F l g.lvs
 f:RL F f g.fils
theorem GS.le {F G:PH} {g:Gr} {c n t s p l f:Sl} (h:GS F g c n t s p l f) (hl:F.le G):GS G g c n t s p l f:=
 ⟨h.c.le hl,h.n.le hl,h.t.le hl,h.s.le hl,h.p.le hl,h.l.le hl,h.f.le hl⟩
def GV (F:PH) (v:Γ) (g:Gr):Prop:=∃c n t s p l f,v=g.arr c n t s p l f/\GS F g c n t s p l f
theorem GV.le {F G:PH} {v:Γ} {g:Gr} (h:GV F v g) (hl:F.le G):GV G v g:=by obtain ⟨c,n,t,s,p,l,f,h1,h2⟩:=h;exact ⟨c,n,t,s,p,l,f,h1,h2.le hl⟩
theorem GV.size {F:PH} {v:Γ} {g:Gr} (h:GV F v g):v.size=9:=by obtain ⟨c,n,t,s,p,l,f,rfl,_⟩:=h;rfl
theorem GV.st {F:PH} {v:Γ} {g:Gr} (h:GV F v g):∀x∈v.toList,ai x:=by obtain ⟨c,n,t,s,p,l,f,rfl,_⟩:=h;simp [ai,Sl.v]
variable {R:VR} {F:PH}
set_option maxRecDepth 10000
set_option maxHeartbeats 4000000
def B6 (a:Sl) (R:VR) (F:PH):Prop:=Bc ((a.len:Int)=0) (R (vi 40) F) (R (vi 0) F)
def B7 (f:Ω) (b c:Sl) (R:VR) (a:Int) (F:PH):Prop:=Bc (a<(i64.wrap ((b.len:Int) - 1))) (Ix c a λd=>Li F (Addr.add d (Int.toNat a*1)) λe=>Bc (e≠1) (R (vi 40) F) (f (i64.wrap (a+1)) F)) (B6 b R F)
def B8 (b a:Sl) (R:VR) (F:PH):Prop:=Lp 0 F λN c F=>B7 N b a R c F
def pe (c:Ω) (d b:Sl) (a:Int) (R:VR) (F:PH):Prop:=c (i64.wrap (a+1)) F
def pg (j:Ω) (d a:Sl) (c e:Int) (R:VR) (F:PH):Prop:=Bc (2<=e) (Ix d c λf=>Li F (Addr.add (Addr.add f (Int.toNat c*5)) 4) λb=>Ix a b λg=>Li F (Addr.add g (Int.toNat b*1)) λh=>Ix a b λi=>sto F (Addr.add i (Int.toNat b*1)) (vi (i64.wrap (h+1))) λF=>pe j d a c R F) (pe j d a c R F)
def B9 (n:Ω) (c a:Sl) (R:VR) (b:Int) (F:PH):Prop:=Bc (b<(c.len:Int)) (Cbo 236 #[Sl.v c,(vi b)] F λg F=>Bb ((!g)) (R (vi 40) F) (Ix c b λh=>Li F (Addr.add h (Int.toNat b*5)) λi=>ae prog 237 #[(vi i)] F λv F=>∃d,∃f,v=(.tuple #[(vi d),.bool f])/\Bc (1<=d) (Ix c b λj=>Li F (Addr.add (Addr.add j (Int.toNat b*5)) 3) λe=>Ix a e λk=>Li F (Addr.add k (Int.toNat e*1)) λl=>Ix a e λm=>sto F (Addr.add m (Int.toNat e*1)) (vi (i64.wrap (l+1))) λF=>pg n c a b d R F) (pg n c a b d R F))) (B8 c a R F)
def MR (a:Sl) (R:VR) (F:PH):Prop:=Bc ((512:Int)<(a.len:Int)) (R (vi 2) F) (aG prog (Instr.makeSlice 70 (vi (a.len:Int)) (vi (a.len:Int))) F λv F=>∃b,v=(Sl.v b)/\Lp 0 F λN c F=>B9 N a b R c F)
theorem Ta {a:Sl} (h:MR a R F):ae prog 218 #[Sl.v a] F R:=Rx.sxC (args:=[Sl.v a]) (.T .N (.T .N (.T .N (.J false [] (.T .N (.L [(4,.int .i64)] (.T .N (.J false [] (.T .N (.T .N (.J false [] .N .N))) .N)))) (.J false [] (.T .N (.L [(7,.int .i64)] .N)) .N))))) (by kernel_rfl) h
def MS (a:Sl) (b:ByteArray) (R:VR) (F:PH):Prop:=Ci 218 #[Sl.v a] F λe F=>Bc (e=0) (Nb F (.cells #[(vi 0)] 3) λf F=>Cs 239 #[Sl.v a,(vi (i64.wrap ((a.len:Int) - 1))),.string b,Sl.v (Sb f 1)] F λc F=>Cbo 238 #[Sl.v c,(vi (b.size:Int))] F λd F=>R (.bool d) F) (R (.bool false) F)
theorem Tb {a:Sl} {b:ByteArray} (h:MS a b R F):ae prog 219 #[Sl.v a,.string b] F R:=Rx.sxC (args:=[Sl.v a,.string b]) .N (by kernel_rfl) h
def jT (d:Int) (e:Nat) (a:Int) (R:VR) (F:PH):Prop:=Bc (a<1) (Bc (a<2) (R (.bool true) F) (Li F (Am e 4) λf=>Bc (0<=f) (Li F (Am e 4) λg=>R (.bool (decide (g<d))) F) (R (.bool false) F))) (Li F (Am e 3) λh=>Bc (0<=h) (Li F (Am e 3) λi=>Bc (i<d) (Bc (a<2) (R (.bool true) F) (Li F (Am e 4) λb=>Bc (0<=b) (Li F (Am e 4) λc=>R (.bool (decide (c<d))) F) (R (.bool false) F))) (R (.bool false) F)) (R (.bool false) F))
def ph (b:Int) (d:Nat) (a:Int) (R:VR) (F:PH):Prop:=Bc (a<1) (Li F (Am d 3) λe=>Bc (e≠0) (R (.bool false) F) (Bc (a<2) (Li F (Am d 4) λf=>Bc (f≠0) (R (.bool false) F) (jT b d a R F)) (jT b d a R F))) (Bc (a<2) (Li F (Am d 4) λc=>Bc (c≠0) (R (.bool false) F) (jT b d a R F)) (jT b d a R F))
def MT (s:Sl) (d:Int) (R:VR) (F:PH):Prop:=Ix s d λi=>Lr F 5 (Addr.add i (Int.toNat d*5)) λj=>Nb F (.cells (#[vi 0,vi 0,vi 0,vi 0,vi 0]) 97) λa F=>aw F (Am a 0) 5 j λF=>Li F (Am a 0) λk=>ae prog 237 #[(vi k)] F λv F=>∃c,∃b,v=(.tuple #[(vi c),.bool b])/\Bb ((!b)) (R (.bool false) F) (Li F (Am a 0) λl=>Bc (l≠1) (Li F (Am a 1) λm=>Bc (m≠0) (R (.bool false) F) (Li F (Am a 2) λn=>Bc (n≠0) (R (.bool false) F) (Li F (Am a 1) λo=>Bc (o<0) (R (.bool false) F) (Li F (Am a 1) λp=>Li F (Am a 2) λq=>Bc (q<p) (R (.bool false) F) (Li F (Am a 2) λr=>Bc (255<r) (R (.bool false) F) (ph d a c R F)))))) (Li F (Am a 1) λe=>Bc (e<0) (R (.bool false) F) (Li F (Am a 1) λf=>Li F (Am a 2) λg=>Bc (g<f) (R (.bool false) F) (Li F (Am a 2) λh=>Bc (255<h) (R (.bool false) F) (ph d a c R F)))))
theorem Tc {a:Sl} {b:Int} (h:MT a b R F):ae prog 236 #[Sl.v a,(vi b)] F R:=Rx.sxC (args:=[Sl.v a,(vi b)]) (.T .N (.T .N (.T .N (.J false [] .N (.J false [] .N .N))))) (by kernel_rfl) h
def pj (a:Int) (b:Bool) (R:VR) (F:PH):Prop:=Bb (b) (R (.tuple #[(vi 0),.bool true]) F) (Bc (a=4) (R (.tuple #[(vi 1),.bool true]) F) (Bc (a=2) (Bc (a=2) (R (.tuple #[(vi 2),.bool true]) F) (R (.tuple #[(vi 0),.bool false]) F)) (Bc (a=3) (R (.tuple #[(vi 2),.bool true]) F) (R (.tuple #[(vi 0),.bool false]) F))))
def MU (a:Int) (R:VR) (F:PH):Prop:=Bc (a=0) (pj a (decide (a=0)) R F) (pj a (decide (a=1)) R F)
theorem Td {a:Int} (h:MU a R F):ae prog 237 #[(vi a)] F R:=Rx.sxC (args:=[(vi a)]) (.T .N (.T (.T .N (.J false [(5,.bool)] .N .N)) .N)) (by kernel_rfl) h
def Cb (R:VR) (F:PH):Prop:=R (.bool false) F
def Cc (f:Ω) (b:Sl) (e:Int) (R:VR) (a:Int) (F:PH):Prop:=Bc (a<(b.len:Int)) (Ix b a λc=>Li F (Addr.add c (Int.toNat a*1)) λd=>Bc (d=e) (R (.bool true) F) (f (i64.wrap (a+1)) F)) (Cb R F)
def MV (a:Sl) (b:Int) (R:VR) (F:PH):Prop:=Lp 0 F λN c F=>Cc N a b R c F
theorem Te {a:Sl} {b:Int} (h:MV a b R F):ae prog 238 #[Sl.v a,(vi b)] F R:=Rx.sxC (args:=[Sl.v a,(vi b)]) (.T .N (.J false [] (.T .N (.L [(5,.int .i64)] .N)) .N)) (by kernel_rfl) h
def Cd (a:Sl) (R:VR) (F:PH):Prop:=R (Sl.v a) F
def Ce (h:Sl->Ω) (f:Sl) (g:ByteArray) (i:Nat) (R:VR) (a:Sl) (e:Int) (F:PH):Prop:=Bc (e<(a.len:Int)) (Li F (Am i 3) λb=>Cs 239 #[Sl.v f,(vi b),.string g,Sl.v a] F λc F=>Cs 243 #[Sl.v a,Sl.v c] F λd F=>h d (a.len:Int) F) (Cd a R F)
def Cg (e:Sl) (f:ByteArray) (b:Sl) (h:Nat) (R:VR) (F:PH):Prop:=(∃(g:Nat->Sl->Ω) (d:Nat),g d b (-1:Int) F/\∀d a c F,g d a c F-> Ce (nx2 g d) e f h R a c F)
def Ch (a:Sl) (R:VR) (F:PH):Prop:=R (Sl.v a) F
def pk (d:Sl->Ω) (e:ByteArray) (c:Sl) (f:Nat) (b:Int) (a:Sl) (R:VR) (F:PH):Prop:=d a (i64.wrap (b+1)) F
def lX (j:Sl->Ω) (d:ByteArray) (b:Sl) (k:Nat) (a:Sl) (c:Int) (e:Bool) (R:VR) (F:PH):Prop:=Bb (e) (Ix b c λf=>Li F (Addr.add f (Int.toNat c*1)) λg=>Nb F (.cells #[(vi (i64.wrap (g+1)))] 3) λi F=>Ap 70 #[Sl.v a,Sl.v (Sb i 1)] F λh F=>pk j d b k c h R F) (pk j d b k c a R F)
def vH (p:Sl->Ω) (d:ByteArray) (a:Sl) (i:Nat) (R:VR) (b:Sl) (c:Int) (F:PH):Prop:=Bc (c<(a.len:Int)) (Ix a c λj=>Li F (Addr.add j (Int.toNat c*1)) λk=>Bc (k<(d.size:Int)) (Ix a c λl=>Li F (Addr.add l (Int.toNat c*1)) λe=>0<=e/\e<(d.size:Int)/\∃(hx:Int.toNat e<d.size) (g:Int),g=((d[Int.toNat e]'hx).toNat:Int)/\Li F (Am i 1) λm=>Bc (m<=(i64.wrap g)) (Ix a c λn=>Li F (Addr.add n (Int.toNat c*1)) λf=>0<=f/\f<(d.size:Int)/\∃(hx:Int.toNat f<d.size) (h:Int),h=((d[Int.toNat f]'hx).toNat:Int)/\Li F (Am i 2) λo=>lX p d a i b c (decide ((i64.wrap h)<=o)) R F) (lX p d a i b c false R F)) (lX p d a i b c false R F)) (Ch b R F)
def uk (d:Sl) (j:Int) (e:ByteArray) (a:Sl) (R:VR) (F:PH):Prop:=Ix d j λk=>Lr F 5 (Addr.add k (Int.toNat j*5)) λl=>Nb F (.cells (#[vi 0,vi 0,vi 0,vi 0,vi 0]) 97) λf F=>aw F (Am f 0) 5 l λF=>Nb F (.cells #[] 3) λu F=>Li F (Am f 0) λc=>Bc (c=0) (R (Sl.v a) F) (Bc (c=1) ((∃(v:Nat->Sl->Ω) (t:Nat),v t (Sb u 0) 0 F/\∀t b g F,v t b g F-> vH (nx2 v t) e a f R b g F)) (Bc (c=2) (Li F (Am f 4) λh=>Li F (Am f 3) λm=>Cs 239 #[Sl.v d,(vi m),.string e,Sl.v a] F λn F=>F.cell (Am f 4)=some (vi h)/\Cs 239 #[Sl.v d,(vi h),.string e,Sl.v n] F λo F=>R (Sl.v o) F) (Bc (c=3) (Li F (Am f 3) λp=>Li F (Am f 4) λi=>Cs 239 #[Sl.v d,(vi p),.string e,Sl.v a] F λq F=>F.cell (Am f 4)=some (vi i)/\Cs 239 #[Sl.v d,(vi i),.string e,Sl.v a] F λr F=>Cs 243 #[Sl.v q,Sl.v r] F λs F=>R (Sl.v s) F) (Cg d e a f R F))))
theorem yb {b:Sl} {c:Int} {d:ByteArray} {a:Sl} (h:uk b c d a R F):ae prog 239 #[Sl.v b,(vi c),.string d,Sl.v a] F R:=Rx.sxC (args:=[Sl.v b,(vi c),.string d,Sl.v a]) (.T .N (.T .N (.T .N (.J false [] (.T .N (.T .N (.T .N (.T .N (.T (.J false [(10,.sl)] (.T .N (.L [(10,.sl),(11,.int .i64)] (.T .N (.J false [(10,.sl)] (.J false [(61,.bool)] .N .N) .N)))) .N) .N))))) (.T .N (.T .N (.J false [(10,.sl)] (.L [(10,.sl),(12,.int .i64)] .N) .N))))))) (by kernel_rfl) h
def Cj (a:Sl) (R:VR) (F:PH):Prop:=R (Sl.v a) F
def pm (d:Sl->Ω) (c:Sl) (b:Int) (a:Sl) (R:VR) (F:PH):Prop:=d a (i64.wrap (b+1)) F
def Ck (k:Sl->Ω) (b:Sl) (R:VR) (a:Sl) (c:Int) (F:PH):Prop:=Bc (c<(b.len:Int)) (Ix b c λd=>Li F (Addr.add d (Int.toNat c*1)) λe=>Cbo 238 #[Sl.v a,(vi e)] F λf F=>Bb ((!f)) (Ix b c λg=>Li F (Addr.add g (Int.toNat c*1)) λh=>Nb F (.cells #[(vi h)] 3) λj F=>Ap 70 #[Sl.v a,Sl.v (Sb j 1)] F λi F=>pm k b c i R F) (pm k b c a R F)) (Cj a R F)
def MW (e b:Sl) (R:VR) (F:PH):Prop:=Nb F (.cells #[] 3) λh F=>Ap 70 #[Sl.v (Sb h 0),Sl.v e] F λf F=>(∃(g:Nat->Sl->Ω) (d:Nat),g d f 0 F/\∀d a c F,g d a c F-> Ck (nx2 g d) b R a c F)
theorem Tg {b:Sl} {a:Sl} (h:MW b a R F):ae prog 243 #[Sl.v b,Sl.v a] F R:=Rx.sxC (args:=[Sl.v b,Sl.v a]) (.T .N (.T .N (.J false [(5,.sl)] (.T .N (.L [(5,.sl),(6,.int .i64)] (.T .N (.J false [(5,.sl)] .N .N)))) .N))) (by kernel_rfl) h
end Go.Proofs.YtenpmjhnhepfdaaGreatDoor
