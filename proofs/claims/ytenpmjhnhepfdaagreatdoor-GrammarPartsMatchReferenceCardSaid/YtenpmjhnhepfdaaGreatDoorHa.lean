/-
  Lists of structs in memory: what a slice's elements are, by type; grammars as plain data.
-/
import Derived.Test.YtenpmjhnhepfdaaGreatDoorPhm
import Derived.Test.YtenpmjhnhepfdaaGreatDoorGbits
import Derived.Test.YtenpmjhnhepfdaaGreatDoorGpattern
import Derived.Test.YtenpmjhnhepfdaaGreatDoorTie
import Derived.Test.YtenpmjhnhepfdaaGreatDoorCards
import Derived.LaidMore
import Derived.Lay
import Derived.SevenTiedAt
import Derived.Stop.Joined
import Derived.Test.YtenpmjhnhepfdaaGreatDoorEa
namespace Go.Proofs.YtenpmjhnhepfdaaGreatDoor
open Go Go.Proofs.Tryz
set_option maxRecDepth 10000
abbrev cQ (n:Nat):Value:=.int .u64 (n:Int)
def plA (P:Nat->Bool):Array Value:= #[cQ (wd P 0),cQ (wd P 1),cQ (wd P 2),cQ (wd P 3),cQ (wd P 4),cQ (wd P 5),cQ (wd P 6),cQ (wd P 7)]
def noP:Nat->Bool:=fun _=>false
theorem bo:plA noP= #[.int .u64 0,.int .u64 0,.int .u64 0,.int .u64 0,.int .u64 0,.int .u64 0,.int .u64 0,.int .u64 0]:=by
 unfold plA noP
 simp only [tP]
 rfl
theorem Gw (P:Nat->Bool):(plA P).size=8:=rfl
theorem eW (P:Nat->Bool) {k:Nat} (h:k<8):(plA P)[k]? =some (cQ (wd P k)):=by
 have:k=0\/k=1\/k=2\/k=3\/k=4\/k=5\/k=6\/k=7:=by omega
 rcases this with rfl|rfl|rfl|rfl|rfl|rfl|rfl|rfl<;>rfl
theorem bi (P:Nat->Bool):∀v∈(plA P).toList,ai v:=by
 intro v hv
 simp only [plA,List.mem_cons,List.not_mem_nil,or_false] at hv
 rcases hv with rfl|rfl|rfl|rfl|rfl|rfl|rfl|rfl<;>exact iC
def rP (P Q:Nat->Bool) (k:Nat):List Value:=(List.range 8).map fun j=>if j<k then cQ (wd Q j) else cQ (wd P j)
theorem Dk (P Q:Nat->Bool):rP P Q 0=(plA P).toList:=rfl
theorem Gx (P Q:Nat->Bool):rP P Q 8=(plA Q).toList:=rfl
theorem Gy (P Q:Nat->Bool) {k:Nat} (hk:k<8):(rP P Q k).set k (cQ (wd Q k))=rP P Q (k+1):=by
 have:k=0\/k=1\/k=2\/k=3\/k=4\/k=5\/k=6\/k=7:=by omega
 rcases this with rfl|rfl|rfl|rfl|rfl|rfl|rfl|rfl<;>rfl
theorem Gz (P Q:Nat->Bool) {k:Nat} (hk:k<8):(rP P Q k)[k]? =some (cQ (wd P k)):=by
 have:k=0\/k=1\/k=2\/k=3\/k=4\/k=5\/k=6\/k=7:=by omega
 rcases this with rfl|rfl|rfl|rfl|rfl|rfl|rfl|rfl<;>rfl
theorem bS (b o k:Nat):(Addr.mk b o none).add k=⟨b,o+k,none⟩:=by
 by_cases h:k=0
 ·subst h
  rfl
 ·simp [Addr.add,h]
def jF (F:PH) (b:Nat) (e:TypeId) (pre:List Value) (P:Nat->Bool) (post:List Value):Prop:=F b=some (.cells (pre++(plA P).toList++post).toArray e)
theorem jF.row {F:PH} {b:Nat} {e:TypeId} {pre post:List Value} {P:Nat->Bool} (h:jF F b e pre P post):F.row ⟨b,pre.length,none⟩ (plA P):=by
 intro i hi
 have hi':i<8:=hi
 rw [bS,am h]
 rw [List.getElem?_toArray,List.append_assoc,List.getElem?_append_right (by omega),Nat.add_sub_cancel_left,List.getElem?_append_left (by exact hi')]
 simp
theorem jF.own {F:PH} {b:Nat} {e:TypeId} {P:Nat->Bool}:jF F b e [] P []↔F b=some (.cells (plA P) e):=by
 unfold jF
 simp
section
variable {F:PH}
theorem tp {b:Nat} {e:TypeId} {pre post:List Value} {P Q:Nat->Bool} (h:jF F b e pre P post):
  ae prog 225 #[.pointer (some ⟨b,pre.length,none⟩),.agg (plA Q)] F fun r F'=>r=.tuple #[]/\jF F' b e pre (fun i=>P i || Q i) post/\cf (fun x=>x=b) F F':=by
 refine QE ?_
 unfold KG
 intro b3 hb3
 refine atI ?_
 have hbF:∃o,F b=some o:=⟨_,h⟩
 have l3:=ac (.cells (plA Q) 275) hb3
 have q3:=an F b3 (.cells (plA Q) 275)
 have h3:(F.set b3 (.cells (plA Q) 275)) b=some (.cells (pre++rP P (fun i=>P i || Q i) 0++post).toArray e):=by
  rw [Dk]
  exact l3 _ _ h
 have hne:b≠b3:=aG hb3 h
 generalize F.set b3 (.cells (plA Q) 275)=F3 at*
 refine ⟨fun m i F'=>∃k:Nat,i=k/\k<=8/\m=8 - k/\F' b3=some (.cells (plA Q) 275)/\F' b=some (.cells (pre++rP P (fun i=>P i || Q i) k++post).toArray e)/\cf (fun x=>x=b) F F',8,⟨0,rfl,by omega,rfl,q3,h3,cf.of_le l3⟩,?_⟩
 rintro _ _ F4 ⟨k,rfl,hk,rfl,q4,h4,hk4⟩
 unfold Bi
 refine ⟨fun hlt=> ?_,fun hge=> ?_⟩
 ·have h8:k<8:=by omega
  have hml:(rP P (fun i=>P i || Q i) k).length=8:=by simp [rP]
  have hg:(pre++rP P (fun i=>P i || Q i) k++post).toArray[pre.length+k]? =some (cQ (wd P k)):=by
   rw [List.getElem?_toArray,List.append_assoc,List.getElem?_append_right (by omega),Nat.add_sub_cancel_left,List.getElem?_append_left (by omega)]
   exact Gz P _ h8
  have ek:Int.toNat (k:Int)*1=k:=by rw [Int.toNat_natCast,Nat.mul_one]
  rw [ek]
  have hc:F4.cell ((Addr.mk b pre.length none).add k)=some (cQ (wd P k)):=by rw [bS,am h4];exact hg
  have hc3:F4.cell ((Addr.mk b3 0 none).add k)=some (cQ (wd Q k)):=by rw [bS,Nat.zero_add,am q4];exact eW Q h8
  refine ⟨_,rfl,by omega,by omega,_,hc,by omega,by omega,_,hc3,by omega,by omega,?_⟩
  refine oY (b:=b) (o:=pre.length+k) (bS b pre.length k) h4 (by simp [hml];omega) ?_
  rw [DW (mF P k) (mF Q k),<- Om]
  refine ⟨8 - (k+1),by omega,k+1,fd (by omega),h8,rfl,?_,?_,hk4.trans (cf.set _ (.inl rfl))⟩
  ·rw [az _ _ hne.symm]
   exact q4
  ·rw [an]
   congr 2
   rw [List.setIfInBounds_toArray]
   congr 1
   rw [List.append_assoc,List.set_append_right _ _ (by omega),Nat.add_sub_cancel_left,List.set_append_left _ _ (by omega),List.append_assoc]
   congr 2
   exact Gy P (fun i=>P i || Q i) h8
 ·obtain rfl:k=8:=by omega
  rw [Gx] at h4
  exact ⟨rfl,h4,hk4⟩
theorem xx {b:Nat} {e:TypeId} {pre post:List Value} {P Q:Nat->Bool} (h:jF F b e pre P post):
  ae prog 229 #[.pointer (some ⟨b,pre.length,none⟩),.agg (plA Q)] F fun r F'=>(∃t:Bool,r=.bool t/\(t=true↔∃i,i<512/\P i=true/\Q i=true))/\F.le F':=by
 refine QH ?_
 unfold KJ
 intro b3 hb3
 refine atI ?_
 have l3:=ac (.cells (plA Q) 275) hb3
 have q3:=an F b3 (.cells (plA Q) 275)
 have h3:jF (F.set b3 (.cells (plA Q) 275)) b e pre P post:=l3 _ _ h
 generalize F.set b3 (.cells (plA Q) 275)=F3 at*
 refine ⟨fun m i F'=>∃k:Nat,i=k/\k<=8/\m=8 - k/\F'=F3/\∀i,i<64*k->¬(P i=true/\Q i=true),8,⟨0,rfl,by omega,rfl,rfl,fun i hi=>by omega⟩,?_⟩
 rintro _ _ F4 ⟨k,rfl,hk,rfl,e4,hall⟩
 obtain rfl:=e4.symm
 unfold Bk
 refine ⟨fun hlt=> ?_,fun hge=> ?_⟩
 ·have h8:k<8:=by omega
  have ek:Int.toNat (k:Int)*1=k:=by rw [Int.toNat_natCast,Nat.mul_one]
  rw [ek]
  have hc:F3.cell ((Addr.mk b pre.length none).add k)=some (cQ (wd P k)):=by
   have:=h3.row k h8
   rw [this]
   have e:=eW P h8
   rw [Array.getElem?_eq_getElem (by exact h8)] at e
   exact e
  have hc3:F3.cell ((Addr.mk b3 0 none).add k)=some (cQ (wd Q k)):=by rw [bS,Nat.zero_add,am q3];exact eW Q h8
  refine ⟨_,rfl,by omega,by omega,_,hc,by omega,by omega,_,hc3,?_⟩
  dsimp only
  rw [tQ (mF P k) (mF Q k),<- Mu]
  refine ⟨fun hne=>⟨⟨true,rfl,?_⟩,l3⟩,fun he=>⟨8 - (k+1),by omega,k+1,fd (by omega),h8,rfl,rfl,fun i hi=> ?_⟩⟩
  ·refine ⟨fun _=> ?_,fun _=>rfl⟩
   have h0:¬wd (fun i=>P i && Q i) k=0:=by omega
   rw [gO] at h0
   have:∃j,¬(j<64->(P (64*k+j) && Q (64*k+j))=false):=Classical.not_forall.1 h0
   obtain ⟨j,hj⟩:=this
   have hj64:j<64:=Classical.byContradiction fun h=>hj fun h'=>absurd h' h
   have hj2:¬(P (64*k+j) && Q (64*k+j))=false:=fun h=>hj fun _=>h
   simp at hj2
   exact ⟨64*k+j,by omega,hj2⟩
  ·by_cases hlt2:i<64*k
   ·exact hall i hlt2
   ·have h0:wd (fun i=>P i && Q i) k=0:=by omega
    have:=gO.1 h0 (i - 64*k) (by omega)
    rw [show 64*k+(i - 64*k)=i by omega] at this
    rintro ⟨a,c⟩
    rw [a,c] at this
    cases this
 ·obtain rfl:k=8:=by omega
  unfold Bj
  exact ⟨⟨false,rfl,fun h=>(by cases h),fun ⟨i,hi,hp⟩=>absurd hp (hall i (by omega))⟩,l3⟩
theorem Dl {b:Nat} {P:Nat->Bool} {i:Nat} (hi:i<512) (h:F b=some (.cells (plA P) 275)):
  ae prog 227 #[pa b,vi i] F fun r F'=>r=.tuple #[]/\F'=F.set b (.cells (plA fun j=>P j || decide (j=i)) 275):=by
 refine QF ?_
 unfold KH
 have e1:IntKind.i64.wrap (Int.tdiv (i:Int) 64)=((i / 64:Nat):Int):=by rw [show Int.tdiv (i:Int) 64=((i / 64:Nat):Int) from rfl,aN (by omega) (by omega)]
 have e2:Int.tmod (i:Int) 64=((i % 64:Nat):Int):=rfl
 rw [e1,e2]
 have ek:Int.toNat ((i / 64:Nat):Int)*1=i / 64:=by rw [Int.toNat_natCast,Nat.mul_one]
 rw [ek]
 have h8:i / 64<8:=by omega
 have hc:F.cell ((Addr.mk b 0 none).add (i / 64))=some (cQ (wd P (i / 64))):=by rw [bS,Nat.zero_add,am h];exact eW P h8
 refine ⟨_,rfl,by omega,by omega,_,hc,by omega,by omega,by omega,?_⟩
 refine oY (b:=b) (o:=i / 64) (by rw [bS,Nat.zero_add]) h (by rw [Gw];exact h8) ⟨rfl,?_⟩
 have hp:2 ^ (i % 64)<18446744073709551616:=by
  have:2 ^ (i % 64)<2 ^ 64:=Nat.pow_lt_pow_right (by omega) (by omega)
  exact this
 have ep:IntKind.u64.wrap ((1:Int)*2 ^ (min (Int.toNat ((i % 64:Nat):Int)) (IntKind.u64).bits))=((2 ^ (i % 64):Nat):Int):=by
  have hm:min (Int.toNat ((i % 64:Nat):Int)) (IntKind.u64).bits=i % 64:=by
   rw [Int.toNat_natCast]
   show min (i % 64) 64=i % 64
   omega
  rw [hm]
  have:(1:Int)*2 ^ (i % 64)=((2 ^ (i % 64):Nat):Int):=by simp
  rw [this]
  exact ki (Int.natCast_nonneg _) (Int.ofNat_lt.2 hp)
 rw [ep,DW (mF P _) hp]
 congr 2
 have ew:wd P (i / 64) ||| 2 ^ (i % 64)=wd (fun j=>P j || decide (j=i)) (i / 64):=by
  refine rU (Nat.or_lt_two_pow (mF P _) hp) fun j hj=> ?_
  rw [Nat.testBit_or,gN P _ hj,Nat.testBit_two_pow]
  congr 1
  rw [Bool.eq_iff_iff]
  simp
  omega
 rw [ew]
 have eo:∀k,k≠i / 64->k<8->wd P k=wd (fun j=>P j || decide (j=i)) k:=fun k hk _=>DU fun j hj=>by
  show P (64*k+j)=(P (64*k+j) || decide (64*k+j=i))
  rw [show decide (64*k+j=i)=false by simp;omega,Bool.or_false]
 apply Array.ext'
 apply List.ext_getElem?
 intro k
 rw [Array.toList_setIfInBounds,List.getElem?_set]
 by_cases hk8:k<8
 ·have g1:∀(Q:Nat->Bool),(plA Q).toList[k]? =some (cQ (wd Q k)):=fun Q=>by rw [Array.getElem?_toList];exact eW Q hk8
  rw [g1,g1]
  by_cases hik:i / 64=k
  ·rw [if_pos hik,if_pos (by exact h8),hik]
  ·rw [if_neg hik,eo k (fun e=>hik e.symm) hk8]
 ·have g2:∀(Q:Nat->Bool),(plA Q).toList[k]? =none:=fun Q=>List.getElem?_eq_none (by show 8<=k;omega)
  rw [g2,g2,if_neg (by omega)]
def Tab (F:PH):Prop:=∀k v,vY[k]? =some v->F.cell ⟨0,k,none⟩=some (.int .u8 ((v:Nat):Int))
theorem Tab.le {F G:PH} (h:Tab F) (hl:F.le G):Tab G:=fun k v hv=>aq hl (h k v hv)
theorem I0 (hT:Tab F) {x t:Nat} (hx:x<18446744073709551616) (h:Low x t):ae prog 240 #[.int .u64 x] F fun r F'=>r=vi t/\F'=F:=by
 refine Qt ?_
 unfold Ku
 have hpos:=h.pos
 refine ⟨fun h0=>absurd h0 (by omega),fun _=> ?_⟩
 have ht:t<64:=by
  rcases Nat.lt_or_ge t 64 with h1|h1
  ·exact h1
  ·obtain ⟨m,rfl⟩:=h
   have:2 ^ 64<=2 ^ t:=Nat.pow_le_pow_right (by omega) h1
   omega
 have e1:IntKind.u64.wrap (0 - (x:Int))=((2 ^ 64 - x:Nat):Int):=by
  unfold IntKind.wrap
  simp only [IntKind.bits,IntKind.signed]
  simp only [Bool.false_and,Bool.false_eq_true,if_false]
  have:(2:Nat) ^ 64=18446744073709551616:=by decide
  omega
 have e2:2 ^ 64 - x<18446744073709551616:=by omega
 rw [e1,tQ hx e2,h.neg hx]
 have hC:=On t ht
 have e3:IntKind.u64.wrap (((2 ^ t:Nat):Int)*285870213051353865)=((2 ^ t*285870213051353865 % 18446744073709551616:Nat):Int):=by
  unfold IntKind.wrap
  simp only [IntKind.bits,IntKind.signed]
  simp only [Bool.false_and,Bool.false_eq_true,if_false]
  have:((2:Nat) ^ 64:Nat)=18446744073709551616:=by decide
  omega
 rw [e3]
 generalize hy:2 ^ t*285870213051353865 % 18446744073709551616=y at*
 have e4:Int.fdiv ((y:Nat):Int) (2 ^ (min (Int.toNat (58:Int)) (IntKind.u64).bits))=((y / 288230376151711744:Nat):Int):=by
  have:(2:Int) ^ (min (Int.toNat (58:Int)) (IntKind.u64).bits)=288230376151711744:=by decide
  rw [this,Int.fdiv_eq_ediv_of_nonneg _ (by decide)]
  omega
 rw [e4,Int.toNat_natCast,Nat.mul_one,bS,Nat.zero_add]
 refine ⟨by omega,by omega,_,hT _ _ hC.2,?_,rfl⟩
 rw [Oe (by omega)]
theorem tq {a:Addr} {P:Nat->Bool} {k:FuncId} {cap:Array Value} {Inv:Nat->PH->Prop} (hk:aC prog k=true) (ha:a.spot=none)
  (hI:∀n F,Inv n F->Tab F/\F.row a (plA P)) (h0:∀i F,i<512->P i=false->Inv i F->Inv (i+1) F)
  (h1:∀i F,i<512->P i=true->Inv i F->ae prog k (#[vi i]++cap) F fun r F'=>r=.tuple #[]/\Inv (i+1) F') (hF:Inv 0 F):
  ae prog 223 #[.pointer (some a),.func (.func k) #[] cap] F fun r F'=>r=.tuple #[]/\Inv 512 F':=by
 refine QC ?_
 unfold KD
 refine ⟨fun m i F'=>∃w:Nat,i=w/\w<=8/\m=8 - w/\Inv (64*w) F',8,⟨0,rfl,by omega,rfl,hF⟩,?_⟩
 rintro _ _ F1 ⟨w,rfl,hw,rfl,hi1⟩
 unfold Bg
 refine ⟨fun hlt=> ?_,fun hge=> ?_⟩
 ·have h8:w<8:=by omega
  have ek:Int.toNat (w:Int)*1=w:=by rw [Int.toNat_natCast,Nat.mul_one]
  rw [ek]
  have hc:F1.cell (a.add w)=some (cQ (wd P w)):=by
   rw [(hI _ _ hi1).2 w h8]
   have e:=eW P h8
   rw [Array.getElem?_eq_getElem (by exact h8)] at e
   exact e
  refine ⟨a,rfl,by omega,by omega,_,hc,?_⟩
  refine ⟨fun m x F'=>∃j y:Nat,x=y/\j<=64/\m=64 - j/\y<18446744073709551616/\(∀i,y.testBit i=((wd P w).testBit i && decide (j<=i)))/\Inv (64*w+j) F',64,⟨0,wd P w,rfl,by omega,rfl,mF P w,fun i=>by simp,hi1⟩,?_⟩
  rintro _ _ F2 ⟨j,y,rfl,hj,rfl,hy,hbit,hi2⟩
  unfold Bf
  have skip:∀(t:Nat),j<=t->t<=64->(∀i,j<=i->i<t->P (64*w+i)=false)->Inv (64*w+t) F2:=by
   intro t
   induction t with
   |zero=>
    intro h _ _
    obtain rfl:j=0:=by omega
    exact hi2
   |succ t ih=>
    intro h h2 h3
    by_cases e:j=t+1
    ·subst e
     exact hi2
    ·have:=ih (by omega) (by omega) fun i a c=>h3 i a (by omega)
     exact h0 (64*w+t) F2 (by omega) (h3 t (by omega) (by omega)) this
  refine ⟨fun hne=> ?_,fun he=> ?_⟩
  ·
   have hex:∃t,y.testBit t=true:=Classical.byContradiction fun hn=>by
    have:y=0:=Nat.eq_of_testBit_eq fun i=>by
     rw [Nat.zero_testBit]
     exact Bool.eq_false_iff.2 fun h=>hn ⟨i,h⟩
    omega
   obtain ⟨t,ht,hmin⟩:∃t,y.testBit t=true/\∀i,i<t->y.testBit i=false:=by
    obtain ⟨t,ht⟩:=hex
    have key:∀n t,t<=n->y.testBit t=true->∃t,y.testBit t=true/\∀i,i<t->y.testBit i=false:=by
     intro n
     induction n with
     |zero=>
      intro t h ht
      obtain rfl:t=0:=by omega
      exact ⟨0,ht,fun i hi=>by omega⟩
     |succ n ih=>
      intro t h ht
      by_cases hl:∃i,i<t/\y.testBit i=true
      ·obtain ⟨i,h1,h2⟩:=hl
       exact ih i (by omega) h2
      ·exact ⟨t,ht,fun i hi=>Bool.eq_false_iff.2 fun h=>hl ⟨i,hi,h⟩⟩
    exact key t t (Nat.le_refl _) ht
   have hlow:Low y t:=Low.of ht hmin
   have htb:=hbit t
   rw [ht] at htb
   simp at htb
   have ht64:t<64:=by
    rcases Nat.lt_or_ge t 64 with h|h
    ·exact h
    ·rw [Nat.testBit_lt_two_pow (Nat.lt_of_lt_of_le (mF P w) (by have:2 ^ 64<=2 ^ t:=Nat.pow_le_pow_right (by omega) h;exact this))] at htb
     simp at htb
   have hPt:P (64*w+t)=true:=by rw [<- gN P w ht64];exact htb.1
   have hz:∀i,j<=i->i<t->P (64*w+i)=false:=fun i a c=>by
    have:=hbit i
    rw [hmin i c,gN P w (by omega)] at this
    simp only [decide_eq_true a,Bool.and_true] at this
    exact this.symm
   have hi3:=skip t htb.2 (by omega) hz
   refine (I0 (hI _ _ hi3).1 hy hlow).mono ?_
   rintro _ F3 ⟨rfl,e3⟩
   obtain rfl:=e3.symm
   have ei:IntKind.i64.wrap (IntKind.i64.wrap ((64:Int)*(w:Int))+(t:Int))=((64*w+t:Nat):Int):=by
    rw [aN (x:=(64:Int)*w) (by omega) (by omega),aN (by omega) (by omega)]
    omega
   refine ⟨_,rfl,k,#[],cap,rfl,hk,?_⟩
   rw [ei]
   have:=h1 (64*w+t) F2 (by omega) hPt hi3
   refine ae.mono (R:=fun r F'=>r=.tuple #[]/\Inv (64*w+t+1) F') (by simpa using this) ?_
   rintro _ F4 ⟨rfl,hi4⟩
   refine ⟨rfl,64 - (t+1),by omega,t+1,y &&& (y - 1),?_,by omega,rfl,Nat.lt_of_le_of_lt Nat.and_le_left hy,fun i=> ?_,hi4⟩
   ·have e:IntKind.u64.wrap ((y:Int) - 1)=((y - 1:Nat):Int):=by
     have:=hlow.pos
     rw [ki (by omega) (by omega)]
     omega
    rw [e,tQ hy (by omega)]
   ·rw [hlow.clear,hbit i]
    by_cases hit:i<t
    ·have:=hmin i hit
     rw [hbit i] at this
     rw [this]
     simp
     omega
    ·by_cases e:i=t
     ·subst e
      simp
     ·have:j<=i:=by omega
      simp [this,e]
      omega
  ·have hy0:y=0:=by omega
   subst hy0
   unfold Be
   refine ⟨8 - (w+1),by omega,w+1,fd (by omega),h8,rfl,?_⟩
   rw [show 64*(w+1)=64*w+64 by omega]
   refine skip 64 hj (Nat.le_refl _) fun i a c=> ?_
   have:=hbit i
   rw [Nat.zero_testBit,gN P w c] at this
   simp only [decide_eq_true a,Bool.and_true] at this
   exact this.symm
 ·obtain rfl:w=8:=by omega
  exact ⟨rfl,hi1⟩
end
end Go.Proofs.YtenpmjhnhepfdaaGreatDoor
namespace Go.Proofs.YtenpmjhnhepfdaaGreatDoor
open Go Go.ChangeShapes Go.WideShapes Go.ChangeAt Go.RowKit Go.Proofs.Tryz
set_option maxRecDepth 100000
abbrev qJ:List (String×DataW Unit):=[("math/bits.deBruijn64tab",Rows.laid_math_bits_deBruijn64tab)]
theorem mv:prog.cellsOf 5=1:=by kernel_rfl
theorem QI:ownKnob prog.godebug=Option.none:=by kernel_rfl
theorem Ja:laidOutB prog=true:=by kernel_rfl
theorem NP:(Rows.laid_math_bits_deBruijn64tab:DataW Unit)=.agg (vY.map fun (n:Nat)=> .lit (.int .u8 (n:Int))):=by kernel_rfl
theorem xy {W:World} (h:laidMetH prog qJ W):Tab (hF W):=by
 intro r v hv
 have hr:r<64:=(List.getElem?_eq_some_iff.1 hv).1
 rw [MakeChecks.laidMetH_plain _ _ _ (by kernel_rfl)] at h
 obtain ⟨ps,⟨g,t,cs,fuel,p,q,hg,ht,hw,hd,_,_⟩,_,_⟩:=h
 obtain rfl:=Option.some.inj ((show prog.globalNamed "math/bits.deBruijn64tab"=some 0 by kernel_rfl).symm.trans hg)
 obtain rfl:=Option.some.inj ((show (prog.globals[0]?).map (·.type)=some 321 by kernel_rfl).symm.trans ht)
 obtain ⟨xs,m,_,ex,_,hl,hel⟩:=DataW.trod_array underlying321 hd
 have hE:=hel r hr
 rw [mv,Nat.mul_one,List.getElem?_eq_getElem (by omega)] at hE
 obtain ⟨z,e1,e2,_⟩:=DataW.trod_int underlying5 hE
 rw [NP] at ex
 have e3:(xs.map (·.1))=vY.map fun (n:Nat)=> .lit (.int .u8 (n:Int)):=(DataW.agg.inj (Prod.mk.inj ex).1).symm
 have e4:(xs.map (·.1))[r]? =(vY.map fun (n:Nat)=>(DataW.lit (.int .u8 (n:Int)):DataW Unit))[r]? :=by rw [e3]
 rw [List.getElem?_map,List.getElem?_map,List.getElem?_eq_getElem (by omega:r<xs.length),hv,e2] at e4
 have hz:z=(v:Int):=by
  simp only [Option.map_some,Option.some.injEq,DataW.lit.injEq,Lit.int.injEq,true_and] at e4
  exact e4
 refine zM ?_
 rw [World.var?_cell hg hw r,<- hz]
 have:cs.toList[r]? =some (.int .u8 z):=by
  have h0:((cs.toList.drop r).take 1)[0]? =some (.int .u8 z):=by rw [e1];rfl
  simpa using h0
 simpa using this
theorem GA (os:Os) (args:Array Value):laidMetH prog qJ ((World.laidAll prog os qJ).forCall (fun _ _=>0) ⟨#[],args,[]⟩).memory:=by
 rw [MakeChecks.laidMetH_plain _ _ _ (by kernel_rfl)]
 exact laidMet_laidAll _ (by kernel_rfl) (by kernel_rfl)
end Go.Proofs.YtenpmjhnhepfdaaGreatDoor
namespace Go.Proofs.YtenpmjhnhepfdaaGreatDoor
open Go Go.ChangeShapes Go.WideShapes Go.ChangeAt Go.RowKit Go.Deep Go.Proofs.Tryz
set_option maxRecDepth 10000
section
variable {H:Type} {enc:TypeId×Value->H} {P:Program} {W:World}
theorem GB {t e fuel:Nat} {k:IntKind} {c:Value} {x:DataW H×List MemPlace} (ht:P.underlying t=some (.slice e)) (he:P.underlying e=some (.int k)) (hc:P.cellsOf e=1)
  (h:DataW.trod enc P W 0 (fun _=>true) true fuel t [c]=some x) (hw:(x.1.weights P t).all (·<=reachBytes)=true):
  ∃(sl:Sl) (zs:List Int),c=Sl.v sl/\RdS (hF W) sl 1 (zs.map (Value.int k))/\(∀z∈zs,(Lit.int k z).wf=true)/\sl.len*P.bytesOf e<=reachBytes/\sl.cap*P.bytesOf e<=reachBytes:=by
 rcases open_slice1 ht hc h with ⟨hcs,rfl⟩|⟨a,len,cap,m,n,V,D,Pl,hcs,_,hl,hm,hmm,rfl,hx⟩
 ·cases hcs
  exact ⟨Sl.nil,[],rfl,RdS.nil _ _,by simp,by simp [Sl.nil],by simp [Sl.nil]⟩
 ·cases hcs
  simp only [if_true] at hmm
  subst hmm
  have hz:∀i,i<m->∃z,V i=.int k z/\(Lit.int k z).wf=true:=fun i hi=>by
   obtain ⟨z,h1,_,h3⟩:=DataW.trod_int he (hx i hi).2
   exact ⟨z,by simpa using h1,h3⟩
  obtain ⟨Z,hZ⟩:=choose_lt hz
  have hb:m*P.bytesOf e<=reachBytes:=by
   simp only [DataW.weights,ht,List.all_cons,Bool.and_eq_true,decide_eq_true_eq,List.length_map,List.length_range] at hw
   rw [show len+(m - len)=m by omega] at hw
   exact hw.1
  refine ⟨⟨some a,len,m⟩,(List.range len).map Z,rfl,⟨by simp,hl,fun hp=> ?_⟩,?_,Nat.le_trans (Nat.mul_le_mul_right _ hl) hb,hb⟩
  ·have hs:=World.cell?_spot (hx 0 (by simp only at hp;omega)).1
   obtain ⟨b,o,spot⟩:=a
   simp only [Addr.add] at hs
   subst hs
   refine ⟨b,o,rfl,fun i hi=> ?_⟩
   simp at hi
   have:=zM (hx i (by omega)).1
   rw [(hZ i (by omega)).1] at this
   rw [aK] at this
   simpa using this
  ·intro z hz
   simp only [List.mem_map,List.mem_range] at hz
   obtain ⟨i,hi,rfl⟩:=hz
   exact (hZ i (by omega)).2
end
theorem NQ {z:Int} (h:(Lit.int .u8 z).wf=true):0<=z/\z<=255:=bounds_u8 h
theorem Jb {F:PH} {sl:Sl} {zs:List Int} (h:RdS F sl 1 (zs.map (Value.int .u8))) (hb:sl.len*prog.bytesOf 5<=reachBytes):zs.length<=9000000000000000:=by
 have:=h.len
 rw [List.length_map] at this
 have e:prog.bytesOf 5=1:=by kernel_rfl
 have e2:reachBytes=140737488351232:=rfl
 rw [e,e2] at hb
 omega
class Mem (α:Type) where
 n:Nat
 rep:PH->α->Array Value->Prop
 len:∀{F:PH} {x:α} {c:Array Value},rep F x c->c.size=n
 le:∀{F G:PH} {x:α} {c:Array Value},F.le G->rep F x c->rep G x c
 st:∀{F:PH} {x:α} {c:Array Value},rep F x c->∀v∈c.toList,ai v
def cat (vs:List (Array Value)):List Value:=vs.flatMap Array.toList
theorem cG (c:Array Value) (vs:List (Array Value)):cat (c::vs)=c.toList++cat vs:=rfl
theorem bq (a b:List (Array Value)):cat (a++b)=cat a++cat b:=by simp [cat]
theorem bG (c:Array Value):cat [c]=c.toList:=by simp [cat]
inductive bZ {α:Type} [Mem α] (F:PH):List α->List (Array Value)->Prop
 |nil:bZ F [] []
 |cons {x:α} {c:Array Value} {l:List α} {vs:List (Array Value)}:Mem.rep F x c->bZ F l vs->bZ F (x::l) (c::vs)
namespace bZ
section
variable {α:Type} [Mem α] {F G:PH} {l m:List α} {vs ws:List (Array Value)}
theorem le (hl:F.le G) (h:bZ F l vs):bZ G l vs:=by
 induction h with
 |nil=>exact .nil
 |cons h _ ih=>exact .cons (Mem.le hl h) ih
theorem length (h:bZ F l vs):vs.length=l.length:=by
 induction h with
 |nil=>rfl
 |cons _ _ ih=>simp [ih]
theorem cat_len (h:bZ F l vs):(cat vs).length=l.length*Mem.n α:=by
 induction h with
 |nil=>simp [cat]
 |cons h _ ih=>rw [cG,List.length_append,ih,Array.length_toList,Mem.len h,List.length_cons,Nat.succ_mul,Nat.add_comm]
theorem append (h:bZ F l vs) (k:bZ F m ws):bZ F (l++m) (vs++ws):=by
 induction h with
 |nil=>exact k
 |cons h _ ih=>exact .cons h ih
theorem st (h:bZ F l vs):∀v∈cat vs,ai v:=by
 induction h with
 |nil=>intro v hv;cases hv
 |cons h _ ih=>
  intro v hv
  rw [cG,List.mem_append] at hv
  rcases hv with hv|hv
  ·exact Mem.st h v hv
  ·exact ih v hv
theorem get (h:bZ F l vs):∀{i:Nat} {x:α},l[i]? =some x->∃c,vs[i]? =some c/\Mem.rep F x c/\((cat vs).drop (i*Mem.n α)).take (Mem.n α)=c.toList:=by
 induction h with
 |nil=>intro i x hx;simp at hx
 | @cons y c l vs h h2 ih=>
  intro i x hx
  have hlen:=Mem.len h
  cases i with
  |zero=>
   simp at hx
   subst hx
   refine ⟨c,rfl,h,?_⟩
   rw [Nat.zero_mul,List.drop_zero,cG,List.take_append_of_le_length (by simp [hlen]),List.take_of_length_le (by simp [hlen])]
  |succ i=>
   simp at hx
   obtain ⟨d,h3,h4,h5⟩:=ih hx
   refine ⟨d,by simpa using h3,h4,?_⟩
   rw [cG,Nat.succ_mul,List.drop_append,List.drop_eq_nil_of_le (by simp [hlen]),List.nil_append]
   rw [show i*Mem.n α+Mem.n α - c.toList.length=i*Mem.n α by simp [hlen]]
   exact h5
theorem take (h:bZ F l vs) (k:Nat):bZ F (l.take k) (vs.take k):=by
 induction h generalizing k with
 |nil=>simp only [List.take_nil];exact .nil
 |cons h _ ih=>
  cases k with
  |zero=>exact .nil
  |succ k=>exact .cons h (ih k)
theorem drop (h:bZ F l vs) (k:Nat):bZ F (l.drop k) (vs.drop k):=by
 induction h generalizing k with
 |nil=>simp only [List.drop_nil];exact .nil
 |cons h h2 ih=>
  cases k with
  |zero=>exact .cons h h2
  |succ k=>exact ih k
theorem cat_take (h:bZ F l vs) (k:Nat):(cat vs).take (k*Mem.n α)=cat (vs.take k):=by
 induction h generalizing k with
 |nil=>simp [cat]
 |cons h _ ih=>
  cases k with
  |zero=>simp [cat]
  |succ k=>
   have hlen:=Mem.len h
   rw [List.take_succ_cons,cG,cG,Nat.succ_mul,List.take_append,List.take_of_length_le (by simp [hlen])]
   congr 1
   rw [show k*Mem.n α+Mem.n α - (Array.toList _).length=k*Mem.n α by simp [hlen]]
   exact ih k
theorem set (h:bZ F l vs) {i:Nat} {x:α} {c:Array Value} (hc:Mem.rep F x c):bZ F (l.set i x) (vs.set i c):=by
 induction h generalizing i with
 |nil=>simp only [List.set_nil];exact .nil
 |cons h h2 ih=>
  cases i with
  |zero=>exact .cons hc h2
  |succ i=>exact .cons h ih
end
end bZ
def RL {α:Type} [Mem α] (F:PH) (s:Sl) (l:List α):Prop:=∃vs,bZ F l vs/\RdS F s (Mem.n α) (cat vs)
namespace RL
section
variable {α:Type} [Mem α] {F G:PH} {s:Sl} {l:List α}
theorem le (h:RL F s l) (hl:F.le G):RL G s l:=by
 obtain ⟨vs,h1,h2⟩:=h
 exact ⟨vs,h1.le hl,h2.le hl⟩
theorem nil (F:PH):RL F Sl.nil ([]:List α):=⟨[],.nil,RdS.nil F _⟩
theorem len (h:RL F s l) (hn:0<Mem.n α):s.len=l.length:=by
 obtain ⟨vs,h1,h2⟩:=h
 have:=h2.len
 rw [h1.cat_len] at this
 exact (Nat.eq_of_mul_eq_mul_right hn this).symm
theorem cap (h:RL F s l):s.len<=s.cap:=by
 obtain ⟨vs,h1,h2⟩:=h
 exact h2.cap
theorem get (h:RL F s l) (hn:0<Mem.n α) {i:Nat} {x:α} (hx:l[i]? =some x):∃a c,s.base=some a/\F.row (a.add (i*Mem.n α)) c/\Mem.rep F x c:=by
 obtain ⟨vs,h1,h2⟩:=h
 obtain ⟨c,h3,h4,h5⟩:=h1.get hx
 have hi:i<l.length:=(List.getElem?_eq_some_iff.1 hx).1
 have hlen:=h2.len
 rw [h1.cat_len] at hlen
 have hp:0<s.len:=by
  have:=Nat.eq_of_mul_eq_mul_right hn hlen
  omega
 obtain ⟨b,o,hb,_⟩:=h2.cells hp
 refine ⟨⟨b,o,none⟩,c,hb,h2.row hb _ c ?_,h4⟩
 rw [Mem.len h4]
 exact h5.symm
end
end RL
instance:Mem Int where
 n:=1
 rep _ x c:=c= #[vi x]
 len h:=by rw [h];rfl
 le _ h:=h
 st h:=by rw [h];simp [ai]
instance:Mem ByteArray where
 n:=1
 rep _ x c:=c= #[.string x]
 len h:=by rw [h];rfl
 le _ h:=h
 st h:=by rw [h];simp [ai]
instance:Mem Br where
 n:=3
 rep _ x c:=c=aQ x
 len h:=by rw [h];rfl
 le _ h:=h
 st h:=by rw [h];simp [ai]
instance:Mem Nd where
 n:=5
 rep _ x c:=c=x.arr
 len h:=by rw [h];rfl
 le _ h:=h
 st h:=by rw [h];simp [ai]
structure Sy where
 t:Bool
 i:Int
deriving DecidableEq
abbrev Sy.arr (x:Sy):Array Value:= #[.bool x.t,vi x.i]
instance:Mem Sy where
 n:=2
 rep _ x c:=c=x.arr
 len h:=by rw [h];rfl
 le _ h:=h
 st h:=by rw [h];simp [ai]
structure Cn where
 k:Int
 a:Int
 b:Int
deriving DecidableEq
abbrev Cn.arr (x:Cn):Array Value:= #[vi x.k,vi x.a,vi x.b]
instance:Mem Cn where
 n:=3
 rep _ x c:=c=x.arr
 len h:=by rw [h];rfl
 le _ h:=h
 st h:=by rw [h];simp [ai]
theorem RL.flat {α:Type} [Mem α] {f:α->Array Value} (hf:∀F x c,Mem.rep F x c↔c=f x) {F:PH} {s:Sl} {l:List α}:RL F s l↔RdS F s (Mem.n α) (l.flatMap fun x=>(f x).toList):=by
 have key:∀(l:List α) (vs:List (Array Value)),bZ F l vs↔vs=l.map f:=by
  intro l
  induction l with
  |nil=>intro vs;exact ⟨fun h=>by cases h;rfl,fun h=>by rw [h];exact .nil⟩
  |cons x l ih=>
   intro vs
   constructor
   ·intro h
    cases h with
    |cons h1 h2=>rw [(hf _ _ _).1 h1,(ih _).1 h2];rfl
   ·intro h
    rw [h]
    exact .cons ((hf _ _ _).2 rfl) ((ih _).2 rfl)
 have e:cat (l.map f)=l.flatMap fun x=>(f x).toList:=by simp [cat,List.flatMap_map]
 constructor
 ·rintro ⟨vs,h1,h2⟩
  rw [(key l vs).1 h1,e] at h2
  exact h2
 ·intro h
  exact ⟨_,(key l _).2 rfl,by rw [e];exact h⟩
theorem RL.brs {F:PH} {s:Sl} {l:List Br}:RL F s l↔RdS F s 3 (aS l):=RL.flat (f:=aQ) (fun _ _ _=>Iff.rfl)
theorem RL.nds {F:PH} {s:Sl} {l:List Nd}:RL F s l↔RdS F s 5 (dG l):=RL.flat (f:=Nd.arr) (fun _ _ _=>Iff.rfl)
theorem KL {α:Type} (f:α->Value) (l:List α):(l.flatMap fun x=>(#[f x]:Array Value).toList)=l.map f:=by
 induction l with
 |nil=>rfl
 |cons x l ih=>rw [List.flatMap_cons,ih];rfl
theorem RL.ints {F:PH} {s:Sl} {l:List Int}:RL F s l↔RdS F s 1 (l.map vi):=by
 rw [RL.flat (f:=fun x=> #[vi x]) (fun _ _ _=>Iff.rfl),KL]
 rfl
theorem RL.strs {F:PH} {s:Sl} {l:List ByteArray}:RL F s l↔RdS F s 1 (l.map Value.string):=by
 rw [RL.flat (f:=fun x=> #[.string x]) (fun _ _ _=>Iff.rfl),KL]
 rfl
theorem DV.mk {F:PH} {s:Sl} {d:Dia} (h:RL F s d.1):DV F #[s.v,vi d.2] d:=⟨s,rfl,RL.brs.1 h⟩
structure Tk where
 name:ByteArray
 cls:Int
 lit:ByteArray
 pat:List Nd
 smp:ByteArray
 cond:Dia
structure Sco where
 o:Bool
 d:Int
 k:Int
 u:Int
 a:Int
deriving DecidableEq
structure Pr where
 name:ByteArray
 left:Int
 right:List Sy
 cond:Dia
 brk:Bool
 rank:Int
 lay:List Cn
 sco:Sco
structure Lv where
 ps:List Int
 assoc:Int
 cond:Dia
structure Fi where
 k:Int
 par:Int
 pos:Int
 ch:Int
 left:Int
 tok:Int
 toks:List Int
 cond:Dia
structure Gr where
 conds:List ByteArray
 fam:Dia
 toks:List Tk
 nons:List ByteArray
 prods:List Pr
 start:Int
 lvs:List Lv
 fils:List Fi
deriving instance DecidableEq for Tk,Pr,Lv,Fi,Gr
abbrev Tk.arr (x:Tk) (p n:Sl):Array Value:= #[.string x.name,vi x.cls,.string x.lit,p.v,.string x.smp,n.v,vi x.cond.2]
abbrev Pr.arr (x:Pr) (r n l:Sl):Array Value:= #[.string x.name,vi x.left,r.v,n.v,vi x.cond.2,.bool x.brk,vi x.rank,l.v,.bool x.sco.o,vi x.sco.d,vi x.sco.k,vi x.sco.u,vi x.sco.a]
abbrev Lv.arr (x:Lv) (p n:Sl):Array Value:= #[p.v,vi x.assoc,n.v,vi x.cond.2]
abbrev Fi.arr (x:Fi) (t n:Sl):Array Value:= #[vi x.k,vi x.par,vi x.pos,vi x.ch,vi x.left,vi x.tok,t.v,n.v,vi x.cond.2]
abbrev Gr.arr (g:Gr) (c n t s p l f:Sl):Array Value:= #[c.v,n.v,vi g.fam.2,t.v,s.v,p.v,vi g.start,l.v,f.v]
instance:Mem Tk where
 n:=7
 rep F x c:=∃p n,c=x.arr p n/\RL F p x.pat/\RL F n x.cond.1
 len h:=by obtain ⟨p,n,rfl,_⟩:=h;rfl
 le hl h:=by obtain ⟨p,n,h1,h2,h3⟩:=h;exact ⟨p,n,h1,h2.le hl,h3.le hl⟩
 st h:=by obtain ⟨p,n,rfl,_⟩:=h;simp [ai,Sl.v]
instance:Mem Pr where
 n:=13
 rep F x c:=∃r n l,c=x.arr r n l/\RL F r x.right/\RL F n x.cond.1/\RL F l x.lay
 len h:=by obtain ⟨r,n,l,rfl,_⟩:=h;rfl
 le hl h:=by obtain ⟨r,n,l,h1,h2,h3,h4⟩:=h;exact ⟨r,n,l,h1,h2.le hl,h3.le hl,h4.le hl⟩
 st h:=by obtain ⟨r,n,l,rfl,_⟩:=h;simp [ai,Sl.v]
instance:Mem Lv where
 n:=4
 rep F x c:=∃p n,c=x.arr p n/\RL F p x.ps/\RL F n x.cond.1
 len h:=by obtain ⟨p,n,rfl,_⟩:=h;rfl
 le hl h:=by obtain ⟨p,n,h1,h2,h3⟩:=h;exact ⟨p,n,h1,h2.le hl,h3.le hl⟩
 st h:=by obtain ⟨p,n,rfl,_⟩:=h;simp [ai,Sl.v]
instance:Mem Fi where
 n:=9
 rep F x c:=∃t n,c=x.arr t n/\RL F t x.toks/\RL F n x.cond.1
 len h:=by obtain ⟨p,n,rfl,_⟩:=h;rfl
 le hl h:=by obtain ⟨p,n,h1,h2,h3⟩:=h;exact ⟨p,n,h1,h2.le hl,h3.le hl⟩
 st h:=by obtain ⟨p,n,rfl,_⟩:=h;simp [ai,Sl.v]
structure GS (F:PH) (g:Gr) (c n t s p l f:Sl):Prop where
 c:RL F c g.conds
 n:RL F n g.fam.1
 t:RL F t g.toks
 s:RL F s g.nons
 p:RL F p g.prods
 l:RL F l g.lvs
 f:RL F f g.fils
theorem GS.le {F G:PH} {g:Gr} {c n t s p l f:Sl} (h:GS F g c n t s p l f) (hl:F.le G):GS G g c n t s p l f:=
 ⟨h.c.le hl,h.n.le hl,h.t.le hl,h.s.le hl,h.p.le hl,h.l.le hl,h.f.le hl⟩
def GV (F:PH) (v:Array Value) (g:Gr):Prop:=∃c n t s p l f,v=g.arr c n t s p l f/\GS F g c n t s p l f
theorem GV.le {F G:PH} {v:Array Value} {g:Gr} (h:GV F v g) (hl:F.le G):GV G v g:=by
 obtain ⟨c,n,t,s,p,l,f,h1,h2⟩:=h
 exact ⟨c,n,t,s,p,l,f,h1,h2.le hl⟩
theorem GV.size {F:PH} {v:Array Value} {g:Gr} (h:GV F v g):v.size=9:=by
 obtain ⟨c,n,t,s,p,l,f,rfl,_⟩:=h
 rfl
theorem GV.st {F:PH} {v:Array Value} {g:Gr} (h:GV F v g):∀x∈v.toList,ai x:=by
 obtain ⟨c,n,t,s,p,l,f,rfl,_⟩:=h
 simp [ai,Sl.v]
end Go.Proofs.YtenpmjhnhepfdaaGreatDoor
