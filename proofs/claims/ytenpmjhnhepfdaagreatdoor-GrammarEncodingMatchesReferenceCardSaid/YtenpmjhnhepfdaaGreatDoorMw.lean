/-
  The reference's reader: lists.
-/
import Derived.Test.YtenpmjhnhepfdaaGreatDoorLg
namespace Go.Proofs.YtenpmjhnhepfdaaGreatDoor
open Go.IntKind (i64 u8 u64)
open Go Go.Proofs.Tryz Tr
set_option maxRecDepth 10000
abbrev j0 (s:Sl) (k:Nat) (bad:Bool):Γ:= #[s.v,vi k,.bool bad]
def rrS (s:Sl) (B:Δ) (br:Nat) (r:Option Δ):Ψ:=λH=>∃k:Nat,(k<=B.length/\∀l,r=some l->B.drop k=l)/\H br=some (.cells (j0 s k r.isNone) 127)
abbrev rp (br:Nat):Value:=.pointer (some (Addr.mk br 0 none))
section
variable {G F:PH} {As:List (Ψ)} {s:Sl} {B:Δ} {br:Nat} {r:Option Δ}
theorem St.exQ (h:St G F (rrS s B br r::As)):∃k:Nat,(k<=B.length/\∀l,r=some l->B.drop k=l)/\St G F (pt br (.cells (j0 s k r.isNone) 127)::As):=by obtain ⟨H1,h1⟩:=h.get (i:=0) rfl;obtain ⟨k,hk,e⟩:=h1.1;refine ⟨k,hk,h.imp (A':=pt br (.cells (j0 s k r.isNone) 127)) 0 rfl λH' hl hH'=> ?_⟩;obtain ⟨k',hk',e'⟩:=hH';have i1:=h1.2.2 _ _ e;have i2:=hl _ _ e';rw [i1] at i2;show H' br=_;rw [e',<- i2]
theorem St.mkQ {k:Nat} {bad:Bool} (h:St G F (pt br (.cells (j0 s k bad) 127)::As)) (hb:bad=r.isNone) (hk:k<=B.length) (hl:∀l,r=some l->B.drop k=l):St G F (rrS s B br r::As):=
 h.imp (A':=rrS s B br r) 0 rfl λH _ hH=>⟨k,⟨hk,hl⟩,by rw [<- hb];exact hH⟩
theorem Ly {x N i:Nat} (hx:x<256) (hi:i<9) (hN:N<2 ^ (7*i)):
  0<=u64.wrap (i64.wrap ((7:Int)*(i:Int)))/\i64.wrap ((N:Int)+i64.wrap (Int.tmod (i64.wrap (x:Int)) 128*2 ^ (min (Int.toNat (u64.wrap (i64.wrap ((7:Int)*(i:Int))))) (i64).bits)))=((N+x % 128*2 ^ (7*i):Nat):Int)/\N+x % 128*2 ^ (7*i)<2 ^ (7*(i+1)):=by
 have hp:2 ^ (7*(i+1))=128*2 ^ (7*i):=by rw [show 7*(i+1)=7*i+7 by omega,Nat.pow_add];omega
 have hle:2 ^ (7*(i+1))<=2 ^ 63:=X0 (by decide) (by omega);have hm:x % 128*2 ^ (7*i)<=127*2 ^ (7*i):=Yl _ (by omega);have h63:(2:Nat) ^ 63=9223372036854775808:=by decide
 have e7:u64.wrap (i64.wrap ((7:Int)*(i:Int)))=((7*i:Nat):Int):=by rw [aH (x:=(7:Int)*(i:Int)) (by omega) (by omega),jh (by omega) (by omega)];omega
 rw [e7,N5,show min (7*i) (i64).bits=7*i from by show min (7*i) 64=_;omega];rw [aH (x:=(x:Int)) (by omega) (by omega),show Int.tmod (x:Int) 128=((x % 128:Nat):Int) from fX x 128];rw [show ((x % 128:Nat):Int)*2 ^ (7*i)=((x % 128*2 ^ (7*i):Nat):Int) by norm_cast];generalize hy:x % 128*2 ^ (7*i)=y at*;rw [aH (x:=(y:Int)) (by omega) (by omega)];refine ⟨by omega,?_,by omega⟩;rw [aH (by omega) (by omega)];omega
theorem yz (K:Rd G s B) (h:St G F (rrS s B br r::As)):
  ae prog 57 #[rp br] F λres F'=>∃y r',res=vi y/\Res dI r y r'/\(0<=y/\y<9223372036854775808)/\St G F' (rrS s B br r'::As):=by
 obtain ⟨k,⟨hk,hl⟩,h⟩:=h.exQ;refine Xp ?_;unfold Uz;have j1:∀{F':PH} {k':Nat} {bad:Bool},k'<=B.length->(∀l,r=some l->ff l=none)->St G F' (pt br (.cells (j0 s k' bad) 127)::As)->
   sto F' (Addr.add (Addr.mk br 0 none) 2) (.bool true) λF''=>∃y r',vi 0=vi y/\Res dI r y r'/\(0<=y/\y<9223372036854775808)/\St G F'' (rrS s B br r'::As):=λ{F' k' bad} hk' hn h=>by
  rw [av];refine h.set0 (w':=j0 s k' true) (by simp) rfl λF2 h=>⟨0,none,rfl,?_,⟨by decide,by decide⟩,h.mkQ rfl hk' λ_ hc=>(by cases hc)⟩;cases r with
  |none=>rfl
  |some l=>unfold Res dI ft;simp only [hn l rfl]
 refine ⟨λm n q F'=>∃i k' N:Nat,i<=9/\m=9 - i/\n=(N:Int)/\q=(i:Int)/\k'<=B.length/\N<2 ^ (7*i)/\(∀l,r=some l->ff l=sh i N (dN (9 - i) (B.drop k')))/\St G F' (pt br (.cells (j0 s k' r.isNone) 127)::As),9,
  ⟨0,k,0,by omega,rfl,rfl,rfl,hk,by decide,λl hr=> ?_,h⟩,?_⟩
 ·rw [hl l hr];unfold sh ff;cases dN 9 l with
  |none=>rfl
  |some q=>simp
 rintro m n q F2 ⟨i,k',N,hi,rfl,rfl,rfl,hk',hN,hd,h⟩;unfold IE;refine ⟨λhi9=>⟨_,rfl,_,by rw [av];exact h.ld0 rfl,λhb=>⟨_,by rw [av];exact h.ld0 rfl,_,h.ld0 rfl,λhge=> ?_,λhlt=> ?_⟩,λhb=> ?_⟩,λhi9=> ?_⟩
 ·refine j1 hk' (λl hr=> ?_) h;rw [K.len] at hge;rw [hd l hr,show k'=B.length by omega,Ys,show 9 - i=8 - i+1 by omega];rfl
 ·have hi9:i<9:=by omega
  rw [K.len] at hlt;have hlt':k'<B.length:=by omega
  have hx:=N4 hlt';generalize B[k']=x at hx;have hx256:=K.b x (XG hx);have hdrop:B.drop k'=x::B.drop (k'+1):=bP hx;have hB:=K.l;obtain ⟨a1,p1,p2,p3,p4⟩:=(K.rd.le h.le).at1 (i:=k') (v:=vB x) (by rw [XM,hx];rfl);obtain ⟨l,rfl⟩:∃l,r=some l:=by cases r with|none=>cases hb|some l=>exact ⟨l,rfl⟩
  have hd:=hd l rfl;obtain ⟨o0,o1,o2⟩:=Ly hx256 hi9 hN;have hle:2 ^ (7*(i+1))<=2 ^ 63:=X0 (by decide) (by omega);have h63:(2:Nat) ^ 63=9223372036854775808:=by decide
  have oB:((N+x % 128*2 ^ (7*i):Nat):Int)<9223372036854775808:=by omega
  refine ⟨_,h.ld0 rfl,_,by rw [av];exact h.ld0 rfl,a1,p1,p2,p3,_,p4,_,by rw [av];exact h.ld0 rfl,?_⟩;dsimp only;rw [av,aE hlt' (by omega),o1,aH (x:=(x:Int)) (by omega) (by omega)];refine h.set0 (w':=j0 s (k'+1) false) (by simp) rfl λF3 h=>⟨o0,λhx128=> ?_,λhx128=> ?_⟩
  ·have hx':x<128:=by omega
   have j3:∀{F':PH} {bad:Bool},(bad=decide (x=0/\8 - i≠8))->St G F' (pt br (.cells (j0 s (k'+1) bad) 127)::As)->
     ∃y r',vi ((N+x % 128*2 ^ (7*i):Nat):Int)=vi y/\Res dI (some l) y r'/\(0<=y/\y<9223372036854775808)/\St G F' (rrS s B br r'::As):=λ{F' bad} hbad h=>by
    refine ⟨_,if x=0/\8 - i≠8 then none else some (B.drop (k'+1)),rfl,?_,⟨by omega,by omega⟩,h.mkQ ?_ (by omega) ?_⟩
    ·unfold Res dI ft;dsimp only;rw [hd,hdrop,show 9 - i=8 - i+1 by omega];unfold dN sh;rw [if_pos hx'];by_cases h0:x=0/\8 - i≠8
     ·rw [if_pos h0,if_pos h0];rfl
     ·rw [if_neg h0,if_neg h0];refine ⟨?_,rfl⟩;rw [show x % 128=x by omega,Nat.mul_comm x];rfl
    ·rw [hbad];by_cases h0:x=0/\8 - i≠8
     ·rw [if_pos h0,decide_eq_true h0];rfl
     ·rw [if_neg h0,decide_eq_false h0];rfl
    ·intro l' hl';by_cases h0:x=0/\8 - i≠8
     ·rw [if_pos h0] at hl';cases hl'
     ·rw [if_neg h0] at hl';cases hl';rfl
   refine ⟨λhx0=> ?_,λhx0=> ?_⟩
   ·rw [av];refine h.set0 (w':=j0 s (k'+1) (decide ((0:Int)<(i:Int)))) (by simp) rfl λF4 h=>j3 ?_ h;exact decide_eq_decide.2 ⟨λh=>⟨by omega,by omega⟩,λh=>by omega⟩
   ·rw [av];refine h.set0 (w':=j0 s (k'+1) false) (by simp) rfl λF4 h=>j3 ?_ h;exact (decide_eq_false λh=>hx0 (by omega)).symm
  ·have hx':¬x<128:=by omega
   refine ⟨9 - (i+1),by omega,i+1,k'+1,_,by omega,rfl,rfl,aE hi9 (by decide),by omega,o2,λl' hl'=> ?_,h⟩;cases hl';rw [hd,hdrop,show 9 - i=9 - (i+1)+1 by omega];rw [Jf hx'];unfold sh;cases dN (9 - (i+1)) (B.drop (k'+1)) with
   |none=>rfl
   |some q=>simp only [Yj];refine congrArg some (Prod.ext ?_ rfl);show N+2 ^ (7*i)*(x - 128+128*q.1)=N+x % 128*2 ^ (7*i)+2 ^ (7*(i+1))*q.1;rw [show x % 128=x - 128 by omega,show 2 ^ (7*(i+1))=2 ^ (7*i)*128 by rw [show 7*(i+1)=7*i+7 by omega,Nat.pow_add],Nat.mul_add,Nat.mul_comm (x - 128),Nat.mul_assoc,Y4]
 ·unfold v8;refine ⟨_,rfl,?_⟩;refine j1 hk' (λl hr=> ?_) h;rw [hr] at hb;cases hb
 ·unfold v8;refine ⟨_,rfl,?_⟩;refine j1 hk' (λl hr=> ?_) h;rw [hd l hr,show i=9 by omega];rfl
theorem ba (K:Rd G s B) (h:St G F (rrS s B br r::As)):
  ae prog 57 #[rp br] F λres F'=>∃y r',res=vi y/\Res dI r y r'/\St G F' (rrS s B br r'::As):=
 (yz K h).mono λ_ _ ⟨y,r',h1,h2,_,h3⟩=>⟨y,r',h1,h2,h3⟩
end
section
variable {G F:PH} {As:List (Ψ)} {s:Sl} {B:Δ} {br:Nat} {r:Option Δ}
theorem f7 (K:Rd G s B) (h:St G F (rrS s B br r::As)):
  ae prog 54 #[rp br] F λres F'=>∃(m:Nat) (r':Option Δ),res=vi m/\Res dC r m r'/\(r'=none->m=0)/\(∀l1,r'=some l1->m<=l1.length)/\St G F' (rrS s B br r'::As):=by
 have hs:=K.len;have hB:=K.l;have hdC:∀l,dC l=(ff l).bind λq=>if q.1<=q.2.length then some (q.1,q.2) else none:=λl=>by unfold dC;cases ff l<;>rfl
 refine Xm ?_;unfold Uw;refine (ba K h).mono ?_;rintro _ F2 ⟨y,r1,rfl,hr,h⟩;obtain ⟨k,⟨hk,hl⟩,h⟩:=h.exQ;obtain ⟨n,hn,hy⟩:=hr.num;have j1t:∀{F':PH} {bad:Bool},(∀l1,r1=some l1->¬n<=l1.length)->St G F' (pt br (.cells (j0 s k bad) 127)::As)->
   rS (some (Addr.mk br 0 none)) y true (λres F'=>∃(m:Nat) (r':Option Δ),res=vi m/\Res dC r m r'/\(r'=none->m=0)/\(∀l1,r'=some l1->m<=l1.length)/\St G F' (rrS s B br r'::As)) F':=λ{F' bad} hno h=>by
  unfold rS;refine ⟨λ_=>⟨_,rfl,?_⟩,λhc=>(by cases hc)⟩;rw [av];refine h.set0 (w':=j0 s k true) (by simp) rfl λF3 h=>⟨0,none,rfl,?_,λ_=>rfl,λ_ hc=>(by cases hc),h.mkQ (r:=none) rfl hk λ_ hc=>(by cases hc)⟩;exact hn.then (λn l=>if n<=l.length then some (n,l) else none) hdC (λ_=>rfl) λl1 e=>by rw [if_neg (hno l1 e)]
 refine ⟨_,rfl,_,rfl,_,by rw [av];exact h.ld0 rfl,λhb=> ?_,λhb=> ?_⟩
 ·exact j1t (λl1 e=>by rw [e] at hb;cases hb) h
 ·obtain ⟨l1,rfl⟩:∃l1,r1=some l1:=by cases r1 with|none=>cases hb|some l=>exact ⟨l,rfl⟩
  have e1:=hl l1 rfl;have hy:=hy (λhc=>(by cases hc));subst hy;have hlen:l1.length=B.length - k:=by rw [<- e1,Yp]
  refine ⟨_,h.ld0 rfl,_,by rw [av];exact h.ld0 rfl,?_⟩;dsimp only;rw [hs,aH (by omega) (by omega)];by_cases hle:n<=l1.length
  ·rw [decide_eq_false (by omega)];unfold rS;refine ⟨λhc=>(by cases hc),λ_=>⟨n,some l1,rfl,?_,λhc=>(by cases hc),λ_ e=>by cases e;exact hle,h.mkQ rfl hk hl⟩⟩;exact hn.then (λn l=>if n<=l.length then some (n,l) else none) hdC (λhc=>(by cases hc)) λl' e=>by cases e;rw [if_pos hle];exact ⟨rfl,rfl⟩
  ·rw [decide_eq_true (by omega)];exact j1t (λl' e=>by cases e;exact hle) h
theorem yA (K:Rd G s B) (h:St G F (rrS s B br r::As)):
  ae prog 143 #[rp br] F λres F'=>∃y r',res=.string y/\Res dS r y r'/\St G F' (rrS s B br r'::As):=by
 have hs:=K.len;have hB:=K.l;refine U2 ?_;unfold NW;refine (f7 K h).mono ?_;rintro _ F2 ⟨m,r1,rfl,hr,hm,hm2,h⟩;obtain ⟨k,⟨hk,hl⟩,h⟩:=h.exQ;have hkm:k+m<=B.length:=by
  cases r1 with
  |none=>rw [hm rfl];omega
  |some l1=>have h1:=hm2 l1 rfl;rw [<- hl l1 rfl,Yp] at h1;omega
 have hcut:=(K.rd.le h.le).cut (l:=k) (r:=k+m) (m:=s.cap) (by omega) (by omega) (by have:=K.rd.cap;omega);rw [XS,XS,show k+m - k=m by omega,<- List.map_drop,<- List.map_take] at hcut;have hcap:=K.rd.cap;refine ⟨_,rfl,_,rfl,_,h.ld0 rfl,_,by rw [av];exact h.ld0 rfl,_,by rw [av];exact h.ld0 rfl,?_⟩;have ew:i64.wrap ((k:Int)+(m:Int))=((k+m:Nat):Int):=by rw [aH (by omega) (by omega)];omega
 dsimp only;rw [ew,N5,N5];refine ⟨by omega,by omega,by omega,by omega,_,g0 hcut,_,by rw [av];exact h.ld0 rfl,?_⟩;dsimp only;rw [av,ew];refine h.set0 (w':=j0 s (k+m) r1.isNone) (by simp) rfl λF4 h=>⟨EI ((B.drop k).take m),r1.map (List.drop m),rfl,?_,h.mkQ (by cases r1<;>rfl) (by omega) ?_⟩
 ·cases r with
  |none=>have hr:r1=none:=hr;rw [hr];rfl
  |some l=>
   unfold Res dS at*;dsimp only at*;cases h1:dC l with
   |none=>rw [h1] at hr;dsimp only at hr ⊢;rw [hr];rfl
   |some q=>obtain ⟨n,l1⟩:=q;rw [h1] at hr;obtain ⟨rfl,rfl⟩:=hr;dsimp only;rw [hl l1 rfl];exact ⟨rfl,rfl⟩
 ·intro l' hl';cases r1 with
  |none=>cases hl'
  |some l1=>cases hl';rw [<- hl l1 rfl,List.drop_drop]
theorem Jg (K:Rd G s B) (h:St G F (rrS s B br r::As)):
  ae prog 144 #[rp br] F λres F'=>∃y r',res=.bool y/\Res dB r y r'/\St G F' (rrS s B br r'::As):=by
 have hdB:∀l,dB l=(ff l).bind λq=>if q.1<=1 then some (decide (q.1=1),q.2) else none:=λl=>by unfold dB;cases ff l<;>rfl
 refine U3 ?_;unfold NX;refine (ba K h).mono ?_;rintro _ F2 ⟨y,r1,rfl,hr,h⟩;obtain ⟨k,⟨hk,hl⟩,h⟩:=h.exQ;obtain ⟨n,hn,hy⟩:=hr.num;refine ⟨_,rfl,_,rfl,_,by rw [av];exact h.ld0 rfl,λhb=> ?_,λhb=> ?_⟩
 ·have h1:r1=none:=by cases r1 with|none=>rfl|some l=>cases hb
  rw [av];refine h.set0 (w':=j0 s k true) (by simp) rfl λF3 h=> ?_;unfold pI;refine ⟨_,none,rfl,?_,h.mkQ (r:=none) rfl hk λ_ hc=>(by cases hc)⟩;exact hn.then (λn l=>if n<=1 then some (decide (n=1),l) else none) hdB (λ_=>rfl) λl1 e=>by rw [h1] at e;cases e
 ·obtain ⟨l1,rfl⟩:∃l1,r1=some l1:=by cases r1 with|none=>cases hb|some l=>exact ⟨l,rfl⟩
  have hy:=hy (λhc=>(by cases hc));subst hy;rw [av];refine h.set0 (w':=j0 s k (decide ((1:Int)<(n:Int)))) (by simp) rfl λF3 h=> ?_;unfold pI;refine ⟨_,if n<=1 then some l1 else none,rfl,?_,h.mkQ ?_ hk ?_⟩
  ·refine hn.then (λn l=>if n<=1 then some (decide (n=1),l) else none) hdB (λhc=>(by cases hc)) λl' e=> ?_;cases e;by_cases hn1:n<=1
   ·rw [if_pos hn1,if_pos hn1];exact ⟨decide_eq_decide.2 (by omega),rfl⟩
   ·rw [if_neg hn1,if_neg hn1]
  ·by_cases hn1:n<=1
   ·rw [if_pos hn1,decide_eq_false (by omega)];rfl
   ·rw [if_neg hn1,decide_eq_true (by omega)];rfl
  ·intro l' hl';by_cases hn1:n<=1
   ·rw [if_pos hn1] at hl';exact hl l' hl'
   ·rw [if_neg hn1] at hl';cases hl'
end
def Rk {α:Type} (d:Ps α) (r1:Option Δ) (m:Nat) (xs:List α) (k:Nat) (ri:Option Δ):Prop:=
 (r1=none->ri=none)/\∀l1,r1=some l1->dk d m l1=Option.bind ri λli=>(dk d k li).map λq=>(xs++q.1,q.2)
section
variable {α:Type} {d:Ps α} {r r1 ri:Option Δ} {m k:Nat} {xs:List α}
theorem Rk.start:Rk d r1 m [] m r1:=⟨id,λl1 e=>by rw [e];simp⟩
theorem Rk.step {li:Δ} {y:α} {r2:Option Δ} (h:Rk d r1 m xs (k+1) (some li)) (hres:Res d (some li) y r2):Rk d r1 m (xs++[y]) k r2:=by
 refine ⟨λe=>(by have:=h.1 e;cases this),λl1 e=> ?_⟩;rw [h.2 l1 e];simp only [YW];rw [om];unfold Res at hres;dsimp only at hres;cases h1:d li with
 |none=>rw [h1] at hres;rw [show r2=none from hres];rfl
 |some q=>
  obtain ⟨x,l'⟩:=q;rw [h1] at hres;obtain ⟨rfl,rfl⟩:=hres;simp only [YW];cases dk d k l' with
  |none=>rfl
  |some p=>simp
theorem Rk.fin (hr:Res dC r m r1) (h:Rk d r1 m xs k ri) (hc:k=0\/ri=none):Res (dL d) r xs ri:=by
 cases r with
 |none=>exact h.1 hr
 |some l=>
  unfold Res dL at*;dsimp only at*;cases h1:dC l with
  |none=>rw [h1] at hr;exact h.1 hr
  |some q=>
   obtain ⟨m',l1'⟩:=q;rw [h1] at hr;obtain ⟨rfl,e1⟩:=hr;dsimp only;rw [h.2 l1' e1];cases hri:ri with
   |none=>rfl
   |some li=>
    rcases hc with rfl|hc
    ·simp [dk]
    ·rw [hri] at hc;cases hc
end
section
variable {G F:PH} {As:List (Ψ)} {s:Sl} {B:Δ} {br:Nat} {r:Option Δ}
theorem St.rbad (h:St G F (rrS s B br r::As)):F.cell (Addr.mk br 2 none)=some (.bool r.isNone):=by obtain ⟨k,_,h⟩:=h.exQ;exact h.ld0 rfl
theorem fj (K:Rd G s B) (h:St G F (rrS s B br r::As)) {m:Nat} (hm:r=none->m=0) (hm2:∀l1,r=some l1->m<=l1.length):m<=100000000000:=by
 have hB:=K.l;cases r with
 |none=>rw [hm rfl];omega
 |some l1=>obtain ⟨k',⟨hk',hl⟩,_⟩:=h.exQ;have h1:=hm2 l1 rfl;rw [<- hl l1 rfl,Yp] at h1;omega
theorem dW {k:Nat} (h:0<k) (hk:k<=100000000000):i64.wrap ((k:Int) - 1)=((k - 1:Nat):Int):=by rw [aH (by omega) (by omega)];omega
theorem Jh (K:Rd G s B) (h:St G F (rrS s B br r::As)):
  ae prog 52 #[rp br] F λres F'=>∃(sl:Sl) (ys:List ByteArray) (r':Option Δ) (G':PH),res=Sl.v sl/\Res (dL dS) r ys r'/\G.le G'/\RL G' sl ys/\St G' F' (rrS s B br r'::As):=by
 refine Xk ?_;unfold Uu;refine h.new λb5 F1 h=> ?_;have h:=h.imp (A':=own (Sl.mk (some (Addr.mk b5 0 none)) 0 0) 9 1 []) 0 rfl λH _ hH=>cD hH;refine (f7 K h.swap).mono ?_;rintro _ F2 ⟨m,r1,rfl,hr,hm,hm2,h⟩;have hmB:=fj K h hm hm2;refine ⟨_,rfl,?_⟩;refine ⟨λmm sl i F'=>∃(k:Nat) (G':PH) (xs:List ByteArray) (ri:Option Δ),i=(k:Int)/\mm=k/\k<=m/\G.le G'/\xs.length+k=m/\Rk dS r1 m xs k ri/\St G' F' (rrS s B br ri::own sl 9 1 (xs.map Value.string)::As),m,⟨m,G,[],r1,rfl,rfl,XA _,am _,by simp,Rk.start,h⟩,?_⟩;rintro mm sl i F3 ⟨k,G1,xs,ri,rfl,hmm,hk,l1,hx,hR,h⟩;have fin:(k=0\/ri=none)->vX sl (λres F'=>∃(sl:Sl) (ys:List ByteArray) (r':Option Δ) (G':PH),res=Sl.v sl/\Res (dL dS) r ys r'/\G.le G'/\RL G' sl ys/\St G' F' (rrS s B br r'::As)) F3:=λhc=>by unfold vX;obtain ⟨G2,l2,hd,h2⟩:=h.swap.pinO;exact ⟨sl,xs,ri,G2,rfl,hR.fin hr hc,aa l1 l2,RL.strs.2 hd,h2⟩
 unfold Iz;refine ⟨λhp=>⟨_,rfl,_,by rw [av];exact h.rbad,λhb=> ?_,λhb=>fin (.inr (by cases ri with|none=>rfl|some l=>cases hb))⟩,λhn=>fin (.inl (by omega))⟩;obtain ⟨li,rfl⟩:∃li,ri=some li:=by cases ri with|none=>cases hb|some l=>exact ⟨l,rfl⟩
 obtain ⟨k,rfl⟩:∃k',k=k'+1:=⟨k - 1,by omega⟩;refine (yA (K.le l1) h).mono ?_;rintro _ F4 ⟨y,r2,rfl,hres,h⟩;refine ⟨_,rfl,?_⟩;have hsl:sl.len=xs.length:=by have:=(bj.rd (h.swap.ownAt (i:=0) rfl).1).len;rw [XH,XS] at this;exact this.symm
 refine h.swap.push0 FE (c:= #[.string y]) rfl (by simp [ai]) (by omega) λs' G2 F5 l2 h hl'=> ?_;rw [dW (by omega) (by omega),Yf];exact ⟨k,by omega,k,G2,xs++[y],r2,rfl,rfl,by omega,aa l1 l2,by rw [N3,XJ];omega,hR.step hres,by rw [XP];exact h.swap⟩
theorem Oo (K:Rd G s B) (h:St G F (rrS s B br r::As)):
  ae prog 58 #[rp br] F λres F'=>∃(sl:Sl) (ys:Φ) (r':Option Δ) (G':PH),res=Sl.v sl/\Res (dL dI) r ys r'/\G.le G'/\RL G' sl ys/\St G' F' (rrS s B br r'::As):=by
 refine Xq ?_;unfold UA;refine h.new λb5 F1 h=> ?_;have h:=h.imp (A':=own (Sl.mk (some (Addr.mk b5 0 none)) 0 0) 3 1 []) 0 rfl λH _ hH=>cD hH;refine (f7 K h.swap).mono ?_;rintro _ F2 ⟨m,r1,rfl,hr,hm,hm2,h⟩;have hmB:=fj K h hm hm2;refine ⟨_,rfl,?_⟩;refine ⟨λmm sl i F'=>∃(k:Nat) (G':PH) (xs:Φ) (ri:Option Δ),i=(k:Int)/\mm=k/\k<=m/\G.le G'/\xs.length+k=m/\Rk dI r1 m xs k ri/\St G' F' (rrS s B br ri::own sl 3 1 (xs.map vi)::As),m,⟨m,G,[],r1,rfl,rfl,XA _,am _,by simp,Rk.start,h⟩,?_⟩;rintro mm sl i F3 ⟨k,G1,xs,ri,rfl,hmm,hk,l1,hx,hR,h⟩;have fin:(k=0\/ri=none)->v9 sl (λres F'=>∃(sl:Sl) (ys:Φ) (r':Option Δ) (G':PH),res=Sl.v sl/\Res (dL dI) r ys r'/\G.le G'/\RL G' sl ys/\St G' F' (rrS s B br r'::As)) F3:=λhc=>by unfold v9;obtain ⟨G2,l2,hd,h2⟩:=h.swap.pinO;exact ⟨sl,xs,ri,G2,rfl,hR.fin hr hc,aa l1 l2,RL.ints.2 hd,h2⟩
 unfold IF;refine ⟨λhp=>⟨_,rfl,_,by rw [av];exact h.rbad,λhb=> ?_,λhb=>fin (.inr (by cases ri with|none=>rfl|some l=>cases hb))⟩,λhn=>fin (.inl (by omega))⟩;obtain ⟨li,rfl⟩:∃li,ri=some li:=by cases ri with|none=>cases hb|some l=>exact ⟨l,rfl⟩
 obtain ⟨k,rfl⟩:∃k',k=k'+1:=⟨k - 1,by omega⟩;refine (ba (K.le l1) h).mono ?_;rintro _ F4 ⟨y,r2,rfl,hres,h⟩;refine ⟨_,rfl,?_⟩;have hsl:sl.len=xs.length:=by have:=(bj.rd (h.swap.ownAt (i:=0) rfl).1).len;rw [XH,XS] at this;exact this.symm
 refine h.swap.push0 xh (c:= #[vi y]) rfl (by simp [ai]) (by omega) λs' G2 F5 l2 h hl'=> ?_;rw [dW (by omega) (by omega),Yf];exact ⟨k,by omega,k,G2,xs++[y],r2,rfl,rfl,by omega,aa l1 l2,by rw [N3,XJ];omega,hR.step hres,by rw [XP];exact h.swap⟩
end
end Go.Proofs.YtenpmjhnhepfdaaGreatDoor
