/-
  The diagrams: an operation on three diagrams: the walk.
-/
import Derived.Test.YtcemhghkipgdiaaGreatDoorEd
import Derived.Test.YtcemhghkipgdiaaGreatDoorGdiagram
namespace Go.Proofs.YtcemhghkipgdiaaGreatDoor
open Go Go.Proofs.Tryz Tr
set_option maxRecDepth 10000
def nF (F:PH) (a b:Nat):PH:=λx=>if x=a\/x=b then none else F x
theorem IN (F:PH) (a b:Nat):(nF F a b).le F:=λx o h=>by
 unfold nF at h;split at h
 ·cases h
 ·exact h
theorem mj {F:PH} {a b x:Nat} (h1:x≠a) (h2:x≠b):nF F a b x=F x:=by simp [nF,h1,h2]
theorem M4 (F:PH) (a b:Nat):nF F a b a=none:=by simp [nF]
theorem M5 (F:PH) (a b:Nat):nF F a b b=none:=by simp [nF]
theorem IP {F G:PH} {a b:Nat} (h:F.le G) (ha:F a=none) (hb:F b=none):F.le (nF G a b):=λx o hx=>by
 have h1:x≠a:=λe=>by rw [e,ha] at hx;cases hx
 have h2:x≠b:=λe=>by rw [e,hb] at hx;cases hx
 rw [mj h1 h2];exact h _ _ hx
theorem PH.le.trans {F G H:PH} (h:F.le G) (k:G.le H):F.le H:=λb o hx=>k _ _ (h _ _ hx)
section
variable {F:PH} {b:Nat} {ns:Sl} {S0:List Tr} {t:Tr}
theorem iE (hb:F.cell ⟨b,0,none⟩=some ns.v) (hr:RdS F ns 3 (aY (brs S0))) (h0:Cl S0) (ht:inn S0 t) (hf:Fit (S0.length+4)):
  ai prog 159 #[.pointer (some ⟨b,0,none⟩),vi (num S0 t)] F λr F'=>∃v,r=.agg v/\DV F' v (dia t)/\F.le F':=by
 have hok:=h0.inn_ok ht;refine Pa ?_;unfold Kc;intro b2 hb2;refine atI ?_;have l2:=ae (.cells #[Value.pointer (some ⟨b,0,none⟩)] 196) hb2;have h2:=al F b2 (.cells #[Value.pointer (some ⟨b,0,none⟩)] 196);generalize F.set b2 (.cells #[Value.pointer (some ⟨b,0,none⟩)] 196)=F2 at*;intro b4 hb4;refine atI ?_;have l4:=ae (.cells zD 31) hb4;have h4:=al F2 b4 (.cells zD 31);replace h2:=l4 _ _ h2;have f4:F b4=none:=aT l2 hb4;replace l4:=l2.trans l4;generalize F2.set b4 (.cells zD 31)=F4 at*;intro b5 hb5;refine atI ?_;have n25:b2≠b5:=aJ hb5 h2;have n45:b4≠b5:=aJ hb5 h4;refine stW (al _ _ _) rfl rfl (λx hx=> ?_) ?_
 ·simp only [UT,V2,or_false] at hx;rcases hx with rfl|rfl
  ·exact Et (x:=Sl.nil)
  ·exact kG
 rw [bh];have l5:=ae (.cells zD 31) hb5;have h5:=al F4 b5 (.cells zD 31);replace h2:=l5 _ _ h2;replace h4:=l5 _ _ h4;have f5:F b5=none:=aT l4 hb5;replace l5:=l4.trans l5;generalize F4.set b5 (.cells zD 31)=F5 at*;intro b9 hb9;refine atI ?_;have f9:F b9=none:=aT l5 hb9;have n92:b2≠b9:=aJ hb9 h2;have n94:b4≠b9:=aJ hb9 h4;have n95:b5≠b9:=aJ hb9 h5;refine aX mtN (al _ _ _) (eH.empty aM) 0 (vi 0) λo1 ho1=> ?_;rw [bh];refine aX mtN (al _ _ _) ho1 1 (vi 1) λo2 ho2=> ?_;rw [bh];have hn:nmS S0 []=(λk'=>if k'=1 then some (vi 1) else if k'=0 then some (vi 0) else none):=IE h0;rw [<- hn] at ho2;have l9:F.le (F5.set b9 o2):=l5.trans (ae o2 hb9);have h9:=al F5 b9 o2;replace h2:=ae o2 hb9 _ _ h2;replace h4:=ae o2 hb9 _ _ h4;replace h5:=ae o2 hb9 _ _ h5;generalize F5.set b9 o2=F9 at*;intro b6 hb6;refine atI ?_;refine st1 (al _ _ _) (by simp) ?_;rw [bh,show (#[Value.map none].setIfInBounds 0 (Value.map (some b9)):Γ)= #[Value.map (some b9)] from rfl];have n65:b6≠b5:=(aJ hb6 h5).symm;have n69:b6≠b9:=(aJ hb6 h9).symm;have hx:=ae (.cells #[Value.map (some b9)] 238) hb6;have h6:=al F9 b6 (.cells #[Value.map (some b9)] 238);have l6:F.le (F9.set b6 (.cells #[Value.map (some b9)] 238)):=l9.trans hx;replace h2:=hx _ _ h2;replace h4:=hx _ _ h4;replace h5:=hx _ _ h5;replace h9:=hx _ _ h9;clear hx;generalize F9.set b6 (.cells #[Value.map (some b9)] 238)=F6 at*;intro b7 hb7;refine atI ?_;refine st1 (al _ _ _) (by simp) ?_;rw [bh];generalize hfv:(Value.func (.func 190) #[] #[(Value.pointer (some (Addr.mk b6 0 none))),(Value.pointer (some (Addr.mk b2 0 none))),(Value.pointer (some (Addr.mk b7 0 none))),(Value.pointer (some (Addr.mk b5 0 none)))])=fv;rw [show (#[Value.nilFunc].setIfInBounds (Addr.mk b7 0 none).off fv:Γ)= #[fv] from rfl];have n75:b7≠b5:=(aJ hb7 h5).symm;have n79:b7≠b9:=(aJ hb7 h9).symm;have hx:=ae (.cells #[fv] 225) hb7;have h7:=al F6 b7 (.cells #[fv] 225);have l7:F.le (F6.set b7 (.cells #[fv] 225)):=l6.trans hx;replace h2:=hx _ _ h2;replace h4:=hx _ _ h4;replace h5:=hx _ _ h5;replace h9:=hx _ _ h9;replace h6:=hx _ _ h6;clear hx;generalize F6.set b7 (.cells #[fv] 225)=F7 at*;have lF:F.le (nF F7 b5 b9):=IP l7 f5 f9;have g4:(nF F7 b5 b9) b4=_:=(mj n45 n94).trans h4;have he:VE (nF F7 b5 b9) b6 b2 b7 b5 b9 b ns S0:=by
  refine ⟨?_,?_,?_,aH lF hb,hr.le lF⟩
  ·rw [am ((mj n65 n69).trans h6)];rfl
  ·rw [am ((mj n25 n92).trans h2)];rfl
  ·rw [am ((mj n75 n79).trans h7),<- hfv];rfl
 have hs:VS (nF F7 b5 b9) F7 b5 b9 S0 []:=by refine ⟨IN _ _ _,.nil,λx hx=>(by cases hx),M4 _ _ _,M5 _ _ _,⟨Sl.nil,h5,.inl ⟨rfl,rfl⟩,λa ha=>by cases ha⟩,o2,h9,ho2⟩
 refine ⟨_,by rw [am h7];rfl,_,_,_,hfv.symm,Fj,?_⟩;refine (zd h0 hf t ht _ _ _ he hs).mono ?_;rintro _ G ⟨rfl,hs'⟩;refine ⟨_,rfl,?_⟩;obtain ⟨gle,gcl,_,_,_,⟨s,g5,go,gs⟩,_⟩:=hs';have ev:vis t []=aL t:=rfl;rw [ev] at*;refine st1 g5 (by simp) ?_;rw [show (#[s.v,vi 0].setIfInBounds 1 (vi (num (aL t) t)):Γ)= #[s.v,vi (num (aL t) t)] from rfl];refine ⟨#[s.v,vi (num (aL t) t)],rfl,ac (al _ _ _),?_⟩;have k4:(G.set b5 (.cells #[s.v,vi (num (aL t) t)] 31)) b4=some (.cells zD 31):=by rw [av _ _ n45];exact gle _ _ g4
 refine stW k4 rfl rfl (λx hx=> ?_) ?_
 ·simp only [UT,V2,or_false] at hx;rcases hx with rfl|rfl
  ·exact Et
  ·exact kG
 refine ⟨#[s.v,vi (num (aL t) t)],rfl,ac (al _ _ _),_,rfl,⟨s,rfl,?_⟩,?_⟩
 ·have hsb:∀a,s.base=some a->a.block≠b5/\a.block≠b4:=λa ha=>by
   obtain ⟨cur,hcur⟩:=go.elem ha;refine ⟨λe=> ?_,λe=> ?_⟩
   ·rw [e,g5] at hcur;cases hcur
   ·rw [e,gle _ _ g4] at hcur;cases hcur
  exact (go.keep λa ha=>by rw [av _ _ (hsb a ha).2,av _ _ (hsb a ha).1]).rd
 ·exact aw (aw (lF.trans gle) f5) f4
end
def iU (d:Dia):Prop:=∃t:Tr,t.ok/\d=dia t
open Classical in
noncomputable def chk (d:Dia):Int:=if 4096<d.1.length then 2 else if iU d then 0 else 20
def xO (S:List Tr) (b:Br):Prop:=∃(v:Nat) (l h:Tr),b=⟨(v:Int),(num S l:Int),(num S h:Int)⟩/\inn S l/\inn S h/\(node v l h).ok/\node v l h ∉ S
theorem zw {T:List Tr} (hT:Cl T):∀k,k<T.length->Cl (T.take k)/\∃v l h,T[k]? =some (node v l h)/\inn (T.take k) l/\inn (T.take k) h/\(node v l h).ok/\node v l h ∉ T.take k:=by
 induction hT with
 |nil=>intro k hk;simp at hk
 | @snoc S v l h hS hl hh hok hn ih=>
  intro k hk;by_cases hks:k<S.length
  ·obtain ⟨h1,v',l',h',h2,h3,h4,h5,h6⟩:=ih k hks;rw [Vg (by omega)];exact ⟨h1,v',l',h',by rw [U9 hks];exact h2,h3,h4,h5,h6⟩
  ·have e:k=S.length:=by simp at hk;omega
   subst e;rw [List.take_left' rfl];exact ⟨hS,v,l,h,by simp,hl,hh,hok,hn⟩
theorem ml {T:List Tr} {k:Nat} {t:Tr} (h:inn (T.take k) t):num T t=num (T.take k) t:=by have:=bN (X:=T.drop k) h;rw [Wb] at this;exact this
theorem FV {T:List Tr} (hT:Cl T) (k:Nat):brs (T.take k)=(brs T).take k:=by
 by_cases hk:k<T.length
 ·have h:=qT (X:=T.drop k) (zw hT k hk).1;rw [Wb] at h;rw [h,List.take_left' (by rw [aO,Vb];omega)]
 ·rw [UZ (by omega),UZ (by rw [aO];omega)]
theorem vD {S0:List Tr} (h0:Cl S0):∀(t:Tr) (S:List Tr),inn S0 t->(∀x∈S,x∈S0)->∀x∈vis t S,x∈S0
 |leaf _,_,_,hs=>hs
 |node v l h,S,ht,hs=>by
  obtain ⟨hl,hh⟩:=h0.inn_kids ht;unfold vis;split
  ·exact hs
  ·intro x hx;rcases UX.1 hx with hx|hx
   ·exact vD h0 h _ hh (vD h0 l S hl hs) x hx
   ·rw [UU.1 hx];exact cx ht rfl
theorem IQ {S0:List Tr} (h0:Cl S0) {t:Tr} (ht:inn S0 t):(aL t).length<=S0.length:=
 cY _ _ (bv (h0.inn_ok ht)).nodup (vD h0 t [] ht (λx hx=>by cases hx))
theorem kq {d:Dia} (hv:iU d) {S:List Tr} (hS:Cl S) {k:Nat} (hk:S.length=k) (hkd:k<d.1.length) (hb:brs S=d.1.take k):xO S d.1[k]:=by
 obtain ⟨t,ht,rfl⟩:=hv;have hT:=bv ht;have hl:k<(aL t).length:=by simpa [dia,aO] using hkd
 obtain ⟨h1,v,l,h,h2,h3,h4,h5,h6⟩:=zw hT k hl;have e:S=(aL t).take k:=po hS h1 (by rw [hb,FV hT];rfl);subst e;refine ⟨v,l,h,?_,h3,h4,h5,h6⟩;have hg:=jM h2;have e2:(brs (aL t))[k]? =some (dia t).1[k]:=N5 (by simpa [dia] using hkd);rw [e2] at hg;rw [Vl hg];simp only [br];rw [ml h3,ml h4]
theorem cv {S:List Tr} (hS:Cl S) {b:Br} (h:xO S b):0<=b.v/\b.v<=63/\0<=b.l/\0<=b.h/\b.l<=S.length+1/\b.h<=S.length+1/\b.l≠b.h/\b ∉ brs S/\
  b.v<(tr S b.l.toNat).top/\b.v<(tr S b.h.toNat).top:=by
 obtain ⟨v,l,h,rfl,hl,hh,⟨o1,o2,o3,o4,o5,o6⟩,hn⟩:=h;have h1:=dt hl;have h2:=dt hh;refine ⟨by simp,by simp only;omega,by simp,by simp,by simp only;omega,by simp only;omega,λe=>o4 (cJ hl hh (by simp only at e;omega)),λhm=>hn ((iC hS hl hh).1 hm),?_,?_⟩
 ·simp only [N4,gE hS hl];omega
 ·simp only [N4,gE hS hh];omega
theorem BP {S:List Tr} (hS:Cl S) {b:Br} (h1:0<=b.v) (h2:b.v<=63) (h3:0<=b.l) (h4:0<=b.h) (h5:b.l<=S.length+1) (h6:b.h<=S.length+1) (h7:b.l≠b.h) (h8:b ∉ brs S)
  (h9:b.v<(tr S b.l.toNat).top) (h10:b.v<(tr S b.h.toNat).top):xO S b:=by
 have il:inn S (tr S b.l.toNat):=gD (by omega);have ih:inn S (tr S b.h.toNat):=gD (by omega);have nl:=f7 hS (n:=b.l.toNat) (by omega);have nh:=f7 hS (n:=b.h.toNat) (by omega);have e:b=⟨((b.v.toNat:Nat):Int),((num S (tr S b.l.toNat):Nat):Int),((num S (tr S b.h.toNat):Nat):Int)⟩:=by rw [nl,nh];obtain ⟨x,y,z⟩:=b;simp only [Br.mk.injEq];simp only at*;omega
 refine ⟨b.v.toNat,_,_,e,il,ih,⟨by omega,by omega,by omega,λhe=> ?_,hS.inn_ok il,hS.inn_ok ih⟩,λhm=>h8 ?_⟩
 ·rw [he] at nl;omega
 ·rw [e];exact (iC hS il ih).2 hm
def kmS (S:List Tr) (x:Br):Option Value:=if x∈brs S then some (.bool true) else none
theorem FW {S:List Tr} {b:Br} {S':List Tr} (h:brs S'=brs S++[b]):kmS S'=λx=>if x=b then some (.bool true) else kmS S x:=by funext x;unfold kmS;rw [h];by_cases hx:x=b<;>by_cases hm:x∈brs S<;>simp [hx,hm]
section
variable {F:PH} {v:Γ} {d:Dia}
theorem iF (hd:DV F v d):ai prog 100 #[.agg v] F λr F'=>r=vi (chk d)/\F.le F':=by
 have hd':=hd;obtain ⟨s,rfl,hr⟩:=hd;have hlen:=hr.blen;refine O3 ?_;unfold J5;intro b1 hb1;refine atI ?_;have l1:=ae (.cells #[s.v,vi d.2] 31) hb1;have h1:=al F b1 (.cells #[s.v,vi d.2] 31);generalize F.set b1 (.cells #[s.v,vi d.2] 31)=G at*;refine ⟨s,by rw [am h1];rfl,λhbig=> ?_,λhbig=> ?_⟩
 ·refine ⟨?_,l1⟩;unfold chk;rw [if_pos (by omega)]
 have hsm:d.1.length<=4096:=by omega
 intro b11 hb11;refine atI ?_;refine ⟨s,by rw [am (ae _ hb11 _ _ h1)];rfl,?_⟩;have fin:∀{F':PH},G.le F'->¬iU d->(vi 20=vi (chk d)/\F.le F'):=λ{F'} hl hn=>by refine ⟨?_,l1.trans hl⟩;unfold chk;rw [if_neg (by omega),if_neg hn]
 refine ⟨λm i F'=>∃(k:Nat) (S:List Tr),i=k/\k<=d.1.length/\m=d.1.length - k/\Cl S/\S.length=k/\brs S=d.1.take k/\G.le F'/\∃o,F' b11=some o/\eH za (kmS S) o,d.1.length,
  ⟨0,[],rfl,by omega,rfl,.nil,rfl,rfl,ae _ hb11,_,al _ _ _,eH.empty za⟩,?_⟩
 rintro m i F1 ⟨k,S,rfl,hk,rfl,hS,hSk,hSb,hle,o,hm,hmo⟩;unfold Bl;refine ⟨λhlt=> ?_,λhge=> ?_⟩
 ·have hkd:k<d.1.length:=by omega
  obtain ⟨a,ha,hrow,_⟩:=rdb (hr.le (l1.trans hle)) (N5 hkd);have hbad:¬xO S d.1[k]->¬iU d:=λhn hv=>hn (kq hv hS hSk hkd hSb);have hfits:=cv hS (b:=d.1[k]);have hof:=BP hS (b:=d.1[k]);refine ⟨a,ha,by omega,hlt,aV d.1[k],rfl,by simpa using hrow,?_⟩;generalize hB:d.1[k]=B at*;intro b5 hb5;refine atI ?_;refine stW (al _ _ _) rfl rfl (iA _) ?_;rw [bh];have l5:=ae (.cells (aV B) 124) hb5;have h5:=al F1 b5 (.cells (aV B) 124);replace hm:=l5 _ _ hm;replace hle:=hle.trans l5;generalize F1.set b5 (.cells (aV B) 124)=F2 at*;have c0:F2.cell ⟨b5,0,none⟩=some (vi B.v):=by rw [am h5];rfl
  have c1:F2.cell ⟨b5,1,none⟩=some (vi B.l):=by rw [am h5];rfl
  have c2:F2.cell ⟨b5,2,none⟩=some (vi B.h):=by rw [am h5];rfl
  refine ⟨_,c0,λh=>fin hle (hbad λhf=> ?_),λg1=> ?_⟩
  ·have:=(hfits hf).1;omega
  refine ⟨_,c0,λh=>fin hle (hbad λhf=> ?_),λg2=> ?_⟩
  ·have:=(hfits hf).2.1;omega
  refine ⟨_,c1,λh=>fin hle (hbad λhf=> ?_),λg3=> ?_⟩
  ·have:=(hfits hf).2.2.1;omega
  refine ⟨_,c2,λh=>fin hle (hbad λhf=> ?_),λg4=> ?_⟩
  ·have:=(hfits hf).2.2.2.1;omega
  have hw:IntKind.i64.wrap ((k:Int)+1)=((k+1:Nat):Int):=i6 (by omega);rw [hw];refine ⟨_,c1,λh=>fin hle (hbad λhf=> ?_),λg5=> ?_⟩
  ·have:=(hfits hf).2.2.2.2.1;omega
  refine ⟨_,c2,λh=>fin hle (hbad λhf=> ?_),λg6=> ?_⟩
  ·have:=(hfits hf).2.2.2.2.2.1;omega
  refine ⟨_,c1,_,c2,λh=>fin hle (hbad λhf=> ?_),λg7=> ?_⟩
  ·exact (hfits hf).2.2.2.2.2.2.1 h
  have hlk:=bL (F:=F2) mtK hm hmo B false;refine ⟨aV B,rfl,ac h5,decide (B∈brs S),?_,λh=>fin hle (hbad λhf=> ?_),λg8=> ?_⟩
  ·unfold kmS at hlk;by_cases hx:B∈brs S
   ·rw [if_pos hx] at hlk;simpa [hx] using hlk
   ·rw [if_neg hx] at hlk;simpa [hx] using hlk
  ·exact (hfits hf).2.2.2.2.2.2.2.1 (by simpa using h)
  have g8':B ∉ brs S:=by simpa using g8
  have hpre:brs S<+:d.1:=by rw [hSb];exact List.take_prefix _ _
  have il:inn S (tr S B.l.toNat):=gD (by omega);have ih:inn S (tr S B.h.toNat):=gD (by omega);have nl:=f7 hS (n:=B.l.toNat) (by omega);have nh:=f7 hS (n:=B.h.toNat) (by omega);have el:vi B.l=vi (num S (tr S B.l.toNat)):=by rw [nl];congr 1;omega
  have eh:vi B.h=vi (num S (tr S B.h.toNat)):=by rw [nh];congr 1;omega
  refine ⟨_,rfl,ac (hle _ _ h1),_,c1,_,c0,?_⟩;rw [el];refine (eZ (hd'.le (l1.trans hle)) hpre il (by omega)).mono ?_;rintro _ F3 ⟨rfl,l3⟩;refine ⟨_,rfl,aH l3 c0,λh=>fin (hle.trans l3) (hbad λhf=> ?_),λg9=> ?_⟩
  ·have:=(hfits hf).2.2.2.2.2.2.2.2.1;omega
  refine ⟨_,rfl,ac ((hle.trans l3) _ _ h1),_,aH l3 c2,_,aH l3 c0,?_⟩;rw [eh];refine (eZ (hd'.le (l1.trans (hle.trans l3))) hpre ih (by omega)).mono ?_;rintro _ F4 ⟨rfl,l4⟩;refine ⟨_,rfl,aH l4 (aH l3 c0),aH l4 (aH l3 c0),λh=>fin ((hle.trans l3).trans l4) (hbad λhf=> ?_),λg10=> ?_⟩
  ·have:=(hfits hf).2.2.2.2.2.2.2.2.2;omega
  have hF:=hof (by omega) (by omega) (by omega) (by omega) (by omega) (by omega) g7 g8' (by omega) (by omega);refine ⟨aV B,rfl,ac (l4 _ _ (l3 _ _ h5)),?_⟩;refine aX mtK (l4 _ _ (l3 _ _ hm)) hmo B _ λo' ho'=> ?_;obtain ⟨v,l,h,e,hl,hh,hok,hn⟩:=hF;have e2:brs (S++[node v l h])=brs S++[B]:=by rw [eN hS hl hh,e]
  rw [<- FW e2] at ho';have hg11:G b11=none:=hb11;refine ⟨d.1.length - (k+1),by omega,k+1,S++[node v l h],rfl,by omega,rfl,.snoc hS hl hh hok hn,by simp [hSk],?_,aw ((hle.trans l3).trans l4) hg11,o',al _ _ _,ho'⟩;rw [e2,hSb,Vh hkd,hB]
 ·unfold Bk;have hk':k=d.1.length:=by omega
  have hSd:brs S=d.1:=by rw [hSb,hk',U7]
  have cr:F1.cell ⟨b1,1,none⟩=some (vi d.2):=by rw [am (hle _ _ h1)];rfl
  have cs:F1.cell ⟨b1,0,none⟩=some s.v:=by rw [am (hle _ _ h1)];rfl
  have key:∀t,t.ok->d=dia t->S=aL t/\d.2=num S t:=λt ht e=>by subst e;have:=po hS (bv ht) hSd;exact ⟨this,by rw [this];rfl⟩
  have hrange:iU d->0<=d.2/\d.2<=(d.1.length:Int)+1:=by
   rintro ⟨t,ht,e⟩;obtain ⟨h1,h2⟩:=key t ht e;have h3:inn S t:=by rw [h1];exact bI ht
   have:=dt h3;omega
  refine ⟨_,cr,λh=>fin hle (λhv=>by have:=(hrange hv).1;omega),λg1=> ?_⟩;have hw:IntKind.i64.wrap ((s.len:Int)+1)=((d.1.length+1:Nat):Int):=by rw [hlen];exact i6 (by omega)
  refine ⟨_,cr,s,cs,?_⟩;dsimp only;rw [hw];refine ⟨λh=>fin hle (λhv=>by have:=(hrange hv).2;omega),λg2=> ?_⟩;refine ⟨s,cs,?_⟩;intro b98 hb98;refine atI ?_;have l98:=ae (.cells #[s.v,Value.map none] 199) hb98;have h98:=al F1 b98 (.cells #[s.v,Value.map none] 199);replace hle:=hle.trans l98;generalize F1.set b98 (.cells #[s.v,Value.map none] 199)=F2 at*;refine ⟨_,aH l98 cr,?_⟩;have it:inn S (tr S d.2.toNat):=gD (by omega);have nt:=f7 hS (n:=d.2.toNat) (by omega);have et:vi d.2=vi (num S (tr S d.2.toNat)):=by rw [nt];congr 1;omega
  dsimp only;rw [et];refine (iE (by rw [am h98];rfl) (by rw [hSd];exact hr.le (l1.trans hle)) hS it (by omega)).mono ?_;rintro _ F3 ⟨w,rfl,hw,l3⟩;refine ⟨_,rfl,?_⟩;intro b6 hb6;refine atI ?_;refine stW (al _ _ _) hw.size rfl hw.st ?_;rw [bh];have l6:=ae (.cells w 31) hb6;have h6:=al F3 b6 (.cells w 31);replace hle:=(hle.trans l3).trans l6;replace hw:=hw.le l6;generalize F3.set b6 (.cells w 31)=F4 at*;refine ⟨w,hw.size,ac h6,_,rfl,ac (hle _ _ h1),?_⟩;have hok:=hS.inn_ok it
  refine (jQ hw (hd'.le (l1.trans hle)) (by
   have:=IQ hS it;simp only [dia,aO]
   omega)).mono ?_
  rintro _ F5 ⟨rfl,l5⟩;refine ⟨_,rfl,λh=>fin (hle.trans l5) ?_,λh=> ?_⟩
  ·rintro ⟨t,ht,e⟩;obtain ⟨k1,k2⟩:=key t ht e;have:tr S d.2.toNat=t:=by rw [k2,N4];exact gE hS (by rw [k1];exact bI ht)
   rw [this,<- e] at h;simp at h
  ·refine ⟨?_,l1.trans (hle.trans l5)⟩;have:dia (tr S d.2.toNat)=d:=by simpa using h
   unfold chk;rw [if_neg (by omega),if_pos ⟨_,hok,this.symm⟩]
end
theorem FX:aE prog 173=true:=by kernel_rfl
theorem BD.weaken {F0 F1 F:PH} {b m:Nat} {S:List Tr} (h:BD F1 F b m S) (hl:F0.le F1):BD F0 F b m S:=by obtain ⟨h1,h2,h3,h4,⟨s,h5,h6,h7⟩,h8⟩:=h;exact ⟨hl.trans h1,h2,aT hl h3,aT hl h4,⟨s,h5,h6,λa ha=>aT hl (h7 a ha)⟩,h8⟩
theorem BD.upto {F0 F G:PH} {b m:Nat} {S:List Tr} (h:BD F0 F b m S) (hl:F.le G):BD F0 G b m S:=by obtain ⟨h1,h2,h3,h4,⟨s,h5,h6,h7⟩,o,h8,h9⟩:=h;exact ⟨h1.trans hl,h2,h3,h4,⟨s,hl _ _ h5,h6.upto hl,h7⟩,o,hl _ _ h8,h9⟩
theorem BD.grow {F0 G F:PH} {b m x:Nat} {o:Obj} {S:List Tr} (h:BD F0 G b m S) (hl:G.le F) (hx:G x=none) (ho:F x=some o):BD (F0.set x o) F b m S:=by
 obtain ⟨h1,h2,h3,h4,⟨s,h5,h6,h7⟩,o',h8,h9⟩:=h;refine ⟨λy oy hy=> ?_,h2,?_,?_,⟨s,hl _ _ h5,h6.upto hl,λa ha=> ?_⟩,o',hl _ _ h8,h9⟩
 ·by_cases hyx:y=x
  ·subst hyx;rw [al] at hy;rw [ho];exact hy
  ·rw [av _ _ hyx] at hy;exact hl _ _ (h1 _ _ hy)
 ·rw [av _ _ (aJ hx h5)];exact h3
 ·rw [av _ _ (aJ hx h8)];exact h4
 ·obtain ⟨cur,hcur⟩:=h6.elem ha;rw [av _ _ (aJ hx hcur)];exact h7 a ha
theorem BD.other {F0 F:PH} {b m x:Nat} {o:Obj} {S:List Tr} (h:BD F0 F b m S) (h0:F0 x=none) (hb:b≠x) (hm:m≠x) (hc:∀c e fr,F x≠some (.cells c e fr)):BD F0 (F.set x o) b m S:=by obtain ⟨h1,h2,h3,h4,⟨s,h5,h6,h7⟩,o',h8,h9⟩:=h;refine ⟨aw h1 h0,h2,h3,h4,⟨s,by rw [av _ _ hb];exact h5,h6.keep λa ha=>av _ _ (λe=> ?_),h7⟩,o',by rw [av _ _ hm];exact h8,h9⟩;obtain ⟨cur,hcur⟩:=h6.elem ha;rw [e] at hcur;exact hc _ _ _ hcur
structure AP where
 b3:Nat
 b6:Nat
 b2:Nat
 b7:Nat
 b5:Nat
 bb:Nat
 mm:Nat
 b9:Nat
 opv:Value
 o:Op3
 dd:Nat->Dia
 SS:Nat->List Tr
def AP.key (p:AP) (t:Nat->Tr):Int×Int×Int:=((num (p.SS 0) (t 0):Int),(num (p.SS 1) (t 1):Int),(num (p.SS 2) (t 2):Int))
noncomputable def AP.res (p:AP) (t:Nat->Tr):Tr:=ap p.o (t 0) (t 1) (t 2)
def AP.inK (p:AP) (t:Nat->Tr):Prop:=inn (p.SS 0) (t 0)/\inn (p.SS 1) (t 1)/\inn (p.SS 2) (t 2)
def AP.caps (p:AP):Γ:= #[.pointer (some ⟨p.b3,0,none⟩),.pointer (some ⟨p.b6,0,none⟩),.pointer (some ⟨p.b2,0,none⟩),.pointer (some ⟨p.b7,0,none⟩),.pointer (some ⟨p.b5,0,none⟩)]
def OpV (F0:PH) (v:Value) (o:Op3):Prop:=∃(k:Nat) (fst cap:Γ),v=.func (.func k) fst cap/\aE prog k=true/\
 ∀(x y z:Bool) (F:PH),F0.le F->ai prog k (fst++[Value.bool x,Value.bool y,Value.bool z].toArray++cap) F λr F'=>r=.bool (o x y z)/\F.le F'
theorem OpV.le {F0 G:PH} {v:Value} {o:Op3} (h:OpV F0 v o) (hl:F0.le G):OpV G v o:=by obtain ⟨k,f,c,h1,h2,h3⟩:=h;exact ⟨k,f,c,h1,h2,λx y z F hF=>h3 x y z F (hl.trans hF)⟩
structure AF (p:AP):Prop where
 cl:∀i,i<3->Cl (p.SS i)
 pre:∀i,i<3->brs (p.SS i)<+:(p.dd i).1
 fit:∀i,i<3->Fit ((p.dd i).1.length+2)
structure AE (F0:PH) (p:AP):Prop where
 c3:F0.cell ⟨p.b3,0,none⟩=some p.opv
 c6:F0.cell ⟨p.b6,0,none⟩=some (.map (some p.b9))
 c2:∀i,i<3->∃w,F0.row ⟨p.b2,i*2,none⟩ w/\DV F0 w (p.dd i)
 c7:F0.cell ⟨p.b7,0,none⟩=some (.func (.func 173) #[] p.caps)
 c5:F0.cell ⟨p.b5,0,none⟩=some (.pointer (some ⟨p.bb,0,none⟩))
 op:OpV F0 p.opv p.o
theorem bJ {F G:PH} (h:F.le G) {a:Addr} {cs:Γ} (hr:F.row a cs):G.row a cs:=λi hi=>aH h (hr i hi)
theorem AE.le {F0 G:PH} {p:AP} (h:AE F0 p) (hl:F0.le G):AE G p:=
 ⟨aH hl h.c3,aH hl h.c6,λi hi=>by
  obtain ⟨w,h1,h2⟩:=h.c2 i hi
  exact ⟨w,bJ hl h1,h2.le hl⟩,aH hl h.c7,aH hl h.c5,h.op.le hl⟩
def M6 (p:AP) (S:List Tr) (m3:Int×Int×Int->Option Value):Prop:=∀k v,m3 k=some v->∃t,p.inK t/\k=p.key t/\inn S (p.res t)/\v=vi (num S (p.res t))
structure AS (F0 F:PH) (p:AP) (S:List Tr):Prop where
 bd:BD F0 F p.bb p.mm S
 n9:F0 p.b9=none
 ne:p.mm≠p.b9
 memo:∃o m3,F p.b9=some o/\eH ID m3 o/\M6 p S m3
theorem AS.upto {F0 F G:PH} {p:AP} {S:List Tr} (h:AS F0 F p S) (hl:F.le G):AS F0 G p S:=by obtain ⟨h1,h2,h3,o,m3,h4,h5⟩:=h;exact ⟨h1.upto hl,h2,h3,o,m3,hl _ _ h4,h5⟩
theorem AS.weaken {F0 F1 F:PH} {p:AP} {S:List Tr} (h:AS F1 F p S) (hl:F0.le F1):AS F0 F p S:=by obtain ⟨h1,h2,h3,h4⟩:=h;exact ⟨h1.weaken hl,aT hl h2,h3,h4⟩
theorem AS.grow {F0 G F:PH} {p:AP} {S:List Tr} {x:Nat} {o:Obj} (h:AS F0 G p S) (hl:G.le F) (hx:G x=none) (ho:F x=some o):AS (F0.set x o) F p S:=by obtain ⟨h1,h2,h3,o',m3,h4,h5⟩:=h;exact ⟨h1.grow hl hx ho,by rw [av _ _ (aJ hx h4)];exact h2,h3,o',m3,hl _ _ h4,h5⟩
theorem pH {p:AP} {t u:Nat->Tr} (ht:p.inK t) (hu:p.inK u) (h:p.key t=p.key u):p.res t=p.res u:=by unfold AP.key at h;simp only [WN] at h;obtain ⟨h1,h2,h3⟩:=h;unfold AP.res;rw [cJ ht.1 hu.1 (by omega),cJ ht.2.1 hu.2.1 (by omega),cJ ht.2.2 hu.2.2 (by omega)]
theorem xP (t:Tr) (S:List Tr):S.length<=(vis t S).length:=by
 induction t generalizing S with
 |leaf b=>exact UW _
 |node v l h ihl ihh=>
  unfold vis;split
  ·exact UW _
  ·have h1:=ihl S;have h2:=ihh (vis l S);simp only [UV];omega
theorem BQ (S:List Tr) (t:Tr):S.length<=(dv S t).length:=by unfold dv;split<;>simp
def szs (t:Nat->Tr):Nat:=(t 0).sz+(t 1).sz+(t 2).sz
def FY (p:AP) (t:Nat->Tr):Prop:=∀(F0 F:PH) (S:List Tr),AE F0 p->AS F0 F p S->Fit ((vis (p.res t) S).length+4)->
 ai prog 173 (#[.agg (dR (p.key t))]++p.caps) F λr F'=>r=vi (num (vis (p.res t) S) (p.res t))/\AS F0 F' p (vis (p.res t) S)
structure TT (p:AP) (t:Nat->Tr) (v:Nat):Prop where
 hv:v=aZ (t 0) (t 1) (t 2)
 lt:v<64
 il:p.inK (λi=>lo v (t i))
 ih:p.inK (λi=>hi v (t i))
 sl:szs (λi=>lo v (t i))<szs t
 sh:szs (λi=>hi v (t i))<szs t
 tl:v<(p.res (λi=>lo v (t i))).top
 th:v<(p.res (λi=>hi v (t i))).top
 ol:(p.res (λi=>lo v (t i))).ok
 oh:(p.res (λi=>hi v (t i))).ok
 res:p.res t=mk v (p.res (λi=>lo v (t i))) (p.res (λi=>hi v (t i)))
theorem Qw {p:AP} (hf:AF p) {t:Nat->Tr} (ht:p.inK t) (hv:aZ (t 0) (t 1) (t 2)<64):TT p t (aZ (t 0) (t 1) (t 2)):=by
 have h0:=(hf.cl 0 (by omega)).inn_ok ht.1;have h1:=(hf.cl 1 (by omega)).inn_ok ht.2.1;have h2:=(hf.cl 2 (by omega)).inn_ok ht.2.2;have hs:=va (o:=p.o) h0 h1 h2 hv;have v1:aZ (t 0) (t 1) (t 2)<=(t 0).top:=by unfold aZ;omega
 have v2:aZ (t 0) (t 1) (t 2)<=(t 1).top:=by unfold aZ;omega
 have v3:aZ (t 0) (t 1) (t 2)<=(t 2).top:=by unfold aZ;omega
 have hcase:aZ (t 0) (t 1) (t 2)=(t 0).top\/aZ (t 0) (t 1) (t 2)=(t 1).top\/aZ (t 0) (t 1) (t 2)=(t 2).top:=by unfold aZ;omega
 generalize hw:aZ (t 0) (t 1) (t 2)=v at*;have nl:∀{t:Tr},v=t.top->t.isL=false:=λ{t} e=>by
  cases t with
  |leaf b=>simp only [top] at e;omega
  |node _ _ _=>rfl
 obtain ⟨al1,al2,al3,al4,al5⟩:=cq h0 v1;obtain ⟨bl1,bl2,bl3,bl4,bl5⟩:=cq h1 v2;obtain ⟨dl1,dl2,dl3,dl4,dl5⟩:=cq h2 v3;obtain ⟨ah1,ah2,ah3,ah4,ah5⟩:=cu h0 v1;obtain ⟨bh1,bh2,bh3,bh4,bh5⟩:=cu h1 v2;obtain ⟨dh1,dh2,dh3,dh4,dh5⟩:=cu h2 v3;obtain ⟨l1,l2,l3⟩:=fq (o:=p.o) al1 bl1 dl1;obtain ⟨g1,g2,g3⟩:=fq (o:=p.o) ah1 bh1 dh1
 refine ⟨hw.symm,hv,⟨(hf.cl 0 (by omega)).inn_lo ht.1 v,(hf.cl 1 (by omega)).inn_lo ht.2.1 v,(hf.cl 2 (by omega)).inn_lo ht.2.2 v⟩,
  ⟨(hf.cl 0 (by omega)).inn_hi ht.1 v,(hf.cl 1 (by omega)).inn_hi ht.2.1 v,(hf.cl 2 (by omega)).inn_hi ht.2.2 v⟩,?_,?_,?_,?_,l1,g1,hs⟩
 ·simp only [szs];rcases hcase with e|e|e
  ·have:=al4 e.symm (nl e);omega
  ·have:=bl4 e.symm (nl e);omega
  ·have:=dl4 e.symm (nl e);omega
 ·simp only [szs];rcases hcase with e|e|e
  ·have:=ah4 e.symm (nl e);omega
  ·have:=bh4 e.symm (nl e);omega
  ·have:=dh4 e.symm (nl e);omega
 ·have:=al2 hv;have:=bl2 hv;have:=dl2 hv;unfold aZ at l2;show v<(ap p.o (lo v (t 0)) (lo v (t 1)) (lo v (t 2))).top;omega
 ·have:=ah2 hv;have:=bh2 hv;have:=dh2 hv;unfold aZ at g2;show v<(ap p.o (hi v (t 0)) (hi v (t 1)) (hi v (t 2))).top;omega
theorem dT {S:List Tr} {t:Tr}:((num S t:Int)<2)↔t.isL=true:=by
 constructor
 ·intro h;exact pn (S:=S) (by omega)
 ·intro h;cases t with
  |leaf b=>have:=cT S b;omega
  |node _ _ _=>cases h
section
variable {p:AP} {t:Nat->Tr} {F0 F:PH} {S:List Tr} {n6:Nat}
theorem IR (he:AE F0 p) (hs:AS F0 F p S) (h6:F0 n6=some (.cells (dR (p.key t)) 215)) (h0:(t 0).isL=true) (h1:(t 1).isL=true) (h2:(t 2).isL=true) {R:Value->Ψ}
  (hR:∀F',F.le F'->R (vi (num S (p.res t))) F'):
  gp (some ⟨p.b3,0,none⟩) (some ⟨p.b6,0,none⟩) (some ⟨p.b2,0,none⟩) (some ⟨p.b7,0,none⟩) (some ⟨p.b5,0,none⟩) n6 true R F:=by
 unfold gp;obtain ⟨k,fst,cap,hop,hcb,hsp⟩:=he.op;have hle:=hs.bd.le;have h6':=hle _ _ h6;refine ⟨λ_=> ?_,λhc=>by cases hc⟩;refine ⟨_,rfl,_,aH hle he.c3,by omega,by omega,_,by simp only [aB];rw [am h6'];rfl,by omega,by omega,_,by simp only [aB];rw [am h6'];rfl,by omega,by omega,_,by simp only [aB];rw [am h6'];rfl,k,fst,cap,hop,hcb,?_⟩;generalize ht0:t 0=x0 at*;generalize ht1:t 1=x1 at*;generalize ht2:t 2=x2 at*;cases x0 with
 |node _ _ _=>cases h0
 |leaf a=>
  cases x1 with
  |node _ _ _=>cases h1
  |leaf b=>
   cases x2 with
   |node _ _ _=>cases h2
   |leaf c=>
    have e:∀(S:List Tr) (x:Bool),decide ((num S (leaf x):Int)=1)=x:=λS x=>by cases x<;>simp [num]
    simp only [AP.key,ht0,ht1,ht2,e];refine (hsp a b c F hle).mono ?_;rintro _ F' ⟨rfl,hle'⟩;have hres:p.res t=leaf (p.o a b c):=by unfold AP.res;rw [ht0,ht1,ht2];exact lP _ _ _ _
    have hR':=hR F' hle';rw [hres] at hR';refine ⟨_,rfl,λh=> ?_,λh=> ?_⟩
    ·rw [h] at hR';exact hR'
    ·rw [h] at hR';exact hR'
theorem IS (hf:AF p) (ht:p.inK t) (ih:∀u,p.inK u->szs u<szs t->FY p u) (he:AE F0 p) (hs:AS F0 F p S) (h6:F0 n6=some (.cells (dR (p.key t)) 215))
  (hfit:Fit ((vis (p.res t) S).length+4)) (hn:¬((t 0).isL=true/\(t 1).isL=true/\(t 2).isL=true)) {R:Value->Ψ}
  (hR:∀F',AS F0 F' p (vis (p.res t) S)->R (vi (num (vis (p.res t) S) (p.res t))) F'):
  gp (some ⟨p.b3,0,none⟩) (some ⟨p.b6,0,none⟩) (some ⟨p.b2,0,none⟩) (some ⟨p.b7,0,none⟩) (some ⟨p.b5,0,none⟩) n6 false R F:=by
 have hv:aZ (t 0) (t 1) (t 2)<64:=by
  have k0:=λhl=>qR ((hf.cl 0 (by omega)).inn_ok ht.1) hl;have k1:=λhl=>qR ((hf.cl 1 (by omega)).inn_ok ht.2.1) hl;have k2:=λhl=>qR ((hf.cl 2 (by omega)).inn_ok ht.2.2) hl;unfold aZ;cases e0:(t 0).isL with
  |false=>have:=k0 e0;omega
  |true=>
   cases e1:(t 1).isL with
   |false=>have:=k1 e1;omega
   |true=>
    cases e2:(t 2).isL with
    |false=>have:=k2 e2;omega
    |true=>exact absurd ⟨e0,e1,e2⟩ hn
 have D:=Qw hf ht hv;unfold gp;have hle:=hs.bd.le;have h6':=hle _ _ h6;obtain ⟨om,m3,hm,hmo,hok⟩:=hs.memo;refine ⟨λhc=>(by cases hc),λ_=> ?_⟩;have hlk:=bL (F:=F) mt3 hm hmo (p.key t) true;refine ⟨_,rfl,_,aH hle he.c6,dR (p.key t),rfl,ac h6',?_⟩;cases hmk:m3 (p.key t) with
 |some v=>rw [hmk] at hlk;obtain ⟨u,hu,hk,hi,rfl⟩:=hok _ _ hmk;have e:=pH ht hu hk;rw [<- e] at hi hlk;have hvi:=gn hi;refine ⟨_,_,hlk,λ_=> ?_,λhc=>by cases hc⟩;have:=hR F (by rw [hvi];exact hs);rw [hvi] at this;exact this
 |none=>
  rw [hmk] at hlk;refine ⟨_,_,hlk,λhc=>(by cases hc),λ_=> ?_⟩;obtain ⟨w0,r0,d0⟩:=he.c2 0 (by omega);obtain ⟨w1,r1,d1⟩:=he.c2 1 (by omega);obtain ⟨w2,r2,d2⟩:=he.c2 2 (by omega);have c6:∀{G:PH},F.le G->G.cell ⟨n6,0,none⟩=some (vi (num (p.SS 0) (t 0)))/\G.cell ⟨n6,1,none⟩=some (vi (num (p.SS 1) (t 1)))/\G.cell ⟨n6,2,none⟩=some (vi (num (p.SS 2) (t 2))):=λ{G} hl=>by rw [am (hl _ _ h6'),am (hl _ _ h6'),am (hl _ _ h6')];exact ⟨rfl,rfl,rfl⟩
  have rr:∀{G:PH},F.le G->G.row (Addr.add ⟨p.b2,0,none⟩ (Int.toNat 0*2)) w0/\G.row (Addr.add ⟨p.b2,0,none⟩ (Int.toNat 1*2)) w1/\G.row (Addr.add ⟨p.b2,0,none⟩ (Int.toNat 2*2)) w2:=λ{G} hl=>by simp only [aB];exact ⟨bJ (hle.trans hl) r0,bJ (hle.trans hl) r1,bJ (hle.trans hl) r2⟩
  have cc:∀{G:PH},F.le G->G.cell (Addr.add ⟨n6,0,none⟩ (Int.toNat 0*1))=some (vi (num (p.SS 0) (t 0)))/\G.cell (Addr.add ⟨n6,0,none⟩ (Int.toNat 1*1))=some (vi (num (p.SS 1) (t 1)))/\G.cell (Addr.add ⟨n6,0,none⟩ (Int.toNat 2*1))=some (vi (num (p.SS 2) (t 2))):=λ{G} hl=>by simp only [aB];exact c6 hl
  have hFF:F.le F:=PH.le_rfl;refine ⟨_,rfl,by omega,by omega,w0,d0.size,(rr hFF).1,by omega,by omega,_,(cc hFF).1,by omega,by omega,w1,d1.size,(rr hFF).2.1,by omega,by omega,_,(cc hFF).2.1,by omega,by omega,w2,d2.size,(rr hFF).2.2,by omega,by omega,_,(cc hFF).2.2,?_⟩;refine (eZ (d0.le hle) (hf.pre 0 (by omega)) ht.1 (hf.fit 0 (by omega))).mono ?_;rintro _ G1 ⟨rfl,l1⟩;refine ⟨_,rfl,(cc l1).2.2,(rr l1).2.2,(cc l1).2.1,(rr l1).2.1,?_⟩;refine (eZ (d1.le (hle.trans l1)) (hf.pre 1 (by omega)) ht.2.1 (hf.fit 1 (by omega))).mono ?_;rintro _ G2 ⟨rfl,l2⟩;replace l2:=l1.trans l2;refine ⟨_,rfl,(cc l2).2.2,(rr l2).2.2,?_⟩;refine (eZ (d2.le (hle.trans l2)) (hf.pre 2 (by omega)) ht.2.2 (hf.fit 2 (by omega))).mono ?_;rintro _ G ⟨rfl,l3⟩;replace l3:=l2.trans l3;refine ⟨_,rfl,?_⟩;have hmin:(min (min ((t 0).top:Int) ((t 1).top:Int)) ((t 2).top:Int))=((aZ (t 0) (t 1) (t 2):Nat):Int):=by unfold aZ;omega
  generalize aZ (t 0) (t 1) (t 2)=v at*;intro b11 hb11;refine atI ?_;intro b12 hb12;refine atI ?_;have n12:b11≠b12:=aJ hb12 (al _ _ _);have g12:G b12=none:=by rw [av _ _ n12.symm] at hb12;exact hb12
  let A (k:Nat) (f:Nat->Nat):Γ:= #[if 0<k then vi (f 0) else vi 0,if 1<k then vi (f 1) else vi 0,if 2<k then vi (f 2) else vi 0]
  let fl:Nat->Nat:=λi=>num (p.SS i) (lo v (t i))
  let fh:Nat->Nat:=λi=>num (p.SS i) (hi v (t i))
  have hA:∀k f,k<3->(A k f).setIfInBounds k (vi (f k))=A (k+1) f:=by
   intro k f hk
   match k,hk with
   |0,_=>simp [A]
   |1,_=>simp [A]
   |2,_=>simp [A]
  refine ⟨λm i F'=>∃k:Nat,i=k/\k<=3/\m=3 - k/\G.le F'/\F' b11=some (.cells (A k fl) 215)/\F' b12=some (.cells (A k fh) 215),3,
   ⟨0,rfl,by omega,rfl,(ae _ hb11).trans (ae _ hb12),by rw [av _ _ n12,al];rfl,by rw [al];rfl⟩,?_⟩
  rintro m i F1 ⟨k,rfl,hk,rfl,hG,h11,h12⟩;unfold Bp;rw [hmin];refine ⟨λhlt=> ?_,λhge=> ?_⟩
  ·have hk3:k<3:=by omega
   obtain ⟨w,rw',dw⟩:=he.c2 k hk3;have hFG:F.le F1:=l3.trans hG;have hin:inn (p.SS k) (t k):=by
    match k,hk3 with
    |0,_=>exact ht.1
    |1,_=>exact ht.2.1
    |2,_=>exact ht.2.2
   have hc:F1.cell (Addr.add ⟨n6,0,none⟩ (Int.toNat (k:Int)*1))=some (vi (num (p.SS k) (t k))):=by
    match k,hk3 with
    |0,_=>exact (cc hFG).1
    |1,_=>exact (cc hFG).2.1
    |2,_=>exact (cc hFG).2.2
   refine ⟨by omega,by omega,w,dw.size,by simpa using bJ (hle.trans hFG) rw',by omega,by omega,_,hc,?_⟩;refine (y8 (dw.le (hle.trans hFG)) (hf.pre k hk3) hin (hf.fit k hk3) D.lt).mono ?_;rintro _ F2 ⟨rfl,l4⟩;refine ⟨_,_,rfl,by omega,by omega,?_⟩;refine oR (b:=b11) (o:=k) (by simp) (l4 _ _ h11) (by simp [A];omega) ?_;rw [hA k fl hk3];refine ⟨by omega,by omega,?_⟩;refine oR (b:=b12) (o:=k) (by simp) (by rw [av _ _ n12.symm];exact l4 _ _ h12) (by simp [A];omega) ?_;rw [hA k fh hk3];refine ⟨3 - (k+1),by omega,k+1,i6 (by omega),by omega,rfl,aw (aw (hG.trans l4) hb11) g12,?_,al _ _ _⟩;rw [av _ _ n12,al]
  ·obtain rfl:k=3:=by omega
   have e11:A 3 fl=dR (p.key λi=>lo v (t i)):=rfl;have e12:A 3 fh=dR (p.key λi=>hi v (t i)):=rfl;rw [e11] at h11;rw [e12] at h12;clear hA hge hk
   clear_value A fl fh
   unfold Bo;rw [hmin];have hs1:=(hs.upto l3).grow (F:=G.set b11 (.cells (dR (p.key λi=>lo v (t i))) 215)) (ae _ hb11) hb11 (al _ _ _);have lx:(G.set b11 (.cells (dR (p.key λi=>lo v (t i))) 215)).le F1:=λx ob hx=>by
    by_cases hxb:x=b11
    ·subst hxb;rw [al] at hx;rw [h11];exact hx
    ·rw [av _ _ hxb] at hx;exact hG _ _ hx
   have hs2:=hs1.grow lx (by rw [av _ _ n12.symm];exact g12) h12;have f11:F0 b11=none:=aT (hle.trans l3) hb11;have f12:F0 b12=none:=aT (hle.trans l3) g12;have l0:F0.le ((F0.set b11 (.cells (dR (p.key λi=>lo v (t i))) 215)).set b12 (.cells (dR (p.key λi=>hi v (t i))) 215)):=aw (aw PH.le_rfl f11) f12;have q11:((F0.set b11 (.cells (dR (p.key λi=>lo v (t i))) 215)).set b12 (.cells (dR (p.key λi=>hi v (t i))) 215)) b11=some (.cells (dR (p.key λi=>lo v (t i))) 215):=by rw [av _ _ n12,al]
   have q12:((F0.set b11 (.cells (dR (p.key λi=>lo v (t i))) 215)).set b12 (.cells (dR (p.key λi=>hi v (t i))) 215)) b12=some (.cells (dR (p.key λi=>hi v (t i))) 215):=al _ _ _;generalize ((F0.set b11 (.cells (dR (p.key λi=>lo v (t i))) 215)).set b12 (.cells (dR (p.key λi=>hi v (t i))) 215))=E0 at*;have he0:=he.le l0;have hcl:=hs.bd.cl;obtain ⟨a1,a2,X,a3,a4⟩:=bo (p.res λi=>lo v (t i)) S D.ol hcl;obtain ⟨c1,c2,Y,c3,c4⟩:=bo (p.res λi=>hi v (t i)) (vis (p.res λi=>lo v (t i)) S) D.oh a1;have hadd:=lT hcl (v:=v) (l:=p.res λi=>lo v (t i)) (h:=p.res λi=>hi v (t i)) ⟨D.lt,D.tl,D.th,D.ol,D.oh⟩;rw [<- D.res] at hadd;have g1:=xP (p.res λi=>hi v (t i)) (vis (p.res λi=>lo v (t i)) S);have g2:=BQ (vis (p.res λi=>hi v (t i)) (vis (p.res λi=>lo v (t i)) S)) (p.res t);rw [hadd] at g2;refine ⟨_,rfl,_,aH hs2.bd.le he0.c7,dR (p.key λi=>lo v (t i)),rfl,ac (hs2.bd.le _ _ q11),_,_,_,rfl,FX,?_⟩;refine (ih _ D.il D.sl E0 F1 S he0 hs2 (by omega)).mono ?_;rintro _ F2 ⟨rfl,hs3⟩;refine ⟨_,rfl,_,rfl,_,aH hs3.bd.le he0.c5,_,aH hs3.bd.le he0.c7,dR (p.key λi=>hi v (t i)),rfl,ac (hs3.bd.le _ _ q12),_,_,_,rfl,FX,?_⟩;refine (ih _ D.ih D.sh E0 F2 _ he0 hs3 (by omega)).mono ?_;rintro _ F3 ⟨rfl,hs4⟩;refine ⟨_,rfl,aH hs4.bd.le he0.c5,?_⟩;obtain ⟨bd4,n94,ne4,o9,m9,hm9,hmo9,hok9⟩:=hs4;have hnl:num (vis (p.res λi=>lo v (t i)) S) (p.res λi=>lo v (t i))=num (vis (p.res λi=>hi v (t i)) (vis (p.res λi=>lo v (t i)) S)) (p.res λi=>lo v (t i)):=by rw [c3,bN a2]
   rw [hnl];have hil:inn (vis (p.res λi=>hi v (t i)) (vis (p.res λi=>lo v (t i)) S)) (p.res λi=>lo v (t i)):=by rw [c3];exact bG a2
   have hnb:p.bb≠p.b9:=λe=>by obtain ⟨_,_,_,_,⟨s,h5,_⟩,_⟩:=bd4;obtain ⟨es,c,L,rfl,_⟩:=hmo9;rw [e,hm9] at h5;cases h5
   have bd4':BD (E0.set p.b9 o9) F3 p.bb p.mm (vis (p.res λi=>hi v (t i)) (vis (p.res λi=>lo v (t i)) S)):=by
    obtain ⟨k1,k2,k3,k4,⟨s,k5,k6,k7⟩,k8⟩:=bd4;refine ⟨λx ob hx=> ?_,k2,by rw [av _ _ hnb];exact k3,by rw [av _ _ ne4];exact k4,⟨s,k5,k6,λa ha=> ?_⟩,k8⟩
    ·by_cases hxb:x=p.b9
     ·subst hxb;rw [al] at hx;rw [hm9];exact hx
     ·rw [av _ _ hxb] at hx;exact k1 _ _ hx
    ·rw [av _ _ (λe=> ?_)]
     ·exact k7 a ha
     ·obtain ⟨cur,hcur⟩:=k6.elem ha;obtain ⟨es,c,L,rfl,_⟩:=hmo9;rw [e,hm9] at hcur;cases hcur
   refine (oA bd4' hil c2 ⟨D.lt,D.tl,D.th⟩ (by omega)).mono ?_;rintro _ F4 ⟨rfl,bd5⟩;rw [<- D.res,hadd] at bd5 ⊢;have hm5:F4 p.b9=some o9:=bd5.le _ _ (al _ _ _);have h65:F4 n6=some (.cells (dR (p.key t)) 215):=by
    have hne6:n6≠p.b9:=λe=>by rw [e,hs.n9] at h6;cases h6
    exact bd5.le _ _ (by rw [av _ _ hne6];exact l0 _ _ h6)
   have bd6:BD E0 F4 p.bb p.mm (vis (p.res t) S):=bd5.weaken (aw PH.le_rfl n94);refine ⟨_,rfl,_,aH bd6.le he0.c6,dR (p.key t),rfl,ac h65,?_⟩;refine aX mt3 hm5 hmo9 (p.key t) _ λo' ho'=> ?_;refine hR _ ?_;refine AS.weaken ?_ l0;have hinT:inn (vis (p.res t) S) (p.res t):=by
    have hokT:(p.res t).ok:=by rw [D.res];exact tY D.lt D.tl D.th D.ol D.oh
    exact (bo _ S hokT hcl).2.1
   refine ⟨bd6.other n94 hnb ne4 (λc e fr h=> ?_),n94,ne4,o',_,al _ _ _,ho',?_⟩
   ·obtain ⟨es,c,L,rfl,_⟩:=hmo9;rw [hm5] at h;cases h
   ·intro k w hkw;dsimp only at hkw;by_cases hk:k=p.key t
    ·rw [if_pos hk] at hkw;exact ⟨t,ht,hk,hinT,(Vl hkw).symm⟩
    ·rw [if_neg hk] at hkw;obtain ⟨u,u1,u2,u3,u4⟩:=hok9 k w hkw;refine ⟨u,u1,u2,?_,?_⟩
     ·rw [<- hadd];unfold dv;split
      ·exact u3
      ·exact bG u3
     ·rw [u4,<- hadd];unfold dv;split
      ·rfl
      ·rw [bN u3]
theorem IT (hf:AF p):∀(n:Nat) (t:Nat->Tr),szs t<=n->p.inK t->FY p t:=by
 intro n;induction n with
 |zero=>intro t hn;have:=kI (t 0);unfold szs at hn;omega
 |succ n ih=>
  intro t hn ht F0 F S he hs hfit;show ai prog 173 #[.agg (dR (p.key t)),_,_,_,_,_] F _;refine Pc ?_;unfold Kf;intro n6 hn6;refine atI ?_;have hle:=hs.bd.le;have f6:F0 n6=none:=aT hle hn6;have hs1:=hs.grow (F:=F.set n6 (.cells (dR (p.key t)) 215)) (ae _ hn6) hn6 (al _ _ _);have l0:F0.le (F0.set n6 (.cells (dR (p.key t)) 215)):=ae _ f6;have he1:=he.le l0;have h6:=al F0 n6 (.cells (dR (p.key t)) 215);generalize F0.set n6 (.cells (dR (p.key t)) 215)=E0 at*;generalize F.set n6 (.cells (dR (p.key t)) 215)=F1 at*;have h6':=hs1.bd.le _ _ h6;have rest:¬((t 0).isL=true/\(t 1).isL=true/\(t 2).isL=true)->gp (some ⟨p.b3,0,none⟩) (some ⟨p.b6,0,none⟩) (some ⟨p.b2,0,none⟩) (some ⟨p.b7,0,none⟩) (some ⟨p.b5,0,none⟩) n6 false
    (λr F'=>r=vi (num (vis (p.res t) S) (p.res t))/\AS F0 F' p (vis (p.res t) S)) F1:=λhn'=>
   IS hf ht (λu hu hlt=>ih u (by omega) hu) he1 hs1 h6 hfit hn' λF' h=>⟨rfl,h.weaken l0⟩
  refine ⟨by omega,by omega,_,by simp only [aB];rw [am h6'];rfl,λh0=> ?_,λh0=> ?_⟩
  ·refine ⟨by omega,by omega,_,by simp only [aB];rw [am h6'];rfl,λh1=> ?_,λh1=> ?_⟩
   ·refine ⟨by omega,by omega,_,by simp only [aB];rw [am h6'];rfl,?_⟩;have k0:=dT.1 h0;have k1:=dT.1 h1;by_cases h2:(t 2).isL=true
    ·have e:decide ((p.key t).2.2<2)=true:=decide_eq_true (dT.2 h2);dsimp only;rw [e];have hl:(p.res t).isL=true:=by
      unfold AP.res;generalize t 0=x0 at*;generalize t 1=x1 at*;generalize t 2=x2 at*;cases x0 with
      |node _ _ _=>cases k0
      |leaf a=>
       cases x1 with
       |node _ _ _=>cases k1
       |leaf b=>
        cases x2 with
        |node _ _ _=>cases h2
        |leaf c=>rw [lP];rfl
     have hvi:vis (p.res t) S=S:=gn (.inl hl);rw [hvi];exact IR he1 hs1 h6 k0 k1 h2 λF' h=>⟨rfl,(hs1.upto h).weaken l0⟩
    ·have e:decide ((p.key t).2.2<2)=false:=decide_eq_false (λh=>h2 (dT.1 h));dsimp only;rw [e];exact rest λhc=>h2 hc.2.2
   ·exact rest λhc=>h1 (dT.2 hc.2.1)
  ·exact rest λhc=>h0 (dT.2 hc.1)
end
end Go.Proofs.YtcemhghkipgdiaaGreatDoor
