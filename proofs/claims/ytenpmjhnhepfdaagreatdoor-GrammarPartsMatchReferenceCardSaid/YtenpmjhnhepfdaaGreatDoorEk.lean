/-
  The diagrams: complement, intersection, union, symmetric difference, choice; constants and conditions.
-/
import Derived.Test.YtenpmjhnhepfdaaGreatDoorEd
import Derived.Test.YtenpmjhnhepfdaaGreatDoorEa
namespace Go.Proofs.YtenpmjhnhepfdaaGreatDoor
open Go Go.Proofs.Tryz Tr
set_option maxRecDepth 10000
def mq (F:PH) (a b:Nat):PH:=fun x=>if x=a\/x=b then none else F x
theorem IN (F:PH) (a b:Nat):(mq F a b).le F:=fun x o h=>by
 unfold mq at h
 split at h
 ·cases h
 ·exact h
theorem kW {F:PH} {a b x:Nat} (h1:x≠a) (h2:x≠b):mq F a b x=F x:=by simp [mq,h1,h2]
theorem Ns (F:PH) (a b:Nat):mq F a b a=none:=by simp [mq]
theorem Nt (F:PH) (a b:Nat):mq F a b b=none:=by simp [mq]
theorem IP {F G:PH} {a b:Nat} (h:F.le G) (ha:F a=none) (hb:F b=none):F.le (mq G a b):=fun x o hx=>by
 have h1:x≠a:=fun e=>by rw [e,ha] at hx;cases hx
 have h2:x≠b:=fun e=>by rw [e,hb] at hx;cases hx
 rw [kW h1 h2]
 exact h _ _ hx
theorem PH.le.trans {F G H:PH} (h:F.le G) (k:G.le H):F.le H:=fun b o hx=>k _ _ (h _ _ hx)
section
variable {F:PH} {b:Nat} {ns:Sl} {S0:List Tr} {t:Tr}
theorem kX (hb:F.cell ⟨b,0,none⟩=some ns.v) (hr:RdS F ns 3 (aS (brs S0))) (h0:Cl S0) (ht:inn S0 t) (hf:Fit (S0.length+4)):
  ae prog 167 #[.pointer (some ⟨b,0,none⟩),vi (num S0 t)] F fun r F'=>∃v,r=.agg v/\DV F' v (dia t)/\F.le F':=by
 have hok:=h0.inn_ok ht
 refine OR ?_
 unfold JN
 intro b2 hb2
 refine atI ?_
 have l2:=ac (.cells #[Value.pointer (some ⟨b,0,none⟩)] 225) hb2
 have h2:=an F b2 (.cells #[Value.pointer (some ⟨b,0,none⟩)] 225)
 generalize F.set b2 (.cells #[Value.pointer (some ⟨b,0,none⟩)] 225)=F2 at*
 intro b4 hb4
 refine atI ?_
 have l4:=ac (.cells #[Value.slice none 0 0,Value.int .i64 0] 33) hb4
 have h4:=an F2 b4 (.cells #[Value.slice none 0 0,Value.int .i64 0] 33)
 replace h2:=l4 _ _ h2
 have f4:F b4=none:=aV l2 hb4
 replace l4:=l2.trans l4
 generalize F2.set b4 (.cells #[Value.slice none 0 0,Value.int .i64 0] 33)=F4 at*
 intro b5 hb5
 refine atI ?_
 have n25:b2≠b5:=aG hb5 h2
 have n45:b4≠b5:=aG hb5 h4
 refine stW (an _ _ _) rfl rfl (fun x hx=> ?_) ?_
 ·simp only [List.mem_cons,List.not_mem_nil,or_false] at hx
  rcases hx with rfl|rfl
  ·exact DT (x:=Sl.nil)
  ·exact iC
 rw [aR]
 have l5:=ac (.cells #[Value.slice none 0 0,Value.int .i64 0] 33) hb5
 have h5:=an F4 b5 (.cells #[Value.slice none 0 0,Value.int .i64 0] 33)
 replace h2:=l5 _ _ h2
 replace h4:=l5 _ _ h4
 have f5:F b5=none:=aV l4 hb5
 replace l5:=l4.trans l5
 generalize F4.set b5 (.cells #[Value.slice none 0 0,Value.int .i64 0] 33)=F5 at*
 intro b9 hb9
 refine atI ?_
 have f9:F b9=none:=aV l5 hb9
 have n92:b2≠b9:=aG hb9 h2
 have n94:b4≠b9:=aG hb9 h4
 have n95:b5≠b9:=aG hb9 h5
 refine bI mtN (an _ _ _) (gm.empty xh) 0 (vi 0) fun o1 ho1=> ?_
 rw [aR]
 refine bI mtN (an _ _ _) ho1 1 (vi 1) fun o2 ho2=> ?_
 rw [aR]
 have hn:nmS S0 []=(fun k'=>if k'=1 then some (vi 1) else if k'=0 then some (vi 0) else none):=IS h0
 rw [<- hn] at ho2
 have l9:F.le (F5.set b9 o2):=l5.trans (ac o2 hb9)
 have h9:=an F5 b9 o2
 replace h2:=ac o2 hb9 _ _ h2
 replace h4:=ac o2 hb9 _ _ h4
 replace h5:=ac o2 hb9 _ _ h5
 generalize F5.set b9 o2=F9 at*
 intro b6 hb6
 refine atI ?_
 refine st1 (an _ _ _) (by simp) ?_
 rw [aR,show (#[Value.map none].setIfInBounds 0 (Value.map (some b9)):Array Value)= #[Value.map (some b9)] from rfl]
 have n65:b6≠b5:=(aG hb6 h5).symm
 have n69:b6≠b9:=(aG hb6 h9).symm
 have hx:=ac (.cells #[Value.map (some b9)] 299) hb6
 have h6:=an F9 b6 (.cells #[Value.map (some b9)] 299)
 have l6:F.le (F9.set b6 (.cells #[Value.map (some b9)] 299)):=l9.trans hx
 replace h2:=hx _ _ h2
 replace h4:=hx _ _ h4
 replace h5:=hx _ _ h5
 replace h9:=hx _ _ h9
 clear hx
 generalize F9.set b6 (.cells #[Value.map (some b9)] 299)=F6 at*
 intro b7 hb7
 refine atI ?_
 refine st1 (an _ _ _) (by simp) ?_
 rw [aR]
 generalize hfv:(Value.func (.func 215) #[] #[(Value.pointer (some (Addr.mk b6 0 none))),(Value.pointer (some (Addr.mk b2 0 none))),(Value.pointer (some (Addr.mk b7 0 none))),(Value.pointer (some (Addr.mk b5 0 none)))])=fv
 rw [show (#[Value.nilFunc].setIfInBounds (Addr.mk b7 0 none).off fv:Array Value)= #[fv] from rfl]
 have n75:b7≠b5:=(aG hb7 h5).symm
 have n79:b7≠b9:=(aG hb7 h9).symm
 have hx:=ac (.cells #[fv] 167) hb7
 have h7:=an F6 b7 (.cells #[fv] 167)
 have l7:F.le (F6.set b7 (.cells #[fv] 167)):=l6.trans hx
 replace h2:=hx _ _ h2
 replace h4:=hx _ _ h4
 replace h5:=hx _ _ h5
 replace h9:=hx _ _ h9
 replace h6:=hx _ _ h6
 clear hx
 generalize F6.set b7 (.cells #[fv] 167)=F7 at*
 have lF:F.le (mq F7 b5 b9):=IP l7 f5 f9
 have g4:(mq F7 b5 b9) b4=_:=(kW n45 n94).trans h4
 have he:VE (mq F7 b5 b9) b6 b2 b7 b5 b9 b ns S0:=by
  refine ⟨?_,?_,?_,aq lF hb,hr.le lF⟩
  ·rw [am ((kW n65 n69).trans h6)];rfl
  ·rw [am ((kW n25 n92).trans h2)];rfl
  ·rw [am ((kW n75 n79).trans h7),<- hfv];rfl
 have hs:VS (mq F7 b5 b9) F7 b5 b9 S0 []:=by
  refine ⟨IN _ _ _,.nil,fun x hx=>(by cases hx),Ns _ _ _,Nt _ _ _,⟨Sl.nil,h5,.inl ⟨rfl,rfl⟩,fun a ha=>by cases ha⟩,o2,h9,ho2⟩
 refine ⟨_,by rw [am h7];rfl,_,_,_,hfv.symm,FQ,?_⟩
 refine (yK h0 hf t ht _ _ _ he hs).mono ?_
 rintro _ G ⟨rfl,hs'⟩
 refine ⟨_,rfl,?_⟩
 obtain ⟨gle,gcl,_,_,_,⟨s,g5,go,gs⟩,_⟩:=hs'
 have ev:vis t []=aH t:=rfl
 rw [ev] at*
 refine st1 g5 (by simp) ?_
 rw [show (#[s.v,vi 0].setIfInBounds 1 (vi (num (aH t) t)):Array Value)= #[s.v,vi (num (aH t) t)] from rfl]
 refine ⟨#[s.v,vi (num (aH t) t)],rfl,aj (an _ _ _),?_⟩
 have k4:(G.set b5 (.cells #[s.v,vi (num (aH t) t)] 33)) b4=some (.cells #[Value.slice none 0 0,Value.int .i64 0] 33):=by
  rw [az _ _ n45]
  exact gle _ _ g4
 refine stW k4 rfl rfl (fun x hx=> ?_) ?_
 ·simp only [List.mem_cons,List.not_mem_nil,or_false] at hx
  rcases hx with rfl|rfl
  ·exact DT
  ·exact iC
 refine ⟨#[s.v,vi (num (aH t) t)],rfl,aj (an _ _ _),_,rfl,⟨s,rfl,?_⟩,?_⟩
 ·have hsb:∀a,s.base=some a->a.block≠b5/\a.block≠b4:=fun a ha=>by
   obtain ⟨cur,hcur⟩:=go.elem ha
   refine ⟨fun e=> ?_,fun e=> ?_⟩
   ·rw [e,g5] at hcur;cases hcur
   ·rw [e,gle _ _ g4] at hcur;cases hcur
  exact (go.keep fun a ha=>by rw [az _ _ (hsb a ha).2,az _ _ (hsb a ha).1]).rd
 ·exact aw (aw (lF.trans gle) f5) f4
end
def ip (d:Dia):Prop:=∃t:Tr,t.ok/\d=dia t
open Classical in
noncomputable def chk (d:Dia):Int:=if 4096<d.1.length then 2 else if ip d then 0 else 20
def xe (S:List Tr) (b:Br):Prop:=∃(v:Nat) (l h:Tr),b=⟨(v:Int),(num S l:Int),(num S h:Int)⟩/\inn S l/\inn S h/\(node v l h).ok/\node v l h ∉ S
theorem yF {T:List Tr} (hT:Cl T):∀k,k<T.length->Cl (T.take k)/\∃v l h,T[k]? =some (node v l h)/\inn (T.take k) l/\inn (T.take k) h/\(node v l h).ok/\node v l h ∉ T.take k:=by
 induction hT with
 |nil=>intro k hk;simp at hk
 | @snoc S v l h hS hl hh hok hn ih=>
  intro k hk
  by_cases hks:k<S.length
  ·obtain ⟨h1,v',l',h',h2,h3,h4,h5,h6⟩:=ih k hks
   rw [List.take_append_of_le_length (by omega)]
   exact ⟨h1,v',l',h',by rw [List.getElem?_append_left hks];exact h2,h3,h4,h5,h6⟩
  ·have e:k=S.length:=by simp at hk;omega
   subst e
   rw [List.take_left' rfl]
   exact ⟨hS,v,l,h,by simp,hl,hh,hok,hn⟩
theorem kY {T:List Tr} {k:Nat} {t:Tr} (h:inn (T.take k) t):num T t=num (T.take k) t:=by
 have:=bM (X:=T.drop k) h
 rw [List.take_append_drop] at this
 exact this
theorem FJ {T:List Tr} (hT:Cl T) (k:Nat):brs (T.take k)=(brs T).take k:=by
 by_cases hk:k<T.length
 ·have h:=pd (X:=T.drop k) (yF hT k hk).1
  rw [List.take_append_drop] at h
  rw [h,List.take_left' (by rw [aO,List.length_take];omega)]
 ·rw [List.take_of_length_le (by omega),List.take_of_length_le (by rw [aO];omega)]
theorem uC {S0:List Tr} (h0:Cl S0):∀(t:Tr) (S:List Tr),inn S0 t->(∀x∈S,x∈S0)->∀x∈vis t S,x∈S0
 |leaf _,_,_,hs=>hs
 |node v l h,S,ht,hs=>by
  obtain ⟨hl,hh⟩:=h0.inn_kids ht
  unfold vis
  split
  ·exact hs
  ·intro x hx
   rcases List.mem_append.1 hx with hx|hx
   ·exact uC h0 h _ hh (uC h0 l S hl hs) x hx
   ·rw [List.mem_singleton.1 hx]
    exact ca ht rfl
theorem IQ {S0:List Tr} (h0:Cl S0) {t:Tr} (ht:inn S0 t):(aH t).length<=S0.length:=
 dv _ _ (cx (h0.inn_ok ht)).nodup (uC h0 t [] ht (fun x hx=>by cases hx))
theorem jN {d:Dia} (hv:ip d) {S:List Tr} (hS:Cl S) {k:Nat} (hk:S.length=k) (hkd:k<d.1.length) (hb:brs S=d.1.take k):xe S d.1[k]:=by
 obtain ⟨t,ht,rfl⟩:=hv
 have hT:=cx ht
 have hl:k<(aH t).length:=by simpa [dia,aO] using hkd
 obtain ⟨h1,v,l,h,h2,h3,h4,h5,h6⟩:=yF hT k hl
 have e:S=(aH t).take k:=nq hS h1 (by rw [hb,FJ hT];rfl)
 subst e
 refine ⟨v,l,h,?_,h3,h4,h5,h6⟩
 have hg:=gL h2
 have e2:(brs (aH t))[k]? =some (dia t).1[k]:=List.getElem?_eq_getElem (by simpa [dia] using hkd)
 rw [e2] at hg
 rw [Option.some.inj hg]
 simp only [br]
 rw [kY h3,kY h4]
theorem bX {S:List Tr} (hS:Cl S) {b:Br} (h:xe S b):0<=b.v/\b.v<=63/\0<=b.l/\0<=b.h/\b.l<=S.length+1/\b.h<=S.length+1/\b.l≠b.h/\b ∉ brs S/\
  b.v<(tr S b.l.toNat).top/\b.v<(tr S b.h.toNat).top:=by
 obtain ⟨v,l,h,rfl,hl,hh,⟨o1,o2,o3,o4,o5,o6⟩,hn⟩:=h
 have h1:=cY hl
 have h2:=cY hh
 refine ⟨by simp,by simp only;omega,by simp,by simp,by simp only;omega,by simp only;omega,fun e=>o4 (dk hl hh (by simp only at e;omega)),fun hm=>hn ((ib hS hl hh).1 hm),?_,?_⟩
 ·simp only [Int.toNat_natCast,f7 hS hl];omega
 ·simp only [Int.toNat_natCast,f7 hS hh];omega
theorem AE {S:List Tr} (hS:Cl S) {b:Br} (h1:0<=b.v) (h2:b.v<=63) (h3:0<=b.l) (h4:0<=b.h) (h5:b.l<=S.length+1) (h6:b.h<=S.length+1) (h7:b.l≠b.h) (h8:b ∉ brs S)
  (h9:b.v<(tr S b.l.toNat).top) (h10:b.v<(tr S b.h.toNat).top):xe S b:=by
 have il:inn S (tr S b.l.toNat):=fZ (by omega)
 have ih:inn S (tr S b.h.toNat):=fZ (by omega)
 have nl:=fI hS (n:=b.l.toNat) (by omega)
 have nh:=fI hS (n:=b.h.toNat) (by omega)
 have e:b=⟨((b.v.toNat:Nat):Int),((num S (tr S b.l.toNat):Nat):Int),((num S (tr S b.h.toNat):Nat):Int)⟩:=by
  rw [nl,nh]
  obtain ⟨x,y,z⟩:=b
  simp only [Br.mk.injEq]
  simp only at*
  omega
 refine ⟨b.v.toNat,_,_,e,il,ih,⟨by omega,by omega,by omega,fun he=> ?_,hS.inn_ok il,hS.inn_ok ih⟩,fun hm=>h8 ?_⟩
 ·rw [he] at nl;omega
 ·rw [e]
  exact (ib hS il ih).2 hm
def kmS (S:List Tr) (x:Br):Option Value:=if x∈brs S then some (.bool true) else none
theorem FK {S:List Tr} {b:Br} {S':List Tr} (h:brs S'=brs S++[b]):kmS S'=fun x=>if x=b then some (.bool true) else kmS S x:=by
 funext x
 unfold kmS
 rw [h]
 by_cases hx:x=b<;>by_cases hm:x∈brs S<;>simp [hx,hm]
section
variable {F:PH} {v:Array Value} {d:Dia}
theorem ke (hd:DV F v d):ae prog 99 #[.agg v] F fun r F'=>r=vi (chk d)/\F.le F':=by
 have hd':=hd
 obtain ⟨s,rfl,hr⟩:=hd
 have hlen:=hr.blen
 refine TP ?_
 unfold ON
 intro b1 hb1
 refine atI ?_
 have l1:=ac (.cells #[s.v,vi d.2] 33) hb1
 have h1:=an F b1 (.cells #[s.v,vi d.2] 33)
 generalize F.set b1 (.cells #[s.v,vi d.2] 33)=G at*
 refine ⟨s,by rw [am h1];rfl,fun hbig=> ?_,fun hbig=> ?_⟩
 ·refine ⟨?_,l1⟩
  unfold chk
  rw [if_pos (by omega)]
 have hsm:d.1.length<=4096:=by omega
 intro b11 hb11
 refine atI ?_
 refine ⟨s,by rw [am (ac _ hb11 _ _ h1)];rfl,?_⟩
 have fin:∀{F':PH},G.le F'->¬ip d->(vi 20=vi (chk d)/\F.le F'):=fun {F'} hl hn=>by
  refine ⟨?_,l1.trans hl⟩
  unfold chk
  rw [if_neg (by omega),if_neg hn]
 refine ⟨fun m i F'=>∃(k:Nat) (S:List Tr),i=k/\k<=d.1.length/\m=d.1.length - k/\Cl S/\S.length=k/\brs S=d.1.take k/\G.le F'/\∃o,F' b11=some o/\gm yI (kmS S) o,d.1.length,
  ⟨0,[],rfl,by omega,rfl,.nil,rfl,rfl,ac _ hb11,_,an _ _ _,gm.empty yI⟩,?_⟩
 rintro m i F1 ⟨k,S,rfl,hk,rfl,hS,hSk,hSb,hle,o,hm,hmo⟩
 unfold Eh
 refine ⟨fun hlt=> ?_,fun hge=> ?_⟩
 ·have hkd:k<d.1.length:=by omega
  obtain ⟨a,ha,hrow,_⟩:=rdb (hr.le (l1.trans hle)) (List.getElem?_eq_getElem hkd)
  have hbad:¬xe S d.1[k]->¬ip d:=fun hn hv=>hn (jN hv hS hSk hkd hSb)
  have hfits:=bX hS (b:=d.1[k])
  have hof:=AE hS (b:=d.1[k])
  refine ⟨a,ha,by omega,hlt,aQ d.1[k],rfl,by simpa using hrow,?_⟩
  generalize hB:d.1[k]=B at*
  intro b5 hb5
  refine atI ?_
  refine stW (an _ _ _) rfl rfl (fR _) ?_
  rw [aR]
  have l5:=ac (.cells (aQ B) 103) hb5
  have h5:=an F1 b5 (.cells (aQ B) 103)
  replace hm:=l5 _ _ hm
  replace hle:=hle.trans l5
  generalize F1.set b5 (.cells (aQ B) 103)=F2 at*
  have c0:F2.cell ⟨b5,0,none⟩=some (vi B.v):=by rw [am h5];rfl
  have c1:F2.cell ⟨b5,1,none⟩=some (vi B.l):=by rw [am h5];rfl
  have c2:F2.cell ⟨b5,2,none⟩=some (vi B.h):=by rw [am h5];rfl
  refine ⟨_,c0,fun h=>fin hle (hbad fun hf=> ?_),fun g1=> ?_⟩
  ·have:=(hfits hf).1;omega
  refine ⟨_,c0,fun h=>fin hle (hbad fun hf=> ?_),fun g2=> ?_⟩
  ·have:=(hfits hf).2.1;omega
  refine ⟨_,c1,fun h=>fin hle (hbad fun hf=> ?_),fun g3=> ?_⟩
  ·have:=(hfits hf).2.2.1;omega
  refine ⟨_,c2,fun h=>fin hle (hbad fun hf=> ?_),fun g4=> ?_⟩
  ·have:=(hfits hf).2.2.2.1;omega
  have hw:IntKind.i64.wrap ((k:Int)+1)=((k+1:Nat):Int):=fd (by omega)
  rw [hw]
  refine ⟨_,c1,fun h=>fin hle (hbad fun hf=> ?_),fun g5=> ?_⟩
  ·have:=(hfits hf).2.2.2.2.1;omega
  refine ⟨_,c2,fun h=>fin hle (hbad fun hf=> ?_),fun g6=> ?_⟩
  ·have:=(hfits hf).2.2.2.2.2.1;omega
  refine ⟨_,c1,_,c2,fun h=>fin hle (hbad fun hf=> ?_),fun g7=> ?_⟩
  ·exact (hfits hf).2.2.2.2.2.2.1 h
  have hlk:=dL (F:=F2) mtK hm hmo B false
  refine ⟨aQ B,rfl,aj h5,decide (B∈brs S),?_,fun h=>fin hle (hbad fun hf=> ?_),fun g8=> ?_⟩
  ·unfold kmS at hlk
   by_cases hx:B∈brs S
   ·rw [if_pos hx] at hlk
    simpa [hx] using hlk
   ·rw [if_neg hx] at hlk
    simpa [hx] using hlk
  ·exact (hfits hf).2.2.2.2.2.2.2.1 (by simpa using h)
  have g8':B ∉ brs S:=by simpa using g8
  have hpre:brs S<+:d.1:=by rw [hSb];exact List.take_prefix _ _
  have il:inn S (tr S B.l.toNat):=fZ (by omega)
  have ih:inn S (tr S B.h.toNat):=fZ (by omega)
  have nl:=fI hS (n:=B.l.toNat) (by omega)
  have nh:=fI hS (n:=B.h.toNat) (by omega)
  have el:Value.int .i64 B.l=vi (num S (tr S B.l.toNat)):=by rw [nl];congr 1;omega
  have eh:Value.int .i64 B.h=vi (num S (tr S B.h.toNat)):=by rw [nh];congr 1;omega
  refine ⟨_,rfl,aj (hle _ _ h1),_,c1,_,c0,?_⟩
  rw [el]
  refine (pC (hd'.le (l1.trans hle)) hpre il (by omega)).mono ?_
  rintro _ F3 ⟨rfl,l3⟩
  refine ⟨_,rfl,aq l3 c0,fun h=>fin (hle.trans l3) (hbad fun hf=> ?_),fun g9=> ?_⟩
  ·have:=(hfits hf).2.2.2.2.2.2.2.2.1;omega
  refine ⟨_,rfl,aj ((hle.trans l3) _ _ h1),_,aq l3 c2,_,aq l3 c0,?_⟩
  rw [eh]
  refine (pC (hd'.le (l1.trans (hle.trans l3))) hpre ih (by omega)).mono ?_
  rintro _ F4 ⟨rfl,l4⟩
  refine ⟨_,rfl,aq l4 (aq l3 c0),aq l4 (aq l3 c0),fun h=>fin ((hle.trans l3).trans l4) (hbad fun hf=> ?_),fun g10=> ?_⟩
  ·have:=(hfits hf).2.2.2.2.2.2.2.2.2;omega
  have hF:=hof (by omega) (by omega) (by omega) (by omega) (by omega) (by omega) g7 g8' (by omega) (by omega)
  refine ⟨aQ B,rfl,aj (l4 _ _ (l3 _ _ h5)),?_⟩
  refine bI mtK (l4 _ _ (l3 _ _ hm)) hmo B _ fun o' ho'=> ?_
  obtain ⟨v,l,h,e,hl,hh,hok,hn⟩:=hF
  have e2:brs (S++[node v l h])=brs S++[B]:=by rw [d9 hS hl hh,e]
  rw [<- FK e2] at ho'
  have hg11:G b11=none:=hb11
  refine ⟨d.1.length - (k+1),by omega,k+1,S++[node v l h],rfl,by omega,rfl,.snoc hS hl hh hok hn,by simp [hSk],?_,aw ((hle.trans l3).trans l4) hg11,o',an _ _ _,ho'⟩
  rw [e2,hSb,List.take_succ_eq_append_getElem hkd,hB]
 ·unfold Ef
  have hk':k=d.1.length:=by omega
  have hSd:brs S=d.1:=by rw [hSb,hk',List.take_length]
  have cr:F1.cell ⟨b1,1,none⟩=some (vi d.2):=by rw [am (hle _ _ h1)];rfl
  have cs:F1.cell ⟨b1,0,none⟩=some s.v:=by rw [am (hle _ _ h1)];rfl
  have key:∀t,t.ok->d=dia t->S=aH t/\d.2=num S t:=fun t ht e=>by
   subst e
   have:=nq hS (cx ht) hSd
   exact ⟨this,by rw [this];rfl⟩
  have hrange:ip d->0<=d.2/\d.2<=(d.1.length:Int)+1:=by
   rintro ⟨t,ht,e⟩
   obtain ⟨h1,h2⟩:=key t ht e
   have h3:inn S t:=by rw [h1];exact ce ht
   have:=cY h3
   omega
  refine ⟨_,cr,fun h=>fin hle (fun hv=>by have:=(hrange hv).1;omega),fun g1=> ?_⟩
  have hw:IntKind.i64.wrap ((s.len:Int)+1)=((d.1.length+1:Nat):Int):=by rw [hlen];exact fd (by omega)
  refine ⟨_,cr,s,cs,?_⟩
  dsimp only
  rw [hw]
  refine ⟨fun h=>fin hle (fun hv=>by have:=(hrange hv).2;omega),fun g2=> ?_⟩
  refine ⟨s,cs,?_⟩
  intro b98 hb98
  refine atI ?_
  have l98:=ac (.cells #[s.v,Value.map none] 228) hb98
  have h98:=an F1 b98 (.cells #[s.v,Value.map none] 228)
  replace hle:=hle.trans l98
  generalize F1.set b98 (.cells #[s.v,Value.map none] 228)=F2 at*
  refine ⟨_,aq l98 cr,?_⟩
  have it:inn S (tr S d.2.toNat):=fZ (by omega)
  have nt:=fI hS (n:=d.2.toNat) (by omega)
  have et:Value.int .i64 d.2=vi (num S (tr S d.2.toNat)):=by rw [nt];congr 1;omega
  dsimp only
  rw [et]
  refine (kX (by rw [am h98];rfl) (by rw [hSd];exact hr.le (l1.trans hle)) hS it (by omega)).mono ?_
  rintro _ F3 ⟨w,rfl,hw,l3⟩
  refine ⟨_,rfl,?_⟩
  intro b6 hb6
  refine atI ?_
  refine stW (an _ _ _) hw.size rfl hw.st ?_
  rw [aR]
  have l6:=ac (.cells w 33) hb6
  have h6:=an F3 b6 (.cells w 33)
  replace hle:=(hle.trans l3).trans l6
  replace hw:=hw.le l6
  generalize F3.set b6 (.cells w 33)=F4 at*
  refine ⟨w,hw.size,aj h6,_,rfl,aj (hle _ _ h1),?_⟩
  have hok:=hS.inn_ok it
  refine (Dc hw (hd'.le (l1.trans hle)) (by
   have:=IQ hS it
   simp only [dia,aO]
   omega)).mono ?_
  rintro _ F5 ⟨rfl,l5⟩
  refine ⟨_,rfl,fun h=>fin (hle.trans l5) ?_,fun h=> ?_⟩
  ·rintro ⟨t,ht,e⟩
   obtain ⟨k1,k2⟩:=key t ht e
   have:tr S d.2.toNat=t:=by
    rw [k2,Int.toNat_natCast]
    exact f7 hS (by rw [k1];exact ce ht)
   rw [this,<- e] at h
   simp at h
  ·refine ⟨?_,l1.trans (hle.trans l5)⟩
   have:dia (tr S d.2.toNat)=d:=by simpa using h
   unfold chk
   rw [if_neg (by omega),if_pos ⟨_,hok,this.symm⟩]
end
theorem BD.weaken {F0 F1 F:PH} {b m:Nat} {S:List Tr} (h:BD F1 F b m S) (hl:F0.le F1):BD F0 F b m S:=by
 obtain ⟨h1,h2,h3,h4,⟨s,h5,h6,h7⟩,h8⟩:=h
 exact ⟨hl.trans h1,h2,aV hl h3,aV hl h4,⟨s,h5,h6,fun a ha=>aV hl (h7 a ha)⟩,h8⟩
theorem BD.upto {F0 F G:PH} {b m:Nat} {S:List Tr} (h:BD F0 F b m S) (hl:F.le G):BD F0 G b m S:=by
 obtain ⟨h1,h2,h3,h4,⟨s,h5,h6,h7⟩,o,h8,h9⟩:=h
 exact ⟨h1.trans hl,h2,h3,h4,⟨s,hl _ _ h5,h6.upto hl,h7⟩,o,hl _ _ h8,h9⟩
theorem BD.grow {F0 G F:PH} {b m x:Nat} {o:Obj} {S:List Tr} (h:BD F0 G b m S) (hl:G.le F) (hx:G x=none) (ho:F x=some o):BD (F0.set x o) F b m S:=by
 obtain ⟨h1,h2,h3,h4,⟨s,h5,h6,h7⟩,o',h8,h9⟩:=h
 refine ⟨fun y oy hy=> ?_,h2,?_,?_,⟨s,hl _ _ h5,h6.upto hl,fun a ha=> ?_⟩,o',hl _ _ h8,h9⟩
 ·by_cases hyx:y=x
  ·subst hyx;rw [an] at hy;rw [ho];exact hy
  ·rw [az _ _ hyx] at hy;exact hl _ _ (h1 _ _ hy)
 ·rw [az _ _ (aG hx h5)];exact h3
 ·rw [az _ _ (aG hx h8)];exact h4
 ·obtain ⟨cur,hcur⟩:=h6.elem ha
  rw [az _ _ (aG hx hcur)]
  exact h7 a ha
theorem BD.other {F0 F:PH} {b m x:Nat} {o:Obj} {S:List Tr} (h:BD F0 F b m S) (h0:F0 x=none) (hb:b≠x) (hm:m≠x) (hc:∀c e fr,F x≠some (.cells c e fr)):BD F0 (F.set x o) b m S:=by
 obtain ⟨h1,h2,h3,h4,⟨s,h5,h6,h7⟩,o',h8,h9⟩:=h
 refine ⟨aw h1 h0,h2,h3,h4,⟨s,by rw [az _ _ hb];exact h5,h6.keep fun a ha=>az _ _ (fun e=> ?_),h7⟩,o',by rw [az _ _ hm];exact h8,h9⟩
 obtain ⟨cur,hcur⟩:=h6.elem ha
 rw [e] at hcur
 exact hc _ _ _ hcur
structure AP where
 b3:Nat
 b6:Nat
 b2:Nat
 b7:Nat
 b5:Nat
 bb:Nat
 mm:Nat
 b9:Nat
 opv:Value
 o:Op3
 dd:Nat->Dia
 SS:Nat->List Tr
def AP.key (p:AP) (t:Nat->Tr):Int×Int×Int:=((num (p.SS 0) (t 0):Int),(num (p.SS 1) (t 1):Int),(num (p.SS 2) (t 2):Int))
noncomputable def AP.res (p:AP) (t:Nat->Tr):Tr:=ap p.o (t 0) (t 1) (t 2)
def AP.inK (p:AP) (t:Nat->Tr):Prop:=inn (p.SS 0) (t 0)/\inn (p.SS 1) (t 1)/\inn (p.SS 2) (t 2)
structure AF (p:AP):Prop where
 cl:∀i,i<3->Cl (p.SS i)
 pre:∀i,i<3->brs (p.SS i)<+:(p.dd i).1
 fit:∀i,i<3->Fit ((p.dd i).1.length+2)
theorem kf {F G:PH} (h:F.le G) {a:Addr} {cs:Array Value} (hr:F.row a cs):G.row a cs:=fun i hi=>aq h (hr i hi)
theorem FL (t:Tr) (S:List Tr):S.length<=(vis t S).length:=by
 induction t generalizing S with
 |leaf b=>exact Nat.le_refl _
 |node v l h ihl ihh=>
  unfold vis
  split
  ·exact Nat.le_refl _
  ·have h1:=ihl S
   have h2:=ihh (vis l S)
   simp only [List.length_append]
   omega
theorem IR (S:List Tr) (t:Tr):S.length<=(dE S t).length:=by
 unfold dE
 split<;>simp
def szs (t:Nat->Tr):Nat:=(t 0).sz+(t 1).sz+(t 2).sz
structure Uo (p:AP) (t:Nat->Tr) (v:Nat):Prop where
 hv:v=aY (t 0) (t 1) (t 2)
 lt:v<64
 il:p.inK (fun i=>lo v (t i))
 ih:p.inK (fun i=>hi v (t i))
 sl:szs (fun i=>lo v (t i))<szs t
 sh:szs (fun i=>hi v (t i))<szs t
 tl:v<(p.res (fun i=>lo v (t i))).top
 th:v<(p.res (fun i=>hi v (t i))).top
 ol:(p.res (fun i=>lo v (t i))).ok
 oh:(p.res (fun i=>hi v (t i))).ok
 res:p.res t=mk v (p.res (fun i=>lo v (t i))) (p.res (fun i=>hi v (t i)))
theorem Uq {p:AP} (hf:AF p) {t:Nat->Tr} (ht:p.inK t) (hv:aY (t 0) (t 1) (t 2)<64):Uo p t (aY (t 0) (t 1) (t 2)):=by
 have h0:=(hf.cl 0 (by omega)).inn_ok ht.1
 have h1:=(hf.cl 1 (by omega)).inn_ok ht.2.1
 have h2:=(hf.cl 2 (by omega)).inn_ok ht.2.2
 have hs:=zE (o:=p.o) h0 h1 h2 hv
 have v1:aY (t 0) (t 1) (t 2)<=(t 0).top:=by unfold aY;omega
 have v2:aY (t 0) (t 1) (t 2)<=(t 1).top:=by unfold aY;omega
 have v3:aY (t 0) (t 1) (t 2)<=(t 2).top:=by unfold aY;omega
 have hcase:aY (t 0) (t 1) (t 2)=(t 0).top\/aY (t 0) (t 1) (t 2)=(t 1).top\/aY (t 0) (t 1) (t 2)=(t 2).top:=by unfold aY;omega
 generalize hw:aY (t 0) (t 1) (t 2)=v at*
 have nl:∀{t:Tr},v=t.top->t.isL=false:=fun {t} e=>by
  cases t with
  |leaf b=>simp only [top] at e;omega
  |node _ _ _=>rfl
 obtain ⟨al1,al2,al3,al4,al5⟩:=cR h0 v1
 obtain ⟨bl1,bl2,bl3,bl4,bl5⟩:=cR h1 v2
 obtain ⟨dl1,dl2,dl3,dl4,dl5⟩:=cR h2 v3
 obtain ⟨ah1,ah2,ah3,ah4,ah5⟩:=cS h0 v1
 obtain ⟨bh1,bh2,bh3,bh4,bh5⟩:=cS h1 v2
 obtain ⟨dh1,dh2,dh3,dh4,dh5⟩:=cS h2 v3
 obtain ⟨l1,l2,l3⟩:=gl (o:=p.o) al1 bl1 dl1
 obtain ⟨g1,g2,g3⟩:=gl (o:=p.o) ah1 bh1 dh1
 refine ⟨hw.symm,hv,⟨(hf.cl 0 (by omega)).inn_lo ht.1 v,(hf.cl 1 (by omega)).inn_lo ht.2.1 v,(hf.cl 2 (by omega)).inn_lo ht.2.2 v⟩,
  ⟨(hf.cl 0 (by omega)).inn_hi ht.1 v,(hf.cl 1 (by omega)).inn_hi ht.2.1 v,(hf.cl 2 (by omega)).inn_hi ht.2.2 v⟩,?_,?_,?_,?_,l1,g1,hs⟩
 ·simp only [szs]
  rcases hcase with e|e|e
  ·have:=al4 e.symm (nl e);omega
  ·have:=bl4 e.symm (nl e);omega
  ·have:=dl4 e.symm (nl e);omega
 ·simp only [szs]
  rcases hcase with e|e|e
  ·have:=ah4 e.symm (nl e);omega
  ·have:=bh4 e.symm (nl e);omega
  ·have:=dh4 e.symm (nl e);omega
 ·have:=al2 hv;have:=bl2 hv;have:=dl2 hv;unfold aY at l2;show v<(ap p.o (lo v (t 0)) (lo v (t 1)) (lo v (t 2))).top;omega
 ·have:=ah2 hv;have:=bh2 hv;have:=dh2 hv;unfold aY at g2;show v<(ap p.o (hi v (t 0)) (hi v (t 1)) (hi v (t 2))).top;omega
theorem kZ {S:List Tr} {t:Tr}:((num S t:Int)<2)↔t.isL=true:=by
 constructor
 ·intro h
  exact tL (S:=S) (by omega)
 ·intro h
  cases t with
  |leaf b=>have:=cd S b;omega
  |node _ _ _=>cases h
section
variable {p:AP} {t:Nat->Tr} {F0 F:PH} {S:List Tr} {n6:Nat}
end
def xf {α:Type} (a b c:α):Nat->α
 |0=>a
 |1=>b
 |_=>c
theorem gD {F:PH} {b e1:Nat} {c4:Array Value} {K:Array Value->PH->Prop} {G:PH} {d:Dia} {cs:Array Value} (hd:DV G cs d) (h4:F b=some (.cells c4 e1 (0,0))) (hc4:c4.size=2) (hk:K cs (F.set b (.cells cs e1))):
  cs.size=2/\(∀v∈cs.toList,ai v)/\∃c e,F (Addr.mk b 0 none).block=some (.cells c e (0,0))/\(Addr.mk b 0 none).spot=none/\(Addr.mk b 0 none).off+2<=c.size/\
   atF (F.set (Addr.mk b 0 none).block (.cells (wr c (Addr.mk b 0 none).off cs.toList) e)) fun F=>∃vres:Array Value,vres.size=2/\F.row (Addr.mk b 0 none) vres/\K vres F:=
 stW h4 hd.size hc4 hd.st ⟨cs,hd.size,aj (an _ _ _),hk⟩
def dX (F:PH) (a:Nat):PH:=fun x=>if x=a then none else F x
theorem AG (F:PH) (a:Nat):(dX F a).le F:=fun x o h=>by
 unfold dX at h
 split at h
 ·cases h
 ·exact h
theorem fS {F:PH} {a x:Nat} (h:x≠a):dX F a x=F x:=by simp [dX,h]
theorem yG (F:PH) (a:Nat):dX F a a=none:=by simp [dX]
theorem fz {F G:PH} {a:Nat} (h:F.le G) (ha:F a=none):F.le (dX G a):=fun x o hx=>by
 have h1:x≠a:=fun e=>by rw [e,ha] at hx;cases hx
 rw [fS h1]
 exact h _ _ hx
theorem ae.avoid {P:Program} {f:FuncId} {args:Array Value} {F:PH} {x:Nat} {o:Obj} {R:Value->PH->Prop} (h:ae P f args (dX F x) R) (hx:F x=some o):
  ae P f args F fun v F'=>∃G,R v G/\G.le F'/\F' x=some o/\G x=none:=
 (h.upon (AG F x)).mono fun v F' ⟨G,hr,hl,hb⟩=>by
  obtain ⟨h1,h2⟩:=hb x o (yG F x) hx
  exact ⟨G,hr,hl,h1,h2⟩
theorem qC {F G F':PH} {x:Nat} {o:Obj} (h:(dX F x).le G) (hl:G.le F') (hx:F' x=some o) (hF:F x=some o):F.le F':=fun b ob hb=>by
 by_cases hbx:b=x
 ·subst hbx
  rw [hF] at hb
  rw [hx]
  exact hb
 ·exact hl _ _ (h _ _ (by rw [fS hbx];exact hb))
section
variable {F:PH} {s0 s1 s2:Sl} {t0 t1 t2:Tr} {opv:Value} {o:Op3}
end
abbrev i7:Dia:=([],0)
abbrev DR:=Dia×Int
open Classical in
noncomputable def tre (d:Dia):Tr:=if h:ip d then h.choose else leaf false
theorem nO {t:Tr} (h:t.ok):tre (dia t)=t:=by
 have hv:ip (dia t):=⟨t,h,rfl⟩
 unfold tre
 rw [dif_pos hv]
 exact (Hr h hv.choose_spec.1 hv.choose_spec.2).symm
theorem Nu {d:Dia} (h:chk d=0):(tre d).ok/\d=dia (tre d)/\d.1.length<=4096:=by
 unfold chk at h
 split at h
 ·cases h
 ·rename_i hl
  split at h
  ·rename_i hv
   unfold tre
   rw [dif_pos hv]
   exact ⟨hv.choose_spec.1,hv.choose_spec.2,by omega⟩
  ·cases h
theorem uD {t:Tr} (h:t.ok) (hl:(aH t).length<=4096):chk (dia t)=0:=by
 unfold chk
 rw [if_neg (by simp only [dia,aO];omega),if_pos ⟨t,h,rfl⟩]
theorem xg {d:Dia} (h:chk d=0):(aH (tre d)).length<=4096:=by
 obtain ⟨_,h2,h3⟩:=Nu h
 rw [h2] at h3
 simpa [dia,aO] using h3
def lim (d:Dia):DR:=if 4096<d.1.length then (i7,2) else (d,0)
abbrev Op2:=Bool->Bool->Bool
def DRV (F:PH) (v:Value) (x:DR):Prop:=∃w,v=.tuple #[.agg w,vi x.2]/\DV F w x.1
theorem DRV.le {F G:PH} {v:Value} {x:DR} (h:DRV F v x) (hl:F.le G):DRV G v x:=by
 obtain ⟨w,h1,h2⟩:=h
 exact ⟨w,h1,h2.le hl⟩
theorem DV.none (F:PH):DV F #[Value.slice none 0 0,Value.int .i64 0] i7:=⟨Sl.nil,rfl,RdS.nil F 3⟩
theorem uE {F:PH} {v:Array Value} {d:Dia} (hd:DV F v d):ae prog 160 #[.agg v] F fun r F'=>DRV F' r (lim d)/\F.le F':=by
 have hd':=hd
 obtain ⟨s,rfl,hr⟩:=hd
 have hlen:=hr.blen
 refine OP ?_
 unfold JL
 intro b1 hb1
 refine atI ?_
 have l1:=ac (.cells #[s.v,vi d.2] 33) hb1
 have h1:=an F b1 (.cells #[s.v,vi d.2] 33)
 generalize F.set b1 (.cells #[s.v,vi d.2] 33)=F1 at*
 intro b2 hb2
 refine atI ?_
 have l2:=l1.trans (ac (.cells #[Value.slice none 0 0,Value.int .i64 0] 33) hb2)
 have n12:b1≠b2:=aG hb2 h1
 have f2:F b2=none:=aV l1 hb2
 refine ⟨s,by rw [am ((az _ _ n12).trans h1)];rfl,fun h=> ?_,fun h=> ?_⟩
 ·refine gD (K:=fun vres F'=>DRV F' (.tuple #[.agg vres,vi 2]) (lim d)/\F.le F') (DV.none F) (an _ _ _) rfl ⟨?_,aw l2 f2⟩
  unfold lim
  rw [if_pos (by omega)]
  exact ⟨_,rfl,DV.none _⟩
 ·refine ⟨#[s.v,vi d.2],rfl,aj ((az _ _ n12).trans h1),?_⟩
  refine gD (K:=fun vres F'=>DRV F' (.tuple #[.agg vres,vi 0]) (lim d)/\F.le F') hd' (an _ _ _) rfl ⟨?_,aw l2 f2⟩
  unfold lim
  rw [if_neg (by omega)]
  exact ⟨_,rfl,hd'.le (aw l2 f2)⟩
section
variable {F:PH} {v w:Array Value} {a b:Dia} {opv:Value} {o:Op2}
end
theorem DV.beside {F G:PH} {x:Nat} {w:Array Value} {d:Dia} (h:DV G w d) (hl:G.le F) (hx:G x=Option.none):DV (dX F x) w d:=
 h.le fun y ob hy=>by
  rw [fS (fun e=>by rw [e,hx] at hy;cases hy)]
  exact hl _ _ hy
theorem FM {f:FuncId} {args:Array Value} {F:PH} {x:Nat} {o:Obj} {y:DR} (h:ae prog f args (dX F x) fun r F'=>DRV F' r y/\(dX F x).le F') (hx:F x=some o):
  ae prog f args F fun r F'=>∃w,r=.tuple #[.agg w,vi y.2]/\(∃G,DV G w y.1/\G.le F'/\G x=none)/\F.le F'/\F' x=some o:=
 (ae.avoid h hx).mono fun r F' ⟨G,⟨⟨w,hr,hw⟩,lg⟩,lG,q,g⟩=>⟨w,hr,⟨G,hw,lG,g⟩,qC lg lG q hx,q⟩
theorem fU {f:FuncId} {args:Array Value} {F:PH} {x:Nat} {o:Obj} {d:Dia} (h:ae prog f args (dX F x) fun r F'=>∃w,r=.agg w/\DV F' w d/\(dX F x).le F') (hx:F x=some o):
  ae prog f args F fun r F'=>∃w,r=.agg w/\(∃G,DV G w d/\G.le F'/\G x=none)/\F.le F'/\F' x=some o:=
 (ae.avoid h hx).mono fun r F' ⟨G,⟨w,hr,hw,lg⟩,lG,q,g⟩=>⟨w,hr,⟨G,hw,lG,g⟩,qC lg lG q hx,q⟩
theorem PO {F G F0:PH} {b e1:Nat} {c4:Array Value} {y:DR} {w:Array Value} (hw:DV G w y.1) (hl:G.le F) (hg:G b=none) (h4:F b=some (.cells c4 e1 (0,0))) (hc4:c4.size=2) (h0:F0.le F) (hb:F0 b=none):
  w.size=2/\(∀v∈w.toList,ai v)/\∃c e,F (Addr.mk b 0 none).block=some (.cells c e (0,0))/\(Addr.mk b 0 none).spot=none/\(Addr.mk b 0 none).off+2<=c.size/\
   atF (F.set (Addr.mk b 0 none).block (.cells (wr c (Addr.mk b 0 none).off w.toList) e)) fun F=>∃vres:Array Value,vres.size=2/\F.row (Addr.mk b 0 none) vres/\DRV F (.tuple #[.agg vres,vi y.2]) y/\F0.le F:=
 gD (K:=fun vres F'=>DRV F' (.tuple #[.agg vres,vi y.2]) y/\F0.le F') hw h4 hc4 ⟨⟨_,rfl,hw.le (aw hl hg)⟩,aw h0 hb⟩
theorem yH {F F0:PH} {b e1:Nat} {c4:Array Value} {er:Int} (h4:F b=some (.cells c4 e1 (0,0))) (hc4:c4.size=2) (h0:F0.le F) (hb:F0 b=none):
  (#[Value.slice none 0 0,Value.int .i64 0]:Array Value).size=2/\(∀v∈(#[Value.slice none 0 0,Value.int .i64 0]:Array Value).toList,ai v)/\∃c e,F (Addr.mk b 0 none).block=some (.cells c e (0,0))/\(Addr.mk b 0 none).spot=none/\(Addr.mk b 0 none).off+2<=c.size/\
   atF (F.set (Addr.mk b 0 none).block (.cells (wr c (Addr.mk b 0 none).off (#[Value.slice none 0 0,Value.int .i64 0]:Array Value).toList) e)) fun F=>∃vres:Array Value,vres.size=2/\F.row (Addr.mk b 0 none) vres/\DRV F (.tuple #[.agg vres,vi er]) (i7,er)/\F0.le F:=
 gD (K:=fun vres F'=>DRV F' (.tuple #[.agg vres,vi er]) (i7,er)/\F0.le F') (DV.none F) h4 hc4 ⟨⟨_,rfl,DV.none _⟩,aw h0 hb⟩
abbrev i8:Op2:=fun x y=>x && y
abbrev oOr:Op2:=fun x y=>x || y
abbrev i9:Op2:=fun x y=> !(x==y)
section
variable {F:PH} {v w u:Array Value} {a b c:Dia}
abbrev tv (v:Nat):Tr:=node v (leaf false) (leaf true)
theorem Nv (v:Nat):dia (tv v)=([⟨(v:Int),0,1⟩],2):=by
 have e:aH (tv v)=[tv v]:=by simp [aH,vis,tv]
 unfold dia
 rw [e]
 simp [brs,br,num,tv]
theorem PP {v:Nat} (h:v<64):(tv v).ok:=⟨h,h,h,by simp,trivial,trivial⟩
theorem gi (x:Bool):ae prog 30 #[.bool x] F fun r F'=>∃w,r=.agg w/\DV F' w (dia (leaf x))/\F.le F':=by
 refine TM ?_
 unfold OK
 intro b2 hb2
 refine atI ?_
 have l2:=ac (.cells #[Value.slice none 0 0,Value.int .i64 0] 33) hb2
 have q2:=an F b2 (.cells #[Value.slice none 0 0,Value.int .i64 0] 33)
 refine ⟨fun h=> ?_,fun h=> ?_⟩
 ·subst h
  have hd:∀G:PH,DV G #[Value.slice none 0 0,Value.int .i64 1] (dia (leaf true)):=fun G=>⟨Sl.nil,rfl,RdS.nil G 3⟩
  exact gD (K:=fun vres F'=>∃w,Value.agg vres=.agg w/\DV F' w (dia (leaf true))/\F.le F') (hd F) q2 rfl ⟨_,rfl,hd _,aw l2 hb2⟩
 ·subst h
  have hd:∀G:PH,DV G #[Value.slice none 0 0,Value.int .i64 0] (dia (leaf false)):=fun G=>⟨Sl.nil,rfl,RdS.nil G 3⟩
  exact gD (K:=fun vres F'=>∃w,Value.agg vres=.agg w/\DV F' w (dia (leaf false))/\F.le F') (hd F) q2 rfl ⟨_,rfl,hd _,aw l2 hb2⟩
def rN (v:Int):DR:=if v<0\/63<v then (i7,1) else (dia (tv v.toNat),0)
end
end Go.Proofs.YtenpmjhnhepfdaaGreatDoor
