/-
  The diagrams: complement, intersection, union, symmetric difference, choice; constants and conditions.
-/
import Derived.Test.YtenpmjhnhepfdaaGreatDoorEe
import Derived.Test.YtenpmjhnhepfdaaGreatDoorEa
namespace Go.Proofs.YtenpmjhnhepfdaaGreatDoor
open Go Go.Proofs.Tryz Tr
set_option maxRecDepth 10000
def gH (d:Dia):Prop:=∃t:Tr,t.ok∧d=dia t
open Classical in
noncomputable def chk (d:Dia):Int:=if 4096<d.1.length then 2 else if gH d then 0 else 20
def uM (S:List Tr) (b:Br):Prop:=∃(v:Nat) (l h:Tr),b=⟨(v:Int),(num S l:Int),(num S h:Int)⟩∧inn S l∧inn S h∧(node v l h).ok∧node v l h ∉ S
theorem wz {T:List Tr} (hT:Cl T):∀k,k<T.length→Cl (T.take k)∧∃v l h,T[k]? =some (node v l h)∧inn (T.take k) l∧inn (T.take k) h∧(node v l h).ok∧node v l h ∉ T.take k:=by
 induction hT with
 |nil=>intro k hk;simp at hk
 | @snoc S v l h hS hl hh hok hn ih=>
  intro k hk
  by_cases hks:k<S.length
  ·obtain ⟨h1,v',l',h',h2,h3,h4,h5,h6⟩:=ih k hks
   rw [List.take_append_of_le_length (by omega)]
   exact ⟨h1,v',l',h',by rw [List.getElem?_append_left hks];exact h2,h3,h4,h5,h6⟩
  ·have e:k=S.length:=by simp at hk;omega
   subst e
   rw [List.take_left' rfl]
   exact ⟨hS,v,l,h,by simp,hl,hh,hok,hn⟩
theorem ke {T:List Tr} {k:Nat} {t:Tr} (h:inn (T.take k) t):num T t=num (T.take k) t:=by
 have:=bF (X:=T.drop k) h
 rw [List.take_append_drop] at this
 exact this
theorem Cx {T:List Tr} (hT:Cl T) (k:Nat):brs (T.take k)=(brs T).take k:=by
 by_cases hk:k<T.length
 ·have h:=oE (X:=T.drop k) (wz hT k hk).1
  rw [List.take_append_drop] at h
  rw [h,List.take_left' (by rw [aO,List.length_take];omega)]
 ·rw [List.take_of_length_le (by omega),List.take_of_length_le (by rw [aO];omega)]
theorem sP {S0:List Tr} (h0:Cl S0):∀(t:Tr) (S:List Tr),inn S0 t→(∀x∈S,x∈S0)→∀x∈vis t S,x∈S0
 |leaf _,_,_,hs=>hs
 |node v l h,S,ht,hs=>by
  obtain ⟨hl,hh⟩:=h0.inn_kids ht
  unfold vis
  split
  ·exact hs
  ·intro x hx
   rcases List.mem_append.1 hx with hx|hx
   ·exact sP h0 h _ hh (sP h0 l S hl hs) x hx
   ·rw [List.mem_singleton.1 hx]
    exact co ht rfl
theorem EV {S0:List Tr} (h0:Cl S0) {t:Tr} (ht:inn S0 t):(aL t).length≤S0.length:=
 cW _ _ (cu (h0.inn_ok ht)).nodup (sP h0 t [] ht (fun x hx=>by cases hx))
theorem jg {d:Dia} (hv:gH d) {S:List Tr} (hS:Cl S) {k:Nat} (hk:S.length=k) (hkd:k<d.1.length) (hb:brs S=d.1.take k):uM S d.1[k]:=by
 obtain ⟨t,ht,rfl⟩:=hv
 have hT:=cu ht
 have hl:k<(aL t).length:=by simpa [dia,aO] using hkd
 obtain ⟨h1,v,l,h,h2,h3,h4,h5,h6⟩:=wz hT k hl
 have e:S=(aL t).take k:=mN hS h1 (by rw [hb,Cx hT];rfl)
 subst e
 refine ⟨v,l,h,?_,h3,h4,h5,h6⟩
 have hg:=jW h2
 have e2:(brs (aL t))[k]? =some (dia t).1[k]:=List.getElem?_eq_getElem (by simpa [dia] using hkd)
 rw [e2] at hg
 rw [Option.some.inj hg]
 simp only [br]
 rw [ke h3,ke h4]
theorem bP {S:List Tr} (hS:Cl S) {b:Br} (h:uM S b):0≤b.v∧b.v≤63∧0≤b.l∧0≤b.h∧b.l≤S.length+1∧b.h≤S.length+1∧b.l≠b.h∧b ∉ brs S∧
  b.v<(tr S b.l.toNat).top∧b.v<(tr S b.h.toNat).top:=by
 obtain ⟨v,l,h,rfl,hl,hh,⟨o1,o2,o3,o4,o5,o6⟩,hn⟩:=h
 have h1:=cq hl
 have h2:=cq hh
 refine ⟨by simp,by simp only;omega,by simp,by simp,by simp only;omega,by simp only;omega,fun e=>o4 (cT hl hh (by simp only at e;omega)),fun hm=>hn ((gy hS hl hh).1 hm),?_,?_⟩
 ·simp only [Int.toNat_natCast,fz hS hl];omega
 ·simp only [Int.toNat_natCast,fz hS hh];omega
theorem xW {S:List Tr} (hS:Cl S) {b:Br} (h1:0≤b.v) (h2:b.v≤63) (h3:0≤b.l) (h4:0≤b.h) (h5:b.l≤S.length+1) (h6:b.h≤S.length+1) (h7:b.l≠b.h) (h8:b ∉ brs S)
  (h9:b.v<(tr S b.l.toNat).top) (h10:b.v<(tr S b.h.toNat).top):uM S b:=by
 have il:inn S (tr S b.l.toNat):=fw (by omega)
 have ih:inn S (tr S b.h.toNat):=fw (by omega)
 have nl:=eW hS (n:=b.l.toNat) (by omega)
 have nh:=eW hS (n:=b.h.toNat) (by omega)
 have e:b=⟨((b.v.toNat:Nat):Int),((num S (tr S b.l.toNat):Nat):Int),((num S (tr S b.h.toNat):Nat):Int)⟩:=by
  rw [nl,nh]
  obtain ⟨x,y,z⟩:=b
  simp only [Br.mk.injEq]
  simp only at*
  omega
 refine ⟨b.v.toNat,_,_,e,il,ih,⟨by omega,by omega,by omega,fun he=> ?_,hS.inn_ok il,hS.inn_ok ih⟩,fun hm=>h8 ?_⟩
 ·rw [he] at nl;omega
 ·rw [e]
  exact (gy hS il ih).2 hm
def kmS (S:List Tr) (x:Br):Option Value:=if x∈brs S then some (.bool true) else none
theorem Cy {S:List Tr} {b:Br} {S':List Tr} (h:brs S'=brs S++[b]):kmS S'=fun x=>if x=b then some (.bool true) else kmS S x:=by
 funext x
 unfold kmS
 rw [h]
 by_cases hx:x=b<;>by_cases hm:x∈brs S<;>simp [hx,hm]
section
variable {F:PH} {v:Array Value} {d:Dia}
theorem o8 (hd:DV F v d):ac prog 99 #[.agg v] F fun r F'=>r=vi (chk d)∧F.le F':=by
 have hd':=hd
 obtain ⟨s,rfl,hr⟩:=hd
 have hlen:=hr.blen
 refine PT ?_
 unfold Mn
 intro b1 hb1
 refine atI ?_
 have l1:=ae (.cells #[s.v,vi d.2] 33) hb1
 have h1:=an F b1 (.cells #[s.v,vi d.2] 33)
 generalize F.set b1 (.cells #[s.v,vi d.2] 33)=G at*
 refine ⟨s,by rw [am h1];rfl,fun hbig=> ?_,fun hbig=> ?_⟩
 ·refine ⟨?_,l1⟩
  unfold chk
  rw [if_pos (by omega)]
 have hsm:d.1.length≤4096:=by omega
 intro b11 hb11
 refine atI ?_
 refine ⟨s,by rw [am (ae _ hb11 _ _ h1)];rfl,?_⟩
 have fin:∀{F':PH},G.le F'→¬gH d→(vi 20=vi (chk d)∧F.le F'):=fun {F'} hl hn=>by
  refine ⟨?_,l1.trans hl⟩
  unfold chk
  rw [if_neg (by omega),if_neg hn]
 refine ⟨fun m i F'=>∃(k:Nat) (S:List Tr),i=k∧k≤d.1.length∧m=d.1.length - k∧Cl S∧S.length=k∧brs S=d.1.take k∧G.le F'∧∃o,F' b11=some o∧fU wE (kmS S) o,d.1.length,
  ⟨0,[],rfl,by omega,rfl,.nil,rfl,rfl,ae _ hb11,_,an _ _ _,fU.empty wE⟩,?_⟩
 rintro m i F1 ⟨k,S,rfl,hk,rfl,hS,hSk,hSb,hle,o,hm,hmo⟩
 unfold C3
 refine ⟨fun hlt=> ?_,fun hge=> ?_⟩
 ·have hkd:k<d.1.length:=by omega
  obtain ⟨a,ha,hrow,_⟩:=rdb (hr.le (l1.trans hle)) (List.getElem?_eq_getElem hkd)
  have hbad:¬uM S d.1[k]→¬gH d:=fun hn hv=>hn (jg hv hS hSk hkd hSb)
  have hfits:=bP hS (b:=d.1[k])
  have hof:=xW hS (b:=d.1[k])
  refine ⟨a,ha,by omega,hlt,aP d.1[k],rfl,by simpa using hrow,?_⟩
  generalize hB:d.1[k]=B at*
  intro b5 hb5
  refine atI ?_
  refine stW (an _ _ _) rfl rfl (iT _) ?_
  rw [ba]
  have l5:=ae (.cells (aP B) 103) hb5
  have h5:=an F1 b5 (.cells (aP B) 103)
  replace hm:=l5 _ _ hm
  replace hle:=hle.trans l5
  generalize F1.set b5 (.cells (aP B) 103)=F2 at*
  have c0:F2.cell ⟨b5,0,none⟩=some (vi B.v):=by rw [am h5];rfl
  have c1:F2.cell ⟨b5,1,none⟩=some (vi B.l):=by rw [am h5];rfl
  have c2:F2.cell ⟨b5,2,none⟩=some (vi B.h):=by rw [am h5];rfl
  refine ⟨_,c0,fun h=>fin hle (hbad fun hf=> ?_),fun g1=> ?_⟩
  ·have:=(hfits hf).1;omega
  refine ⟨_,c0,fun h=>fin hle (hbad fun hf=> ?_),fun g2=> ?_⟩
  ·have:=(hfits hf).2.1;omega
  refine ⟨_,c1,fun h=>fin hle (hbad fun hf=> ?_),fun g3=> ?_⟩
  ·have:=(hfits hf).2.2.1;omega
  refine ⟨_,c2,fun h=>fin hle (hbad fun hf=> ?_),fun g4=> ?_⟩
  ·have:=(hfits hf).2.2.2.1;omega
  have hw:IntKind.i64.wrap ((k:Int)+1)=((k+1:Nat):Int):=i6 (by omega)
  rw [hw]
  refine ⟨_,c1,fun h=>fin hle (hbad fun hf=> ?_),fun g5=> ?_⟩
  ·have:=(hfits hf).2.2.2.2.1;omega
  refine ⟨_,c2,fun h=>fin hle (hbad fun hf=> ?_),fun g6=> ?_⟩
  ·have:=(hfits hf).2.2.2.2.2.1;omega
  refine ⟨_,c1,_,c2,fun h=>fin hle (hbad fun hf=> ?_),fun g7=> ?_⟩
  ·exact (hfits hf).2.2.2.2.2.2.1 h
  have hlk:=dp (F:=F2) mtK hm hmo B false
  refine ⟨aP B,rfl,ak h5,decide (B∈brs S),?_,fun h=>fin hle (hbad fun hf=> ?_),fun g8=> ?_⟩
  ·unfold kmS at hlk
   by_cases hx:B∈brs S
   ·rw [if_pos hx] at hlk
    simpa [hx] using hlk
   ·rw [if_neg hx] at hlk
    simpa [hx] using hlk
  ·exact (hfits hf).2.2.2.2.2.2.2.1 (by simpa using h)
  have g8':B ∉ brs S:=by simpa using g8
  have hpre:brs S<+:d.1:=by rw [hSb];exact List.take_prefix _ _
  have il:inn S (tr S B.l.toNat):=fw (by omega)
  have ih:inn S (tr S B.h.toNat):=fw (by omega)
  have nl:=eW hS (n:=B.l.toNat) (by omega)
  have nh:=eW hS (n:=B.h.toNat) (by omega)
  have el:Value.int .i64 B.l=vi (num S (tr S B.l.toNat)):=by rw [nl];congr 1;omega
  have eh:Value.int .i64 B.h=vi (num S (tr S B.h.toNat)):=by rw [nh];congr 1;omega
  refine ⟨_,rfl,ak (hle _ _ h1),_,c1,_,c0,?_⟩
  rw [el]
  refine (po (hd'.le (l1.trans hle)) hpre il (by omega)).mono ?_
  rintro _ F3 ⟨rfl,l3⟩
  refine ⟨_,rfl,aq l3 c0,fun h=>fin (hle.trans l3) (hbad fun hf=> ?_),fun g9=> ?_⟩
  ·have:=(hfits hf).2.2.2.2.2.2.2.2.1;omega
  refine ⟨_,rfl,ak ((hle.trans l3) _ _ h1),_,aq l3 c2,_,aq l3 c0,?_⟩
  rw [eh]
  refine (po (hd'.le (l1.trans (hle.trans l3))) hpre ih (by omega)).mono ?_
  rintro _ F4 ⟨rfl,l4⟩
  refine ⟨_,rfl,aq l4 (aq l3 c0),aq l4 (aq l3 c0),fun h=>fin ((hle.trans l3).trans l4) (hbad fun hf=> ?_),fun g10=> ?_⟩
  ·have:=(hfits hf).2.2.2.2.2.2.2.2.2;omega
  have hF:=hof (by omega) (by omega) (by omega) (by omega) (by omega) (by omega) g7 g8' (by omega) (by omega)
  refine ⟨aP B,rfl,ak (l4 _ _ (l3 _ _ h5)),?_⟩
  refine bD mtK (l4 _ _ (l3 _ _ hm)) hmo B _ fun o' ho'=> ?_
  obtain ⟨v,l,h,e,hl,hh,hok,hn⟩:=hF
  have e2:brs (S++[node v l h])=brs S++[B]:=by rw [dO hS hl hh,e]
  rw [← Cy e2] at ho'
  have hg11:G b11=none:=hb11
  refine ⟨d.1.length - (k+1),by omega,k+1,S++[node v l h],rfl,by omega,rfl,.snoc hS hl hh hok hn,by simp [hSk],?_,aw ((hle.trans l3).trans l4) hg11,o',an _ _ _,ho'⟩
  rw [e2,hSb,List.take_succ_eq_append_getElem hkd,hB]
 ·unfold C2
  have hk':k=d.1.length:=by omega
  have hSd:brs S=d.1:=by rw [hSb,hk',List.take_length]
  have cr:F1.cell ⟨b1,1,none⟩=some (vi d.2):=by rw [am (hle _ _ h1)];rfl
  have cs:F1.cell ⟨b1,0,none⟩=some s.v:=by rw [am (hle _ _ h1)];rfl
  have key:∀t,t.ok→d=dia t→S=aL t∧d.2=num S t:=fun t ht e=>by
   subst e
   have:=mN hS (cu ht) hSd
   exact ⟨this,by rw [this];rfl⟩
  have hrange:gH d→0≤d.2∧d.2≤(d.1.length:Int)+1:=by
   rintro ⟨t,ht,e⟩
   obtain ⟨h1,h2⟩:=key t ht e
   have h3:inn S t:=by rw [h1];exact ca ht
   have:=cq h3
   omega
  refine ⟨_,cr,fun h=>fin hle (fun hv=>by have:=(hrange hv).1;omega),fun g1=> ?_⟩
  have hw:IntKind.i64.wrap ((s.len:Int)+1)=((d.1.length+1:Nat):Int):=by rw [hlen];exact i6 (by omega)
  refine ⟨_,cr,s,cs,?_⟩
  dsimp only
  rw [hw]
  refine ⟨fun h=>fin hle (fun hv=>by have:=(hrange hv).2;omega),fun g2=> ?_⟩
  refine ⟨s,cs,?_⟩
  intro b98 hb98
  refine atI ?_
  have l98:=ae (.cells #[s.v,Value.map none] 228) hb98
  have h98:=an F1 b98 (.cells #[s.v,Value.map none] 228)
  replace hle:=hle.trans l98
  generalize F1.set b98 (.cells #[s.v,Value.map none] 228)=F2 at*
  refine ⟨_,aq l98 cr,?_⟩
  have it:inn S (tr S d.2.toNat):=fw (by omega)
  have nt:=eW hS (n:=d.2.toNat) (by omega)
  have et:Value.int .i64 d.2=vi (num S (tr S d.2.toNat)):=by rw [nt];congr 1;omega
  dsimp only
  rw [et]
  refine (ki (by rw [am h98];rfl) (by rw [hSd];exact hr.le (l1.trans hle)) hS it (by omega)).mono ?_
  rintro _ F3 ⟨w,rfl,hw,l3⟩
  refine ⟨_,rfl,?_⟩
  intro b6 hb6
  refine atI ?_
  refine stW (an _ _ _) hw.size rfl hw.st ?_
  rw [ba]
  have l6:=ae (.cells w 33) hb6
  have h6:=an F3 b6 (.cells w 33)
  replace hle:=(hle.trans l3).trans l6
  replace hw:=hw.le l6
  generalize F3.set b6 (.cells w 33)=F4 at*
  refine ⟨w,hw.size,ak h6,_,rfl,ak (hle _ _ h1),?_⟩
  have hok:=hS.inn_ok it
  refine (rk hw (hd'.le (l1.trans hle)) (by
   have:=EV hS it
   simp only [dia,aO]
   omega)).mono ?_
  rintro _ F5 ⟨rfl,l5⟩
  refine ⟨_,rfl,fun h=>fin (hle.trans l5) ?_,fun h=> ?_⟩
  ·rintro ⟨t,ht,e⟩
   obtain ⟨k1,k2⟩:=key t ht e
   have:tr S d.2.toNat=t:=by
    rw [k2,Int.toNat_natCast]
    exact fz hS (by rw [k1];exact ca ht)
   rw [this,← e] at h
   simp at h
  ·refine ⟨?_,l1.trans (hle.trans l5)⟩
   have:dia (tr S d.2.toNat)=d:=by simpa using h
   unfold chk
   rw [if_neg (by omega),if_pos ⟨_,hok,this.symm⟩]
end
theorem BD.weaken {F0 F1 F:PH} {b m:Nat} {S:List Tr} (h:BD F1 F b m S) (hl:F0.le F1):BD F0 F b m S:=by
 obtain ⟨h1,h2,h3,h4,⟨s,h5,h6,h7⟩,h8⟩:=h
 exact ⟨hl.trans h1,h2,aU hl h3,aU hl h4,⟨s,h5,h6,fun a ha=>aU hl (h7 a ha)⟩,h8⟩
theorem BD.upto {F0 F G:PH} {b m:Nat} {S:List Tr} (h:BD F0 F b m S) (hl:F.le G):BD F0 G b m S:=by
 obtain ⟨h1,h2,h3,h4,⟨s,h5,h6,h7⟩,o,h8,h9⟩:=h
 exact ⟨h1.trans hl,h2,h3,h4,⟨s,hl _ _ h5,h6.upto hl,h7⟩,o,hl _ _ h8,h9⟩
theorem BD.grow {F0 G F:PH} {b m x:Nat} {o:Obj} {S:List Tr} (h:BD F0 G b m S) (hl:G.le F) (hx:G x=none) (ho:F x=some o):BD (F0.set x o) F b m S:=by
 obtain ⟨h1,h2,h3,h4,⟨s,h5,h6,h7⟩,o',h8,h9⟩:=h
 refine ⟨fun y oy hy=> ?_,h2,?_,?_,⟨s,hl _ _ h5,h6.upto hl,fun a ha=> ?_⟩,o',hl _ _ h8,h9⟩
 ·by_cases hyx:y=x
  ·subst hyx;rw [an] at hy;rw [ho];exact hy
  ·rw [az _ _ hyx] at hy;exact hl _ _ (h1 _ _ hy)
 ·rw [az _ _ (aG hx h5)];exact h3
 ·rw [az _ _ (aG hx h8)];exact h4
 ·obtain ⟨cur,hcur⟩:=h6.elem ha
  rw [az _ _ (aG hx hcur)]
  exact h7 a ha
theorem BD.other {F0 F:PH} {b m x:Nat} {o:Obj} {S:List Tr} (h:BD F0 F b m S) (h0:F0 x=none) (hb:b≠x) (hm:m≠x) (hc:∀c e fr,F x≠some (.cells c e fr)):BD F0 (F.set x o) b m S:=by
 obtain ⟨h1,h2,h3,h4,⟨s,h5,h6,h7⟩,o',h8,h9⟩:=h
 refine ⟨aw h1 h0,h2,h3,h4,⟨s,by rw [az _ _ hb];exact h5,h6.keep fun a ha=>az _ _ (fun e=> ?_),h7⟩,o',by rw [az _ _ hm];exact h8,h9⟩
 obtain ⟨cur,hcur⟩:=h6.elem ha
 rw [e] at hcur
 exact hc _ _ _ hcur
structure AP where
 b3:Nat
 b6:Nat
 b2:Nat
 b7:Nat
 b5:Nat
 bb:Nat
 mm:Nat
 b9:Nat
 opv:Value
 o:Op3
 dd:Nat→Dia
 SS:Nat→List Tr
def AP.key (p:AP) (t:Nat→Tr):Int×Int×Int:=((num (p.SS 0) (t 0):Int),(num (p.SS 1) (t 1):Int),(num (p.SS 2) (t 2):Int))
noncomputable def AP.res (p:AP) (t:Nat→Tr):Tr:=ap p.o (t 0) (t 1) (t 2)
def AP.inK (p:AP) (t:Nat→Tr):Prop:=inn (p.SS 0) (t 0)∧inn (p.SS 1) (t 1)∧inn (p.SS 2) (t 2)
structure AF (p:AP):Prop where
 cl:∀i,i<3→Cl (p.SS i)
 pre:∀i,i<3→brs (p.SS i)<+:(p.dd i).1
 fit:∀i,i<3→Fit ((p.dd i).1.length+2)
theorem lK {F G:PH} (h:F.le G) {a:Addr} {cs:Array Value} (hr:F.row a cs):G.row a cs:=fun i hi=>aq h (hr i hi)
theorem Cz (t:Tr) (S:List Tr):S.length≤(vis t S).length:=by
 induction t generalizing S with
 |leaf b=>exact Nat.le_refl _
 |node v l h ihl ihh=>
  unfold vis
  split
  ·exact Nat.le_refl _
  ·have h1:=ihl S
   have h2:=ihh (vis l S)
   simp only [List.length_append]
   omega
theorem EW (S:List Tr) (t:Tr):S.length≤(de S t).length:=by
 unfold de
 split<;>simp
def szs (t:Nat→Tr):Nat:=(t 0).sz+(t 1).sz+(t 2).sz
structure PG (p:AP) (t:Nat→Tr) (v:Nat):Prop where
 hv:v=aZ (t 0) (t 1) (t 2)
 lt:v<64
 il:p.inK (fun i=>lo v (t i))
 ih:p.inK (fun i=>hi v (t i))
 sl:szs (fun i=>lo v (t i))<szs t
 sh:szs (fun i=>hi v (t i))<szs t
 tl:v<(p.res (fun i=>lo v (t i))).top
 th:v<(p.res (fun i=>hi v (t i))).top
 ol:(p.res (fun i=>lo v (t i))).ok
 oh:(p.res (fun i=>hi v (t i))).ok
 res:p.res t=mk v (p.res (fun i=>lo v (t i))) (p.res (fun i=>hi v (t i)))
theorem PI {p:AP} (hf:AF p) {t:Nat→Tr} (ht:p.inK t) (hv:aZ (t 0) (t 1) (t 2)<64):PG p t (aZ (t 0) (t 1) (t 2)):=by
 have h0:=(hf.cl 0 (by omega)).inn_ok ht.1
 have h1:=(hf.cl 1 (by omega)).inn_ok ht.2.1
 have h2:=(hf.cl 2 (by omega)).inn_ok ht.2.2
 have hs:=xK (o:=p.o) h0 h1 h2 hv
 have v1:aZ (t 0) (t 1) (t 2)≤(t 0).top:=by unfold aZ;omega
 have v2:aZ (t 0) (t 1) (t 2)≤(t 1).top:=by unfold aZ;omega
 have v3:aZ (t 0) (t 1) (t 2)≤(t 2).top:=by unfold aZ;omega
 have hcase:aZ (t 0) (t 1) (t 2)=(t 0).top∨aZ (t 0) (t 1) (t 2)=(t 1).top∨aZ (t 0) (t 1) (t 2)=(t 2).top:=by unfold aZ;omega
 generalize hw:aZ (t 0) (t 1) (t 2)=v at*
 have nl:∀{t:Tr},v=t.top→t.isL=false:=fun {t} e=>by
  cases t with
  |leaf b=>simp only [top] at e;omega
  |node _ _ _=>rfl
 obtain ⟨al1,al2,al3,al4,al5⟩:=cC h0 v1
 obtain ⟨bl1,bl2,bl3,bl4,bl5⟩:=cC h1 v2
 obtain ⟨dl1,dl2,dl3,dl4,dl5⟩:=cC h2 v3
 obtain ⟨ah1,ah2,ah3,ah4,ah5⟩:=cD h0 v1
 obtain ⟨bh1,bh2,bh3,bh4,bh5⟩:=cD h1 v2
 obtain ⟨dh1,dh2,dh3,dh4,dh5⟩:=cD h2 v3
 obtain ⟨l1,l2,l3⟩:=fV (o:=p.o) al1 bl1 dl1
 obtain ⟨g1,g2,g3⟩:=fV (o:=p.o) ah1 bh1 dh1
 refine ⟨hw.symm,hv,⟨(hf.cl 0 (by omega)).inn_lo ht.1 v,(hf.cl 1 (by omega)).inn_lo ht.2.1 v,(hf.cl 2 (by omega)).inn_lo ht.2.2 v⟩,
  ⟨(hf.cl 0 (by omega)).inn_hi ht.1 v,(hf.cl 1 (by omega)).inn_hi ht.2.1 v,(hf.cl 2 (by omega)).inn_hi ht.2.2 v⟩,?_,?_,?_,?_,l1,g1,hs⟩
 ·simp only [szs]
  rcases hcase with e|e|e
  ·have:=al4 e.symm (nl e);omega
  ·have:=bl4 e.symm (nl e);omega
  ·have:=dl4 e.symm (nl e);omega
 ·simp only [szs]
  rcases hcase with e|e|e
  ·have:=ah4 e.symm (nl e);omega
  ·have:=bh4 e.symm (nl e);omega
  ·have:=dh4 e.symm (nl e);omega
 ·have:=al2 hv;have:=bl2 hv;have:=dl2 hv;unfold aZ at l2;show v<(ap p.o (lo v (t 0)) (lo v (t 1)) (lo v (t 2))).top;omega
 ·have:=ah2 hv;have:=bh2 hv;have:=dh2 hv;unfold aZ at g2;show v<(ap p.o (hi v (t 0)) (hi v (t 1)) (hi v (t 2))).top;omega
theorem kf {S:List Tr} {t:Tr}:((num S t:Int)<2)↔t.isL=true:=by
 constructor
 ·intro h
  exact su (S:=S) (by omega)
 ·intro h
  cases t with
  |leaf b=>have:=cM S b;omega
  |node _ _ _=>cases h
section
variable {p:AP} {t:Nat→Tr} {F0 F:PH} {S:List Tr} {n6:Nat}
end
def uN {α:Type} (a b c:α):Nat→α
 |0=>a
 |1=>b
 |_=>c
theorem fW {F:PH} {b e1:Nat} {c4:Array Value} {K:Array Value→PH→Prop} {G:PH} {d:Dia} {cs:Array Value} (hd:DV G cs d) (h4:F b=some (.cells c4 e1 (0,0))) (hc4:c4.size=2) (hk:K cs (F.set b (.cells cs e1))):
  cs.size=2∧(∀v∈cs.toList,aj v)∧∃c e,F (Addr.mk b 0 none).block=some (.cells c e (0,0))∧(Addr.mk b 0 none).spot=none∧(Addr.mk b 0 none).off+2≤c.size∧
   atF (F.set (Addr.mk b 0 none).block (.cells (wr c (Addr.mk b 0 none).off cs.toList) e)) fun F=>∃vres:Array Value,vres.size=2∧F.row (Addr.mk b 0 none) vres∧K vres F:=
 stW h4 hd.size hc4 hd.st ⟨cs,hd.size,ak (an _ _ _),hk⟩
def dy (F:PH) (a:Nat):PH:=fun x=>if x=a then none else F x
theorem xX (F:PH) (a:Nat):(dy F a).le F:=fun x o h=>by
 unfold dy at h
 split at h
 ·cases h
 ·exact h
theorem fc {F:PH} {a x:Nat} (h:x≠a):dy F a x=F x:=by simp [dy,h]
theorem wA (F:PH) (a:Nat):dy F a a=none:=by simp [dy]
theorem eO {F G:PH} {a:Nat} (h:F.le G) (ha:F a=none):F.le (dy G a):=fun x o hx=>by
 have h1:x≠a:=fun e=>by rw [e,ha] at hx;cases hx
 rw [fc h1]
 exact h _ _ hx
theorem ac.avoid {P:Program} {f:FuncId} {args:Array Value} {F:PH} {x:Nat} {o:Obj} {R:Value→PH→Prop} (h:ac P f args (dy F x) R) (hx:F x=some o):
  ac P f args F fun v F'=>∃G,R v G∧G.le F'∧F' x=some o∧G x=none:=
 (h.upon (xX F x)).mono fun v F' ⟨G,hr,hl,hb⟩=>by
  obtain ⟨h1,h2⟩:=hb x o (wA F x) hx
  exact ⟨G,hr,hl,h1,h2⟩
theorem o9 {F G F':PH} {x:Nat} {o:Obj} (h:(dy F x).le G) (hl:G.le F') (hx:F' x=some o) (hF:F x=some o):F.le F':=fun b ob hb=>by
 by_cases hbx:b=x
 ·subst hbx
  rw [hF] at hb
  rw [hx]
  exact hb
 ·exact hl _ _ (h _ _ (by rw [fc hbx];exact hb))
section
variable {F:PH} {s0 s1 s2:Sl} {t0 t1 t2:Tr} {opv:Value} {o:Op3}
end
abbrev ie:Dia:=([],0)
abbrev DR:=Dia×Int
open Classical in
noncomputable def tre (d:Dia):Tr:=if h:gH d then h.choose else leaf false
theorem sQ {t:Tr} (h:t.ok):tre (dia t)=t:=by
 have hv:gH (dia t):=⟨t,h,rfl⟩
 unfold tre
 rw [dif_pos hv]
 exact (Ek h hv.choose_spec.1 hv.choose_spec.2).symm
theorem LQ {d:Dia} (h:chk d=0):(tre d).ok∧d=dia (tre d)∧d.1.length≤4096:=by
 unfold chk at h
 split at h
 ·cases h
 ·rename_i hl
  split at h
  ·rename_i hv
   unfold tre
   rw [dif_pos hv]
   exact ⟨hv.choose_spec.1,hv.choose_spec.2,by omega⟩
  ·cases h
theorem xY {t:Tr} (h:t.ok) (hl:(aL t).length≤4096):chk (dia t)=0:=by
 unfold chk
 rw [if_neg (by simp only [dia,aO];omega),if_pos ⟨t,h,rfl⟩]
theorem CA {d:Dia} (h:chk d=0):(aL (tre d)).length≤4096:=by
 obtain ⟨_,h2,h3⟩:=LQ h
 rw [h2] at h3
 simpa [dia,aO] using h3
def lim (d:Dia):DR:=if 4096<d.1.length then (ie,2) else (d,0)
abbrev Op2:=Bool→Bool→Bool
def DRV (F:PH) (v:Value) (x:DR):Prop:=∃w,v=.tuple #[.agg w,vi x.2]∧DV F w x.1
theorem DRV.le {F G:PH} {v:Value} {x:DR} (h:DRV F v x) (hl:F.le G):DRV G v x:=by
 obtain ⟨w,h1,h2⟩:=h
 exact ⟨w,h1,h2.le hl⟩
theorem DV.none (F:PH):DV F #[Value.slice none 0 0,Value.int .i64 0] ie:=⟨Sl.nil,rfl,RdS.nil F 3⟩
theorem sR {F:PH} {v:Array Value} {d:Dia} (hd:DV F v d):ac prog 160 #[.agg v] F fun r F'=>DRV F' r (lim d)∧F.le F':=by
 have hd':=hd
 obtain ⟨s,rfl,hr⟩:=hd
 have hlen:=hr.blen
 refine Mp ?_
 unfold GB
 intro b1 hb1
 refine atI ?_
 have l1:=ae (.cells #[s.v,vi d.2] 33) hb1
 have h1:=an F b1 (.cells #[s.v,vi d.2] 33)
 generalize F.set b1 (.cells #[s.v,vi d.2] 33)=F1 at*
 intro b2 hb2
 refine atI ?_
 have l2:=l1.trans (ae (.cells #[Value.slice none 0 0,Value.int .i64 0] 33) hb2)
 have n12:b1≠b2:=aG hb2 h1
 have f2:F b2=none:=aU l1 hb2
 refine ⟨s,by rw [am ((az _ _ n12).trans h1)];rfl,fun h=> ?_,fun h=> ?_⟩
 ·refine fW (K:=fun vres F'=>DRV F' (.tuple #[.agg vres,vi 2]) (lim d)∧F.le F') (DV.none F) (an _ _ _) rfl ⟨?_,aw l2 f2⟩
  unfold lim
  rw [if_pos (by omega)]
  exact ⟨_,rfl,DV.none _⟩
 ·refine ⟨#[s.v,vi d.2],rfl,ak ((az _ _ n12).trans h1),?_⟩
  refine fW (K:=fun vres F'=>DRV F' (.tuple #[.agg vres,vi 0]) (lim d)∧F.le F') hd' (an _ _ _) rfl ⟨?_,aw l2 f2⟩
  unfold lim
  rw [if_neg (by omega)]
  exact ⟨_,rfl,hd'.le (aw l2 f2)⟩
section
variable {F:PH} {v w:Array Value} {a b:Dia} {opv:Value} {o:Op2}
end
theorem DV.beside {F G:PH} {x:Nat} {w:Array Value} {d:Dia} (h:DV G w d) (hl:G.le F) (hx:G x=Option.none):DV (dy F x) w d:=
 h.le fun y ob hy=>by
  rw [fc (fun e=>by rw [e,hx] at hy;cases hy)]
  exact hl _ _ hy
theorem CB {f:FuncId} {args:Array Value} {F:PH} {x:Nat} {o:Obj} {y:DR} (h:ac prog f args (dy F x) fun r F'=>DRV F' r y∧(dy F x).le F') (hx:F x=some o):
  ac prog f args F fun r F'=>∃w,r=.tuple #[.agg w,vi y.2]∧(∃G,DV G w y.1∧G.le F'∧G x=none)∧F.le F'∧F' x=some o:=
 (ac.avoid h hx).mono fun r F' ⟨G,⟨⟨w,hr,hw⟩,lg⟩,lG,q,g⟩=>⟨w,hr,⟨G,hw,lG,g⟩,o9 lg lG q hx,q⟩
theorem fd {f:FuncId} {args:Array Value} {F:PH} {x:Nat} {o:Obj} {d:Dia} (h:ac prog f args (dy F x) fun r F'=>∃w,r=.agg w∧DV F' w d∧(dy F x).le F') (hx:F x=some o):
  ac prog f args F fun r F'=>∃w,r=.agg w∧(∃G,DV G w d∧G.le F'∧G x=none)∧F.le F'∧F' x=some o:=
 (ac.avoid h hx).mono fun r F' ⟨G,⟨w,hr,hw,lg⟩,lG,q,g⟩=>⟨w,hr,⟨G,hw,lG,g⟩,o9 lg lG q hx,q⟩
theorem LU {F G F0:PH} {b e1:Nat} {c4:Array Value} {y:DR} {w:Array Value} (hw:DV G w y.1) (hl:G.le F) (hg:G b=none) (h4:F b=some (.cells c4 e1 (0,0))) (hc4:c4.size=2) (h0:F0.le F) (hb:F0 b=none):
  w.size=2∧(∀v∈w.toList,aj v)∧∃c e,F (Addr.mk b 0 none).block=some (.cells c e (0,0))∧(Addr.mk b 0 none).spot=none∧(Addr.mk b 0 none).off+2≤c.size∧
   atF (F.set (Addr.mk b 0 none).block (.cells (wr c (Addr.mk b 0 none).off w.toList) e)) fun F=>∃vres:Array Value,vres.size=2∧F.row (Addr.mk b 0 none) vres∧DRV F (.tuple #[.agg vres,vi y.2]) y∧F0.le F:=
 fW (K:=fun vres F'=>DRV F' (.tuple #[.agg vres,vi y.2]) y∧F0.le F') hw h4 hc4 ⟨⟨_,rfl,hw.le (aw hl hg)⟩,aw h0 hb⟩
theorem wB {F F0:PH} {b e1:Nat} {c4:Array Value} {er:Int} (h4:F b=some (.cells c4 e1 (0,0))) (hc4:c4.size=2) (h0:F0.le F) (hb:F0 b=none):
  (#[Value.slice none 0 0,Value.int .i64 0]:Array Value).size=2∧(∀v∈(#[Value.slice none 0 0,Value.int .i64 0]:Array Value).toList,aj v)∧∃c e,F (Addr.mk b 0 none).block=some (.cells c e (0,0))∧(Addr.mk b 0 none).spot=none∧(Addr.mk b 0 none).off+2≤c.size∧
   atF (F.set (Addr.mk b 0 none).block (.cells (wr c (Addr.mk b 0 none).off (#[Value.slice none 0 0,Value.int .i64 0]:Array Value).toList) e)) fun F=>∃vres:Array Value,vres.size=2∧F.row (Addr.mk b 0 none) vres∧DRV F (.tuple #[.agg vres,vi er]) (ie,er)∧F0.le F:=
 fW (K:=fun vres F'=>DRV F' (.tuple #[.agg vres,vi er]) (ie,er)∧F0.le F') (DV.none F) h4 hc4 ⟨⟨_,rfl,DV.none _⟩,aw h0 hb⟩
abbrev ig:Op2:=fun x y=>x && y
abbrev oOr:Op2:=fun x y=>x || y
abbrev ii:Op2:=fun x y=> !(x==y)
section
variable {F:PH} {v w u:Array Value} {a b c:Dia}
abbrev tv (v:Nat):Tr:=node v (leaf false) (leaf true)
theorem Jl (v:Nat):dia (tv v)=([⟨(v:Int),0,1⟩],2):=by
 have e:aL (tv v)=[tv v]:=by simp [aL,vis,tv]
 unfold dia
 rw [e]
 simp [brs,br,num,tv]
theorem LV {v:Nat} (h:v<64):(tv v).ok:=⟨h,h,h,by simp,trivial,trivial⟩
theorem qs (x:Bool):ac prog 30 #[.bool x] F fun r F'=>∃w,r=.agg w∧DV F' w (dia (leaf x))∧F.le F':=by
 refine PR ?_
 unfold Ml
 intro b2 hb2
 refine atI ?_
 have l2:=ae (.cells #[Value.slice none 0 0,Value.int .i64 0] 33) hb2
 have q2:=an F b2 (.cells #[Value.slice none 0 0,Value.int .i64 0] 33)
 refine ⟨fun h=> ?_,fun h=> ?_⟩
 ·subst h
  have hd:∀G:PH,DV G #[Value.slice none 0 0,Value.int .i64 1] (dia (leaf true)):=fun G=>⟨Sl.nil,rfl,RdS.nil G 3⟩
  exact fW (K:=fun vres F'=>∃w,Value.agg vres=.agg w∧DV F' w (dia (leaf true))∧F.le F') (hd F) q2 rfl ⟨_,rfl,hd _,aw l2 hb2⟩
 ·subst h
  have hd:∀G:PH,DV G #[Value.slice none 0 0,Value.int .i64 0] (dia (leaf false)):=fun G=>⟨Sl.nil,rfl,RdS.nil G 3⟩
  exact fW (K:=fun vres F'=>∃w,Value.agg vres=.agg w∧DV F' w (dia (leaf false))∧F.le F') (hd F) q2 rfl ⟨_,rfl,hd _,aw l2 hb2⟩
def qt (v:Int):DR:=if v<0∨63<v then (ie,1) else (dia (tv v.toNat),0)
end
end Go.Proofs.YtenpmjhnhepfdaaGreatDoor
