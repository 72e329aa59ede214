/-
  The diagrams: an operation on three diagrams: the walk.
-/
import Derived.Test.YtenpmjhnhepfdaaGreatDoorEe
import Derived.Test.YtenpmjhnhepfdaaGreatDoorGslices
namespace Go.Proofs.YtenpmjhnhepfdaaGreatDoor
open Go Go.Proofs.Tryz Tr
set_option maxRecDepth 10000
def gP (d:Dia):Prop:=∃t:Tr,t.ok∧d=dia t
open Classical in
noncomputable def chk (d:Dia):Int:=if 4096<d.1.length then 2 else if gP d then 0 else 20
def uS (S:List Tr) (b:Br):Prop:=∃(v:Nat) (l h:Tr),b=⟨(v:Int),(num S l:Int),(num S h:Int)⟩∧inn S l∧inn S h∧(node v l h).ok∧node v l h ∉ S
theorem wF {T:List Tr} (hT:Cl T):∀k,k<T.length→Cl (T.take k)∧∃v l h,T[k]? =some (node v l h)∧inn (T.take k) l∧inn (T.take k) h∧(node v l h).ok∧node v l h ∉ T.take k:=by
 induction hT with
 |nil=>intro k hk;simp at hk
 | @snoc S v l h hS hl hh hok hn ih=>
  intro k hk
  by_cases hks:k<S.length
  ·obtain ⟨h1,v',l',h',h2,h3,h4,h5,h6⟩:=ih k hks
   rw [List.take_append_of_le_length (by omega)]
   exact ⟨h1,v',l',h',by rw [List.getElem?_append_left hks];exact h2,h3,h4,h5,h6⟩
  ·have e:k=S.length:=by simp at hk;omega
   subst e
   rw [List.take_left' rfl]
   exact ⟨hS,v,l,h,by simp,hl,hh,hok,hn⟩
theorem km {T:List Tr} {k:Nat} {t:Tr} (h:inn (T.take k) t):num T t=num (T.take k) t:=by
 have:=bq (X:=T.drop k) h
 rw [List.take_append_drop] at this
 exact this
theorem Cp {T:List Tr} (hT:Cl T) (k:Nat):brs (T.take k)=(brs T).take k:=by
 by_cases hk:k<T.length
 ·have h:=oL (X:=T.drop k) (wF hT k hk).1
  rw [List.take_append_drop] at h
  rw [h,List.take_left' (by rw [aK,List.length_take];omega)]
 ·rw [List.take_of_length_le (by omega),List.take_of_length_le (by rw [aK];omega)]
theorem sS {S0:List Tr} (h0:Cl S0):∀(t:Tr) (S:List Tr),inn S0 t→(∀x∈S,x∈S0)→∀x∈vis t S,x∈S0
 |leaf _,_,_,hs=>hs
 |node v l h,S,ht,hs=>by
  obtain ⟨hl,hh⟩:=h0.inn_kids ht
  unfold vis
  split
  ·exact hs
  ·intro x hx
   rcases List.mem_append.1 hx with hx|hx
   ·exact sS h0 h _ hh (sS h0 l S hl hs) x hx
   ·rw [List.mem_singleton.1 hx]
    exact bT ht rfl
theorem Ey {S0:List Tr} (h0:Cl S0) {t:Tr} (ht:inn S0 t):(aF t).length≤S0.length:=
 co _ _ (be (h0.inn_ok ht)).nodup (sS h0 t [] ht (fun x hx=>by cases hx))
theorem jg {d:Dia} (hv:gP d) {S:List Tr} (hS:Cl S) {k:Nat} (hk:S.length=k) (hkd:k<d.1.length) (hb:brs S=d.1.take k):uS S d.1[k]:=by
 obtain ⟨t,ht,rfl⟩:=hv
 have hT:=be ht
 have hl:k<(aF t).length:=by simpa [dia,aK] using hkd
 obtain ⟨h1,v,l,h,h2,h3,h4,h5,h6⟩:=wF hT k hl
 have e:S=(aF t).take k:=mI hS h1 (by rw [hb,Cp hT];rfl)
 subst e
 refine ⟨v,l,h,?_,h3,h4,h5,h6⟩
 have hg:=jW h2
 have e2:(brs (aF t))[k]? =some (dia t).1[k]:=List.getElem?_eq_getElem (by simpa [dia] using hkd)
 rw [e2] at hg
 rw [Option.some.inj hg]
 simp only [br]
 rw [km h3,km h4]
theorem bO {S:List Tr} (hS:Cl S) {b:Br} (h:uS S b):0≤b.v∧b.v≤63∧0≤b.l∧0≤b.h∧b.l≤S.length+1∧b.h≤S.length+1∧b.l≠b.h∧b ∉ brs S∧
  b.v<(tr S b.l.toNat).top∧b.v<(tr S b.h.toNat).top:=by
 obtain ⟨v,l,h,rfl,hl,hh,⟨o1,o2,o3,o4,o5,o6⟩,hn⟩:=h
 have h1:=cW hl
 have h2:=cW hh
 refine ⟨by simp,by simp only;omega,by simp,by simp,by simp only;omega,by simp only;omega,fun e=>o4 (bX hl hh (by simp only at e;omega)),fun hm=>hn ((gF hS hl hh).1 hm),?_,?_⟩
 ·simp only [Int.toNat_natCast,fI hS hl];omega
 ·simp only [Int.toNat_natCast,fI hS hh];omega
theorem x6 {S:List Tr} (hS:Cl S) {b:Br} (h1:0≤b.v) (h2:b.v≤63) (h3:0≤b.l) (h4:0≤b.h) (h5:b.l≤S.length+1) (h6:b.h≤S.length+1) (h7:b.l≠b.h) (h8:b ∉ brs S)
  (h9:b.v<(tr S b.l.toNat).top) (h10:b.v<(tr S b.h.toNat).top):uS S b:=by
 have il:inn S (tr S b.l.toNat):=fH (by omega)
 have ih:inn S (tr S b.h.toNat):=fH (by omega)
 have nl:=fa hS (n:=b.l.toNat) (by omega)
 have nh:=fa hS (n:=b.h.toNat) (by omega)
 have e:b=⟨((b.v.toNat:Nat):Int),((num S (tr S b.l.toNat):Nat):Int),((num S (tr S b.h.toNat):Nat):Int)⟩:=by
  rw [nl,nh]
  obtain ⟨x,y,z⟩:=b
  simp only [Br.mk.injEq]
  simp only at*
  omega
 refine ⟨b.v.toNat,_,_,e,il,ih,⟨by omega,by omega,by omega,fun he=> ?_,hS.inn_ok il,hS.inn_ok ih⟩,fun hm=>h8 ?_⟩
 ·rw [he] at nl;omega
 ·rw [e]
  exact (gF hS il ih).2 hm
def kmS (S:List Tr) (x:Br):Option Value:=if x∈brs S then some (.bool true) else none
theorem Cq {S:List Tr} {b:Br} {S':List Tr} (h:brs S'=brs S++[b]):kmS S'=fun x=>if x=b then some (.bool true) else kmS S x:=by
 funext x
 unfold kmS
 rw [h]
 by_cases hx:x=b<;>by_cases hm:x∈brs S<;>simp [hx,hm]
section
variable {F:PH} {v:Array Value} {d:Dia}
theorem jy (hd:DV F v d):ae prog 99 #[.agg v] F fun r F'=>r=vi (chk d)∧F.le F':=by
 have hd':=hd
 obtain ⟨s,rfl,hr⟩:=hd
 have hlen:=hr.blen
 refine Pj ?_
 unfold LY
 intro b1 hb1
 refine atI ?_
 have l1:=ac (.cells #[s.v,vi d.2] 33) hb1
 have h1:=am F b1 (.cells #[s.v,vi d.2] 33)
 generalize F.set b1 (.cells #[s.v,vi d.2] 33)=G at*
 refine ⟨s,by rw [an h1];rfl,fun hbig=> ?_,fun hbig=> ?_⟩
 ·refine ⟨?_,l1⟩
  unfold chk
  rw [if_pos (by omega)]
 have hsm:d.1.length≤4096:=by omega
 intro b11 hb11
 refine atI ?_
 refine ⟨s,by rw [an (ac _ hb11 _ _ h1)];rfl,?_⟩
 have fin:∀{F':PH},G.le F'→¬gP d→(vi 20=vi (chk d)∧F.le F'):=fun {F'} hl hn=>by
  refine ⟨?_,l1.trans hl⟩
  unfold chk
  rw [if_neg (by omega),if_neg hn]
 refine ⟨fun m i F'=>∃(k:Nat) (S:List Tr),i=k∧k≤d.1.length∧m=d.1.length - k∧Cl S∧S.length=k∧brs S=d.1.take k∧G.le F'∧∃o,F' b11=some o∧fe wI (kmS S) o,d.1.length,
  ⟨0,[],rfl,by omega,rfl,.nil,rfl,rfl,ac _ hb11,_,am _ _ _,fe.empty wI⟩,?_⟩
 rintro m i F1 ⟨k,S,rfl,hk,rfl,hS,hSk,hSb,hle,o,hm,hmo⟩
 unfold CY
 refine ⟨fun hlt=> ?_,fun hge=> ?_⟩
 ·have hkd:k<d.1.length:=by omega
  obtain ⟨a,ha,hrow,_⟩:=rdb (hr.le (l1.trans hle)) (List.getElem?_eq_getElem hkd)
  have hbad:¬uS S d.1[k]→¬gP d:=fun hn hv=>hn (jg hv hS hSk hkd hSb)
  have hfits:=bO hS (b:=d.1[k])
  have hof:=x6 hS (b:=d.1[k])
  refine ⟨a,ha,by omega,hlt,aP d.1[k],rfl,by simpa using hrow,?_⟩
  generalize hB:d.1[k]=B at*
  intro b5 hb5
  refine atI ?_
  refine stW (am _ _ _) rfl rfl (iR _) ?_
  rw [aV]
  have l5:=ac (.cells (aP B) 103) hb5
  have h5:=am F1 b5 (.cells (aP B) 103)
  replace hm:=l5 _ _ hm
  replace hle:=hle.trans l5
  generalize F1.set b5 (.cells (aP B) 103)=F2 at*
  have c0:F2.cell ⟨b5,0,none⟩=some (vi B.v):=by rw [an h5];rfl
  have c1:F2.cell ⟨b5,1,none⟩=some (vi B.l):=by rw [an h5];rfl
  have c2:F2.cell ⟨b5,2,none⟩=some (vi B.h):=by rw [an h5];rfl
  refine ⟨_,c0,fun h=>fin hle (hbad fun hf=> ?_),fun g1=> ?_⟩
  ·have:=(hfits hf).1;omega
  refine ⟨_,c0,fun h=>fin hle (hbad fun hf=> ?_),fun g2=> ?_⟩
  ·have:=(hfits hf).2.1;omega
  refine ⟨_,c1,fun h=>fin hle (hbad fun hf=> ?_),fun g3=> ?_⟩
  ·have:=(hfits hf).2.2.1;omega
  refine ⟨_,c2,fun h=>fin hle (hbad fun hf=> ?_),fun g4=> ?_⟩
  ·have:=(hfits hf).2.2.2.1;omega
  have hw:IntKind.i64.wrap ((k:Int)+1)=((k+1:Nat):Int):=gR (by omega)
  rw [hw]
  refine ⟨_,c1,fun h=>fin hle (hbad fun hf=> ?_),fun g5=> ?_⟩
  ·have:=(hfits hf).2.2.2.2.1;omega
  refine ⟨_,c2,fun h=>fin hle (hbad fun hf=> ?_),fun g6=> ?_⟩
  ·have:=(hfits hf).2.2.2.2.2.1;omega
  refine ⟨_,c1,_,c2,fun h=>fin hle (hbad fun hf=> ?_),fun g7=> ?_⟩
  ·exact (hfits hf).2.2.2.2.2.2.1 h
  have hlk:=cI (F:=F2) mtK hm hmo B false
  refine ⟨aP B,rfl,aj h5,decide (B∈brs S),?_,fun h=>fin hle (hbad fun hf=> ?_),fun g8=> ?_⟩
  ·unfold kmS at hlk
   by_cases hx:B∈brs S
   ·rw [if_pos hx] at hlk
    simpa [hx] using hlk
   ·rw [if_neg hx] at hlk
    simpa [hx] using hlk
  ·exact (hfits hf).2.2.2.2.2.2.2.1 (by simpa using h)
  have g8':B ∉ brs S:=by simpa using g8
  have hpre:brs S<+:d.1:=by rw [hSb];exact List.take_prefix _ _
  have il:inn S (tr S B.l.toNat):=fH (by omega)
  have ih:inn S (tr S B.h.toNat):=fH (by omega)
  have nl:=fa hS (n:=B.l.toNat) (by omega)
  have nh:=fa hS (n:=B.h.toNat) (by omega)
  have el:Value.int .i64 B.l=vi (num S (tr S B.l.toNat)):=by rw [nl];congr 1;omega
  have eh:Value.int .i64 B.h=vi (num S (tr S B.h.toNat)):=by rw [nh];congr 1;omega
  refine ⟨_,rfl,aj (hle _ _ h1),_,c1,_,c0,?_⟩
  rw [el]
  refine (dZ (hd'.le (l1.trans hle)) hpre il (by omega)).mono ?_
  rintro _ F3 ⟨rfl,l3⟩
  refine ⟨_,rfl,aq l3 c0,fun h=>fin (hle.trans l3) (hbad fun hf=> ?_),fun g9=> ?_⟩
  ·have:=(hfits hf).2.2.2.2.2.2.2.2.1;omega
  refine ⟨_,rfl,aj ((hle.trans l3) _ _ h1),_,aq l3 c2,_,aq l3 c0,?_⟩
  rw [eh]
  refine (dZ (hd'.le (l1.trans (hle.trans l3))) hpre ih (by omega)).mono ?_
  rintro _ F4 ⟨rfl,l4⟩
  refine ⟨_,rfl,aq l4 (aq l3 c0),aq l4 (aq l3 c0),fun h=>fin ((hle.trans l3).trans l4) (hbad fun hf=> ?_),fun g10=> ?_⟩
  ·have:=(hfits hf).2.2.2.2.2.2.2.2.2;omega
  have hF:=hof (by omega) (by omega) (by omega) (by omega) (by omega) (by omega) g7 g8' (by omega) (by omega)
  refine ⟨aP B,rfl,aj (l4 _ _ (l3 _ _ h5)),?_⟩
  refine bv mtK (l4 _ _ (l3 _ _ hm)) hmo B _ fun o' ho'=> ?_
  obtain ⟨v,l,h,e,hl,hh,hok,hn⟩:=hF
  have e2:brs (S++[node v l h])=brs S++[B]:=by rw [dL hS hl hh,e]
  rw [← Cq e2] at ho'
  have hg11:G b11=none:=hb11
  refine ⟨d.1.length - (k+1),by omega,k+1,S++[node v l h],rfl,by omega,rfl,.snoc hS hl hh hok hn,by simp [hSk],?_,au ((hle.trans l3).trans l4) hg11,o',am _ _ _,ho'⟩
  rw [e2,hSb,List.take_succ_eq_append_getElem hkd,hB]
 ·unfold CX
  have hk':k=d.1.length:=by omega
  have hSd:brs S=d.1:=by rw [hSb,hk',List.take_length]
  have cr:F1.cell ⟨b1,1,none⟩=some (vi d.2):=by rw [an (hle _ _ h1)];rfl
  have cs:F1.cell ⟨b1,0,none⟩=some s.v:=by rw [an (hle _ _ h1)];rfl
  have key:∀t,t.ok→d=dia t→S=aF t∧d.2=num S t:=fun t ht e=>by
   subst e
   have:=mI hS (be ht) hSd
   exact ⟨this,by rw [this];rfl⟩
  have hrange:gP d→0≤d.2∧d.2≤(d.1.length:Int)+1:=by
   rintro ⟨t,ht,e⟩
   obtain ⟨h1,h2⟩:=key t ht e
   have h3:inn S t:=by rw [h1];exact bu ht
   have:=cW h3
   omega
  refine ⟨_,cr,fun h=>fin hle (fun hv=>by have:=(hrange hv).1;omega),fun g1=> ?_⟩
  have hw:IntKind.i64.wrap ((s.len:Int)+1)=((d.1.length+1:Nat):Int):=by rw [hlen];exact gR (by omega)
  refine ⟨_,cr,s,cs,?_⟩
  dsimp only
  rw [hw]
  refine ⟨fun h=>fin hle (fun hv=>by have:=(hrange hv).2;omega),fun g2=> ?_⟩
  refine ⟨s,cs,?_⟩
  intro b98 hb98
  refine atI ?_
  have l98:=ac (.cells #[s.v,Value.map none] 228) hb98
  have h98:=am F1 b98 (.cells #[s.v,Value.map none] 228)
  replace hle:=hle.trans l98
  generalize F1.set b98 (.cells #[s.v,Value.map none] 228)=F2 at*
  refine ⟨_,aq l98 cr,?_⟩
  have it:inn S (tr S d.2.toNat):=fH (by omega)
  have nt:=fa hS (n:=d.2.toNat) (by omega)
  have et:Value.int .i64 d.2=vi (num S (tr S d.2.toNat)):=by rw [nt];congr 1;omega
  dsimp only
  rw [et]
  refine (gH (by rw [an h98];rfl) (by rw [hSd];exact hr.le (l1.trans hle)) hS it (by omega)).mono ?_
  rintro _ F3 ⟨w,rfl,hw,l3⟩
  refine ⟨_,rfl,?_⟩
  intro b6 hb6
  refine atI ?_
  refine stW (am _ _ _) hw.size rfl hw.st ?_
  rw [aV]
  have l6:=ac (.cells w 33) hb6
  have h6:=am F3 b6 (.cells w 33)
  replace hle:=(hle.trans l3).trans l6
  replace hw:=hw.le l6
  generalize F3.set b6 (.cells w 33)=F4 at*
  refine ⟨w,hw.size,aj h6,_,rfl,aj (hle _ _ h1),?_⟩
  have hok:=hS.inn_ok it
  refine (lH hw (hd'.le (l1.trans hle)) (by
   have:=Ey hS it
   simp only [dia,aK]
   omega)).mono ?_
  rintro _ F5 ⟨rfl,l5⟩
  refine ⟨_,rfl,fun h=>fin (hle.trans l5) ?_,fun h=> ?_⟩
  ·rintro ⟨t,ht,e⟩
   obtain ⟨k1,k2⟩:=key t ht e
   have:tr S d.2.toNat=t:=by
    rw [k2,Int.toNat_natCast]
    exact fI hS (by rw [k1];exact bu ht)
   rw [this,← e] at h
   simp at h
  ·refine ⟨?_,l1.trans (hle.trans l5)⟩
   have:dia (tr S d.2.toNat)=d:=by simpa using h
   unfold chk
   rw [if_neg (by omega),if_pos ⟨_,hok,this.symm⟩]
end
theorem Cr:az prog 211=true:=by kernel_rfl
theorem BD.weaken {F0 F1 F:PH} {b m:Nat} {S:List Tr} (h:BD F1 F b m S) (hl:F0.le F1):BD F0 F b m S:=by
 obtain ⟨h1,h2,h3,h4,⟨s,h5,h6,h7⟩,h8⟩:=h
 exact ⟨hl.trans h1,h2,aM hl h3,aM hl h4,⟨s,h5,h6,fun a ha=>aM hl (h7 a ha)⟩,h8⟩
theorem BD.upto {F0 F G:PH} {b m:Nat} {S:List Tr} (h:BD F0 F b m S) (hl:F.le G):BD F0 G b m S:=by
 obtain ⟨h1,h2,h3,h4,⟨s,h5,h6,h7⟩,o,h8,h9⟩:=h
 exact ⟨h1.trans hl,h2,h3,h4,⟨s,hl _ _ h5,h6.upto hl,h7⟩,o,hl _ _ h8,h9⟩
theorem BD.grow {F0 G F:PH} {b m x:Nat} {o:Obj} {S:List Tr} (h:BD F0 G b m S) (hl:G.le F) (hx:G x=none) (ho:F x=some o):BD (F0.set x o) F b m S:=by
 obtain ⟨h1,h2,h3,h4,⟨s,h5,h6,h7⟩,o',h8,h9⟩:=h
 refine ⟨fun y oy hy=> ?_,h2,?_,?_,⟨s,hl _ _ h5,h6.upto hl,fun a ha=> ?_⟩,o',hl _ _ h8,h9⟩
 ·by_cases hyx:y=x
  ·subst hyx;rw [am] at hy;rw [ho];exact hy
  ·rw [aw _ _ hyx] at hy;exact hl _ _ (h1 _ _ hy)
 ·rw [aw _ _ (aC hx h5)];exact h3
 ·rw [aw _ _ (aC hx h8)];exact h4
 ·obtain ⟨cur,hcur⟩:=h6.elem ha
  rw [aw _ _ (aC hx hcur)]
  exact h7 a ha
theorem BD.other {F0 F:PH} {b m x:Nat} {o:Obj} {S:List Tr} (h:BD F0 F b m S) (h0:F0 x=none) (hb:b≠x) (hm:m≠x) (hc:∀c e fr,F x≠some (.cells c e fr)):BD F0 (F.set x o) b m S:=by
 obtain ⟨h1,h2,h3,h4,⟨s,h5,h6,h7⟩,o',h8,h9⟩:=h
 refine ⟨au h1 h0,h2,h3,h4,⟨s,by rw [aw _ _ hb];exact h5,h6.keep fun a ha=>aw _ _ (fun e=> ?_),h7⟩,o',by rw [aw _ _ hm];exact h8,h9⟩
 obtain ⟨cur,hcur⟩:=h6.elem ha
 rw [e] at hcur
 exact hc _ _ _ hcur
structure AP where
 b3:Nat
 b6:Nat
 b2:Nat
 b7:Nat
 b5:Nat
 bb:Nat
 mm:Nat
 b9:Nat
 opv:Value
 o:Op3
 dd:Nat→Dia
 SS:Nat→List Tr
def AP.key (p:AP) (t:Nat→Tr):Int×Int×Int:=((num (p.SS 0) (t 0):Int),(num (p.SS 1) (t 1):Int),(num (p.SS 2) (t 2):Int))
noncomputable def AP.res (p:AP) (t:Nat→Tr):Tr:=ap p.o (t 0) (t 1) (t 2)
def AP.inK (p:AP) (t:Nat→Tr):Prop:=inn (p.SS 0) (t 0)∧inn (p.SS 1) (t 1)∧inn (p.SS 2) (t 2)
def AP.caps (p:AP):Array Value:= #[.pointer (some ⟨p.b3,0,none⟩),.pointer (some ⟨p.b6,0,none⟩),.pointer (some ⟨p.b2,0,none⟩),.pointer (some ⟨p.b7,0,none⟩),.pointer (some ⟨p.b5,0,none⟩)]
def OpV (F0:PH) (v:Value) (o:Op3):Prop:=∃(k:Nat) (fst cap:Array Value),v=.func (.func k) fst cap∧az prog k=true∧
 ∀(x y z:Bool) (F:PH),F0.le F→ae prog k (fst++[Value.bool x,Value.bool y,Value.bool z].toArray++cap) F fun r F'=>r=.bool (o x y z)∧F.le F'
theorem OpV.le {F0 G:PH} {v:Value} {o:Op3} (h:OpV F0 v o) (hl:F0.le G):OpV G v o:=by
 obtain ⟨k,f,c,h1,h2,h3⟩:=h
 exact ⟨k,f,c,h1,h2,fun x y z F hF=>h3 x y z F (hl.trans hF)⟩
structure AF (p:AP):Prop where
 cl:∀i,i<3→Cl (p.SS i)
 pre:∀i,i<3→brs (p.SS i)<+:(p.dd i).1
 fit:∀i,i<3→Fit ((p.dd i).1.length+2)
structure AE (F0:PH) (p:AP):Prop where
 c3:F0.cell ⟨p.b3,0,none⟩=some p.opv
 c6:F0.cell ⟨p.b6,0,none⟩=some (.map (some p.b9))
 c2:∀i,i<3→∃w,F0.row ⟨p.b2,i*2,none⟩ w∧DV F0 w (p.dd i)
 c7:F0.cell ⟨p.b7,0,none⟩=some (.func (.func 211) #[] p.caps)
 c5:F0.cell ⟨p.b5,0,none⟩=some (.pointer (some ⟨p.bb,0,none⟩))
 op:OpV F0 p.opv p.o
theorem eJ {F G:PH} (h:F.le G) {a:Addr} {cs:Array Value} (hr:F.row a cs):G.row a cs:=fun i hi=>aq h (hr i hi)
theorem AE.le {F0 G:PH} {p:AP} (h:AE F0 p) (hl:F0.le G):AE G p:=
 ⟨aq hl h.c3,aq hl h.c6,fun i hi=>by
  obtain ⟨w,h1,h2⟩:=h.c2 i hi
  exact ⟨w,eJ hl h1,h2.le hl⟩,aq hl h.c7,aq hl h.c5,h.op.le hl⟩
def Jg (p:AP) (S:List Tr) (m3:Int×Int×Int→Option Value):Prop:=∀k v,m3 k=some v→∃t,p.inK t∧k=p.key t∧inn S (p.res t)∧v=vi (num S (p.res t))
structure AS (F0 F:PH) (p:AP) (S:List Tr):Prop where
 bd:BD F0 F p.bb p.mm S
 n9:F0 p.b9=none
 ne:p.mm≠p.b9
 memo:∃o m3,F p.b9=some o∧fe EG m3 o∧Jg p S m3
theorem AS.upto {F0 F G:PH} {p:AP} {S:List Tr} (h:AS F0 F p S) (hl:F.le G):AS F0 G p S:=by
 obtain ⟨h1,h2,h3,o,m3,h4,h5⟩:=h
 exact ⟨h1.upto hl,h2,h3,o,m3,hl _ _ h4,h5⟩
theorem AS.weaken {F0 F1 F:PH} {p:AP} {S:List Tr} (h:AS F1 F p S) (hl:F0.le F1):AS F0 F p S:=by
 obtain ⟨h1,h2,h3,h4⟩:=h
 exact ⟨h1.weaken hl,aM hl h2,h3,h4⟩
theorem AS.grow {F0 G F:PH} {p:AP} {S:List Tr} {x:Nat} {o:Obj} (h:AS F0 G p S) (hl:G.le F) (hx:G x=none) (ho:F x=some o):AS (F0.set x o) F p S:=by
 obtain ⟨h1,h2,h3,o',m3,h4,h5⟩:=h
 exact ⟨h1.grow hl hx ho,by rw [aw _ _ (aC hx h4)];exact h2,h3,o',m3,hl _ _ h4,h5⟩
theorem Ez {p:AP} {t u:Nat→Tr} (ht:p.inK t) (hu:p.inK u) (h:p.key t=p.key u):p.res t=p.res u:=by
 unfold AP.key at h
 simp only [Prod.mk.injEq] at h
 obtain ⟨h1,h2,h3⟩:=h
 unfold AP.res
 rw [bX ht.1 hu.1 (by omega),bX ht.2.1 hu.2.1 (by omega),bX ht.2.2 hu.2.2 (by omega)]
theorem uT (t:Tr) (S:List Tr):S.length≤(vis t S).length:=by
 induction t generalizing S with
 |leaf b=>exact Nat.le_refl _
 |node v l h ihl ihh=>
  unfold vis
  split
  ·exact Nat.le_refl _
  ·have h1:=ihl S
   have h2:=ihh (vis l S)
   simp only [List.length_append]
   omega
theorem x7 (S:List Tr) (t:Tr):S.length≤(cM S t).length:=by
 unfold cM
 split<;>simp
def szs (t:Nat→Tr):Nat:=(t 0).sz+(t 1).sz+(t 2).sz
def Ct (p:AP) (t:Nat→Tr):Prop:=∀(F0 F:PH) (S:List Tr),AE F0 p→AS F0 F p S→Fit ((vis (p.res t) S).length+4)→
 ae prog 211 (#[.agg (dh (p.key t))]++p.caps) F fun r F'=>r=vi (num (vis (p.res t) S) (p.res t))∧AS F0 F' p (vis (p.res t) S)
structure O5 (p:AP) (t:Nat→Tr) (v:Nat):Prop where
 hv:v=aS (t 0) (t 1) (t 2)
 lt:v<64
 il:p.inK (fun i=>lo v (t i))
 ih:p.inK (fun i=>hi v (t i))
 sl:szs (fun i=>lo v (t i))<szs t
 sh:szs (fun i=>hi v (t i))<szs t
 tl:v<(p.res (fun i=>lo v (t i))).top
 th:v<(p.res (fun i=>hi v (t i))).top
 ol:(p.res (fun i=>lo v (t i))).ok
 oh:(p.res (fun i=>hi v (t i))).ok
 res:p.res t=mk v (p.res (fun i=>lo v (t i))) (p.res (fun i=>hi v (t i)))
theorem Le {p:AP} (hf:AF p) {t:Nat→Tr} (ht:p.inK t) (hv:aS (t 0) (t 1) (t 2)<64):O5 p t (aS (t 0) (t 1) (t 2)):=by
 have h0:=(hf.cl 0 (by omega)).inn_ok ht.1
 have h1:=(hf.cl 1 (by omega)).inn_ok ht.2.1
 have h2:=(hf.cl 2 (by omega)).inn_ok ht.2.2
 have hs:=sD (o:=p.o) h0 h1 h2 hv
 have v1:aS (t 0) (t 1) (t 2)≤(t 0).top:=by unfold aS;omega
 have v2:aS (t 0) (t 1) (t 2)≤(t 1).top:=by unfold aS;omega
 have v3:aS (t 0) (t 1) (t 2)≤(t 2).top:=by unfold aS;omega
 have hcase:aS (t 0) (t 1) (t 2)=(t 0).top∨aS (t 0) (t 1) (t 2)=(t 1).top∨aS (t 0) (t 1) (t 2)=(t 2).top:=by unfold aS;omega
 generalize hw:aS (t 0) (t 1) (t 2)=v at*
 have nl:∀{t:Tr},v=t.top→t.isL=false:=fun {t} e=>by
  cases t with
  |leaf b=>simp only [top] at e;omega
  |node _ _ _=>rfl
 obtain ⟨al1,al2,al3,al4,al5⟩:=bK h0 v1
 obtain ⟨bl1,bl2,bl3,bl4,bl5⟩:=bK h1 v2
 obtain ⟨dl1,dl2,dl3,dl4,dl5⟩:=bK h2 v3
 obtain ⟨ah1,ah2,ah3,ah4,ah5⟩:=bL h0 v1
 obtain ⟨bh1,bh2,bh3,bh4,bh5⟩:=bL h1 v2
 obtain ⟨dh1,dh2,dh3,dh4,dh5⟩:=bL h2 v3
 obtain ⟨l1,l2,l3⟩:=eE (o:=p.o) al1 bl1 dl1
 obtain ⟨g1,g2,g3⟩:=eE (o:=p.o) ah1 bh1 dh1
 refine ⟨hw.symm,hv,⟨(hf.cl 0 (by omega)).inn_lo ht.1 v,(hf.cl 1 (by omega)).inn_lo ht.2.1 v,(hf.cl 2 (by omega)).inn_lo ht.2.2 v⟩,
  ⟨(hf.cl 0 (by omega)).inn_hi ht.1 v,(hf.cl 1 (by omega)).inn_hi ht.2.1 v,(hf.cl 2 (by omega)).inn_hi ht.2.2 v⟩,?_,?_,?_,?_,l1,g1,hs⟩
 ·simp only [szs]
  rcases hcase with e|e|e
  ·have:=al4 e.symm (nl e);omega
  ·have:=bl4 e.symm (nl e);omega
  ·have:=dl4 e.symm (nl e);omega
 ·simp only [szs]
  rcases hcase with e|e|e
  ·have:=ah4 e.symm (nl e);omega
  ·have:=bh4 e.symm (nl e);omega
  ·have:=dh4 e.symm (nl e);omega
 ·have:=al2 hv;have:=bl2 hv;have:=dl2 hv;unfold aS at l2;show v<(ap p.o (lo v (t 0)) (lo v (t 1)) (lo v (t 2))).top;omega
 ·have:=ah2 hv;have:=bh2 hv;have:=dh2 hv;unfold aS at g2;show v<(ap p.o (hi v (t 0)) (hi v (t 1)) (hi v (t 2))).top;omega
theorem df {S:List Tr} {t:Tr}:((num S t:Int)<2)↔t.isL=true:=by
 constructor
 ·intro h
  exact su (S:=S) (by omega)
 ·intro h
  cases t with
  |leaf b=>have:=cH S b;omega
  |node _ _ _=>cases h
section
variable {p:AP} {t:Nat→Tr} {F0 F:PH} {S:List Tr} {n6:Nat}
theorem EA (he:AE F0 p) (hs:AS F0 F p S) (h6:F0 n6=some (.cells (dh (p.key t)) 289)) (h0:(t 0).isL=true) (h1:(t 1).isL=true) (h2:(t 2).isL=true) {R:Value→PH→Prop}
  (hR:∀F',F.le F'→R (vi (num S (p.res t))) F'):
  fo (some ⟨p.b3,0,none⟩) (some ⟨p.b6,0,none⟩) (some ⟨p.b2,0,none⟩) (some ⟨p.b7,0,none⟩) (some ⟨p.b5,0,none⟩) n6 true R F:=by
 unfold fo
 obtain ⟨k,fst,cap,hop,hcb,hsp⟩:=he.op
 have hle:=hs.bd.le
 have h6':=hle _ _ h6
 refine ⟨fun _=> ?_,fun hc=>by cases hc⟩
 refine ⟨_,rfl,_,aq hle he.c3,by omega,by omega,_,by simp only [aE];rw [an h6'];rfl,by omega,by omega,_,by simp only [aE];rw [an h6'];rfl,by omega,by omega,_,by simp only [aE];rw [an h6'];rfl,k,fst,cap,hop,hcb,?_⟩
 generalize ht0:t 0=x0 at*
 generalize ht1:t 1=x1 at*
 generalize ht2:t 2=x2 at*
 cases x0 with
 |node _ _ _=>cases h0
 |leaf a=>
  cases x1 with
  |node _ _ _=>cases h1
  |leaf b=>
   cases x2 with
   |node _ _ _=>cases h2
   |leaf c=>
    have e:∀(S:List Tr) (x:Bool),decide ((num S (leaf x):Int)=1)=x:=fun S x=>by cases x<;>simp [num]
    simp only [AP.key,ht0,ht1,ht2,e]
    refine (hsp a b c F hle).mono ?_
    rintro _ F' ⟨rfl,hle'⟩
    have hres:p.res t=leaf (p.o a b c):=by unfold AP.res;rw [ht0,ht1,ht2];exact jZ _ _ _ _
    have hR':=hR F' hle'
    rw [hres] at hR'
    refine ⟨_,rfl,fun h=> ?_,fun h=> ?_⟩
    ·rw [h] at hR';exact hR'
    ·rw [h] at hR';exact hR'
theorem EB (hf:AF p) (ht:p.inK t) (ih:∀u,p.inK u→szs u<szs t→Ct p u) (he:AE F0 p) (hs:AS F0 F p S) (h6:F0 n6=some (.cells (dh (p.key t)) 289))
  (hfit:Fit ((vis (p.res t) S).length+4)) (hn:¬((t 0).isL=true∧(t 1).isL=true∧(t 2).isL=true)) {R:Value→PH→Prop}
  (hR:∀F',AS F0 F' p (vis (p.res t) S)→R (vi (num (vis (p.res t) S) (p.res t))) F'):
  fo (some ⟨p.b3,0,none⟩) (some ⟨p.b6,0,none⟩) (some ⟨p.b2,0,none⟩) (some ⟨p.b7,0,none⟩) (some ⟨p.b5,0,none⟩) n6 false R F:=by
 have hv:aS (t 0) (t 1) (t 2)<64:=by
  have k0:=fun hl=>oS ((hf.cl 0 (by omega)).inn_ok ht.1) hl
  have k1:=fun hl=>oS ((hf.cl 1 (by omega)).inn_ok ht.2.1) hl
  have k2:=fun hl=>oS ((hf.cl 2 (by omega)).inn_ok ht.2.2) hl
  unfold aS
  cases e0:(t 0).isL with
  |false=>have:=k0 e0;omega
  |true=>
   cases e1:(t 1).isL with
   |false=>have:=k1 e1;omega
   |true=>
    cases e2:(t 2).isL with
    |false=>have:=k2 e2;omega
    |true=>exact absurd ⟨e0,e1,e2⟩ hn
 have D:=Le hf ht hv
 unfold fo
 have hle:=hs.bd.le
 have h6':=hle _ _ h6
 obtain ⟨om,m3,hm,hmo,hok⟩:=hs.memo
 refine ⟨fun hc=>(by cases hc),fun _=> ?_⟩
 have hlk:=cI (F:=F) mt3 hm hmo (p.key t) true
 refine ⟨_,rfl,_,aq hle he.c6,dh (p.key t),rfl,aj h6',?_⟩
 cases hmk:m3 (p.key t) with
 |some v=>
  rw [hmk] at hlk
  obtain ⟨u,hu,hk,hi,rfl⟩:=hok _ _ hmk
  have e:=Ez ht hu hk
  rw [← e] at hi hlk
  have hvi:=fg hi
  refine ⟨_,_,hlk,fun _=> ?_,fun hc=>by cases hc⟩
  have:=hR F (by rw [hvi];exact hs)
  rw [hvi] at this
  exact this
 |none=>
  rw [hmk] at hlk
  refine ⟨_,_,hlk,fun hc=>(by cases hc),fun _=> ?_⟩
  obtain ⟨w0,r0,d0⟩:=he.c2 0 (by omega)
  obtain ⟨w1,r1,d1⟩:=he.c2 1 (by omega)
  obtain ⟨w2,r2,d2⟩:=he.c2 2 (by omega)
  have c6:∀{G:PH},F.le G→G.cell ⟨n6,0,none⟩=some (vi (num (p.SS 0) (t 0)))∧G.cell ⟨n6,1,none⟩=some (vi (num (p.SS 1) (t 1)))∧G.cell ⟨n6,2,none⟩=some (vi (num (p.SS 2) (t 2))):=fun {G} hl=>by
   rw [an (hl _ _ h6'),an (hl _ _ h6'),an (hl _ _ h6')]
   exact ⟨rfl,rfl,rfl⟩
  have rr:∀{G:PH},F.le G→G.row (Addr.add ⟨p.b2,0,none⟩ (Int.toNat 0*2)) w0∧G.row (Addr.add ⟨p.b2,0,none⟩ (Int.toNat 1*2)) w1∧G.row (Addr.add ⟨p.b2,0,none⟩ (Int.toNat 2*2)) w2:=fun {G} hl=>by
   simp only [aE]
   exact ⟨eJ (hle.trans hl) r0,eJ (hle.trans hl) r1,eJ (hle.trans hl) r2⟩
  have cc:∀{G:PH},F.le G→G.cell (Addr.add ⟨n6,0,none⟩ (Int.toNat 0*1))=some (vi (num (p.SS 0) (t 0)))∧G.cell (Addr.add ⟨n6,0,none⟩ (Int.toNat 1*1))=some (vi (num (p.SS 1) (t 1)))∧G.cell (Addr.add ⟨n6,0,none⟩ (Int.toNat 2*1))=some (vi (num (p.SS 2) (t 2))):=fun {G} hl=>by
   simp only [aE]
   exact c6 hl
  have hFF:F.le F:=PH.le_rfl
  refine ⟨_,rfl,by omega,by omega,w0,d0.size,(rr hFF).1,by omega,by omega,_,(cc hFF).1,by omega,by omega,w1,d1.size,(rr hFF).2.1,by omega,by omega,_,(cc hFF).2.1,by omega,by omega,w2,d2.size,(rr hFF).2.2,by omega,by omega,_,(cc hFF).2.2,?_⟩
  refine (dZ (d0.le hle) (hf.pre 0 (by omega)) ht.1 (hf.fit 0 (by omega))).mono ?_
  rintro _ G1 ⟨rfl,l1⟩
  refine ⟨_,rfl,(cc l1).2.2,(rr l1).2.2,(cc l1).2.1,(rr l1).2.1,?_⟩
  refine (dZ (d1.le (hle.trans l1)) (hf.pre 1 (by omega)) ht.2.1 (hf.fit 1 (by omega))).mono ?_
  rintro _ G2 ⟨rfl,l2⟩
  replace l2:=l1.trans l2
  refine ⟨_,rfl,(cc l2).2.2,(rr l2).2.2,?_⟩
  refine (dZ (d2.le (hle.trans l2)) (hf.pre 2 (by omega)) ht.2.2 (hf.fit 2 (by omega))).mono ?_
  rintro _ G ⟨rfl,l3⟩
  replace l3:=l2.trans l3
  refine ⟨_,rfl,?_⟩
  have hmin:(min (min ((t 0).top:Int) ((t 1).top:Int)) ((t 2).top:Int))=((aS (t 0) (t 1) (t 2):Nat):Int):=by unfold aS;omega
  generalize aS (t 0) (t 1) (t 2)=v at*
  intro b11 hb11
  refine atI ?_
  intro b12 hb12
  refine atI ?_
  have n12:b11≠b12:=aC hb12 (am _ _ _)
  have g12:G b12=none:=by rw [aw _ _ n12.symm] at hb12;exact hb12
  let A (k:Nat) (f:Nat→Nat):Array Value:= #[if 0<k then vi (f 0) else vi 0,if 1<k then vi (f 1) else vi 0,if 2<k then vi (f 2) else vi 0]
  let fl:Nat→Nat:=fun i=>num (p.SS i) (lo v (t i))
  let fh:Nat→Nat:=fun i=>num (p.SS i) (hi v (t i))
  have hA:∀k f,k<3→(A k f).setIfInBounds k (vi (f k))=A (k+1) f:=by
   intro k f hk
   match k,hk with
   |0,_=>simp [A]
   |1,_=>simp [A]
   |2,_=>simp [A]
  refine ⟨fun m i F'=>∃k:Nat,i=k∧k≤3∧m=3 - k∧G.le F'∧F' b11=some (.cells (A k fl) 289)∧F' b12=some (.cells (A k fh) 289),3,
   ⟨0,rfl,by omega,rfl,(ac _ hb11).trans (ac _ hb12),by rw [aw _ _ n12,am];rfl,by rw [am];rfl⟩,?_⟩
  rintro m i F1 ⟨k,rfl,hk,rfl,hG,h11,h12⟩
  unfold yn
  rw [hmin]
  refine ⟨fun hlt=> ?_,fun hge=> ?_⟩
  ·have hk3:k<3:=by omega
   obtain ⟨w,rw',dw⟩:=he.c2 k hk3
   have hFG:F.le F1:=l3.trans hG
   have hin:inn (p.SS k) (t k):=by
    match k,hk3 with
    |0,_=>exact ht.1
    |1,_=>exact ht.2.1
    |2,_=>exact ht.2.2
   have hc:F1.cell (Addr.add ⟨n6,0,none⟩ (Int.toNat (k:Int)*1))=some (vi (num (p.SS k) (t k))):=by
    match k,hk3 with
    |0,_=>exact (cc hFG).1
    |1,_=>exact (cc hFG).2.1
    |2,_=>exact (cc hFG).2.2
   refine ⟨by omega,by omega,w,dw.size,by simpa using eJ (hle.trans hFG) rw',by omega,by omega,_,hc,?_⟩
   refine (wM (dw.le (hle.trans hFG)) (hf.pre k hk3) hin (hf.fit k hk3) D.lt).mono ?_
   rintro _ F2 ⟨rfl,l4⟩
   refine ⟨_,_,rfl,by omega,by omega,?_⟩
   refine mw (b:=b11) (o:=k) (by simp) (l4 _ _ h11) (by simp [A];omega) ?_
   rw [hA k fl hk3]
   refine ⟨by omega,by omega,?_⟩
   refine mw (b:=b12) (o:=k) (by simp) (by rw [aw _ _ n12.symm];exact l4 _ _ h12) (by simp [A];omega) ?_
   rw [hA k fh hk3]
   refine ⟨3 - (k+1),by omega,k+1,gR (by omega),by omega,rfl,au (au (hG.trans l4) hb11) g12,?_,am _ _ _⟩
   rw [aw _ _ n12,am]
  ·obtain rfl:k=3:=by omega
   have e11:A 3 fl=dh (p.key fun i=>lo v (t i)):=rfl
   have e12:A 3 fh=dh (p.key fun i=>hi v (t i)):=rfl
   rw [e11] at h11
   rw [e12] at h12
   clear hA hge hk
   clear_value A fl fh
   unfold ym
   rw [hmin]
   have hs1:=(hs.upto l3).grow (F:=G.set b11 (.cells (dh (p.key fun i=>lo v (t i))) 289)) (ac _ hb11) hb11 (am _ _ _)
   have lx:(G.set b11 (.cells (dh (p.key fun i=>lo v (t i))) 289)).le F1:=fun x ob hx=>by
    by_cases hxb:x=b11
    ·subst hxb;rw [am] at hx;rw [h11];exact hx
    ·rw [aw _ _ hxb] at hx;exact hG _ _ hx
   have hs2:=hs1.grow lx (by rw [aw _ _ n12.symm];exact g12) h12
   have f11:F0 b11=none:=aM (hle.trans l3) hb11
   have f12:F0 b12=none:=aM (hle.trans l3) g12
   have l0:F0.le ((F0.set b11 (.cells (dh (p.key fun i=>lo v (t i))) 289)).set b12 (.cells (dh (p.key fun i=>hi v (t i))) 289)):=au (au PH.le_rfl f11) f12
   have q11:((F0.set b11 (.cells (dh (p.key fun i=>lo v (t i))) 289)).set b12 (.cells (dh (p.key fun i=>hi v (t i))) 289)) b11=some (.cells (dh (p.key fun i=>lo v (t i))) 289):=by rw [aw _ _ n12,am]
   have q12:((F0.set b11 (.cells (dh (p.key fun i=>lo v (t i))) 289)).set b12 (.cells (dh (p.key fun i=>hi v (t i))) 289)) b12=some (.cells (dh (p.key fun i=>hi v (t i))) 289):=am _ _ _
   generalize ((F0.set b11 (.cells (dh (p.key fun i=>lo v (t i))) 289)).set b12 (.cells (dh (p.key fun i=>hi v (t i))) 289))=E0 at*
   have he0:=he.le l0
   have hcl:=hs.bd.cl
   obtain ⟨a1,a2,X,a3,a4⟩:=aX (p.res fun i=>lo v (t i)) S D.ol hcl
   obtain ⟨c1,c2,Y,c3,c4⟩:=aX (p.res fun i=>hi v (t i)) (vis (p.res fun i=>lo v (t i)) S) D.oh a1
   have hadd:=ko hcl (v:=v) (l:=p.res fun i=>lo v (t i)) (h:=p.res fun i=>hi v (t i)) ⟨D.lt,D.tl,D.th,D.ol,D.oh⟩
   rw [← D.res] at hadd
   have g1:=uT (p.res fun i=>hi v (t i)) (vis (p.res fun i=>lo v (t i)) S)
   have g2:=x7 (vis (p.res fun i=>hi v (t i)) (vis (p.res fun i=>lo v (t i)) S)) (p.res t)
   rw [hadd] at g2
   refine ⟨_,rfl,_,aq hs2.bd.le he0.c7,dh (p.key fun i=>lo v (t i)),rfl,aj (hs2.bd.le _ _ q11),_,_,_,rfl,Cr,?_⟩
   refine (ih _ D.il D.sl E0 F1 S he0 hs2 (by omega)).mono ?_
   rintro _ F2 ⟨rfl,hs3⟩
   refine ⟨_,rfl,_,rfl,_,aq hs3.bd.le he0.c5,_,aq hs3.bd.le he0.c7,dh (p.key fun i=>hi v (t i)),rfl,aj (hs3.bd.le _ _ q12),_,_,_,rfl,Cr,?_⟩
   refine (ih _ D.ih D.sh E0 F2 _ he0 hs3 (by omega)).mono ?_
   rintro _ F3 ⟨rfl,hs4⟩
   refine ⟨_,rfl,aq hs4.bd.le he0.c5,?_⟩
   obtain ⟨bd4,n94,ne4,o9,m9,hm9,hmo9,hok9⟩:=hs4
   have hnl:num (vis (p.res fun i=>lo v (t i)) S) (p.res fun i=>lo v (t i))=num (vis (p.res fun i=>hi v (t i)) (vis (p.res fun i=>lo v (t i)) S)) (p.res fun i=>lo v (t i)):=by
    rw [c3,bq a2]
   rw [hnl]
   have hil:inn (vis (p.res fun i=>hi v (t i)) (vis (p.res fun i=>lo v (t i)) S)) (p.res fun i=>lo v (t i)):=by rw [c3];exact bk a2
   have hnb:p.bb≠p.b9:=fun e=>by
    obtain ⟨_,_,_,_,⟨s,h5,_⟩,_⟩:=bd4
    obtain ⟨es,c,L,rfl,_⟩:=hmo9
    rw [e,hm9] at h5
    cases h5
   have bd4':BD (E0.set p.b9 o9) F3 p.bb p.mm (vis (p.res fun i=>hi v (t i)) (vis (p.res fun i=>lo v (t i)) S)):=by
    obtain ⟨k1,k2,k3,k4,⟨s,k5,k6,k7⟩,k8⟩:=bd4
    refine ⟨fun x ob hx=> ?_,k2,by rw [aw _ _ hnb];exact k3,by rw [aw _ _ ne4];exact k4,⟨s,k5,k6,fun a ha=> ?_⟩,k8⟩
    ·by_cases hxb:x=p.b9
     ·subst hxb;rw [am] at hx;rw [hm9];exact hx
     ·rw [aw _ _ hxb] at hx;exact k1 _ _ hx
    ·rw [aw _ _ (fun e=> ?_)]
     ·exact k7 a ha
     ·obtain ⟨cur,hcur⟩:=k6.elem ha
      obtain ⟨es,c,L,rfl,_⟩:=hmo9
      rw [e,hm9] at hcur
      cases hcur
   refine (mj bd4' hil c2 ⟨D.lt,D.tl,D.th⟩ (by omega)).mono ?_
   rintro _ F4 ⟨rfl,bd5⟩
   rw [← D.res,hadd] at bd5 ⊢
   have hm5:F4 p.b9=some o9:=bd5.le _ _ (am _ _ _)
   have h65:F4 n6=some (.cells (dh (p.key t)) 289):=by
    have hne6:n6≠p.b9:=fun e=>by
     rw [e,hs.n9] at h6;cases h6
    exact bd5.le _ _ (by rw [aw _ _ hne6];exact l0 _ _ h6)
   have bd6:BD E0 F4 p.bb p.mm (vis (p.res t) S):=bd5.weaken (au PH.le_rfl n94)
   refine ⟨_,rfl,_,aq bd6.le he0.c6,dh (p.key t),rfl,aj h65,?_⟩
   refine bv mt3 hm5 hmo9 (p.key t) _ fun o' ho'=> ?_
   refine hR _ ?_
   refine AS.weaken ?_ l0
   have hinT:inn (vis (p.res t) S) (p.res t):=by
    have hokT:(p.res t).ok:=by rw [D.res];exact qS D.lt D.tl D.th D.ol D.oh
    exact (aX _ S hokT hcl).2.1
   refine ⟨bd6.other n94 hnb ne4 (fun c e fr h=> ?_),n94,ne4,o',_,am _ _ _,ho',?_⟩
   ·obtain ⟨es,c,L,rfl,_⟩:=hmo9
    rw [hm5] at h
    cases h
   ·intro k w hkw
    dsimp only at hkw
    by_cases hk:k=p.key t
    ·rw [if_pos hk] at hkw
     exact ⟨t,ht,hk,hinT,(Option.some.inj hkw).symm⟩
    ·rw [if_neg hk] at hkw
     obtain ⟨u,u1,u2,u3,u4⟩:=hok9 k w hkw
     refine ⟨u,u1,u2,?_,?_⟩
     ·rw [← hadd]
      unfold cM
      split
      ·exact u3
      ·exact bk u3
     ·rw [u4,← hadd]
      unfold cM
      split
      ·rfl
      ·rw [bq u3]
theorem EC (hf:AF p):∀(n:Nat) (t:Nat→Tr),szs t≤n→p.inK t→Ct p t:=by
 intro n
 induction n with
 |zero=>intro t hn;have:=jq (t 0);unfold szs at hn;omega
 |succ n ih=>
  intro t hn ht F0 F S he hs hfit
  show ae prog 211 #[.agg (dh (p.key t)),_,_,_,_,_] F _
  refine Ma ?_
  unfold Gp
  intro n6 hn6
  refine atI ?_
  have hle:=hs.bd.le
  have f6:F0 n6=none:=aM hle hn6
  have hs1:=hs.grow (F:=F.set n6 (.cells (dh (p.key t)) 289)) (ac _ hn6) hn6 (am _ _ _)
  have l0:F0.le (F0.set n6 (.cells (dh (p.key t)) 289)):=ac _ f6
  have he1:=he.le l0
  have h6:=am F0 n6 (.cells (dh (p.key t)) 289)
  generalize F0.set n6 (.cells (dh (p.key t)) 289)=E0 at*
  generalize F.set n6 (.cells (dh (p.key t)) 289)=F1 at*
  have h6':=hs1.bd.le _ _ h6
  have rest:¬((t 0).isL=true∧(t 1).isL=true∧(t 2).isL=true)→fo (some ⟨p.b3,0,none⟩) (some ⟨p.b6,0,none⟩) (some ⟨p.b2,0,none⟩) (some ⟨p.b7,0,none⟩) (some ⟨p.b5,0,none⟩) n6 false
    (fun r F'=>r=vi (num (vis (p.res t) S) (p.res t))∧AS F0 F' p (vis (p.res t) S)) F1:=fun hn'=>
   EB hf ht (fun u hu hlt=>ih u (by omega) hu) he1 hs1 h6 hfit hn' fun F' h=>⟨rfl,h.weaken l0⟩
  refine ⟨by omega,by omega,_,by simp only [aE];rw [an h6'];rfl,fun h0=> ?_,fun h0=> ?_⟩
  ·refine ⟨by omega,by omega,_,by simp only [aE];rw [an h6'];rfl,fun h1=> ?_,fun h1=> ?_⟩
   ·refine ⟨by omega,by omega,_,by simp only [aE];rw [an h6'];rfl,?_⟩
    have k0:=df.1 h0
    have k1:=df.1 h1
    by_cases h2:(t 2).isL=true
    ·have e:decide ((p.key t).2.2<2)=true:=decide_eq_true (df.2 h2)
     dsimp only
     rw [e]
     have hl:(p.res t).isL=true:=by
      unfold AP.res
      generalize t 0=x0 at*
      generalize t 1=x1 at*
      generalize t 2=x2 at*
      cases x0 with
      |node _ _ _=>cases k0
      |leaf a=>
       cases x1 with
       |node _ _ _=>cases k1
       |leaf b=>
        cases x2 with
        |node _ _ _=>cases h2
        |leaf c=>rw [jZ];rfl
     have hvi:vis (p.res t) S=S:=fg (.inl hl)
     rw [hvi]
     exact EA he1 hs1 h6 k0 k1 h2 fun F' h=>⟨rfl,(hs1.upto h).weaken l0⟩
    ·have e:decide ((p.key t).2.2<2)=false:=decide_eq_false (fun h=>h2 (df.1 h))
     dsimp only
     rw [e]
     exact rest fun hc=>h2 hc.2.2
   ·exact rest fun hc=>h1 (df.2 hc.2.1)
  ·exact rest fun hc=>h0 (df.2 hc.1)
end
end Go.Proofs.YtenpmjhnhepfdaaGreatDoor
