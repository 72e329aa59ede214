/-
  The diagrams: the walk that numbers the branches of a builder.
-/
import Derived.Test.YtenpmjhnhepfdaaGreatDoorQw
import Derived.Test.YtenpmjhnhepfdaaGreatDoorEa
namespace Go.Proofs.YtenpmjhnhepfdaaGreatDoor
open Go Go.Proofs.Tryz
set_option maxRecDepth 10000
section
variable {F:PH} {l:List Nd} {s:Sl}
theorem Nw:aC prog 205=true:=by kernel_rfl
def LgL (l:List Nd) (w:List Nat):Prop:=Lg (bz l).pat w
theorem rO (hT:Tab F) (hs:RdS F s 5 (dG l)) (st:ByteArray) (hst:st.size<=1000000000):ae prog 151 #[s.v,.string st] F fun r F'=>(∃q:Bool,r=.bool q/\(q=true↔fh l=0/\LgL l (bs st)))/\F.le F':=by
 refine Qv ?_
 unfold Kw
 have h:=Lo.start F
 refine h.new _ _ fun b3 F1 h=> ?_
 refine (h.call (mR hs)).mono ?_
 rintro _ F2 ⟨G1,⟨rfl,l1⟩,h⟩
 refine ⟨_,rfl,fun hc=>⟨⟨false,rfl,fun h=>(by cases h),fun h=>absurd h.1 hc⟩,aa l1 h.le⟩,fun hc=> ?_⟩
 have h0:fh l=0:=by omega
 obtain ⟨hG,hl⟩:=ta h0
 obtain ⟨ns,ht⟩:=fN hG
 refine (h.call (uF (hT.le l1) hG hl (hs.le l1))).mono ?_
 rintro _ F3 ⟨G,⟨⟨bm,rfl,hM⟩,l2⟩,h⟩
 have c3:F3.cell (Addr.mk b3 0 none)=some (.string st):=by rw [h.cell (b:=b3) (w:= #[.string st]) (e:=9) (by simp)];rfl
 refine ⟨_,rfl,_,c3,?_⟩
 have j1:∀(b6:Nat) (mt:Bool) (F4:PH),Lo G F4 [(b6,#[.bool mt],4),(b3,#[.string st],9)]->(mt=true↔st.size=0/\(bz l).nul=true)->
   nX b3 (some ⟨bm,0,none⟩) (some ⟨b6,0,none⟩) (fun r F'=>(∃q:Bool,r=.bool q/\(q=true↔fh l=0/\LgL l (bs st)))/\F.le F') F4:=fun b6 mt F4 h hmt=>by
  unfold nX
  refine ⟨_,by rw [h.cell (b:=b3) (w:= #[.string st]) (e:=9) (by simp)];rfl,?_⟩
  refine (Gl (bm:=bm) (k:=205) (cap:= #[pa b3,pa b6]) (Inv:=fun n F'=>∃mt:Bool,Lo G F' [(b6,#[.bool mt],4),(b3,#[.string st],9)]/\(n=0->(mt=true↔st.size=0/\(bz l).nul=true))/\(0<n->(mt=true↔n=st.size/\LgL l ((bs st).take n)))) Nw hl hG ht (by omega)
   (fun n F' ⟨b,hL,_⟩=>⟨(hT.le (aa l1 l2)).le hL.le,hM.le hL.le⟩) ?_ ⟨mt,h,fun _=>hmt,fun h=>absurd h (by omega)⟩).mono ?_
  ·rintro n F' q hn hq ⟨mt,hL,_,_⟩
   show ae prog 205 #[vi ((n+1:Nat):Int),.bool q,pa b3,pa b6] F' _
   refine QA ?_
   unfold KB
   refine ⟨_,rfl,_,by rw [hL.cell (b:=b3) (w:= #[.string st]) (e:=9) (by simp)];rfl,fun he=>⟨_,rfl,?_⟩,fun he=>⟨_,rfl,?_⟩⟩
   ·refine Lo.put1 [] [(b3,#[.string st],9)] (b:=b6) (i:=0) (w0:= #[.bool mt]) (w:= #[.bool q]) (e:=4) hL (by simp) rfl fun F'' h'=> ?_
    exact ⟨rfl,q,h',fun h=>by omega,fun _=>⟨fun h=>⟨by omega,hq.1 h⟩,fun h=>hq.2 h.2⟩⟩
   ·refine Lo.put1 [] [(b3,#[.string st],9)] (b:=b6) (i:=0) (w0:= #[.bool mt]) (w:= #[.bool false]) (e:=4) hL (by simp) rfl fun F'' h'=> ?_
    exact ⟨rfl,false,h',fun h=>by omega,fun _=>⟨fun h=>(by cases h),fun h=>by omega⟩⟩
  ·rintro _ F5 ⟨rfl,n,G',hn,⟨mt,hL,hz,hp⟩,l5,hend⟩
   refine ⟨rfl,_,rfl,mt,aq l5 (by rw [hL.cell (b:=b6) (w:= #[.bool mt]) (e:=4) (by simp)];rfl),⟨mt,rfl,?_⟩,aa l1 (aa l2 (aa hL.le l5))⟩
   have hall:(bs st).take st.size=bs st:=List.take_of_length_le (by rw [bL];exact Nat.le_refl _)
   have hnil:st.size=0->bs st=[]:=fun h=>List.length_eq_zero_iff.1 (by rw [bL];exact h)
   have hnul:(bz l).nul=true↔LgL l []:=(bz l).nul_iff
   rcases Nat.eq_zero_or_pos n with e|e
   ·subst e
    rw [hz rfl]
    constructor
    ·rintro ⟨h1,h2⟩
     exact ⟨h0,by rw [hnil h1];exact hnul.1 h2⟩
    ·rintro ⟨_,h2⟩
     rcases hend with he|he
     ·exact ⟨he.symm,hnul.2 (by rw [<- hnil he.symm];exact h2)⟩
     ·rcases Nat.eq_zero_or_pos st.size with h1|h1
      ·exact ⟨h1,hnul.2 (by rw [<- hnil h1];exact h2)⟩
      ·exact absurd (by rw [hall];exact h2) (he st.size h1 (Nat.le_refl _))
   ·rw [hp e]
    constructor
    ·rintro ⟨h1,h2⟩
     exact ⟨h0,by rw [h1,hall] at h2;exact h2⟩
    ·rintro ⟨_,h2⟩
     rcases hend with he|he
     ·exact ⟨he,by rw [he,hall];exact h2⟩
     ·by_cases h1:n=st.size
      ·exact ⟨h1,by rw [h1,hall];exact h2⟩
      ·exact absurd (by rw [hall];exact h2) (he st.size (by omega) (Nat.le_refl _))
 have hemp:(st.toList==(ByteArray.mk #[]).toList)=decide (st.size=0):=by
  rw [Gv]
  rw [Bool.eq_iff_iff,decide_eq_true_eq,decide_eq_true_eq,<- bL st]
  constructor
  ·intro h;rw [h];rfl
  ·intro h;exact List.length_eq_zero_iff.1 h
 dsimp only
 rw [hemp]
 refine ⟨fun he=> ?_,fun he=> ?_⟩
 ·have he:=of_decide_eq_true he
  obtain ⟨s',bf,qm,_,_⟩:=(hM.le h.le).ex
  refine ⟨_,rfl,(bz l).nul,by rw [bS,am qm];rfl,?_⟩
  refine h.new _ _ fun b6 F4 h=> ?_
  refine Lo.put1 [] [(b3,#[.string st],9)] (b:=b6) (i:=0) (w0:= #[.bool false]) (w:= #[.bool (bz l).nul]) (e:=4) h (by simp) rfl fun F5 h=> ?_
  exact j1 b6 _ F5 h ⟨fun h=>⟨he,h⟩,fun h=>h.2⟩
 ·have he:=of_decide_eq_false he
  refine h.new _ _ fun b6 F4 h=> ?_
  refine Lo.put1 [] [(b3,#[.string st],9)] (b:=b6) (i:=0) (w0:= #[.bool false]) (w:= #[.bool false]) (e:=4) h (by simp) rfl fun F5 h=> ?_
  exact j1 b6 _ F5 h ⟨fun h=>(by cases h),fun h=>absurd h.1 he⟩
end
end Go.Proofs.YtenpmjhnhepfdaaGreatDoor
namespace Go.Proofs.YtenpmjhnhepfdaaGreatDoor
open Go Go.Proofs.Tryz Tr
set_option maxRecDepth 10000
theorem FN (d:Nat) (a b:Int) (F:PH):rdo prog (Op.equalIn (d+1) 3 (vi a) (vi b)) F (decide (a=b)):=by
 simp only [Op.equalIn,ak]
 refine ⟨_,(av underlying3 _).2 rfl,?_⟩
 simp only [if_true,cg]
 by_cases h:a=b<;>simp [h]
theorem qD (cs:Array Value) (off:Nat) (v:Value) (h:cs[off]? =some v) (F:PH):rdo prog (part 3 cs off) F v:=by
 unfold part
 simp only [ak]
 refine ⟨false,(dm underlying3 _).2 rfl,?_⟩
 simp only [Bool.false_eq_true,if_false,h]
 rfl
theorem AH (e:Bool) (n:Nat) (a:Int) (F:PH):rdo prog (Instr.checkKey e (n+1) 3 (vi a)) F ():=by
 simp only [Instr.checkKey,ak]
 refine ⟨_,(av underlying3 _).2 rfl,?_⟩
 rfl
theorem Ur:prog.stoodInHeld 103=false:=by kernel_rfl
abbrev LS:=ForInStep (Option Bool×Unit)
theorem eH (n:Nat) (off:Nat) (cs ds:Array Value) (x y:Int) (h1:cs[off]? =some (vi x)) (h2:ds[off]? =some (vi y)) (F:PH):
  rdo prog (do
   let a <- part 3 cs off
   let b <- part 3 ds off
   let r <- Op.equalIn (n+1) 3 a b
   if (!r)=true then pure (ForInStep.done (some false,())) else pure (ForInStep.yield (none,())):Sem LS) F (if x=y then .yield (none,()) else .done (some false,())):=by
 simp only [ak]
 refine ⟨_,qD _ _ _ h1 F,_,qD _ _ _ h2 F,_,FN n x y F,?_⟩
 by_cases h:x=y
 ·simp [h]
 ·simp [h]
theorem FO (x y:Br) (F:PH):rdo prog (Op.equal 103 (.agg (aQ x)) (.agg (aQ y))) F (decide (x=y)):=by
 unfold Op.equal Op.maxDepth
 show rdo prog (Op.equalIn (9998+1+1) 103 _ _) _ _
 unfold Op.equalIn
 simp only [ak]
 refine ⟨_,(av underlying103 _).2 rfl,?_⟩
 dsimp only
 rw [ak]
 refine ⟨prog,rfl,?_⟩
 rw [Ur]
 simp only [Bool.false_eq_true,if_false]
 simp only [List.forIn_toArray,List.forIn_cons,List.forIn_nil,ak]
 obtain ⟨a,b,c⟩:=x
 obtain ⟨d,e,f⟩:=y
 rw [if_pos (by decide),if_pos (by decide),if_pos (by decide)]
 by_cases h1:a=d
 ·by_cases h2:b=e
  ·by_cases h3:c=f
   ·refine ⟨(none,()),⟨_,eH 9998 0 _ _ a d rfl rfl F,?_⟩,?_⟩
    ·rw [if_pos h1]
     refine (ak _ _ _ _).2 ⟨_,eH 9998 1 _ _ b e rfl rfl F,?_⟩
     rw [if_pos h2]
     refine (ak _ _ _ _).2 ⟨_,eH 9998 2 _ _ c f rfl rfl F,?_⟩
     rw [if_pos h3]
     rfl
    ·simp [h1,h2,h3]
   ·refine ⟨(some false,()),⟨_,eH 9998 0 _ _ a d rfl rfl F,?_⟩,?_⟩
    ·rw [if_pos h1]
     refine (ak _ _ _ _).2 ⟨_,eH 9998 1 _ _ b e rfl rfl F,?_⟩
     rw [if_pos h2]
     refine (ak _ _ _ _).2 ⟨_,eH 9998 2 _ _ c f rfl rfl F,?_⟩
     rw [if_neg h3]
     rfl
    ·simp [h3]
  ·refine ⟨(some false,()),⟨_,eH 9998 0 _ _ a d rfl rfl F,?_⟩,?_⟩
   ·rw [if_pos h1]
    refine (ak _ _ _ _).2 ⟨_,eH 9998 1 _ _ b e rfl rfl F,?_⟩
    rw [if_neg h2]
    rfl
   ·simp [h2]
 ·refine ⟨(some false,()),⟨_,eH 9998 0 _ _ a d rfl rfl F,?_⟩,?_⟩
  ·rw [if_neg h1]
   rfl
  ·simp [h1]
theorem qE (e:Bool) (n:Nat) (off:Nat) (cs:Array Value) (x:Int) (h1:cs[off]? =some (vi x)) (F:PH):
  rdo prog (do
   let a <- part 3 cs off
   Instr.checkKey e (n+1) 3 a
   pure (ForInStep.yield PUnit.unit):Sem (ForInStep PUnit)) F (.yield PUnit.unit):=by
 simp only [ak]
 exact ⟨_,qD _ _ _ h1 F,_,AH e n x F,rfl⟩
theorem PQ (e:Bool) (x:Br) (F:PH):rdo prog (Instr.checkKey e 10000 103 (.agg (aQ x))) F ():=by
 show rdo prog (Instr.checkKey e (9998+1+1) 103 _) _ _
 unfold Instr.checkKey
 simp only [ak]
 refine ⟨_,(av underlying103 _).2 rfl,?_⟩
 dsimp only
 simp only [List.forIn_toArray,List.forIn_cons,List.forIn_nil]
 rw [if_pos (by decide),if_pos (by decide),if_pos (by decide)]
 refine (ak _ _ _ _).2 ⟨PUnit.unit,(ak _ _ _ _).2 ⟨_,qE e 9998 0 _ _ rfl F,(ak _ _ _ _).2 ⟨_,qE e 9998 1 _ _ rfl F,(ak _ _ _ _).2 ⟨_,qE e 9998 2 _ _ rfl F,rfl⟩⟩⟩,rfl⟩
abbrev yI (x:Br):Value:=.agg (aQ x)
abbrev xh (x:Int):Value:=vi x
theorem PS:rV prog 3 xh:=by
 refine ⟨fun F a b=> ?_,fun F e a=> ?_,fun a=> ?_,_,underlying3,.inl fun a b=> ?_⟩
 ·unfold Op.equal Op.maxDepth
  exact FN 9999 a b F
 ·exact AH e 9999 a F
 ·unfold Instr.sameBits;simp
 ·unfold Instr.sameNow
  simp only [if_true]
  by_cases h:a=b<;>simp [h]
theorem PT:rV prog 103 yI:=by
 refine ⟨fun F a b=>FO a b F,fun F e a=>PQ e a F,fun a=> ?_,_,underlying103,.inr fun a b=> ?_⟩
 ·show Instr.sameBits (9998+1+1) _ _=true
  simp [Instr.sameBits]
 ·rfl
theorem Us:bk prog 4=some (.bool false):=by kernel_rfl
theorem mtN:kj prog 299 xh (vi 0):=⟨_,_,underlying299,zr3,PS⟩
theorem mtB:kj prog 226 yI (vi 0):=⟨_,_,underlying226,zr3,PT⟩
theorem mtK:kj prog 224 yI (.bool false):=⟨_,_,underlying224,Us,PT⟩
theorem yJ {F:PH} {a b:Sl} {x y:List Br} (ha:RdS F a 3 (aS x)) (hb:RdS F b 3 (aS y)) (hl:Fit x.length):
  ae prog 98 #[a.v,b.v] F fun v F'=>v=.bool (decide (x=y))/\F'=F:=by
 have hal:=ha.blen
 have hbl:=hb.blen
 refine T0 ?_
 unfold OU
 refine ⟨fun h=> ?_,fun h=> ?_⟩
 ·refine ⟨?_,rfl⟩
  have:¬x=y:=by intro e;subst e;omega
  simp [this]
 ·have hlen:x.length=y.length:=by omega
  refine ⟨fun m i F'=>∃k:Nat,i=k/\k<=x.length/\m=x.length - k/\F'=F/\x.take k=y.take k,x.length,⟨0,rfl,by omega,rfl,rfl,rfl⟩,?_⟩
  rintro m i F' ⟨k,rfl,hk,rfl,rfl,htake⟩
  unfold Ej
  refine ⟨fun hlt=> ?_,fun hge=> ?_⟩
  ·have hkx:k<x.length:=by omega
   have hky:k<y.length:=by omega
   obtain ⟨p,hp,hpr,_⟩:=rdb ha (List.getElem?_eq_getElem hkx)
   obtain ⟨q,hq,hqr,_⟩:=rdb hb (List.getElem?_eq_getElem hky)
   refine ⟨p,hp,by omega,hlt,aQ x[k],rfl,by simpa using hpr,q,hq,by omega,by omega,aQ y[k],rfl,by simpa using hqr,decide (x[k]=y[k]),fun F=>FO x[k] y[k] F,fun hne=> ?_,fun heq=> ?_⟩
   ·refine ⟨?_,rfl⟩
    have:¬x=y:=by rintro rfl;simp at hne
    simp [this]
   ·refine ⟨x.length - (k+1),by omega,k+1,fd (by omega),by omega,rfl,rfl,?_⟩
    rw [List.take_succ_eq_append_getElem hkx,List.take_succ_eq_append_getElem hky,htake]
    simp at heq
    rw [heq]
  ·refine ⟨?_,rfl⟩
   have hk':k=x.length:=by omega
   rw [hk',List.take_length,hlen,List.take_length] at htake
   simp [htake]
theorem Dc {F:PH} {v w:Array Value} {d e:Dia} (hd:DV F v d) (he:DV F w e) (hl:Fit d.1.length):
  ae prog 29 #[.agg v,.agg w] F fun r F'=>r=.bool (decide (d=e))/\F.le F':=by
 obtain ⟨s,rfl,hr⟩:=hd
 obtain ⟨t,rfl,ht⟩:=he
 refine TL ?_
 unfold OJ
 intro b2 hb2
 refine atI ?_
 have hle2:=ac (.cells #[s.v,vi d.2] 33) hb2
 intro b3 hb3
 refine atI ?_
 have hle3:=ac (.cells #[t.v,vi e.2] 33) hb3
 have hle:F.le _:=fun b o h=>hle3 b o (hle2 b o h)
 have hc2:=hle3 _ _ (an F b2 (.cells #[s.v,vi d.2] 33))
 have hc3:=an (F.set b2 (.cells #[s.v,vi d.2] 33)) b3 (.cells #[t.v,vi e.2] 33)
 generalize (F.set b2 (.cells #[s.v,vi d.2] 33)).set b3 (.cells #[t.v,vi e.2] 33)=G at*
 refine ⟨_,by rw [am hc2];rfl,_,by rw [am hc3];rfl,fun h=> ?_,fun h=> ?_⟩
 ·refine ⟨s,by rw [am hc2];rfl,t,by rw [am hc3];rfl,?_⟩
  refine (yJ (hr.le hle) (ht.le hle) hl).mono ?_
  rintro _ F' ⟨rfl,rfl⟩
  refine ⟨_,rfl,?_,hle⟩
  obtain ⟨d1,d2⟩:=d
  obtain ⟨e1,e2⟩:=e
  simp only at h
  simp [h]
 ·refine ⟨?_,hle⟩
  have:¬d=e:=by rintro rfl;exact h rfl
  simp [this]
def mpS (S:List Tr) (x:Br):Option Value:=if x∈brs S then some (vi (((brs S).idxOf x+2:Nat):Int)) else none
structure BD (F0 F:PH) (b m:Nat) (S:List Tr):Prop where
 le:F0.le F
 cl:Cl S
 nb:F0 b=none
 nm:F0 m=none
 ex:∃s:Sl,F b=some (.cells #[s.v,.map (some m)] 228)/\bA F 103 3 s (aS (brs S))/\∀a,s.base=some a->F0 a.block=none
 map:∃o,F m=some o/\gm yI (mpS S) o
theorem bA.elem {F:PH} {e size:Nat} {s:Sl} {vs:List Value} (h:bA F e size s vs) {a:Addr} (ha:s.base=some a):∃cur,F a.block=some (.cells cur e (0,0)):=by
 rcases h with ⟨rfl,rfl⟩|⟨b,cur,h1,h2,_⟩
 ·cases ha
 ·rw [h1] at ha
  cases ha
  exact ⟨cur,h2⟩
theorem nf (F:PH):ae prog 209 #[] F fun r F'=>∃b m,r=.pointer (some ⟨b,0,none⟩)/\b≠m/\BD F F' b m []:=by
 refine OS ?_
 unfold JO
 intro b1 hb1
 refine atI ?_
 intro b3 hb3
 refine atI ?_
 have hle1:=ac (.map #[] 0) hb1
 have hle3:=ac (.cells #[Value.slice none 0 0,Value.map (some b1)] 228) hb3
 have hne:b3≠b1:=fun e=>by rw [e,an] at hb3;cases hb3
 refine ⟨b3,b1,rfl,hne,fun b o h=>hle3 b o (hle1 b o h),.nil,aV hle1 hb3,hb1,⟨Sl.nil,an _ _ _,.inl ⟨rfl,rfl⟩,fun a ha=>by cases ha⟩,_,hle3 _ _ (an _ _ _),?_⟩
 have:mpS []=fun _=>none:=by
  funext x
  simp [mpS,brs]
 rw [this]
 exact gm.empty yI
instance (S:List Tr) (t:Tr):Decidable (inn S t):=inferInstanceAs (Decidable (t.isL=true\/t∈S))
def dE (S:List Tr) (t:Tr):List Tr:=if inn S t then S else S++[t]
theorem xj {S:List Tr} (hS:Cl S) {v:Nat} {l h:Tr} (hk:v<64/\v<l.top/\v<h.top/\l.ok/\h.ok):dE (vis h (vis l S)) (mk v l h)=vis (mk v l h) S:=by
 obtain ⟨h0,h1,h2,h3,h4⟩:=hk
 obtain ⟨a1,a2,X,a3,a4⟩:=bv l S h3 hS
 obtain ⟨b1,b2,Y,b3,b4⟩:=bv h (vis l S) h4 a1
 unfold mk
 split
 ·rename_i e
  subst e
  rw [jh a2]
  unfold dE
  rw [if_pos a2]
 ·rename_i e
  conv=>rhs;unfold vis
  unfold dE
  by_cases hm:node v l h∈S
  ·have hl:=(hS.inn_kids (.inr hm)).1
   have hh:=(hS.inn_kids (.inr hm)).2
   rw [if_pos hm,jh hl,jh hh,if_pos (.inr hm)]
  ·rw [if_neg hm,if_neg]
   rintro (hc|hc)
   ·cases hc
   ·rw [b3,a3] at hc
    rcases List.mem_append.1 hc with hc|hc
    ·rcases List.mem_append.1 hc with hc|hc
     ·exact hm hc
     ·have:=a4 _ hc;simp only [sz] at this;omega
    ·have:=b4 _ hc;simp only [sz] at this;omega
theorem sX {α β:Type} [DecidableEq α] [DecidableEq β] (f:α->β) (x:α):∀(l:List α),x∈l->(∀y∈l,f y=f x->y=x)->(l.map f).idxOf (f x)=l.idxOf x
 |[],h,_=>by cases h
 |a::l,h,hi=>by
  simp only [List.map_cons,List.idxOf_cons]
  by_cases ha:a=x
  ·subst ha
   simp
  ·have h1:¬f a=f x:=fun e=>ha (hi a (by simp) e)
   have h2:(a==x)=false:=by simpa using ha
   have h3:(f a==f x)=false:=by simpa using h1
   rw [h2,h3]
   simp only [cond_false]
   rw [sX f x l (by simpa [Ne.symm ha] using h) (fun y hy=>hi y (by simp [hy]))]
theorem ib {S:List Tr} (hS:Cl S) {v:Nat} {l h:Tr} (hl:inn S l) (hh:inn S h):br S (node v l h)∈brs S↔node v l h∈S:=by
 constructor
 ·intro hm
  obtain ⟨u,hu,he⟩:=List.mem_map.1 hm
  obtain ⟨_,v',l',h',rfl,hl',hh'⟩:=hS.mem u hu
  simp only [br,Br.mk.injEq] at he
  obtain ⟨e1,e2,e3⟩:=he
  rw [<- dk hl' hl (by omega),<- dk hh' hh (by omega),<- show v'=v by omega]
  exact hu
 ·intro hm
  exact List.mem_map_of_mem hm
theorem Dd {S:List Tr} (hS:Cl S) {v:Nat} {l h:Tr} (hm:node v l h∈S):(brs S).idxOf (br S (node v l h))+2=num S (node v l h):=by
 unfold brs
 rw [sX _ _ _ hm (fun y hy e=>DJ hS hy hm e)]
 rfl
theorem FP {S:List Tr} (hS:Cl S) {v:Nat} {l h:Tr} (hl:inn S l) (hh:inn S h) (hn:node v l h ∉ S):
  mpS (S++[node v l h])=fun x=>if x=br S (node v l h) then some (vi (((S.length+2:Nat):Int))) else mpS S x:=by
 have hb:br S (node v l h) ∉ brs S:=fun hm=>hn ((ib hS hl hh).1 hm)
 have hbr:br S (node v l h)=⟨(v:Int),(num S l:Int),(num S h:Int)⟩:=rfl
 funext x
 unfold mpS
 rw [d9 hS hl hh,<- hbr]
 by_cases hx:x=br S (node v l h)
 ·subst hx
  rw [if_pos rfl,if_pos (by simp),List.idxOf_append,if_neg hb]
  simp [aO]
 ·rw [if_neg hx]
  by_cases hm:x∈brs S
  ·rw [if_pos hm,if_pos (by simp [hm]),List.idxOf_append,if_pos hm]
  ·rw [if_neg hm,if_neg (by simp [hm,hx])]
section
variable {F0 F:PH} {b m:Nat} {S:List Tr}
theorem xk (hd:BD F0 F b m S) {v:Nat} {l h:Tr} (hl:inn S l) (hh:inn S h) (hv:v<64/\v<l.top/\v<h.top) (hf:Fit (S.length+2)):
  ae prog 210 #[.pointer (some ⟨b,0,none⟩),vi v,vi (num S l),vi (num S h)] F fun r F'=>r=vi (num (dE S (mk v l h)) (mk v l h))/\BD F0 F' b m (dE S (mk v l h)):=by
 have hd':=hd
 obtain ⟨hle,hS,hb0,hm0,⟨s,hb,ho,hs0⟩,ob,hm,hmp⟩:=hd
 refine OT ?_
 unfold JP
 refine ⟨fun he=> ?_,fun he=> ?_⟩
 ·obtain rfl:=dk hl hh (by omega)
  have e:mk v l l=l:=by simp [mk]
  rw [e]
  have e2:dE S l=S:=by unfold dE;rw [if_pos hl]
  rw [e2]
  exact ⟨rfl,hd'⟩
 have hlh:l≠h:=fun e=>he (by rw [e])
 have emk:mk v l h=node v l h:=by simp [mk,hlh]
 have hok:(node v l h).ok:=⟨hv.1,hv.2.1,hv.2.2,hlh,hS.inn_ok hl,hS.inn_ok hh⟩
 rw [emk]
 intro b9 hb9
 refine atI ?_
 refine stW (an _ _ _) rfl rfl (fR ⟨v,num S l,num S h⟩) ?_
 rw [aR]
 have hle9:=ac (.cells (aQ ⟨v,num S l,num S h⟩) 103) hb9
 have h9:=an F b9 (.cells (aQ ⟨v,num S l,num S h⟩) 103)
 have hbr:br S (node v l h)=⟨(v:Int),(num S l:Int),(num S h:Int)⟩:=rfl
 rw [<- hbr] at h9 hle9
 show ∃b0a_:Addr,_
 rw [show (#[vi v,vi (num S l),vi (num S h)]:Array Value)=aQ (br S (node v l h)) from rfl]
 replace hb:=hle9 _ _ hb
 replace hm:=hle9 _ _ hm
 have hle1:F0.le (F.set b9 (.cells (aQ (br S (node v l h))) 103)):=fun x o hx=>hle9 x o (hle x o hx)
 have ne9:∀a,s.base=some a->a.block≠b9:=fun a ha e=>by
  obtain ⟨cur,hcur⟩:=ho.elem ha
  rw [e,hb9] at hcur
  cases hcur
 have hbase:∀a,s.base=some a->(∃cur,(F.set b9 (.cells (aQ (br S (node v l h))) 103)) a.block=some (.cells cur 103 (0,0))):=fun a ha=>by
  obtain ⟨cur,hcur⟩:=ho.elem ha
  exact ⟨cur,hle9 _ _ hcur⟩
 replace ho:bA (F.set b9 (.cells (aQ (br S (node v l h))) 103)) 103 3 s (aS (brs S)):=ho.keep fun a ha=>by
  obtain ⟨cur,hcur⟩:=ho.elem ha
  rw [hcur,hle9 _ _ hcur]
 generalize F.set b9 (.cells (aQ (br S (node v l h))) 103)=F1 at*
 refine ⟨_,rfl,some m,by simp only [aK];rw [am hb];rfl,aQ (br S (node v l h)),rfl,aj h9,?_⟩
 have hlk:=dL (F:=F1) mtB hm hmp (br S (node v l h)) true
 by_cases hmem:node v l h∈S
 ·have hx:=(ib hS hl hh).2 hmem
  have e1:mpS S (br S (node v l h))=some (vi (num S (node v l h))):=by
   unfold mpS
   rw [if_pos hx,Dd hS hmem]
  rw [e1] at hlk
  refine ⟨_,_,hlk,fun hc=>(by cases hc),fun _=> ?_⟩
  have e2:dE S (node v l h)=S:=by unfold dE;rw [if_pos (.inr hmem)]
  rw [e2]
  exact ⟨rfl,hle1,hS,hb0,hm0,⟨s,hb,ho,hs0⟩,ob,hm,hmp⟩
 ·have hx:br S (node v l h) ∉ brs S:=fun hx=>hmem ((ib hS hl hh).1 hx)
  have e1:mpS S (br S (node v l h))=none:=by
   unfold mpS
   rw [if_neg hx]
  rw [e1] at hlk
  have e2:dE S (node v l h)=S++[node v l h]:=by
   unfold dE
   rw [if_neg]
   rintro (hc|hc)
   ·cases hc
   ·exact hmem hc
  rw [e2]
  have hS':Cl (S++[node v l h]):=.snoc hS hl hh hok hmem
  refine ⟨_,_,hlk,fun _=> ?_,fun hc=>(by cases hc)⟩
  refine ⟨s,by rw [am hb];rfl,aQ (br S (node v l h)),rfl,aj h9,rfl,fun b37 hb37=> ?_⟩
  refine atI ?_
  have hle37:=ac (.cells (aQ (br S (node v l h))) 103) hb37
  have h37:=an F1 b37 (.cells (aQ (br S (node v l h))) 103)
  replace hb:=hle37 _ _ hb
  replace hm:=hle37 _ _ hm
  replace h9:=hle37 _ _ h9
  have hle2:F0.le (F1.set b37 (.cells (aQ (br S (node v l h))) 103)):=fun x o hx=>hle37 x o (hle1 x o hx)
  replace ho:bA (F1.set b37 (.cells (aQ (br S (node v l h))) 103)) 103 3 s (aS (brs S)):=ho.keep fun a ha=>by
   obtain ⟨cur,hcur⟩:=hbase a ha
   rw [hcur,hle37 _ _ hcur]
  generalize F1.set b37 (.cells (aQ (br S (node v l h))) 103)=F2 at*
  have hlen:=ho.rd.blen
  rw [aO] at hlen
  refine gK underlying31 zI zJ rfl (by decide) hle2 ho hs0 (x:=⟨some ⟨b37,0,none⟩,1,1⟩) (news:=dc (br S (node v l h))) (RdS.new h37 rfl rfl (Nat.le_refl _)) (fun x hx=>iL [br S (node v l h)] x (by simpa [aS] using hx)) (by simp only [hlen];omega) (by simp only [hlen];omega) ?_
  intro s' F3 hle3 ho3 hlen3 hs3 hk3 hfr3
  have neB:∀a,s.base=some a->a.block≠b:=fun a ha e=>by
   obtain ⟨cur,hcur⟩:=ho.elem ha
   rw [e,hb] at hcur
   cases hcur
  have neM:∀a,s.base=some a->a.block≠m:=fun a ha e=>by
   obtain ⟨cur,hcur⟩:=ho.elem ha
   obtain ⟨es,c,L,rfl,_⟩:=hmp
   rw [e,hm] at hcur
   cases hcur
  replace hb:=hk3 _ _ hb (fun ⟨a,ha,e⟩=>neB a ha e)
  replace hm:=hk3 _ _ hm (fun ⟨a,ha,e⟩=>neM a ha e)
  replace h9:=hk3 _ _ h9 (fun ⟨a,ha,e⟩=>ne9 a ha e)
  refine ⟨s',rfl,?_⟩
  refine st1 hb (by simp) ?_
  have hbm:b≠m:=fun e=>by
   obtain ⟨es,c,L,rfl,_⟩:=hmp
   rw [e,hm] at hb
   cases hb
  have h9b:b9≠b:=fun e=>by rw [e,hb] at h9;cases h9
  have hsb:∀a,s'.base=some a->a.block≠b/\a.block≠m:=fun a ha=>by
   obtain ⟨cur,hcur⟩:=ho3.elem ha
   refine ⟨fun e=> ?_,fun e=> ?_⟩
   ·rw [e,hb] at hcur;cases hcur
   ·obtain ⟨es,c,L,rfl,_⟩:=hmp
    rw [e,hm] at hcur;cases hcur
  have hle4:F0.le (F3.set b (.cells (#[s'.v,Value.map (some m)]:Array Value) 228)):=aw hle3 hb0
  have hb4:=an F3 b (.cells (#[s'.v,Value.map (some m)]:Array Value) 228)
  have hm4:(F3.set b (.cells (#[s'.v,Value.map (some m)]:Array Value) 228)) m=some ob:=by rw [az _ _ hbm.symm];exact hm
  have h94:(F3.set b (.cells (#[s'.v,Value.map (some m)]:Array Value) 228)) b9=some (.cells (aQ (br S (node v l h))) 103):=by rw [az _ _ h9b];exact h9
  have ho4:bA (F3.set b (.cells (#[s'.v,Value.map (some m)]:Array Value) 228)) 103 3 s' (aS (brs S)++dc (br S (node v l h))):=ho3.keep fun a ha=>az _ _ (hsb a ha).1
  rw [show (#[s.v,Value.map (some m)].setIfInBounds 0 s'.v:Array Value)= #[s'.v,Value.map (some m)] from rfl]
  generalize F3.set b (.cells (#[s'.v,Value.map (some m)]:Array Value) 228)=F4 at*
  have hlen4:s'.len=S.length+1:=by rw [hlen3,hlen]
  refine ⟨s',by rw [am hb4];rfl,some m,by simp only [aK];rw [am hb4];rfl,aQ (br S (node v l h)),rfl,aj h94,?_⟩
  refine bI mtB hm4 hmp (br S (node v l h)) _ fun o' ho'=> ?_
  have hw:IntKind.i64.wrap ((s'.len:Int)+1)=((S.length+2:Nat):Int):=by rw [hlen4,aN (by omega) (by omega)];omega
  rw [hw] at ho' ⊢
  refine ⟨?_,aw hle4 hm0,hS',hb0,hm0,⟨s',by rw [az _ _ hbm];exact hb4,?_,hs3⟩,o',an _ _ _,by rw [FP hS hl hh hmem];exact ho'⟩
  ·have hl2:=dK hS' (k:=S.length) (t:=node v l h) (by simp)
   rw [hl2]
  ·have e3:aS (brs (S++[node v l h]))=aS (brs S)++dc (br S (node v l h)):=by
    rw [d9 hS hl hh,<- hbr,ed]
    simp [aS]
   rw [e3]
   exact ho4.keep fun a ha=>az _ _ (hsb a ha).2
end
theorem dv {α:Type} [DecidableEq α]:∀(l m:List α),l.Nodup->(∀x∈l,x∈m)->l.length<=m.length
 |[],_,_,_=>Nat.zero_le _
 |a::l,m,hn,hs=>by
  rw [List.nodup_cons] at hn
  have ha:=hs a (by simp)
  have h:=dv l (m.erase a) hn.2 (fun x hx=>(List.mem_erase_of_ne (by rintro rfl;exact hn.1 hx)).2 (hs x (by simp [hx])))
  rw [List.length_erase_of_mem ha] at h
  have:=List.length_pos_of_mem ha
  simp only [List.length_cons]
  omega
theorem FQ:aC prog 215=true:=by kernel_rfl
def nmS (S0 S:List Tr) (n:Int):Option Value:=
 if 0<=n/\n<=(S0.length:Int)+1/\inn S (tr S0 n.toNat) then some (vi (num S (tr S0 n.toNat):Int)) else none
theorem nP {S0 S:List Tr} (h0:Cl S0) {t:Tr} (ht:inn S0 t) (hi:inn S t):nmS S0 S (num S0 t)=some (vi (num S t)):=by
 have h1:=cY ht
 unfold nmS
 rw [Int.toNat_natCast,f7 h0 ht,if_pos ⟨by omega,by omega,hi⟩]
theorem FR {S0 S:List Tr} (h0:Cl S0) {t:Tr} (ht:inn S0 t) (hi:¬inn S t):nmS S0 S (num S0 t)=none:=by
 unfold nmS
 rw [Int.toNat_natCast,f7 h0 ht,if_neg (fun h=>hi h.2.2)]
theorem FS {S0 S:List Tr} (h0:Cl S0) (hS:Cl S) {t:Tr} (ht:inn S0 t) (hS':Cl (S++[t])):
  nmS S0 (S++[t])=fun n=>if n=(num S0 t:Int) then some (vi (((S.length+2:Nat)):Int)) else nmS S0 S n:=by
 funext n
 by_cases hn:n=(num S0 t:Int)
 ·subst hn
  rw [if_pos rfl,nP h0 ht (.inr (by simp)),dK hS' (k:=S.length) (by simp)]
 ·rw [if_neg hn]
  unfold nmS
  by_cases hr:0<=n/\n<=(S0.length:Int)+1
  ·have hne:tr S0 n.toNat≠t:=fun e=>by
    have:=fI h0 (n:=n.toNat) (by omega)
    rw [e] at this
    omega
   by_cases hi:inn S (tr S0 n.toNat)
   ·rw [if_pos ⟨hr.1,hr.2,bC hi⟩,if_pos ⟨hr.1,hr.2,hi⟩,bM hi]
   ·rw [if_neg,if_neg (fun h=>hi h.2.2)]
    rintro ⟨_,_,h|h⟩
    ·exact hi (.inl h)
    ·rcases List.mem_append.1 h with h|h
     ·exact hi (.inr h)
     ·exact hne (List.mem_singleton.1 h)
  ·rw [if_neg (fun h=>hr ⟨h.1,h.2.1⟩),if_neg (fun h=>hr ⟨h.1,h.2.1⟩)]
theorem IS {S0:List Tr} (h0:Cl S0):nmS S0 []=fun n=>if n=1 then some (vi 1) else if n=0 then some (vi 0) else none:=by
 funext n
 unfold nmS
 by_cases h1:n=1
 ·subst h1
  have e:tr S0 (Int.toNat 1)=leaf true:=rfl
  rw [if_pos rfl,e,if_pos ⟨by omega,by omega,d3 _ _⟩]
  rfl
 ·rw [if_neg h1]
  by_cases h2:n=0
  ·subst h2
   have e:tr S0 (Int.toNat 0)=leaf false:=rfl
   rw [if_pos rfl,e,if_pos ⟨by omega,by omega,d3 _ _⟩]
   rfl
  ·rw [if_neg h2,if_neg]
   rintro ⟨a,b,c|c⟩
   ·have h3:inn S0 (tr S0 n.toNat):=fZ (by omega)
    have h4:=fI h0 (n:=n.toNat) (by omega)
    generalize tr S0 n.toNat=t at*
    cases t with
    |leaf x=>have:=cd S0 x;omega
    |node _ _ _=>cases c
   ·cases c
structure VE (F0:PH) (b6 b2 b7 b5 M b:Nat) (ns:Sl) (S0:List Tr):Prop where
 c6:F0.cell ⟨b6,0,none⟩=some (.map (some M))
 c2:F0.cell ⟨b2,0,none⟩=some (.pointer (some ⟨b,0,none⟩))
 c7:F0.cell ⟨b7,0,none⟩=some (.func (.func 215) #[] #[.pointer (some ⟨b6,0,none⟩),.pointer (some ⟨b2,0,none⟩),.pointer (some ⟨b7,0,none⟩),.pointer (some ⟨b5,0,none⟩)])
 cb:F0.cell ⟨b,0,none⟩=some ns.v
 rd:RdS F0 ns 3 (aS (brs S0))
theorem VE.le {F0 G:PH} {b6 b2 b7 b5 M b:Nat} {ns:Sl} {S0:List Tr} (h:VE F0 b6 b2 b7 b5 M b ns S0) (hl:F0.le G):VE G b6 b2 b7 b5 M b ns S0:=
 ⟨aq hl h.c6,aq hl h.c2,aq hl h.c7,aq hl h.cb,h.rd.le hl⟩
structure VS (F0 F:PH) (b5 M:Nat) (S0 S:List Tr):Prop where
 le:F0.le F
 cl:Cl S
 sub:∀x∈S,x∈S0
 n5:F0 b5=none
 nM:F0 M=none
 ex:∃(s:Sl),F b5=some (.cells #[s.v,vi 0] 33)/\bA F 103 3 s (aS (brs S))/\∀a,s.base=some a->F0 a.block=none
 map:∃o,F M=some o/\gm xh (nmS S0 S) o
theorem bA.upto {F G:PH} {e size:Nat} {s:Sl} {vs:List Value} (h:bA F e size s vs) (hl:F.le G):bA G e size s vs:=by
 rcases h with h|⟨b,cur,h1,h2,h3⟩
 ·exact .inl h
 ·exact .inr ⟨b,cur,h1,hl _ _ h2,h3⟩
theorem yK {b6 b2 b7 b5 M b:Nat} {ns:Sl} {S0:List Tr} (h0:Cl S0) (hf:Fit (S0.length+4)):∀(t:Tr),inn S0 t->∀(F0 F:PH) (S:List Tr),VE F0 b6 b2 b7 b5 M b ns S0->VS F0 F b5 M S0 S->
  ae prog 215 #[vi (num S0 t),.pointer (some ⟨b6,0,none⟩),.pointer (some ⟨b2,0,none⟩),.pointer (some ⟨b7,0,none⟩),.pointer (some ⟨b5,0,none⟩)] F
   fun r F'=>r=vi (num (vis t S) t)/\VS F0 F' b5 M S0 (vis t S):=by
 intro t
 induction t with
 |leaf x=>
  intro ht F0 F S he hs
  have hs':=hs
  obtain ⟨hle,hS,hsub,hn5,hnM,⟨s,h5,ho,hsb⟩,o,hM,hmo⟩:=hs
  refine JQ ?_
  unfold Ei
  have hlk:=dL (F:=F) mtN hM hmo (num S0 (leaf x)) true
  rw [nP h0 ht (d3 _ _)] at hlk
  exact ⟨_,rfl,_,aq hle he.c6,_,_,hlk,fun _=>⟨rfl,hs'⟩,fun hc=>by cases hc⟩
 |node v l h ihl ihh=>
  intro ht F0 F S he hs
  have hs':=hs
  obtain ⟨hle,hS,hsub,hn5,hnM,⟨s,h5,ho,hsb⟩,o,hM,hmo⟩:=hs
  have htm:=ca ht rfl
  obtain ⟨hil,hih⟩:=h0.inn_kids ht
  have hok:=h0.inn_ok ht
  refine JQ ?_
  unfold Ei
  have hlk:=dL (F:=F) mtN hM hmo (num S0 (node v l h)) true
  by_cases hin:node v l h∈S
  ·rw [nP h0 ht (.inr hin)] at hlk
   have e:vis (node v l h) S=S:=jh (.inr hin)
   rw [e]
   exact ⟨_,rfl,_,aq hle he.c6,_,_,hlk,fun _=>⟨rfl,hs'⟩,fun hc=>by cases hc⟩
  ·have hnin:¬inn S (node v l h):=by
    rintro (hc|hc)
    ·cases hc
    ·exact hin hc
   rw [FR h0 ht hnin] at hlk
   have hw:=pz (n:=num S0 (node v l h)) (by have:=cY ht;omega) (cZ rfl)
   have hnl:=cY ht
   have hng:=cZ (S:=S0) (t:=node v l h) rfl
   obtain ⟨a,ha,hrow,_⟩:=rdb (he.rd.le hle) (gL (eQ htm rfl))
   have hns:=he.rd.blen
   rw [aO] at hns
   refine ⟨_,rfl,_,aq hle he.c6,_,_,hlk,fun hc=>(by cases hc),fun _=> ?_⟩
   refine ⟨_,rfl,_,aq hle he.c2,_,rfl,ns,aq hle he.cb,a,ha,by rw [hw];omega,by rw [hw];omega,aQ (br S0 (node v l h)),rfl,by rw [hw];exact hrow,?_⟩
   intro b9 hb9
   refine atI ?_
   refine stW (an _ _ _) rfl rfl (fR _) ?_
   rw [aR]
   have h90:F0 b9=none:=aV hle hb9
   have he9:VE (F0.set b9 (.cells (aQ (br S0 (node v l h))) 103)) b6 b2 b7 b5 M b ns S0:=he.le (ac _ h90)
   have ne95:b5≠b9:=aG hb9 h5
   have ne9M:M≠b9:=aG hb9 hM
   have hle9:(F0.set b9 (.cells (aQ (br S0 (node v l h))) 103)).le (F.set b9 (.cells (aQ (br S0 (node v l h))) 103)):=fun x ob hx=>by
    by_cases hxb:x=b9
    ·subst hxb;rw [an] at hx ⊢;exact hx
    ·rw [az _ _ hxb] at hx ⊢;exact hle _ _ hx
   have hs9:VS (F0.set b9 (.cells (aQ (br S0 (node v l h))) 103)) (F.set b9 (.cells (aQ (br S0 (node v l h))) 103)) b5 M S0 S:=by
    refine ⟨hle9,hS,hsub,by rw [az _ _ ne95];exact hn5,by rw [az _ _ ne9M];exact hnM,⟨s,by rw [az _ _ ne95];exact h5,ho.upto (ac _ hb9),fun a ha=> ?_⟩,o,by rw [az _ _ ne9M];exact hM,hmo⟩
    obtain ⟨cur,hcur⟩:=ho.elem ha
    rw [az _ _ (aG hb9 hcur)]
    exact hsb a ha
   have hle0:F0.le (F0.set b9 (.cells (aQ (br S0 (node v l h))) 103)):=ac _ h90
   have hc9:(F0.set b9 (.cells (aQ (br S0 (node v l h))) 103)) b9=some (.cells (aQ (br S0 (node v l h))) 103):=an _ _ _
   generalize F0.set b9 (.cells (aQ (br S0 (node v l h))) 103)=G0 at*
   generalize F.set b9 (.cells (aQ (br S0 (node v l h))) 103)=F1 at*
   refine ⟨_,rfl,_,aq hs9.le he9.c7,_,by rw [am (hs9.le _ _ hc9)];rfl,_,_,_,rfl,FQ,?_⟩
   refine (ihl hil G0 F1 S he9 hs9).mono ?_
   rintro _ F2 ⟨rfl,hs2⟩
   refine ⟨_,rfl,_,aq hs2.le he9.c7,_,by rw [am (hs2.le _ _ hc9)];rfl,_,_,_,rfl,FQ,?_⟩
   refine (ihh hih G0 F2 _ he9 hs2).mono ?_
   rintro _ F3 ⟨rfl,hs3⟩
   have hs3':=hs3
   obtain ⟨hle3,hS3,hsub3,hn53,hnM3,⟨s3,h53,ho3,hsb3⟩,o3,hM3,hmo3⟩:=hs3
   obtain ⟨fl1,fl2,X,fl3,fl4⟩:=bv l S hok.2.2.2.2.1 hS
   obtain ⟨fh1,fh2,Y,fh3,fh4⟩:=bv h (vis l S) hok.2.2.2.2.2 fl1
   have hnl':num (vis l S) l=num (vis h (vis l S)) l:=by rw [fh3,bM fl2]
   have evis:vis (node v l h) S=vis h (vis l S)++[node v l h]:=by
    conv=>lhs;unfold vis
    rw [if_neg hin]
   obtain ⟨hSv,_,_⟩:=bv (node v l h) S hok hS
   rw [evis] at hSv ⊢
   rw [hnl']
   have hil3:inn (vis h (vis l S)) l:=by rw [fh3];exact bC fl2
   generalize vis h (vis l S)=T at*
   refine ⟨_,rfl,_,rfl,s3,by rw [am h53];rfl,_,by rw [am (hle3 _ _ hc9)];rfl,rfl,fun b43 hb43=> ?_⟩
   refine atI ?_
   have hb430:G0 b43=none:=aV hle3 hb43
   have hTl:T.length<=S0.length:=dv T S0 hS3.nodup hsub3
   have hlen:=ho3.rd.blen
   rw [aO] at hlen
   have ex:(#[vi (v:Int),vi (num T l:Int),vi (num T h:Int)]:Array Value)=aQ ⟨(v:Int),(num T l:Int),(num T h:Int)⟩:=rfl
   have hle43:=ac (.cells (aQ ⟨(v:Int),(num T l:Int),(num T h:Int)⟩) 103) hb43
   have h43:=an F3 b43 (.cells (aQ ⟨(v:Int),(num T l:Int),(num T h:Int)⟩) 103)
   show aE prog _ (F3.set b43 (.cells (aQ ⟨(v:Int),(num T l:Int),(num T h:Int)⟩) 103)) _
   replace hle3:G0.le (F3.set b43 (.cells (aQ ⟨(v:Int),(num T l:Int),(num T h:Int)⟩) 103)):=fun x ob hx=>hle43 _ _ (hle3 _ _ hx)
   replace ho3:=ho3.upto hle43
   replace h53:=hle43 _ _ h53
   replace hM3:=hle43 _ _ hM3
   generalize F3.set b43 (.cells (aQ ⟨(v:Int),(num T l:Int),(num T h:Int)⟩) 103)=F4 at*
   refine gK underlying31 zI zJ rfl (by decide) hle3 ho3 hsb3 (x:=⟨some ⟨b43,0,none⟩,1,1⟩) (news:=dc ⟨(v:Int),(num T l:Int),(num T h:Int)⟩) (RdS.new h43 rfl rfl (Nat.le_refl _))
    (fun x hx=>iL [⟨(v:Int),(num T l:Int),(num T h:Int)⟩] x (by simpa [aS] using hx)) (by simp only [hlen];omega) (by simp only [hlen];omega) ?_
   intro s5 F5 hle5 ho5 hlen5 hsb5 hk5 _
   have ne5:∀a,s3.base=some a->a.block≠b5:=fun a ha e=>by
    obtain ⟨cur,hcur⟩:=ho3.elem ha
    rw [e,h53] at hcur
    cases hcur
   have neM:∀a,s3.base=some a->a.block≠M:=fun a ha e=>by
    obtain ⟨cur,hcur⟩:=ho3.elem ha
    obtain ⟨es,c,L,rfl,_⟩:=hmo3
    rw [e,hM3] at hcur
    cases hcur
   replace h53:=hk5 _ _ h53 (fun ⟨a,ha,e⟩=>ne5 a ha e)
   replace hM3:=hk5 _ _ hM3 (fun ⟨a,ha,e⟩=>neM a ha e)
   have n5M:b5≠M:=fun e=>by
    obtain ⟨es,c,L,rfl,_⟩:=hmo3
    rw [e,hM3] at h53
    cases h53
   have hsb6:∀a,s5.base=some a->a.block≠b5/\a.block≠M:=fun a ha=>by
    obtain ⟨cur,hcur⟩:=ho5.elem ha
    refine ⟨fun e=> ?_,fun e=> ?_⟩
    ·rw [e,h53] at hcur;cases hcur
    ·obtain ⟨es,c,L,rfl,_⟩:=hmo3
     rw [e,hM3] at hcur;cases hcur
   refine ⟨s5,rfl,?_⟩
   refine st1 h53 (by simp) ?_
   rw [show (#[s3.v,vi 0].setIfInBounds 0 s5.v:Array Value)= #[s5.v,vi 0] from rfl]
   have hle6:G0.le (F5.set b5 (.cells #[s5.v,vi 0] 33)):=aw hle5 hn53
   have h56:=an F5 b5 (.cells #[s5.v,vi 0] 33)
   have hM6:(F5.set b5 (.cells #[s5.v,vi 0] 33)) M=some o3:=by rw [az _ _ n5M.symm];exact hM3
   have ho6:bA (F5.set b5 (.cells #[s5.v,vi 0] 33)) 103 3 s5 _:=ho5.keep fun a ha=>az _ _ (hsb6 a ha).1
   generalize F5.set b5 (.cells #[s5.v,vi 0] 33)=F6 at*
   have hlen6:s5.len=T.length+1:=by rw [hlen5,hlen]
   have hw6:IntKind.i64.wrap ((s5.len:Int)+1)=((T.length+2:Nat):Int):=by rw [hlen6,aN (by omega) (by omega)];omega
   refine ⟨_,aq hle6 he9.c6,s5,by rw [am h56];rfl,?_⟩
   dsimp only
   rw [hw6]
   refine bI mtN hM6 hmo3 (num S0 (node v l h):Int) _ fun o' ho'=> ?_
   rw [<- FS h0 hS3 ht hSv] at ho'
   have hle7:G0.le (F6.set M o'):=aw hle6 hnM3
   have hlk7:=dL (F:=F6.set M o') mtN (an F6 M o') ho' (num S0 (node v l h)) false
   rw [nP h0 ht (.inr (by simp))] at hlk7
   refine ⟨_,aq hle7 he9.c6,_,hlk7,rfl,fun x ob hx=>hle7 _ _ (hle0 _ _ hx),hSv,fun x hx=> ?_,hn5,hnM,⟨s5,by rw [az _ _ n5M];exact h56,?_,fun a ha=>aV hle0 (hsb5 a ha)⟩,o',an _ _ _,ho'⟩
   ·rcases List.mem_append.1 hx with hx|hx
    ·exact hsub3 x hx
    ·rw [List.mem_singleton.1 hx];exact htm
   ·have e3:aS (brs (T++[node v l h]))=aS (brs T)++dc ⟨(v:Int),(num T l:Int),(num T h:Int)⟩:=by
     rw [d9 hS3 hil3 fh2,ed]
     simp [aS]
    rw [e3]
    exact ho6.keep fun a ha=>az _ _ (hsb6 a ha).2
end Go.Proofs.YtenpmjhnhepfdaaGreatDoor
