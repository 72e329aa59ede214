/-
  The diagrams: the canonical diagram of a number of a builder.
-/
import Derived.Test.YtenpmjhnhepfdaaGreatDoorQw
import Derived.Test.YtenpmjhnhepfdaaGreatDoorEa
namespace Go.Proofs.YtenpmjhnhepfdaaGreatDoor
open Go Go.Proofs.Tryz
set_option maxRecDepth 10000
section
variable {F:PH} {l:List Nd} {s:Sl}
theorem OM:aB prog 205=true:=by kernel_rfl
def LgL (l:List Nd) (w:Δ):Prop:=Lg (bG l).pat w
theorem sY (hT:Tab F) (hs:RdS F s 5 (cX l)) (st:ByteArray) (hst:st.size<=1000000000):ae prog 151 #[s.v,.string st] F λr F'=>(∃q:Bool,r=.bool q/\(q=true↔fw l=0/\LgL l (bs st)))/\F.le F':=by
 refine RR ?_;unfold L9;have h:=Lo.start F;refine h.new _ _ λb3 F1 h=> ?_;refine (h.call (nW hs)).mono ?_;rintro _ F2 ⟨G1,⟨rfl,l1⟩,h⟩;refine ⟨_,rfl,λhc=>⟨⟨false,rfl,λh=>(by cases h),λh=>absurd h.1 hc⟩,aa l1 h.le⟩,λhc=> ?_⟩;have h0:fw l=0:=by omega
 obtain ⟨hG,hl⟩:=tT h0;obtain ⟨ns,ht⟩:=ij hG;refine (h.call (va (hT.le l1) hG hl (hs.le l1))).mono ?_;rintro _ F3 ⟨G,⟨⟨bm,rfl,hM⟩,l2⟩,h⟩;have c3:F3.cell (Addr.mk b3 0 none)=some (.string st):=by rw [h.cell (b:=b3) (w:= #[.string st]) (e:=9) (by simp)];rfl
 refine ⟨_,rfl,_,c3,?_⟩;have j1:∀(b6:Nat) (mt:Bool) (F4:PH),Lo G F4 [(b6,#[.bool mt],4),(b3,#[.string st],9)]->(mt=true↔st.size=0/\(bG l).nul=true)->
   oP b3 (some ⟨bm,0,none⟩) (some ⟨b6,0,none⟩) (λr F'=>(∃q:Bool,r=.bool q/\(q=true↔fw l=0/\LgL l (bs st)))/\F.le F') F4:=λb6 mt F4 h hmt=>by
  unfold oP;refine ⟨_,by rw [h.cell (b:=b3) (w:= #[.string st]) (e:=9) (by simp)];rfl,?_⟩
  refine (Gx (bm:=bm) (k:=205) (cap:= #[pa b3,pa b6]) (Inv:=λn F'=>∃mt:Bool,Lo G F' [(b6,#[.bool mt],4),(b3,#[.string st],9)]/\(n=0->(mt=true↔st.size=0/\(bG l).nul=true))/\(0<n->(mt=true↔n=st.size/\LgL l ((bs st).take n)))) OM hl hG ht (by omega)
   (λn F' ⟨b,hL,_⟩=>⟨(hT.le (aa l1 l2)).le hL.le,hM.le hL.le⟩) ?_ ⟨mt,h,λ_=>hmt,λh=>absurd h (by omega)⟩).mono ?_
  ·rintro n F' q hn hq ⟨mt,hL,_,_⟩;show ae prog 205 #[vi ((n+1:Nat):Int),.bool q,pa b3,pa b6] F' _;refine RY ?_;unfold Me;refine ⟨_,rfl,_,by rw [hL.cell (b:=b3) (w:= #[.string st]) (e:=9) (by simp)];rfl,λhe=>⟨_,rfl,?_⟩,λhe=>⟨_,rfl,?_⟩⟩
   ·refine Lo.put1 [] [(b3,#[.string st],9)] (b:=b6) (i:=0) (w0:= #[.bool mt]) (w:= #[.bool q]) (e:=4) hL (by simp) rfl λF'' h'=> ?_;exact ⟨rfl,q,h',λh=>by omega,λ_=>⟨λh=>⟨by omega,hq.1 h⟩,λh=>hq.2 h.2⟩⟩
   ·refine Lo.put1 [] [(b3,#[.string st],9)] (b:=b6) (i:=0) (w0:= #[.bool mt]) (w:= #[.bool false]) (e:=4) hL (by simp) rfl λF'' h'=> ?_;exact ⟨rfl,false,h',λh=>by omega,λ_=>⟨λh=>(by cases h),λh=>by omega⟩⟩
  ·rintro _ F5 ⟨rfl,n,G',hn,⟨mt,hL,hz,hp⟩,l5,hend⟩;refine ⟨rfl,_,rfl,mt,au l5 (by rw [hL.cell (b:=b6) (w:= #[.bool mt]) (e:=4) (by simp)];rfl),⟨mt,rfl,?_⟩,aa l1 (aa l2 (aa hL.le l5))⟩;have hall:(bs st).take st.size=bs st:=XK (by rw [aX];exact XA _);have hnil:st.size=0->bs st=[]:=λh=>Yg.1 (by rw [aX];exact h);have hnul:(bG l).nul=true↔LgL l []:=(bG l).nul_iff;rcases YQ n with e|e
   ·subst e;rw [hz rfl];constructor
    ·rintro ⟨h1,h2⟩;exact ⟨h0,by rw [hnil h1];exact hnul.1 h2⟩
    ·rintro ⟨_,h2⟩;rcases hend with he|he
     ·exact ⟨he.symm,hnul.2 (by rw [<- hnil he.symm];exact h2)⟩
     ·rcases YQ st.size with h1|h1
      ·exact ⟨h1,hnul.2 (by rw [<- hnil h1];exact h2)⟩
      ·exact absurd (by rw [hall];exact h2) (he st.size h1 (XA _))
   ·rw [hp e];constructor
    ·rintro ⟨h1,h2⟩;exact ⟨h0,by rw [h1,hall] at h2;exact h2⟩
    ·rintro ⟨_,h2⟩;rcases hend with he|he
     ·exact ⟨he,by rw [he,hall];exact h2⟩
     ·by_cases h1:n=st.size
      ·exact ⟨h1,by rw [h1,hall];exact h2⟩
      ·exact absurd (by rw [hall];exact h2) (he st.size (by omega) (XA _))
 have hemp:(st.toList==(ByteArray.mk #[]).toList)=decide (st.size=0):=by
  rw [GF];rw [XE,decide_eq_true_eq,decide_eq_true_eq,<- aX st];constructor
  ·intro h;rw [h];rfl
  ·intro h;exact Yg.1 h
 dsimp only;rw [hemp];refine ⟨λhe=> ?_,λhe=> ?_⟩
 ·have he:=of_decide_eq_true he;obtain ⟨s',bf,qm,_,_⟩:=(hM.le h.le).ex;refine ⟨_,rfl,(bG l).nul,by rw [cg,an qm];rfl,?_⟩;refine h.new _ _ λb6 F4 h=> ?_;refine Lo.put1 [] [(b3,#[.string st],9)] (b:=b6) (i:=0) (w0:= #[.bool false]) (w:= #[.bool (bG l).nul]) (e:=4) h (by simp) rfl λF5 h=> ?_;exact j1 b6 _ F5 h ⟨λh=>⟨he,h⟩,λh=>h.2⟩
 ·have he:=of_decide_eq_false he;refine h.new _ _ λb6 F4 h=> ?_;refine Lo.put1 [] [(b3,#[.string st],9)] (b:=b6) (i:=0) (w0:= #[.bool false]) (w:= #[.bool false]) (e:=4) h (by simp) rfl λF5 h=> ?_;exact j1 b6 _ F5 h ⟨λh=>(by cases h),λh=>absurd h.1 he⟩
end
end Go.Proofs.YtenpmjhnhepfdaaGreatDoor
namespace Go.Proofs.YtenpmjhnhepfdaaGreatDoor
open Go Go.Proofs.Tryz Tr
set_option maxRecDepth 10000
theorem FX (d:Nat) (a b:Int) (F:PH):rdo prog (Op.equalIn (d+1) 3 (vi a) (vi b)) F (decide (a=b)):=by simp only [Op.equalIn,ak];refine ⟨_,(az underlying3 _).2 rfl,?_⟩;simp only [if_true,cu];by_cases h:a=b<;>simp [h]
theorem qH (cs:Γ) (off:Nat) (v:Value) (h:cs[off]? =some v) (F:PH):rdo prog (part 3 cs off) F v:=by unfold part;simp only [ak];refine ⟨false,(dH underlying3 _).2 rfl,?_⟩;simp only [X7,if_false,h];rfl
theorem Bq (e:Bool) (n:Nat) (a:Int) (F:PH):rdo prog (Instr.checkKey e (n+1) 3 (vi a)) F ():=by simp only [Instr.checkKey,ak];refine ⟨_,(az underlying3 _).2 rfl,?_⟩;rfl
theorem Wk:prog.stoodInHeld 103=false:=by kernel_rfl
abbrev LS:=ForInStep (Option Bool×Unit)
theorem eQ (n:Nat) (off:Nat) (cs ds:Γ) (x y:Int) (h1:cs[off]? =some (vi x)) (h2:ds[off]? =some (vi y)) (F:PH):
  rdo prog (do
   let a <- part 3 cs off
   let b <- part 3 ds off
   let r <- Op.equalIn (n+1) 3 a b
   if (!r)=true then pure (ForInStep.done (some false,())) else pure (ForInStep.yield (none,())):Sem LS) F (if x=y then .yield (none,()) else .done (some false,())):=by
 simp only [ak];refine ⟨_,qH _ _ _ h1 F,_,qH _ _ _ h2 F,_,FX n x y F,?_⟩;by_cases h:x=y
 ·simp [h]
 ·simp [h]
theorem FY (x y:Br) (F:PH):rdo prog (Op.equal 103 (.agg (aR x)) (.agg (aR y))) F (decide (x=y)):=by
 unfold Op.equal Op.maxDepth;show rdo prog (Op.equalIn (9998+1+1) 103 _ _) _ _;unfold Op.equalIn;simp only [ak];refine ⟨_,(az underlying103 _).2 rfl,?_⟩;dsimp only;rw [ak];refine ⟨prog,rfl,?_⟩;rw [Wk];simp only [X7,if_false];simp only [List.forIn_toArray,List.forIn_cons,List.forIn_nil,ak];obtain ⟨a,b,c⟩:=x;obtain ⟨d,e,f⟩:=y;rw [if_pos (by decide),if_pos (by decide),if_pos (by decide)];by_cases h1:a=d
 ·by_cases h2:b=e
  ·by_cases h3:c=f
   ·refine ⟨(none,()),⟨_,eQ 9998 0 _ _ a d rfl rfl F,?_⟩,?_⟩
    ·rw [if_pos h1];refine (ak _ _ _ _).2 ⟨_,eQ 9998 1 _ _ b e rfl rfl F,?_⟩;rw [if_pos h2];refine (ak _ _ _ _).2 ⟨_,eQ 9998 2 _ _ c f rfl rfl F,?_⟩;rw [if_pos h3];rfl
    ·simp [h1,h2,h3]
   ·refine ⟨(some false,()),⟨_,eQ 9998 0 _ _ a d rfl rfl F,?_⟩,?_⟩
    ·rw [if_pos h1];refine (ak _ _ _ _).2 ⟨_,eQ 9998 1 _ _ b e rfl rfl F,?_⟩;rw [if_pos h2];refine (ak _ _ _ _).2 ⟨_,eQ 9998 2 _ _ c f rfl rfl F,?_⟩;rw [if_neg h3];rfl
    ·simp [h3]
  ·refine ⟨(some false,()),⟨_,eQ 9998 0 _ _ a d rfl rfl F,?_⟩,?_⟩
   ·rw [if_pos h1];refine (ak _ _ _ _).2 ⟨_,eQ 9998 1 _ _ b e rfl rfl F,?_⟩;rw [if_neg h2];rfl
   ·simp [h2]
 ·refine ⟨(some false,()),⟨_,eQ 9998 0 _ _ a d rfl rfl F,?_⟩,?_⟩
  ·rw [if_neg h1];rfl
  ·simp [h1]
theorem qI (e:Bool) (n:Nat) (off:Nat) (cs:Γ) (x:Int) (h1:cs[off]? =some (vi x)) (F:PH):
  rdo prog (do
   let a <- part 3 cs off
   Instr.checkKey e (n+1) 3 a
   pure (ForInStep.yield PUnit.unit):Sem (ForInStep PUnit)) F (.yield PUnit.unit):=by
 simp only [ak];exact ⟨_,qH _ _ _ h1 F,_,Bq e n x F,rfl⟩
theorem Re (e:Bool) (x:Br) (F:PH):rdo prog (Instr.checkKey e 10000 103 (.agg (aR x))) F ():=by show rdo prog (Instr.checkKey e (9998+1+1) 103 _) _ _;unfold Instr.checkKey;simp only [ak];refine ⟨_,(az underlying103 _).2 rfl,?_⟩;dsimp only;simp only [List.forIn_toArray,List.forIn_cons,List.forIn_nil];rw [if_pos (by decide),if_pos (by decide),if_pos (by decide)];refine (ak _ _ _ _).2 ⟨PUnit.unit,(ak _ _ _ _).2 ⟨_,qI e 9998 0 _ _ rfl F,(ak _ _ _ _).2 ⟨_,qI e 9998 1 _ _ rfl F,(ak _ _ _ _).2 ⟨_,qI e 9998 2 _ _ rfl F,rfl⟩⟩⟩,rfl⟩
abbrev zg (x:Br):Value:=.agg (aR x)
abbrev xz (x:Int):Value:=vi x
theorem Rf:t8 prog 3 xz:=by
 refine ⟨λF a b=> ?_,λF e a=> ?_,λa=> ?_,_,underlying3,.inl λa b=> ?_⟩
 ·unfold Op.equal Op.maxDepth;exact FX 9999 a b F
 ·exact Bq e 9999 a F
 ·unfold Instr.sameBits;simp
 ·unfold Instr.sameNow;simp only [if_true];by_cases h:a=b<;>simp [h]
theorem Rg:t8 prog 103 zg:=by
 refine ⟨λF a b=>FY a b F,λF e a=>Re e a F,λa=> ?_,_,underlying103,.inr λa b=> ?_⟩
 ·show Instr.sameBits (9998+1+1) _ _=true;simp [Instr.sameBits]
 ·rfl
theorem Wm:bC prog 4=some (.bool false):=by kernel_rfl
theorem mtN:lR prog 299 xz (vi 0):=⟨_,_,underlying299,zr3,Rf⟩
theorem mtB:lR prog 226 zg (vi 0):=⟨_,_,underlying226,zr3,Rg⟩
theorem mtK:lR prog 224 zg (.bool false):=⟨_,_,underlying224,Wm,Rg⟩
theorem zh {F:PH} {a b:Sl} {x y:List Br} (ha:RdS F a 3 (aS x)) (hb:RdS F b 3 (aS y)) (hl:Fit x.length):
  ae prog 98 #[a.v,b.v] F λv F'=>v=.bool (decide (x=y))/\F'=F:=by
 have hal:=ha.blen;have hbl:=hb.blen;refine Wv ?_;unfold Sh;refine ⟨λh=> ?_,λh=> ?_⟩
 ·refine ⟨?_,rfl⟩;have:¬x=y:=by intro e;subst e;omega
  simp [this]
 ·have hlen:x.length=y.length:=by omega
  refine ⟨λm i F'=>∃k:Nat,i=k/\k<=x.length/\m=x.length - k/\F'=F/\x.take k=y.take k,x.length,⟨0,rfl,by omega,rfl,rfl,rfl⟩,?_⟩;rintro m i F' ⟨k,rfl,hk,rfl,rfl,htake⟩;unfold GM;refine ⟨λhlt=> ?_,λhge=> ?_⟩
  ·have hkx:k<x.length:=by omega
   have hky:k<y.length:=by omega
   obtain ⟨p,hp,hpr,_⟩:=rdb ha (N4 hkx);obtain ⟨q,hq,hqr,_⟩:=rdb hb (N4 hky);refine ⟨p,hp,by omega,hlt,aR x[k],rfl,by simpa using hpr,q,hq,by omega,by omega,aR y[k],rfl,by simpa using hqr,decide (x[k]=y[k]),λF=>FY x[k] y[k] F,λhne=> ?_,λheq=> ?_⟩
   ·refine ⟨?_,rfl⟩;have:¬x=y:=by rintro rfl;simp at hne
    simp [this]
   ·refine ⟨x.length - (k+1),by omega,k+1,fC (by omega),by omega,rfl,rfl,?_⟩;rw [XR hkx,XR hky,htake];simp at heq;rw [heq]
  ·refine ⟨?_,rfl⟩;have hk':k=x.length:=by omega
   rw [hk',XF,hlen,XF] at htake;simp [htake]
theorem D9 {F:PH} {v w:Γ} {d e:Dia} (hd:DV F v d) (he:DV F w e) (hl:Fit d.1.length):
  ae prog 29 #[.agg v,.agg w] F λr F'=>r=.bool (decide (d=e))/\F.le F':=by
 obtain ⟨s,rfl,hr⟩:=hd;obtain ⟨t,rfl,ht⟩:=he;refine Wq ?_;unfold R6;intro b2 hb2;refine atI ?_;have hle2:=ac (.cells #[s.v,vi d.2] 33) hb2;intro b3 hb3;refine atI ?_;have hle3:=ac (.cells #[t.v,vi e.2] 33) hb3;have hle:F.le _:=λb o h=>hle3 b o (hle2 b o h);have hc2:=hle3 _ _ (aq F b2 (.cells #[s.v,vi d.2] 33));have hc3:=aq (F.set b2 (.cells #[s.v,vi d.2] 33)) b3 (.cells #[t.v,vi e.2] 33);generalize (F.set b2 (.cells #[s.v,vi d.2] 33)).set b3 (.cells #[t.v,vi e.2] 33)=G at*;refine ⟨_,by rw [an hc2];rfl,_,by rw [an hc3];rfl,λh=> ?_,λh=> ?_⟩
 ·refine ⟨s,by rw [an hc2];rfl,t,by rw [an hc3];rfl,?_⟩;refine (zh (hr.le hle) (ht.le hle) hl).mono ?_;rintro _ F' ⟨rfl,rfl⟩;refine ⟨_,rfl,?_,hle⟩;obtain ⟨d1,d2⟩:=d;obtain ⟨e1,e2⟩:=e;simp only at h;simp [h]
 ·refine ⟨?_,hle⟩;have:¬d=e:=by rintro rfl;exact h rfl
  simp [this]
def mpS (S:List Tr) (x:Br):Option Value:=if x∈brs S then some (vi (((brs S).idxOf x+2:Nat):Int)) else none
structure BD (F0 F:PH) (b m:Nat) (S:List Tr):Prop where
 le:F0.le F
 cl:Cl S
 nb:F0 b=none
 nm:F0 m=none
 ex:∃s:Sl,F b=some (.cells #[s.v,.map (some m)] 228)/\bj F 103 3 s (aS (brs S))/\∀a,s.base=some a->F0 a.block=none
 map:∃o,F m=some o/\gP zg (mpS S) o
theorem bj.elem {F:PH} {e size:Nat} {s:Sl} {vs:Ξ} (h:bj F e size s vs) {a:Addr} (ha:s.base=some a):∃cur,F a.block=some (.cells cur e (0,0)):=by
 rcases h with ⟨rfl,rfl⟩|⟨b,cur,h1,h2,_⟩
 ·cases ha
 ·rw [h1] at ha;cases ha;exact ⟨cur,h2⟩
theorem ox (F:PH):ae prog 209 #[] F λr F'=>∃b m,r=.pointer (some ⟨b,0,none⟩)/\b≠m/\BD F F' b m []:=by
 refine Sf ?_;unfold Mq;intro b1 hb1;refine atI ?_;intro b3 hb3;refine atI ?_;have hle1:=ac (.map #[] 0) hb1;have hle3:=ac (.cells #[Value.slice none 0 0,Value.map (some b1)] 228) hb3;have hne:b3≠b1:=λe=>by rw [e,aq] at hb3;cases hb3
 refine ⟨b3,b1,rfl,hne,λb o h=>hle3 b o (hle1 b o h),.nil,aY hle1 hb3,hb1,⟨Sl.nil,aq _ _ _,.inl ⟨rfl,rfl⟩,λa ha=>by cases ha⟩,_,hle3 _ _ (aq _ _ _),?_⟩;have:mpS []=λ_=>none:=by funext x;simp [mpS,brs]
 rw [this];exact gP.empty zg
instance (S:List Tr) (t:Tr):Decidable (inn S t):=inferInstanceAs (Decidable (t.isL=true\/t∈S))
def dR (S:List Tr) (t:Tr):List Tr:=if inn S t then S else S++[t]
theorem xA {S:List Tr} (hS:Cl S) {v:Nat} {l h:Tr} (hk:v<64/\v<l.top/\v<h.top/\l.ok/\h.ok):dR (vis h (vis l S)) (mk v l h)=vis (mk v l h) S:=by
 obtain ⟨h0,h1,h2,h3,h4⟩:=hk;obtain ⟨a1,a2,X,a3,a4⟩:=bE l S h3 hS;obtain ⟨b1,b2,Y,b3,b4⟩:=bE h (vis l S) h4 a1;unfold mk;split
 ·rename_i e;subst e;rw [jS a2];unfold dR;rw [if_pos a2]
 ·rename_i e
  conv=>rhs;unfold vis
  unfold dR;by_cases hm:node v l h∈S
  ·have hl:=(hS.inn_kids (.inr hm)).1;have hh:=(hS.inn_kids (.inr hm)).2;rw [if_pos hm,jS hl,jS hh,if_pos (.inr hm)]
  ·rw [if_neg hm,if_neg];rintro (hc|hc)
   ·cases hc
   ·rw [b3,a3] at hc;rcases XD.1 hc with hc|hc
    ·rcases XD.1 hc with hc|hc
     ·exact hm hc
     ·have:=a4 _ hc;simp only [sz] at this;omega
    ·have:=b4 _ hc;simp only [sz] at this;omega
theorem tO {α β:Type} [DecidableEq α] [DecidableEq β] (f:α->β) (x:α):∀(l:List α),x∈l->(∀y∈l,f y=f x->y=x)->(l.map f).idxOf (f x)=l.idxOf x
 |[],h,_=>by cases h
 |a::l,h,hi=>by
  simp only [Yh,List.idxOf_cons];by_cases ha:a=x
  ·subst ha;simp
  ·have h1:¬f a=f x:=λe=>ha (hi a (by simp) e);have h2:(a==x)=false:=by simpa using ha
   have h3:(f a==f x)=false:=by simpa using h1
   rw [h2,h3];simp only [cond_false];rw [tO f x l (by simpa [Ne.symm ha] using h) (λy hy=>hi y (by simp [hy]))]
theorem ig {S:List Tr} (hS:Cl S) {v:Nat} {l h:Tr} (hl:inn S l) (hh:inn S h):br S (node v l h)∈brs S↔node v l h∈S:=by
 constructor
 ·intro hm;obtain ⟨u,hu,he⟩:=X3.1 hm;obtain ⟨_,v',l',h',rfl,hl',hh'⟩:=hS.mem u hu;simp only [br,Br.mk.injEq] at he;obtain ⟨e1,e2,e3⟩:=he;rw [<- dK hl' hl (by omega),<- dK hh' hh (by omega),<- show v'=v by omega];exact hu
 ·intro hm;exact List.mem_map_of_mem hm
theorem Ea {S:List Tr} (hS:Cl S) {v:Nat} {l h:Tr} (hm:node v l h∈S):(brs S).idxOf (br S (node v l h))+2=num S (node v l h):=by unfold brs;rw [tO _ _ _ hm (λy hy e=>HF hS hy hm e)];rfl
theorem FZ {S:List Tr} (hS:Cl S) {v:Nat} {l h:Tr} (hl:inn S l) (hh:inn S h) (hn:node v l h ∉ S):
  mpS (S++[node v l h])=λx=>if x=br S (node v l h) then some (vi (((S.length+2:Nat):Int))) else mpS S x:=by
 have hb:br S (node v l h) ∉ brs S:=λhm=>hn ((ig hS hl hh).1 hm);have hbr:br S (node v l h)=⟨(v:Int),(num S l:Int),(num S h:Int)⟩:=rfl;funext x;unfold mpS;rw [eY hS hl hh,<- hbr];by_cases hx:x=br S (node v l h)
 ·subst hx;rw [if_pos rfl,if_pos (by simp),List.idxOf_append,if_neg hb];simp [aQ]
 ·rw [if_neg hx];by_cases hm:x∈brs S
  ·rw [if_pos hm,if_pos (by simp [hm]),List.idxOf_append,if_pos hm]
  ·rw [if_neg hm,if_neg (by simp [hm,hx])]
section
variable {F0 F:PH} {b m:Nat} {S:List Tr}
theorem xB (hd:BD F0 F b m S) {v:Nat} {l h:Tr} (hl:inn S l) (hh:inn S h) (hv:v<64/\v<l.top/\v<h.top) (hf:Fit (S.length+2)):
  ae prog 210 #[.pointer (some ⟨b,0,none⟩),vi v,vi (num S l),vi (num S h)] F λr F'=>r=vi (num (dR S (mk v l h)) (mk v l h))/\BD F0 F' b m (dR S (mk v l h)):=by
 have hd':=hd;obtain ⟨hle,hS,hb0,hm0,⟨s,hb,ho,hs0⟩,ob,hm,hmp⟩:=hd;refine Sg ?_;unfold Mr;refine ⟨λhe=> ?_,λhe=> ?_⟩
 ·obtain rfl:=dK hl hh (by omega);have e:mk v l l=l:=by simp [mk]
  rw [e];have e2:dR S l=S:=by unfold dR;rw [if_pos hl]
  rw [e2];exact ⟨rfl,hd'⟩
 have hlh:l≠h:=λe=>he (by rw [e]);have emk:mk v l h=node v l h:=by simp [mk,hlh]
 have hok:(node v l h).ok:=⟨hv.1,hv.2.1,hv.2.2,hlh,hS.inn_ok hl,hS.inn_ok hh⟩;rw [emk];intro b9 hb9;refine atI ?_;refine stW (aq _ _ _) rfl rfl (jO ⟨v,num S l,num S h⟩) ?_;rw [aU];have hle9:=ac (.cells (aR ⟨v,num S l,num S h⟩) 103) hb9;have h9:=aq F b9 (.cells (aR ⟨v,num S l,num S h⟩) 103);have hbr:br S (node v l h)=⟨(v:Int),(num S l:Int),(num S h:Int)⟩:=rfl;rw [<- hbr] at h9 hle9;show ∃b0a_:Addr,_;rw [show (#[vi v,vi (num S l),vi (num S h)]:Γ)=aR (br S (node v l h)) from rfl];replace hb:=hle9 _ _ hb;replace hm:=hle9 _ _ hm;have hle1:F0.le (F.set b9 (.cells (aR (br S (node v l h))) 103)):=λx o hx=>hle9 x o (hle x o hx);have ne9:∀a,s.base=some a->a.block≠b9:=λa ha e=>by obtain ⟨cur,hcur⟩:=ho.elem ha;rw [e,hb9] at hcur;cases hcur
 have hbase:∀a,s.base=some a->(∃cur,(F.set b9 (.cells (aR (br S (node v l h))) 103)) a.block=some (.cells cur 103 (0,0))):=λa ha=>by obtain ⟨cur,hcur⟩:=ho.elem ha;exact ⟨cur,hle9 _ _ hcur⟩
 replace ho:bj (F.set b9 (.cells (aR (br S (node v l h))) 103)) 103 3 s (aS (brs S)):=ho.keep λa ha=>by obtain ⟨cur,hcur⟩:=ho.elem ha;rw [hcur,hle9 _ _ hcur]
 generalize F.set b9 (.cells (aR (br S (node v l h))) 103)=F1 at*;refine ⟨_,rfl,some m,by simp only [av];rw [an hb];rfl,aR (br S (node v l h)),rfl,aj h9,?_⟩;have hlk:=eu (F:=F1) mtB hm hmp (br S (node v l h)) true;by_cases hmem:node v l h∈S
 ·have hx:=(ig hS hl hh).2 hmem;have e1:mpS S (br S (node v l h))=some (vi (num S (node v l h))):=by unfold mpS;rw [if_pos hx,Ea hS hmem]
  rw [e1] at hlk;refine ⟨_,_,hlk,λhc=>(by cases hc),λ_=> ?_⟩;have e2:dR S (node v l h)=S:=by unfold dR;rw [if_pos (.inr hmem)]
  rw [e2];exact ⟨rfl,hle1,hS,hb0,hm0,⟨s,hb,ho,hs0⟩,ob,hm,hmp⟩
 ·have hx:br S (node v l h) ∉ brs S:=λhx=>hmem ((ig hS hl hh).1 hx);have e1:mpS S (br S (node v l h))=none:=by unfold mpS;rw [if_neg hx]
  rw [e1] at hlk;have e2:dR S (node v l h)=S++[node v l h]:=by
   unfold dR;rw [if_neg];rintro (hc|hc)
   ·cases hc
   ·exact hmem hc
  rw [e2];have hS':Cl (S++[node v l h]):=.snoc hS hl hh hok hmem;refine ⟨_,_,hlk,λ_=> ?_,λhc=>(by cases hc)⟩;refine ⟨s,by rw [an hb];rfl,aR (br S (node v l h)),rfl,aj h9,rfl,λb37 hb37=> ?_⟩;refine atI ?_;have hle37:=ac (.cells (aR (br S (node v l h))) 103) hb37;have h37:=aq F1 b37 (.cells (aR (br S (node v l h))) 103);replace hb:=hle37 _ _ hb;replace hm:=hle37 _ _ hm;replace h9:=hle37 _ _ h9;have hle2:F0.le (F1.set b37 (.cells (aR (br S (node v l h))) 103)):=λx o hx=>hle37 x o (hle1 x o hx);replace ho:bj (F1.set b37 (.cells (aR (br S (node v l h))) 103)) 103 3 s (aS (brs S)):=ho.keep λa ha=>by obtain ⟨cur,hcur⟩:=hbase a ha;rw [hcur,hle37 _ _ hcur]
  generalize F1.set b37 (.cells (aR (br S (node v l h))) 103)=F2 at*;have hlen:=ho.rd.blen;rw [aQ] at hlen;refine iw underlying31 x7 x8 rfl (by decide) hle2 ho hs0 (x:=⟨some ⟨b37,0,none⟩,1,1⟩) (news:=di (br S (node v l h))) (RdS.new h37 rfl rfl (XA _)) (λx hx=>jd [br S (node v l h)] x (by simpa [aS] using hx)) (by simp only [hlen];omega) (by simp only [hlen];omega) ?_;intro s' F3 hle3 ho3 hlen3 hs3 hk3 hfr3;have neB:∀a,s.base=some a->a.block≠b:=λa ha e=>by obtain ⟨cur,hcur⟩:=ho.elem ha;rw [e,hb] at hcur;cases hcur
  have neM:∀a,s.base=some a->a.block≠m:=λa ha e=>by obtain ⟨cur,hcur⟩:=ho.elem ha;obtain ⟨es,c,L,rfl,_⟩:=hmp;rw [e,hm] at hcur;cases hcur
  replace hb:=hk3 _ _ hb (λ⟨a,ha,e⟩=>neB a ha e);replace hm:=hk3 _ _ hm (λ⟨a,ha,e⟩=>neM a ha e);replace h9:=hk3 _ _ h9 (λ⟨a,ha,e⟩=>ne9 a ha e);refine ⟨s',rfl,?_⟩;refine st1 hb (by simp) ?_;have hbm:b≠m:=λe=>by obtain ⟨es,c,L,rfl,_⟩:=hmp;rw [e,hm] at hb;cases hb
  have h9b:b9≠b:=λe=>by rw [e,hb] at h9;cases h9
  have hsb:∀a,s'.base=some a->a.block≠b/\a.block≠m:=λa ha=>by
   obtain ⟨cur,hcur⟩:=ho3.elem ha;refine ⟨λe=> ?_,λe=> ?_⟩
   ·rw [e,hb] at hcur;cases hcur
   ·obtain ⟨es,c,L,rfl,_⟩:=hmp;rw [e,hm] at hcur;cases hcur
  have hle4:F0.le (F3.set b (.cells (#[s'.v,Value.map (some m)]:Γ) 228)):=aA hle3 hb0;have hb4:=aq F3 b (.cells (#[s'.v,Value.map (some m)]:Γ) 228);have hm4:(F3.set b (.cells (#[s'.v,Value.map (some m)]:Γ) 228)) m=some ob:=by rw [aC _ _ hbm.symm];exact hm
  have h94:(F3.set b (.cells (#[s'.v,Value.map (some m)]:Γ) 228)) b9=some (.cells (aR (br S (node v l h))) 103):=by rw [aC _ _ h9b];exact h9
  have ho4:bj (F3.set b (.cells (#[s'.v,Value.map (some m)]:Γ) 228)) 103 3 s' (aS (brs S)++di (br S (node v l h))):=ho3.keep λa ha=>aC _ _ (hsb a ha).1;rw [show (#[s.v,Value.map (some m)].setIfInBounds 0 s'.v:Γ)= #[s'.v,Value.map (some m)] from rfl];generalize F3.set b (.cells (#[s'.v,Value.map (some m)]:Γ) 228)=F4 at*;have hlen4:s'.len=S.length+1:=by rw [hlen3,hlen]
  refine ⟨s',by rw [an hb4];rfl,some m,by simp only [av];rw [an hb4];rfl,aR (br S (node v l h)),rfl,aj h94,?_⟩;refine bO mtB hm4 hmp (br S (node v l h)) _ λo' ho'=> ?_;have hw:IntKind.i64.wrap ((s'.len:Int)+1)=((S.length+2:Nat):Int):=by rw [hlen4,aH (by omega) (by omega)];omega
  rw [hw] at ho' ⊢;refine ⟨?_,aA hle4 hm0,hS',hb0,hm0,⟨s',by rw [aC _ _ hbm];exact hb4,?_,hs3⟩,o',aq _ _ _,by rw [FZ hS hl hh hmem];exact ho'⟩
  ·have hl2:=eA hS' (k:=S.length) (t:=node v l h) (by simp);rw [hl2]
  ·have e3:aS (brs (S++[node v l h]))=aS (brs S)++di (br S (node v l h)):=by rw [eY hS hl hh,<- hbr,eT];simp [aS]
   rw [e3];exact ho4.keep λa ha=>aC _ _ (hsb a ha).2
end
theorem dG {α:Type} [DecidableEq α]:∀(l m:List α),l.Nodup->(∀x∈l,x∈m)->l.length<=m.length
 |[],_,_,_=>Nat.zero_le _
 |a::l,m,hn,hs=>by rw [Zb] at hn;have ha:=hs a (by simp);have h:=dG l (m.erase a) hn.2 (λx hx=>(List.mem_erase_of_ne (by rintro rfl;exact hn.1 hx)).2 (hs x (by simp [hx])));rw [List.length_erase_of_mem ha] at h;have:=List.length_pos_of_mem ha;simp only [XI];omega
theorem Gi:aB prog 215=true:=by kernel_rfl
def nmS (S0 S:List Tr) (n:Int):Option Value:=
 if 0<=n/\n<=(S0.length:Int)+1/\inn S (tr S0 n.toNat) then some (vi (num S (tr S0 n.toNat):Int)) else none
theorem oN {S0 S:List Tr} (h0:Cl S0) {t:Tr} (ht:inn S0 t) (hi:inn S t):nmS S0 S (num S0 t)=some (vi (num S t)):=by have h1:=cS ht;unfold nmS;rw [N5,gy h0 ht,if_pos ⟨by omega,by omega,hi⟩]
theorem Gj {S0 S:List Tr} (h0:Cl S0) {t:Tr} (ht:inn S0 t) (hi:¬inn S t):nmS S0 S (num S0 t)=none:=by unfold nmS;rw [N5,gy h0 ht,if_neg (λh=>hi h.2.2)]
theorem Gk {S0 S:List Tr} (h0:Cl S0) (hS:Cl S) {t:Tr} (ht:inn S0 t) (hS':Cl (S++[t])):
  nmS S0 (S++[t])=λn=>if n=(num S0 t:Int) then some (vi (((S.length+2:Nat)):Int)) else nmS S0 S n:=by
 funext n;by_cases hn:n=(num S0 t:Int)
 ·subst hn;rw [if_pos rfl,oN h0 ht (.inr (by simp)),eA hS' (k:=S.length) (by simp)]
 ·rw [if_neg hn];unfold nmS;by_cases hr:0<=n/\n<=(S0.length:Int)+1
  ·have hne:tr S0 n.toNat≠t:=λe=>by have:=fZ h0 (n:=n.toNat) (by omega);rw [e] at this;omega
   by_cases hi:inn S (tr S0 n.toNat)
   ·rw [if_pos ⟨hr.1,hr.2,bK hi⟩,if_pos ⟨hr.1,hr.2,hi⟩,bT hi]
   ·rw [if_neg,if_neg (λh=>hi h.2.2)];rintro ⟨_,_,h|h⟩
    ·exact hi (.inl h)
    ·rcases XD.1 h with h|h
     ·exact hi (.inr h)
     ·exact hne (XC.1 h)
  ·rw [if_neg (λh=>hr ⟨h.1,h.2.1⟩),if_neg (λh=>hr ⟨h.1,h.2.1⟩)]
theorem JS {S0:List Tr} (h0:Cl S0):nmS S0 []=λn=>if n=1 then some (vi 1) else if n=0 then some (vi 0) else none:=by
 funext n;unfold nmS;by_cases h1:n=1
 ·subst h1;have e:tr S0 (Int.toNat 1)=leaf true:=rfl;rw [if_pos rfl,e,if_pos ⟨by omega,by omega,eW _ _⟩];rfl
 ·rw [if_neg h1];by_cases h2:n=0
  ·subst h2;have e:tr S0 (Int.toNat 0)=leaf false:=rfl;rw [if_pos rfl,e,if_pos ⟨by omega,by omega,eW _ _⟩];rfl
  ·rw [if_neg h2,if_neg];rintro ⟨a,b,c|c⟩
   ·have h3:inn S0 (tr S0 n.toNat):=gx (by omega);have h4:=fZ h0 (n:=n.toNat) (by omega);generalize tr S0 n.toNat=t at*;cases t with
    |leaf x=>have:=dx S0 x;omega
    |node _ _ _=>cases c
   ·cases c
structure VE (F0:PH) (b6 b2 b7 b5 M b:Nat) (ns:Sl) (S0:List Tr):Prop where
 c6:F0.cell ⟨b6,0,none⟩=some (.map (some M))
 c2:F0.cell ⟨b2,0,none⟩=some (.pointer (some ⟨b,0,none⟩))
 c7:F0.cell ⟨b7,0,none⟩=some (.func (.func 215) #[] #[.pointer (some ⟨b6,0,none⟩),.pointer (some ⟨b2,0,none⟩),.pointer (some ⟨b7,0,none⟩),.pointer (some ⟨b5,0,none⟩)])
 cb:F0.cell ⟨b,0,none⟩=some ns.v
 rd:RdS F0 ns 3 (aS (brs S0))
theorem VE.le {F0 G:PH} {b6 b2 b7 b5 M b:Nat} {ns:Sl} {S0:List Tr} (h:VE F0 b6 b2 b7 b5 M b ns S0) (hl:F0.le G):VE G b6 b2 b7 b5 M b ns S0:=
 ⟨au hl h.c6,au hl h.c2,au hl h.c7,au hl h.cb,h.rd.le hl⟩
structure VS (F0 F:PH) (b5 M:Nat) (S0 S:List Tr):Prop where
 le:F0.le F
 cl:Cl S
 sub:∀x∈S,x∈S0
 n5:F0 b5=none
 nM:F0 M=none
 ex:∃(s:Sl),F b5=some (.cells #[s.v,vi 0] 33)/\bj F 103 3 s (aS (brs S))/\∀a,s.base=some a->F0 a.block=none
 map:∃o,F M=some o/\gP xz (nmS S0 S) o
theorem bj.upto {F G:PH} {e size:Nat} {s:Sl} {vs:Ξ} (h:bj F e size s vs) (hl:F.le G):bj G e size s vs:=by
 rcases h with h|⟨b,cur,h1,h2,h3⟩
 ·exact .inl h
 ·exact .inr ⟨b,cur,h1,hl _ _ h2,h3⟩
theorem zi {b6 b2 b7 b5 M b:Nat} {ns:Sl} {S0:List Tr} (h0:Cl S0) (hf:Fit (S0.length+4)):∀(t:Tr),inn S0 t->∀(F0 F:PH) (S:List Tr),VE F0 b6 b2 b7 b5 M b ns S0->VS F0 F b5 M S0 S->
  ae prog 215 #[vi (num S0 t),.pointer (some ⟨b6,0,none⟩),.pointer (some ⟨b2,0,none⟩),.pointer (some ⟨b7,0,none⟩),.pointer (some ⟨b5,0,none⟩)] F
   λr F'=>r=vi (num (vis t S) t)/\VS F0 F' b5 M S0 (vis t S):=by
 intro t;induction t with
 |leaf x=>intro ht F0 F S he hs;have hs':=hs;obtain ⟨hle,hS,hsub,hn5,hnM,⟨s,h5,ho,hsb⟩,o,hM,hmo⟩:=hs;refine Ms ?_;unfold GL;have hlk:=eu (F:=F) mtN hM hmo (num S0 (leaf x)) true;rw [oN h0 ht (eW _ _)] at hlk;exact ⟨_,rfl,_,au hle he.c6,_,_,hlk,λ_=>⟨rfl,hs'⟩,λhc=>by cases hc⟩
 |node v l h ihl ihh=>
  intro ht F0 F S he hs;have hs':=hs;obtain ⟨hle,hS,hsub,hn5,hnM,⟨s,h5,ho,hsb⟩,o,hM,hmo⟩:=hs;have htm:=cR ht rfl;obtain ⟨hil,hih⟩:=h0.inn_kids ht;have hok:=h0.inn_ok ht;refine Ms ?_;unfold GL;have hlk:=eu (F:=F) mtN hM hmo (num S0 (node v l h)) true;by_cases hin:node v l h∈S
  ·rw [oN h0 ht (.inr hin)] at hlk;have e:vis (node v l h) S=S:=jS (.inr hin);rw [e];exact ⟨_,rfl,_,au hle he.c6,_,_,hlk,λ_=>⟨rfl,hs'⟩,λhc=>by cases hc⟩
  ·have hnin:¬inn S (node v l h):=by
    rintro (hc|hc)
    ·cases hc
    ·exact hin hc
   rw [Gj h0 ht hnin] at hlk;have hw:=xI (n:=num S0 (node v l h)) (by have:=cS ht;omega) (eX rfl);have hnl:=cS ht;have hng:=eX (S:=S0) (t:=node v l h) rfl;obtain ⟨a,ha,hrow,_⟩:=rdb (he.rd.le hle) (lW (gg htm rfl));have hns:=he.rd.blen;rw [aQ] at hns;refine ⟨_,rfl,_,au hle he.c6,_,_,hlk,λhc=>(by cases hc),λ_=> ?_⟩;refine ⟨_,rfl,_,au hle he.c2,_,rfl,ns,au hle he.cb,a,ha,by rw [hw];omega,by rw [hw];omega,aR (br S0 (node v l h)),rfl,by rw [hw];exact hrow,?_⟩;intro b9 hb9;refine atI ?_;refine stW (aq _ _ _) rfl rfl (jO _) ?_;rw [aU];have h90:F0 b9=none:=aY hle hb9;have he9:VE (F0.set b9 (.cells (aR (br S0 (node v l h))) 103)) b6 b2 b7 b5 M b ns S0:=he.le (ac _ h90);have ne95:b5≠b9:=aJ hb9 h5;have ne9M:M≠b9:=aJ hb9 hM;have hle9:(F0.set b9 (.cells (aR (br S0 (node v l h))) 103)).le (F.set b9 (.cells (aR (br S0 (node v l h))) 103)):=λx ob hx=>by
    by_cases hxb:x=b9
    ·subst hxb;rw [aq] at hx ⊢;exact hx
    ·rw [aC _ _ hxb] at hx ⊢;exact hle _ _ hx
   have hs9:VS (F0.set b9 (.cells (aR (br S0 (node v l h))) 103)) (F.set b9 (.cells (aR (br S0 (node v l h))) 103)) b5 M S0 S:=by refine ⟨hle9,hS,hsub,by rw [aC _ _ ne95];exact hn5,by rw [aC _ _ ne9M];exact hnM,⟨s,by rw [aC _ _ ne95];exact h5,ho.upto (ac _ hb9),λa ha=> ?_⟩,o,by rw [aC _ _ ne9M];exact hM,hmo⟩;obtain ⟨cur,hcur⟩:=ho.elem ha;rw [aC _ _ (aJ hb9 hcur)];exact hsb a ha
   have hle0:F0.le (F0.set b9 (.cells (aR (br S0 (node v l h))) 103)):=ac _ h90;have hc9:(F0.set b9 (.cells (aR (br S0 (node v l h))) 103)) b9=some (.cells (aR (br S0 (node v l h))) 103):=aq _ _ _;generalize F0.set b9 (.cells (aR (br S0 (node v l h))) 103)=G0 at*;generalize F.set b9 (.cells (aR (br S0 (node v l h))) 103)=F1 at*;refine ⟨_,rfl,_,au hs9.le he9.c7,_,by rw [an (hs9.le _ _ hc9)];rfl,_,_,_,rfl,Gi,?_⟩;refine (ihl hil G0 F1 S he9 hs9).mono ?_;rintro _ F2 ⟨rfl,hs2⟩;refine ⟨_,rfl,_,au hs2.le he9.c7,_,by rw [an (hs2.le _ _ hc9)];rfl,_,_,_,rfl,Gi,?_⟩;refine (ihh hih G0 F2 _ he9 hs2).mono ?_;rintro _ F3 ⟨rfl,hs3⟩;have hs3':=hs3;obtain ⟨hle3,hS3,hsub3,hn53,hnM3,⟨s3,h53,ho3,hsb3⟩,o3,hM3,hmo3⟩:=hs3;obtain ⟨fl1,fl2,X,fl3,fl4⟩:=bE l S hok.2.2.2.2.1 hS;obtain ⟨fh1,fh2,Y,fh3,fh4⟩:=bE h (vis l S) hok.2.2.2.2.2 fl1;have hnl':num (vis l S) l=num (vis h (vis l S)) l:=by rw [fh3,bT fl2]
   have evis:vis (node v l h) S=vis h (vis l S)++[node v l h]:=by
    conv=>lhs;unfold vis
    rw [if_neg hin]
   obtain ⟨hSv,_,_⟩:=bE (node v l h) S hok hS;rw [evis] at hSv ⊢;rw [hnl'];have hil3:inn (vis h (vis l S)) l:=by rw [fh3];exact bK fl2
   generalize vis h (vis l S)=T at*;refine ⟨_,rfl,_,rfl,s3,by rw [an h53];rfl,_,by rw [an (hle3 _ _ hc9)];rfl,rfl,λb43 hb43=> ?_⟩;refine atI ?_;have hb430:G0 b43=none:=aY hle3 hb43;have hTl:T.length<=S0.length:=dG T S0 hS3.nodup hsub3;have hlen:=ho3.rd.blen;rw [aQ] at hlen;have ex:(#[vi (v:Int),vi (num T l:Int),vi (num T h:Int)]:Γ)=aR ⟨(v:Int),(num T l:Int),(num T h:Int)⟩:=rfl;have hle43:=ac (.cells (aR ⟨(v:Int),(num T l:Int),(num T h:Int)⟩) 103) hb43;have h43:=aq F3 b43 (.cells (aR ⟨(v:Int),(num T l:Int),(num T h:Int)⟩) 103);show aG prog _ (F3.set b43 (.cells (aR ⟨(v:Int),(num T l:Int),(num T h:Int)⟩) 103)) _;replace hle3:G0.le (F3.set b43 (.cells (aR ⟨(v:Int),(num T l:Int),(num T h:Int)⟩) 103)):=λx ob hx=>hle43 _ _ (hle3 _ _ hx);replace ho3:=ho3.upto hle43;replace h53:=hle43 _ _ h53;replace hM3:=hle43 _ _ hM3;generalize F3.set b43 (.cells (aR ⟨(v:Int),(num T l:Int),(num T h:Int)⟩) 103)=F4 at*;refine iw underlying31 x7 x8 rfl (by decide) hle3 ho3 hsb3 (x:=⟨some ⟨b43,0,none⟩,1,1⟩) (news:=di ⟨(v:Int),(num T l:Int),(num T h:Int)⟩) (RdS.new h43 rfl rfl (XA _))
    (λx hx=>jd [⟨(v:Int),(num T l:Int),(num T h:Int)⟩] x (by simpa [aS] using hx)) (by simp only [hlen];omega) (by simp only [hlen];omega) ?_
   intro s5 F5 hle5 ho5 hlen5 hsb5 hk5 _;have ne5:∀a,s3.base=some a->a.block≠b5:=λa ha e=>by obtain ⟨cur,hcur⟩:=ho3.elem ha;rw [e,h53] at hcur;cases hcur
   have neM:∀a,s3.base=some a->a.block≠M:=λa ha e=>by obtain ⟨cur,hcur⟩:=ho3.elem ha;obtain ⟨es,c,L,rfl,_⟩:=hmo3;rw [e,hM3] at hcur;cases hcur
   replace h53:=hk5 _ _ h53 (λ⟨a,ha,e⟩=>ne5 a ha e);replace hM3:=hk5 _ _ hM3 (λ⟨a,ha,e⟩=>neM a ha e);have n5M:b5≠M:=λe=>by obtain ⟨es,c,L,rfl,_⟩:=hmo3;rw [e,hM3] at h53;cases h53
   have hsb6:∀a,s5.base=some a->a.block≠b5/\a.block≠M:=λa ha=>by
    obtain ⟨cur,hcur⟩:=ho5.elem ha;refine ⟨λe=> ?_,λe=> ?_⟩
    ·rw [e,h53] at hcur;cases hcur
    ·obtain ⟨es,c,L,rfl,_⟩:=hmo3;rw [e,hM3] at hcur;cases hcur
   refine ⟨s5,rfl,?_⟩;refine st1 h53 (by simp) ?_;rw [show (#[s3.v,vi 0].setIfInBounds 0 s5.v:Γ)= #[s5.v,vi 0] from rfl];have hle6:G0.le (F5.set b5 (.cells #[s5.v,vi 0] 33)):=aA hle5 hn53;have h56:=aq F5 b5 (.cells #[s5.v,vi 0] 33);have hM6:(F5.set b5 (.cells #[s5.v,vi 0] 33)) M=some o3:=by rw [aC _ _ n5M.symm];exact hM3
   have ho6:bj (F5.set b5 (.cells #[s5.v,vi 0] 33)) 103 3 s5 _:=ho5.keep λa ha=>aC _ _ (hsb6 a ha).1;generalize F5.set b5 (.cells #[s5.v,vi 0] 33)=F6 at*;have hlen6:s5.len=T.length+1:=by rw [hlen5,hlen]
   have hw6:IntKind.i64.wrap ((s5.len:Int)+1)=((T.length+2:Nat):Int):=by rw [hlen6,aH (by omega) (by omega)];omega
   refine ⟨_,au hle6 he9.c6,s5,by rw [an h56];rfl,?_⟩;dsimp only;rw [hw6];refine bO mtN hM6 hmo3 (num S0 (node v l h):Int) _ λo' ho'=> ?_;rw [<- Gk h0 hS3 ht hSv] at ho';have hle7:G0.le (F6.set M o'):=aA hle6 hnM3;have hlk7:=eu (F:=F6.set M o') mtN (aq F6 M o') ho' (num S0 (node v l h)) false;rw [oN h0 ht (.inr (by simp))] at hlk7;refine ⟨_,au hle7 he9.c6,_,hlk7,rfl,λx ob hx=>hle7 _ _ (hle0 _ _ hx),hSv,λx hx=> ?_,hn5,hnM,⟨s5,by rw [aC _ _ n5M];exact h56,?_,λa ha=>aY hle0 (hsb5 a ha)⟩,o',aq _ _ _,ho'⟩
   ·rcases XD.1 hx with hx|hx
    ·exact hsub3 x hx
    ·rw [XC.1 hx];exact htm
   ·have e3:aS (brs (T++[node v l h]))=aS (brs T)++di ⟨(v:Int),(num T l:Int),(num T h:Int)⟩:=by rw [eY hS3 hil3 fh2,eT];simp [aS]
    rw [e3];exact ho6.keep λa ha=>aC _ _ (hsb6 a ha).2
def nk (F:PH) (a b:Nat):PH:=λx=>if x=a\/x=b then none else F x
theorem JT (F:PH) (a b:Nat):(nk F a b).le F:=λx o h=>by
 unfold nk at h;split at h
 ·cases h
 ·exact h
theorem lD {F:PH} {a b x:Nat} (h1:x≠a) (h2:x≠b):nk F a b x=F x:=by simp [nk,h1,h2]
theorem ON (F:PH) (a b:Nat):nk F a b a=none:=by simp [nk]
theorem OO (F:PH) (a b:Nat):nk F a b b=none:=by simp [nk]
theorem JU {F G:PH} {a b:Nat} (h:F.le G) (ha:F a=none) (hb:F b=none):F.le (nk G a b):=λx o hx=>by
 have h1:x≠a:=λe=>by rw [e,ha] at hx;cases hx
 have h2:x≠b:=λe=>by rw [e,hb] at hx;cases hx
 rw [lD h1 h2];exact h _ _ hx
theorem PH.le.trans {F G H:PH} (h:F.le G) (k:G.le H):F.le H:=λb o hx=>k _ _ (h _ _ hx)
section
variable {F:PH} {b:Nat} {ns:Sl} {S0:List Tr} {t:Tr}
theorem lH (hb:F.cell ⟨b,0,none⟩=some ns.v) (hr:RdS F ns 3 (aS (brs S0))) (h0:Cl S0) (ht:inn S0 t) (hf:Fit (S0.length+4)):
  ae prog 167 #[.pointer (some ⟨b,0,none⟩),vi (num S0 t)] F λr F'=>∃v,r=.agg v/\DV F' v (dia t)/\F.le F':=by
 have hok:=h0.inn_ok ht;refine Se ?_;unfold Mp;intro b2 hb2;refine atI ?_;have l2:=ac (.cells #[Value.pointer (some ⟨b,0,none⟩)] 225) hb2;have h2:=aq F b2 (.cells #[Value.pointer (some ⟨b,0,none⟩)] 225);generalize F.set b2 (.cells #[Value.pointer (some ⟨b,0,none⟩)] 225)=F2 at*;intro b4 hb4;refine atI ?_;have l4:=ac (.cells zD 33) hb4;have h4:=aq F2 b4 (.cells zD 33);replace h2:=l4 _ _ h2;have f4:F b4=none:=aY l2 hb4;replace l4:=l2.trans l4;generalize F2.set b4 (.cells zD 33)=F4 at*;intro b5 hb5;refine atI ?_;have n25:b2≠b5:=aJ hb5 h2;have n45:b4≠b5:=aJ hb5 h4;refine stW (aq _ _ _) rfl rfl (λx hx=> ?_) ?_
 ·simp only [XB,Yq,or_false] at hx;rcases hx with rfl|rfl
  ·exact Hx (x:=Sl.nil)
  ·exact jl
 rw [aU];have l5:=ac (.cells zD 33) hb5;have h5:=aq F4 b5 (.cells zD 33);replace h2:=l5 _ _ h2;replace h4:=l5 _ _ h4;have f5:F b5=none:=aY l4 hb5;replace l5:=l4.trans l5;generalize F4.set b5 (.cells zD 33)=F5 at*;intro b9 hb9;refine atI ?_;have f9:F b9=none:=aY l5 hb9;have n92:b2≠b9:=aJ hb9 h2;have n94:b4≠b9:=aJ hb9 h4;have n95:b5≠b9:=aJ hb9 h5;refine bO mtN (aq _ _ _) (gP.empty xz) 0 (vi 0) λo1 ho1=> ?_;rw [aU];refine bO mtN (aq _ _ _) ho1 1 (vi 1) λo2 ho2=> ?_;rw [aU];have hn:nmS S0 []=(λk'=>if k'=1 then some (vi 1) else if k'=0 then some (vi 0) else none):=JS h0;rw [<- hn] at ho2;have l9:F.le (F5.set b9 o2):=l5.trans (ac o2 hb9);have h9:=aq F5 b9 o2;replace h2:=ac o2 hb9 _ _ h2;replace h4:=ac o2 hb9 _ _ h4;replace h5:=ac o2 hb9 _ _ h5;generalize F5.set b9 o2=F9 at*;intro b6 hb6;refine atI ?_;refine st1 (aq _ _ _) (by simp) ?_;rw [aU,show (#[Value.map none].setIfInBounds 0 (Value.map (some b9)):Γ)= #[Value.map (some b9)] from rfl];have n65:b6≠b5:=(aJ hb6 h5).symm;have n69:b6≠b9:=(aJ hb6 h9).symm;have hx:=ac (.cells #[Value.map (some b9)] 299) hb6;have h6:=aq F9 b6 (.cells #[Value.map (some b9)] 299);have l6:F.le (F9.set b6 (.cells #[Value.map (some b9)] 299)):=l9.trans hx;replace h2:=hx _ _ h2;replace h4:=hx _ _ h4;replace h5:=hx _ _ h5;replace h9:=hx _ _ h9;clear hx;generalize F9.set b6 (.cells #[Value.map (some b9)] 299)=F6 at*;intro b7 hb7;refine atI ?_;refine st1 (aq _ _ _) (by simp) ?_;rw [aU];generalize hfv:(Value.func (.func 215) #[] #[(Value.pointer (some (Addr.mk b6 0 none))),(Value.pointer (some (Addr.mk b2 0 none))),(Value.pointer (some (Addr.mk b7 0 none))),(Value.pointer (some (Addr.mk b5 0 none)))])=fv;rw [show (#[Value.nilFunc].setIfInBounds (Addr.mk b7 0 none).off fv:Γ)= #[fv] from rfl];have n75:b7≠b5:=(aJ hb7 h5).symm;have n79:b7≠b9:=(aJ hb7 h9).symm;have hx:=ac (.cells #[fv] 167) hb7;have h7:=aq F6 b7 (.cells #[fv] 167);have l7:F.le (F6.set b7 (.cells #[fv] 167)):=l6.trans hx;replace h2:=hx _ _ h2;replace h4:=hx _ _ h4;replace h5:=hx _ _ h5;replace h9:=hx _ _ h9;replace h6:=hx _ _ h6;clear hx;generalize F6.set b7 (.cells #[fv] 167)=F7 at*;have lF:F.le (nk F7 b5 b9):=JU l7 f5 f9;have g4:(nk F7 b5 b9) b4=_:=(lD n45 n94).trans h4;have he:VE (nk F7 b5 b9) b6 b2 b7 b5 b9 b ns S0:=by
  refine ⟨?_,?_,?_,au lF hb,hr.le lF⟩
  ·rw [an ((lD n65 n69).trans h6)];rfl
  ·rw [an ((lD n25 n92).trans h2)];rfl
  ·rw [an ((lD n75 n79).trans h7),<- hfv];rfl
 have hs:VS (nk F7 b5 b9) F7 b5 b9 S0 []:=by refine ⟨JT _ _ _,.nil,λx hx=>(by cases hx),ON _ _ _,OO _ _ _,⟨Sl.nil,h5,.inl ⟨rfl,rfl⟩,λa ha=>by cases ha⟩,o2,h9,ho2⟩
 refine ⟨_,by rw [an h7];rfl,_,_,_,hfv.symm,Gi,?_⟩;refine (zi h0 hf t ht _ _ _ he hs).mono ?_;rintro _ G ⟨rfl,hs'⟩;refine ⟨_,rfl,?_⟩;obtain ⟨gle,gcl,_,_,_,⟨s,g5,go,gs⟩,_⟩:=hs';have ev:vis t []=aO t:=rfl;rw [ev] at*;refine st1 g5 (by simp) ?_;rw [show (#[s.v,vi 0].setIfInBounds 1 (vi (num (aO t) t)):Γ)= #[s.v,vi (num (aO t) t)] from rfl];refine ⟨#[s.v,vi (num (aO t) t)],rfl,aj (aq _ _ _),?_⟩;have k4:(G.set b5 (.cells #[s.v,vi (num (aO t) t)] 33)) b4=some (.cells zD 33):=by rw [aC _ _ n45];exact gle _ _ g4
 refine stW k4 rfl rfl (λx hx=> ?_) ?_
 ·simp only [XB,Yq,or_false] at hx;rcases hx with rfl|rfl
  ·exact Hx
  ·exact jl
 refine ⟨#[s.v,vi (num (aO t) t)],rfl,aj (aq _ _ _),_,rfl,⟨s,rfl,?_⟩,?_⟩
 ·have hsb:∀a,s.base=some a->a.block≠b5/\a.block≠b4:=λa ha=>by
   obtain ⟨cur,hcur⟩:=go.elem ha;refine ⟨λe=> ?_,λe=> ?_⟩
   ·rw [e,g5] at hcur;cases hcur
   ·rw [e,gle _ _ g4] at hcur;cases hcur
  exact (go.keep λa ha=>by rw [aC _ _ (hsb a ha).2,aC _ _ (hsb a ha).1]).rd
 ·exact aA (aA (lF.trans gle) f5) f4
end
end Go.Proofs.YtenpmjhnhepfdaaGreatDoor
