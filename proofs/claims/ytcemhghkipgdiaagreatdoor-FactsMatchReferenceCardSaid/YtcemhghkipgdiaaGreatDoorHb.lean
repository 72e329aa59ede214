/-
  A base that stays, and parts beside it that may change: what a heap holds, by parts.
-/
import Derived.Test.YtcemhghkipgdiaaGreatDoorQw
set_option maxRecDepth 10000
open Option renaming some->ZO,none->ZR
open Go.Obj renaming cells->ZP
open Bool renaming false->ZQ,true->ZT
open Go.Value renaming agg->ZU,bool->ZV,pointer->ZZ,int->Z0,string->Z1,tuple->Z2,slice->Z7
open Go.Addr renaming add->ZW,mk->ZX
open Int renaming toNat->ZY,tmod->Z5
noncomputable section
namespace Go.Proofs.YtcemhghkipgdiaaGreatDoor
open Go.IntKind (i64 u8 u64)
open Sl renaming v->ZS,nil->Z3
open Go Go.Proofs.Tryz
section
variable {F:PH} {l:List Nd} {s:Sl}
theorem OW:aE prog 186=ZT:=by kernel_rfl
def LgL (l:List Nd) (w:Δ):Prop:=Lg (bU l).pat w
theorem tU (hT:Tab F) (hs:RdS F s 5 (d7 l)) (st:ο) (hst:st.size<=1000000000):ν 145 #[s.v,Z1 st] F λr F'=>(∃q:Bool,r=ZV q/\(q=ZT↔fL l=0/\LgL l (bs st)))/\F.le F':=by
 refine T4 ?_;unfold NM;have h:=Lo.start F;refine h.new _ _ λb3 F1 h=> ?_;refine (h.call (oP hs)).mono ?_;rintro _ F2 ⟨G1,⟨rfl,l1⟩,h⟩;refine ⟨_,rfl,λhc=>⟨⟨ZQ,rfl,λh=>(by cases h),λh=>absurd h.1 hc⟩,aa l1 h.le⟩,λhc=> ?_⟩;have h0:fL l=0:=by omega
 obtain ⟨hG,hl⟩:=uP h0;obtain ⟨ns,ht⟩:=iP hG;refine (h.call (wV (hT.le l1) hG hl (hs.le l1))).mono ?_;rintro _ F3 ⟨G,⟨⟨bm,rfl,hM⟩,l2⟩,h⟩;have c3:F3.cell (ZX b3 0 ZR)=ZO (Z1 st):=by rw [h.cell (b:=b3) (w:= #[Z1 st]) (e:=9) (by simp)];rfl
 refine ⟨_,rfl,_,c3,?_⟩;have j1:∀(b6:Nat) (mt:Bool) (F4:PH),Lo G F4 [(b6,#[ZV mt],4),(b3,#[Z1 st],9)]->(mt=ZT↔st.size=0/\(bU l).nul=ZT)->
   qe b3 (ZO ⟨bm,0,ZR⟩) (ZO ⟨b6,0,ZR⟩) (λr F'=>(∃q:Bool,r=ZV q/\(q=ZT↔fL l=0/\LgL l (bs st)))/\F.le F') F4:=λb6 mt F4 h hmt=>by
  unfold qe;refine ⟨_,by rw [h.cell (b:=b3) (w:= #[Z1 st]) (e:=9) (by simp)];rfl,?_⟩
  refine (HS (bm:=bm) (k:=186) (cap:= #[pa b3,pa b6]) (Inv:=λn F'=>∃mt:Bool,Lo G F' [(b6,#[ZV mt],4),(b3,#[Z1 st],9)]/\(n=0->(mt=ZT↔st.size=0/\(bU l).nul=ZT))/\(0<n->(mt=ZT↔n=st.size/\LgL l ((bs st).take n)))) OW hl hG ht (by omega)
   (λn F' ⟨b,hL,_⟩=>⟨(hT.le (aa l1 l2)).le hL.le,hM.le hL.le⟩) ?_ ⟨mt,h,λ_=>hmt,λh=>absurd h (by omega)⟩).mono ?_
  ·rintro n F' q hn hq ⟨mt,hL,_,_⟩;show ν 186 #[vi ((n+1:Nat):Int),ZV q,pa b3,pa b6] F' _;refine T9 ?_;unfold NR;refine ⟨_,rfl,_,by rw [hL.cell (b:=b3) (w:= #[Z1 st]) (e:=9) (by simp)];rfl,λhe=>⟨_,rfl,?_⟩,λhe=>⟨_,rfl,?_⟩⟩
   ·refine Lo.put1 [] [(b3,#[Z1 st],9)] (b:=b6) (i:=0) (w0:= #[ZV mt]) (w:= #[ZV q]) (e:=4) hL (by simp) rfl λF'' h'=> ?_;exact ⟨rfl,q,h',λh=>by omega,λ_=>⟨λh=>⟨by omega,hq.1 h⟩,λh=>hq.2 h.2⟩⟩
   ·refine Lo.put1 [] [(b3,#[Z1 st],9)] (b:=b6) (i:=0) (w0:= #[ZV mt]) (w:= #[ZV ZQ]) (e:=4) hL (by simp) rfl λF'' h'=> ?_;exact ⟨rfl,ZQ,h',λh=>by omega,λ_=>⟨λh=>(by cases h),λh=>by omega⟩⟩
  ·rintro _ F5 ⟨rfl,n,G',hn,⟨mt,hL,hz,hp⟩,l5,hend⟩;refine ⟨rfl,_,rfl,mt,aK l5 (by rw [hL.cell (b:=b6) (w:= #[ZV mt]) (e:=4) (by simp)];rfl),⟨mt,rfl,?_⟩,aa l1 (aa l2 (aa hL.le l5))⟩;have hall:(bs st).take st.size=bs st:=XY (by rw [cX];exact XS _);have hnil:st.size=0->bs st=[]:=λh=>YG.1 (by rw [cX];exact h);have hnul:(bU l).nul=ZT↔LgL l []:=(bU l).nul_iff;rcases Y7 n with e|e
   ·subst e;rw [hz rfl];constructor
    ·rintro ⟨h1,h2⟩;exact ⟨h0,by rw [hnil h1];exact hnul.1 h2⟩
    ·rintro ⟨_,h2⟩;rcases hend with he|he
     ·exact ⟨he.symm,hnul.2 (by rw [<- hnil he.symm];exact h2)⟩
     ·rcases Y7 st.size with h1|h1
      ·exact ⟨h1,hnul.2 (by rw [<- hnil h1];exact h2)⟩
      ·exact absurd (by rw [hall];exact h2) (he st.size h1 (XS _))
   ·rw [hp e];constructor
    ·rintro ⟨h1,h2⟩;exact ⟨h0,by rw [h1,hall] at h2;exact h2⟩
    ·rintro ⟨_,h2⟩;rcases hend with he|he
     ·exact ⟨he,by rw [he,hall];exact h2⟩
     ·by_cases h1:n=st.size
      ·exact ⟨h1,by rw [h1,hall];exact h2⟩
      ·exact absurd (by rw [hall];exact h2) (he st.size (by omega) (XS _))
 have hemp:(st.toList==(ByteArray.mk #[]).toList)=decide (st.size=0):=by
  rw [Hu];rw [XV,δ,δ,<- cX st];constructor
  ·intro h;rw [h];rfl
  ·intro h;exact YG.1 h
 dsimp only;rw [hemp];refine ⟨λhe=> ?_,λhe=> ?_⟩
 ·have he:=ε he;obtain ⟨s',bf,qm,_,_⟩:=(hM.le h.le).ex;refine ⟨_,rfl,(bU l).nul,by rw [cD,av qm];rfl,?_⟩;refine h.new _ _ λb6 F4 h=> ?_;refine Lo.put1 [] [(b3,#[Z1 st],9)] (b:=b6) (i:=0) (w0:= #[ZV ZQ]) (w:= #[ZV (bU l).nul]) (e:=4) h (by simp) rfl λF5 h=> ?_;exact j1 b6 _ F5 h ⟨λh=>⟨he,h⟩,λh=>h.2⟩
 ·have he:=η he;refine h.new _ _ λb6 F4 h=> ?_;refine Lo.put1 [] [(b3,#[Z1 st],9)] (b:=b6) (i:=0) (w0:= #[ZV ZQ]) (w:= #[ZV ZQ]) (e:=4) h (by simp) rfl λF5 h=> ?_;exact j1 b6 _ F5 h ⟨λh=>(by cases h),λh=>absurd h.1 he⟩
end
open Tr
section
theorem GJ (d:Nat) (a b:Int) (F:PH):rdo prog (Op.equalIn (d+1) 3 (vi a) (vi b)) F (decide (a=b)):=by simp only [Op.equalIn,ak];refine ⟨_,(az underlying3 _).2 rfl,?_⟩;simp only [if_true,cM];by_cases h:a=b<;>simp [h]
theorem sB (cs:Γ) (off:Nat) (v:ξ) (h:cs[off]? =ZO v) (F:PH):rdo prog (part 3 cs off) F v:=by unfold part;simp only [ak];refine ⟨ZQ,(dP underlying3 _).2 rfl,?_⟩;simp only [Yn,if_false,h];rfl
theorem CI (e:Bool) (n:Nat) (a:Int) (F:PH):rdo prog (Instr.checkKey e (n+1) 3 (vi a)) F ():=by simp only [Instr.checkKey,ak];refine ⟨_,(az underlying3 _).2 rfl,?_⟩;rfl
theorem WJ:prog.stoodInHeld 124=ZQ:=by kernel_rfl
abbrev LS:=ForInStep (Option Bool×Unit)
theorem dX (n:Nat) (off:Nat) (cs ds:Γ) (x y:Int) (h1:cs[off]? =ZO (vi x)) (h2:ds[off]? =ZO (vi y)) (F:PH):
  rdo prog (do
   let a <- part 3 cs off
   let b <- part 3 ds off
   let r <- Op.equalIn (n+1) 3 a b
   if (!r)=ZT then pure (ForInStep.done (ZO ZQ,())) else pure (ForInStep.yield (ZR,())):Sem LS) F (if x=y then .yield (ZR,()) else .done (ZO ZQ,())):=by
 simp only [ak];refine ⟨_,sB _ _ _ h1 F,_,sB _ _ _ h2 F,_,GJ n x y F,?_⟩;by_cases h:x=y
 ·simp [h]
 ·simp [h]
theorem GK (x y:Br) (F:PH):rdo prog (Op.equal 124 (ZU (bh x)) (ZU (bh y))) F (decide (x=y)):=by
 unfold Op.equal Op.maxDepth;show rdo prog (Op.equalIn (9998+1+1) 124 _ _) _ _;unfold Op.equalIn;simp only [ak];refine ⟨_,(az underlying124 _).2 rfl,?_⟩;dsimp only;rw [ak];refine ⟨prog,rfl,?_⟩;rw [WJ];simp only [Yn,if_false];simp only [List.forIn_toArray,Zs,List.forIn_nil,ak];obtain ⟨a,b,c⟩:=x;obtain ⟨d,e,f⟩:=y;rw [if_pos (by decide),if_pos (by decide),if_pos (by decide)];by_cases h1:a=d
 ·by_cases h2:b=e
  ·by_cases h3:c=f
   ·refine ⟨(ZR,()),⟨_,dX 9998 0 _ _ a d rfl rfl F,?_⟩,?_⟩
    ·rw [Χ h1];refine (ak _ _ _ _).2 ⟨_,dX 9998 1 _ _ b e rfl rfl F,?_⟩;rw [Χ h2];refine (ak _ _ _ _).2 ⟨_,dX 9998 2 _ _ c f rfl rfl F,?_⟩;rw [Χ h3];rfl
    ·simp [h1,h2,h3]
   ·refine ⟨(ZO ZQ,()),⟨_,dX 9998 0 _ _ a d rfl rfl F,?_⟩,?_⟩
    ·rw [Χ h1];refine (ak _ _ _ _).2 ⟨_,dX 9998 1 _ _ b e rfl rfl F,?_⟩;rw [Χ h2];refine (ak _ _ _ _).2 ⟨_,dX 9998 2 _ _ c f rfl rfl F,?_⟩;rw [Υ h3];rfl
    ·simp [h3]
  ·refine ⟨(ZO ZQ,()),⟨_,dX 9998 0 _ _ a d rfl rfl F,?_⟩,?_⟩
   ·rw [Χ h1];refine (ak _ _ _ _).2 ⟨_,dX 9998 1 _ _ b e rfl rfl F,?_⟩;rw [Υ h2];rfl
   ·simp [h2]
 ·refine ⟨(ZO ZQ,()),⟨_,dX 9998 0 _ _ a d rfl rfl F,?_⟩,?_⟩
  ·rw [Υ h1];rfl
  ·simp [h1]
theorem mv (e:Bool) (n:Nat) (off:Nat) (cs:Γ) (x:Int) (h1:cs[off]? =ZO (vi x)) (F:PH):
  rdo prog (do
   let a <- part 3 cs off
   Instr.checkKey e (n+1) 3 a
   pure (ForInStep.yield PUnit.unit):Sem (ForInStep PUnit)) F (.yield PUnit.unit):=by
 simp only [ak];exact ⟨_,sB _ _ _ h1 F,_,CI e n x F,rfl⟩
theorem SW (e:Bool) (x:Br) (F:PH):rdo prog (Instr.checkKey e 10000 124 (.agg (bh x))) F ():=by show rdo prog (Instr.checkKey e (9998+1+1) 124 _) _ _;unfold Instr.checkKey;simp only [ak];refine ⟨_,(az underlying124 _).2 rfl,?_⟩;dsimp only;simp only [List.forIn_toArray,Zs,List.forIn_nil];rw [if_pos (by decide),if_pos (by decide),if_pos (by decide)];refine (ak _ _ _ _).2 ⟨PUnit.unit,(ak _ _ _ _).2 ⟨_,mv e 9998 0 _ _ rfl F,(ak _ _ _ _).2 ⟨_,mv e 9998 1 _ _ rfl F,(ak _ _ _ _).2 ⟨_,mv e 9998 2 _ _ rfl F,rfl⟩⟩⟩,rfl⟩
theorem cK (n:Nat) (i sz:Nat) (hz:sz=1) (cs ds:Γ) (x y:Int) (h1:cs[i]? =ZO (vi x)) (h2:ds[i]? =ZO (vi y)) (F:PH):
  rdo prog (do
   let a <- part 3 cs (i*sz)
   let b <- part 3 ds (i*sz)
   let r <- Op.equalIn (n+1) 3 a b
   if (!r)=ZT then pure (ForInStep.done (ZO ZQ,())) else pure (ForInStep.yield (ZR,())):Sem LS) F (if x=y then .yield (ZR,()) else .done (ZO ZQ,())):=by
 subst hz;rw [Yj];exact dX n i cs ds x y h1 h2 F
theorem mw (e:Bool) (n:Nat) (i:Nat) (cs:Γ) (x:Int) (h1:cs[i]? =ZO (vi x)) (F:PH):
  rdo prog (do
   let s <- sizeOf 3
   let a <- part 3 cs (i*s)
   Instr.checkKey e (n+1) 3 a
   pure (ForInStep.yield PUnit.unit):Sem (ForInStep PUnit)) F (.yield PUnit.unit):=by
 refine (ak _ _ _ _).2 ⟨1,(bE sz3 _).2 rfl,?_⟩;rw [Yj];exact mv e n i cs x h1 F
abbrev dY (x:Int×Int×Int):Γ:= #[vi x.1,vi x.2.1,vi x.2.2]
abbrev wG (x:Int×Int):Γ:= #[vi x.1,vi x.2]
theorem eq3 (x y:Int×Int×Int) (F:PH):rdo prog (Op.equal 215 (ZU (dY x)) (ZU (dY y))) F (decide (x=y)):=by
 unfold Op.equal Op.maxDepth;show rdo prog (Op.equalIn (9998+1+1) 215 _ _) _ _;unfold Op.equalIn;simp only [ak];refine ⟨_,(az underlying215 _).2 rfl,?_⟩;dsimp only;refine (ak _ _ _ _).2 ⟨1,(bE sz3 _).2 rfl,?_⟩;rw [Std.Legacy.Range.forIn_eq_forIn_range'];simp only [Std.Legacy.Range.size,Y9,ZB,Nat.div_one,List.range',Zs,List.forIn_nil,X5,Nat.reduceAdd];obtain ⟨a,b,c⟩:=x;obtain ⟨d,e,f⟩:=y;by_cases h0:a=d
 ·skip
  by_cases h1:b=e
  ·skip
   by_cases h2:c=f
   ·skip
    refine (ak _ _ _ _).2 ⟨(ZR,()),(ak _ _ _ _).2 ⟨_,cK 9998 0 1 rfl _ _ a d rfl rfl F,?_⟩,?_⟩
    ·skip
     rw [Χ h0];refine (ak _ _ _ _).2 ⟨_,cK 9998 1 1 rfl _ _ b e rfl rfl F,?_⟩;rw [Χ h1];refine (ak _ _ _ _).2 ⟨_,cK 9998 2 1 rfl _ _ c f rfl rfl F,?_⟩;rw [Χ h2];rfl
    ·simp [h0,h1,h2]
   ·skip
    refine (ak _ _ _ _).2 ⟨(ZO ZQ,()),(ak _ _ _ _).2 ⟨_,cK 9998 0 1 rfl _ _ a d rfl rfl F,?_⟩,?_⟩
    ·skip
     rw [Χ h0];refine (ak _ _ _ _).2 ⟨_,cK 9998 1 1 rfl _ _ b e rfl rfl F,?_⟩;rw [Χ h1];refine (ak _ _ _ _).2 ⟨_,cK 9998 2 1 rfl _ _ c f rfl rfl F,?_⟩;rw [Υ h2];rfl
    ·simp [h0,h1,h2]
  ·skip
   refine (ak _ _ _ _).2 ⟨(ZO ZQ,()),(ak _ _ _ _).2 ⟨_,cK 9998 0 1 rfl _ _ a d rfl rfl F,?_⟩,?_⟩
   ·skip
    rw [Χ h0];refine (ak _ _ _ _).2 ⟨_,cK 9998 1 1 rfl _ _ b e rfl rfl F,?_⟩;rw [Υ h1];rfl
   ·simp [h0,h1]
 ·skip
  refine (ak _ _ _ _).2 ⟨(ZO ZQ,()),(ak _ _ _ _).2 ⟨_,cK 9998 0 1 rfl _ _ a d rfl rfl F,?_⟩,?_⟩
  ·skip
   rw [Υ h0];rfl
  ·simp [h0]
theorem WL (e:Bool) (x:Int×Int×Int) (F:PH):rdo prog (Instr.checkKey e 10000 215 (.agg (dY x))) F ():=by show rdo prog (Instr.checkKey e (9998+1+1) 215 _) _ _;unfold Instr.checkKey;simp only [ak];refine ⟨_,(az underlying215 _).2 rfl,?_⟩;dsimp only;rw [Std.Legacy.Range.forIn_eq_forIn_range'];simp only [Std.Legacy.Range.size,Y9,ZB,Nat.div_one,List.range',Zs,List.forIn_nil,X5,Nat.reduceAdd];refine (ak _ _ _ _).2 ⟨PUnit.unit,(ak _ _ _ _).2 ⟨_,mw e 9998 0 _ _ rfl F,(ak _ _ _ _).2 ⟨_,mw e 9998 1 _ _ rfl F,(ak _ _ _ _).2 ⟨_,mw e 9998 2 _ _ rfl F,rfl⟩⟩⟩,rfl⟩
theorem eq2 (x y:Int×Int) (F:PH):rdo prog (Op.equal 115 (ZU (wG x)) (ZU (wG y))) F (decide (x=y)):=by
 unfold Op.equal Op.maxDepth;show rdo prog (Op.equalIn (9998+1+1) 115 _ _) _ _;unfold Op.equalIn;simp only [ak];refine ⟨_,(az underlying115 _).2 rfl,?_⟩;dsimp only;refine (ak _ _ _ _).2 ⟨1,(bE sz3 _).2 rfl,?_⟩;rw [Std.Legacy.Range.forIn_eq_forIn_range'];simp only [Std.Legacy.Range.size,Y9,ZB,Nat.div_one,List.range',Zs,List.forIn_nil,X5,Nat.reduceAdd];obtain ⟨a,b⟩:=x;obtain ⟨d,e⟩:=y;by_cases h0:a=d
 ·skip
  by_cases h1:b=e
  ·skip
   refine (ak _ _ _ _).2 ⟨(ZR,()),(ak _ _ _ _).2 ⟨_,cK 9998 0 1 rfl _ _ a d rfl rfl F,?_⟩,?_⟩
   ·skip
    rw [Χ h0];refine (ak _ _ _ _).2 ⟨_,cK 9998 1 1 rfl _ _ b e rfl rfl F,?_⟩;rw [Χ h1];rfl
   ·simp [h0,h1]
  ·skip
   refine (ak _ _ _ _).2 ⟨(ZO ZQ,()),(ak _ _ _ _).2 ⟨_,cK 9998 0 1 rfl _ _ a d rfl rfl F,?_⟩,?_⟩
   ·skip
    rw [Χ h0];refine (ak _ _ _ _).2 ⟨_,cK 9998 1 1 rfl _ _ b e rfl rfl F,?_⟩;rw [Υ h1];rfl
   ·simp [h0,h1]
 ·skip
  refine (ak _ _ _ _).2 ⟨(ZO ZQ,()),(ak _ _ _ _).2 ⟨_,cK 9998 0 1 rfl _ _ a d rfl rfl F,?_⟩,?_⟩
  ·skip
   rw [Υ h0];rfl
  ·simp [h0]
theorem WM (e:Bool) (x:Int×Int) (F:PH):rdo prog (Instr.checkKey e 10000 115 (.agg (wG x))) F ():=by show rdo prog (Instr.checkKey e (9998+1+1) 115 _) _ _;unfold Instr.checkKey;simp only [ak];refine ⟨_,(az underlying115 _).2 rfl,?_⟩;dsimp only;rw [Std.Legacy.Range.forIn_eq_forIn_range'];simp only [Std.Legacy.Range.size,Y9,ZB,Nat.div_one,List.range',Zs,List.forIn_nil,X5,Nat.reduceAdd];refine (ak _ _ _ _).2 ⟨PUnit.unit,(ak _ _ _ _).2 ⟨_,mw e 9998 0 _ _ rfl F,(ak _ _ _ _).2 ⟨_,mw e 9998 1 _ _ rfl F,rfl⟩⟩,rfl⟩
abbrev Au (x:Br):Value:=ZU (bh x)
abbrev aJ (x:Int):Value:=vi x
theorem Kj:oV prog 3 aJ:=by
 refine ⟨λF a b=> ?_,λF e a=> ?_,λa=> ?_,_,underlying3,.inl λa b=> ?_⟩
 ·unfold Op.equal Op.maxDepth;exact GJ 9999 a b F
 ·exact CI e 9999 a F
 ·unfold Instr.sameBits;simp
 ·unfold Instr.sameNow;simp only [if_true];by_cases h:a=b<;>simp [h]
theorem SX:oV prog 124 Au:=by
 refine ⟨λF a b=>GK a b F,λF e a=>SW e a F,λa=> ?_,_,underlying124,.inr λa b=> ?_⟩
 ·show Instr.sameBits (9998+1+1) _ _=ZT;simp [Instr.sameBits]
 ·rfl
abbrev Kk (x:Int×Int×Int):Value:=ZU (dY x)
theorem WN:oV prog 215 Kk:=by
 refine ⟨λF a b=>eq3 a b F,λF e a=>WL e a F,λa=> ?_,_,underlying215,.inr λa b=> ?_⟩
 ·show Instr.sameBits (9998+1+1) _ _=ZT;simp [Instr.sameBits]
 ·rfl
abbrev bV (x:Int×Int):Value:=ZU (wG x)
theorem WO:oV prog 115 bV:=by
 refine ⟨λF a b=>eq2 a b F,λF e a=>WM e a F,λa=> ?_,_,underlying115,.inr λa b=> ?_⟩
 ·show Instr.sameBits (9998+1+1) _ _=ZT;simp [Instr.sameBits]
 ·rfl
theorem WP:bP prog 4=ZO (ZV ZQ):=by kernel_rfl
theorem mtN:gn prog 238 aJ (vi 0):=⟨_,_,underlying238,zr3,Kj⟩
theorem mtB:gn prog 197 Au (vi 0):=⟨_,_,underlying197,zr3,SX⟩
theorem mtK:gn prog 195 Au (.bool ZQ):=⟨_,_,underlying195,WP,SX⟩
theorem mt3:gn prog 213 Kk (vi 0):=⟨_,_,underlying213,zr3,WN⟩
theorem Av {F:PH} {a b:Sl} {x y:List Br} (ha:RdS F a 3 (ba x)) (hb:RdS F b 3 (ba y)) (hl:Fit x.length):
  ν 79 #[a.v,b.v] F λv F'=>v=ZV (decide (x=y))/\F'=F:=by
 have hal:=ha.blen;have hbl:=hb.blen;refine Xa ?_;unfold TO;refine ⟨λh=> ?_,λh=> ?_⟩
 ·refine ⟨?_,rfl⟩;have:¬x=y:=by intro e;subst e;omega
  simp [this]
 ·have hlen:x.length=y.length:=by omega
  refine ⟨λm i F'=>∃k:Nat,i=k/\k<=x.length/\m=x.length - k/\F'=F/\x.take k=y.take k,x.length,⟨0,rfl,by omega,rfl,rfl,rfl⟩,?_⟩;rintro m i F' ⟨k,rfl,hk,rfl,rfl,htake⟩;unfold Hr;refine ⟨λhlt=> ?_,λhge=> ?_⟩
  ·have hkx:k<x.length:=by omega
   have hky:k<y.length:=by omega
   obtain ⟨p,hp,hpr,_⟩:=rdb ha (N6 hkx);obtain ⟨q,hq,hqr,_⟩:=rdb hb (N6 hky);refine ⟨p,hp,by omega,hlt,bh x[k],rfl,by simpa using hpr,q,hq,by omega,by omega,bh y[k],rfl,by simpa using hqr,decide (x[k]=y[k]),λF=>GK x[k] y[k] F,λhne=> ?_,λheq=> ?_⟩
   ·refine ⟨?_,rfl⟩;have:¬x=y:=by rintro rfl;simp at hne
    simp [this]
   ·refine ⟨x.length - (k+1),by omega,k+1,fF (by omega),by omega,rfl,rfl,?_⟩;rw [Ya hkx,Ya hky,htake];simp at heq;rw [heq]
  ·refine ⟨?_,rfl⟩;have hk':k=x.length:=by omega
   rw [hk',XZ,hlen,XZ] at htake;simp [htake]
theorem jY {F:PH} {v w:Γ} {d e:Dia} (hd:DV F v d) (he:DV F w e) (hl:Fit d.1.length):
  ν 31 #[ZU v,ZU w] F λr F'=>r=ZV (decide (d=e))/\F.le F':=by
 obtain ⟨s,rfl,hr⟩:=hd;obtain ⟨t,rfl,ht⟩:=he;refine W4 ?_;unfold Tw;intro b2 hb2;refine atI ?_;have hle2:=ae (ZP #[s.v,vi d.2] 31) hb2;intro b3 hb3;refine atI ?_;have hle3:=ae (ZP #[t.v,vi e.2] 31) hb3;have hle:F.le _:=λb o h=>hle3 b o (hle2 b o h);have hc2:=hle3 _ _ (au F b2 (ZP #[s.v,vi d.2] 31));have hc3:=au (F.set b2 (ZP #[s.v,vi d.2] 31)) b3 (ZP #[t.v,vi e.2] 31);generalize (F.set b2 (ZP #[s.v,vi d.2] 31)).set b3 (ZP #[t.v,vi e.2] 31)=G at*;refine ⟨_,by rw [av hc2];rfl,_,by rw [av hc3];rfl,λh=> ?_,λh=> ?_⟩
 ·refine ⟨s,by rw [av hc2];rfl,t,by rw [av hc3];rfl,?_⟩;refine (Av (hr.le hle) (ht.le hle) hl).mono ?_;rintro _ F' ⟨rfl,rfl⟩;refine ⟨_,rfl,?_,hle⟩;obtain ⟨d1,d2⟩:=d;obtain ⟨e1,e2⟩:=e;simp only at h;simp [h]
 ·refine ⟨?_,hle⟩;have:¬d=e:=by rintro rfl;exact h rfl
  simp [this]
def mpS (S:List Tr) (x:Br):Option ξ:=if x∈brs S then ZO (vi (((brs S).idxOf x+2:Nat):Int)) else ZR
structure BD (F0 F:PH) (b m:Nat) (S:List Tr):Prop where
 le:F0.le F
 cl:Cl S
 nb:F0 b=ZR
 nm:F0 m=ZR
 ex:∃s:Sl,F b=ZO (ZP #[s.v,.map (ZO m)] 199)/\bX F 124 3 s (ba (brs S))/\∀a,s.ZK=ZO a->F0 a.block=ZR
 map:∃o,F m=ZO o/\eM Au (mpS S) o
theorem bX.elem {F:PH} {e size:Nat} {s:Sl} {vs:Ξ} (h:bX F e size s vs) {a:Addr} (ha:s.ZK=ZO a):∃cur,F a.block=ZO (ZP cur e (0,0)):=by
 rcases h with ⟨rfl,rfl⟩|⟨b,cur,h1,h2,_⟩
 ·cases ha
 ·rw [h1] at ha;cases ha;exact ⟨cur,h2⟩
theorem ph (F:PH):ν 172 #[] F λr F'=>∃b m,r=ZZ (ZO ⟨b,0,ZR⟩)/\b≠m/\BD F F' b m []:=by
 refine TL ?_;unfold ND;intro b1 hb1;refine atI ?_;intro b3 hb3;refine atI ?_;have hle1:=ae (.map #[] 0) hb1;have hle3:=ae (ZP #[Z7 ZR 0 0,Value.map (ZO b1)] 199) hb3;have hne:b3≠b1:=λe=>by rw [e,au] at hb3;cases hb3
 refine ⟨b3,b1,rfl,hne,λb o h=>hle3 b o (hle1 b o h),.nil,aV hle1 hb3,hb1,⟨Z3,au _ _ _,.inl ⟨rfl,rfl⟩,λa ha=>by cases ha⟩,_,hle3 _ _ (au _ _ _),?_⟩;have:mpS []=λ_=>ZR:=by funext x;simp [mpS,brs]
 rw [this];exact eM.empty Au
instance (S:List Tr) (t:Tr):Decidable (inn S t):=inferInstanceAs (Decidable (t.isL=ZT\/t∈S))
def fC (S:List Tr) (t:Tr):List Tr:=if inn S t then S else S++[t]
theorem sC {S:List Tr} (hS:Cl S) {v:Nat} {l h:Tr} (hk:v<64/\v<l.top/\v<h.top/\l.ok/\h.ok):fC (vis h (vis l S)) (mk v l h)=vis (mk v l h) S:=by
 obtain ⟨h0,h1,h2,h3,h4⟩:=hk;obtain ⟨a1,a2,X,a3,a4⟩:=bD l S h3 hS;obtain ⟨b1,b2,Y,b3,b4⟩:=bD h (vis l S) h4 a1;unfold mk;split
 ·rename_i e;subst e;rw [gL a2];unfold fC;rw [Χ a2]
 ·rename_i e
  conv=>rhs;unfold vis
  unfold fC;by_cases hm:ZM v l h∈S
  ·have hl:=(hS.inn_kids (.inr hm)).1;have hh:=(hS.inn_kids (.inr hm)).2;rw [Χ hm,gL hl,gL hh,Χ (.inr hm)]
  ·rw [Υ hm,Υ];rintro (hc|hc)
   ·cases hc
   ·rw [b3,a3] at hc;rcases XR.1 hc with hc|hc
    ·rcases XR.1 hc with hc|hc
     ·exact hm hc
     ·have:=a4 _ hc;simp only [sz] at this;omega
    ·have:=b4 _ hc;simp only [sz] at this;omega
theorem uD {α β:Type} [DecidableEq α] [DecidableEq β] (f:α->β) (x:α):∀(l:List α),x∈l->(∀y∈l,f y=f x->y=x)->(l.map f).idxOf (f x)=l.idxOf x
 |[],h,_=>by cases h
 |a::l,h,hi=>by
  simp only [Yf,List.idxOf_cons];by_cases ha:a=x
  ·subst ha;simp
  ·have h1:¬f a=f x:=λe=>ha (hi a (by simp) e);have h2:(a==x)=ZQ:=by simpa using ha
   have h3:(f a==f x)=ZQ:=by simpa using h1
   rw [h2,h3];simp only [cond_false];rw [uD f x l (by simpa [Ne.symm ha] using h) (λy hy=>hi y (by simp [hy]))]
theorem iJ {S:List Tr} (hS:Cl S) {v:Nat} {l h:Tr} (hl:inn S l) (hh:inn S h):br S (ZM v l h)∈brs S↔ZM v l h∈S:=by
 constructor
 ·intro hm;obtain ⟨u,hu,he⟩:=X1.1 hm;obtain ⟨_,v',l',h',rfl,hl',hh'⟩:=hS.mem u hu;simp only [br,Br.mk.injEq] at he;obtain ⟨e1,e2,e3⟩:=he;rw [<- cT hl' hl (by omega),<- cT hh' hh (by omega),<- show v'=v by omega];exact hu
 ·intro hm;exact ZC hm
theorem EF {S:List Tr} (hS:Cl S) {v:Nat} {l h:Tr} (hm:ZM v l h∈S):(brs S).idxOf (br S (ZM v l h))+2=num S (ZM v l h):=by unfold brs;rw [uD _ _ _ hm (λy hy e=>Ir hS hy hm e)];rfl
theorem GL {S:List Tr} (hS:Cl S) {v:Nat} {l h:Tr} (hl:inn S l) (hh:inn S h) (hn:ZM v l h ∉ S):
  mpS (S++[ZM v l h])=λx=>if x=br S (ZM v l h) then ZO (vi (((S.length+2:Nat):Int))) else mpS S x:=by
 have hb:br S (ZM v l h) ∉ brs S:=λhm=>hn ((iJ hS hl hh).1 hm);have hbr:br S (ZM v l h)=⟨(v:Int),(num S l:Int),(num S h:Int)⟩:=rfl;funext x;unfold mpS;rw [eS hS hl hh,<- hbr];by_cases hx:x=br S (ZM v l h)
 ·subst hx;rw [Χ rfl,Χ (by simp),List.idxOf_append,Υ hb];simp [aP]
 ·rw [Υ hx];by_cases hm:x∈brs S
  ·rw [Χ hm,Χ (by simp [hm]),List.idxOf_append,Χ hm]
  ·rw [Υ hm,Υ (by simp [hm,hx])]
section
variable {F0 F:PH} {b m:Nat} {S:List Tr}
theorem yo (hd:BD F0 F b m S) {v:Nat} {l h:Tr} (hl:inn S l) (hh:inn S h) (hv:v<64/\v<l.top/\v<h.top) (hf:Fit (S.length+2)):
  ν 174 #[ZZ (ZO ⟨b,0,ZR⟩),vi v,vi (num S l),vi (num S h)] F λr F'=>r=vi (num (fC S (mk v l h)) (mk v l h))/\BD F0 F' b m (fC S (mk v l h)):=by
 have hd':=hd;obtain ⟨hle,hS,hb0,hm0,⟨s,hb,ho,hs0⟩,ob,hm,hmp⟩:=hd;refine TN ?_;unfold NF;refine ⟨λhe=> ?_,λhe=> ?_⟩
 ·obtain rfl:=cT hl hh (by omega);have e:mk v l l=l:=by simp [mk]
  rw [e];have e2:fC S l=S:=by unfold fC;rw [Χ hl]
  rw [e2];exact ⟨rfl,hd'⟩
 have hlh:l≠h:=λe=>he (by rw [e]);have emk:mk v l h=ZM v l h:=by simp [mk,hlh]
 have hok:(ZM v l h).ok:=⟨hv.1,hv.2.1,hv.2.2,hlh,hS.inn_ok hl,hS.inn_ok hh⟩;rw [emk];intro b9 hb9;refine atI ?_;refine stW (au _ _ _) rfl rfl (mH ⟨v,num S l,num S h⟩) ?_;rw [aW];have hle9:=ae (ZP (bh ⟨v,num S l,num S h⟩) 124) hb9;have h9:=au F b9 (ZP (bh ⟨v,num S l,num S h⟩) 124);have hbr:br S (ZM v l h)=⟨(v:Int),(num S l:Int),(num S h:Int)⟩:=rfl;rw [<- hbr] at h9 hle9;show ∃b0a_:Addr,_;rw [show (#[vi v,vi (num S l),vi (num S h)]:Γ)=bh (br S (ZM v l h)) from rfl];have hb:=hle9 _ _ hb;have hm:=hle9 _ _ hm;have hle1:F0.le (F.set b9 (ZP (bh (br S (ZM v l h))) 124)):=λx o hx=>hle9 x o (hle x o hx);have ne9:∀a,s.ZK=ZO a->a.block≠b9:=λa ha e=>by obtain ⟨cur,hcur⟩:=ho.elem ha;rw [e,hb9] at hcur;cases hcur
 have hbase:∀a,s.ZK=ZO a->(∃cur,(F.set b9 (ZP (bh (br S (ZM v l h))) 124)) a.block=ZO (ZP cur 124 (0,0))):=λa ha=>by obtain ⟨cur,hcur⟩:=ho.elem ha;exact ⟨cur,hle9 _ _ hcur⟩
 replace ho:bX (F.set b9 (ZP (bh (br S (ZM v l h))) 124)) 124 3 s (ba (brs S)):=ho.keep λa ha=>by obtain ⟨cur,hcur⟩:=ho.elem ha;rw [hcur,hle9 _ _ hcur]
 generalize F.set b9 (ZP (bh (br S (ZM v l h))) 124)=F1 at*;refine ⟨_,rfl,ZO m,by simp only [aG];rw [av hb];rfl,bh (br S (ZM v l h)),rfl,ac h9,?_⟩;have hlk:=bL (F:=F1) mtB hm hmp (br S (ZM v l h)) ZT;by_cases hmem:ZM v l h∈S
 ·have hx:=(iJ hS hl hh).2 hmem;have e1:mpS S (br S (ZM v l h))=ZO (vi (num S (ZM v l h))):=by unfold mpS;rw [Χ hx,EF hS hmem]
  rw [e1] at hlk;refine ⟨_,_,hlk,λhc=>(by cases hc),λ_=> ?_⟩;have e2:fC S (ZM v l h)=S:=by unfold fC;rw [Χ (.inr hmem)]
  rw [e2];exact ⟨rfl,hle1,hS,hb0,hm0,⟨s,hb,ho,hs0⟩,ob,hm,hmp⟩
 ·have hx:br S (ZM v l h) ∉ brs S:=λhx=>hmem ((iJ hS hl hh).1 hx);have e1:mpS S (br S (ZM v l h))=ZR:=by unfold mpS;rw [Υ hx]
  rw [e1] at hlk;have e2:fC S (ZM v l h)=S++[ZM v l h]:=by
   unfold fC;rw [Υ];rintro (hc|hc)
   ·cases hc
   ·exact hmem hc
  rw [e2];have hS':Cl (S++[ZM v l h]):=.snoc hS hl hh hok hmem;refine ⟨_,_,hlk,λ_=> ?_,λhc=>(by cases hc)⟩;refine ⟨s,by rw [av hb];rfl,bh (br S (ZM v l h)),rfl,ac h9,rfl,λb37 hb37=> ?_⟩;refine atI ?_;have hle37:=ae (ZP (bh (br S (ZM v l h))) 124) hb37;have h37:=au F1 b37 (ZP (bh (br S (ZM v l h))) 124);have hb:=hle37 _ _ hb;have hm:=hle37 _ _ hm;have h9:=hle37 _ _ h9;have hle2:F0.le (F1.set b37 (ZP (bh (br S (ZM v l h))) 124)):=λx o hx=>hle37 x o (hle1 x o hx);replace ho:bX (F1.set b37 (ZP (bh (br S (ZM v l h))) 124)) 124 3 s (ba (brs S)):=ho.keep λa ha=>by obtain ⟨cur,hcur⟩:=hbase a ha;rw [hcur,hle37 _ _ hcur]
  generalize F1.set b37 (ZP (bh (br S (ZM v l h))) 124)=F2 at*;have hlen:=ho.rd.blen;rw [aP] at hlen;refine iU underlying29 yU yV rfl (by decide) hle2 ho hs0 (x:=⟨ZO ⟨b37,0,ZR⟩,1,1⟩) (news:=dx (br S (ZM v l h))) (RdS.new h37 rfl rfl (XS _)) (λx hx=>im [br S (ZM v l h)] x (by simpa [ba] using hx)) (by simp only [hlen];omega) (by simp only [hlen];omega) ?_;intro s' F3 hle3 ho3 hlen3 hs3 hk3 hfr3;have neB:∀a,s.ZK=ZO a->a.block≠b:=λa ha e=>by obtain ⟨cur,hcur⟩:=ho.elem ha;rw [e,hb] at hcur;cases hcur
  have neM:∀a,s.ZK=ZO a->a.block≠m:=λa ha e=>by obtain ⟨cur,hcur⟩:=ho.elem ha;obtain ⟨es,c,L,rfl,_⟩:=hmp;rw [e,hm] at hcur;cases hcur
  have hb:=hk3 _ _ hb (λ⟨a,ha,e⟩=>neB a ha e);have hm:=hk3 _ _ hm (λ⟨a,ha,e⟩=>neM a ha e);have h9:=hk3 _ _ h9 (λ⟨a,ha,e⟩=>ne9 a ha e);refine ⟨s',rfl,?_⟩;refine st1 hb (by simp) ?_;have hbm:b≠m:=λe=>by obtain ⟨es,c,L,rfl,_⟩:=hmp;rw [e,hm] at hb;cases hb
  have h9b:b9≠b:=λe=>by rw [e,hb] at h9;cases h9
  have hsb:∀a,s'.ZK=ZO a->a.block≠b/\a.block≠m:=λa ha=>by
   obtain ⟨cur,hcur⟩:=ho3.elem ha;refine ⟨λe=> ?_,λe=> ?_⟩
   ·rw [e,hb] at hcur;cases hcur
   ·obtain ⟨es,c,L,rfl,_⟩:=hmp;rw [e,hm] at hcur;cases hcur
  have hle4:F0.le (F3.set b (ZP (#[s'.v,Value.map (ZO m)]:Γ) 199)):=aA hle3 hb0;have hb4:=au F3 b (ZP (#[s'.v,Value.map (ZO m)]:Γ) 199);have hm4:(F3.set b (ZP (#[s'.v,Value.map (ZO m)]:Γ) 199)) m=ZO ob:=by rw [aB _ _ hbm.symm];exact hm
  have h94:(F3.set b (ZP (#[s'.v,Value.map (ZO m)]:Γ) 199)) b9=ZO (ZP (bh (br S (ZM v l h))) 124):=by rw [aB _ _ h9b];exact h9
  have ho4:bX (F3.set b (ZP (#[s'.v,Value.map (ZO m)]:Γ) 199)) 124 3 s' (ba (brs S)++dx (br S (ZM v l h))):=ho3.keep λa ha=>aB _ _ (hsb a ha).1;rw [show (#[s.v,Value.map (ZO m)].setIfInBounds 0 s'.v:Γ)= #[s'.v,Value.map (ZO m)] from rfl];generalize F3.set b (ZP (#[s'.v,Value.map (ZO m)]:Γ) 199)=F4 at*;have hlen4:s'.len=S.length+1:=by rw [hlen3,hlen]
  refine ⟨s',by rw [av hb4];rfl,ZO m,by simp only [aG];rw [av hb4];rfl,bh (br S (ZM v l h)),rfl,ac h94,?_⟩;refine aX mtB hm4 hmp (br S (ZM v l h)) _ λo' ho'=> ?_;have hw:i64.wrap ((s'.len:Int)+1)=((S.length+2:Nat):Int):=by rw [hlen4,aR (by omega)];omega
  rw [hw] at ho' ⊢;refine ⟨?_,aA hle4 hm0,hS',hb0,hm0,⟨s',by rw [aB _ _ hbm];exact hb4,?_,hs3⟩,o',au _ _ _,by rw [GL hS hl hh hmem];exact ho'⟩
  ·have hl2:=eG hS' (k:=S.length) (t:=ZM v l h) (by simp);rw [hl2]
  ·have e3:ba (brs (S++[ZM v l h]))=ba (brs S)++dx (br S (ZM v l h)):=by rw [eS hS hl hh,<- hbr,eP];simp [ba]
   rw [e3];exact ho4.keep λa ha=>aB _ _ (hsb a ha).2
end
theorem dO {α:Type} [DecidableEq α]:∀(l m:List α),l.Nodup->(∀x∈l,x∈m)->l.length<=m.length
 |[],_,_,_=>Zj _
 |a::l,m,hn,hs=>by rw [YL] at hn;have ha:=hs a (by simp);have h:=dO l (m.erase a) hn.2 (λx hx=>(List.mem_erase_of_ne (by rintro rfl;exact hn.1 hx)).2 (hs x (by simp [hx])));rw [List.length_erase_of_mem ha] at h;have:=List.length_pos_of_mem ha;simp only [X4];omega
theorem GM:aE prog 190=ZT:=by kernel_rfl
def nmS (S0 S:List Tr) (n:Int):Option ξ:=
 if 0<=n/\n<=(S0.length:Int)+1/\inn S (tr S0 n.toNat) then ZO (vi (num S (tr S0 n.toNat):Int)) else ZR
theorem pZ {S0 S:List Tr} (h0:Cl S0) {t:Tr} (ht:inn S0 t) (hi:inn S t):nmS S0 S (num S0 t)=ZO (vi (num S t)):=by have h1:=ff ht;unfold nmS;rw [N5,oa h0 ht,Χ ⟨by omega,by omega,hi⟩]
theorem GN {S0 S:List Tr} (h0:Cl S0) {t:Tr} (ht:inn S0 t) (hi:¬inn S t):nmS S0 S (num S0 t)=ZR:=by unfold nmS;rw [N5,oa h0 ht,Υ (λh=>hi h.2.2)]
theorem GO {S0 S:List Tr} (h0:Cl S0) (_:Cl S) {t:Tr} (ht:inn S0 t) (hS':Cl (S++[t])):
  nmS S0 (S++[t])=λn=>if n=(num S0 t:Int) then ZO (vi (((S.length+2:Nat)):Int)) else nmS S0 S n:=by
 funext n;by_cases hn:n=(num S0 t:Int)
 ·subst hn;rw [Χ rfl,pZ h0 ht (.inr (by simp)),eG hS' (k:=S.length) (by simp)]
 ·rw [Υ hn];unfold nmS;by_cases hr:0<=n/\n<=(S0.length:Int)+1
  ·have hne:tr S0 n.toNat≠t:=λe=>by have:=gq h0 (n:=n.toNat) (by omega);rw [e] at this;omega
   by_cases hi:inn S (tr S0 n.toNat)
   ·rw [Χ ⟨hr.1,hr.2,cd hi⟩,Χ ⟨hr.1,hr.2,hi⟩,bT hi]
   ·rw [Υ,Υ (λh=>hi h.2.2)];rintro ⟨_,_,h|h⟩
    ·exact hi (.inl h)
    ·rcases XR.1 h with h|h
     ·exact hi (.inr h)
     ·exact hne (XO.1 h)
  ·rw [Υ (λh=>hr ⟨h.1,h.2.1⟩),Υ (λh=>hr ⟨h.1,h.2.1⟩)]
theorem Kl {S0:List Tr} (h0:Cl S0):nmS S0 []=λn=>if n=1 then ZO (vi 1) else if n=0 then ZO (vi 0) else ZR:=by
 funext n;unfold nmS;by_cases h1:n=1
 ·subst h1;have e:tr S0 (ZY 1)=ZL ZT:=rfl;rw [Χ rfl,e,Χ ⟨by omega,by omega,gp _ _⟩];rfl
 ·rw [Υ h1];by_cases h2:n=0
  ·subst h2;have e:tr S0 (ZY 0)=ZL ZQ:=rfl;rw [Χ rfl,e,Χ ⟨by omega,by omega,gp _ _⟩];rfl
  ·rw [Υ h2,Υ];rintro ⟨a,b,c|c⟩
   ·have h3:inn S0 (tr S0 n.toNat):=gT (by omega);have h4:=gq h0 (n:=n.toNat) (by omega);generalize tr S0 n.toNat=t at*;cases t with
    |ZL x=>have:=dJ S0 x;omega
    |ZM _ _ _=>cases c
   ·cases c
structure VE (F0:PH) (b6 b2 b7 b5 M b:Nat) (ns:Sl) (S0:List Tr):Prop where
 c6:F0.cell ⟨b6,0,ZR⟩=ZO (.map (ZO M))
 c2:F0.cell ⟨b2,0,ZR⟩=ZO (ZZ (ZO ⟨b,0,ZR⟩))
 c7:F0.cell ⟨b7,0,ZR⟩=ZO (.func (.func 190) #[] #[ZZ (ZO ⟨b6,0,ZR⟩),ZZ (ZO ⟨b2,0,ZR⟩),ZZ (ZO ⟨b7,0,ZR⟩),ZZ (ZO ⟨b5,0,ZR⟩)])
 cb:F0.cell ⟨b,0,ZR⟩=ZO ns.v
 rd:RdS F0 ns 3 (ba (brs S0))
theorem VE.le {F0 G:PH} {b6 b2 b7 b5 M b:Nat} {ns:Sl} {S0:List Tr} (h:VE F0 b6 b2 b7 b5 M b ns S0) (hl:F0.le G):VE G b6 b2 b7 b5 M b ns S0:=
 ⟨aK hl h.c6,aK hl h.c2,aK hl h.c7,aK hl h.cb,h.rd.le hl⟩
structure VS (F0 F:PH) (b5 M:Nat) (S0 S:List Tr):Prop where
 le:F0.le F
 cl:Cl S
 sub:∀x∈S,x∈S0
 n5:F0 b5=ZR
 nM:F0 M=ZR
 ex:∃(s:Sl),F b5=ZO (ZP #[s.v,vi 0] 31)/\bX F 124 3 s (ba (brs S))/\∀a,s.ZK=ZO a->F0 a.block=ZR
 map:∃o,F M=ZO o/\eM aJ (nmS S0 S) o
theorem bX.upto {F G:PH} {e size:Nat} {s:Sl} {vs:Ξ} (h:bX F e size s vs) (hl:F.le G):bX G e size s vs:=by
 rcases h with h|⟨b,cur,h1,h2,h3⟩
 ·exact .inl h
 ·exact .inr ⟨b,cur,h1,hl _ _ h2,h3⟩
theorem Aw {b6 b2 b7 b5 M b:Nat} {ns:Sl} {S0:List Tr} (h0:Cl S0) (hf:Fit (S0.length+4)):∀(t:Tr),inn S0 t->∀(F0 F:PH) (S:List Tr),VE F0 b6 b2 b7 b5 M b ns S0->VS F0 F b5 M S0 S->
  ν 190 #[vi (num S0 t),ZZ (ZO ⟨b6,0,ZR⟩),ZZ (ZO ⟨b2,0,ZR⟩),ZZ (ZO ⟨b7,0,ZR⟩),ZZ (ZO ⟨b5,0,ZR⟩)] F
   λr F'=>r=vi (num (vis t S) t)/\VS F0 F' b5 M S0 (vis t S):=by
 intro t;induction t with
 |ZL x=>intro ht F0 F S he hs;have hs':=hs;obtain ⟨hle,hS,hsub,hn5,hnM,⟨s,h5,ho,hsb⟩,o,hM,hmo⟩:=hs;refine NG ?_;unfold Hq;have hlk:=bL (F:=F) mtN hM hmo (num S0 (ZL x)) ZT;rw [pZ h0 ht (gp _ _)] at hlk;exact ⟨_,rfl,_,aK hle he.c6,_,_,hlk,λ_=>⟨rfl,hs'⟩,λhc=>by cases hc⟩
 |ZM v l h ihl ihh=>
  intro ht F0 F S he hs;have hs':=hs;obtain ⟨hle,hS,hsub,hn5,hnM,⟨s,h5,ho,hsb⟩,o,hM,hmo⟩:=hs;have htm:=cS ht rfl;obtain ⟨hil,hih⟩:=h0.inn_kids ht;have hok:=h0.inn_ok ht;refine NG ?_;unfold Hq;have hlk:=bL (F:=F) mtN hM hmo (num S0 (ZM v l h)) ZT;by_cases hin:ZM v l h∈S
  ·rw [pZ h0 ht (.inr hin)] at hlk;have e:vis (ZM v l h) S=S:=gL (.inr hin);rw [e];exact ⟨_,rfl,_,aK hle he.c6,_,_,hlk,λ_=>⟨rfl,hs'⟩,λhc=>by cases hc⟩
  ·have hnin:¬inn S (ZM v l h):=by
    rintro (hc|hc)
    ·cases hc
    ·exact hin hc
   rw [GN h0 ht hnin] at hlk;have hw:=uH (n:=num S0 (ZM v l h)) (by have:=ff ht;omega) (eF rfl);have hnl:=ff ht;have hng:=eF (S:=S0) (t:=ZM v l h) rfl;obtain ⟨a,ha,hrow,_⟩:=rdb (he.rd.le hle) (qE (f8 htm rfl));have hns:=he.rd.blen;rw [aP] at hns;refine ⟨_,rfl,_,aK hle he.c6,_,_,hlk,λhc=>(by cases hc),λ_=> ?_⟩;refine ⟨_,rfl,_,aK hle he.c2,_,rfl,ns,aK hle he.cb,a,ha,by rw [hw];omega,by rw [hw];omega,bh (br S0 (ZM v l h)),rfl,by rw [hw];exact hrow,?_⟩;intro b9 hb9;refine atI ?_;refine stW (au _ _ _) rfl rfl (mH _) ?_;rw [aW];have h90:F0 b9=ZR:=aV hle hb9;have he9:VE (F0.set b9 (ZP (bh (br S0 (ZM v l h))) 124)) b6 b2 b7 b5 M b ns S0:=he.le (ae _ h90);have ne95:b5≠b9:=aI hb9 h5;have ne9M:M≠b9:=aI hb9 hM;have hle9:(F0.set b9 (ZP (bh (br S0 (ZM v l h))) 124)).le (F.set b9 (ZP (bh (br S0 (ZM v l h))) 124)):=λx ob hx=>by
    by_cases hxb:x=b9
    ·subst hxb;rw [au] at hx ⊢;exact hx
    ·rw [aB _ _ hxb] at hx ⊢;exact hle _ _ hx
   have hs9:VS (F0.set b9 (ZP (bh (br S0 (ZM v l h))) 124)) (F.set b9 (ZP (bh (br S0 (ZM v l h))) 124)) b5 M S0 S:=by refine ⟨hle9,hS,hsub,by rw [aB _ _ ne95];exact hn5,by rw [aB _ _ ne9M];exact hnM,⟨s,by rw [aB _ _ ne95];exact h5,ho.upto (ae _ hb9),λa ha=> ?_⟩,o,by rw [aB _ _ ne9M];exact hM,hmo⟩;obtain ⟨cur,hcur⟩:=ho.elem ha;rw [aB _ _ (aI hb9 hcur)];exact hsb a ha
   have hle0:F0.le (F0.set b9 (ZP (bh (br S0 (ZM v l h))) 124)):=ae _ h90;have hc9:(F0.set b9 (ZP (bh (br S0 (ZM v l h))) 124)) b9=ZO (ZP (bh (br S0 (ZM v l h))) 124):=au _ _ _;generalize F0.set b9 (ZP (bh (br S0 (ZM v l h))) 124)=G0 at*;generalize F.set b9 (ZP (bh (br S0 (ZM v l h))) 124)=F1 at*;refine ⟨_,rfl,_,aK hs9.le he9.c7,_,by rw [av (hs9.le _ _ hc9)];rfl,_,_,_,rfl,GM,?_⟩;refine (ihl hil G0 F1 S he9 hs9).mono ?_;rintro _ F2 ⟨rfl,hs2⟩;refine ⟨_,rfl,_,aK hs2.le he9.c7,_,by rw [av (hs2.le _ _ hc9)];rfl,_,_,_,rfl,GM,?_⟩;refine (ihh hih G0 F2 _ he9 hs2).mono ?_;rintro _ F3 ⟨rfl,hs3⟩;have hs3':=hs3;obtain ⟨hle3,hS3,hsub3,hn53,hnM3,⟨s3,h53,ho3,hsb3⟩,o3,hM3,hmo3⟩:=hs3;obtain ⟨fl1,fl2,X,fl3,fl4⟩:=bD l S hok.2.2.2.2.1 hS;obtain ⟨fh1,fh2,Y,fh3,fh4⟩:=bD h (vis l S) hok.2.2.2.2.2 fl1;have hnl':num (vis l S) l=num (vis h (vis l S)) l:=by rw [fh3,bT fl2]
   have evis:vis (ZM v l h) S=vis h (vis l S)++[ZM v l h]:=by
    conv=>lhs;unfold vis
    rw [Υ hin]
   obtain ⟨hSv,_,_⟩:=bD (ZM v l h) S hok hS;rw [evis] at hSv ⊢;rw [hnl'];have hil3:inn (vis h (vis l S)) l:=by rw [fh3];exact cd fl2
   generalize vis h (vis l S)=T at*;refine ⟨_,rfl,_,rfl,s3,by rw [av h53];rfl,_,by rw [av (hle3 _ _ hc9)];rfl,rfl,λb43 hb43=> ?_⟩;refine atI ?_;have hb430:G0 b43=ZR:=aV hle3 hb43;have hTl:T.length<=S0.length:=dO T S0 hS3.nodup hsub3;have hlen:=ho3.rd.blen;rw [aP] at hlen;have ex:(#[vi (v:Int),vi (num T l:Int),vi (num T h:Int)]:Γ)=bh ⟨(v:Int),(num T l:Int),(num T h:Int)⟩:=rfl;have hle43:=ae (ZP (bh ⟨(v:Int),(num T l:Int),(num T h:Int)⟩) 124) hb43;have h43:=au F3 b43 (ZP (bh ⟨(v:Int),(num T l:Int),(num T h:Int)⟩) 124);show aH prog _ (F3.set b43 (ZP (bh ⟨(v:Int),(num T l:Int),(num T h:Int)⟩) 124)) _;replace hle3:G0.le (F3.set b43 (ZP (bh ⟨(v:Int),(num T l:Int),(num T h:Int)⟩) 124)):=λx ob hx=>hle43 _ _ (hle3 _ _ hx);have ho3:=ho3.upto hle43;have h53:=hle43 _ _ h53;have hM3:=hle43 _ _ hM3;generalize F3.set b43 (ZP (bh ⟨(v:Int),(num T l:Int),(num T h:Int)⟩) 124)=F4 at*;refine iU underlying29 yU yV rfl (by decide) hle3 ho3 hsb3 (x:=⟨ZO ⟨b43,0,ZR⟩,1,1⟩) (news:=dx ⟨(v:Int),(num T l:Int),(num T h:Int)⟩) (RdS.new h43 rfl rfl (XS _))
    (λx hx=>im [⟨(v:Int),(num T l:Int),(num T h:Int)⟩] x (by simpa [ba] using hx)) (by simp only [hlen];omega) (by simp only [hlen];omega) ?_
   intro s5 F5 hle5 ho5 hlen5 hsb5 hk5 _;have ne5:∀a,s3.ZK=ZO a->a.block≠b5:=λa ha e=>by obtain ⟨cur,hcur⟩:=ho3.elem ha;rw [e,h53] at hcur;cases hcur
   have neM:∀a,s3.ZK=ZO a->a.block≠M:=λa ha e=>by obtain ⟨cur,hcur⟩:=ho3.elem ha;obtain ⟨es,c,L,rfl,_⟩:=hmo3;rw [e,hM3] at hcur;cases hcur
   have h53:=hk5 _ _ h53 (λ⟨a,ha,e⟩=>ne5 a ha e);have hM3:=hk5 _ _ hM3 (λ⟨a,ha,e⟩=>neM a ha e);have n5M:b5≠M:=λe=>by obtain ⟨es,c,L,rfl,_⟩:=hmo3;rw [e,hM3] at h53;cases h53
   have hsb6:∀a,s5.ZK=ZO a->a.block≠b5/\a.block≠M:=λa ha=>by
    obtain ⟨cur,hcur⟩:=ho5.elem ha;refine ⟨λe=> ?_,λe=> ?_⟩
    ·rw [e,h53] at hcur;cases hcur
    ·obtain ⟨es,c,L,rfl,_⟩:=hmo3;rw [e,hM3] at hcur;cases hcur
   refine ⟨s5,rfl,?_⟩;refine st1 h53 (by simp) ?_;rw [show (#[s3.v,vi 0].setIfInBounds 0 s5.v:Γ)= #[s5.v,vi 0] from rfl];have hle6:G0.le (F5.set b5 (ZP #[s5.v,vi 0] 31)):=aA hle5 hn53;have h56:=au F5 b5 (ZP #[s5.v,vi 0] 31);have hM6:(F5.set b5 (ZP #[s5.v,vi 0] 31)) M=ZO o3:=by rw [aB _ _ n5M.symm];exact hM3
   have ho6:bX (F5.set b5 (ZP #[s5.v,vi 0] 31)) 124 3 s5 _:=ho5.keep λa ha=>aB _ _ (hsb6 a ha).1;generalize F5.set b5 (ZP #[s5.v,vi 0] 31)=F6 at*;have hlen6:s5.len=T.length+1:=by rw [hlen5,hlen]
   have hw6:i64.wrap ((s5.len:Int)+1)=((T.length+2:Nat):Int):=by rw [hlen6,aR (by omega)];omega
   refine ⟨_,aK hle6 he9.c6,s5,by rw [av h56];rfl,?_⟩;dsimp only;rw [hw6];refine aX mtN hM6 hmo3 (num S0 (ZM v l h):Int) _ λo' ho'=> ?_;rw [<- GO h0 hS3 ht hSv] at ho';have hle7:G0.le (F6.set M o'):=aA hle6 hnM3;have hlk7:=bL (F:=F6.set M o') mtN (au F6 M o') ho' (num S0 (ZM v l h)) ZQ;rw [pZ h0 ht (.inr (by simp))] at hlk7;refine ⟨_,aK hle7 he9.c6,_,hlk7,rfl,λx ob hx=>hle7 _ _ (hle0 _ _ hx),hSv,λx hx=> ?_,hn5,hnM,⟨s5,by rw [aB _ _ n5M];exact h56,?_,λa ha=>aV hle0 (hsb5 a ha)⟩,o',au _ _ _,ho'⟩
   ·rcases XR.1 hx with hx|hx
    ·exact hsub3 x hx
    ·rw [XO.1 hx];exact htm
   ·have e3:ba (brs (T++[ZM v l h]))=ba (brs T)++dx ⟨(v:Int),(num T l:Int),(num T h:Int)⟩:=by rw [eS hS3 hil3 fh2,eP];simp [ba]
    rw [e3];exact ho6.keep λa ha=>aB _ _ (hsb6 a ha).2
def nS (F:PH) (a b:Nat):PH:=λx=>if x=a\/x=b then ZR else F x
theorem Km (F:PH) (a b:Nat):(nS F a b).le F:=λx o h=>by
 unfold nS at h;split at h
 ·cases h
 ·exact h
theorem mz {F:PH} {a b x:Nat} (h1:x≠a) (h2:x≠b):nS F a b x=F x:=by simp [nS,h1,h2]
theorem OX (F:PH) (a b:Nat):nS F a b a=ZR:=by simp [nS]
theorem OY (F:PH) (a b:Nat):nS F a b b=ZR:=by simp [nS]
theorem Kn {F G:PH} {a b:Nat} (h:F.le G) (ha:F a=ZR) (hb:F b=ZR):F.le (nS G a b):=λx o hx=>by
 have h1:x≠a:=λe=>by rw [e,ha] at hx;cases hx
 have h2:x≠b:=λe=>by rw [e,hb] at hx;cases hx
 rw [mz h1 h2];exact h _ _ hx
theorem PH.le.trans {F G H:PH} (h:F.le G) (k:G.le H):F.le H:=λb o hx=>k _ _ (h _ _ hx)
section
variable {F:PH} {b:Nat} {ns:Sl} {S0:List Tr} {t:Tr}
theorem mA (hb:F.cell ⟨b,0,ZR⟩=ZO ns.v) (hr:RdS F ns 3 (ba (brs S0))) (h0:Cl S0) (ht:inn S0 t) (hf:Fit (S0.length+4)):
  ν 159 #[ZZ (ZO ⟨b,0,ZR⟩),vi (num S0 t)] F λr F'=>∃v,r=ZU v/\DV F' v (dia t)/\F.le F':=by
 have hok:=h0.inn_ok ht;refine TK ?_;unfold NC;intro b2 hb2;refine atI ?_;have l2:=ae (ZP #[ZZ (ZO ⟨b,0,ZR⟩)] 196) hb2;have h2:=au F b2 (ZP #[ZZ (ZO ⟨b,0,ZR⟩)] 196);generalize F.set b2 (ZP #[ZZ (ZO ⟨b,0,ZR⟩)] 196)=F2 at*;intro b4 hb4;refine atI ?_;have l4:=ae (ZP zD 31) hb4;have h4:=au F2 b4 (ZP zD 31);have h2:=l4 _ _ h2;have f4:F b4=ZR:=aV l2 hb4;have l4:=l2.trans l4;generalize F2.set b4 (ZP zD 31)=F4 at*;intro b5 hb5;refine atI ?_;have n25:b2≠b5:=aI hb5 h2;have n45:b4≠b5:=aI hb5 h4;refine stW (au _ _ _) rfl rfl (λx hx=> ?_) ?_
 ·simp only [XP,YP,or_false] at hx;rcases hx with rfl|rfl
  ·exact Im (x:=Z3)
  ·exact jJ
 rw [aW];have l5:=ae (ZP zD 31) hb5;have h5:=au F4 b5 (ZP zD 31);have h2:=l5 _ _ h2;have h4:=l5 _ _ h4;have f5:F b5=ZR:=aV l4 hb5;have l5:=l4.trans l5;generalize F4.set b5 (ZP zD 31)=F5 at*;intro b9 hb9;refine atI ?_;have f9:F b9=ZR:=aV l5 hb9;have n92:b2≠b9:=aI hb9 h2;have n94:b4≠b9:=aI hb9 h4;have n95:b5≠b9:=aI hb9 h5;refine aX mtN (au _ _ _) (eM.empty aJ) 0 (vi 0) λo1 ho1=> ?_;rw [aW];refine aX mtN (au _ _ _) ho1 1 (vi 1) λo2 ho2=> ?_;rw [aW];have hn:nmS S0 []=(λk'=>if k'=1 then ZO (vi 1) else if k'=0 then ZO (vi 0) else ZR):=Kl h0;rw [<- hn] at ho2;have l9:F.le (F5.set b9 o2):=l5.trans (ae o2 hb9);have h9:=au F5 b9 o2;have h2:=ae o2 hb9 _ _ h2;have h4:=ae o2 hb9 _ _ h4;have h5:=ae o2 hb9 _ _ h5;generalize F5.set b9 o2=F9 at*;intro b6 hb6;refine atI ?_;refine st1 (au _ _ _) (by simp) ?_;rw [aW,show (#[Value.map ZR].setIfInBounds 0 (Value.map (ZO b9)):Γ)= #[Value.map (ZO b9)] from rfl];have n65:b6≠b5:=(aI hb6 h5).symm;have n69:b6≠b9:=(aI hb6 h9).symm;have hx:=ae (ZP #[Value.map (ZO b9)] 238) hb6;have h6:=au F9 b6 (ZP #[Value.map (ZO b9)] 238);have l6:F.le (F9.set b6 (ZP #[Value.map (ZO b9)] 238)):=l9.trans hx;have h2:=hx _ _ h2;have h4:=hx _ _ h4;have h5:=hx _ _ h5;have h9:=hx _ _ h9;clear hx;generalize F9.set b6 (ZP #[Value.map (ZO b9)] 238)=F6 at*;intro b7 hb7;refine atI ?_;refine st1 (au _ _ _) (by simp) ?_;rw [aW];generalize hfv:(Value.func (.func 190) #[] #[(ZZ (ZO (ZX b6 0 ZR))),(ZZ (ZO (ZX b2 0 ZR))),(ZZ (ZO (ZX b7 0 ZR))),(ZZ (ZO (ZX b5 0 ZR)))])=fv;rw [show (#[Value.nilFunc].setIfInBounds (ZX b7 0 ZR).off fv:Γ)= #[fv] from rfl];have n75:b7≠b5:=(aI hb7 h5).symm;have n79:b7≠b9:=(aI hb7 h9).symm;have hx:=ae (ZP #[fv] 225) hb7;have h7:=au F6 b7 (ZP #[fv] 225);have l7:F.le (F6.set b7 (ZP #[fv] 225)):=l6.trans hx;have h2:=hx _ _ h2;have h4:=hx _ _ h4;have h5:=hx _ _ h5;have h9:=hx _ _ h9;have h6:=hx _ _ h6;clear hx;generalize F6.set b7 (ZP #[fv] 225)=F7 at*;have lF:F.le (nS F7 b5 b9):=Kn l7 f5 f9;have g4:(nS F7 b5 b9) b4=_:=(mz n45 n94).trans h4;have he:VE (nS F7 b5 b9) b6 b2 b7 b5 b9 b ns S0:=by
  refine ⟨?_,?_,?_,aK lF hb,hr.le lF⟩
  ·rw [av ((mz n65 n69).trans h6)];rfl
  ·rw [av ((mz n25 n92).trans h2)];rfl
  ·rw [av ((mz n75 n79).trans h7),<- hfv];rfl
 have hs:VS (nS F7 b5 b9) F7 b5 b9 S0 []:=by refine ⟨Km _ _ _,.nil,λx hx=>(by cases hx),OX _ _ _,OY _ _ _,⟨Z3,h5,.inl ⟨rfl,rfl⟩,λa ha=>by cases ha⟩,o2,h9,ho2⟩
 refine ⟨_,by rw [av h7];rfl,_,_,_,hfv.symm,GM,?_⟩;refine (Aw h0 hf t ht _ _ _ he hs).mono ?_;rintro _ G ⟨rfl,hs'⟩;refine ⟨_,rfl,?_⟩;obtain ⟨gle,gcl,_,_,_,⟨s,g5,go,gs⟩,_⟩:=hs';have ev:vis t []=bo t:=rfl;rw [ev] at*;refine st1 g5 (by simp) ?_;rw [show (#[s.v,vi 0].setIfInBounds 1 (vi (num (bo t) t)):Γ)= #[s.v,vi (num (bo t) t)] from rfl];refine ⟨#[s.v,vi (num (bo t) t)],rfl,ac (au _ _ _),?_⟩;have k4:(G.set b5 (ZP #[s.v,vi (num (bo t) t)] 31)) b4=ZO (ZP zD 31):=by rw [aB _ _ n45];exact gle _ _ g4
 refine stW k4 rfl rfl (λx hx=> ?_) ?_
 ·simp only [XP,YP,or_false] at hx;rcases hx with rfl|rfl
  ·exact Im
  ·exact jJ
 refine ⟨#[s.v,vi (num (bo t) t)],rfl,ac (au _ _ _),_,rfl,⟨s,rfl,?_⟩,?_⟩
 ·have hsb:∀a,s.ZK=ZO a->a.block≠b5/\a.block≠b4:=λa ha=>by
   obtain ⟨cur,hcur⟩:=go.elem ha;refine ⟨λe=> ?_,λe=> ?_⟩
   ·rw [e,g5] at hcur;cases hcur
   ·rw [e,gle _ _ g4] at hcur;cases hcur
  exact (go.keep λa ha=>by rw [aB _ _ (hsb a ha).2,aB _ _ (hsb a ha).1]).rd
 ·exact aA (aA (lF.trans gle) f5) f4
end
def jb (d:Dia):Prop:=∃t:Tr,t.ok/\d=dia t
open Classical in
def chk (d:Dia):Int:=if 4096<d.1.length then 2 else if jb d then 0 else 20
def yp (S:List Tr) (b:Br):Prop:=∃(v:Nat) (l h:Tr),b=⟨(v:Int),(num S l:Int),(num S h:Int)⟩/\inn S l/\inn S h/\(ZM v l h).ok/\ZM v l h ∉ S
theorem GP {T:List Tr} (hT:Cl T):∀k,k<T.length->Cl (T.take k)/\∃v l h,T[k]? =ZO (ZM v l h)/\inn (T.take k) l/\inn (T.take k) h/\(ZM v l h).ok/\ZM v l h ∉ T.take k:=by
 induction hT with
 |nil=>intro k hk;simp at hk
 | @snoc S v l h hS hl hh hok hn ih=>
  intro k hk;by_cases hks:k<S.length
  ·obtain ⟨h1,v',l',h',h2,h3,h4,h5,h6⟩:=ih k hks;rw [Yb (by omega)];exact ⟨h1,v',l',h',by rw [X0 hks];exact h2,h3,h4,h5,h6⟩
  ·have e:k=S.length:=by simp at hk;omega
   subst e;rw [List.take_left' rfl];exact ⟨hS,v,l,h,by simp,hl,hh,hok,hn⟩
theorem yq {T:List Tr} {k:Nat} {t:Tr} (h:inn (T.take k) t):num T t=num (T.take k) t:=by have:=bT (X:=T.drop k) h;rw [Zq] at this;exact this
theorem GQ {T:List Tr} (hT:Cl T) (k:Nat):brs (T.take k)=(brs T).take k:=by
 by_cases hk:k<T.length
 ·have h:=tq (X:=T.drop k) (GP hT k hk).1;rw [Zq] at h;rw [h,List.take_left' (by rw [aP,XX];omega)]
 ·rw [XY (by omega),XY (by rw [aP];omega)]
theorem wH {S0:List Tr} (h0:Cl S0):∀(t:Tr) (S:List Tr),inn S0 t->(∀x∈S,x∈S0)->∀x∈vis t S,x∈S0
 |ZL _,_,_,hs=>hs
 |ZM v l h,S,ht,hs=>by
  obtain ⟨hl,hh⟩:=h0.inn_kids ht;unfold vis;split
  ·exact hs
  ·intro x hx;rcases XR.1 hx with hx|hx
   ·exact wH h0 h _ hh (wH h0 l S hl hs) x hx
   ·rw [XO.1 hx];exact cS ht rfl
theorem Ko {S0:List Tr} (h0:Cl S0) {t:Tr} (ht:inn S0 t):(bo t).length<=S0.length:=
 dO _ _ (bI (h0.inn_ok ht)).nodup (wH h0 t [] ht (λx hx=>by cases hx))
theorem kH {d:Dia} (hv:jb d) {S:List Tr} (hS:Cl S) {k:Nat} (hk:S.length=k) (hkd:k<d.1.length) (hb:brs S=d.1.take k):yp S d.1[k]:=by
 obtain ⟨t,ht,rfl⟩:=hv;have hT:=bI ht;have hl:k<(bo t).length:=by simpa [dia,aP] using hkd
 obtain ⟨h1,v,l,h,h2,h3,h4,h5,h6⟩:=GP hT k hl;have e:S=(bo t).take k:=qF hS h1 (by rw [hb,GQ hT];rfl);subst e;refine ⟨v,l,h,?_,h3,h4,h5,h6⟩;have hg:=qE h2;have e2:(brs (bo t))[k]? =ZO (dia t).1[k]:=N6 (by simpa [dia] using hkd);rw [e2] at hg;rw [Yh hg];simp only [br];rw [yq h3,yq h4]
theorem cu {S:List Tr} (hS:Cl S) {b:Br} (h:yp S b):0<=b.v/\b.v<=63/\0<=b.l/\0<=b.h/\b.l<=S.length+1/\b.h<=S.length+1/\b.l≠b.h/\b ∉ brs S/\
  b.v<(tr S b.l.toNat).top/\b.v<(tr S b.h.toNat).top:=by
 obtain ⟨v,l,h,rfl,hl,hh,⟨o1,o2,o3,o4,o5,o6⟩,hn⟩:=h;have h1:=ff hl;have h2:=ff hh;refine ⟨by simp,by simp only;omega,by simp,by simp,by simp only;omega,by simp only;omega,λe=>o4 (cT hl hh (by simp only at e;omega)),λhm=>hn ((iJ hS hl hh).1 hm),?_,?_⟩
 ·simp only [N5,oa hS hl];omega
 ·simp only [N5,oa hS hh];omega
theorem CJ {S:List Tr} (hS:Cl S) {b:Br} (h1:0<=b.v) (h2:b.v<=63) (h3:0<=b.l) (h4:0<=b.h) (h5:b.l<=S.length+1) (h6:b.h<=S.length+1) (h7:b.l≠b.h) (h8:b ∉ brs S)
  (h9:b.v<(tr S b.l.toNat).top) (h10:b.v<(tr S b.h.toNat).top):yp S b:=by
 have il:inn S (tr S b.l.toNat):=gT (by omega);have ih:inn S (tr S b.h.toNat):=gT (by omega);have nl:=gq hS (n:=b.l.toNat) (by omega);have nh:=gq hS (n:=b.h.toNat) (by omega);have e:b=⟨((b.v.toNat:Nat):Int),((num S (tr S b.l.toNat):Nat):Int),((num S (tr S b.h.toNat):Nat):Int)⟩:=by rw [nl,nh];obtain ⟨x,y,z⟩:=b;simp only [Br.mk.injEq];simp only at*;omega
 refine ⟨b.v.toNat,_,_,e,il,ih,⟨by omega,by omega,by omega,λhe=> ?_,hS.inn_ok il,hS.inn_ok ih⟩,λhm=>h8 ?_⟩
 ·rw [he] at nl;omega
 ·rw [e];exact (iJ hS il ih).2 hm
def kmS (S:List Tr) (x:Br):Option ξ:=if x∈brs S then ZO (ZV ZT) else ZR
theorem GR {S:List Tr} {b:Br} {S':List Tr} (h:brs S'=brs S++[b]):kmS S'=λx=>if x=b then ZO (ZV ZT) else kmS S x:=by funext x;unfold kmS;rw [h];by_cases hx:x=b<;>by_cases hm:x∈brs S<;>simp [hx,hm]
section
variable {F:PH} {v:Γ} {d:Dia}
theorem sE (hd:DV F v d):ν 100 #[ZU v] F λr F'=>r=vi (chk d)/\F.le F':=by
 have hd':=hd;obtain ⟨s,rfl,hr⟩:=hd;have hlen:=hr.blen;refine TC ?_;unfold Nv;intro b1 hb1;refine atI ?_;have l1:=ae (ZP #[s.v,vi d.2] 31) hb1;have h1:=au F b1 (ZP #[s.v,vi d.2] 31);generalize F.set b1 (ZP #[s.v,vi d.2] 31)=G at*;refine ⟨s,by rw [av h1];rfl,λhbig=> ?_,λhbig=> ?_⟩
 ·refine ⟨?_,l1⟩;unfold chk;rw [Χ (by omega)]
 have hsm:d.1.length<=4096:=by omega
 intro b11 hb11;refine atI ?_;refine ⟨s,by rw [av (ae _ hb11 _ _ h1)];rfl,?_⟩;have fin:∀{F':PH},G.le F'->¬jb d->(vi 20=vi (chk d)/\F.le F'):=λ{F'} hl hn=>by refine ⟨?_,l1.trans hl⟩;unfold chk;rw [Υ (by omega),Υ hn]
 refine ⟨λm i F'=>∃(k:Nat) (S:List Tr),i=k/\k<=d.1.length/\m=d.1.length - k/\Cl S/\S.length=k/\brs S=d.1.take k/\G.le F'/\∃o,F' b11=ZO o/\eM Au (kmS S) o,d.1.length,
  ⟨0,[],rfl,by omega,rfl,.nil,rfl,rfl,ae _ hb11,_,au _ _ _,eM.empty Au⟩,?_⟩
 rintro m i F1 ⟨k,S,rfl,hk,rfl,hS,hSk,hSb,hle,o,hm,hmo⟩;unfold C3;refine ⟨λhlt=> ?_,λhge=> ?_⟩
 ·have hkd:k<d.1.length:=by omega
  obtain ⟨a,ha,hrow,_⟩:=rdb (hr.le (l1.trans hle)) (N6 hkd);have hbad:¬yp S d.1[k]->¬jb d:=λhn hv=>hn (kH hv hS hSk hkd hSb);have hfits:=cu hS (b:=d.1[k]);have hof:=CJ hS (b:=d.1[k]);refine ⟨a,ha,by omega,hlt,bh d.1[k],rfl,by simpa using hrow,?_⟩;generalize hB:d.1[k]=B at*;intro b5 hb5;refine atI ?_;refine stW (au _ _ _) rfl rfl (mH _) ?_;rw [aW];have l5:=ae (ZP (bh B) 124) hb5;have h5:=au F1 b5 (ZP (bh B) 124);have hm:=l5 _ _ hm;have hle:=hle.trans l5;generalize F1.set b5 (ZP (bh B) 124)=F2 at*;have c0:F2.cell ⟨b5,0,ZR⟩=ZO (vi B.v):=by rw [av h5];rfl
  have c1:F2.cell ⟨b5,1,ZR⟩=ZO (vi B.l):=by rw [av h5];rfl
  have c2:F2.cell ⟨b5,2,ZR⟩=ZO (vi B.h):=by rw [av h5];rfl
  refine ⟨_,c0,λh=>fin hle (hbad λhf=> ?_),λg1=> ?_⟩
  ·have:=(hfits hf).1;omega
  refine ⟨_,c0,λh=>fin hle (hbad λhf=> ?_),λg2=> ?_⟩
  ·have:=(hfits hf).2.1;omega
  refine ⟨_,c1,λh=>fin hle (hbad λhf=> ?_),λg3=> ?_⟩
  ·have:=(hfits hf).2.2.1;omega
  refine ⟨_,c2,λh=>fin hle (hbad λhf=> ?_),λg4=> ?_⟩
  ·have:=(hfits hf).2.2.2.1;omega
  have hw:i64.wrap ((k:Int)+1)=((k+1:Nat):Int):=fF (by omega);rw [hw];refine ⟨_,c1,λh=>fin hle (hbad λhf=> ?_),λg5=> ?_⟩
  ·have:=(hfits hf).2.2.2.2.1;omega
  refine ⟨_,c2,λh=>fin hle (hbad λhf=> ?_),λg6=> ?_⟩
  ·have:=(hfits hf).2.2.2.2.2.1;omega
  refine ⟨_,c1,_,c2,λh=>fin hle (hbad λhf=> ?_),λg7=> ?_⟩
  ·exact (hfits hf).2.2.2.2.2.2.1 h
  have hlk:=bL (F:=F2) mtK hm hmo B ZQ;refine ⟨bh B,rfl,ac h5,decide (B∈brs S),?_,λh=>fin hle (hbad λhf=> ?_),λg8=> ?_⟩
  ·unfold kmS at hlk;by_cases hx:B∈brs S
   ·rw [Χ hx] at hlk;simpa [hx] using hlk
   ·rw [Υ hx] at hlk;simpa [hx] using hlk
  ·exact (hfits hf).2.2.2.2.2.2.2.1 (by simpa using h)
  have g8':B ∉ brs S:=by simpa using g8
  have hpre:brs S<+:d.1:=by rw [hSb];exact List.take_prefix _ _
  have il:inn S (tr S B.l.toNat):=gT (by omega);have ih:inn S (tr S B.h.toNat):=gT (by omega);have nl:=gq hS (n:=B.l.toNat) (by omega);have nh:=gq hS (n:=B.h.toNat) (by omega);have el:vi B.l=vi (num S (tr S B.l.toNat)):=by rw [nl];congr 1;omega
  have eh:vi B.h=vi (num S (tr S B.h.toNat)):=by rw [nh];congr 1;omega
  refine ⟨_,rfl,ac (hle _ _ h1),_,c1,_,c0,?_⟩;rw [el];refine (fc (hd'.le (l1.trans hle)) hpre il (by omega)).mono ?_;rintro _ F3 ⟨rfl,l3⟩;refine ⟨_,rfl,aK l3 c0,λh=>fin (hle.trans l3) (hbad λhf=> ?_),λg9=> ?_⟩
  ·have:=(hfits hf).2.2.2.2.2.2.2.2.1;omega
  refine ⟨_,rfl,ac ((hle.trans l3) _ _ h1),_,aK l3 c2,_,aK l3 c0,?_⟩;rw [eh];refine (fc (hd'.le (l1.trans (hle.trans l3))) hpre ih (by omega)).mono ?_;rintro _ F4 ⟨rfl,l4⟩;refine ⟨_,rfl,aK l4 (aK l3 c0),aK l4 (aK l3 c0),λh=>fin ((hle.trans l3).trans l4) (hbad λhf=> ?_),λg10=> ?_⟩
  ·have:=(hfits hf).2.2.2.2.2.2.2.2.2;omega
  have hF:=hof (by omega) (by omega) (by omega) (by omega) (by omega) (by omega) g7 g8' (by omega) (by omega);refine ⟨bh B,rfl,ac (l4 _ _ (l3 _ _ h5)),?_⟩;refine aX mtK (l4 _ _ (l3 _ _ hm)) hmo B _ λo' ho'=> ?_;obtain ⟨v,l,h,e,hl,hh,hok,hn⟩:=hF;have e2:brs (S++[ZM v l h])=brs S++[B]:=by rw [eS hS hl hh,e]
  rw [<- GR e2] at ho';have hg11:G b11=ZR:=hb11;refine ⟨d.1.length - (k+1),by omega,k+1,S++[ZM v l h],rfl,by omega,rfl,.snoc hS hl hh hok hn,by simp [hSk],?_,aA ((hle.trans l3).trans l4) hg11,o',au _ _ _,ho'⟩;rw [e2,hSb,Ya hkd,hB]
 ·unfold C0;have hk':k=d.1.length:=by omega
  have hSd:brs S=d.1:=by rw [hSb,hk',XZ]
  have cr:F1.cell ⟨b1,1,ZR⟩=ZO (vi d.2):=by rw [av (hle _ _ h1)];rfl
  have cs:F1.cell ⟨b1,0,ZR⟩=ZO s.v:=by rw [av (hle _ _ h1)];rfl
  have key:∀t,t.ok->d=dia t->S=bo t/\d.2=num S t:=λt ht e=>by subst e;have:=qF hS (bI ht) hSd;exact ⟨this,by rw [this];rfl⟩
  have hrange:jb d->0<=d.2/\d.2<=(d.1.length:Int)+1:=by
   rintro ⟨t,ht,e⟩;obtain ⟨h1,h2⟩:=key t ht e;have h3:inn S t:=by rw [h1];exact bY ht
   have:=ff h3;omega
  refine ⟨_,cr,λh=>fin hle (λhv=>by have:=(hrange hv).1;omega),λg1=> ?_⟩;have hw:i64.wrap ((s.len:Int)+1)=((d.1.length+1:Nat):Int):=by rw [hlen];exact fF (by omega)
  refine ⟨_,cr,s,cs,?_⟩;dsimp only;rw [hw];refine ⟨λh=>fin hle (λhv=>by have:=(hrange hv).2;omega),λg2=> ?_⟩;refine ⟨s,cs,?_⟩;intro b98 hb98;refine atI ?_;have l98:=ae (ZP #[s.v,Value.map ZR] 199) hb98;have h98:=au F1 b98 (ZP #[s.v,Value.map ZR] 199);have hle:=hle.trans l98;generalize F1.set b98 (ZP #[s.v,Value.map ZR] 199)=F2 at*;refine ⟨_,aK l98 cr,?_⟩;have it:inn S (tr S d.2.toNat):=gT (by omega);have nt:=gq hS (n:=d.2.toNat) (by omega);have et:vi d.2=vi (num S (tr S d.2.toNat)):=by rw [nt];congr 1;omega
  dsimp only;rw [et];refine (mA (by rw [av h98];rfl) (by rw [hSd];exact hr.le (l1.trans hle)) hS it (by omega)).mono ?_;rintro _ F3 ⟨w,rfl,hw,l3⟩;refine ⟨_,rfl,?_⟩;intro b6 hb6;refine atI ?_;refine stW (au _ _ _) hw.size rfl hw.st ?_;rw [aW];have l6:=ae (ZP w 31) hb6;have h6:=au F3 b6 (ZP w 31);have hle:=(hle.trans l3).trans l6;have hw:=hw.le l6;generalize F3.set b6 (ZP w 31)=F4 at*;refine ⟨w,hw.size,ac h6,_,rfl,ac (hle _ _ h1),?_⟩;have hok:=hS.inn_ok it
  refine (jY hw (hd'.le (l1.trans hle)) (by
   have:=Ko hS it;simp only [dia,aP]
   omega)).mono ?_
  rintro _ F5 ⟨rfl,l5⟩;refine ⟨_,rfl,λh=>fin (hle.trans l5) ?_,λh=> ?_⟩
  ·rintro ⟨t,ht,e⟩;obtain ⟨k1,k2⟩:=key t ht e;have:tr S d.2.toNat=t:=by rw [k2,N5];exact oa hS (by rw [k1];exact bY ht)
   rw [this,<- e] at h;simp at h
  ·refine ⟨?_,l1.trans (hle.trans l5)⟩;have:dia (tr S d.2.toNat)=d:=by simpa using h
   unfold chk;rw [Υ (by omega),Χ ⟨_,hok,this.symm⟩]
end
theorem GT:aE prog 173=ZT:=by kernel_rfl
theorem BD.weaken {F0 F1 F:PH} {b m:Nat} {S:List Tr} (h:BD F1 F b m S) (hl:F0.le F1):BD F0 F b m S:=by obtain ⟨h1,h2,h3,h4,⟨s,h5,h6,h7⟩,h8⟩:=h;exact ⟨hl.trans h1,h2,aV hl h3,aV hl h4,⟨s,h5,h6,λa ha=>aV hl (h7 a ha)⟩,h8⟩
theorem BD.upto {F0 F G:PH} {b m:Nat} {S:List Tr} (h:BD F0 F b m S) (hl:F.le G):BD F0 G b m S:=by obtain ⟨h1,h2,h3,h4,⟨s,h5,h6,h7⟩,o,h8,h9⟩:=h;exact ⟨h1.trans hl,h2,h3,h4,⟨s,hl _ _ h5,h6.upto hl,h7⟩,o,hl _ _ h8,h9⟩
theorem BD.grow {F0 G F:PH} {b m x:Nat} {o:Obj} {S:List Tr} (h:BD F0 G b m S) (hl:G.le F) (hx:G x=ZR) (ho:F x=ZO o):BD (F0.set x o) F b m S:=by
 obtain ⟨h1,h2,h3,h4,⟨s,h5,h6,h7⟩,o',h8,h9⟩:=h;refine ⟨λy oy hy=> ?_,h2,?_,?_,⟨s,hl _ _ h5,h6.upto hl,λa ha=> ?_⟩,o',hl _ _ h8,h9⟩
 ·by_cases hyx:y=x
  ·subst hyx;rw [au] at hy;rw [ho];exact hy
  ·rw [aB _ _ hyx] at hy;exact hl _ _ (h1 _ _ hy)
 ·rw [aB _ _ (aI hx h5)];exact h3
 ·rw [aB _ _ (aI hx h8)];exact h4
 ·obtain ⟨cur,hcur⟩:=h6.elem ha;rw [aB _ _ (aI hx hcur)];exact h7 a ha
theorem BD.other {F0 F:PH} {b m x:Nat} {o:Obj} {S:List Tr} (h:BD F0 F b m S) (h0:F0 x=ZR) (hb:b≠x) (hm:m≠x) (hc:∀c e fr,F x≠ZO (ZP c e fr)):BD F0 (F.set x o) b m S:=by obtain ⟨h1,h2,h3,h4,⟨s,h5,h6,h7⟩,o',h8,h9⟩:=h;refine ⟨aA h1 h0,h2,h3,h4,⟨s,by rw [aB _ _ hb];exact h5,h6.keep λa ha=>aB _ _ (λe=> ?_),h7⟩,o',by rw [aB _ _ hm];exact h8,h9⟩;obtain ⟨cur,hcur⟩:=h6.elem ha;rw [e] at hcur;exact hc _ _ _ hcur
structure AP where
 b3:Nat
 b6:Nat
 b2:Nat
 b7:Nat
 b5:Nat
 bb:Nat
 mm:Nat
 b9:Nat
 opv:ξ
 o:Op3
 dd:Nat->Dia
 SS:Nat->List Tr
def AP.key (p:AP) (t:Nat->Tr):Int×Int×Int:=((num (p.SS 0) (t 0):Int),(num (p.SS 1) (t 1):Int),(num (p.SS 2) (t 2):Int))
def AP.res (p:AP) (t:Nat->Tr):Tr:=ap p.o (t 0) (t 1) (t 2)
def AP.inK (p:AP) (t:Nat->Tr):Prop:=inn (p.SS 0) (t 0)/\inn (p.SS 1) (t 1)/\inn (p.SS 2) (t 2)
def AP.caps (p:AP):Γ:= #[ZZ (ZO ⟨p.b3,0,ZR⟩),ZZ (ZO ⟨p.b6,0,ZR⟩),ZZ (ZO ⟨p.b2,0,ZR⟩),ZZ (ZO ⟨p.b7,0,ZR⟩),ZZ (ZO ⟨p.b5,0,ZR⟩)]
def OpV (F0:PH) (v:ξ) (o:Op3):Prop:=∃(k:Nat) (fst cap:Γ),v=.func (.func k) fst cap/\aE prog k=ZT/\
 ∀(x y z:Bool) (F:PH),F0.le F->aj prog k (fst++[ZV x,ZV y,ZV z].toArray++cap) F λr F'=>r=ZV (o x y z)/\F.le F'
theorem OpV.le {F0 G:PH} {v:ξ} {o:Op3} (h:OpV F0 v o) (hl:F0.le G):OpV G v o:=by obtain ⟨k,f,c,h1,h2,h3⟩:=h;exact ⟨k,f,c,h1,h2,λx y z F hF=>h3 x y z F (hl.trans hF)⟩
structure AF (p:AP):Prop where
 cl:∀i,i<3->Cl (p.SS i)
 pre:∀i,i<3->brs (p.SS i)<+:(p.dd i).1
 fit:∀i,i<3->Fit ((p.dd i).1.length+2)
structure AE (F0:PH) (p:AP):Prop where
 c3:F0.cell ⟨p.b3,0,ZR⟩=ZO p.opv
 c6:F0.cell ⟨p.b6,0,ZR⟩=ZO (.map (ZO p.b9))
 c2:∀i,i<3->∃w,F0.row ⟨p.b2,i*2,ZR⟩ w/\DV F0 w (p.dd i)
 c7:F0.cell ⟨p.b7,0,ZR⟩=ZO (.func (.func 173) #[] p.caps)
 c5:F0.cell ⟨p.b5,0,ZR⟩=ZO (ZZ (ZO ⟨p.bb,0,ZR⟩))
 op:OpV F0 p.opv p.o
theorem aT {F G:PH} (h:F.le G) {a:Addr} {cs:Γ} (hr:F.row a cs):G.row a cs:=λi hi=>aK h (hr i hi)
theorem AE.le {F0 G:PH} {p:AP} (h:AE F0 p) (hl:F0.le G):AE G p:=
 ⟨aK hl h.c3,aK hl h.c6,λi hi=>by
  obtain ⟨w,h1,h2⟩:=h.c2 i hi
  exact ⟨w,aT hl h1,h2.le hl⟩,aK hl h.c7,aK hl h.c5,h.op.le hl⟩
def OZ (p:AP) (S:List Tr) (m3:Int×Int×Int->Option ξ):Prop:=∀k v,m3 k=ZO v->∃t,p.inK t/\k=p.key t/\inn S (p.res t)/\v=vi (num S (p.res t))
structure AS (F0 F:PH) (p:AP) (S:List Tr):Prop where
 bd:BD F0 F p.bb p.mm S
 n9:F0 p.b9=ZR
 ne:p.mm≠p.b9
 memo:∃o m3,F p.b9=ZO o/\eM Kk m3 o/\OZ p S m3
theorem AS.upto {F0 F G:PH} {p:AP} {S:List Tr} (h:AS F0 F p S) (hl:F.le G):AS F0 G p S:=by obtain ⟨h1,h2,h3,o,m3,h4,h5⟩:=h;exact ⟨h1.upto hl,h2,h3,o,m3,hl _ _ h4,h5⟩
theorem AS.weaken {F0 F1 F:PH} {p:AP} {S:List Tr} (h:AS F1 F p S) (hl:F0.le F1):AS F0 F p S:=by obtain ⟨h1,h2,h3,h4⟩:=h;exact ⟨h1.weaken hl,aV hl h2,h3,h4⟩
theorem AS.grow {F0 G F:PH} {p:AP} {S:List Tr} {x:Nat} {o:Obj} (h:AS F0 G p S) (hl:G.le F) (hx:G x=ZR) (ho:F x=ZO o):AS (F0.set x o) F p S:=by obtain ⟨h1,h2,h3,o',m3,h4,h5⟩:=h;exact ⟨h1.grow hl hx ho,by rw [aB _ _ (aI hx h4)];exact h2,h3,o',m3,hl _ _ h4,h5⟩
theorem p5 {p:AP} {t u:Nat->Tr} (ht:p.inK t) (hu:p.inK u) (h:p.key t=p.key u):p.res t=p.res u:=by unfold AP.key at h;simp only [ZF] at h;obtain ⟨h1,h2,h3⟩:=h;unfold AP.res;rw [cT ht.1 hu.1 (by omega),cT ht.2.1 hu.2.1 (by omega),cT ht.2.2 hu.2.2 (by omega)]
theorem yr (t:Tr) (S:List Tr):S.length<=(vis t S).length:=by
 induction t generalizing S with
 |ZL b=>exact XS _
 |ZM v l h ihl ihh=>
  unfold vis;split
  ·exact XS _
  ·have h1:=ihl S;have h2:=ihh (vis l S);simp only [XT];omega
theorem CL (S:List Tr) (t:Tr):S.length<=(fC S t).length:=by unfold fC;split<;>simp
def szs (t:Nat->Tr):Nat:=(t 0).sz+(t 1).sz+(t 2).sz
def GU (p:AP) (t:Nat->Tr):Prop:=∀(F0 F:PH) (S:List Tr),AE F0 p->AS F0 F p S->Fit ((vis (p.res t) S).length+4)->
 aj prog 173 (#[ZU (dY (p.key t))]++p.caps) F λr F'=>r=vi (num (vis (p.res t) S) (p.res t))/\AS F0 F' p (vis (p.res t) S)
structure WQ (p:AP) (t:Nat->Tr) (v:Nat):Prop where
 hv:v=be (t 0) (t 1) (t 2)
 lt:v<64
 il:p.inK (λi=>lo v (t i))
 ih:p.inK (λi=>hi v (t i))
 sl:szs (λi=>lo v (t i))<szs t
 sh:szs (λi=>hi v (t i))<szs t
 tl:v<(p.res (λi=>lo v (t i))).top
 th:v<(p.res (λi=>hi v (t i))).top
 ol:(p.res (λi=>lo v (t i))).ok
 oh:(p.res (λi=>hi v (t i))).ok
 res:p.res t=mk v (p.res (λi=>lo v (t i))) (p.res (λi=>hi v (t i)))
theorem down {p:AP} (hf:AF p) {t:Nat->Tr} (ht:p.inK t) (hv:be (t 0) (t 1) (t 2)<64):WQ p t (be (t 0) (t 1) (t 2)):=by
 have h0:=(hf.cl 0 (by omega)).inn_ok ht.1;have h1:=(hf.cl 1 (by omega)).inn_ok ht.2.1;have h2:=(hf.cl 2 (by omega)).inn_ok ht.2.2;have hs:=xh (o:=p.o) h0 h1 h2 hv;have v1:be (t 0) (t 1) (t 2)<=(t 0).top:=by unfold be;omega
 have v2:be (t 0) (t 1) (t 2)<=(t 1).top:=by unfold be;omega
 have v3:be (t 0) (t 1) (t 2)<=(t 2).top:=by unfold be;omega
 have hcase:be (t 0) (t 1) (t 2)=(t 0).top\/be (t 0) (t 1) (t 2)=(t 1).top\/be (t 0) (t 1) (t 2)=(t 2).top:=by unfold be;omega
 generalize hw:be (t 0) (t 1) (t 2)=v at*;have nl:∀{t:Tr},v=t.top->t.isL=ZQ:=λ{t} e=>by
  cases t with
  |ZL b=>simp only [top] at e;omega
  |ZM _ _ _=>rfl
 obtain ⟨al1,al2,al3,al4,al5⟩:=cy h0 v1;obtain ⟨bl1,bl2,bl3,bl4,bl5⟩:=cy h1 v2;obtain ⟨dl1,dl2,dl3,dl4,dl5⟩:=cy h2 v3;obtain ⟨ah1,ah2,ah3,ah4,ah5⟩:=cz h0 v1;obtain ⟨bh1,bh2,bh3,bh4,bh5⟩:=cz h1 v2;obtain ⟨dh1,dh2,dh3,dh4,dh5⟩:=cz h2 v3;obtain ⟨l1,l2,l3⟩:=fG (o:=p.o) al1 bl1 dl1;obtain ⟨g1,g2,g3⟩:=fG (o:=p.o) ah1 bh1 dh1
 refine ⟨hw.symm,hv,⟨(hf.cl 0 (by omega)).inn_lo ht.1 v,(hf.cl 1 (by omega)).inn_lo ht.2.1 v,(hf.cl 2 (by omega)).inn_lo ht.2.2 v⟩,
  ⟨(hf.cl 0 (by omega)).inn_hi ht.1 v,(hf.cl 1 (by omega)).inn_hi ht.2.1 v,(hf.cl 2 (by omega)).inn_hi ht.2.2 v⟩,?_,?_,?_,?_,l1,g1,hs⟩
 ·simp only [szs];rcases hcase with e|e|e
  ·have:=al4 e.symm (nl e);omega
  ·have:=bl4 e.symm (nl e);omega
  ·have:=dl4 e.symm (nl e);omega
 ·simp only [szs];rcases hcase with e|e|e
  ·have:=ah4 e.symm (nl e);omega
  ·have:=bh4 e.symm (nl e);omega
  ·have:=dh4 e.symm (nl e);omega
 ·have:=al2 hv;have:=bl2 hv;have:=dl2 hv;unfold be at l2;show v<(ap p.o (lo v (t 0)) (lo v (t 1)) (lo v (t 2))).top;omega
 ·have:=ah2 hv;have:=bh2 hv;have:=dh2 hv;unfold be at g2;show v<(ap p.o (hi v (t 0)) (hi v (t 1)) (hi v (t 2))).top;omega
theorem dZ {S:List Tr} {t:Tr}:((num S t:Int)<2)↔t.isL=ZT:=by
 constructor
 ·intro h;exact qD (S:=S) (by omega)
 ·intro h;cases t with
  |ZL b=>have:=dJ S b;omega
  |ZM _ _ _=>cases h
section
variable {p:AP} {t:Nat->Tr} {F0 F:PH} {S:List Tr} {n6:Nat}
theorem Kp (he:AE F0 p) (hs:AS F0 F p S) (h6:F0 n6=ZO (ZP (dY (p.key t)) 215)) (h0:(t 0).isL=ZT) (h1:(t 1).isL=ZT) (h2:(t 2).isL=ZT) {R:ξ->Ψ}
  (hR:∀F',F.le F'->R (vi (num S (p.res t))) F'):
  gF (ZO ⟨p.b3,0,ZR⟩) (ZO ⟨p.b6,0,ZR⟩) (ZO ⟨p.b2,0,ZR⟩) (ZO ⟨p.b7,0,ZR⟩) (ZO ⟨p.b5,0,ZR⟩) n6 ZT R F:=by
 unfold gF;obtain ⟨k,fst,cap,hop,hcb,hsp⟩:=he.op;have hle:=hs.bd.le;have h6':=hle _ _ h6;refine ⟨λ_=> ?_,λhc=>by cases hc⟩;refine ⟨_,rfl,_,aK hle he.c3,by omega,by omega,_,by simp only [aG];rw [av h6'];rfl,by omega,by omega,_,by simp only [aG];rw [av h6'];rfl,by omega,by omega,_,by simp only [aG];rw [av h6'];rfl,k,fst,cap,hop,hcb,?_⟩;generalize ht0:t 0=x0 at*;generalize ht1:t 1=x1 at*;generalize ht2:t 2=x2 at*;cases x0 with
 |ZM _ _ _=>cases h0
 |ZL a=>
  cases x1 with
  |ZM _ _ _=>cases h1
  |ZL b=>
   cases x2 with
   |ZM _ _ _=>cases h2
   |ZL c=>
    have e:∀(S:List Tr) (x:Bool),decide ((num S (ZL x):Int)=1)=x:=λS x=>by cases x<;>simp [num]
    simp only [AP.key,ht0,ht1,ht2,e];refine (hsp a b c F hle).mono ?_;rintro _ F' ⟨rfl,hle'⟩;have hres:p.res t=ZL (p.o a b c):=by unfold AP.res;rw [ht0,ht1,ht2];exact mX _ _ _ _
    have hR':=hR F' hle';rw [hres] at hR';refine ⟨_,rfl,λh=> ?_,λh=> ?_⟩
    ·rw [h] at hR';exact hR'
    ·rw [h] at hR';exact hR'
theorem Kq (hf:AF p) (ht:p.inK t) (ih:∀u,p.inK u->szs u<szs t->GU p u) (he:AE F0 p) (hs:AS F0 F p S) (h6:F0 n6=ZO (ZP (dY (p.key t)) 215))
  (hfit:Fit ((vis (p.res t) S).length+4)) (hn:¬((t 0).isL=ZT/\(t 1).isL=ZT/\(t 2).isL=ZT)) {R:ξ->Ψ}
  (hR:∀F',AS F0 F' p (vis (p.res t) S)->R (vi (num (vis (p.res t) S) (p.res t))) F'):
  gF (ZO ⟨p.b3,0,ZR⟩) (ZO ⟨p.b6,0,ZR⟩) (ZO ⟨p.b2,0,ZR⟩) (ZO ⟨p.b7,0,ZR⟩) (ZO ⟨p.b5,0,ZR⟩) n6 ZQ R F:=by
 have hv:be (t 0) (t 1) (t 2)<64:=by
  have k0:=λhl=>tn ((hf.cl 0 (by omega)).inn_ok ht.1) hl;have k1:=λhl=>tn ((hf.cl 1 (by omega)).inn_ok ht.2.1) hl;have k2:=λhl=>tn ((hf.cl 2 (by omega)).inn_ok ht.2.2) hl;unfold be;cases e0:(t 0).isL with
  |false=>have:=k0 e0;omega
  |true=>
   cases e1:(t 1).isL with
   |false=>have:=k1 e1;omega
   |true=>
    cases e2:(t 2).isL with
    |false=>have:=k2 e2;omega
    |true=>exact absurd ⟨e0,e1,e2⟩ hn
 have D:=down hf ht hv;unfold gF;have hle:=hs.bd.le;have h6':=hle _ _ h6;obtain ⟨om,m3,hm,hmo,hok⟩:=hs.memo;refine ⟨λhc=>(by cases hc),λ_=> ?_⟩;have hlk:=bL (F:=F) mt3 hm hmo (p.key t) ZT;refine ⟨_,rfl,_,aK hle he.c6,dY (p.key t),rfl,ac h6',?_⟩;cases hmk:m3 (p.key t) with
 |some v=>rw [hmk] at hlk;obtain ⟨u,hu,hk,hi,rfl⟩:=hok _ _ hmk;have e:=p5 ht hu hk;rw [<- e] at hi hlk;have hvi:=gL hi;refine ⟨_,_,hlk,λ_=> ?_,λhc=>by cases hc⟩;have:=hR F (by rw [hvi];exact hs);rw [hvi] at this;exact this
 |none=>
  rw [hmk] at hlk;refine ⟨_,_,hlk,λhc=>(by cases hc),λ_=> ?_⟩;obtain ⟨w0,r0,d0⟩:=he.c2 0 (by omega);obtain ⟨w1,r1,d1⟩:=he.c2 1 (by omega);obtain ⟨w2,r2,d2⟩:=he.c2 2 (by omega);have c6:∀{G:PH},F.le G->G.cell ⟨n6,0,ZR⟩=ZO (vi (num (p.SS 0) (t 0)))/\G.cell ⟨n6,1,ZR⟩=ZO (vi (num (p.SS 1) (t 1)))/\G.cell ⟨n6,2,ZR⟩=ZO (vi (num (p.SS 2) (t 2))):=λ{G} hl=>by rw [av (hl _ _ h6'),av (hl _ _ h6'),av (hl _ _ h6')];exact ⟨rfl,rfl,rfl⟩
  have rr:∀{G:PH},F.le G->G.row (ZW ⟨p.b2,0,ZR⟩ (ZY 0*2)) w0/\G.row (ZW ⟨p.b2,0,ZR⟩ (ZY 1*2)) w1/\G.row (ZW ⟨p.b2,0,ZR⟩ (ZY 2*2)) w2:=λ{G} hl=>by simp only [aG];exact ⟨aT (hle.trans hl) r0,aT (hle.trans hl) r1,aT (hle.trans hl) r2⟩
  have cc:∀{G:PH},F.le G->G.cell (ZW ⟨n6,0,ZR⟩ (ZY 0*1))=ZO (vi (num (p.SS 0) (t 0)))/\G.cell (ZW ⟨n6,0,ZR⟩ (ZY 1*1))=ZO (vi (num (p.SS 1) (t 1)))/\G.cell (ZW ⟨n6,0,ZR⟩ (ZY 2*1))=ZO (vi (num (p.SS 2) (t 2))):=λ{G} hl=>by simp only [aG];exact c6 hl
  have hFF:F.le F:=PH.le_rfl;refine ⟨_,rfl,by omega,by omega,w0,d0.size,(rr hFF).1,by omega,by omega,_,(cc hFF).1,by omega,by omega,w1,d1.size,(rr hFF).2.1,by omega,by omega,_,(cc hFF).2.1,by omega,by omega,w2,d2.size,(rr hFF).2.2,by omega,by omega,_,(cc hFF).2.2,?_⟩;refine (fc (d0.le hle) (hf.pre 0 (by omega)) ht.1 (hf.fit 0 (by omega))).mono ?_;rintro _ G1 ⟨rfl,l1⟩;refine ⟨_,rfl,(cc l1).2.2,(rr l1).2.2,(cc l1).2.1,(rr l1).2.1,?_⟩;refine (fc (d1.le (hle.trans l1)) (hf.pre 1 (by omega)) ht.2.1 (hf.fit 1 (by omega))).mono ?_;rintro _ G2 ⟨rfl,l2⟩;have l2:=l1.trans l2;refine ⟨_,rfl,(cc l2).2.2,(rr l2).2.2,?_⟩;refine (fc (d2.le (hle.trans l2)) (hf.pre 2 (by omega)) ht.2.2 (hf.fit 2 (by omega))).mono ?_;rintro _ G ⟨rfl,l3⟩;have l3:=l2.trans l3;refine ⟨_,rfl,?_⟩;have hmin:(min (min ((t 0).top:Int) ((t 1).top:Int)) ((t 2).top:Int))=((be (t 0) (t 1) (t 2):Nat):Int):=by unfold be;omega
  generalize be (t 0) (t 1) (t 2)=v at*;intro b11 hb11;refine atI ?_;intro b12 hb12;refine atI ?_;have n12:b11≠b12:=aI hb12 (au _ _ _);have g12:G b12=ZR:=by rw [aB _ _ n12.symm] at hb12;exact hb12
  let A (k:Nat) (f:Nat->Nat):Γ:= #[if 0<k then vi (f 0) else vi 0,if 1<k then vi (f 1) else vi 0,if 2<k then vi (f 2) else vi 0]
  let fl:Nat->Nat:=λi=>num (p.SS i) (lo v (t i))
  let fh:Nat->Nat:=λi=>num (p.SS i) (hi v (t i))
  have hA:∀k f,k<3->(A k f).setIfInBounds k (vi (f k))=A (k+1) f:=by
   intro k f hk
   match k,hk with
   |0,_=>simp [A]
   |1,_=>simp [A]
   |2,_=>simp [A]
  refine ⟨λm i F'=>∃k:Nat,i=k/\k<=3/\m=3 - k/\G.le F'/\F' b11=ZO (ZP (A k fl) 215)/\F' b12=ZO (ZP (A k fh) 215),3,
   ⟨0,rfl,by omega,rfl,(ae _ hb11).trans (ae _ hb12),by rw [aB _ _ n12,au];rfl,by rw [au];rfl⟩,?_⟩
  rintro m i F1 ⟨k,rfl,hk,rfl,hG,h11,h12⟩;unfold C5;rw [hmin];refine ⟨λhlt=> ?_,λhge=> ?_⟩
  ·have hk3:k<3:=by omega
   obtain ⟨w,rw',dw⟩:=he.c2 k hk3;have hFG:F.le F1:=l3.trans hG;have hin:inn (p.SS k) (t k):=by
    match k,hk3 with
    |0,_=>exact ht.1
    |1,_=>exact ht.2.1
    |2,_=>exact ht.2.2
   have hc:F1.cell (ZW ⟨n6,0,ZR⟩ (ZY (k:Int)*1))=ZO (vi (num (p.SS k) (t k))):=by
    match k,hk3 with
    |0,_=>exact (cc hFG).1
    |1,_=>exact (cc hFG).2.1
    |2,_=>exact (cc hFG).2.2
   refine ⟨by omega,by omega,w,dw.size,by simpa using aT (hle.trans hFG) rw',by omega,by omega,_,hc,?_⟩;refine (AJ (dw.le (hle.trans hFG)) (hf.pre k hk3) hin (hf.fit k hk3) D.lt).mono ?_;rintro _ F2 ⟨rfl,l4⟩;refine ⟨_,_,rfl,by omega,by omega,?_⟩;refine tf (b:=b11) (o:=k) (by simp) (l4 _ _ h11) (by simp [A];omega) ?_;rw [hA k fl hk3];refine ⟨by omega,by omega,?_⟩;refine tf (b:=b12) (o:=k) (by simp) (by rw [aB _ _ n12.symm];exact l4 _ _ h12) (by simp [A];omega) ?_;rw [hA k fh hk3];refine ⟨3 - (k+1),by omega,k+1,fF (by omega),by omega,rfl,aA (aA (hG.trans l4) hb11) g12,?_,au _ _ _⟩;rw [aB _ _ n12,au]
  ·obtain rfl:k=3:=by omega
   have e11:A 3 fl=dY (p.key λi=>lo v (t i)):=rfl;have e12:A 3 fh=dY (p.key λi=>hi v (t i)):=rfl;rw [e11] at h11;rw [e12] at h12;clear hA hge hk
   clear_value A fl fh
   unfold C4;rw [hmin];have hs1:=(hs.upto l3).grow (F:=G.set b11 (ZP (dY (p.key λi=>lo v (t i))) 215)) (ae _ hb11) hb11 (au _ _ _);have lx:(G.set b11 (ZP (dY (p.key λi=>lo v (t i))) 215)).le F1:=λx ob hx=>by
    by_cases hxb:x=b11
    ·subst hxb;rw [au] at hx;rw [h11];exact hx
    ·rw [aB _ _ hxb] at hx;exact hG _ _ hx
   have hs2:=hs1.grow lx (by rw [aB _ _ n12.symm];exact g12) h12;have f11:F0 b11=ZR:=aV (hle.trans l3) hb11;have f12:F0 b12=ZR:=aV (hle.trans l3) g12;have l0:F0.le ((F0.set b11 (ZP (dY (p.key λi=>lo v (t i))) 215)).set b12 (ZP (dY (p.key λi=>hi v (t i))) 215)):=aA (aA PH.le_rfl f11) f12;have q11:((F0.set b11 (ZP (dY (p.key λi=>lo v (t i))) 215)).set b12 (ZP (dY (p.key λi=>hi v (t i))) 215)) b11=ZO (ZP (dY (p.key λi=>lo v (t i))) 215):=by rw [aB _ _ n12,au]
   have q12:((F0.set b11 (ZP (dY (p.key λi=>lo v (t i))) 215)).set b12 (ZP (dY (p.key λi=>hi v (t i))) 215)) b12=ZO (ZP (dY (p.key λi=>hi v (t i))) 215):=au _ _ _;generalize ((F0.set b11 (ZP (dY (p.key λi=>lo v (t i))) 215)).set b12 (ZP (dY (p.key λi=>hi v (t i))) 215))=E0 at*;have he0:=he.le l0;have hcl:=hs.bd.cl;obtain ⟨a1,a2,X,a3,a4⟩:=bD (p.res λi=>lo v (t i)) S D.ol hcl;obtain ⟨c1,c2,Y,c3,c4⟩:=bD (p.res λi=>hi v (t i)) (vis (p.res λi=>lo v (t i)) S) D.oh a1;have hadd:=sC hcl (v:=v) (l:=p.res λi=>lo v (t i)) (h:=p.res λi=>hi v (t i)) ⟨D.lt,D.tl,D.th,D.ol,D.oh⟩;rw [<- D.res] at hadd;have g1:=yr (p.res λi=>hi v (t i)) (vis (p.res λi=>lo v (t i)) S);have g2:=CL (vis (p.res λi=>hi v (t i)) (vis (p.res λi=>lo v (t i)) S)) (p.res t);rw [hadd] at g2;refine ⟨_,rfl,_,aK hs2.bd.le he0.c7,dY (p.key λi=>lo v (t i)),rfl,ac (hs2.bd.le _ _ q11),_,_,_,rfl,GT,?_⟩;refine (ih _ D.il D.sl E0 F1 S he0 hs2 (by omega)).mono ?_;rintro _ F2 ⟨rfl,hs3⟩;refine ⟨_,rfl,_,rfl,_,aK hs3.bd.le he0.c5,_,aK hs3.bd.le he0.c7,dY (p.key λi=>hi v (t i)),rfl,ac (hs3.bd.le _ _ q12),_,_,_,rfl,GT,?_⟩;refine (ih _ D.ih D.sh E0 F2 _ he0 hs3 (by omega)).mono ?_;rintro _ F3 ⟨rfl,hs4⟩;refine ⟨_,rfl,aK hs4.bd.le he0.c5,?_⟩;obtain ⟨bd4,n94,ne4,o9,m9,hm9,hmo9,hok9⟩:=hs4;have hnl:num (vis (p.res λi=>lo v (t i)) S) (p.res λi=>lo v (t i))=num (vis (p.res λi=>hi v (t i)) (vis (p.res λi=>lo v (t i)) S)) (p.res λi=>lo v (t i)):=by rw [c3,bT a2]
   rw [hnl];have hil:inn (vis (p.res λi=>hi v (t i)) (vis (p.res λi=>lo v (t i)) S)) (p.res λi=>lo v (t i)):=by rw [c3];exact cd a2
   have hnb:p.bb≠p.b9:=λe=>by obtain ⟨_,_,_,_,⟨s,h5,_⟩,_⟩:=bd4;obtain ⟨es,c,L,rfl,_⟩:=hmo9;rw [e,hm9] at h5;cases h5
   have bd4':BD (E0.set p.b9 o9) F3 p.bb p.mm (vis (p.res λi=>hi v (t i)) (vis (p.res λi=>lo v (t i)) S)):=by
    obtain ⟨k1,k2,k3,k4,⟨s,k5,k6,k7⟩,k8⟩:=bd4;refine ⟨λx ob hx=> ?_,k2,by rw [aB _ _ hnb];exact k3,by rw [aB _ _ ne4];exact k4,⟨s,k5,k6,λa ha=> ?_⟩,k8⟩
    ·by_cases hxb:x=p.b9
     ·subst hxb;rw [au] at hx;rw [hm9];exact hx
     ·rw [aB _ _ hxb] at hx;exact k1 _ _ hx
    ·rw [aB _ _ (λe=> ?_)]
     ·exact k7 a ha
     ·obtain ⟨cur,hcur⟩:=k6.elem ha;obtain ⟨es,c,L,rfl,_⟩:=hmo9;rw [e,hm9] at hcur;cases hcur
   refine (yo bd4' hil c2 ⟨D.lt,D.tl,D.th⟩ (by omega)).mono ?_;rintro _ F4 ⟨rfl,bd5⟩;rw [<- D.res,hadd] at bd5 ⊢;have hm5:F4 p.b9=ZO o9:=bd5.le _ _ (au _ _ _);have h65:F4 n6=ZO (ZP (dY (p.key t)) 215):=by
    have hne6:n6≠p.b9:=λe=>by rw [e,hs.n9] at h6;cases h6
    exact bd5.le _ _ (by rw [aB _ _ hne6];exact l0 _ _ h6)
   have bd6:BD E0 F4 p.bb p.mm (vis (p.res t) S):=bd5.weaken (aA PH.le_rfl n94);refine ⟨_,rfl,_,aK bd6.le he0.c6,dY (p.key t),rfl,ac h65,?_⟩;refine aX mt3 hm5 hmo9 (p.key t) _ λo' ho'=> ?_;refine hR _ ?_;refine AS.weaken ?_ l0;have hinT:inn (vis (p.res t) S) (p.res t):=by
    have hokT:(p.res t).ok:=by rw [D.res];exact DH D.lt D.tl D.th D.ol D.oh
    exact (bD _ S hokT hcl).2.1
   refine ⟨bd6.other n94 hnb ne4 (λc e fr h=> ?_),n94,ne4,o',_,au _ _ _,ho',?_⟩
   ·obtain ⟨es,c,L,rfl,_⟩:=hmo9;rw [hm5] at h;cases h
   ·intro k w hkw;dsimp only at hkw;by_cases hk:k=p.key t
    ·rw [Χ hk] at hkw;exact ⟨t,ht,hk,hinT,(Yh hkw).symm⟩
    ·rw [Υ hk] at hkw;obtain ⟨u,u1,u2,u3,u4⟩:=hok9 k w hkw;refine ⟨u,u1,u2,?_,?_⟩
     ·rw [<- hadd];unfold fC;split
      ·exact u3
      ·exact cd u3
     ·rw [u4,<- hadd];unfold fC;split
      ·rfl
      ·rw [bT u3]
theorem Kr (hf:AF p):∀(n:Nat) (t:Nat->Tr),szs t<=n->p.inK t->GU p t:=by
 intro n;induction n with
 |zero=>intro t hn;have:=lf (t 0);unfold szs at hn;omega
 |succ n ih=>
  intro t hn ht F0 F S he hs hfit;show ν 173 #[ZU (dY (p.key t)),_,_,_,_,_] F _;refine TM ?_;unfold NE;intro n6 hn6;refine atI ?_;have hle:=hs.bd.le;have f6:F0 n6=ZR:=aV hle hn6;have hs1:=hs.grow (F:=F.set n6 (ZP (dY (p.key t)) 215)) (ae _ hn6) hn6 (au _ _ _);have l0:F0.le (F0.set n6 (ZP (dY (p.key t)) 215)):=ae _ f6;have he1:=he.le l0;have h6:=au F0 n6 (ZP (dY (p.key t)) 215);generalize F0.set n6 (ZP (dY (p.key t)) 215)=E0 at*;generalize F.set n6 (ZP (dY (p.key t)) 215)=F1 at*;have h6':=hs1.bd.le _ _ h6;have rest:¬((t 0).isL=ZT/\(t 1).isL=ZT/\(t 2).isL=ZT)->gF (ZO ⟨p.b3,0,ZR⟩) (ZO ⟨p.b6,0,ZR⟩) (ZO ⟨p.b2,0,ZR⟩) (ZO ⟨p.b7,0,ZR⟩) (ZO ⟨p.b5,0,ZR⟩) n6 ZQ
    (λr F'=>r=vi (num (vis (p.res t) S) (p.res t))/\AS F0 F' p (vis (p.res t) S)) F1:=λhn'=>
   Kq hf ht (λu hu hlt=>ih u (by omega) hu) he1 hs1 h6 hfit hn' λF' h=>⟨rfl,h.weaken l0⟩
  refine ⟨by omega,by omega,_,by simp only [aG];rw [av h6'];rfl,λh0=> ?_,λh0=> ?_⟩
  ·refine ⟨by omega,by omega,_,by simp only [aG];rw [av h6'];rfl,λh1=> ?_,λh1=> ?_⟩
   ·refine ⟨by omega,by omega,_,by simp only [aG];rw [av h6'];rfl,?_⟩;have k0:=dZ.1 h0;have k1:=dZ.1 h1;by_cases h2:(t 2).isL=ZT
    ·have e:decide ((p.key t).2.2<2)=ZT:=decide_eq_true (dZ.2 h2);dsimp only;rw [e];have hl:(p.res t).isL=ZT:=by
      unfold AP.res;generalize t 0=x0 at*;generalize t 1=x1 at*;generalize t 2=x2 at*;cases x0 with
      |ZM _ _ _=>cases k0
      |ZL a=>
       cases x1 with
       |ZM _ _ _=>cases k1
       |ZL b=>
        cases x2 with
        |ZM _ _ _=>cases h2
        |ZL c=>rw [mX];rfl
     have hvi:vis (p.res t) S=S:=gL (.inl hl);rw [hvi];exact Kp he1 hs1 h6 k0 k1 h2 λF' h=>⟨rfl,(hs1.upto h).weaken l0⟩
    ·have e:decide ((p.key t).2.2<2)=ZQ:=decide_eq_false (λh=>h2 (dZ.1 h));dsimp only;rw [e];exact rest λhc=>h2 hc.2.2
   ·exact rest λhc=>h1 (dZ.2 hc.2.1)
  ·exact rest λhc=>h0 (dZ.2 hc.1)
end
def uE (t:Tr):List Tr:=ZL ZQ::ZL ZT::bo t
theorem nT {t x:Tr} (h:inn (bo t) x):x∈uE t:=by
 unfold uE;cases x with
 |ZL b=>cases b<;>simp
 |ZM v l r=>simp [cS h rfl]
def apL (o:Op3) (a b d:Tr):List Tr:=(uE a).flatMap λx=>(uE b).flatMap λy=>(uE d).map λz=>ap o x y z
theorem Ax (o:Op3) (a b d:Tr):(apL o a b d).length=((bo a).length+2)*(((bo b).length+2)*((bo d).length+2)):=by unfold apL;simp only [List.length_flatMap,XW,List.map_const',List.sum_replicate_nat];simp [uE]
theorem O0 {o:Op3} {a b d:Tr} (ha:a.ok) (hb:b.ok) (hd:d.ok):∀(n:Nat) (x y z:Tr) (S:List Tr),x.sz+y.sz+z.sz<=n->inn (bo a) x->inn (bo b) y->inn (bo d) z->Cl S->
  ∀u∈vis (ap o x y z) S,u∈S\/u∈apL o a b d:=by
 intro n;induction n with
 |zero=>intro x y z S hn;have:=lf x;omega
 |succ n ih=>
  intro x y z S hn hx hy hz hS u hu;have kx:=(bI ha).inn_ok hx;have ky:=(bI hb).inn_ok hy;have kz:=(bI hd).inn_ok hz;have hmem:ap o x y z∈apL o a b d:=Zm.2 ⟨x,nT hx,Zm.2 ⟨y,nT hy,X1.2 ⟨z,nT hz,rfl⟩⟩⟩;by_cases hv:be x y z<64
  ·have hst:=xh (o:=o) kx ky kz hv;have v1:be x y z<=x.top:=by unfold be;omega
   have v2:be x y z<=y.top:=by unfold be;omega
   have v3:be x y z<=z.top:=by unfold be;omega
   have hcase:be x y z=x.top\/be x y z=y.top\/be x y z=z.top:=by unfold be;omega
   generalize be x y z=v at*;have nl:∀{t:Tr},v=t.top->t.isL=ZQ:=λ{t} e=>by
    cases t with
    |ZL b=>simp only [top] at e;omega
    |ZM _ _ _=>rfl
   obtain ⟨al1,al2,al3,al4,al5⟩:=cy kx v1;obtain ⟨bl1,bl2,bl3,bl4,bl5⟩:=cy ky v2;obtain ⟨dl1,dl2,dl3,dl4,dl5⟩:=cy kz v3;obtain ⟨ah1,ah2,ah3,ah4,ah5⟩:=cz kx v1;obtain ⟨bh1,bh2,bh3,bh4,bh5⟩:=cz ky v2;obtain ⟨dh1,dh2,dh3,dh4,dh5⟩:=cz kz v3;have hsl:(lo v x).sz+(lo v y).sz+(lo v z).sz<=n:=by
    rcases hcase with e|e|e
    ·have:=al4 e.symm (nl e);omega
    ·have:=bl4 e.symm (nl e);omega
    ·have:=dl4 e.symm (nl e);omega
   have hsh:(hi v x).sz+(hi v y).sz+(hi v z).sz<=n:=by
    rcases hcase with e|e|e
    ·have:=ah4 e.symm (nl e);omega
    ·have:=bh4 e.symm (nl e);omega
    ·have:=dh4 e.symm (nl e);omega
   obtain ⟨l1,l2,l3⟩:=fG (o:=o) al1 bl1 dl1;obtain ⟨g1,g2,g3⟩:=fG (o:=o) ah1 bh1 dh1;have l2':v<(ap o (lo v x) (lo v y) (lo v z)).top:=by have:=al2 hv;have:=bl2 hv;have:=dl2 hv;unfold be at l2;omega
   have g2':v<(ap o (hi v x) (hi v y) (hi v z)).top:=by have:=ah2 hv;have:=bh2 hv;have:=dh2 hv;unfold be at g2;omega
   have hadd:=sC hS (v:=v) ⟨hv,l2',g2',l1,g1⟩;rw [<- hst] at hadd;rw [<- hadd] at hu;have c1:=(bD _ S l1 hS).1;have key:u∈vis (ap o (hi v x) (hi v y) (hi v z)) (vis (ap o (lo v x) (lo v y) (lo v z)) S)->u∈S\/u∈apL o a b d:=λhu=>by
    rcases ih _ _ _ _ hsh ((bI ha).inn_hi hx v) ((bI hb).inn_hi hy v) ((bI hd).inn_hi hz v) c1 u hu with h|h
    ·exact ih _ _ _ _ hsl ((bI ha).inn_lo hx v) ((bI hb).inn_lo hy v) ((bI hd).inn_lo hz v) hS u h
    ·exact .inr h
   unfold fC at hu;split at hu
   ·exact key hu
   ·rcases XR.1 hu with hu|hu
    ·exact key hu
    ·rw [XO.1 hu];exact .inr hmem
  ·have isl:∀{t:Tr},t.ok->64<=t.top->∃b,t=ZL b:=λ{t} ht h64=>gK ht h64;unfold be at hv;obtain ⟨p,rfl⟩:=isl kx (by omega);obtain ⟨q,rfl⟩:=isl ky (by omega);obtain ⟨r,rfl⟩:=isl kz (by omega);rw [mX] at hu;exact .inl hu
theorem EG {o:Op3} {a b d:Tr} (ha:a.ok) (hb:b.ok) (hd:d.ok):(bo (ap o a b d)).length<=((bo a).length+2)*(((bo b).length+2)*((bo d).length+2)):=by
 rw [<- Ax o a b d];refine dO _ _ (bI (Iq ha hb hd)).nodup λx hx=> ?_;rcases O0 ha hb hd _ a b d [] (XS _) (bY ha) (bY hb) (bY hd) .nil x hx with h|h
 ·cases h
 ·exact h
def mB {α:Type} (a b c:α):Nat->α
 |0=>a
 |1=>b
 |_=>c
theorem gy {F:PH} {b e1:Nat} {c4:Γ} {K:Γ->Ψ} {G:PH} {d:Dia} {cs:Γ} (hd:DV G cs d) (h4:F b=ZO (ZP c4 e1 (0,0))) (hc4:c4.size=2) (hk:K cs (F.set b (ZP cs e1))):
  cs.size=2/\(∀v∈cs.toList,am v)/\∃c e,F (ZX b 0 ZR).block=ZO (ZP c e (0,0))/\(ZX b 0 ZR).spot=ZR/\(ZX b 0 ZR).off+2<=c.size/\
   atF (F.set (ZX b 0 ZR).block (ZP (wr c (ZX b 0 ZR).off cs.toList) e)) λF=>∃vres:Γ,vres.size=2/\F.row (ZX b 0 ZR) vres/\K vres F:=
 stW h4 hd.size hc4 hd.st ⟨cs,hd.size,ac (au _ _ _),hk⟩
theorem OpV.cells {F:PH} {v:ξ} {o:Op3} (h:OpV F v o):v.cells= #[v]:=by obtain ⟨k,f,c,rfl,_⟩:=h;rfl
def d6 (F:PH) (a:Nat):PH:=λx=>if x=a then ZR else F x
theorem CM (F:PH) (a:Nat):(d6 F a).le F:=λx o h=>by
 unfold d6 at h;split at h
 ·cases h
 ·exact h
theorem fj {F:PH} {a x:Nat} (h:x≠a):d6 F a x=F x:=by simp [d6,h]
theorem Ay (F:PH) (a:Nat):d6 F a a=ZR:=by simp [d6]
theorem eO {F G:PH} {a:Nat} (h:F.le G) (ha:F a=ZR):F.le (d6 G a):=λx o hx=>by
 have h1:x≠a:=λe=>by rw [e,ha] at hx;cases hx
 rw [fj h1];exact h _ _ hx
theorem aj.avoid {P:Program} {f:FuncId} {args:Γ} {F:PH} {x:Nat} {o:Obj} {R:ξ->Ψ} (h:aj P f args (d6 F x) R) (hx:F x=ZO o):
  aj P f args F λv F'=>∃G,R v G/\G.le F'/\F' x=ZO o/\G x=ZR:=
 (h.upon (CM F x)).mono λv F' ⟨G,hr,hl,hb⟩=>by obtain ⟨h1,h2⟩:=hb x o (Ay F x) hx;exact ⟨G,hr,hl,h1,h2⟩
theorem ik {F G F':PH} {x:Nat} {o:Obj} (h:(d6 F x).le G) (hl:G.le F') (hx:F' x=ZO o) (hF:F x=ZO o):F.le F':=λb ob hb=>by
 by_cases hbx:b=x
 ·subst hbx;rw [hF] at hb;rw [hx];exact hb
 ·exact hl _ _ (h _ _ (by rw [fj hbx];exact hb))
section
variable {F:PH} {s0 s1 s2:Sl} {t0 t1 t2:Tr} {opv:ξ} {o:Op3}
theorem wI (h0:RdS F s0 3 (ba (dia t0).1)) (h1:RdS F s1 3 (ba (dia t1).1)) (h2:RdS F s2 3 (ba (dia t2).1)) (k0:t0.ok) (k1:t1.ok) (k2:t2.ok)
  (f0:Fit ((bo t0).length+2)) (f1:Fit ((bo t1).length+2)) (f2:Fit ((bo t2).length+2)) (hf:Fit ((bo (ap o t0 t1 t2)).length+4)) (hop:OpV F opv o):
  ν 127 #[ZU #[s0.v,vi (dia t0).2,s1.v,vi (dia t1).2,s2.v,vi (dia t2).2],opv] F λr F'=>∃w,r=ZU w/\DV F' w (dia (ap o t0 t1 t2))/\F.le F':=by
 refine TF ?_;unfold Ny;intro b2 hb2;refine atI ?_;have l2:=ae (ZP #[s0.v,vi (dia t0).2,s1.v,vi (dia t1).2,s2.v,vi (dia t2).2] 169) hb2;have q2:=au F b2 (ZP #[s0.v,vi (dia t0).2,s1.v,vi (dia t1).2,s2.v,vi (dia t2).2] 169);generalize F.set b2 (ZP #[s0.v,vi (dia t0).2,s1.v,vi (dia t1).2,s2.v,vi (dia t2).2] 169)=F2 at*;refine ⟨hop.cells,λb3 hb3=> ?_⟩;refine atI ?_;have lx:=ae (ZP #[opv] 170) hb3;have q3:=au F2 b3 (ZP #[opv] 170);have q2:=lx _ _ q2;have l3:=l2.trans lx;clear lx;generalize F2.set b3 (ZP #[opv] 170)=F3 at*;intro b4 hb4;refine atI ?_;have f4:F b4=ZR:=aV l3 hb4;have lx:=ae (ZP zD 31) hb4;have q4:=au F3 b4 (ZP zD 31);have q2:=lx _ _ q2;have q3:=lx _ _ q3;have l4:=l3.trans lx;clear lx;generalize F3.set b4 (ZP zD 31)=F4 at*;refine (ph F4).mono ?_;rintro _ G ⟨bb,mm,rfl,hne,bd⟩;refine ⟨_,rfl,?_⟩;intro b5 hb5;refine atI ?_;refine st1 (au _ _ _) (by simp) ?_;rw [aW,show (#[ZZ ZR].setIfInBounds (ZX b5 0 ZR).off (ZZ (ZO ⟨bb,0,ZR⟩)):Γ)= #[ZZ (ZO ⟨bb,0,ZR⟩)] from rfl];have g5:F4 b5=ZR:=aV bd.le hb5;have bd5:=bd.grow (F:=G.set b5 (ZP #[ZZ (ZO ⟨bb,0,ZR⟩)] 196)) (ae _ hb5) hb5 (au _ _ _);have e5:=au F4 b5 (ZP #[ZZ (ZO ⟨bb,0,ZR⟩)] 196);have l5:=ae (ZP #[ZZ (ZO ⟨bb,0,ZR⟩)] 196) g5;generalize F4.set b5 (ZP #[ZZ (ZO ⟨bb,0,ZR⟩)] 196)=E5 at*;generalize G.set b5 (ZP #[ZZ (ZO ⟨bb,0,ZR⟩)] 196)=G5 at*;intro b9 hb9;refine atI ?_;have bd9:=bd5.upto (ae (.map #[] 0) hb9);have g9:E5 b9=ZR:=aV bd5.le hb9;have hmo:=eM.empty Kk;have e9:=au G5 b9 (.map #[] 0);have hnm:mm≠b9:=by obtain ⟨om,hom,_⟩:=bd5.map;exact aI hb9 hom
 generalize G5.set b9 (.map #[] 0)=G9 at*;intro b6 hb6;refine atI ?_;refine st1 (au _ _ _) (by simp) ?_;rw [aW,show (#[Value.map ZR].setIfInBounds (ZX b6 0 ZR).off (Value.map (ZO b9)):Γ)= #[Value.map (ZO b9)] from rfl];intro b7 hb7;refine atI ?_;refine st1 (au _ _ _) (by simp) ?_;rw [aW]
 let p:AP:=⟨b3,b6,b2,b7,b5,bb,mm,b9,opv,o,mB (dia t0) (dia t1) (dia t2),mB (bo t0) (bo t1) (bo t2)⟩
 have hs0:AS E5 G9 p []:=⟨bd9,g9,hnm,_,_,e9,hmo,λk v hkv=>by cases hkv⟩;have hs1:=hs0.grow (F:=G9.set b6 (ZP #[Value.map (ZO b9)] 213)) (ae _ hb6) hb6 (au _ _ _);have hs2:=hs1.grow (F:=(G9.set b6 (ZP #[Value.map (ZO b9)] 213)).set b7 (ZP #[.func (.func 173) #[] p.caps] 214)) (ae _ hb7) hb7 (au _ _ _);have g6:E5 b6=ZR:=aV bd9.le hb6;have g7:(E5.set b6 (ZP #[Value.map (ZO b9)] 213)) b7=ZR:=aV hs1.bd.le hb7;have l6:=ae (ZP #[Value.map (ZO b9)] 213) g6;have l7:=ae (ZP #[.func (.func 173) #[] p.caps] 214) g7;have e6:=l7 _ _ (au E5 b6 (ZP #[Value.map (ZO b9)] 213));have e7:=au (E5.set b6 (ZP #[Value.map (ZO b9)] 213)) b7 (ZP #[.func (.func 173) #[] p.caps] 214);have lE:F4.le ((E5.set b6 (ZP #[Value.map (ZO b9)] 213)).set b7 (ZP #[.func (.func 173) #[] p.caps] 214)):=l5.trans (l6.trans l7);have e5:=(l6.trans l7) _ _ e5;rw [show (#[Value.nilFunc].setIfInBounds 0 (Value.func (.func 173) #[] #[ZZ (ZO ⟨b3,0,ZR⟩),ZZ (ZO ⟨b6,0,ZR⟩),ZZ (ZO ⟨b2,0,ZR⟩),ZZ (ZO ⟨b7,0,ZR⟩),ZZ (ZO ⟨b5,0,ZR⟩)]):Γ)= #[.func (.func 173) #[] p.caps] from rfl];generalize (E5.set b6 (ZP #[Value.map (ZO b9)] 213)).set b7 (ZP #[.func (.func 173) #[] p.caps] 214)=E7 at*;generalize (G9.set b6 (ZP #[Value.map (ZO b9)] 213)).set b7 (ZP #[.func (.func 173) #[] p.caps] 214)=G7 at*;have lF:=l4.trans lE;have he:AE E7 p:=by
  refine ⟨?_,?_,λi hi=> ?_,?_,?_,hop.le lF⟩
  ·show E7.cell ⟨b3,0,ZR⟩=ZO opv;rw [av (lE _ _ q3)];rfl
  ·show E7.cell ⟨b6,0,ZR⟩=ZO _;rw [av e6];rfl
  ·have row:∀(j:Nat) (s:Sl) (r:Int),(#[s0.v,vi (dia t0).2,s1.v,vi (dia t1).2,s2.v,vi (dia t2).2]:Γ)[j]? =ZO s.v->(#[s0.v,vi (dia t0).2,s1.v,vi (dia t1).2,s2.v,vi (dia t2).2]:Γ)[j+1]? =ZO (vi r)->
     E7.row ⟨b2,j,ZR⟩ #[s.v,vi r]:=λj s r h1 h2 i hi=>by
    simp only [aG];rw [av (lE _ _ q2)]
    match i,hi with
    |0,_=>simpa using h1
    |1,_=>simpa using h2
   match i,hi with
   |0,_=>exact ⟨_,row 0 s0 _ rfl rfl,s0,rfl,h0.le lF⟩
   |1,_=>exact ⟨_,row 2 s1 _ rfl rfl,s1,rfl,h1.le lF⟩
   |2,_=>exact ⟨_,row 4 s2 _ rfl rfl,s2,rfl,h2.le lF⟩
  ·show E7.cell ⟨b7,0,ZR⟩=ZO _;rw [av e7];rfl
  ·show E7.cell ⟨b5,0,ZR⟩=ZO _;rw [av e5];rfl
 have hfa:AF p:=by
  refine ⟨λi hi=> ?_,λi hi=> ?_,λi hi=> ?_⟩
  ·match i,hi with
   |0,_=>exact bI k0
   |1,_=>exact bI k1
   |2,_=>exact bI k2
  ·match i,hi with
   |0,_=>exact ZD _
   |1,_=>exact ZD _
   |2,_=>exact ZD _
  ·match i,hi with
   |0,_=>show Fit ((brs (bo t0)).length+2);rw [aP];exact f0
   |1,_=>show Fit ((brs (bo t1)).length+2);rw [aP];exact f1
   |2,_=>show Fit ((brs (bo t2)).length+2);rw [aP];exact f2
 have q2':=hs2.bd.le _ _ (lE _ _ q2)
 refine ⟨_,aK hs2.bd.le he.c5,_,aK hs2.bd.le he.c7,by omega,by omega,(dia t0).2,by simp only [aG];rw [av q2'];rfl,by omega,by omega,(dia t1).2,by simp only [aG];rw [av q2'];rfl,
  by omega,by omega,(dia t2).2,by simp only [aG];rw [av q2'];rfl,_,_,_,rfl,GT,?_⟩
 have hres:p.res (mB t0 t1 t2)=ap o t0 t1 t2:=rfl;have hat:=Kr hfa _ (mB t0 t1 t2) (XS _) ⟨bY k0,bY k1,bY k2⟩ E7 G7 [] he hs2 (by rw [hres];exact hf);rw [hres] at hat;refine hat.mono ?_;rintro _ F5 ⟨rfl,hs3⟩;have q2'':=hs3.bd.le _ _ (lE _ _ q2);refine ⟨_,rfl,by simp only [aG];rw [av q2''];rfl,by simp only [aG];rw [av q2''];rfl,by simp only [aG];rw [av q2''];rfl,aK hs3.bd.le he.c5,?_⟩;have hkT:=Iq (o:=o) k0 k1 k2;obtain ⟨_,hcl,_,_,⟨sb,hbb,hob,_⟩,_⟩:=hs3.bd;have hle3:=hs3.bd.le;clear hs3;have ev:vis (ap o t0 t1 t2) []=bo (ap o t0 t1 t2):=rfl;rw [ev] at*;have h45:=hle3 _ _ (lE _ _ q4);replace hbb:F5 bb=ZO (ZP #[sb.v,Value.map (ZO mm)] 199):=hbb;have nbb:bb≠b4:=λe=>by rw [e,h45] at hbb;simp at hbb
 have hob':bX (d6 F5 b4) 124 3 sb (ba (brs (bo (ap o t0 t1 t2)))):=hob.keep λa ha=>by obtain ⟨cur,hcur⟩:=hob.elem ha;refine fj (λe=> ?_);rw [e,h45] at hcur;cases hcur
 refine (aj.avoid (mA (b:=bb) (F:=d6 F5 b4) (ns:=sb) (by rw [av ((fj nbb).trans hbb)];rfl) hob'.rd hcl (bY hkT) hf) h45).mono ?_;rintro _ F6 ⟨G6,⟨w,rfl,hw,l6'⟩,lg,h46,hg4⟩;have l56:=ik l6' lg h46 h45;have q2f:=l56 _ _ q2'';refine ⟨_,rfl,by simp only [aG];rw [av q2f];rfl,by simp only [aG];rw [av q2f];rfl,by simp only [aG];rw [av q2f];rfl,?_⟩;exact gy (K:=λvres F'=>∃w,ZU vres=ZU w/\DV F' w (dia (ap o t0 t1 t2))/\F.le F') hw h46 rfl ⟨w,rfl,hw.le (aA lg hg4),aA (lF.trans (hle3.trans l56)) f4⟩
end
abbrev oL:Dia:=([],0)
abbrev DR:=Dia×Int
def mC:List Dia->Int
 |[]=>0
 |d::r=>if chk d≠0 then chk d else mC r
open Classical in
def tre (d:Dia):Tr:=if h:jb d then h.choose else ZL ZQ
theorem iK {t:Tr} (h:t.ok):tre (dia t)=t:=by have hv:jb (dia t):=⟨t,h,rfl⟩;unfold tre;rw [dif_pos hv];exact (mY h hv.choose_spec.1 hv.choose_spec.2).symm
theorem O1 {d:Dia} (h:chk d=0):(tre d).ok/\d=dia (tre d)/\d.1.length<=4096:=by
 unfold chk at h;split at h
 ·cases h
 ·rename_i hl;split at h
  ·rename_i hv;unfold tre;rw [dif_pos hv];exact ⟨hv.choose_spec.1,hv.choose_spec.2,by omega⟩
  ·cases h
theorem CN {t:Tr} (h:t.ok) (hl:(bo t).length<=4096):chk (dia t)=0:=by unfold chk;rw [Υ (by simp only [dia,aP];omega),Χ ⟨t,h,rfl⟩]
theorem yt {d:Dia} (h:chk d=0):(bo (tre d)).length<=4096:=by obtain ⟨_,h2,h3⟩:=O1 h;rw [h2] at h3;simpa [dia,aP] using h3
def lim (d:Dia):DR:=if 4096<d.1.length then (oL,2) else (d,0)
abbrev Op2:=Bool->Bool->Bool
def bin (o:Op2) (a b:Dia):DR:=if mC [a,b]≠0 then (oL,mC [a,b]) else lim (dia (ap (λx y _=>o x y) (tre a) (tre b) (ZL ZQ)))
def DRV (F:PH) (v:ξ) (x:DR):Prop:=∃w,v=Z2 #[ZU w,vi x.2]/\DV F w x.1
theorem DRV.le {F G:PH} {v:ξ} {x:DR} (h:DRV F v x) (hl:F.le G):DRV G v x:=by obtain ⟨w,h1,h2⟩:=h;exact ⟨w,h1,h2.le hl⟩
theorem DV.none (F:PH):DV F zD oL:=⟨Z3,rfl,RdS.nil F 3⟩
theorem yu {F:PH} {x:Nat} {dd:List Dia} {n:Nat} (hn:n=dd.length) (hs:n<=100) (h:∀i (hi:i<dd.length),∃w,F.row ⟨x,i*2,ZR⟩ w/\DV F w dd[i]):
  ν 95 #[(Sl.mk (ZO ⟨x,0,ZR⟩) n n).v] F λr F'=>r=vi (mC dd)/\F.le F':=by
 subst hn;refine W9 ?_;unfold TB;refine ⟨λm i F'=>∃k:Nat,i=k/\k<=dd.length/\m=dd.length - k/\F.le F'/\mC dd=mC (dd.drop k),dd.length,⟨0,rfl,by omega,rfl,PH.le_rfl,rfl⟩,?_⟩;rintro m i F1 ⟨k,rfl,hk,rfl,hle,hch⟩;unfold Hp;refine ⟨λhlt=> ?_,λhge=> ?_⟩
 ·have hkd:k<dd.length:=by simpa using hlt
  obtain ⟨w,hr,hd⟩:=h k hkd;refine ⟨_,rfl,by omega,hlt,w,hd.size,by simpa using aT hle hr,?_⟩;intro b4 hb4;refine atI ?_;refine stW (au _ _ _) hd.size rfl hd.st ?_;rw [aW];have l4:=ae (ZP w 31) hb4;refine ⟨w,hd.size,ac (au _ _ _),?_⟩;refine (sE (hd.le (hle.trans l4))).mono ?_;rintro _ F2 ⟨rfl,l5⟩;rw [List.drop_eq_getElem_cons hkd] at hch;refine ⟨_,rfl,λhne=> ?_,λhe=> ?_⟩
  ·refine ⟨?_,(hle.trans l4).trans l5⟩;rw [hch];unfold mC;rw [Χ hne]
  ·refine ⟨dd.length - (k+1),by omega,k+1,fF (by omega),by omega,rfl,(hle.trans l4).trans l5,?_⟩;rw [hch]
   conv=>lhs;unfold mC
   rw [Υ he]
 ·unfold Ho;have hk':k=dd.length:=by
   have:¬k<dd.length:=by simpa using hge
   omega
  refine ⟨?_,hle⟩;rw [hch,hk',YB];rfl
theorem wJ {F:PH} {v:Γ} {d:Dia} (hd:DV F v d):ν 126 #[ZU v] F λr F'=>DRV F' r (lim d)/\F.le F':=by
 have hd':=hd;obtain ⟨s,rfl,hr⟩:=hd;have hlen:=hr.blen;refine TE ?_;unfold Nw;intro b1 hb1;refine atI ?_;have l1:=ae (ZP #[s.v,vi d.2] 31) hb1;have h1:=au F b1 (ZP #[s.v,vi d.2] 31);generalize F.set b1 (ZP #[s.v,vi d.2] 31)=F1 at*;intro b2 hb2;refine atI ?_;have l2:=l1.trans (ae (ZP zD 31) hb2);have n12:b1≠b2:=aI hb2 h1;have f2:F b2=ZR:=aV l1 hb2;refine ⟨s,by rw [av ((aB _ _ n12).trans h1)];rfl,λh=> ?_,λh=> ?_⟩
 ·refine gy (K:=λvres F'=>DRV F' (Z2 #[ZU vres,vi 2]) (lim d)/\F.le F') (DV.none F) (au _ _ _) rfl ⟨?_,aA l2 f2⟩;unfold lim;rw [Χ (by omega)];exact ⟨_,rfl,DV.none _⟩
 ·refine ⟨#[s.v,vi d.2],rfl,ac ((aB _ _ n12).trans h1),?_⟩;refine gy (K:=λvres F'=>DRV F' (Z2 #[ZU vres,vi 0]) (lim d)/\F.le F') hd' (au _ _ _) rfl ⟨?_,aA l2 f2⟩;unfold lim;rw [Υ (by omega)];exact ⟨_,rfl,hd'.le (aA l2 f2)⟩
def Kt (F0:PH) (v:ξ) (o:Op2):Prop:=∃(k:Nat) (fst cap:Γ),v=.func (.func k) fst cap/\aE prog k=ZT/\
 ∀(x y:Bool) (F:PH),F0.le F->aj prog k (fst++[ZV x,ZV y].toArray++cap) F λr F'=>r=ZV (o x y)/\F.le F'
theorem SY:aE prog 128=ZT:=by kernel_rfl
theorem Ku {F0:PH} {b:Nat} {v:ξ} {o:Op2} (hb:F0.cell ⟨b,0,ZR⟩=ZO v) (h:Kt F0 v o):OpV F0 (.func (.func 128) #[] #[ZZ (ZO ⟨b,0,ZR⟩)]) (λx y _=>o x y):=by refine ⟨128,#[],#[ZZ (ZO ⟨b,0,ZR⟩)],rfl,SY,λx y z F hle=> ?_⟩;obtain ⟨k,fst,cap,rfl,hcb,hsp⟩:=h;refine TG ?_;unfold Nz;refine ⟨_,rfl,_,aK hle hb,k,fst,cap,rfl,hcb,?_⟩;refine (hsp x y F hle).mono ?_;rintro _ F' ⟨rfl,hl⟩;exact ⟨_,rfl,rfl,hl⟩
theorem GW {a b c:Nat} (ha:a<=4096) (hb:b<=4096) (hc:c<=4096):(a+2)*((b+2)*(c+2))<=68820189192:=by
 calc (a+2)*((b+2)*(c+2))<=4098*(4098*4098):=Nat.mul_le_mul (by omega) (Nat.mul_le_mul (by omega) (by omega))
  _<=68820189192:=by decide
theorem SZ {a b:Dia} (h:¬mC [a,b]≠0):chk a=0/\chk b=0:=by
 unfold mC at h;split at h
 ·exact absurd (by assumption) h
 ·rename_i ha;unfold mC at h;split at h
  ·exact absurd (by assumption) h
  ·rename_i hb;omega
section
variable {F:PH} {v w:Γ} {a b:Dia} {opv:ξ} {o:Op2}
theorem oM (ha:DV F v a) (hb:DV F w b) (hop:Kt F opv o):ν 77 #[ZU v,ZU w,opv] F λr F'=>DRV F' r (bin o a b)/\F.le F':=by
 have ha':=ha;have hb':=hb;obtain ⟨s,rfl,hr⟩:=ha;obtain ⟨t,rfl,ht⟩:=hb;refine W6 ?_;unfold Ty;intro b3 hb3;refine atI ?_;have l3:=ae (ZP #[s.v,vi a.2] 31) hb3;have q3:=au F b3 (ZP #[s.v,vi a.2] 31);generalize F.set b3 (ZP #[s.v,vi a.2] 31)=F3 at*;intro b4 hb4;refine atI ?_;have lx:=ae (ZP #[t.v,vi b.2] 31) hb4;have q4:=au F3 b4 (ZP #[t.v,vi b.2] 31);have q3:=lx _ _ q3;have l4:=l3.trans lx;clear lx;generalize F3.set b4 (ZP #[t.v,vi b.2] 31)=F4 at*;refine ⟨by obtain ⟨k,f,c,rfl,_⟩:=hop;rfl,λb5 hb5=> ?_⟩;refine atI ?_;have lx:=ae (ZP #[opv] 121) hb5;have q5:=au F4 b5 (ZP #[opv] 121);have q3:=lx _ _ q3;have q4:=lx _ _ q4;have l5:=l4.trans lx;clear lx;generalize F4.set b5 (ZP #[opv] 121)=F5 at*;intro b6 hb6;refine atI ?_;have f6:F b6=ZR:=aV l5 hb6;have n3:b3≠b6:=aI hb6 q3;have n4:b4≠b6:=aI hb6 q4;have n5:b5≠b6:=aI hb6 q5;have lx:=ae (ZP zD 31) hb6;have q6:=au F5 b6 (ZP zD 31);have q3:=lx _ _ q3;have q4:=lx _ _ q4;have q5:=lx _ _ q5;have l6:=l5.trans lx;clear lx;generalize F5.set b6 (ZP zD 31)=F6 at*;refine ⟨#[s.v,vi a.2],rfl,ac q3,#[t.v,vi b.2],rfl,ac q4,rfl,rfl,λb11 hb11=> ?_⟩;refine atI ?_;have e11:wr (wr (#[Z7 ZR 0 0,vi 0,Z7 ZR 0 0,vi 0]:Γ) 0 (#[s.v,vi a.2]:Γ).toList) 2 (#[t.v,vi b.2]:Γ).toList= #[s.v,vi a.2,t.v,vi b.2]:=rfl;rw [e11];have lx:=ae (ZP #[s.v,vi a.2,t.v,vi b.2] 31) hb11;have q11:=au F6 b11 (ZP #[s.v,vi a.2,t.v,vi b.2] 31);have q3:=lx _ _ q3;have q4:=lx _ _ q4;have q5:=lx _ _ q5;have q6:=lx _ _ q6;have l11:=l6.trans lx;clear lx;generalize F6.set b11 (ZP #[s.v,vi a.2,t.v,vi b.2] 31)=F7 at*;refine (yu (F:=F7) (x:=b11) (dd:=[a,b]) (n:=2) rfl (by omega) (λi hi=> ?_)).mono ?_
 ·have row:∀(j:Nat) (s':Sl) (r:Int),(#[s.v,vi a.2,t.v,vi b.2]:Γ)[j]? =ZO s'.v->(#[s.v,vi a.2,t.v,vi b.2]:Γ)[j+1]? =ZO (vi r)->F7.row ⟨b11,j,ZR⟩ #[s'.v,vi r]:=λj s' r h1 h2 i hi=>by
   simp only [aG];rw [av q11]
   match i,hi with
   |0,_=>simpa using h1
   |1,_=>simpa using h2
  match i,hi with
  |0,_=>exact ⟨_,row 0 s _ rfl rfl,ha'.le l11⟩
  |1,_=>exact ⟨_,row 2 t _ rfl rfl,hb'.le l11⟩
 rintro _ F8 ⟨rfl,l8⟩;have q3:=l8 _ _ q3;have q4:=l8 _ _ q4;have q5:=l8 _ _ q5;have q6:=l8 _ _ q6;have l8:=l11.trans l8;refine ⟨_,rfl,λh=> ?_,λh=> ?_⟩
 ·refine gy (K:=λvres F'=>DRV F' (Z2 #[ZU vres,vi (mC [a,b])]) (bin o a b)/\F.le F') (DV.none F) q6 rfl ⟨?_,aA l8 f6⟩;unfold bin;rw [Χ h];exact ⟨_,rfl,DV.none _⟩
 ·obtain ⟨hca,hcb⟩:=SZ h;obtain ⟨ka,ea,la⟩:=O1 hca;obtain ⟨kb,eb,lb⟩:=O1 hcb;have sa:=yt hca;have sb:=yt hcb;have hlen:=EG (o:=λx y _=>o x y) ka kb (d:=ZL ZQ) trivial;have hpf:=GW sa sb (c:=(bo (ZL ZQ)).length) (by simp [bo,vis]);refine ⟨#[s.v,vi a.2],rfl,ac q3,#[t.v,vi b.2],rfl,ac q4,rfl,rfl,rfl,?_⟩;have hbin:bin o a b=lim (dia (ap (λx y _=>o x y) (tre a) (tre b) (ZL ZQ))):=by unfold bin;rw [Υ h]
  rw [hbin];have ld:F.le (d6 F8 b6):=eO l8 f6;have hc:=wI (F:=d6 F8 b6) (s0:=s) (s1:=t) (s2:=Z3) (t0:=tre a) (t1:=tre b) (t2:=ZL ZQ) (opv:=.func (.func 128) #[] #[ZZ (ZO ⟨b5,0,ZR⟩)]) (o:=λx y _=>o x y)
   (by rw [<- ea];exact hr.le ld) (by rw [<- eb];exact ht.le ld) (RdS.nil _ _) ka kb trivial (by omega) (by omega) (by simp [bo,vis]) (by omega)
   (Ku (b:=b5) (v:=opv) (by rw [av ((fj n5).trans q5)];rfl) (by
    obtain ⟨k,f,c,h1,h2,h3⟩:=hop
    exact ⟨k,f,c,h1,h2,λx y G hG=>h3 x y G (ld.trans hG)⟩))
  rw [<- ea,<- eb] at hc;refine (aj.avoid hc q6).mono ?_;rintro _ F9 ⟨G,⟨w,rfl,hw,lg⟩,lG,q6',g6⟩;have l9:=ik lg lG q6' q6;refine ⟨_,rfl,?_⟩;have hw':DV (d6 F9 b6) w (dia (ap (λx y _=>o x y) (tre a) (tre b) (ZL ZQ))):=hw.le (λx ob hx=>by rw [fj (λe=>by rw [e,g6] at hx;cases hx)];exact lG _ _ hx);refine (aj.avoid (wJ hw') q6').mono ?_;rintro _ F10 ⟨G',⟨⟨w',rfl,hw''⟩,lg'⟩,lG',q6'',g6'⟩;have l10:=ik lg' lG' q6'' q6';refine ⟨_,_,rfl,?_⟩;exact gy (K:=λvres F'=>DRV F' (Z2 #[ZU vres,vi _]) (lim (dia (ap (λx y _=>o x y) (tre a) (tre b) (ZL ZQ))))/\F.le F') hw'' q6'' rfl ⟨⟨_,rfl,hw''.le (aA lG' g6')⟩,aA (l8.trans (l9.trans l10)) f6⟩
end
theorem DV.beside {F G:PH} {x:Nat} {w:Γ} {d:Dia} (h:DV G w d) (hl:G.le F) (hx:G x=ZR):DV (d6 F x) w d:=
 h.le λy ob hy=>by rw [fj (λe=>by rw [e,hx] at hy;cases hy)];exact hl _ _ hy
theorem Az {f:FuncId} {args:Γ} {F:PH} {x:Nat} {o:Obj} {y:DR} (h:aj prog f args (d6 F x) λr F'=>DRV F' r y/\(d6 F x).le F') (hx:F x=ZO o):
  aj prog f args F λr F'=>∃w,r=Z2 #[ZU w,vi y.2]/\(∃G,DV G w y.1/\G.le F'/\G x=ZR)/\F.le F'/\F' x=ZO o:=
 (aj.avoid h hx).mono λr _ ⟨G,⟨⟨w,hr,hw⟩,lg⟩,lG,q,g⟩=>⟨w,hr,⟨G,hw,lG,g⟩,ik lg lG q hx,q⟩
theorem jc {f:FuncId} {args:Γ} {F:PH} {x:Nat} {o:Obj} {d:Dia} (h:aj prog f args (d6 F x) λr F'=>∃w,r=ZU w/\DV F' w d/\(d6 F x).le F') (hx:F x=ZO o):
  aj prog f args F λr F'=>∃w,r=ZU w/\(∃G,DV G w d/\G.le F'/\G x=ZR)/\F.le F'/\F' x=ZO o:=
 (aj.avoid h hx).mono λr _ ⟨G,⟨w,hr,hw,lg⟩,lG,q,g⟩=>⟨w,hr,⟨G,hw,lG,g⟩,ik lg lG q hx,q⟩
theorem Na {F G F0:PH} {b e1:Nat} {c4:Γ} {y:DR} {w:Γ} (hw:DV G w y.1) (hl:G.le F) (hg:G b=ZR) (h4:F b=ZO (ZP c4 e1 (0,0))) (hc4:c4.size=2) (h0:F0.le F) (hb:F0 b=ZR):
  w.size=2/\(∀v∈w.toList,am v)/\∃c e,F (ZX b 0 ZR).block=ZO (ZP c e (0,0))/\(ZX b 0 ZR).spot=ZR/\(ZX b 0 ZR).off+2<=c.size/\
   atF (F.set (ZX b 0 ZR).block (ZP (wr c (ZX b 0 ZR).off w.toList) e)) λF=>∃vres:Γ,vres.size=2/\F.row (ZX b 0 ZR) vres/\DRV F (Z2 #[ZU vres,vi y.2]) y/\F0.le F:=
 gy (K:=λvres F'=>DRV F' (Z2 #[ZU vres,vi y.2]) y/\F0.le F') hw h4 hc4 ⟨⟨_,rfl,hw.le (aA hl hg)⟩,aA h0 hb⟩
theorem O2 {F F0:PH} {b e1:Nat} {c4:Γ} {er:Int} (h4:F b=ZO (ZP c4 e1 (0,0))) (hc4:c4.size=2) (h0:F0.le F) (hb:F0 b=ZR):
  (zD:Γ).size=2/\(∀v∈(zD:Γ).toList,am v)/\∃c e,F (ZX b 0 ZR).block=ZO (ZP c e (0,0))/\(ZX b 0 ZR).spot=ZR/\(ZX b 0 ZR).off+2<=c.size/\
   atF (F.set (ZX b 0 ZR).block (ZP (wr c (ZX b 0 ZR).off (zD:Γ).toList) e)) λF=>∃vres:Γ,vres.size=2/\F.row (ZX b 0 ZR) vres/\DRV F (Z2 #[ZU vres,vi er]) (oL,er)/\F0.le F:=
 gy (K:=λvres F'=>DRV F' (Z2 #[ZU vres,vi er]) (oL,er)/\F0.le F') (DV.none F) h4 hc4 ⟨⟨_,rfl,DV.none _⟩,aA h0 hb⟩
abbrev aY:Op2:=λx y=>x && y
abbrev oOr:Op2:=λx y=>x || y
abbrev kV:Op2:=λx y=> !(x==y)
theorem WR:aE prog 87=ZT:=by kernel_rfl
theorem WT:aE prog 78=ZT:=by kernel_rfl
theorem WU (F0:PH):Kt F0 (.func (.func 87) #[] #[]) aY:=⟨87,#[],#[],rfl,WR,λx y F _=>by
 refine W8 ?_;unfold TA
 exact ⟨λh=>⟨by simp [h],PH.le_rfl⟩,λh=>⟨by simp [h],PH.le_rfl⟩⟩⟩
theorem WV (F0:PH):Kt F0 (.func (.func 78) #[] #[]) oOr:=⟨78,#[],#[],rfl,WT,λx y F _=>by
 refine W7 ?_;unfold Tz
 exact ⟨λh=>⟨by simp [h],PH.le_rfl⟩,λh=>⟨by simp [h],PH.le_rfl⟩⟩⟩
section
variable {F:PH} {v w u:Γ} {a b c:Dia}
theorem GX (ha:DV F v a) (hb:DV F w b):ν 35 #[ZU v,ZU w] F λr F'=>DRV F' r (bin aY a b)/\F.le F':=by refine W5 ?_;unfold Tx;intro b2 hb2;refine atI ?_;have l2:=ae (ZP v 31) hb2;have q2:=au F b2 (ZP v 31);generalize F.set b2 (ZP v 31)=F2 at*;intro b3 hb3;refine atI ?_;have lx:=ae (ZP w 31) hb3;have q3:=au F2 b3 (ZP w 31);have q2:=lx _ _ q2;have l3:=l2.trans lx;clear lx;generalize F2.set b3 (ZP w 31)=F3 at*;intro b4 hb4;refine atI ?_;have f4:F b4=ZR:=aV l3 hb4;have lx:=ae (ZP zD 31) hb4;have q4:=au F3 b4 (ZP zD 31);have q2:=lx _ _ q2;have q3:=lx _ _ q3;have l4:=l3.trans lx;clear lx;generalize F3.set b4 (ZP zD 31)=F4 at*;refine ⟨v,ha.size,ac q2,w,hb.size,ac q3,?_⟩;have ld:=eO l4 f4;refine (Az (oM (ha.le ld) (hb.le ld) (WU _)) q4).mono ?_;rintro _ F5 ⟨z,rfl,⟨G,hz,lG,gG⟩,l5,q5⟩;exact ⟨_,_,rfl,Na hz lG gG q5 rfl (l4.trans l5) f4⟩
theorem Kv (ha:DV F v a) (hb:DV F w b):ν 28 #[ZU v,ZU w] F λr F'=>DRV F' r (bin oOr a b)/\F.le F':=by refine W3 ?_;unfold Tv;intro b2 hb2;refine atI ?_;have l2:=ae (ZP v 31) hb2;have q2:=au F b2 (ZP v 31);generalize F.set b2 (ZP v 31)=F2 at*;intro b3 hb3;refine atI ?_;have lx:=ae (ZP w 31) hb3;have q3:=au F2 b3 (ZP w 31);have q2:=lx _ _ q2;have l3:=l2.trans lx;clear lx;generalize F2.set b3 (ZP w 31)=F3 at*;intro b4 hb4;refine atI ?_;have f4:F b4=ZR:=aV l3 hb4;have lx:=ae (ZP zD 31) hb4;have q4:=au F3 b4 (ZP zD 31);have q2:=lx _ _ q2;have q3:=lx _ _ q3;have l4:=l3.trans lx;clear lx;generalize F3.set b4 (ZP zD 31)=F4 at*;refine ⟨v,ha.size,ac q2,w,hb.size,ac q3,?_⟩;have ld:=eO l4 f4;refine (Az (oM (ha.le ld) (hb.le ld) (WV _)) q4).mono ?_;rintro _ F5 ⟨z,rfl,⟨G,hz,lG,gG⟩,l5,q5⟩;exact ⟨_,_,rfl,Na hz lG gG q5 rfl (l4.trans l5) f4⟩
abbrev tv (v:Nat):Tr:=ZM v (ZL ZQ) (ZL ZT)
theorem O3 (v:Nat):dia (tv v)=([⟨(v:Int),0,1⟩],2):=by
 have e:bo (tv v)=[tv v]:=by simp [bo,vis,tv]
 unfold dia;rw [e];simp [brs,br,num,tv]
theorem sF {v:Nat} (h:v<64):(tv v).ok:=⟨h,h,h,by simp,trivial,trivial⟩
theorem fk (x:Bool):ν 27 #[ZV x] F λr F'=>∃w,r=ZU w/\DV F' w (dia (ZL x))/\F.le F':=by
 refine W2 ?_;unfold Tu;intro b2 hb2;refine atI ?_;have l2:=ae (ZP zD 31) hb2;have q2:=au F b2 (ZP zD 31);refine ⟨λh=> ?_,λh=> ?_⟩
 ·subst h;have hd:∀G:PH,DV G #[Z7 ZR 0 0,vi 1] (dia (ZL ZT)):=λG=>⟨Z3,rfl,RdS.nil G 3⟩;exact gy (K:=λvres F'=>∃w,ZU vres=ZU w/\DV F' w (dia (ZL ZT))/\F.le F') (hd F) q2 rfl ⟨_,rfl,hd _,aA l2 hb2⟩
 ·subst h;have hd:∀G:PH,DV G zD (dia (ZL ZQ)):=λG=>⟨Z3,rfl,RdS.nil G 3⟩;exact gy (K:=λvres F'=>∃w,ZU vres=ZU w/\DV F' w (dia (ZL ZQ))/\F.le F') (hd F) q2 rfl ⟨_,rfl,hd _,aA l2 hb2⟩
def tV (v:Int):DR:=if v<0\/63<v then (oL,1) else (dia (tv v.toNat),0)
end
section
end
section
variable {F:PH} {v:Γ} {a:Dia}
theorem CO {x:Int} (h1:0<=x) (h2:x<18446744073709551616):u64.wrap x=x:=by unfold IntKind.wrap;simp only [IntKind.bits,IntKind.signed];simp only [Bool.false_and,Yn,if_false];omega
end
def lm (n:Nat):Δ:=if h:n=0 then [] else n % 4294967296::lm (n / 4294967296)
termination_by n
decreasing_by exact Nat.div_lt_self (by omega) (by decide)
abbrev WW (l:Δ):Ξ:=l.map λ(x:Nat)=>Z0 .u32 (x:Int)
def NV (F:PH) (s:Sl) (n:Nat):Prop:=RdS F s 1 (WW (lm n))
theorem NV.le {F G:PH} {s:Sl} {n:Nat} (h:NV F s n) (hl:F.le G):NV G s n:=RdS.le h hl
section
end
section
end
def eK (n:Nat):Tr->Prop
 |ZL _=>True
 |ZM v l h=>v<n/\eK n l/\eK n h
theorem nU {F G:PH} {x:Nat} (h:F.le G):(d6 F x).le (d6 G x):=λy o hy=>by
 have hne:y≠x:=λe=>by rw [e,Ay] at hy;cases hy
 rw [fj hne] at hy ⊢;exact h _ _ hy
section
end
theorem sG {T:List Tr} (hT:Cl T) {n:Nat} (h:∀x∈T,x.top<n):∀(t:Tr),inn T t->eK n t
 |ZL _,_=>trivial
 |ZM v l r,ht=>by obtain ⟨il,ir⟩:=hT.inn_kids ht;exact ⟨h _ (cS ht rfl),sG hT h l il,sG hT h r ir⟩
section
end
section
end
variable {R:VR} {F:PH}
set_option maxHeartbeats 4000000
def S7 (a:Bool) (R:VR) (F:PH):Prop:=Nb F (ZP zD 31) λb F=>Bb (a) (aw F (Am b 0) 2 (#[Z7 ZR 0 0,(vi 1)]:Γ) λF=>Rr 2 (Am b 0) R F) (aw F (Am b 0) 2 zD λF=>Rr 2 (Am b 0) R F)
theorem WX {a:Bool} (h:S7 a R F):ν 34 #[ZV a] F R:=Rx.Λ .N h
def S8 (a b:Γ) (R:VR) (F:PH):Prop:=Nb F (ZP a 31) λg F=>Nb F (ZP b 31) λh F=>Nb F (ZP zD 31) λf F=>Lr F 2 (Am g 0) λc=>Lr F 2 (Am h 0) λd=>Ca 110 #[ZU c,ZU d,(vi 0)] F λe F=>aw F (Am f 0) 2 e λF=>Rr 2 (Am f 0) R F
theorem WY {a:Γ} {b:Γ} (h:S8 a b R F):ν 45 #[ZU a,ZU b] F R:=Rx.Λ .N h
def O4 (R:VR) (F:PH):Prop:=R (ZV ZT) F
def GY (k:Ω) (j l:Nat) (R:VR) (a:Int) (F:PH):Prop:=Ls F (Am j 0) λc=>Bc (a<(c.len:Int)) (Ls F (Am j 0) λd=>Ix d a λe=>Lr F 3 (ZW e (ZY a*3)) λf=>Ls F (Am l 0) λg=>Ix g a λh=>Lr F 3 (ZW h (ZY a*3)) λi=>∃b,(∀F,rdo prog (Op.equal 124 (ZU f) (ZU i)) F b)/\Bb ((!b)) (R (ZV ZQ) F) (k (i64.wrap (a+1)) F)) (O4 R F)
def S9 (c d:Γ) (R:VR) (F:PH):Prop:=Nb F (ZP c 31) λe F=>Nb F (ZP d 31) λf F=>Li F (Am e 1) λg=>Li F (Am f 1) λh=>Bc (g≠h) (R (ZV ZQ) F) (Ls F (Am e 0) λa=>Ls F (Am f 0) λb=>Bc ((a.len:Int)≠(b.len:Int)) (R (ZV ZQ) F) (Lp 0 F λN i F=>GY N e f R i F))
theorem WZ {a:Γ} {b:Γ} (h:S9 a b R F):ν 50 #[ZU a,ZU b] F R:=Rx.Λ (.ZN (.ZN (.J ZQ [] (.ZN (.L [(5,.int .i64)] .N)) .N))) h
def Ta (b:Sl) (c:Int) (R:VR) (F:PH):Prop:=Nb F (ZP zD 31) λd F=>Ca 135 #[ZS b,(vi (max 0 (min c 6))),(vi 0),(vi 0)] F λa F=>aw F (Am d 0) 2 a λF=>Rr 2 (Am d 0) R F
theorem W0 {a:Sl} {b:Int} (h:Ta a b R F):ν 82 #[ZS a,(vi b)] F R:=Rx.Λ .N h
def Tb (b:Γ) (R:VR) (F:PH):Prop:=Nb F (ZP b 31) λe F=>Nb F (ZP zD 31) λf F=>Lr F 2 (Am e 0) λa=>Ca 34 #[ZV ZT] F λc F=>F.row (Am e 0) a/\Ca 110 #[ZU a,ZU c,(vi 2)] F λd F=>aw F (Am f 0) 2 d λF=>Rr 2 (Am f 0) R F
theorem W1 {a:Γ} (h:Tb a R F):ν 86 #[ZU a] F R:=Rx.Λ .N h
def mE (c:Int) (d:Nat) (e:Bool) (R:VR) (F:PH):Prop:=Bb (e) (aw F (Am d 0) 2 zD λF=>Lr F 2 (Am d 0) λb=>R (Z2 #[ZU b,(vi 1)]) F) ((#[(vi c),(vi 0),(vi 1)]:Γ).size=3/\Nb F (ZP (#[(vi c),(vi 0),(vi 1)]:Γ) 124) λf F=>aw F (Am d 0) 2 (#[ZS (Sb f 1),(vi 2)]:Γ) λF=>Lr F 2 (Am d 0) λa=>R (Z2 #[ZU a,(vi 0)]) F)
def Nc (a:Int) (R:VR) (F:PH):Prop:=Nb F (ZP zD 31) λb F=>Bc (a<0) (mE a b ZT R F) (mE a b (decide (63<a)) R F)
theorem Tc {a:Int} (h:Nc a R F):ν 109 #[(vi a)] F R:=Rx.Λ (.ZN (.T (.J ZQ [(9,.bool)] .N .N) .N)) h
def Nf (j k:Γ) (b:Int) (R:VR) (F:PH):Prop:=Nb F (ZP j 31) λl F=>Nb F (ZP k 31) λm F=>Nb F (ZP zD 31) λn F=>Lr F 2 (Am l 0) λc=>Lr F 2 (Am m 0) λa=>c.size=2/\a.size=2/\Nb F (ZP (Array.setIfInBounds (wr (wr (#[Z7 ZR 0 0,vi 0,.slice ZR 0 0,vi 0,vi 0,.slice ZR 0 0,.slice ZR 0 0]:Γ) 0 c.toList) 2 a.toList) 4 (vi b)) 203) λd F=>Li F (Am l 1) λe=>Li F (Am m 1) λf=>Ci 160 #[(Pp d),(vi e),(vi f)] F λg F=>Ls F (Am d 5) λh=>Ca 161 #[ZS h,(vi g)] F λi F=>aw F (Am n 0) 2 i λF=>Rr 2 (Am n 0) R F
theorem Td {b:Γ} {c:Γ} {a:Int} (h:Nf b c a R F):ν 110 #[ZU b,ZU c,(vi a)] F R:=Rx.Λ .N h
def Ng (a b:Γ) (R:VR) (F:PH):Prop:=Nb F (ZP a 31) λg F=>Nb F (ZP b 31) λh F=>Nb F (ZP zD 31) λf F=>Lr F 2 (Am g 0) λc=>Lr F 2 (Am h 0) λd=>Ca 110 #[ZU c,ZU d,(vi 1)] F λe F=>aw F (Am f 0) 2 e λF=>Rr 2 (Am f 0) R F
theorem Te {a:Γ} {b:Γ} (h:Ng a b R F):ν 123 #[ZU a,ZU b] F R:=Rx.Λ .N h
def GZ (d:Sl) (j c a:Int) (R:VR) (F:PH):Prop:=Nb F (ZP zD 31) λl F=>Bc (c=j) (Bc ((i64.wrap (Int.tdiv a 8))<(d.len:Int)) (Ix d (i64.wrap (Int.tdiv a 8)) λm=>∃g,F.cell (ZW m (ZY (i64.wrap (Int.tdiv a 8))*1))=ZO (Z0 .u8 g)/\0<=(u64.wrap (Z5 a 8))/\Ca 34 #[ZV (decide ((u8.wrap ((BitVec.ofInt (u8).bits (Int.fdiv g (2 ^ (min (ZY (u64.wrap (Z5 a 8))) (u8).bits))) &&& BitVec.ofInt (u8).bits 1).toNat))=1))] F λn F=>aw F (Am l 0) 2 n λF=>Rr 2 (Am l 0) R F) (Ca 34 #[ZV ZQ] F λe F=>aw F (Am l 0) 2 e λF=>Rr 2 (Am l 0) R F)) (ν 109 #[(vi c)] F λv F=>∃h,∃f,v=(Z2 #[ZU h,(vi f)])/\Nb F (ZP zD 31) λk F=>aw F (Am k 0) 2 h λF=>Lr F 2 (Am k 0) λi=>0<=(u64.wrap c)/\Lr F 2 (Am k 0) λb=>Ca 135 #[ZS d,(vi j),(vi (i64.wrap (c+1))),(vi (i64.wrap (a+(i64.wrap (1*2 ^ (min (ZY (u64.wrap c)) (i64).bits))))))] F λo F=>F.row (Am k 0) b/\F.row (Am k 0) i/\Ca 45 #[ZU i,ZU o] F λp F=>F.row (Am k 0) b/\Ca 135 #[ZS d,(vi j),(vi (i64.wrap (c+1))),(vi a)] F λq F=>F.row (Am k 0) b/\Ca 175 #[ZU q,ZU b] F λr F=>Ca 123 #[ZU p,ZU r] F λs F=>aw F (Am l 0) 2 s λF=>Rr 2 (Am l 0) R F)
theorem Nh {a:Sl} {b:Int} {c:Int} {d:Int} (h:GZ a b c d R F):ν 135 #[ZS a,(vi b),(vi c),(vi d)] F R:=Rx.Λ .N h
def wK (w:Θ) (h i:Int) (R:VR) (F:PH):Prop:=∃a,w=ZO a/\Lr F 2 a λr=>Lr F 2 (ZW a 2) λj=>Ci 192 #[ZU r,(vi h)] F λe F=>F.row (ZW a 2) j/\Ci 192 #[ZU j,(vi i)] F λf F=>Lr F 2 a λs=>ν 193 #[ZU s,(vi h),(vi (min e f))] F λv F=>∃k,∃c,v=(Z2 #[(vi k),(vi c)])/\Lr F 2 (ZW a 2) λt=>ν 193 #[ZU t,(vi i),(vi (min e f))] F λv F=>∃l,∃d,v=(Z2 #[(vi l),(vi d)])/\Ci 160 #[ZZ (ZO a),(vi k),(vi l)] F λm F=>Ci 160 #[ZZ (ZO a),(vi c),(vi d)] F λn F=>Ls F (ZW a 5) λo=>ν 194 #[ZS o,ZU (#[(vi (min e f)),(vi m),(vi n)]:Γ)] F λv F=>∃g,∃b,v=(Z2 #[ZS g,(vi b)])/\sto F (ZW a 5) (ZS g) λF=>Ls F (ZW a 6) λp=>(#[(vi h),(vi i),(vi b)]:Γ).size=3/\Nb F (ZP (#[(vi h),(vi i),(vi b)]:Γ) 215) λu F=>Ap 201 #[ZS p,ZS (Sb u 1)] F λq F=>sto F (ZW a 6) (ZS q) λF=>R (vi b) F
def p6 (g:Ω) (a:Addr) (_ _ b:Int) (c:Bool) (R:VR) (F:PH):Prop:=Bb (c) (Ls F (ZW a 6) λd=>Ix d b λe=>0<=(2:Int)/\(2:Int)<3/\Li F (ZW (ZW e (ZY b*3)) (ZY 2*1)) λf=>R (vi f) F) (g (i64.wrap (b+1)) F)
def CP (m:Ω) (l:Θ) (c d:Int) (R:VR) (b:Int) (F:PH):Prop:=∃a,l=ZO a/\Ls F (ZW a 6) λe=>Bc (b<(e.len:Int)) (Ls F (ZW a 6) λf=>Ix f b λg=>0<=(0:Int)/\(0:Int)<3/\Li F (ZW (ZW g (ZY b*3)) (ZY 0*1)) λh=>Bc (h=c) (Ls F (ZW a 6) λi=>Ix i b λj=>0<=(1:Int)/\(1:Int)<3/\Li F (ZW (ZW j (ZY b*3)) (ZY 1*1)) λk=>p6 m a c d b (decide (k=d)) R F) (p6 m a c d b ZQ R F)) (wK (ZO a) c d R F)
def mF (a:Θ) (b c:Int) (d:Bool) (R:VR) (F:PH):Prop:=Bb (d) (Ci 191 #[ZZ a,(vi b),(vi c)] F λe F=>R (vi e) F) (Lp 0 F λN f F=>CP N a b c R f F)
def Ni (c:Θ) (a b:Int) (R:VR) (F:PH):Prop:=Bc (a<2) (mF c a b (decide (b<2)) R F) (mF c a b ZQ R F)
theorem Tf {a:Θ} {b:Int} {c:Int} (h:Ni a b c R F):ν 160 #[ZZ a,(vi b),(vi c)] F R:=Rx.Λ (.ZN (.T (.J ZQ [(22,.bool)] .N .N) (.J ZQ [(0,.ptr)] (.ZN (.L [(7,.int .i64)] (.ZN (.T (.J ZQ [(57,.bool)] .N .N) .N)))) .N))) h
def Nj (a:Sl) (b:Int) (R:VR) (F:PH):Prop:=Nb F (ZP zD 31) λg F=>aH prog (Instr.makeSlice 67 (vi (a.len:Int)) (vi (a.len:Int))) F λv F=>∃c,v=(ZS c)/\Nb F (ZP (#[ZS a,ZS c,Z7 ZR 0 0]:Γ) 243) λd F=>Ci 195 #[(Pp d),(vi b)] F λe F=>Ls F (Am d 2) λf=>aw F (Am g 0) 2 (#[ZS f,(vi e)]:Γ) λF=>Rr 2 (Am g 0) R F
theorem Th {a:Sl} {b:Int} (h:Nj a b R F):ν 161 #[ZS a,(vi b)] F R:=Rx.Λ .N h
def Nk (b c:Γ) (R:VR) (F:PH):Prop:=Nb F (ZP b 31) λg F=>Nb F (ZP c 31) λi F=>Nb F (ZP zD 31) λh F=>Lr F 2 (Am g 0) λa=>Lr F 2 (Am i 0) λd=>Ca 86 #[ZU d] F λe F=>F.row (Am g 0) a/\Ca 45 #[ZU a,ZU e] F λf F=>aw F (Am h 0) 2 f λF=>Rr 2 (Am h 0) R F
theorem Tj {a:Γ} {b:Γ} (h:Nk a b R F):ν 175 #[ZU a,ZU b] F R:=Rx.Λ .N h
def Nl (e:Θ) (c d:Int) (R:VR) (F:PH):Prop:=∃a,e=ZO a/\Li F (ZW a 4) λb=>Bc (b=0) (R (vi (i64.wrap (c*d))) F) (Bc (b=1) (R (vi (max c d)) F) (R (vi (Z5 (i64.wrap (c+d)) 2)) F))
theorem Tm {a:Θ} {b:Int} {c:Int} (h:Nl a b c R F):ν 191 #[ZZ a,(vi b),(vi c)] F R:=Rx.Λ .N h
def Nm (d:Γ) (b:Int) (R:VR) (F:PH):Prop:=Nb F (ZP d 31) λf F=>Bc (b<2) (R (vi 64) F) (Ls F (Am f 0) λe=>Ix e (i64.wrap (b - 2)) λc=>∃a,F.cell (ZW c (ZY (i64.wrap (b - 2))*3))=ZO (vi a)/\R (vi a) F)
theorem Tn {a:Γ} {b:Int} (h:Nm a b R F):ν 192 #[ZU a,(vi b)] F R:=Rx.Λ .N h
def Nn (i:Γ) (a j:Int) (R:VR) (F:PH):Prop:=Nb F (ZP i 31) λk F=>Lr F 2 (Am k 0) λl=>Ci 192 #[ZU l,(vi a)] F λd F=>Bc (d≠j) (R (Z2 #[(vi a),(vi a)]) F) (Ls F (Am k 0) λe=>Ix e (i64.wrap (a - 2)) λf=>∃b,F.cell (ZW (ZW f (ZY (i64.wrap (a - 2))*3)) 1)=ZO (vi b)/\Ls F (Am k 0) λg=>Ix g (i64.wrap (a - 2)) λh=>∃c,F.cell (ZW (ZW h (ZY (i64.wrap (a - 2))*3)) 2)=ZO (vi c)/\R (Z2 #[(vi b),(vi c)]) F)
theorem To {a:Γ} {b:Int} {c:Int} (h:Nn a b c R F):ν 193 #[ZU a,(vi b),(vi c)] F R:=Rx.Λ .N h
def CQ (c:Sl) (e:Nat) (R:VR) (F:PH):Prop:=Lr F 3 (Am e 0) λa=>a.size=3/\Nb F (ZP a 124) λd F=>Ap 29 #[ZS c,ZS (Sb d 1)] F λb F=>R (Z2 #[ZS b,(vi (i64.wrap ((b.len:Int)+1)))]) F
def CR (h:Ω) (b:Sl) (g:Nat) (R:VR) (a:Int) (F:PH):Prop:=Bc (a<(b.len:Int)) (Ix b a λd=>Lr F 3 (ZW d (ZY a*3)) λe=>Lr F 3 (Am g 0) λf=>∃c,(∀F,rdo prog (Op.equal 124 (ZU e) (ZU f)) F c)/\Bb (c) (R (Z2 #[ZS b,(vi (i64.wrap (a+2)))]) F) (h (i64.wrap (a+1)) F)) (CQ b g R F)
def No (a:Sl) (e:Γ) (R:VR) (F:PH):Prop:=Nb F (ZP e 124) λd F=>Li F (Am d 1) λf=>Li F (Am d 2) λb=>Bc (f=b) (Li F (Am d 1) λc=>R (Z2 #[ZS a,(vi c)]) F) (Lp 0 F λN g F=>CR N a d R g F)
theorem Tp {a:Sl} {b:Γ} (h:No a b R F):ν 194 #[ZS a,ZU b] F R:=Rx.Λ (.ZN (.ZN (.J ZQ [] (.ZN (.L [(6,.int .i64)] .N)) .N))) h
def Ha (x:Θ) (b:Int) (R:VR) (F:PH):Prop:=Bc (b<2) (R (vi b) F) (∃a,x=ZO a/\Ls F (ZW a 1) λi=>Ix i (i64.wrap (b - 2)) λj=>∃e,F.cell (ZW j (ZY (i64.wrap (b - 2))*1))=ZO (vi e)/\Bc (0<e) (Ls F (ZW a 1) λk=>Ix k (i64.wrap (b - 2)) λl=>∃f,F.cell (ZW l (ZY (i64.wrap (b - 2))*1))=ZO (vi f)/\R (vi f) F) (Ls F a λm=>Ix m (i64.wrap (b - 2)) λn=>∃c,c.size=3/\F.row (ZW n (ZY (i64.wrap (b - 2))*3)) c/\Nb F (ZP (#[vi 0,vi 0,vi 0]) 124) λo F=>aw F (Am o 0) 3 c λF=>Li F (Am o 1) λp=>Ci 195 #[ZZ (ZO a),(vi p)] F λg F=>Li F (Am o 2) λq=>Ci 195 #[ZZ (ZO a),(vi q)] F λh F=>Ls F (ZW a 2) λr=>Li F (Am o 0) λd=>(#[(vi d),(vi g),(vi h)]:Γ).size=3/\Nb F (ZP (#[(vi d),(vi g),(vi h)]:Γ) 124) λy F=>Ap 29 #[ZS r,ZS (Sb y 1)] F λs F=>F.cell (Am o 0)=ZO (vi d)/\sto F (ZW a 2) (ZS s) λF=>Ls F (ZW a 1) λt=>Ls F (ZW a 2) λu=>Ix t (i64.wrap (b - 2)) λv=>sto F (ZW v (ZY (i64.wrap (b - 2))*1)) (vi (i64.wrap ((u.len:Int)+1))) λF=>Ls F (ZW a 2) λw=>R (vi (i64.wrap ((w.len:Int)+1))) F))
theorem Np {a:Θ} {b:Int} (h:Ha a b R F):ν 195 #[ZZ a,(vi b)] F R:=Rx.Λ .N h
def Nq (a:Γ) (R:VR) (F:PH):Prop:=Nb F (ZP a 31) λe F=>Ls F (Am e 0) λb=>Bc ((4096:Int)<(b.len:Int)) (R (vi 2) F) (Lr F 2 (Am e 0) λc=>Cbo 210 #[ZU c] F λd F=>Bb ((!d)) (R (vi 20) F) (R (vi 0) F))
theorem Tq {a:Γ} (h:Nq a R F):ν 197 #[ZU a] F R:=Rx.Λ .N h
def CS (f:Nat) (R:VR) (F:PH):Prop:=Lr F 2 (Am f 0) λa=>Ls F (Am f 0) λb=>Li F (Am f 1) λc=>Ca 161 #[ZS b,(vi c)] F λd F=>F.row (Am f 0) a/\Cbo 50 #[ZU a,ZU d] F λe F=>R (ZV e) F
def CT (f:Ω) (e:Nat) (R:VR) (a:Int) (F:PH):Prop:=Ls F (Am e 0) λb=>Bc (a<(b.len:Int)) (Lr F 2 (Am e 0) λc=>Cbo 216 #[ZU c,(vi a)] F λd F=>Bb ((!d)) (R (ZV ZQ) F) (f (i64.wrap (a+1)) F)) (CS e R F)
def Nr (c:Γ) (R:VR) (F:PH):Prop:=Nb F (ZP c 31) λb F=>Li F (Am b 1) λd=>Bc (d<0) (R (ZV ZQ) F) (Li F (Am b 1) λe=>Ls F (Am b 0) λa=>Bc ((i64.wrap ((a.len:Int)+2))<=e) (R (ZV ZQ) F) (Lp 0 F λN f F=>CT N b R f F))
theorem Ts {a:Γ} (h:Nr a R F):ν 210 #[ZU a] F R:=Rx.Λ (.ZN (.ZN (.J ZQ [] (.ZN (.L [(3,.int .i64)] .N)) .N))) h
def CU (R:VR) (F:PH):Prop:=R (ZV ZT) F
def CV (h:Ω) (g:Int) (i j:Nat) (R:VR) (a:Int) (F:PH):Prop:=Bc (a<g) (Ls F (Am i 0) λc=>Ix c a λd=>Lr F 3 (ZW d (ZY a*3)) λe=>Lr F 3 (Am j 0) λf=>∃b,(∀F,rdo prog (Op.equal 124 (ZU e) (ZU f)) F b)/\Bb (b) (R (ZV ZQ) F) (h (i64.wrap (a+1)) F)) (CU R F)
def Nt (v:Γ) (b:Int) (R:VR) (F:PH):Prop:=Nb F (ZP v 31) λu F=>Ls F (Am u 0) λw=>Ix w b λe=>Lr F 3 (ZW e (ZY b*3)) λf=>Nb F (ZP (#[vi 0,vi 0,vi 0]) 124) λa F=>aw F (Am a 0) 3 f λF=>Li F (Am a 0) λg=>Bc (g<0) (R (ZV ZQ) F) (Li F (Am a 0) λh=>Bc (63<h) (R (ZV ZQ) F) (Li F (Am a 1) λi=>Bc (i<0) (R (ZV ZQ) F) (Li F (Am a 2) λj=>Bc (j<0) (R (ZV ZQ) F) (Li F (Am a 1) λk=>Bc ((i64.wrap (b+2))<=k) (R (ZV ZQ) F) (Li F (Am a 2) λl=>Bc ((i64.wrap (b+2))<=l) (R (ZV ZQ) F) (Li F (Am a 1) λm=>Li F (Am a 2) λn=>Bc (m=n) (R (ZV ZQ) F) (Lr F 2 (Am u 0) λo=>Li F (Am a 1) λp=>Li F (Am a 0) λc=>Ci 192 #[ZU o,(vi p)] F λq F=>F.cell (Am a 0)=ZO (vi c)/\Bc (q<=c) (R (ZV ZQ) F) (Lr F 2 (Am u 0) λr=>Li F (Am a 2) λs=>Li F (Am a 0) λd=>Ci 192 #[ZU r,(vi s)] F λt F=>F.cell (Am a 0)=ZO (vi d)/\F.cell (Am a 0)=ZO (vi c)/\Bc (t<=d) (R (ZV ZQ) F) (Lp 0 F λN x F=>CV N b u a R x F)))))))))
theorem Tt {a:Γ} {b:Int} (h:Nt a b R F):ν 216 #[ZU a,(vi b)] F R:=Rx.Λ (.ZN (.ZN (.ZN (.ZN (.J ZQ [] (.ZN (.L [(6,.int .i64)] .N)) .N))))) h
theorem gj {F:PH} {v w:Γ} {d e:Dia} (hd:DV F v d) (he:DV F w e) (hl:Fit d.1.length):ν 50 #[ZU v,ZU w] F λr F'=>r=ZV (decide (d=e))/\F.le F':=by
 obtain ⟨s,rfl,hr⟩:=hd;obtain ⟨t,rfl,ht⟩:=he;refine WZ ?_;unfold S9;intro b2 hb2;refine atI ?_;have hle2:=ae (ZP #[s.v,vi d.2] 31) hb2;intro b3 hb3;refine atI ?_;have hle3:=ae (ZP #[t.v,vi e.2] 31) hb3;have hle:F.le _:=λb o h=>hle3 b o (hle2 b o h);have hc2:=hle3 _ _ (au F b2 (ZP #[s.v,vi d.2] 31));have hc3:=au (F.set b2 (ZP #[s.v,vi d.2] 31)) b3 (ZP #[t.v,vi e.2] 31);generalize (F.set b2 (ZP #[s.v,vi d.2] 31)).set b3 (ZP #[t.v,vi e.2] 31)=G at*;have hr:=hr.le hle;have ht:=ht.le hle;have lens:=hr.blen;have lent:=ht.blen;have cs:G.cell ⟨b2,0,ZR⟩=ZO s.v:=by rw [av hc2];rfl
 have ct:G.cell ⟨b3,0,ZR⟩=ZO t.v:=by rw [av hc3];rfl
 obtain ⟨x,d2⟩:=d;obtain ⟨y,e2⟩:=e;simp only at hl lens lent hr ht hc2 hc3;refine ⟨d2,by rw [av hc2];rfl,e2,by rw [av hc3];rfl,λh=> ?_,λh=> ?_⟩
 ·refine ⟨?_,hle⟩;simp [h]
 have h:d2=e2:=by omega
 subst h;refine ⟨s,cs,t,ct,λhn=> ?_,λhn=> ?_⟩
 ·refine ⟨?_,hle⟩;have:¬x=y:=λe=>by subst e;omega
  simp [this]
 have hlen:x.length=y.length:=by omega
 refine ⟨λm i F'=>∃k:Nat,i=k/\k<=x.length/\m=x.length - k/\F'=G/\x.take k=y.take k,x.length,⟨0,rfl,by omega,rfl,rfl,rfl⟩,?_⟩;rintro m i F' ⟨k,rfl,hk,rfl,rfl,htake⟩;unfold GY;refine ⟨s,cs,λhlt=> ?_,λhge=> ?_⟩
 ·have hkx:k<x.length:=by omega
  have hky:k<y.length:=by omega
  obtain ⟨p,hp,hpr,_⟩:=rdb hr (N6 hkx);obtain ⟨q,hq,hqr,_⟩:=rdb ht (N6 hky);refine ⟨s,cs,p,hp,by omega,hlt,bh x[k],rfl,by simpa using hpr,t,ct,q,hq,by omega,by omega,bh y[k],rfl,by simpa using hqr,decide (x[k]=y[k]),λF=>GK x[k] y[k] F,λhne=> ?_,λheq=> ?_⟩
  ·refine ⟨?_,hle⟩;have:¬x=y:=by rintro rfl;simp at hne
   simp [this]
  ·refine ⟨x.length - (k+1),by omega,k+1,fF (by omega),by omega,rfl,rfl,?_⟩;rw [Ya hkx,Ya hky,htake];simp at heq;rw [heq]
 ·refine ⟨?_,hle⟩;have hk':k=x.length:=by omega
  rw [hk',XZ,hlen,XZ] at htake;simp [htake]
def jd (t:Tr):Prop:=t.ok/\(bo t).length<=4096
theorem Hb {t:Tr} (h:t.ok) (hc:cnt t<=4096):jd t:=⟨h,YQ (oX t) hc⟩
theorem uF {t:Tr} (h:jd t):chk (dia t)=0:=CN h.1 h.2
theorem EH {t:Tr} (h:jd t):lim (dia t)=(dia t,0):=by unfold lim;rw [Υ];have:=h.2;simp only [dia,aP];omega
theorem yv {a b:Tr} (ha:jd a) (hb:jd b):mC [dia a,dia b]=0:=by simp [mC,uF ha,uF hb]
theorem O5 {o:Op2} {a b:Tr} (ha:jd a) (hb:jd b):bin o (dia a) (dia b)=lim (dia (ap (λx y _=>o x y) a b (ZL ZQ))):=by unfold bin;rw [yv ha hb,Υ (by simp),iK ha.1,iK hb.1]
theorem Hc {o:Op2} {a b t:Tr} (ha:jd a) (hb:jd b) (ht:jd t) (he:∀c,t.ev c=o (a.ev c) (b.ev c)):bin o (dia a) (dia b)=(dia t,0):=by have:ap (λx y _=>o x y) a b (ZL ZQ)=t:=xg ht.1 λc=>he c;rw [O5 ha hb,this,EH ht]
theorem CW {v:Nat} (h:v<64):tV v=(dia (tv v),0):=by unfold tV;rw [Υ (by omega),N5]
theorem p7 {a:Tr} (ha:jd a):Fit (dia a).1.length:=by have:=ha.2;simp only [dia,aP];omega
section
variable {F:PH} {v:Γ} {d:Dia} {S:List Tr} {t:Tr}
theorem fD (hd:DV F v d) (hp:brs S<+:d.1) (ht:inn S t) (hf:Fit (d.1.length+2)):
  ν 192 #[ZU v,vi (num S t)] F λr F'=>r=vi t.top/\F.le F':=by
 obtain ⟨hfit,hlt⟩:=p9 hp ht hf;obtain ⟨s,rfl,hr⟩:=hd;refine Tn ?_;unfold Nm;intro b2 hb2;refine atI ?_;have hle:=ae (ZP #[s.v,vi d.2] 31) hb2;refine ⟨λh=> ?_,λh=> ?_⟩
 ·have hl:=qD (S:=S) (t:=t) (by omega);cases t with
  |ZL b=>exact ⟨rfl,hle⟩
  |ZM _ _ _=>cases hl
 ·cases t with
  |ZL b=>have:=dJ S b;omega
  |ZM w l r=>have hx:=gH hp (f8 (cS ht rfl) rfl);obtain ⟨a,h1,_,h2,_⟩:=rdb (hr.le hle) hx;have hw:=uH hfit (eF (S:=S) (t:=ZM w l r) rfl);have hg:=eF (S:=S) (t:=ZM w l r) rfl;refine ⟨s,by simp,a,h1,by rw [hw];omega,by rw [hw,hr.blen];omega,_,by rw [hw];exact h2,rfl,hle⟩
theorem oN (hd:DV F v d) (hp:brs S<+:d.1) (ht:inn S t) (hf:Fit (d.1.length+2)) {w:Nat} (hw:w<64):
  ν 193 #[ZU v,vi (num S t),vi w] F λr F'=>r=Z2 #[vi (num S (lo w t)),vi (num S (hi w t))]/\F.le F':=by
 obtain ⟨hfit,hlt⟩:=p9 hp ht hf;have hd':=hd;obtain ⟨s,rfl,hr⟩:=hd;refine To ?_;unfold Nn;intro b3 hb3;refine atI ?_;have hle:=ae (ZP #[s.v,vi d.2] 31) hb3;refine ⟨_,rfl,ac (au _ _ _),?_⟩;refine (fD (hd'.le hle) hp ht hf).mono ?_;rintro _ F2 ⟨rfl,hle2⟩;have hc:F2 b3=ZO _:=hle2 _ _ (au _ _ _);have hle':F.le F2:=λb o h=>hle2 b o (hle b o h);refine ⟨_,rfl,λh=> ?_,λh=> ?_⟩
 ·refine ⟨?_,hle'⟩;cases t with
  |ZL b=>rfl
  |ZM w' l r=>have:¬w'=w:=λe=>h (by simp [Tr.top,e]);simp [lo,hi,this]
 ·cases t with
  |ZL b=>simp only [Tr.top] at h;omega
  |ZM w' l r=>
   have e:w'=w:=by simp only [Tr.top] at h;omega
   subst e;have hx:=gH hp (f8 (cS ht rfl) rfl);obtain ⟨a,h1,_,_,h3,h4⟩:=rdb (hr.le hle') hx;have hw:=uH hfit (eF (S:=S) (t:=ZM w' l r) rfl);have hg:=eF (S:=S) (t:=ZM w' l r) rfl
   refine ⟨s,by rw [av hc];rfl,a,h1,by rw [hw];omega,by rw [hw,hr.blen];omega,_,by rw [hw];exact h3,
    s,by rw [av hc];rfl,a,h1,by rw [hw];omega,by rw [hw,hr.blen];omega,_,by rw [hw];exact h4,?_,hle'⟩
   simp [lo,hi,br]
end
section
variable {F:PH}
theorem cv (x:Bool):ν 34 #[ZV x] F λr F'=>∃w,r=ZU w/\DV F' w (dia (ZL x))/\F.le F':=by
 refine WX ?_;unfold S7;intro b2 hb2;refine atI ?_;have l2:=ae (ZP zD 31) hb2;have q2:=au F b2 (ZP zD 31);refine ⟨λh=> ?_,λh=> ?_⟩
 ·subst h;have hd:∀G:PH,DV G #[Z7 ZR 0 0,vi 1] (dia (ZL ZT)):=λG=>⟨Z3,rfl,RdS.nil G 3⟩;exact gy (K:=λvres F'=>∃w,ZU vres=ZU w/\DV F' w (dia (ZL ZT))/\F.le F') (hd F) q2 rfl ⟨_,rfl,hd _,aA l2 hb2⟩
 ·subst h;have hd:∀G:PH,DV G zD (dia (ZL ZQ)):=λG=>⟨Z3,rfl,RdS.nil G 3⟩;exact gy (K:=λvres F'=>∃w,ZU vres=ZU w/\DV F' w (dia (ZL ZQ))/\F.le F') (hd F) q2 rfl ⟨_,rfl,hd _,aA l2 hb2⟩
theorem nV (x:Int):ν 109 #[vi x] F λr F'=>DRV F' r (tV x)/\F.le F':=by
 refine Tc ?_;unfold Nc;intro b2 hb2;refine atI ?_;have l2:=ae (ZP zD 31) hb2;have q2:=au F b2 (ZP zD 31);generalize F.set b2 (ZP zD 31)=F2 at*;have bad:x<0\/63<x->mE x b2 ZT (λr F'=>DRV F' r (tV x)/\F.le F') F2:=λh=>by
  unfold mE;refine ⟨λ_=> ?_,λhc=>by cases hc⟩;have e:tV x=(oL,1):=by unfold tV;rw [Χ h]
  rw [e];exact O2 q2 rfl l2 hb2
 refine ⟨λh=>bad (.inl h),λh=> ?_⟩;by_cases h2:63<x
 ·rw [ζ h2];exact bad (.inr h2)
 ·rw [ι h2];unfold mE;refine ⟨λhc=>(by cases hc),λ_=>⟨rfl,λb13 hb13=> ?_⟩⟩;refine atI ?_;have e:tV x=(dia (tv x.toNat),0):=by unfold tV;rw [Υ (by omega)]
  have hx:((x.toNat:Nat):Int)=x:=by omega
  have lx:=ae (ZP #[vi x,vi 0,vi 1] 124) hb13;have q13:=au F2 b13 (ZP #[vi x,vi 0,vi 1] 124);have n:b13≠b2:=(aI hb13 q2).symm;have q2:=lx _ _ q2;have l3:=l2.trans lx;rw [e];have hd:∀G:PH,G b13=ZO (ZP #[vi x,vi 0,vi 1] 124)->DV G #[(Sl.mk (ZO ⟨b13,0,ZR⟩) 1 1).v,vi 2] (dia (tv x.toNat)):=λG hG=>by rw [O3,hx];exact ⟨_,rfl,RdS.new hG rfl rfl (XS _)⟩
  exact gy (K:=λvres F'=>DRV F' (Z2 #[ZU vres,vi 0]) (dia (tv x.toNat),0)/\F.le F') (hd _ q13) q2 rfl ⟨⟨_,rfl,hd _ (by rw [aB _ _ n];exact q13)⟩,aA l3 hb2⟩
end
def rnS (S:List Tr) (t:Tr):Nat:=if t∈S then num S t else 0
def rnL (S0 S:List Tr):Ξ:=S0.map λt=>vi (rnS S t:Int)
structure WS (F0 F:PH) (bw g:Nat) (ns:Sl) (S0 S:List Tr):Prop where
 le:F0.le F
 cl:Cl S
 sub:∀x∈S,x∈S0
 nw:F0 bw=ZR
 ng:F0 g=ZR
 rd:RdS F0 ns 3 (ba (brs S0))
 ex:∃s:Sl,F bw=ZO (ZP #[ns.v,ZS ⟨ZO ⟨g,0,ZR⟩,S0.length,S0.length⟩,s.v] 243)/\bX F 124 3 s (ba (brs S))/\∀a,s.ZK=ZO a->F0 a.block=ZR
 hg:F g=ZO (ZP (rnL S0 S).toArray 3)
theorem Hd {S0 S:List Tr} (h0:Cl S0) {t:Tr} (hS':Cl (S++[t])) (ht:t∈S0) (hl:t.isL=ZQ):(rnL S0 S).set (num S0 t - 2) (vi ((S.length+2:Nat):Int))=rnL S0 (S++[t]):=by
 apply Yx;intro j;unfold rnL;rw [Ze,X2,X2];have hg:=eF (S:=S0) hl;have hgt:=f8 ht hl;by_cases hj:num S0 t - 2=j
 ·subst hj;have hlt:=(XN.1 hgt).1;rw [Χ rfl,XW,Χ hlt,hgt];simp only [YD,rnS];rw [Χ (by simp),eG hS' (k:=S.length) (by simp)]
 ·rw [Υ hj];cases hx:S0[j]? with
  |none=>rfl
  |some u=>
   simp only [YD,rnS];have hne:u≠t:=λe=>by subst e;have:=eG h0 hx;omega
   have hm:u∈S++[t]↔u∈S:=by simp [hne]
   by_cases hu:u∈S
   ·rw [Χ hu,Χ (hm.2 hu),bT (.inr hu)]
   ·rw [Υ hu,Υ (λh=>hu (hm.1 h))]
theorem yw {bw g:Nat} {ns:Sl} {S0:List Tr} (h0:Cl S0) (hf:Fit (S0.length+4)):∀(t:Tr),inn S0 t->∀(F0 F:PH) (S:List Tr),WS F0 F bw g ns S0 S->
  ν 195 #[ZZ (ZO ⟨bw,0,ZR⟩),vi (num S0 t)] F λr F'=>r=vi (num (vis t S) t)/\WS F0 F' bw g ns S0 (vis t S):=by
 intro t;induction t with
 |ZL x=>intro ht F0 F S hs;refine Np ?_;unfold Ha;have:=dJ S0 x;exact ⟨λ_=>⟨rfl,hs⟩,λh=>by omega⟩
 |ZM v l h ihl ihh=>
  intro ht F0 F S hs;have hs':=hs;obtain ⟨hle,hS,hsub,hnw,hng,hrd,⟨s,hw,ho,hsb⟩,hg⟩:=hs;have htm:=cS ht rfl;obtain ⟨hil,hih⟩:=h0.inn_kids ht;have hok:=h0.inn_ok ht;have hge:=eF (S:=S0) (t:=ZM v l h) rfl;have hnl:=ff ht;have hgt:=f8 htm rfl;have hlt:=(XN.1 hgt).1;have hw2:=uH (n:=num S0 (ZM v l h)) (by omega) hge;refine Np ?_;unfold Ha;refine ⟨λh=>by omega,λ_=> ?_⟩;rw [hw2];have cell0:F.cell ⟨bw,0,ZR⟩=ZO ns.v:=by rw [av hw];rfl
  have cell1:F.cell (ZW ⟨bw,0,ZR⟩ 1)=ZO (ZS ⟨ZO ⟨g,0,ZR⟩,S0.length,S0.length⟩):=by rw [aG,av hw];rfl
  have cellg:F.cell (ZW ⟨g,0,ZR⟩ (ZY ((num S0 (ZM v l h) - 2:Nat):Int)*1))=ZO (vi (rnS S (ZM v l h))):=by
   simp only [aG];rw [av hg];have:(rnL S0 S)[num S0 (ZM v l h) - 2]? =ZO (vi (rnS S (ZM v l h))):=by unfold rnL;rw [X2,hgt];rfl
   simpa using this
  refine ⟨_,rfl,_,cell1,_,rfl,by omega,by simp only;omega,_,cellg,λhpos=> ?_,λhpos=> ?_⟩
  ·have hin:ZM v l h∈S:=by
    unfold rnS at hpos;split at hpos
    ·assumption
    ·omega
   have e:vis (ZM v l h) S=S:=gL (.inr hin);rw [e];have e2:rnS S (ZM v l h)=num S (ZM v l h):=by unfold rnS;rw [Χ hin]
   rw [e2] at cellg;exact ⟨_,cell1,_,rfl,by omega,by simp only;omega,_,cellg,rfl,hs'⟩
  ·have hin:ZM v l h ∉ S:=λhin=>hpos (by
    have:=eF (S:=S) (t:=ZM v l h) rfl;unfold rnS;rw [Χ hin]
    omega)
   obtain ⟨a,ha,hrow,_⟩:=rdb (hrd.le hle) (qE hgt);have hns:=hrd.blen;rw [aP] at hns;refine ⟨ns,cell0,a,ha,by omega,by omega,bh (br S0 (ZM v l h)),rfl,by simpa using hrow,?_⟩;intro b5 hb5;refine atI ?_;refine stW (au _ _ _) rfl rfl (mH _) ?_;rw [aW];have h50:F0 b5=ZR:=aV hle hb5;have n5w:bw≠b5:=aI hb5 hw;have n5g:g≠b5:=aI hb5 hg;have hs5:WS (F0.set b5 (ZP (bh (br S0 (ZM v l h))) 124)) (F.set b5 (ZP (bh (br S0 (ZM v l h))) 124)) bw g ns S0 S:=by
    refine ⟨λx ob hx=> ?_,hS,hsub,by rw [aB _ _ n5w];exact hnw,by rw [aB _ _ n5g];exact hng,hrd.le (ae _ h50),⟨s,by rw [aB _ _ n5w];exact hw,ho.upto (ae _ hb5),λa ha=> ?_⟩,by rw [aB _ _ n5g];exact hg⟩
    ·by_cases hxb:x=b5
     ·subst hxb;rw [au] at hx ⊢;exact hx
     ·rw [aB _ _ hxb] at hx ⊢;exact hle _ _ hx
    ·obtain ⟨cur,hcur⟩:=ho.elem ha;rw [aB _ _ (aI hb5 hcur)];exact hsb a ha
   have hle0:F0.le (F0.set b5 (ZP (bh (br S0 (ZM v l h))) 124)):=ae _ h50;have hc5:(F0.set b5 (ZP (bh (br S0 (ZM v l h))) 124)) b5=ZO (ZP (bh (br S0 (ZM v l h))) 124):=au _ _ _;generalize F0.set b5 (ZP (bh (br S0 (ZM v l h))) 124)=G0 at*;generalize F.set b5 (ZP (bh (br S0 (ZM v l h))) 124)=F1 at*;refine ⟨_,by rw [av (hs5.le _ _ hc5)];rfl,?_⟩;refine (ihl hil G0 F1 S hs5).mono ?_;rintro _ F2 ⟨rfl,hs2⟩;refine ⟨_,rfl,_,by rw [av (hs2.le _ _ hc5)];rfl,?_⟩;refine (ihh hih G0 F2 _ hs2).mono ?_;rintro _ F3 ⟨rfl,hs3⟩;obtain ⟨hle3,hS3,hsub3,hnw3,hng3,hrd3,⟨s3,hw3,ho3,hsb3⟩,hg3⟩:=hs3;obtain ⟨fl1,fl2,X,fl3,fl4⟩:=bD l S hok.2.2.2.2.1 hS;obtain ⟨fh1,fh2,Y,fh3,fh4⟩:=bD h (vis l S) hok.2.2.2.2.2 fl1;have hnl':num (vis l S) l=num (vis h (vis l S)) l:=by rw [fh3,bT fl2]
   have evis:vis (ZM v l h) S=vis h (vis l S)++[ZM v l h]:=by
    conv=>lhs;unfold vis
    rw [Υ hin]
   obtain ⟨hSv,_,_⟩:=bD (ZM v l h) S hok hS;rw [evis] at hSv ⊢;rw [hnl'];have hil3:inn (vis h (vis l S)) l:=by rw [fh3];exact cd fl2
   generalize vis h (vis l S)=T at*;refine ⟨_,rfl,s3,by rw [aG,av hw3];rfl,_,by rw [av (hle3 _ _ hc5)];rfl,rfl,λb54 hb54=> ?_⟩;refine atI ?_;have hTl:T.length<=S0.length:=dO T S0 hS3.nodup hsub3;have hlen:=ho3.rd.blen;rw [aP] at hlen;have hle54:=ae (ZP (bh ⟨(v:Int),(num T l:Int),(num T h:Int)⟩) 124) hb54;have h54:=au F3 b54 (ZP (bh ⟨(v:Int),(num T l:Int),(num T h:Int)⟩) 124);show aH prog _ (F3.set b54 (ZP (bh ⟨(v:Int),(num T l:Int),(num T h:Int)⟩) 124)) _;replace hle3:G0.le (F3.set b54 (ZP (bh ⟨(v:Int),(num T l:Int),(num T h:Int)⟩) 124)):=λx ob hx=>hle54 _ _ (hle3 _ _ hx);have ho3:=ho3.upto hle54;have hw3:=hle54 _ _ hw3;have hg3:=hle54 _ _ hg3;generalize F3.set b54 (ZP (bh ⟨(v:Int),(num T l:Int),(num T h:Int)⟩) 124)=F4 at*;refine iU underlying29 yU yV rfl (by decide) hle3 ho3 hsb3 (x:=⟨ZO ⟨b54,0,ZR⟩,1,1⟩) (news:=dx ⟨(v:Int),(num T l:Int),(num T h:Int)⟩) (RdS.new h54 rfl rfl (XS _))
    (λx hx=>im [⟨(v:Int),(num T l:Int),(num T h:Int)⟩] x (by simpa [ba] using hx)) (by simp only [hlen];omega) (by simp only [hlen];omega) ?_
   intro s5 F5 hle5 ho5 hlen5 hsb5 hk5 _;have new:∀a,s3.ZK=ZO a->a.block≠bw:=λa ha e=>by obtain ⟨cur,hcur⟩:=ho3.elem ha;rw [e,hw3] at hcur;simp at hcur
   have neg:∀a,s3.ZK=ZO a->a.block≠g:=λa ha e=>by obtain ⟨cur,hcur⟩:=ho3.elem ha;rw [e,hg3] at hcur;simp at hcur
   have hw3:=hk5 _ _ hw3 (λ⟨a,ha,e⟩=>new a ha e);have hg3:=hk5 _ _ hg3 (λ⟨a,ha,e⟩=>neg a ha e);have nwg:bw≠g:=λe=>by rw [e,hg3] at hw3;simp at hw3
   have hsb6:∀a,s5.ZK=ZO a->a.block≠bw/\a.block≠g:=λa ha=>by
    obtain ⟨cur,hcur⟩:=ho5.elem ha;refine ⟨λe=> ?_,λe=> ?_⟩
    ·rw [e,hw3] at hcur;simp at hcur
    ·rw [e,hg3] at hcur;simp at hcur
   refine ⟨s5,rfl,by rw [av (hle5 _ _ hc5)];rfl,?_⟩;refine tf (b:=bw) (o:=2) (by simp) hw3 (by simp) ?_;rw [show (#[ns.v,ZS ⟨ZO ⟨g,0,ZR⟩,S0.length,S0.length⟩,s3.v].setIfInBounds 2 s5.v:Γ)= #[ns.v,ZS ⟨ZO ⟨g,0,ZR⟩,S0.length,S0.length⟩,s5.v] from rfl];have hle6:G0.le (F5.set bw (ZP #[ns.v,ZS ⟨ZO ⟨g,0,ZR⟩,S0.length,S0.length⟩,s5.v] 243)):=aA hle5 hnw3;have hw6:=au F5 bw (ZP #[ns.v,ZS ⟨ZO ⟨g,0,ZR⟩,S0.length,S0.length⟩,s5.v] 243);have hg6:(F5.set bw (ZP #[ns.v,ZS ⟨ZO ⟨g,0,ZR⟩,S0.length,S0.length⟩,s5.v] 243)) g=ZO (ZP (rnL S0 T).toArray 3):=by rw [aB _ _ nwg.symm];exact hg3
   have ho6:bX (F5.set bw (ZP #[ns.v,ZS ⟨ZO ⟨g,0,ZR⟩,S0.length,S0.length⟩,s5.v] 243)) 124 3 s5 _:=ho5.keep λa ha=>aB _ _ (hsb6 a ha).1;generalize F5.set bw (ZP #[ns.v,ZS ⟨ZO ⟨g,0,ZR⟩,S0.length,S0.length⟩,s5.v] 243)=F6 at*;have hlen6:s5.len=T.length+1:=by rw [hlen5,hlen]
   have hw7:i64.wrap ((s5.len:Int)+1)=((T.length+2:Nat):Int):=by rw [hlen6,aR (by omega)];omega
   refine ⟨_,by rw [aG,av hw6];rfl,s5,by rw [aG,av hw6];rfl,_,rfl,by omega,by simp only;omega,?_⟩;rw [hw7];refine tf (b:=g) (o:=num S0 (ZM v l h) - 2) (by simp) hg6 (by simp [rnL];omega) ?_;rw [List.setIfInBounds_toArray,Hd h0 hSv htm rfl];refine ⟨s5,by rw [aG,av ((aB _ _ nwg).trans hw6)];rfl,?_⟩;dsimp only;rw [hw7];refine ⟨by rw [eG hSv (k:=T.length) (by simp)],λx ob hx=>aA hle6 hng3 _ _ (hle0 _ _ hx),hSv,λx hx=> ?_,hnw,hng,hrd,⟨s5,(aB _ _ nwg).trans hw6,?_,λa ha=>aV hle0 (hsb5 a ha)⟩,au _ _ _⟩
   ·rcases XR.1 hx with hx|hx
    ·exact hsub3 x hx
    ·rw [XO.1 hx];exact htm
   ·have e3:ba (brs (T++[ZM v l h]))=ba (brs T)++dx ⟨(v:Int),(num T l:Int),(num T h:Int)⟩:=by rw [eS hS3 hil3 fh2,eP];simp [ba]
    rw [e3];exact ho6.keep λa ha=>aB _ _ (hsb6 a ha).2
section
variable {F:PH} {ns:Sl} {S0:List Tr} {t:Tr}
theorem kI (hr:RdS F ns 3 (ba (brs S0))) (h0:Cl S0) (ht:inn S0 t) (hf:Fit (S0.length+4)):
  ν 161 #[ns.v,vi (num S0 t)] F λr F'=>∃v,r=ZU v/\DV F' v (dia t)/\F.le F':=by
 have hns:=hr.blen;rw [aP] at hns;refine Th ?_;unfold Nj;intro b4 hb4;refine atI ?_;have l4:=ae (ZP zD 31) hb4;have q4:=au F b4 (ZP zD 31);generalize F.set b4 (ZP zD 31)=F4 at*;refine bW underlying67 sz3 zr3 rfl (by omega) (Zv _) (by omega) (by omega) ?_;intro g hg;rw [zc1 _ rfl,N5,hns];refine ⟨_,rfl,?_⟩;have e0:List.replicate S0.length (vi 0)=rnL S0 []:=by
  apply Yx;intro j;unfold rnL;rw [List.getElem?_replicate,X2];by_cases hj:j<S0.length
  ·rw [Χ hj,N6 hj];simp [rnS]
  ·rw [Υ hj,Yi (by omega)];rfl
 rw [e0];have lg:=ae (ZP (rnL S0 []).toArray 3) hg;have qg:=au F4 g (ZP (rnL S0 []).toArray 3);have q4g:=lg _ _ q4;have n4g:b4≠g:=aI hg q4;generalize hG:F4.set g (ZP (rnL S0 []).toArray 3)=Fg at*;intro b12 hb12;refine atI ?_;have n12g:g≠b12:=aI hb12 qg;have f12:F4 b12=ZR:=aV lg hb12;have lx:=ae (ZP #[ns.v,ZS ⟨ZO ⟨g,0,ZR⟩,S0.length,S0.length⟩,Z7 ZR 0 0] 243) hb12;have hs:WS F4 (Fg.set b12 (ZP #[ns.v,ZS ⟨ZO ⟨g,0,ZR⟩,S0.length,S0.length⟩,Z7 ZR 0 0] 243)) b12 g ns S0 []:=
  ⟨lg.trans lx,.nil,λx hx=>(by cases hx),f12,hg,hr.le l4,⟨Z3,au _ _ _,.inl ⟨rfl,rfl⟩,λa ha=>by cases ha⟩,lx _ _ qg⟩
 refine (yw h0 hf t ht F4 _ [] hs).mono ?_;rintro _ G ⟨rfl,hs'⟩;have ev:vis t []=bo t:=rfl;rw [ev] at*;obtain ⟨gle,gcl,_,_,_,_,⟨s,gw,go,gs⟩,_⟩:=hs';refine ⟨_,rfl,s,by rw [av gw];rfl,?_⟩;have h4:=gle _ _ q4;have hsb:∀a,s.ZK=ZO a->a.block≠b4:=λa ha e=>by obtain ⟨cur,hcur⟩:=go.elem ha;rw [e,h4] at hcur;simp at hcur
 have hd:DV (d6 G b4) #[s.v,vi (num (bo t) t)] (dia t):=⟨s,rfl,(go.keep λa ha=>fj (hsb a ha)).rd⟩;exact gy (K:=λvres F'=>∃v,ZU vres=ZU v/\DV F' v (dia t)/\F.le F') hd h4 rfl ⟨_,rfl,hd.le (aA (CM _ _) (Ay _ _)),aA (l4.trans gle) hb4⟩
end
theorem bX.keepK {F G:PH} {e size:Nat} {s:Sl} {vs:Ξ} {fp:Nat->Prop} (h:bX F e size s vs) (hk:dH fp F G) (hn:∀a,s.ZK=ZO a->¬fp a.block):bX G e size s vs:=by
 rcases h with h|⟨b,cur,h1,h2,h3⟩
 ·exact .inl h
 ·exact .inr ⟨b,cur,h1,hk _ _ h2 (hn _ h1),h3⟩
section
variable {F0 F:PH} {l:Sl} {S:List Tr}
theorem yx (hle:F0.le F) (ho:bX F 124 3 l (ba (brs S))) (hb:∀a,l.ZK=ZO a->F0 a.block=ZR) (hS:Cl S) {v:Nat} {A B:Tr} (hA:inn S A) (hB:inn S B) (hf:Fit (S.length+4)):
  ν 194 #[l.v,ZU (bh ⟨(v:Int),(num S A:Int),(num S B:Int)⟩)] F λr F'=>∃l',r=Z2 #[l'.v,vi (num (fC S (mk v A B)) (mk v A B))]/\F0.le F'/\bX F' 124 3 l' (ba (brs (fC S (mk v A B))))/\
   (∀a,l'.ZK=ZO a->F0 a.block=ZR)/\dH (λb=>∃a,l.ZK=ZO a/\a.block=b) F F':=by
 have hlen:=ho.rd.blen;rw [aP] at hlen;refine Tp ?_;unfold No;intro b3 hb3;refine atI ?_;have l3:=ae (ZP (bh ⟨(v:Int),(num S A:Int),(num S B:Int)⟩) 124) hb3;have q3:=au F b3 (ZP (bh ⟨(v:Int),(num S A:Int),(num S B:Int)⟩) 124);have n3:∀a,l.ZK=ZO a->a.block≠b3:=λa ha=>by obtain ⟨cur,hcur⟩:=ho.elem ha;exact aI hb3 hcur
 have ho:=ho.upto l3;have hle:=hle.trans l3;generalize F.set b3 (ZP (bh ⟨(v:Int),(num S A:Int),(num S B:Int)⟩) 124)=F1 at*;refine ⟨_,by rw [av q3];rfl,_,by rw [av q3];rfl,λhe=> ?_,λhe=> ?_⟩
 ·obtain rfl:=cT hA hB (by have:(num S A:Int)=num S B:=he;omega);have e:mk v A A=A:=by simp [mk]
  have e2:fC S A=S:=by unfold fC;rw [Χ hA]
  rw [e,e2];exact ⟨_,by rw [av q3];rfl,l,rfl,hle,ho,hb,dH.of_le l3⟩
 have hAB:A≠B:=λe=>he (by rw [e]);have emk:mk v A B=ZM v A B:=by simp [mk,hAB]
 rw [emk];have hbr:br S (ZM v A B)=⟨(v:Int),(num S A:Int),(num S B:Int)⟩:=rfl;refine ⟨λm i F'=>∃k:Nat,i=k/\k<=S.length/\m=S.length - k/\F'=F1/\br S (ZM v A B) ∉ (brs S).take k,S.length,⟨0,rfl,by omega,rfl,rfl,by simp⟩,?_⟩;rintro m i F' ⟨k,rfl,hk,rfl,rfl,hnot⟩;unfold CR;refine ⟨λhlt=> ?_,λhge=> ?_⟩
 ·have hkS:k<S.length:=by omega
  have hkB:k<(brs S).length:=by rw [aP];exact hkS
  obtain ⟨p,hp,hpr,_⟩:=rdb ho.rd (N6 hkB);refine ⟨p,hp,by omega,hlt,bh (brs S)[k],rfl,by simpa using hpr,bh (br S (ZM v A B)),rfl,ac q3,decide ((brs S)[k]=br S (ZM v A B)),λF=>GK (brs S)[k] (br S (ZM v A B)) F,λheq=> ?_,λhne=> ?_⟩
  ·have heq':(brs S)[k]=br S (ZM v A B):=ε heq;have hm:ZM v A B∈S:=(iJ hS hA hB).1 (by rw [<- heq'];exact YM _);have hSk:S[k]=ZM v A B:=Ir hS (YM hkS) hm (by rw [<- heq'];simp [brs]);have e2:fC S (ZM v A B)=S:=by unfold fC;rw [Χ (.inr hm)]
   have hn:=eG hS (k:=k) (t:=ZM v A B) (by rw [N6 hkS,hSk]);have hw:i64.wrap ((k:Int)+2)=((k+2:Nat):Int):=by rw [aR (by omega)];omega
   rw [e2,hn,hw];exact ⟨l,rfl,hle,ho,hb,dH.of_le l3⟩
  ·refine ⟨S.length - (k+1),by omega,k+1,fF (by omega),by omega,rfl,rfl,?_⟩;rw [Ya hkB];intro hc;rcases XR.1 hc with hc|hc
   ·exact hnot hc
   ·rw [XO] at hc;rw [hc] at hne;simp at hne
 ·have hk':k=S.length:=by omega
  have hm:ZM v A B ∉ S:=λhm=>hnot (by
   rw [hk',XY (by rw [aP];omega)]
   exact (iJ hS hA hB).2 hm)
  have e2:fC S (ZM v A B)=S++[ZM v A B]:=by
   unfold fC;rw [Υ];rintro (hc|hc)
   ·cases hc
   ·exact hm hc
  rw [e2];unfold CQ;refine ⟨bh (br S (ZM v A B)),rfl,ac q3,rfl,λb32 hb32=> ?_⟩;refine atI ?_;have l32:=ae (ZP (bh (br S (ZM v A B))) 124) hb32;have q32:=au F' b32 (ZP (bh (br S (ZM v A B))) 124);have ho2:=ho.upto l32;have hle2:=hle.trans l32;generalize F'.set b32 (ZP (bh (br S (ZM v A B))) 124)=F2 at*;refine iU underlying29 yU yV rfl (by decide) hle2 ho2 hb (x:=⟨ZO ⟨b32,0,ZR⟩,1,1⟩) (news:=dx (br S (ZM v A B))) (RdS.new q32 rfl rfl (XS _)) (λx hx=>im [br S (ZM v A B)] x (by simpa [ba] using hx)) (by simp only [hlen];omega) (by simp only [hlen];omega) ?_;intro s' F3 hle3 ho3 hlen3 hs3 hk3 _;have hw:i64.wrap ((s'.len:Int)+1)=((S.length+2:Nat):Int):=by rw [hlen3,hlen,aR (by simp only;omega) (by simp only;omega)];simp only;omega
  have e3:ba (brs (S++[ZM v A B]))=ba (brs S)++dx (br S (ZM v A B)):=by rw [eS hS hA hB,<- hbr,eP];simp [ba]
  refine ⟨s',rfl,s',?_,hle3,by rw [e3];exact ho3,hs3,λx ob hx hn=>hk3 _ _ (l32 _ _ (l3 _ _ hx)) hn⟩;rw [hw];have hl2:num (S++[ZM v A B]) (ZM v A B)=S.length+2:=by simp only [num,List.idxOf_append,Υ hm];simp
  rw [hl2]
end
structure RP where
 bp:Nat
 sa:Sl
 sb:Sl
 opc:Int
 o:Op2
 da:Dia
 db:Dia
 A:List Tr
 B:List Tr
def RP.q (p:RP):AP:=⟨0,0,0,0,0,0,0,0,.nilFunc,λx y _=>p.o x y,mB p.da p.db oL,mB p.A p.B []⟩
def RP.in2 (p:RP) (t:Nat->Tr):Prop:=inn p.A (t 0)/\inn p.B (t 1)/\t 2=ZL ZQ
theorem RP.in2_in {p:RP} {t:Nat->Tr} (h:p.in2 t):p.q.inK t:=⟨h.1,h.2.1,by rw [h.2.2];exact gp _ _⟩
def RP.obj (p:RP) (nodes bJ:Sl):Γ:= #[p.sa.v,vi p.da.2,p.sb.v,vi p.db.2,vi p.opc,nodes.v,bJ.v]
structure RF (p:RP):Prop where
 cA:Cl p.A
 cB:Cl p.B
 pA:brs p.A<+:p.da.1
 pB:brs p.B<+:p.db.1
 fA:Fit (p.da.1.length+2)
 fB:Fit (p.db.1.length+2)
 fP:Fit ((p.A.length+2)*(p.B.length+2)+2)
 op:(p.opc=0/\p.o=aY)\/(p.opc=1/\p.o=oOr)\/(p.opc=2/\p.o=kV)
theorem RF.af {p:RP} (h:RF p):AF p.q:=by
 refine ⟨λi hi=> ?_,λi hi=> ?_,λi hi=> ?_⟩
 ·match i,hi with
  |0,_=>exact h.cA
  |1,_=>exact h.cB
  |2,_=>exact .nil
 ·match i,hi with
  |0,_=>exact h.pA
  |1,_=>exact h.pB
  |2,_=>exact ZD _
 ·match i,hi with
  |0,_=>exact h.fA
  |1,_=>exact h.fB
  |2,_=>simp [RP.q,mB]
structure RE (F0:PH) (p:RP):Prop where
 a:RdS F0 p.sa 3 (ba p.da.1)
 b:RdS F0 p.sb 3 (ba p.db.1)
theorem RE.le {F0 G:PH} {p:RP} (h:RE F0 p) (hl:F0.le G):RE G p:=⟨h.a.le hl,h.b.le hl⟩
structure Ent (p:RP) (e:Br) (u:Nat->Tr):Prop where
 i:p.in2 u
 x:e.v=(num p.A (u 0):Int)
 y:e.l=(num p.B (u 1):Int)
structure O6 (p:RP) (S:List Tr) (Ls:List Br):Prop where
 all:∀e∈Ls,∃u,Ent p e u/\inn S (p.q.res u)/\e.h=(num S (p.q.res u):Int)
 nd:(Ls.map λe=>(e.v,e.l)).Nodup
def He (p:RP) (Ls Ls':List Br) (n:Nat):Prop:=∀e∈Ls',e∈Ls\/∃u,Ent p e u/\szs u<=n
theorem AA {p:RP} (_:RF p) {e:Br} {u w:Nat->Tr} (hu:Ent p e u) (hw:Ent p e w):p.q.res u=p.q.res w/\szs u=szs w:=by
 have h0:u 0=w 0:=cT hu.i.1 hw.i.1 (by have:=hu.x;have:=hw.x;omega);have h1:u 1=w 1:=cT hu.i.2.1 hw.i.2.1 (by have:=hu.y;have:=hw.y;omega);have h2:u 2=w 2:=by rw [hu.i.2.2,hw.i.2.2]
 unfold AP.res szs;rw [h0,h1,h2];exact ⟨rfl,rfl⟩
theorem O6.length {p:RP} {S:List Tr} {Ls:List Br} (h:O6 p S Ls):Ls.length<=(p.A.length+2)*(p.B.length+2):=by
 have hl:((List.range (p.A.length+2)).flatMap λ(i:Nat)=>(List.range (p.B.length+2)).map λ(j:Nat)=>((i:Int),(j:Int))).length=(p.A.length+2)*(p.B.length+2):=by simp only [List.length_flatMap,XW,Yq,List.map_const',List.sum_replicate_nat]
 have:=dO (Ls.map λe=>(e.v,e.l)) ((List.range (p.A.length+2)).flatMap λ(i:Nat)=>(List.range (p.B.length+2)).map λ(j:Nat)=>((i:Int),(j:Int))) h.nd λx hx=>by obtain ⟨e,he,rfl⟩:=X1.1 hx;obtain ⟨u,hu,_⟩:=h.all e he;have h1:=ff hu.i.1;have h2:=ff hu.i.2.1;exact Zm.2 ⟨num p.A (u 0),Yv.2 (by omega),X1.2 ⟨num p.B (u 1),Yv.2 (by omega),by rw [hu.x,hu.y]⟩⟩
 rw [hl,XW] at this;exact this
structure RS (F0 F:PH) (p:RP) (S:List Tr) (Ls:List Br):Prop where
 le:F0.le F
 nb:F0 p.bp=ZR
 cl:Cl S
 ok:O6 p S Ls
 ex:∃nodes bJ:Sl,F p.bp=ZO (ZP (p.obj nodes bJ) 203)/\bX F 124 3 nodes (ba (brs S))/\(∀a,nodes.ZK=ZO a->F0 a.block=ZR)/\bX F 215 3 bJ (ba Ls)/\(∀a,bJ.ZK=ZO a->F0 a.block=ZR)
theorem wL {F:PH} {p:RP} {nodes bJ:Sl} (hf:RF p) (hb:F p.bp=ZO (ZP (p.obj nodes bJ) 203)) (x y:Bool):
  ν 191 #[ZZ (ZO ⟨p.bp,0,ZR⟩),vi (if x then 1 else 0:Nat),vi (if y then 1 else 0:Nat)] F λr F'=>r=vi (if p.o x y then 1 else 0:Nat)/\F'=F:=by
 refine Tm ?_;unfold Nl;refine ⟨_,rfl,p.opc,by rw [aG,av hb];rfl,λh=> ?_,λh=>⟨λh1=> ?_,λh1=> ?_⟩⟩
 ·have ho:p.o=aY:=by rcases hf.op with h'|h'|h'<;>first|exact h'.2|(exfalso;omega)
  rw [ho];cases x<;>cases y<;>exact ⟨congrArg (Z0 .i64) (by decide),rfl⟩
 ·have ho:p.o=oOr:=by rcases hf.op with h'|h'|h'<;>first|exact h'.2|(exfalso;omega)
  rw [ho];cases x<;>cases y<;>exact ⟨congrArg (Z0 .i64) (by decide),rfl⟩
 ·have ho:p.o=kV:=by rcases hf.op with h'|h'|h'<;>first|exact h'.2|(exfalso;omega)
  rw [ho];cases x<;>cases y<;>exact ⟨congrArg (Z0 .i64) (by decide),rfl⟩
def RAt (p:RP) (t:Nat->Tr):Prop:=∀(F0 F:PH) (S:List Tr) (Ls:List Br),RE F0 p->RS F0 F p S Ls->Fit ((vis (p.q.res t) S).length+4)->
 ν 160 #[ZZ (ZO ⟨p.bp,0,ZR⟩),vi (num p.A (t 0)),vi (num p.B (t 1))] F λr F'=>r=vi (num (vis (p.q.res t) S) (p.q.res t))/\∃Ls',RS F0 F' p (vis (p.q.res t) S) Ls'/\He p Ls Ls' (szs t)
section
variable {p:RP} {t:Nat->Tr} {F0 F:PH} {S:List Tr} {Ls:List Br}
theorem O7 (hf:RF p) (ht:p.in2 t) (ih:∀u,p.in2 u->szs u<szs t->RAt p u) (he:RE F0 p) (hs:RS F0 F p S Ls) (hfit:Fit ((vis (p.q.res t) S).length+4)) (hn:¬((t 0).isL=ZT/\(t 1).isL=ZT))
  (hnew:∀e∈Ls,¬(e.v=(num p.A (t 0):Int)/\e.l=(num p.B (t 1):Int))) {R:ξ->Ψ}
  (hR:∀F' Ls',RS F0 F' p (vis (p.q.res t) S) Ls'->He p Ls Ls' (szs t)->R (vi (num (vis (p.q.res t) S) (p.q.res t))) F'):
  wK (ZO ⟨p.bp,0,ZR⟩) (num p.A (t 0)) (num p.B (t 1)) R F:=by
 have hv:be (t 0) (t 1) (t 2)<64:=by
  have k0:=λhl=>tn (hf.cA.inn_ok ht.1) hl;have k1:=λhl=>tn (hf.cB.inn_ok ht.2.1) hl;unfold be;cases e0:(t 0).isL with
  |false=>have:=k0 e0;omega
  |true=>
   cases e1:(t 1).isL with
   |false=>have:=k1 e1;omega
   |true=>exact absurd ⟨e0,e1⟩ hn
 have D:=down hf.af (RP.in2_in ht) hv;have hmin:min ((t 0).top:Int) ((t 1).top:Int)=((be (t 0) (t 1) (t 2):Nat):Int):=by
  have h2:(t 2).top=64:=by rw [ht.2.2];rfl
  unfold be at hv ⊢;rw [h2] at hv ⊢;omega
 have hlo2:∀v,lo v (t 2)=ZL ZQ:=λv=>by rw [ht.2.2];rfl
 have hhi2:∀v,hi v (t 2)=ZL ZQ:=λv=>by rw [ht.2.2];rfl
 obtain ⟨hle,hnb,hcl,hok,nodes,bJ,hb,hon,hnn,hos,hsn⟩:=hs;have hs0:RS F0 F p S Ls:=⟨hle,hnb,hcl,hok,nodes,bJ,hb,hon,hnn,hos,hsn⟩;unfold wK;have dA:∀{G:PH},F0.le G->DV G #[p.sa.v,vi p.da.2] p.da:=λhl=>⟨p.sa,rfl,(he.le hl).a⟩;have dB:∀{G:PH},F0.le G->DV G #[p.sb.v,vi p.db.2] p.db:=λhl=>⟨p.sb,rfl,(he.le hl).b⟩;have rowA:∀{G:PH} {n s:Sl},G p.bp=ZO (ZP (p.obj n s) 203)->G.row ⟨p.bp,0,ZR⟩ #[p.sa.v,vi p.da.2]:=λ{G n s} hG i hi=>by
  simp only [aG];rw [av hG]
  match i,hi with
  |0,_=>rfl
  |1,_=>rfl
 have rowB:∀{G:PH} {n s:Sl},G p.bp=ZO (ZP (p.obj n s) 203)->G.row (ZW ⟨p.bp,0,ZR⟩ 2) #[p.sb.v,vi p.db.2]:=λ{G n s} hG i hi=>by
  simp only [aG];rw [av hG]
  match i,hi with
  |0,_=>rfl
  |1,_=>rfl
 refine ⟨_,rfl,_,rfl,rowA hb,_,rfl,rowB hb,?_⟩;refine (fD (dA hle) hf.pA ht.1 hf.fA).mono ?_;rintro _ F1 ⟨rfl,l1⟩;have hb1:=l1 _ _ hb;refine ⟨_,rfl,rowB hb1,?_⟩;refine (fD (dB (hle.trans l1)) hf.pB ht.2.1 hf.fB).mono ?_;rintro _ F2 ⟨rfl,lx⟩;have l2:=l1.trans lx;have hb2:=l2 _ _ hb;refine ⟨_,rfl,_,rfl,rowA hb2,?_⟩;rw [hmin];generalize be (t 0) (t 1) (t 2)=v at*;refine (oN (dA (hle.trans l2)) hf.pA ht.1 hf.fA D.lt).mono ?_;rintro _ F3 ⟨rfl,lx3⟩;have l3:=l2.trans lx3;have hb3:=l3 _ _ hb;refine ⟨_,_,rfl,_,rfl,rowB hb3,?_⟩;refine (oN (dB (hle.trans l3)) hf.pB ht.2.1 hf.fB D.lt).mono ?_;rintro _ F4 ⟨rfl,lx4⟩;have l4:=l3.trans lx4;refine ⟨_,_,rfl,?_⟩;have hs4:RS F0 F4 p S Ls:=⟨hle.trans l4,hnb,hcl,hok,nodes,bJ,l4 _ _ hb,hon.upto l4,hnn,hos.upto l4,hsn⟩;have kl:p.in2 (λi=>lo v (t i)):=⟨D.il.1,D.il.2.1,hlo2 v⟩;have kh:p.in2 (λi=>hi v (t i)):=⟨D.ih.1,D.ih.2.1,hhi2 v⟩;obtain ⟨a1,a2,X,a3,a4⟩:=bD (p.q.res λi=>lo v (t i)) S D.ol hcl;obtain ⟨c1,c2,Y,c3,c4⟩:=bD (p.q.res λi=>hi v (t i)) (vis (p.q.res λi=>lo v (t i)) S) D.oh a1;have hadd:=sC hcl (v:=v) (l:=p.q.res λi=>lo v (t i)) (h:=p.q.res λi=>hi v (t i)) ⟨D.lt,D.tl,D.th,D.ol,D.oh⟩;rw [<- D.res] at hadd;have g1:=yr (p.q.res λi=>hi v (t i)) (vis (p.q.res λi=>lo v (t i)) S);have g2:=CL (vis (p.q.res λi=>hi v (t i)) (vis (p.q.res λi=>lo v (t i)) S)) (p.q.res t);rw [hadd] at g2;refine (ih _ kl D.sl F0 F4 S Ls he hs4 (by omega)).mono ?_;rintro _ F5 ⟨rfl,L1,hs5,gr1⟩;refine ⟨_,rfl,?_⟩;refine (ih _ kh D.sh F0 F5 _ L1 he hs5 (by omega)).mono ?_;rintro _ F6 ⟨rfl,L2,hs6,gr2⟩;obtain ⟨hle6,_,hcl6,hok6,nodes6,seen6,hb6,hon6,hnn6,hos6,hsn6⟩:=hs6;refine ⟨_,rfl,nodes6,by rw [aG,av hb6];rfl,?_⟩;have hnl:num (vis (p.q.res λi=>lo v (t i)) S) (p.q.res λi=>lo v (t i))=num (vis (p.q.res λi=>hi v (t i)) (vis (p.q.res λi=>lo v (t i)) S)) (p.q.res λi=>lo v (t i)):=by rw [c3,bT a2]
 rw [hnl];have hil:inn (vis (p.q.res λi=>hi v (t i)) (vis (p.q.res λi=>lo v (t i)) S)) (p.q.res λi=>lo v (t i)):=by rw [c3];exact cd a2
 refine (yx hle6 hon6 hnn6 hcl6 (v:=v) hil c2 (by omega)).mono ?_;rintro _ F7 ⟨n7,rfl,hle7,hon7,hnn7,hk7⟩;rw [<- D.res,hadd] at hon7 ⊢;have nbn:∀a,nodes6.ZK=ZO a->a.block≠p.bp:=λa ha e=>by obtain ⟨cur,hcur⟩:=hon6.elem ha;rw [e,hb6] at hcur;simp at hcur
 have nns:∀a,seen6.ZK=ZO a->¬∃a',nodes6.ZK=ZO a'/\a'.block=a.block:=λa ha ⟨a',ha',e⟩=>by obtain ⟨cur,hcur⟩:=hon6.elem ha';obtain ⟨cur',hcur'⟩:=hos6.elem ha;rw [e,hcur'] at hcur;simp at hcur
 have hb7:=hk7 _ _ hb6 (λ⟨a,ha,e⟩=>nbn a ha e);have hos7:=hos6.keepK hk7 nns;refine ⟨_,_,rfl,?_⟩;refine tf (b:=p.bp) (o:=5) (by simp) hb7 (by simp [RP.obj]) ?_;rw [show ((p.obj nodes6 seen6).setIfInBounds 5 n7.v:Γ)=p.obj n7 seen6 from rfl];have nb7:∀a,n7.ZK=ZO a->a.block≠p.bp:=λa ha e=>by obtain ⟨cur,hcur⟩:=hon7.elem ha;rw [e,hb7] at hcur;simp at hcur
 have nbs:∀a,seen6.ZK=ZO a->a.block≠p.bp:=λa ha e=>by obtain ⟨cur,hcur⟩:=hos7.elem ha;rw [e,hb7] at hcur;simp at hcur
 have hle8:F0.le (F7.set p.bp (ZP (p.obj n7 seen6) 203)):=aA hle7 hnb;have hb8:=au F7 p.bp (ZP (p.obj n7 seen6) 203);have hon8:bX (F7.set p.bp (ZP (p.obj n7 seen6) 203)) 124 3 n7 (ba (brs (vis (p.q.res t) S))):=hon7.keep λa ha=>aB _ _ (nb7 a ha);have hos8:bX (F7.set p.bp (ZP (p.obj n7 seen6) 203)) 215 3 seen6 (ba L2):=hos7.keep λa ha=>aB _ _ (nbs a ha);generalize F7.set p.bp (ZP (p.obj n7 seen6) 203)=F8 at*;refine ⟨seen6,by rw [aG,av hb8];rfl,rfl,λb132 hb132=> ?_⟩;refine atI ?_;generalize hN:num (vis (p.q.res t) S) (p.q.res t)=N at*;have lx9:=ae (ZP (bh ⟨(num p.A (t 0):Int),(num p.B (t 1):Int),(N:Int)⟩) 215) hb132;have q132:=au F8 b132 (ZP (bh ⟨(num p.A (t 0):Int),(num p.B (t 1):Int),(N:Int)⟩) 215);show aH prog _ (F8.set b132 (ZP (bh ⟨(num p.A (t 0):Int),(num p.B (t 1):Int),(N:Int)⟩) 215)) _;have hle9:=hle8.trans lx9;have hb9:=lx9 _ _ hb8;have hon9:=hon8.upto lx9;have hos9:=hos8.upto lx9;generalize F8.set b132 (ZP (bh ⟨(num p.A (t 0):Int),(num p.B (t 1):Int),(N:Int)⟩) 215)=F9 at*;have hL2:=hok6.length;have hfP:=hf.fP;have hslen:=hos9.rd.blen;have Oz:tsz prog 215=ZO (3,24):=by kernel_rfl
 have OA:bP prog 215=ZO (ZU #[Z0 .i64 0,.int .i64 0,.int .i64 0]):=by kernel_rfl
 refine iU underlying201 Oz OA rfl (by decide) hle9 hos9 hsn6 (x:=⟨ZO ⟨b132,0,ZR⟩,1,1⟩) (news:=dx ⟨(num p.A (t 0):Int),(num p.B (t 1):Int),(N:Int)⟩) (RdS.new q132 rfl rfl (XS _))
  (λx hx=>im [⟨(num p.A (t 0):Int),(num p.B (t 1):Int),(N:Int)⟩] x (by simpa [ba] using hx)) (by simp only [hslen];omega) (by simp only [hslen];omega) ?_
 intro s10 F10 hle10 hos10 hlen10 hsn10 hk10 _;have nbs9:∀a,seen6.ZK=ZO a->a.block≠p.bp:=nbs;have hb10:=hk10 _ _ hb9 (λ⟨a,ha,e⟩=>nbs9 a ha e);have hon10:=hon9.keepK hk10 λa ha ⟨a',ha',e⟩=>by obtain ⟨cur,hcur⟩:=hon9.elem ha;obtain ⟨cur',hcur'⟩:=hos9.elem ha';rw [e,hcur] at hcur';simp at hcur'
 refine ⟨s10,rfl,?_⟩;refine tf (b:=p.bp) (o:=6) (by simp) hb10 (by simp [RP.obj]) ?_;rw [show ((p.obj n7 seen6).setIfInBounds 6 s10.v:Γ)=p.obj n7 s10 from rfl];have nb10:∀a,n7.ZK=ZO a->a.block≠p.bp:=nb7;have nbs10:∀a,s10.ZK=ZO a->a.block≠p.bp:=λa ha e=>by obtain ⟨cur,hcur⟩:=hos10.elem ha;rw [e,hb10] at hcur;simp at hcur
 have hokT:(p.q.res t).ok:=by rw [D.res];exact DH D.lt D.tl D.th D.ol D.oh
 obtain ⟨v1,v2,Z,v3,v4⟩:=bD (p.q.res t) S hokT hcl;have het:Ent p ⟨(num p.A (t 0):Int),(num p.B (t 1):Int),(N:Int)⟩ t:=⟨ht,rfl,rfl⟩;have hL2new:∀e∈L2,(e.v,e.l)≠((num p.A (t 0):Int),(num p.B (t 1):Int)):=by
  intro e he2 hk;simp only [ZF] at hk;rcases gr2 e he2 with h|⟨u,hu,hsz⟩
  ·rcases gr1 e h with h|⟨u,hu,hsz⟩
   ·exact hnew e h hk
   ·have:=(AA hf hu (w:=t) ⟨ht,hk.1,hk.2⟩).2;have:=D.sl;omega
  ·have:=(AA hf hu (w:=t) ⟨ht,hk.1,hk.2⟩).2;have:=D.sh;omega
 have hfin:=hR (F10.set p.bp (ZP (p.obj n7 s10) 203)) (L2++[⟨(num p.A (t 0):Int),(num p.B (t 1):Int),(N:Int)⟩])
  ⟨aA hle10 hnb,hnb,v1,⟨λe he2=> ?_,?_⟩,n7,s10,au _ _ _,hon10.keep λa ha=>aB _ _ (nb10 a ha),hnn7,by rw [eP];simpa [ba] using hos10.keep λa ha=>aB _ _ (nbs10 a ha),hsn10⟩ ?_
 ·exact hfin
 ·rcases XR.1 he2 with he2|he2
  ·obtain ⟨u,hu,hi2,hh2⟩:=hok6.all e he2;refine ⟨u,hu,?_,?_⟩
   ·rw [<- hadd];unfold fC;split
    ·exact hi2
    ·exact cd hi2
   ·rw [hh2,<- hadd];unfold fC;split
    ·rfl
    ·rw [bT hi2]
  ·rw [XO.1 he2];exact ⟨t,het,v2,by rw [hN]⟩
 ·rw [Yd,Ye];refine ⟨hok6.nd,by simp,?_⟩;intro x hx y hy;obtain ⟨e,he2,rfl⟩:=X1.1 hx;simp only [Yf,List.map_nil,XO] at hy;rw [hy];exact hL2new e he2
 ·intro e he2;rcases XR.1 he2 with he2|he2
  ·rcases gr2 e he2 with h|⟨u,hu,hsz⟩
   ·rcases gr1 e h with h|⟨u,hu,hsz⟩
    ·exact .inl h
    ·exact .inr ⟨u,hu,by have:=D.sl;omega⟩
   ·exact .inr ⟨u,hu,by have:=D.sh;omega⟩
  ·rw [XO.1 he2];exact .inr ⟨t,het,XS _⟩
theorem Hf (hf:RF p):∀(n:Nat) (t:Nat->Tr),szs t<=n->p.in2 t->RAt p t:=by
 intro n;induction n with
 |zero=>intro t hn;have:=lf (t 0);unfold szs at hn;omega
 |succ n ih=>
  intro t hn ht F0 F S Ls he hs hfit;obtain ⟨hle,hnb,hcl,hok,nodes,bJ,hb,hon,hnn,hos,hsn⟩:=id hs;refine Tf ?_;unfold Ni;have rest:¬((t 0).isL=ZT/\(t 1).isL=ZT)->mF (ZO ⟨p.bp,0,ZR⟩) (num p.A (t 0)) (num p.B (t 1)) ZQ (λr F'=>r=vi (num (vis (p.q.res t) S) (p.q.res t))/\∃Ls',RS F0 F' p (vis (p.q.res t) S) Ls'/\He p Ls Ls' (szs t)) F:=by
   intro hnl;unfold mF;refine ⟨λh=>(by cases h),λ_=> ?_⟩;have hslen:=hos.rd.blen;have hL:=hok.length;have hfP:=hf.fP;have csn:F.cell (ZW ⟨p.bp,0,ZR⟩ 6)=ZO bJ.v:=by rw [aG,av hb];rfl
   refine ⟨λm i F'=>∃k:Nat,i=k/\k<=Ls.length/\m=Ls.length - k/\F'=F/\∀e∈Ls.take k,¬(e.v=(num p.A (t 0):Int)/\e.l=(num p.B (t 1):Int)),Ls.length,⟨0,rfl,by omega,rfl,rfl,by simp⟩,?_⟩;rintro m i F' ⟨k,rfl,hk,rfl,rfl,hnot⟩;unfold CP;refine ⟨_,rfl,bJ,csn,λhlt=> ?_,λhge=> ?_⟩
   ·have hkL:k<Ls.length:=by omega
    obtain ⟨a,ha,_,hx,hy,hh⟩:=rdb hos.rd (N6 hkL);have hw1:i64.wrap ((k:Int)+1)=((k+1:Nat):Int):=fF (by omega);have next:¬(Ls[k].v=(num p.A (t 0):Int)/\Ls[k].l=(num p.B (t 1):Int))->∃m',m'<Ls.length - k/\∃k':Nat,((k+1:Nat):Int)=k'/\k'<=Ls.length/\m'=Ls.length - k'/\F'=F'/\∀e∈Ls.take k',¬(e.v=(num p.A (t 0):Int)/\e.l=(num p.B (t 1):Int)):=λhne=>
     ⟨Ls.length - (k+1),by omega,k+1,rfl,by omega,rfl,rfl,λe he2=>by
      rw [Ya hkL] at he2;rcases XR.1 he2 with he2|he2
      ·exact hnot e he2
      ·rw [XO.1 he2];exact hne⟩
    have ax:F'.cell (ZW (ZW a (ZY (k:Int)*3)) (ZY 0*1))=ZO (vi Ls[k].v):=by obtain ⟨ab,ao,asp⟩:=a;obtain ⟨b',o',hb',_⟩:=hos.rd.cells (by omega);rw [ha] at hb';cases hb';simpa using hx
    refine ⟨bJ,csn,a,ha,by omega,by omega,by omega,by omega,_,ax,λhx1=> ?_,λhx1=> ?_⟩
    ·have ay:F'.cell (ZW (ZW a (ZY (k:Int)*3)) (ZY 1*1))=ZO (vi Ls[k].l):=by simpa using hy
     refine ⟨bJ,csn,a,ha,by omega,by omega,by omega,by omega,_,ay,?_⟩;unfold p6;refine ⟨λhy1=> ?_,λhy1=> ?_⟩
     ·have hy1:=ε hy1;have ah:F'.cell (ZW (ZW a (ZY (k:Int)*3)) (ZY 2*1))=ZO (vi Ls[k].h):=by simpa using hh
      obtain ⟨u,hu,hi2,hh2⟩:=hok.all _ (YM hkL);have e:=(AA hf hu (w:=t) ⟨ht,hx1,hy1⟩).1;rw [e] at hi2 hh2;have hvi:=gL hi2;refine ⟨bJ,csn,a,ha,by omega,by omega,by omega,by omega,_,ah,?_⟩;rw [hvi,hh2];exact ⟨rfl,Ls,hs,λe he2=> .inl he2⟩
     ·rw [hw1];exact next λhc=>η hy1 hc.2
    ·unfold p6;refine ⟨λh=>(by cases h),λ_=> ?_⟩;rw [hw1];exact next λhc=>hx1 hc.1
   ·refine O7 hf ht (λu hu hlt=>ih u (by omega) hu) he hs hfit hnl (λe he2=> ?_) λF' Ls' h1 h2=>⟨rfl,Ls',h1,h2⟩;have hkL:k=Ls.length:=by omega
    rw [hkL,XZ] at hnot;exact hnot e he2
  refine ⟨λhx=> ?_,λhx=>rest λhc=>hx (dZ.2 hc.1)⟩;by_cases hy:(t 1).isL=ZT
  ·have e:decide ((num p.B (t 1):Int)<2)=ZT:=ζ (dZ.2 hy);rw [e];have hx':=dZ.1 hx;unfold mF;refine ⟨λ_=> ?_,λh=>by cases h⟩;have hres:∀x0 x1:Bool,t 0=ZL x0->t 1=ZL x1->p.q.res t=ZL (p.o x0 x1):=λx0 x1 e0 e1=>by unfold AP.res;rw [e0,e1,ht.2.2];exact mX _ _ _ _
   generalize ht0:t 0=y0 at*;generalize ht1:t 1=y1 at*;cases y0 with
   |ZM _ _ _=>cases hx'
   |ZL x0=>
    cases y1 with
    |ZM _ _ _=>cases hy
    |ZL x1=>have hr:=hres x0 x1 rfl rfl;rw [hr];refine (wL hf hb x0 x1).mono ?_;rintro _ F' ⟨rfl,rfl⟩;exact ⟨_,rfl,rfl,Ls,hs,λe he2=> .inl he2⟩
  ·have e:decide ((num p.B (t 1):Int)<2)=ZQ:=ι (λh=>hy (dZ.1 h));rw [e];exact rest λhc=>hy hc.2
end
abbrev ap2 (o:Op2) (a b:Tr):Tr:=ap (λx y _=>o x y) a b (ZL ZQ)
structure F2 (o:Op2) (a b:Tr):Prop where
 ka:a.ok
 kb:b.ok
 fA:Fit ((bo a).length+2)
 fB:Fit ((bo b).length+2)
 fP:Fit (((bo a).length+2)*((bo b).length+2)+2)
 fT:Fit ((bo (ap2 o a b)).length+4)
theorem bq {o:Op2} {a b:Tr} (ha:a.ok) (hb:b.ok):(ap2 o a b).ok/\∀c,(ap2 o a b).ev c=o (a.ev c) (b.ev c):=by obtain ⟨h1,_,h2⟩:=fG (o:=λx y _=>o x y) ha hb (d:=ZL ZQ) trivial;exact ⟨h1,h2⟩
section
variable {F:PH} {v w:Γ} {a b:Tr}
theorem gQ {o:Op2} {opc:Int} (hop:(opc=0/\o=aY)\/(opc=1/\o=oOr)\/(opc=2/\o=kV)) (ha:DV F v (dia a)) (hb:DV F w (dia b)) (h:F2 o a b):
  ν 110 #[ZU v,ZU w,vi opc] F λr F'=>∃u,r=ZU u/\DV F' u (dia (ap2 o a b))/\F.le F':=by
 obtain ⟨ka,kb,fA,fB,fP,fT⟩:=h;obtain ⟨sa,rfl,hra⟩:=ha;obtain ⟨sb,rfl,hrb⟩:=hb;refine Td ?_;unfold Nf;intro b3 hb3;refine atI ?_;have l3:=ae (ZP #[sa.v,vi (dia a).2] 31) hb3;have q3:=au F b3 (ZP #[sa.v,vi (dia a).2] 31);generalize F.set b3 (ZP #[sa.v,vi (dia a).2] 31)=F3 at*;intro b4 hb4;refine atI ?_;have lx:=ae (ZP #[sb.v,vi (dia b).2] 31) hb4;have q4:=au F3 b4 (ZP #[sb.v,vi (dia b).2] 31);have q3:=lx _ _ q3;have l4:=l3.trans lx;clear lx;generalize F3.set b4 (ZP #[sb.v,vi (dia b).2] 31)=F4 at*;intro b6 hb6;refine atI ?_;have f6:F b6=ZR:=aV l4 hb6;have lx:=ae (ZP zD 31) hb6;have q6:=au F4 b6 (ZP zD 31);have q3:=lx _ _ q3;have q4:=lx _ _ q4;have l6:=l4.trans lx;clear lx;generalize F4.set b6 (ZP zD 31)=F6 at*;refine ⟨#[sa.v,vi (dia a).2],rfl,ac q3,#[sb.v,vi (dia b).2],rfl,ac q4,rfl,rfl,λb13 hb13=> ?_⟩;refine atI ?_
 let p:RP:=⟨b13,sa,sb,opc,o,dia a,dia b,bo a,bo b⟩
 have e13:(Array.setIfInBounds (wr (wr (#[Z7 ZR 0 0,vi 0,Z7 ZR 0 0,vi 0,vi 0,Z7 ZR 0 0,Z7 ZR 0 0]:Γ) 0 (#[sa.v,vi (dia a).2]:Γ).toList) 2 (#[sb.v,vi (dia b).2]:Γ).toList) 4 (vi opc))=p.obj Z3 Z3:=rfl;rw [e13];have lx:=ae (ZP (p.obj Z3 Z3) 203) hb13;have q13:=au F6 b13 (ZP (p.obj Z3 Z3) 203);have q3':=lx _ _ q3;have q4':=lx _ _ q4;have hrf:RF p:=⟨bI ka,bI kb,ZD _,ZD _,by show Fit ((brs (bo a)).length+2);rw [aP];exact fA,by show Fit ((brs (bo b)).length+2);rw [aP];exact fB,fP,hop⟩;have hre:RE F6 p:=⟨hra.le l6,hrb.le l6⟩;have hrs:RS F6 (F6.set b13 (ZP (p.obj Z3 Z3) 203)) p [] []:=⟨lx,hb13,.nil,⟨λe he=>(by cases he),by simp⟩,Z3,Z3,q13,.inl ⟨rfl,rfl⟩,λa ha=>(by cases ha),.inl ⟨rfl,rfl⟩,λa ha=>by cases ha⟩;generalize F6.set b13 (ZP (p.obj Z3 Z3) 203)=F7 at*;refine ⟨(dia a).2,by rw [av q3'];rfl,(dia b).2,by rw [av q4'];rfl,?_⟩;have hres:p.q.res (mB a b (ZL ZQ))=ap2 o a b:=rfl;have hat:=Hf hrf _ (mB a b (ZL ZQ)) (XS _) ⟨bY ka,bY kb,rfl⟩ F6 F7 [] [] hre hrs (by rw [hres];exact fT);rw [hres] at hat;refine hat.mono ?_;rintro _ F8 ⟨rfl,Ls',hs8,_⟩;obtain ⟨hle8,hnb8,hcl8,_,nodes,bJ,hb8,hon8,hnn8,_,_⟩:=hs8;replace hb8:F8 b13=ZO (ZP (p.obj nodes bJ) 203):=hb8;refine ⟨_,rfl,nodes,by rw [av hb8];rfl,?_⟩;have ev:vis (ap2 o a b) []=bo (ap2 o a b):=rfl;rw [ev] at*;have q68:=hle8 _ _ q6
 have hon':bX (d6 F8 b6) 124 3 nodes (ba (brs (bo (ap2 o a b)))):=hon8.keep λa ha=>fj (λe=>by
  have:=hnn8 a ha;rw [e,q6] at this
  cases this)
 have hkT:=(bq (o:=o) ka kb).1;refine (jc (kI hon'.rd hcl8 (bY hkT) fT) q68).mono ?_;rintro _ F9 ⟨u,rfl,⟨G,hu,lG,gG⟩,l9,q9⟩;refine ⟨_,rfl,?_⟩;exact gy (K:=λvres F'=>∃u,ZU vres=ZU u/\DV F' u (dia (ap2 o a b))/\F.le F') hu q9 rfl ⟨_,rfl,hu.le (aA lG gG),aA (l6.trans (hle8.trans l9)) f6⟩
theorem iL (ha:DV F v (dia a)) (hb:DV F w (dia b)) (h:F2 aY a b):ν 45 #[ZU v,ZU w] F λr F'=>∃u,r=ZU u/\DV F' u (dia (ap2 aY a b))/\F.le F':=by refine WY ?_;unfold S8;intro b2 hb2;refine atI ?_;have l2:=ae (ZP v 31) hb2;have q2:=au F b2 (ZP v 31);generalize F.set b2 (ZP v 31)=F2 at*;intro b3 hb3;refine atI ?_;have lx:=ae (ZP w 31) hb3;have q3:=au F2 b3 (ZP w 31);have q2:=lx _ _ q2;have l3:=l2.trans lx;clear lx;generalize F2.set b3 (ZP w 31)=F3 at*;intro b4 hb4;refine atI ?_;have f4:F b4=ZR:=aV l3 hb4;have lx:=ae (ZP zD 31) hb4;have q4:=au F3 b4 (ZP zD 31);have q2:=lx _ _ q2;have q3:=lx _ _ q3;have l4:=l3.trans lx;clear lx;generalize F3.set b4 (ZP zD 31)=F4 at*;refine ⟨v,ha.size,ac q2,w,hb.size,ac q3,?_⟩;have ld:=eO l4 f4;refine (jc (gQ (opc:=0) (.inl ⟨rfl,rfl⟩) (ha.le ld) (hb.le ld) h) q4).mono ?_;rintro _ F5 ⟨z,rfl,⟨G,hz,lG,gG⟩,l5,q5⟩;refine ⟨_,rfl,?_⟩;exact gy (K:=λvres F'=>∃u,ZU vres=ZU u/\DV F' u (dia (ap2 aY a b))/\F.le F') hz q5 rfl ⟨_,rfl,hz.le (aA lG gG),aA (l4.trans l5) f4⟩
theorem sH (ha:DV F v (dia a)) (hb:DV F w (dia b)) (h:F2 oOr a b):ν 123 #[ZU v,ZU w] F λr F'=>∃u,r=ZU u/\DV F' u (dia (ap2 oOr a b))/\F.le F':=by refine Te ?_;unfold Ng;intro b2 hb2;refine atI ?_;have l2:=ae (ZP v 31) hb2;have q2:=au F b2 (ZP v 31);generalize F.set b2 (ZP v 31)=F2 at*;intro b3 hb3;refine atI ?_;have lx:=ae (ZP w 31) hb3;have q3:=au F2 b3 (ZP w 31);have q2:=lx _ _ q2;have l3:=l2.trans lx;clear lx;generalize F2.set b3 (ZP w 31)=F3 at*;intro b4 hb4;refine atI ?_;have f4:F b4=ZR:=aV l3 hb4;have lx:=ae (ZP zD 31) hb4;have q4:=au F3 b4 (ZP zD 31);have q2:=lx _ _ q2;have q3:=lx _ _ q3;have l4:=l3.trans lx;clear lx;generalize F3.set b4 (ZP zD 31)=F4 at*;refine ⟨v,ha.size,ac q2,w,hb.size,ac q3,?_⟩;have ld:=eO l4 f4;refine (jc (gQ (opc:=1) (.inr (.inl ⟨rfl,rfl⟩)) (ha.le ld) (hb.le ld) h) q4).mono ?_;rintro _ F5 ⟨z,rfl,⟨G,hz,lG,gG⟩,l5,q5⟩;refine ⟨_,rfl,?_⟩;exact gy (K:=λvres F'=>∃u,ZU vres=ZU u/\DV F' u (dia (ap2 oOr a b))/\F.le F') hz q5 rfl ⟨_,rfl,hz.le (aA lG gG),aA (l4.trans l5) f4⟩
theorem sI (ha:DV F v (dia a)) (h:F2 kV a (ZL ZT)):ν 86 #[ZU v] F λr F'=>∃u,r=ZU u/\DV F' u (dia (ap2 kV a (ZL ZT)))/\F.le F':=by refine W1 ?_;unfold Tb;intro b2 hb2;refine atI ?_;have l2:=ae (ZP v 31) hb2;have q2:=au F b2 (ZP v 31);generalize F.set b2 (ZP v 31)=F3 at*;intro b4 hb4;refine atI ?_;have f4:F b4=ZR:=aV l2 hb4;have lx:=ae (ZP zD 31) hb4;have q4:=au F3 b4 (ZP zD 31);have q2:=lx _ _ q2;have l4:=l2.trans lx;clear lx;generalize F3.set b4 (ZP zD 31)=F4 at*;refine ⟨v,ha.size,ac q2,?_⟩;refine (jc (cv (F:=d6 F4 b4) ZT) q4).mono ?_;rintro _ F5 ⟨y,rfl,⟨G0,hy,lG0,gG0⟩,l5,q5⟩;refine ⟨_,rfl,ac (l5 _ _ q2),?_⟩;have ld:=eO (l4.trans l5) f4;refine (jc (gQ (opc:=2) (.inr (.inr ⟨rfl,rfl⟩)) (ha.le ld) (hy.beside lG0 gG0) h) q5).mono ?_;rintro _ F6 ⟨z,rfl,⟨G,hz,lG,gG⟩,l6,q6⟩;refine ⟨_,rfl,?_⟩;exact gy (K:=λvres F'=>∃u,ZU vres=ZU u/\DV F' u (dia (ap2 kV a (ZL ZT)))/\F.le F') hz q6 rfl ⟨_,rfl,hz.le (aA lG gG),aA (l4.trans (l5.trans l6)) f4⟩
theorem AB (ha:DV F v (dia a)) (hb:DV F w (dia b)) (h1:F2 kV b (ZL ZT)) (h2:F2 aY a (ap2 kV b (ZL ZT))):
  ν 175 #[ZU v,ZU w] F λr F'=>∃u,r=ZU u/\DV F' u (dia (ap2 aY a (ap2 kV b (ZL ZT))))/\F.le F':=by
 refine Tj ?_;unfold Nk;intro b2 hb2;refine atI ?_;have l2:=ae (ZP v 31) hb2;have q2:=au F b2 (ZP v 31);generalize F.set b2 (ZP v 31)=F2 at*;intro b3 hb3;refine atI ?_;have lx:=ae (ZP w 31) hb3;have q3:=au F2 b3 (ZP w 31);have q2:=lx _ _ q2;have l3:=l2.trans lx;clear lx;generalize F2.set b3 (ZP w 31)=F3 at*;intro b4 hb4;refine atI ?_;have f4:F b4=ZR:=aV l3 hb4;have lx:=ae (ZP zD 31) hb4;have q4:=au F3 b4 (ZP zD 31);have q2:=lx _ _ q2;have q3:=lx _ _ q3;have l4:=l3.trans lx;clear lx;generalize F3.set b4 (ZP zD 31)=F4 at*;refine ⟨v,ha.size,ac q2,w,hb.size,ac q3,?_⟩;refine (jc (sI (hb.le (eO l4 f4)) h1) q4).mono ?_;rintro _ F5 ⟨y,rfl,⟨G0,hy,lG0,gG0⟩,l5,q5⟩;refine ⟨_,rfl,ac (l5 _ _ q2),?_⟩;refine (jc (iL (ha.le (eO (l4.trans l5) f4)) (hy.beside lG0 gG0) h2) q5).mono ?_;rintro _ F6 ⟨z,rfl,⟨G,hz,lG,gG⟩,l6,q6⟩;refine ⟨_,rfl,?_⟩;exact gy (K:=λvres F'=>∃u,ZU vres=ZU u/\DV F' u (dia (ap2 aY a (ap2 kV b (ZL ZT))))/\F.le F') hz q6 rfl ⟨_,rfl,hz.le (aA lG gG),aA (l4.trans (l5.trans l6)) f4⟩
end
theorem sJ {n v:Nat} {t:Tr} (h:eK n t):eK n (lo v t):=by
 cases t with
 |ZL b=>trivial
 |ZM w l r=>
  simp only [lo];split
  ·exact h.2.1
  ·exact h
theorem sK {n v:Nat} {t:Tr} (h:eK n t):eK n (hi v t):=by
 cases t with
 |ZL b=>trivial
 |ZM w l r=>
  simp only [hi];split
  ·exact h.2.2
  ·exact h
theorem Hg {n v:Nat} {l h:Tr} (hv:v<n) (h1:eK n l) (h2:eK n h):eK n (mk v l h):=by
 unfold mk;split
 ·exact h1
 ·exact ⟨hv,h1,h2⟩
theorem nW {n:Nat} {t:Tr} (h:eK n t) (hl:t.isL=ZQ):t.top<n:=by
 cases t with
 |ZL b=>cases hl
 |ZM v l r=>exact h.1
theorem Hh (o:Op3) {n:Nat}:∀(k:Nat) (a b d:Tr),a.sz+b.sz+d.sz<=k->a.ok->b.ok->d.ok->eK n a->eK n b->eK n d->eK n (ap o a b d):=by
 intro k;induction k with
 |zero=>intro a b d hk;have:=lf a;omega
 |succ k ih=>
  intro a b d hk ha hb hd na nb nd;by_cases hv:be a b d<64
  ·have hst:=xh (o:=o) ha hb hd hv;have v1:be a b d<=a.top:=by unfold be;omega
   have v2:be a b d<=b.top:=by unfold be;omega
   have v3:be a b d<=d.top:=by unfold be;omega
   have hcase:be a b d=a.top\/be a b d=b.top\/be a b d=d.top:=by unfold be;omega
   generalize be a b d=v at*;have nl:∀{t:Tr},v=t.top->t.isL=ZQ:=λ{t} e=>by
    cases t with
    |ZL b=>simp only [top] at e;omega
    |ZM _ _ _=>rfl
   obtain ⟨al1,al2,al3,al4,al5⟩:=cy ha v1;obtain ⟨bl1,bl2,bl3,bl4,bl5⟩:=cy hb v2;obtain ⟨dl1,dl2,dl3,dl4,dl5⟩:=cy hd v3;obtain ⟨ah1,ah2,ah3,ah4,ah5⟩:=cz ha v1;obtain ⟨bh1,bh2,bh3,bh4,bh5⟩:=cz hb v2;obtain ⟨dh1,dh2,dh3,dh4,dh5⟩:=cz hd v3;have hvn:v<n:=by
    rcases hcase with e|e|e
    ·have:=nW na (nl e);omega
    ·have:=nW nb (nl e);omega
    ·have:=nW nd (nl e);omega
   have hsl:(lo v a).sz+(lo v b).sz+(lo v d).sz<=k:=by
    rcases hcase with e|e|e
    ·have:=al4 e.symm (nl e);omega
    ·have:=bl4 e.symm (nl e);omega
    ·have:=dl4 e.symm (nl e);omega
   have hsh:(hi v a).sz+(hi v b).sz+(hi v d).sz<=k:=by
    rcases hcase with e|e|e
    ·have:=ah4 e.symm (nl e);omega
    ·have:=bh4 e.symm (nl e);omega
    ·have:=dh4 e.symm (nl e);omega
   rw [hst];exact Hg hvn (ih _ _ _ hsl al1 bl1 dl1 (sJ na) (sJ nb) (sJ nd)) (ih _ _ _ hsh ah1 bh1 dh1 (sK na) (sK nb) (sK nd))
  ·unfold be at hv;obtain ⟨p,rfl⟩:=gK ha (by omega);obtain ⟨q,rfl⟩:=gK hb (by omega);obtain ⟨r,rfl⟩:=gK hd (by omega);rw [mX];trivial
theorem AC {n:Nat} (hn:n<=64):∀(t:Tr),t.ok->eK n t->cnt t+1<=2 ^ (n - min n t.top)
 |ZL b,_,_=>by
  have:n - min n (ZL b).top=0:=by simp only [top];omega
  rw [this];simp [cnt]
 |ZM v l h,⟨h0,h1,h2,h3,h4,h5⟩,⟨b0,b1,b2⟩=>by
  have il:=AC hn l h4 b1;have ih:=AC hn h h5 b2;have k1:2 ^ (n - min n l.top)<=2 ^ (n - (v+1)):=Yz (by decide) (by omega);have k2:2 ^ (n - min n h.top)<=2 ^ (n - (v+1)):=Yz (by decide) (by omega);have e:n - min n (ZM v l h).top=n - (v+1)+1:=by simp only [top];omega
  rw [e,Nat.pow_succ];simp only [cnt];omega
def Sx (n:Nat) (t:Tr):Prop:=t.ok/\eK n t
theorem Sx.cnt63 {n:Nat} {t:Tr} (h:Sx n t) (hn:n<=6):cnt t<=63:=by have h1:=AC (by omega:n<=64) t h.1 h.2;have h2:2 ^ (n - min n t.top)<=2 ^ 6:=Yz (by decide) (by omega);omega
theorem Sx.small {n:Nat} {t:Tr} (h:Sx n t) (hn:n<=6):jd t:=Hb h.1 (by have:=h.cnt63 hn;omega)
theorem Sx.len {n:Nat} {t:Tr} (h:Sx n t) (hn:n<=6):(bo t).length<=63:=YQ (oX t) (h.cnt63 hn)
theorem Sx.ap {n:Nat} {o:Op3} {a b d:Tr} (ha:Sx n a) (hb:Sx n b) (hd:Sx n d):Sx n (Tr.ap o a b d):=⟨Iq ha.1 hb.1 hd.1,Hh o _ a b d (XS _) ha.1 hb.1 hd.1 ha.2 hb.2 hd.2⟩
theorem Sx.ZL (n:Nat) (b:Bool):Sx n (Tr.ZL b):=⟨trivial,trivial⟩
theorem Sx.ap2 {n:Nat} {o:Op2} {a b:Tr} (ha:Sx n a) (hb:Sx n b):Sx n (ap2 o a b):=Sx.ap ha hb (Sx.ZL n _)
theorem Sx.tv {n v:Nat} (hv:v<n) (hn:n<=6):Sx n (tv v):=⟨sF (by omega),hv,trivial,trivial⟩
theorem Sx.f2 {n:Nat} {o:Op2} {a b:Tr} (ha:Sx n a) (hb:Sx n b) (hn:n<=6):F2 o a b:=by have la:=ha.len hn;have lb:=hb.len hn;have lt:=(ha.ap2 (o:=o) hb).len hn;have hp:((bo a).length+2)*((bo b).length+2)<=65*65:=Nat.mul_le_mul (by omega) (by omega);exact ⟨ha.1,hb.1,by omega,by omega,by omega,by omega⟩
theorem Nu {v:Nat} (h:v<64):u64.wrap (v:Int)=(v:Int):=CO (by omega) (by omega)
theorem Hi {S:Tr->Prop} {f:FuncId} {args:Γ} {F:PH} {x:Nat} {o:Obj} (h:aj prog f args (d6 F x) λr F'=>∃w t,r=ZU w/\S t/\DV F' w (dia t)/\(d6 F x).le F') (hx:F x=ZO o):
  aj prog f args F λr F'=>∃w t,r=ZU w/\S t/\(∃G,DV G w (dia t)/\G.le F'/\G x=ZR)/\F.le F'/\F' x=ZO o:=
 (aj.avoid h hx).mono λr _ ⟨G,⟨w,t,hr,ht,hw,lg⟩,lG,q,g⟩=>⟨w,t,hr,ht,⟨G,hw,lG,g⟩,ik lg lG q hx,q⟩
def O8 (l:Φ) (k:Nat):Bool:=
 if h:k / 8<l.length then decide (u8.wrap ((BitVec.ofInt (u8).bits (Int.fdiv l[k / 8] (2 ^ (min (ZY (((k % 8:Nat):Int))) (u8).bits))) &&& BitVec.ofInt (u8).bits (1:Int)).toNat)=(1:Int)) else ZQ
def jj (l:Φ):Nat->Nat->Nat->Tr
 |0,_,k=>Tr.ZL (O8 l k)
 |m+1,v,k=>ap2 oOr (ap2 aY (tv v) (jj l m (v+1) (k+2 ^ v))) (ap2 aY (jj l m (v+1) k) (ap2 kV (tv v) (Tr.ZL ZT)))
theorem AD {n:Nat} (hn:n<=6):∀(m v k:Nat),v+m=n->k<2 ^ v->∀(F:PH) (sl:Sl) (l:Φ),RdS F sl 1 (l.map (Z0 .u8))->
  ν 135 #[sl.v,vi n,vi v,vi k] F λr F'=>∃u t,r=ZU u/\(Sx n t/\t=jj l m v k)/\DV F' u (dia t)/\F.le F':=by
 intro m;induction m with
 |zero=>
  intro v k hvm hk F sl l hr;obtain rfl:v=n:=by omega
  have hk64:k<64:=Nat.lt_of_lt_of_le hk (Yz (by decide) hn);refine Nh ?_;unfold GZ;intro b8 hb8;refine atI ?_;have l8:=ae (ZP zD 31) hb8;have q8:=au F b8 (ZP zD 31);have hr8:=hr.le l8;generalize F.set b8 (ZP zD 31)=F8 at*;have hd:i64.wrap (Int.tdiv (k:Int) 8)=((k / 8:Nat):Int):=by rw [Y1 (by omega),aR (by omega)];rfl
  have hm:u64.wrap (Z5 (k:Int) 8)=((k % 8:Nat):Int):=by rw [YI (by omega),CO (by omega) (by omega)];rfl
  have hlen:=hr8.len;simp at hlen;refine ⟨λ_=>⟨λhlt=> ?_,λ_=> ?_⟩,λh=>absurd rfl h⟩
  ·rw [hd] at hlt ⊢;have hkl:k / 8<l.length:=by omega
   obtain ⟨b,o,hb,hc⟩:=hr8.cells (by omega);have hcell:=hc (k / 8) (by simpa using hkl);refine ⟨_,hb,by omega,hlt,l[k / 8],by rw [aG,N5,Yj];simpa using hcell,by rw [hm];omega,?_⟩;refine (jc (cv (F:=d6 F8 b8) _) q8).mono ?_;rintro _ F9 ⟨u,rfl,⟨G,hu,lG,gG⟩,l9,q9⟩;refine ⟨_,rfl,?_⟩;exact gy (K:=λvres F'=>∃u t,ZU vres=ZU u/\(Sx v t/\t=jj l 0 v k)/\DV F' u (dia t)/\F.le F') hu q9 rfl ⟨_,_,rfl,⟨Sx.ZL v _,by rw [jj,O8,dif_pos hkl,hm]⟩,hu.le (aA lG gG),aA (l8.trans l9) hb8⟩
  ·rename_i hge;rw [hd] at hge;refine (jc (cv (F:=d6 F8 b8) ZQ) q8).mono ?_;rintro _ F9 ⟨u,rfl,⟨G,hu,lG,gG⟩,l9,q9⟩;refine ⟨_,rfl,?_⟩;exact gy (K:=λvres F'=>∃u t,ZU vres=ZU u/\(Sx v t/\t=jj l 0 v k)/\DV F' u (dia t)/\F.le F') hu q9 rfl ⟨_,_,rfl,⟨Sx.ZL v _,by rw [jj,O8,dif_neg (by omega)]⟩,hu.le (aA lG gG),aA (l8.trans l9) hb8⟩
 |succ m ih=>
  intro v k hvm hk F sl l hr;have hvn:v<n:=by omega
  have hk64:k<64:=Nat.lt_of_lt_of_le hk (YQ (Yz (by decide:2>0) (by omega:v<=6)) (by decide));have hp64:2 ^ v<=32:=YQ (Yz (by decide:2>0) (by omega:v<=5)) (by decide);refine Nh ?_;unfold GZ;intro b8 hb8;refine atI ?_;have l8:=ae (ZP zD 31) hb8;have q8:=au F b8 (ZP zD 31);generalize F.set b8 (ZP zD 31)=F8 at*;refine ⟨λh=>by omega,λ_=> ?_⟩;have hvar:=nV (F:=d6 F8 b8) (v:Int);rw [CW (by omega)] at hvar;refine (Az hvar q8).mono ?_;rintro _ F9 ⟨x,rfl,⟨G,hx,lG,gG⟩,l9,q9⟩;refine ⟨_,_,rfl,?_⟩;intro b9 hb9;refine atI ?_;refine stW (au _ _ _) hx.size rfl hx.st ?_;rw [aW];have n89:b8≠b9:=aI hb9 q9;have lx:=ae (ZP x 31) hb9;have r9:=au F9 b9 (ZP x 31);have q10:=lx _ _ q9;have hx10:=hx.beside (lG.trans lx) gG;have l10:=l8.trans (l9.trans lx);generalize F9.set b9 (ZP x 31)=F10 at*;have wv:i64.wrap ((v:Int)+1)=((v+1:Nat):Int):=fF (by omega);have w2:i64.wrap ((1:Int)*2 ^ (min (ZY (u64.wrap (v:Int))) (i64).bits))=((2 ^ v:Nat):Int):=by
   rw [Nu (by omega)];have hm:min (ZY (v:Int)) (i64).bits=v:=by simp only [IntKind.bits,N5];omega
   have e1:(1:Int)*2 ^ v=((2 ^ v:Nat):Int):=by simp
   rw [hm,e1,aR (by omega)]
  have wk:i64.wrap ((k:Int)+((2 ^ v:Nat):Int))=((k+2 ^ v:Nat):Int):=by rw [aR (by omega)];omega
  rw [w2,wk,wv];refine ⟨x,hx.size,ac r9,by rw [Nu (by omega)];omega,x,hx.size,ac r9,?_⟩;have hpow:2 ^ (v+1)=2 ^ v+2 ^ v:=by rw [Nat.pow_succ];omega
  refine (Hi (ih (v+1) (k+2 ^ v) (by omega) (by omega) (d6 F10 b8) sl l (hr.le (eO l10 hb8))) q10).mono ?_;rintro _ F11 ⟨u1,t1,rfl,⟨k1,e1⟩,⟨G1,h1,lG1,gG1⟩,l11,q11⟩;refine ⟨_,rfl,ac (l11 _ _ r9),ac (l11 _ _ r9),?_⟩;refine (jc (iL (hx10.le (nU l11)) (h1.beside lG1 gG1) ((Sx.tv hvn hn).f2 k1 hn)) q11).mono ?_;rintro _ F12 ⟨u2,rfl,⟨G2,h2,lG2,gG2⟩,l12,q12⟩;have k2:=(Sx.tv hvn hn).ap2 (o:=aY) k1;refine ⟨_,rfl,ac (l12 _ _ (l11 _ _ r9)),?_⟩;refine (Hi (ih (v+1) k (by omega) (by omega) (d6 F12 b8) sl l (hr.le (eO (l10.trans (l11.trans l12)) hb8))) q12).mono ?_;rintro _ F13 ⟨u3,t3,rfl,⟨k3,e3⟩,⟨G3,h3,lG3,gG3⟩,l13,q13⟩;refine ⟨_,rfl,ac (l13 _ _ (l12 _ _ (l11 _ _ r9))),?_⟩;have kx:=(Sx.tv hvn hn).ap2 (o:=kV) (Sx.ZL n ZT);refine (jc (AB (h3.beside lG3 gG3) (hx10.le (nU (l11.trans (l12.trans l13)))) ((Sx.tv hvn hn).f2 (Sx.ZL n ZT) hn) (k3.f2 kx hn)) q13).mono ?_;rintro _ F14 ⟨u4,rfl,⟨G4,h4,lG4,gG4⟩,l14,q14⟩;have k4:=k3.ap2 (o:=aY) kx;refine ⟨_,rfl,?_⟩;refine (jc (sH ((h2.beside lG2 gG2).le (nU (l13.trans l14))) (h4.beside lG4 gG4) (k2.f2 k4 hn)) q14).mono ?_;rintro _ F15 ⟨u5,rfl,⟨G5,h5,lG5,gG5⟩,l15,q15⟩;refine ⟨_,rfl,?_⟩;exact gy (K:=λvres F'=>∃u t,ZU vres=ZU u/\(Sx n t/\t=jj l (m+1) v k)/\DV F' u (dia t)/\F.le F') h5 q15 rfl ⟨_,_,rfl,⟨k2.ap2 k4,by rw [jj,<- e1,<- e3]⟩,h5.le (aA lG5 gG5),aA (l10.trans (l11.trans (l12.trans (l13.trans (l14.trans l15))))) hb8⟩
theorem oO {n:Nat} (hn:n<=6) {F:PH} {sl:Sl} {l:Φ} (hr:RdS F sl 1 (l.map (Z0 .u8))):ν 82 #[sl.v,vi n] F λr F'=>∃u t,r=ZU u/\(Sx n t/\t=jj l n 0 0)/\DV F' u (dia t)/\F.le F':=by
 refine W0 ?_;unfold Ta;intro b4 hb4;refine atI ?_;have l4:=ae (ZP zD 31) hb4;have q4:=au F b4 (ZP zD 31);generalize F.set b4 (ZP zD 31)=F4 at*;have e:max (0:Int) (min (n:Int) 6)=(n:Int):=by omega
 rw [e];refine (Hi (AD hn n 0 0 (by omega) (by simp) (d6 F4 b4) sl l (hr.le (eO l4 hb4))) q4).mono ?_;rintro _ F5 ⟨u,t,rfl,kt,⟨G,hu,lG,gG⟩,l5,q5⟩;refine ⟨_,rfl,?_⟩;exact gy (K:=λvres F'=>∃u t,ZU vres=ZU u/\(Sx n t/\t=jj l n 0 0)/\DV F' u (dia t)/\F.le F') hu q5 rfl ⟨_,_,rfl,kt,hu.le (aA lG gG),aA (l4.trans l5) hb4⟩
section
variable {F:PH} {v:Γ} {d:Dia}
open Classical in
theorem AG (hd:DV F v d) (hf:Fit (d.1.length+4)) {S:List Tr} (hS:Cl S) {k:Nat} (hk:S.length=k) (hkd:k<d.1.length) (hb:brs S=d.1.take k):
  ν 216 #[ZU v,vi k] F λr F'=>r=ZV (decide (yp S d.1[k]))/\F.le F':=by
 have hd':=hd;obtain ⟨s,rfl,hr⟩:=hd;have hlen:=hr.blen;have hpre:brs S<+:d.1:=by rw [hb];exact List.take_prefix _ _
 generalize hB:d.1[k]=B;have hget:d.1[k]? =ZO B:=by rw [N6 hkd,hB]
 refine Tt ?_;unfold Nt;intro b2 hb2;refine atI ?_;have l2:=ae (ZP #[s.v,vi d.2] 31) hb2;have q2:=au F b2 (ZP #[s.v,vi d.2] 31);generalize F.set b2 (ZP #[s.v,vi d.2] 31)=F2 at*;obtain ⟨p,hp,hrow,_⟩:=rdb (hr.le l2) hget;refine ⟨s,by rw [av q2];rfl,p,hp,by omega,by omega,bh B,rfl,by simpa using hrow,?_⟩;intro b5 hb5;refine atI ?_;refine stW (au _ _ _) rfl rfl (mH _) ?_;rw [aW];have lx:=ae (ZP (bh B) 124) hb5;have q5:=au F2 b5 (ZP (bh B) 124);have q2:=lx _ _ q2;have l5:=l2.trans lx;generalize F2.set b5 (ZP (bh B) 124)=F5 at*;have c0:∀{G:PH},F5.le G->G.cell (ZX b5 0 ZR)=ZO (vi B.v):=λh=>by rw [av (h _ _ q5)];rfl
 have c1:∀{G:PH},F5.le G->G.cell (ZX b5 1 ZR)=ZO (vi B.l):=λh=>by rw [av (h _ _ q5)];rfl
 have c2:∀{G:PH},F5.le G->G.cell (ZX b5 2 ZR)=ZO (vi B.h):=λh=>by rw [av (h _ _ q5)];rfl
 have r0:=PH.le_rfl (F:=F5);have hw:i64.wrap ((k:Int)+2)=(k:Int)+2:=by rw [aR (by omega)]
 have bad:∀{G:PH},F.le G->¬yp S B->(ZV ZQ=ZV (decide (yp S B))/\F.le G):=λ{G} hg hn=>⟨by rw [ι hn],hg⟩;rw [hw];refine ⟨_,c0 r0,λh=>bad l5 λhF=>(by have:=cu hS hF;omega),λh1=> ?_⟩;refine ⟨_,c0 r0,λh=>bad l5 λhF=>(by have:=cu hS hF;omega),λh2=> ?_⟩;refine ⟨_,c1 r0,λh=>bad l5 λhF=>(by have:=cu hS hF;omega),λh3=> ?_⟩;refine ⟨_,c2 r0,λh=>bad l5 λhF=>(by have:=cu hS hF;omega),λh4=> ?_⟩;refine ⟨_,c1 r0,λh=>bad l5 λhF=>(by have:=cu hS hF;omega),λh5=> ?_⟩;refine ⟨_,c2 r0,λh=>bad l5 λhF=>(by have:=cu hS hF;omega),λh6=> ?_⟩;refine ⟨_,c1 r0,_,c2 r0,λh=>bad l5 λhF=>(by have:=cu hS hF;omega),λh7=> ?_⟩;have il:inn S (tr S B.l.toNat):=gT (by omega);have ih:inn S (tr S B.h.toNat):=gT (by omega);have nl:((num S (tr S B.l.toNat):Nat):Int)=B.l:=by rw [gq hS (by omega)];omega
 have nh:((num S (tr S B.h.toNat):Nat):Int)=B.h:=by rw [gq hS (by omega)];omega
 refine ⟨_,rfl,ac q2,_,c1 r0,_,c0 r0,?_⟩;have s1:=fD (hd'.le l5) hpre il (by omega);rw [nl] at s1;refine s1.mono ?_;rintro _ F6 ⟨rfl,l6⟩;refine ⟨_,rfl,c0 l6,λh=>bad (l5.trans l6) λhF=>(by have:=cu hS hF;omega),λh9=> ?_⟩;refine ⟨_,rfl,ac (l6 _ _ q2),_,c2 l6,_,c0 l6,?_⟩;have s2:=fD (hd'.le (l5.trans l6)) hpre ih (by omega);rw [nh] at s2;refine s2.mono ?_;rintro _ F7 ⟨rfl,l7⟩;have l57:=l6.trans l7;refine ⟨_,rfl,c0 l57,c0 l57,λh=>bad (l5.trans l57) λhF=>(by have:=cu hS hF;omega),λh10=> ?_⟩;have hmem:∀i,i<k->∀x,d.1[i]? =ZO x->x∈brs S:=λi hi x hx=>by rw [hb];exact XQ (by rw [Yp hi];exact hx)
 refine ⟨λm i F'=>∃j:Nat,i=j/\j<=k/\m=k - j/\F7.le F'/\∀x∈d.1.take j,x≠B,k,⟨0,rfl,by omega,rfl,PH.le_rfl,by simp⟩,?_⟩;rintro m i F8 ⟨j,rfl,hj,rfl,l8,hne⟩;have l58:=l57.trans l8;unfold CV;refine ⟨λhlt=> ?_,λhge=> ?_⟩
 ·have hjd:j<d.1.length:=by omega
  have hjg:=N6 hjd;obtain ⟨p,hp,hrow,_⟩:=rdb (hr.le (l5.trans l58)) hjg;refine ⟨s,by rw [av (l58 _ _ q2)];rfl,p,hp,by omega,by omega,bh d.1[j],rfl,by simpa using hrow,bh B,rfl,ac (l58 _ _ q5),_,λF=>GK _ _ F,λhe=> ?_,λhn=> ?_⟩
  ·refine bad (l5.trans l58) λhF=>(cu hS hF).2.2.2.2.2.2.2.1 ?_;rw [<- ε he];exact hmem j (by omega) _ hjg
  ·refine ⟨k - (j+1),by omega,j+1,fF (by omega),by omega,rfl,l8,λx hx=> ?_⟩;rw [Ya hjd] at hx;rcases XR.1 hx with hx|hx
   ·exact hne x hx
   ·rw [XO.1 hx];exact η hn
 ·obtain rfl:j=k:=by omega
  unfold CU;refine ⟨?_,l5.trans l58⟩;rw [ζ (CJ hS (by omega) (by omega) (by omega) (by omega) (by omega) (by omega) h7 (λhm=>hne B (by rw [<- hb];exact hm) rfl) (by omega) (by omega))]
open Classical in
theorem EI (hd:DV F v d) (hf:Fit (d.1.length+4)):ν 210 #[ZU v] F λr F'=>r=ZV (decide (jb d))/\F.le F':=by
 have hd':=hd;obtain ⟨s,rfl,hr⟩:=hd;have hlen:=hr.blen;refine Ts ?_;unfold Nr;intro b1 hb1;refine atI ?_;have l1:=ae (ZP #[s.v,vi d.2] 31) hb1;have q1:=au F b1 (ZP #[s.v,vi d.2] 31);generalize F.set b1 (ZP #[s.v,vi d.2] 31)=F1 at*;have bad:∀{G:PH},F.le G->¬jb d->(ZV ZQ=ZV (decide (jb d))/\F.le G):=λ{G} hg hn=>⟨by rw [ι hn],hg⟩;have hrange:jb d->0<=d.2/\d.2<=(d.1.length:Int)+1:=by rintro ⟨t,ht,rfl⟩;have h1:=ff (bY ht);have h2:(dia t).1.length=(bo t).length:=aP _;have h3:(dia t).2=((num (bo t) t:Nat):Int):=rfl;omega
 have hw:i64.wrap ((s.len:Int)+2)=(s.len:Int)+2:=by rw [aR (by omega)]
 have c1:∀{G:PH},F1.le G->G.cell (ZX b1 1 ZR)=ZO (vi d.2):=λh=>by rw [av (h _ _ q1)];rfl
 have c0:∀{G:PH},F1.le G->G.cell (ZX b1 0 ZR)=ZO s.v:=λh=>by rw [av (h _ _ q1)];rfl
 have r0:=PH.le_rfl (F:=F1);refine ⟨_,c1 r0,λh=>bad l1 λhv=>(by have:=hrange hv;omega),λh1=> ?_⟩;refine ⟨_,c1 r0,s,c0 r0,?_⟩;dsimp only;rw [hw];refine ⟨λh=>bad l1 λhv=>(by have:=hrange hv;omega),λh2=> ?_⟩;refine ⟨λm i F'=>∃(k:Nat) (S:List Tr),i=k/\k<=d.1.length/\m=d.1.length - k/\F1.le F'/\Cl S/\S.length=k/\brs S=d.1.take k,d.1.length,⟨0,[],rfl,by omega,rfl,r0,.nil,rfl,by simp [brs]⟩,?_⟩;rintro m i F2 ⟨k,S,rfl,hk,rfl,l2,hS,hSk,hSb⟩;unfold CT;refine ⟨s,c0 l2,λhlt=> ?_,λhge=> ?_⟩
 ·have hkd:k<d.1.length:=by omega
  refine ⟨_,rfl,ac (l2 _ _ q1),?_⟩;refine (AG (hd'.le (l1.trans l2)) hf hS hSk hkd hSb).mono ?_;rintro _ F3 ⟨rfl,l3⟩;by_cases hF:yp S d.1[k]
  ·rw [ζ hF];refine ⟨_,rfl,λh=>(by cases h),λ_=> ?_⟩;obtain ⟨v,l,h,e,hl,hh,hok,hn⟩:=hF;refine ⟨d.1.length - (k+1),by omega,k+1,S++[ZM v l h],fF (by omega),by omega,rfl,l2.trans l3,.snoc hS hl hh hok hn,by simp [hSk],?_⟩;rw [eS hS hl hh,Ya hkd,hSb,e]
  ·rw [ι hF];exact ⟨_,rfl,λ_=>bad (l1.trans (l2.trans l3)) λhv=>hF (kH hv hS hSk hkd hSb),λh=>by cases h⟩
 ·obtain rfl:k=d.1.length:=by omega
  rw [XZ] at hSb;unfold CS;have hin:inn S (tr S d.2.toNat):=gT (by omega);have hnum:((num S (tr S d.2.toNat):Nat):Int)=d.2:=by rw [gq hS (by omega)];omega
  refine ⟨_,rfl,ac (l2 _ _ q1),s,c0 l2,_,c1 l2,?_⟩;have sp:=kI (ns:=s) (t:=tr S d.2.toNat) (by rw [hSb];exact hr.le (l1.trans l2)) hS hin (by omega);rw [hnum] at sp;refine sp.mono ?_;rintro _ F3 ⟨w,rfl,hw3,l3⟩;refine ⟨_,rfl,ac ((l2.trans l3) _ _ q1),?_⟩;refine (gj (hd'.le (l1.trans (l2.trans l3))) hw3 (by omega)).mono ?_;rintro _ F4 ⟨rfl,l4⟩;refine ⟨_,rfl,?_,l1.trans (l2.trans (l3.trans l4))⟩;have key:(d=dia (tr S d.2.toNat))↔jb d:=by
   constructor
   ·exact λe=>⟨_,hS.inn_ok hin,e⟩
   ·rintro ⟨u,hu,e⟩;have e1:brs S=brs (bo u):=by rw [hSb,e];rfl
    have e2:S=bo u:=qF hS (bI hu) e1;have e3:d.2.toNat=num (bo u) u:=by rw [e];show ((num (bo u) u:Nat):Int).toNat=_;simp
    rw [e3,e2,oa (bI hu) (bY hu)];exact e
  congr 1;rw [XV,decide_eq_true_iff,decide_eq_true_iff];exact key
theorem EJ (hd:DV F v d) (hf:Fit (d.1.length+4)):ν 197 #[ZU v] F λr F'=>r=vi (chk d)/\F.le F':=by
 have hd':=hd;obtain ⟨s,rfl,hr⟩:=hd;have hlen:=hr.blen;refine Tq ?_;unfold Nq;intro b1 hb1;refine atI ?_;have l1:=ae (ZP #[s.v,vi d.2] 31) hb1;have q1:=au F b1 (ZP #[s.v,vi d.2] 31);generalize F.set b1 (ZP #[s.v,vi d.2] 31)=F1 at*;refine ⟨s,by rw [av q1];rfl,λh=>⟨?_,l1⟩,λh=> ?_⟩
 ·unfold chk;rw [Χ (by omega)]
 ·refine ⟨_,rfl,ac q1,?_⟩;refine (EI (hd'.le l1) hf).mono ?_;rintro _ F2 ⟨rfl,l2⟩;refine ⟨_,rfl,λh2=>⟨?_,l1.trans l2⟩,λh2=>⟨?_,l1.trans l2⟩⟩
  ·unfold chk;rw [Υ (by omega),Υ (by simpa using h2)]
  ·unfold chk;rw [Υ (by omega),Χ (by simpa using h2)]
end
theorem fresh {F:PH} {o:Obj} {K:Nat->Ψ} (k:∀b F',F.le F'->F' b=ZO o->F b=ZR->K b F'):∀b,F b=ZR->atF (F.set b o) (K b):=λb hb=>k b _ (ae o hb) (au _ _ _) hb
theorem ld {F:PH} {b i:Nat} {c:Γ} {e:TypeId} {fr:Nat×Nat} {v:ξ} (h:F b=ZO (ZP c e fr)) (hv:c[i]? =ZO v):F.cell (ZX b i ZR)=ZO v:=(av h).trans hv
theorem iM {F:PH} {b o e:Nat} {c d:Γ} {fr:Nat×Nat} (h:F b=ZO (ZP c e fr)) (hd:(c.toList.drop o).take d.size=d.toList):F.row (ZX b o ZR) d:=by intro i hi;rw [aG,av h];have:=congrArg (λl=>l[i]?) hd;simp only [Yp hi,Zn,Y5] at this;rw [this];simp [hi]
theorem aZ {F:PH} {a:Addr} {c:Γ} {i:Nat} {v:ξ} (h:F.row a c) (hv:c[i]? =ZO v):F.cell (a.add i)=ZO v:=by obtain ⟨hi,rfl⟩:=Array.getElem?_eq_some_iff.1 hv;exact h i hi
theorem aS {F:PH} {a:Addr} {c:Γ} {v:ξ} (h:F.row a c) (hv:c[0]? =ZO v):F.cell a=ZO v:=by have:=aZ h hv;rwa [show a.add 0=a by unfold ZW;cases a;rename_i b o s;cases s<;>simp] at this
def Dj (G H:PH):Prop:=∀b,G b=ZR\/H b=ZR
theorem Dj.symm {G H:PH} (h:Dj G H):Dj H G:=λb=>(h b).symm
structure St (G F:PH) (As:List (Ψ)):Prop where
 le:G.le F
 ex:∃Hs:Nat->PH,(∀i A,As[i]? =ZO A->A (Hs i)/\Dj G (Hs i)/\(Hs i).le F)/\∀i j,i<As.length->j<As.length->i≠j->Dj (Hs i) (Hs j)
def pt (b:Nat) (o:Obj):Ψ:=λH=>H b=ZO o
def own (s:Sl) (e n:Nat) (vs:Ξ):Ψ:=λH=>bX H e n s vs
namespace St
section
variable {G F:PH} {As:List (Ψ)}
theorem start (F:PH):St F F []:=⟨al F,λ_ _=>ZR,λi A h=>(by cases h),λi j h=>(by cases h)⟩
theorem get (h:St G F As) {i:Nat} {A:Ψ} (hi:As[i]? =ZO A):∃H,A H/\Dj G H/\H.le F:=by obtain ⟨Hs,h1,_⟩:=h.ex;exact ⟨Hs i,h1 i A hi⟩
theorem set (h:St G F As) {i:Nat} {A A':Ψ} (hi:As[i]? =ZO A):∃H,A H/\Dj G H/\H.le F/\∀H' F',A' H'->(∀b,H' b≠ZR->H b≠ZR\/F b=ZR)->H'.le F'->(∀b o,F b=ZO o->H b=ZR->F' b=ZO o)->St G F' (As.set i A'):=by
 obtain ⟨Hs,h1,h2⟩:=h.ex;obtain ⟨a1,a2,a3⟩:=h1 i A hi;refine ⟨Hs i,a1,a2,a3,λH' F' hA hb hl hk=> ?_⟩;have hil:i<As.length:=(XN.1 hi).1;have hfree:∀{K:PH},K.le F->Dj (Hs i) K->Dj H' K:=λ{K} hK hd b=>by
  by_cases e:H' b=ZR
  ·exact .inl e
  ·rcases hb b e with e|e
   ·rcases hd b with h|h
    ·exact absurd h e
    ·exact .inr h
   ·exact .inr (aV hK e)
 have hkeep:∀{K:PH},K.le F->Dj (Hs i) K->K.le F':=λ{K} hK hd b o ho=>hk b o (hK b o ho) (by
  rcases hd b with h|h
  ·exact h
  ·rw [h] at ho;cases ho)
 refine ⟨hkeep h.le a2.symm,λj=>if j=i then H' else Hs j,λj B hj=> ?_,λj k hj hk' hne=> ?_⟩
 ·dsimp only;by_cases e:j=i
  ·subst e;rw [Yr hil] at hj;cases hj;rw [Χ rfl];exact ⟨hA,(hfree h.le a2.symm).symm,hl⟩
  ·rw [YW (Ne.symm e)] at hj;rw [Υ e];obtain ⟨b1,b2,b3⟩:=h1 j B hj;have hjl:j<As.length:=(XN.1 hj).1;exact ⟨b1,b2,hkeep b3 (h2 i j hil hjl (Ne.symm e))⟩
 ·rw [Zh] at hj hk';have hle:∀{m:Nat},m<As.length->(Hs m).le F:=λ{m} hm=>(h1 m _ (N6 hm)).2.2;dsimp only;by_cases e:j=i
  ·subst e;rw [Χ rfl,Υ (Ne.symm hne)];exact hfree (hle hk') (h2 j k hj hk' hne)
  ·rw [Υ e];by_cases e2:k=i
   ·subst e2;rw [Χ rfl];exact (hfree (hle hj) (h2 k j hk' hj (Ne.symm hne))).symm
   ·rw [Υ e2];exact h2 j k hj hk' hne
theorem push (h:St G F As) {A:Ψ} {H F':PH} (hA:A H) (hd:∀b,H b≠ZR->F b=ZR) (hl:H.le F') (hk:F.le F'):St G F' (A::As):=by
 obtain ⟨Hs,h1,h2⟩:=h.ex;have hdj:∀{K:PH},K.le F->Dj K H:=λ{K} hK b=>by
  by_cases e:H b=ZR
  ·exact .inr e
  ·exact .inl (aV hK (hd b e))
 refine ⟨aa h.le hk,λj=>match j with|0=>H|j+1=>Hs j,λj B hj=> ?_,λj k hj hk' hne=> ?_⟩
 ·cases j with
  |zero=>cases hj;exact ⟨hA,hdj h.le,hl⟩
  |succ j=>obtain ⟨b1,b2,b3⟩:=h1 j B (by simpa using hj);exact ⟨b1,b2,aa b3 hk⟩
 ·have hle:∀{m:Nat},m<As.length->(Hs m).le F:=λ{m} hm=>(h1 m _ (N6 hm)).2.2;cases j with
  |zero=>
   cases k with
   |zero=>exact absurd rfl hne
   |succ k=>exact (hdj (hle (by simpa using hk'))).symm
  |succ j=>
   cases k with
   |zero=>exact hdj (hle (by simpa using hj))
   |succ k=>exact h2 j k (by simpa using hj) (by simpa using hk') (by omega)
theorem tail {A:Ψ} (h:St G F (A::As)):St G F As:=by obtain ⟨Hs,h1,h2⟩:=h.ex;exact ⟨h.le,λj=>Hs (j+1),λj B hj=>h1 (j+1) B (by simpa using hj),λj k hj hk hne=>h2 (j+1) (k+1) (by simpa using hj) (by simpa using hk) (by omega)⟩
theorem pin {A:Ψ} (h:St G F (A::As)):∃G',G.le G'/\(∃H,A H/\H.le G')/\St G' F As:=by
 obtain ⟨Hs,h1,h2⟩:=h.ex;obtain ⟨a1,a2,a3⟩:=h1 0 A rfl;have hle:(Hs 0).le (G.and (Hs 0)):=λb o hb=>by
  rcases a2 b with e|e
  ·rw [PH.and_right e];exact hb
  ·rw [e] at hb;cases hb
 refine ⟨G.and (Hs 0),λb o hb=>PH.and_left hb,⟨Hs 0,a1,hle⟩,λb o hb=> ?_,λj=>Hs (j+1),λj B hj=> ?_,λj k hj hk hne=>h2 (j+1) (k+1) (by simpa using hj) (by simpa using hk) (by omega)⟩
 ·cases e:G b with
  |some o'=>rw [PH.and_left e] at hb;rw [<- hb];exact h.le _ _ e
  |none=>rw [PH.and_right e] at hb;exact a3 _ _ hb
 ·obtain ⟨b1,b2,b3⟩:=h1 (j+1) B (by simpa using hj);refine ⟨b1,λb=> ?_,b3⟩;rcases b2 b with e|e
  ·have hl:j+1<(A::As).length:=by have:=(XN.1 hj).1;simpa using this
   rcases h2 0 (j+1) (by simp) hl (by omega) b with e2|e2
   ·exact .inl ((PH.and_right e).trans e2)
   ·exact .inr e2
  ·exact .inr e
theorem pinb {b:Nat} {o:Obj} (h:St G F (pt b o::As)) {K:Ψ} (k:∀G',G.le G'->G' b=ZO o->St G' F As->K F):K F:=by obtain ⟨G',h1,⟨H,hA,hH⟩,h2⟩:=h.pin;exact k G' h1 (hH _ _ hA) h2
theorem swap {A B:Ψ} (h:St G F (A::B::As)):St G F (B::A::As):=by
 obtain ⟨Hs,h1,h2⟩:=h.ex;refine ⟨h.le,λj=>match j with|0=>Hs 1|1=>Hs 0|j+2=>Hs (j+2),λj C hj=> ?_,λj k hj hk hne=> ?_⟩
 ·match j with
  |0=>exact h1 1 C hj
  |1=>exact h1 0 C hj
  |j+2=>exact h1 (j+2) C hj
 ·match j,k with
  |0,0=>exact absurd rfl hne
  |1,1=>exact absurd rfl hne
  |0,1=>exact h2 1 0 (by simp) (by simp) (by omega)
  |1,0=>exact h2 0 1 (by simp) (by simp) (by omega)
  |0,k+2=>exact h2 1 (k+2) (by simp) hk (by omega)
  |1,k+2=>exact h2 0 (k+2) (by simp) hk (by omega)
  |j+2,0=>exact h2 (j+2) 1 hj (by simp) (by omega)
  |j+2,1=>exact h2 (j+2) 0 hj (by simp) (by omega)
  |j+2,k+2=>exact h2 (j+2) (k+2) hj hk hne
theorem pick (h:St G F As) (f:Nat->Nat) {Bs:List (Ψ)} (hf:∀i j,i<Bs.length->j<Bs.length->f i=f j->i=j) (hb:∀i,i<Bs.length->As[f i]? =Bs[i]?):St G F Bs:=by
 obtain ⟨Hs,h1,h2⟩:=h.ex;have hl:∀i,i<Bs.length->f i<As.length:=λi hi=>by have:=hb i hi;rw [N6 hi] at this;exact (XN.1 this).1
 refine ⟨h.le,λi=>Hs (f i),λi B hi=> ?_,λi j hi hj hne=>h2 _ _ (hl i hi) (hl j hj) λe=>hne (hf i j hi hj e)⟩;have hi':i<Bs.length:=(XN.1 hi).1;exact h1 (f i) B ((hb i hi').trans hi)
theorem call {f:FuncId} {args:Γ} {P:ξ->Ψ} (h:St G F As) (s:aj prog f args G P):aj prog f args F λr F'=>∃G',P r G'/\St G' F' As:=by
 refine (s.upon h.le).mono λr F' ⟨G',hp,hl,hk⟩=>⟨G',hp,hl,?_⟩;obtain ⟨Hs,h1,h2⟩:=h.ex;refine ⟨Hs,λi A hi=> ?_,h2⟩;obtain ⟨a1,a2,a3⟩:=h1 i A hi;have key:∀b o,Hs i b=ZO o->F' b=ZO o/\G' b=ZR:=λb o hb=>by
  rcases a2 b with e|e
  ·exact hk b o e (a3 b o hb)
  ·rw [e] at hb;cases hb
 refine ⟨a1,λb=> ?_,λb o hb=>(key b o hb).1⟩;cases e:Hs i b with
 |none=>exact .inr rfl
 |some o=>exact .inl (key b o e).2
theorem run {f:FuncId} {args:Γ} {P:ξ->Ψ} {Q:ξ->Ψ} (h:St G F As) (s:aj prog f args G λr G'=>P r G'/\G.le G') (k:∀r G' F',P r G'->G.le G'->St G' F' As->Q r F'):aj prog f args F Q:=
 (h.call s).mono λr F' ⟨G',⟨h1,h2⟩,h3⟩=>k r G' F' h1 h2 h3
theorem runv {f:FuncId} {args:Γ} {v:ξ} {Q:ξ->Ψ} (h:St G F As) (s:aj prog f args G λr G'=>r=v/\G.le G') (k:∀G' F',G.le G'->St G' F' As->Q v F'):aj prog f args F Q:=
 (h.call s).mono λr F' ⟨G',⟨h1,h2⟩,h3⟩=>by rw [h1];exact k G' F' h2 h3
def uni (G:PH) (Hs:Nat->PH):Nat->PH
 |0=>G
 |n+1=>(uni G Hs n).and (Hs n)
theorem sL {G:PH} {Hs:Nat->PH} {b:Nat}:∀{n:Nat},uni G Hs n b=ZR↔G b=ZR/\∀i,i<n->Hs i b=ZR
 |0=>⟨λh=>⟨h,λi hi=>by omega⟩,λh=>h.1⟩
 |n+1=>by
  have ih:=sL (G:=G) (Hs:=Hs) (b:=b) (n:=n);constructor
  ·intro h;have h0:uni G Hs n b=ZR:=by
    cases e:uni G Hs n b with
    |none=>rfl
    |some o=>rw [uni,PH.and_left e] at h;cases h
   rw [uni,PH.and_right h0] at h;refine ⟨(ih.1 h0).1,λi hi=> ?_⟩;by_cases e:i=n
   ·rw [e];exact h
   ·exact (ih.1 h0).2 i (by omega)
  ·intro h;have h0:=ih.2 ⟨h.1,λi hi=>h.2 i (by omega)⟩;rw [uni,PH.and_right h0];exact h.2 n (by omega)
theorem Hj {G K:PH} {Hs:Nat->PH} (hG:G.le K):∀{n:Nat},(∀i,i<n->(Hs i).le K)->(uni G Hs n).le K
 |0,_=>hG
 |n+1,h=>λb o hb=>by
  have ih:=Hj hG (n:=n) λi hi=>h i (by omega);cases e:uni G Hs n b with
  |none=>rw [uni,PH.and_right e] at hb;exact h n (by omega) b o hb
  |some o'=>rw [uni,PH.and_left e] at hb;rw [<- hb];exact ih b _ e
theorem Hk {G:PH} {Hs:Nat->PH}:∀{n:Nat},G.le (uni G Hs n)
 |0=>al _
 |n+1=>λb o hb=>PH.and_left (Hk (n:=n) b o hb)
theorem yy {G:PH} {Hs:Nat->PH}:∀{n:Nat} {i:Nat},i<n->(∀i,i<n->Dj G (Hs i))->(∀i j,i<n->j<n->i≠j->Dj (Hs i) (Hs j))->(Hs i).le (uni G Hs n)
 |0,i,h,_,_=>by omega
 |n+1,i,hi,hd,hp=>λb o hb=>by
  by_cases e:i=n
  ·subst e;have h0:uni G Hs i b=ZR:=by
    refine sL.2 ⟨?_,λj hj=> ?_⟩
    ·rcases hd i (by omega) b with e|e
     ·exact e
     ·rw [e] at hb;cases hb
    ·rcases hp j i (by omega) (by omega) (by omega) b with e|e
     ·exact e
     ·rw [e] at hb;cases hb
   rw [uni,PH.and_right h0];exact hb
  ·exact PH.and_left (yy (n:=n) (i:=i) (by omega) (λj hj=>hd j (by omega)) (λj k hj hk=>hp j k (by omega) (by omega)) b o hb)
theorem callL {f:FuncId} {args:Γ} {Bs Cs:List (Ψ)} {Bs':ξ->PH->List (Ψ)} {P:ξ->Ψ} (h:St G F (Bs++Cs))
  (s:∀F1,St G F1 Bs->aj prog f args F1 λr F'=>∃G',P r G'/\G.le G'/\St G' F' (Bs' r G')):
  aj prog f args F λr F'=>∃G',P r G'/\G.le G'/\St G' F' (Bs' r G'++Cs):=by
 obtain ⟨Hs,h1,h2⟩:=h.ex;have hlen:(Bs++Cs).length=Bs.length+Cs.length:=XT;have g1:∀i,i<Bs.length+Cs.length->Dj G (Hs i)/\(Hs i).le F:=λi hi=>(h1 i _ (N6 (by omega))).2;rw [hlen] at h2;have hU:(uni G Hs Bs.length).le F:=Hj h.le λi hi=>(g1 i (by omega)).2;have hst:St G (uni G Hs Bs.length) Bs:=by refine ⟨Hk,Hs,λi A hi=> ?_,λi j hi hj=>h2 i j (by omega) (by omega)⟩;have hi':i<Bs.length:=(XN.1 hi).1;obtain ⟨a1,a2,_⟩:=h1 i A (by rw [X0 hi'];exact hi);exact ⟨a1,a2,yy hi' (λj hj=>(g1 j (by omega)).1) (λj k hj hk=>h2 j k (by omega) (by omega))⟩
 refine ((s _ hst).upon hU).mono ?_;rintro r F' ⟨F1,⟨G',hp,hg,hst'⟩,hl,hk⟩;refine ⟨G',hp,hg,aa hst'.le hl,?_⟩;obtain ⟨Ks,k1,k2⟩:=hst'.ex;have key:∀i,i<Cs.length->∀b o,Hs (Bs.length+i) b=ZO o->F' b=ZO o/\F1 b=ZR:=λi hi b o hb=>by
  refine hk b o (sL.2 ⟨?_,λj hj=> ?_⟩) ((g1 (Bs.length+i) (by omega)).2 b o hb)
  ·rcases (g1 (Bs.length+i) (by omega)).1 b with e|e
   ·exact e
   ·rw [e] at hb;cases hb
  ·rcases h2 j (Bs.length+i) (by omega) (by omega) (by omega) b with e|e
   ·exact e
   ·rw [e] at hb;cases hb
 have dj:∀i,i<Cs.length->∀{K:PH},K.le F1->Dj K (Hs (Bs.length+i)):=λi hi {K} hK b=>by
  cases e:Hs (Bs.length+i) b with
  |none=>exact .inr rfl
  |some o=>exact .inl (aV hK (key i hi b o e).2)
 refine ⟨λj=>if j<(Bs' r G').length then Ks j else Hs (Bs.length+(j - (Bs' r G').length)),λj A hj=> ?_,λj k hj hk' hne=> ?_⟩
 ·dsimp only;by_cases e:j<(Bs' r G').length
  ·rw [Χ e];rw [X0 e] at hj;obtain ⟨b1,b2,b3⟩:=k1 j A hj;exact ⟨b1,b2,aa b3 hl⟩
  ·rw [Υ e];rw [X6 (by omega)] at hj;have hjc:j - (Bs' r G').length<Cs.length:=(XN.1 hj).1;refine ⟨(h1 (Bs.length+(j - (Bs' r G').length)) A ?_).1,dj _ hjc hst'.le,λb o hb=>(key _ hjc b o hb).1⟩;rw [X6 (by omega),show Bs.length+(j - (Bs' r G').length) - Bs.length=j - (Bs' r G').length by omega];exact hj
 ·rw [XT] at hj hk';have hle:∀m,m<(Bs' r G').length->(Ks m).le F1:=λm hm=>(k1 m _ (N6 hm)).2.2;dsimp only;by_cases e:j<(Bs' r G').length
  ·rw [Χ e];by_cases e2:k<(Bs' r G').length
   ·rw [Χ e2];exact k2 j k e e2 hne
   ·rw [Υ e2];exact dj _ (by omega) (hle j e)
  ·rw [Υ e];by_cases e2:k<(Bs' r G').length
   ·rw [Χ e2];exact (dj _ (by omega) (hle k e2)).symm
   ·rw [Υ e2];exact h2 _ _ (by omega) (by omega) (by omega)
theorem new (h:St G F As) {o:Obj} {K:Nat->Ψ} (k:∀b F',St G F' (pt b o::As)->K b F'):∀b,F b=ZR->atF (F.set b o) (K b):=λb hb=>by
 refine atI (k b _ (h.push (H:=PH.set (λ_=>ZR) b o) (au _ _ _) (λx hx=> ?_) (λx p hx=> ?_) (ae o hb)))
 ·by_cases e:x=b
  ·rw [e];exact hb
  ·rw [aB _ _ e] at hx;exact absurd rfl hx
 ·by_cases e:x=b
  ·rw [e,au] at hx ⊢;exact hx
  ·rw [aB _ _ e] at hx;cases hx
theorem newG (h:St G F As) {o:Obj} {K:Nat->Ψ} (k:∀b G' F',G.le G'->G' b=ZO o->G b=ZR->St G' F' As->K b F'):∀b,F b=ZR->atF (F.set b o) (K b):=λb hb=>by
 refine h.new (K:=K) (λb' F' h'=> ?_) b hb;have hgb:G b'=ZR:=by
  obtain ⟨H,a1,a2,_⟩:=h'.get (i:=0) rfl;rcases a2 b' with e|e
  ·exact e
  ·rw [a1] at e;cases e
 exact h'.pinb λG' h1 h2 h3=>k b' G' F' h1 h2 hgb h3
theorem ptAt (h:St G F As) {i b:Nat} {o:Obj} (hi:As[i]? =ZO (pt b o)):F b=ZO o:=by obtain ⟨H,a1,_,a3⟩:=h.get hi;exact a3 _ _ a1
theorem putAt (h:St G F As) (i:Nat) {b:Nat} {o:Obj} (o':Obj) (hi:As[i]? =ZO (pt b o)):St G (F.set b o') (As.set i (pt b o')):=by
 obtain ⟨H,a1,a2,a3,a4⟩:=h.set (A':=pt b o') hi;refine a4 (H.set b o') _ (au _ _ _) (λx hx=> ?_) (λx p hx=> ?_) (λx p hx hn=> ?_)
 ·by_cases e:x=b
  ·rw [e,a1];exact .inl (by simp)
  ·rw [aB _ _ e] at hx;exact .inl hx
 ·by_cases e:x=b
  ·rw [e,au] at hx ⊢;exact hx
  ·rw [aB _ _ e] at hx ⊢;exact a3 _ _ hx
 ·have e:x≠b:=λe=>by rw [e,a1] at hn;cases hn
  rw [aB _ _ e];exact hx
theorem ownAt (h:St G F As) {i:Nat} {s:Sl} {e n:Nat} {vs:Ξ} (hi:As[i]? =ZO (own s e n vs)):bX F e n s vs/\∀a,s.ZK=ZO a->G a.block=ZR:=by
 obtain ⟨H,a1,a2,a3⟩:=h.get hi;refine ⟨bX.upto a1 a3,λa ha=> ?_⟩;obtain ⟨cur,hc⟩:=bX.elem a1 ha;rcases a2 a.block with e|e
 ·exact e
 ·rw [hc] at e;cases e
theorem nilOwn (h:St G F As) (e n:Nat):St G F (own Z3 e n []::As):=h.push (H:=λ_=>ZR) (.inl ⟨rfl,rfl⟩) (λb hb=>absurd rfl hb) (λb o hb=>(by cases hb)) (al F)
end
end St
theorem aC {k n:Nat} (h:k<n) (hn:n<=9223372036854775807:=by omega):i64.wrap ((k:Int)+1)=((k+1:Nat):Int):=by rw [aR (by omega)];omega
theorem bi {F:PH} (L:(Ω)->Ω) (n:Nat) (Inv:Nat->Ψ) (h0:Inv 0 F)
  (step:∀(k:Nat) (F:PH) (N:Ω),k<=n->Inv k F->(∀F',k<n->Inv (k+1) F'->N ((k+1:Nat):Int) F')->L N (k:Int) F):
  ∃(I:Nat->Ω) (m:Nat),I m (0:Int) F/\∀m v F,I m v F->L (λy F=>∃m',m'<m/\I m' y F) v F:=by
 refine ⟨λm i F'=>∃k:Nat,i=k/\k<=n/\m=n - k/\Inv k F',n,⟨0,rfl,by omega,rfl,h0⟩,?_⟩;rintro m i F' ⟨k,rfl,hk,rfl,hi⟩;exact step k F' _ hk hi λF'' hlt hi'=>⟨n - (k+1),by omega,k+1,rfl,by omega,rfl,hi'⟩
end
