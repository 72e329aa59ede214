/-
  A base that stays, and parts beside it that may change: what a heap holds, by parts.
-/
import Derived.Test.YteilolbbgieadaaGreatDoorQw
set_option maxRecDepth 10000
open Option renaming some->V,none->I
open Go.Obj renaming cells->Y
open Bool renaming false->mz,true->mY
open Go.Value renaming agg->nL,bool->nS,pointer->ph,string->pe,tuple->pk,slice->tS
open Go.Addr renaming add->nR,mk->ou
open Int renaming toNat->nT,tmod->sq
noncomputable section
namespace Go.Proofs.YteilolbbgieadaaGreatDoor
open Go.IntKind (i64 u8 u64)
open Sl renaming v->nE,nil->pi
open Go Go.Proofs.Tryz
section
variable {F:PH} {l:List Nd} {s:Sl}
theorem Sr:aF prog 207=mY:=by kernel_rfl
def Xn (l:List Nd) (w:Δ):Prop:=Lg (bO l).pat w
theorem qhp (hT:Tab F) (hs:RdS F s 5 (dE l)) (st:ο) (a1:st.size<=1000000000):ν 173 #[s.v,pe st] F λr N=>(∃q:Bool,r=nS q/\(q=mY↔fE l=0/\Xn l (bs st)))/\F.le N:=by
 refine qez ?_;unfold Qo;have h:=Lo.start F;refine h.new _ _ λD F1 h=> ?_;refine (h.call (oR hs)).mono ?_;rintro _ F2 ⟨G1,⟨rfl,O⟩,h⟩;refine ⟨_,rfl,λhc=>⟨⟨mz,rfl,λh=>(by cases h),λh=>absurd h.1 hc⟩,aa O h.le⟩,λhc=> ?_⟩;have h0:fE l=0:=by omega
 obtain ⟨W,hl⟩:=uS h0;obtain ⟨ns,ht⟩:=iF W;refine (h.call (qhV (hT.le O) W hl (hs.le O))).mono ?_;rintro _ F3 ⟨G,⟨⟨bm,rfl,hM⟩,l2⟩,h⟩;have c3:F3.cell (ou D 0 I)=V (pe st):=by rw [h.cell (b:=D) (w:= #[pe st]) (e:=9) (by simp)];rfl
 refine ⟨_,rfl,_,c3,?_⟩;have j1:∀(C:Nat) (B:Bool) (P:PH),Lo G P [(C,#[nS B],4),(D,#[pe st],9)]->(B=mY↔st.size=0/\(bO l).nul=mY)->
   qv D (V ⟨bm,0,I⟩) (V ⟨C,0,I⟩) (λr N=>(∃q:Bool,r=nS q/\(q=mY↔fE l=0/\Xn l (bs st)))/\F.le N) P:=λC B P h a0=>by
  unfold qv;refine ⟨_,by rw [h.cell (b:=D) (w:= #[pe st]) (e:=9) (by simp)];rfl,?_⟩
  refine (KM (bm:=bm) (k:=207) (cap:= #[pa D,pa C]) (Inv:=λn N=>∃B:Bool,Lo G N [(C,#[nS B],4),(D,#[pe st],9)]/\(n=0->(B=mY↔st.size=0/\(bO l).nul=mY))/\(0<n->(B=mY↔n=st.size/\Xn l ((bs st).take n)))) Sr hl W ht (by omega)
   (λn N ⟨b,L,_⟩=>⟨(hT.le (aa O l2)).le L.le,hM.le L.le⟩) ?_ ⟨B,h,λ_=>a0,λh=>absurd h (by omega)⟩).mono ?_
  ·rintro n N q hn hq ⟨B,L,_,_⟩;show ν 207 #[U ((n+1:Nat):Int),nS q,pa D,pa C] N _;refine qeE ?_;unfold Qu;refine ⟨_,rfl,_,by rw [L.cell (b:=D) (w:= #[pe st]) (e:=9) (by simp)];rfl,λg=>⟨_,rfl,?_⟩,λg=>⟨_,rfl,?_⟩⟩
   ·refine Lo.put1 [] [(D,#[pe st],9)] (b:=C) (i:=0) (w0:= #[nS B]) (w:= #[nS q]) (e:=4) L (by simp) rfl λX h'=> ?_;exact ⟨rfl,q,h',λh=>by omega,λ_=>⟨λh=>⟨by omega,hq.1 h⟩,λh=>hq.2 h.2⟩⟩
   ·refine Lo.put1 [] [(D,#[pe st],9)] (b:=C) (i:=0) (w0:= #[nS B]) (w:= #[nS mz]) (e:=4) L (by simp) rfl λX h'=> ?_;exact ⟨rfl,mz,h',λh=>by omega,λ_=>⟨λh=>(by cases h),λh=>by omega⟩⟩
  ·rintro _ R ⟨rfl,n,G',hn,⟨B,L,hz,hp⟩,l5,M⟩;refine ⟨rfl,_,rfl,B,aK l5 (by rw [L.cell (b:=C) (w:= #[nS B]) (e:=4) (by simp)];rfl),⟨B,rfl,?_⟩,aa O (aa l2 (aa L.le l5))⟩;have A:(bs st).take st.size=bs st:=zc (by rw [df];exact qX _);have H:st.size=0->bs st=[]:=λh=>XY.1 (by rw [df];exact h);have J:(bO l).nul=mY↔Xn l []:=(bO l).nul_iff;rcases Yi n with e|e
   ·subst e;rw [hz rfl];constructor
    ·rintro ⟨K,E⟩;exact ⟨h0,by rw [H K];exact J.1 E⟩
    ·rintro ⟨_,E⟩;rcases M with g|g
     ·exact ⟨g.symm,J.2 (by rw [<- H g.symm];exact E)⟩
     ·rcases Yi st.size with K|K
      ·exact ⟨K,J.2 (by rw [<- H K];exact E)⟩
      ·exact absurd (by rw [A];exact E) (g st.size K (qX _))
   ·rw [hp e];constructor
    ·rintro ⟨K,E⟩;exact ⟨h0,by rw [K,A] at E;exact E⟩
    ·rintro ⟨_,E⟩;rcases M with g|g
     ·exact ⟨g,by rw [g,A];exact E⟩
     ·by_cases K:n=st.size
      ·exact ⟨K,by rw [K,A];exact E⟩
      ·exact absurd (by rw [A];exact E) (g st.size (by omega) (qX _))
 have Q:(st.toList==(ByteArray.mk #[]).toList)=decide (st.size=0):=by
  rw [Km];rw [wi,δ,δ,<- df st];constructor
  ·intro h;rw [h];rfl
  ·intro h;exact XY.1 h
 dsimp only;rw [Q];refine ⟨λg=> ?_,λg=> ?_⟩
 ·have g:=ζ g;obtain ⟨s',bf,qm,_,_⟩:=(hM.le h.le).ex;refine ⟨_,rfl,(bO l).nul,by rw [cz,av qm];rfl,?_⟩;refine h.new _ _ λC P h=> ?_;refine Lo.put1 [] [(D,#[pe st],9)] (b:=C) (i:=0) (w0:= #[nS mz]) (w:= #[nS (bO l).nul]) (e:=4) h (by simp) rfl λR h=> ?_;exact j1 C _ R h ⟨λh=>⟨g,h⟩,λh=>h.2⟩
 ·have g:=ι g;refine h.new _ _ λC P h=> ?_;refine Lo.put1 [] [(D,#[pe st],9)] (b:=C) (i:=0) (w0:= #[nS mz]) (w:= #[nS mz]) (e:=4) h (by simp) rfl λR h=> ?_;exact j1 C _ R h ⟨λh=>(by cases h),λh=>absurd h.1 g⟩
end
open Tr
section
theorem JO (d:Nat) (a b:Int) (F:PH):pn prog (Op.equalIn (d+1) 3 (U a) (U b)) F (decide (a=b)):=by simp only [Op.equalIn,am];refine ⟨_,(az underlying3 _).2 rfl,?_⟩;simp only [if_true,cJ];by_cases h:a=b<;>simp [h]
theorem sP (cs:Γ) (off:Nat) (v:ξ) (h:cs[off]? =V v) (F:PH):pn prog (part 3 cs off) F v:=by unfold part;simp only [am];refine ⟨mz,(dr underlying3 _).2 rfl,?_⟩;simp only [VN,if_false,h];rfl
theorem Ej (e:Bool) (n:Nat) (a:Int) (F:PH):pn prog (Instr.checkKey e (n+1) 3 (U a)) F ():=by simp only [Instr.checkKey,am];refine ⟨_,(az underlying3 _).2 rfl,?_⟩;rfl
theorem aah:prog.stoodInHeld 201=mz:=by kernel_rfl
abbrev LS:=ForInStep (Option Bool×Unit)
theorem dy (n:Nat) (off:Nat) (cs ds:Γ) (x y:Int) (g:cs[off]? =V (U x)) (w:ds[off]? =V (U y)) (F:PH):
  pn prog (do
   let a <- part 3 cs off
   let b <- part 3 ds off
   let r <- Op.equalIn (n+1) 3 a b
   if (!r)=mY then pure (ForInStep.done (V mz,())) else pure (ForInStep.yield (I,())):Sem LS) F (if x=y then .yield (I,()) else .done (V mz,())):=by
 simp only [am];refine ⟨_,sP _ _ _ g F,_,sP _ _ _ w F,_,JO n x y F,?_⟩;by_cases h:x=y
 ·simp [h]
 ·simp [h]
theorem JP (x y:Br) (F:PH):pn prog (Op.equal 201 (nL (aW x)) (nL (aW y))) F (decide (x=y)):=by
 unfold Op.equal Op.maxDepth;show pn prog (Op.equalIn (9998+1+1) 201 _ _) _ _;unfold Op.equalIn;simp only [am];refine ⟨_,(az underlying201 _).2 rfl,?_⟩;dsimp only;rw [am];refine ⟨prog,rfl,?_⟩;rw [aah];simp only [VN,if_false];simp only [List.forIn_toArray,Ym,List.forIn_nil,am];obtain ⟨a,b,c⟩:=x;obtain ⟨d,e,f⟩:=y;rw [if_pos (by decide),if_pos (by decide),if_pos (by decide)];by_cases g:a=d
 ·by_cases h:b=e
  ·by_cases r:c=f
   ·refine ⟨(I,()),⟨_,dy 9998 0 _ _ a d rfl rfl F,?_⟩,?_⟩
    ·rw [Χ g];refine (am _ _ _ _).2 ⟨_,dy 9998 1 _ _ b e rfl rfl F,?_⟩;rw [Χ h];refine (am _ _ _ _).2 ⟨_,dy 9998 2 _ _ c f rfl rfl F,?_⟩;rw [Χ r];rfl
    ·simp [g,h,r]
   ·refine ⟨(V mz,()),⟨_,dy 9998 0 _ _ a d rfl rfl F,?_⟩,?_⟩
    ·rw [Χ g];refine (am _ _ _ _).2 ⟨_,dy 9998 1 _ _ b e rfl rfl F,?_⟩;rw [Χ h];refine (am _ _ _ _).2 ⟨_,dy 9998 2 _ _ c f rfl rfl F,?_⟩;rw [Υ r];rfl
    ·simp [r]
  ·refine ⟨(V mz,()),⟨_,dy 9998 0 _ _ a d rfl rfl F,?_⟩,?_⟩
   ·rw [Χ g];refine (am _ _ _ _).2 ⟨_,dy 9998 1 _ _ b e rfl rfl F,?_⟩;rw [Υ h];rfl
   ·simp [h]
 ·refine ⟨(V mz,()),⟨_,dy 9998 0 _ _ a d rfl rfl F,?_⟩,?_⟩
  ·rw [Υ g];rfl
  ·simp [g]
theorem mF (e:Bool) (n:Nat) (off:Nat) (cs:Γ) (x:Int) (g:cs[off]? =V (U x)) (F:PH):
  pn prog (do
   let a <- part 3 cs off
   Instr.checkKey e (n+1) 3 a
   pure (ForInStep.yield PUnit.unit):Sem (ForInStep PUnit)) F (.yield PUnit.unit):=by
 simp only [am];exact ⟨_,sP _ _ _ g F,_,Ej e n x F,rfl⟩
theorem qdR (e:Bool) (x:Br) (F:PH):pn prog (Instr.checkKey e 10000 201 (.agg (aW x))) F ():=by show pn prog (Instr.checkKey e (9998+1+1) 201 _) _ _;unfold Instr.checkKey;simp only [am];refine ⟨_,(az underlying201 _).2 rfl,?_⟩;dsimp only;simp only [List.forIn_toArray,Ym,List.forIn_nil];rw [if_pos (by decide),if_pos (by decide),if_pos (by decide)];refine (am _ _ _ _).2 ⟨PUnit.unit,(am _ _ _ _).2 ⟨_,mF e 9998 0 _ _ rfl F,(am _ _ _ _).2 ⟨_,mF e 9998 1 _ _ rfl F,(am _ _ _ _).2 ⟨_,mF e 9998 2 _ _ rfl F,rfl⟩⟩⟩,rfl⟩
theorem cG (n:Nat) (i sz:Nat) (g:sz=1) (cs ds:Γ) (x y:Int) (h:cs[i]? =V (U x)) (w:ds[i]? =V (U y)) (F:PH):
  pn prog (do
   let a <- part 3 cs (i*sz)
   let b <- part 3 ds (i*sz)
   let r <- Op.equalIn (n+1) 3 a b
   if (!r)=mY then pure (ForInStep.done (V mz,())) else pure (ForInStep.yield (I,())):Sem LS) F (if x=y then .yield (I,()) else .done (V mz,())):=by
 subst g;rw [xB];exact dy n i cs ds x y h w F
theorem mH (e:Bool) (n:Nat) (i:Nat) (cs:Γ) (x:Int) (g:cs[i]? =V (U x)) (F:PH):
  pn prog (do
   let s <- sizeOf 3
   let a <- part 3 cs (i*s)
   Instr.checkKey e (n+1) 3 a
   pure (ForInStep.yield PUnit.unit):Sem (ForInStep PUnit)) F (.yield PUnit.unit):=by
 refine (am _ _ _ _).2 ⟨1,(bq X5 _).2 rfl,?_⟩;rw [xB];exact mF e n i cs x g F
abbrev dz (x:Int×Int×Int):Γ:= #[U x.1,U x.2.1,U x.2.2]
abbrev B5 (x:Int×Int):Γ:= #[U x.1,U x.2]
theorem eq3 (x y:Int×Int×Int) (F:PH):pn prog (Op.equal 313 (nL (dz x)) (nL (dz y))) F (decide (x=y)):=by
 unfold Op.equal Op.maxDepth;show pn prog (Op.equalIn (9998+1+1) 313 _ _) _ _;unfold Op.equalIn;simp only [am];refine ⟨_,(az underlying313 _).2 rfl,?_⟩;dsimp only;refine (am _ _ _ _).2 ⟨1,(bq X5 _).2 rfl,?_⟩;rw [Std.Legacy.Range.forIn_eq_forIn_range'];simp only [Std.Legacy.Range.size,VP,Zk,Nat.div_one,List.range',Ym,List.forIn_nil,ye,Nat.reduceAdd];obtain ⟨a,b,c⟩:=x;obtain ⟨d,e,f⟩:=y;by_cases g:a=d
 ·skip
  by_cases h:b=e
  ·skip
   by_cases r:c=f
   ·skip
    refine (am _ _ _ _).2 ⟨(I,()),(am _ _ _ _).2 ⟨_,cG 9998 0 1 rfl _ _ a d rfl rfl F,?_⟩,?_⟩
    ·skip
     rw [Χ g];refine (am _ _ _ _).2 ⟨_,cG 9998 1 1 rfl _ _ b e rfl rfl F,?_⟩;rw [Χ h];refine (am _ _ _ _).2 ⟨_,cG 9998 2 1 rfl _ _ c f rfl rfl F,?_⟩;rw [Χ r];rfl
    ·simp [g,h,r]
   ·skip
    refine (am _ _ _ _).2 ⟨(V mz,()),(am _ _ _ _).2 ⟨_,cG 9998 0 1 rfl _ _ a d rfl rfl F,?_⟩,?_⟩
    ·skip
     rw [Χ g];refine (am _ _ _ _).2 ⟨_,cG 9998 1 1 rfl _ _ b e rfl rfl F,?_⟩;rw [Χ h];refine (am _ _ _ _).2 ⟨_,cG 9998 2 1 rfl _ _ c f rfl rfl F,?_⟩;rw [Υ r];rfl
    ·simp [g,h,r]
  ·skip
   refine (am _ _ _ _).2 ⟨(V mz,()),(am _ _ _ _).2 ⟨_,cG 9998 0 1 rfl _ _ a d rfl rfl F,?_⟩,?_⟩
   ·skip
    rw [Χ g];refine (am _ _ _ _).2 ⟨_,cG 9998 1 1 rfl _ _ b e rfl rfl F,?_⟩;rw [Υ h];rfl
   ·simp [g,h]
 ·skip
  refine (am _ _ _ _).2 ⟨(V mz,()),(am _ _ _ _).2 ⟨_,cG 9998 0 1 rfl _ _ a d rfl rfl F,?_⟩,?_⟩
  ·skip
   rw [Υ g];rfl
  ·simp [g]
theorem aai (e:Bool) (x:Int×Int×Int) (F:PH):pn prog (Instr.checkKey e 10000 313 (.agg (dz x))) F ():=by show pn prog (Instr.checkKey e (9998+1+1) 313 _) _ _;unfold Instr.checkKey;simp only [am];refine ⟨_,(az underlying313 _).2 rfl,?_⟩;dsimp only;rw [Std.Legacy.Range.forIn_eq_forIn_range'];simp only [Std.Legacy.Range.size,VP,Zk,Nat.div_one,List.range',Ym,List.forIn_nil,ye,Nat.reduceAdd];refine (am _ _ _ _).2 ⟨PUnit.unit,(am _ _ _ _).2 ⟨_,mH e 9998 0 _ _ rfl F,(am _ _ _ _).2 ⟨_,mH e 9998 1 _ _ rfl F,(am _ _ _ _).2 ⟨_,mH e 9998 2 _ _ rfl F,rfl⟩⟩⟩,rfl⟩
theorem eq2 (x y:Int×Int) (F:PH):pn prog (Op.equal 213 (nL (B5 x)) (nL (B5 y))) F (decide (x=y)):=by
 unfold Op.equal Op.maxDepth;show pn prog (Op.equalIn (9998+1+1) 213 _ _) _ _;unfold Op.equalIn;simp only [am];refine ⟨_,(az underlying213 _).2 rfl,?_⟩;dsimp only;refine (am _ _ _ _).2 ⟨1,(bq X5 _).2 rfl,?_⟩;rw [Std.Legacy.Range.forIn_eq_forIn_range'];simp only [Std.Legacy.Range.size,VP,Zk,Nat.div_one,List.range',Ym,List.forIn_nil,ye,Nat.reduceAdd];obtain ⟨a,b⟩:=x;obtain ⟨d,e⟩:=y;by_cases g:a=d
 ·skip
  by_cases h:b=e
  ·skip
   refine (am _ _ _ _).2 ⟨(I,()),(am _ _ _ _).2 ⟨_,cG 9998 0 1 rfl _ _ a d rfl rfl F,?_⟩,?_⟩
   ·skip
    rw [Χ g];refine (am _ _ _ _).2 ⟨_,cG 9998 1 1 rfl _ _ b e rfl rfl F,?_⟩;rw [Χ h];rfl
   ·simp [g,h]
  ·skip
   refine (am _ _ _ _).2 ⟨(V mz,()),(am _ _ _ _).2 ⟨_,cG 9998 0 1 rfl _ _ a d rfl rfl F,?_⟩,?_⟩
   ·skip
    rw [Χ g];refine (am _ _ _ _).2 ⟨_,cG 9998 1 1 rfl _ _ b e rfl rfl F,?_⟩;rw [Υ h];rfl
   ·simp [g,h]
 ·skip
  refine (am _ _ _ _).2 ⟨(V mz,()),(am _ _ _ _).2 ⟨_,cG 9998 0 1 rfl _ _ a d rfl rfl F,?_⟩,?_⟩
  ·skip
   rw [Υ g];rfl
  ·simp [g]
theorem aaj (e:Bool) (x:Int×Int) (F:PH):pn prog (Instr.checkKey e 10000 213 (.agg (B5 x))) F ():=by show pn prog (Instr.checkKey e (9998+1+1) 213 _) _ _;unfold Instr.checkKey;simp only [am];refine ⟨_,(az underlying213 _).2 rfl,?_⟩;dsimp only;rw [Std.Legacy.Range.forIn_eq_forIn_range'];simp only [Std.Legacy.Range.size,VP,Zk,Nat.div_one,List.range',Ym,List.forIn_nil,ye,Nat.reduceAdd];refine (am _ _ _ _).2 ⟨PUnit.unit,(am _ _ _ _).2 ⟨_,mH e 9998 0 _ _ rfl F,(am _ _ _ _).2 ⟨_,mH e 9998 1 _ _ rfl F,rfl⟩⟩,rfl⟩
abbrev B6 (x:Br):Value:=nL (aW x)
abbrev be (x:Int):Value:=U x
theorem M0:oY prog 3 be:=by
 refine ⟨λF a b=> ?_,λF e a=> ?_,λa=> ?_,_,underlying3,.inl λa b=> ?_⟩
 ·unfold Op.equal Op.maxDepth;exact JO 9999 a b F
 ·exact Ej e 9999 a F
 ·unfold Instr.sameBits;simp
 ·unfold Instr.sameNow;simp only [if_true];by_cases h:a=b<;>simp [h]
theorem WG:oY prog 201 B6:=by
 refine ⟨λF a b=>JP a b F,λF e a=>qdR e a F,λa=> ?_,_,underlying201,.inr λa b=> ?_⟩
 ·show Instr.sameBits (9998+1+1) _ _=mY;simp [Instr.sameBits]
 ·rfl
abbrev M1 (x:Int×Int×Int):Value:=nL (dz x)
theorem aak:oY prog 313 M1:=by
 refine ⟨λF a b=>eq3 a b F,λF e a=>aai e a F,λa=> ?_,_,underlying313,.inr λa b=> ?_⟩
 ·show Instr.sameBits (9998+1+1) _ _=mY;simp [Instr.sameBits]
 ·rfl
abbrev gA (x:Int×Int):Value:=nL (B5 x)
theorem aal:oY prog 213 gA:=by
 refine ⟨λF a b=>eq2 a b F,λF e a=>aaj e a F,λa=> ?_,_,underlying213,.inr λa b=> ?_⟩
 ·show Instr.sameBits (9998+1+1) _ _=mY;simp [Instr.sameBits]
 ·rfl
theorem aam:bu prog 4=V (nS mz):=by kernel_rfl
theorem Yx:fS prog 278 be (U 0):=⟨_,_,underlying278,X7,M0⟩
theorem Z3:fS prog 246 B6 (U 0):=⟨_,_,underlying246,X7,WG⟩
theorem Z4:fS prog 243 B6 (.bool mz):=⟨_,_,underlying243,aam,WG⟩
theorem Z2:fS prog 311 M1 (U 0):=⟨_,_,underlying311,X7,aak⟩
theorem B7 {F:PH} {a b:Sl} {x y:List Br} (K:RdS F a 3 (aV x)) (L:RdS F b 3 (aV y)) (W:x7 x.length):
  ν 153 #[a.v,b.v] F λv C=>v=nS (decide (x=y))/\C=F:=by
 have Q:=K.blen;have O:=L.blen;refine qe9 ?_;unfold Qi;refine ⟨λh=> ?_,λh=> ?_⟩
 ·refine ⟨?_,rfl⟩;have:¬x=y:=by intro e;subst e;omega
  simp [this]
 ·have w:x.length=y.length:=by omega
  refine ⟨λm i C=>∃k:Nat,i=k/\k<=x.length/\m=x.length - k/\C=F/\x.take k=y.take k,x.length,⟨0,rfl,by omega,rfl,rfl,rfl⟩,?_⟩;rintro m i C ⟨k,rfl,R,rfl,rfl,g⟩;unfold EL;refine ⟨λG=> ?_,λM=> ?_⟩
  ·have B:k<x.length:=by omega
   have A:k<y.length:=by omega
   obtain ⟨p,P,E,_⟩:=VQ K (N5 B);obtain ⟨q,N,J,_⟩:=VQ L (N5 A);refine ⟨p,P,by omega,G,aW x[k],rfl,by simpa using E,q,N,by omega,by omega,aW y[k],rfl,by simpa using J,decide (x[k]=y[k]),λF=>JP x[k] y[k] F,λD=> ?_,λr=> ?_⟩
   ·refine ⟨?_,rfl⟩;have:¬x=y:=by rintro rfl;simp at D
    simp [this]
   ·refine ⟨x.length - (k+1),by omega,k+1,ff (by omega),by omega,rfl,rfl,?_⟩;rw [W4 B,W4 A,g];simp at r;rw [r]
  ·refine ⟨?_,rfl⟩;have H:k=x.length:=by omega
   rw [H,wy,w,wy] at g;simp [g]
theorem nX {F:PH} {v w:Γ} {d e:vE} (hd:DV F v d) (O:DV F w e) (P:x7 d.1.length):
  ν 117 #[nL v,nL w] F λr L=>r=nS (decide (d=e))/\F.le L:=by
 obtain ⟨s,rfl,N⟩:=hd;obtain ⟨t,rfl,M⟩:=O;refine qeV ?_;unfold PX;intro J E;refine tR ?_;have C:=ae (Y #[s.v,U d.2] 33) E;intro K H;refine tR ?_;have A:=ae (Y #[t.v,U e.2] 33) H;have g:F.le _:=λb o h=>A b o (C b o h);have B:=A _ _ (aq F J (Y #[s.v,U d.2] 33));have D:=aq (F.set J (Y #[s.v,U d.2] 33)) K (Y #[t.v,U e.2] 33);generalize (F.set J (Y #[s.v,U d.2] 33)).set K (Y #[t.v,U e.2] 33)=G at*;refine ⟨_,by rw [av B];rfl,_,by rw [av D];rfl,λh=> ?_,λh=> ?_⟩
 ·refine ⟨s,by rw [av B];rfl,t,by rw [av D];rfl,?_⟩;refine (B7 (N.le g) (M.le g) P).mono ?_;rintro _ L ⟨rfl,rfl⟩;refine ⟨_,rfl,?_,g⟩;obtain ⟨X,Q⟩:=d;obtain ⟨R,W⟩:=e;simp only at h;simp [h]
 ·refine ⟨?_,g⟩;have:¬d=e:=by rintro rfl;exact h rfl
  simp [this]
def Xs (S:List Tr) (x:Br):Option ξ:=if x∈brs S then V (U (((brs S).idxOf x+2:Nat):Int)) else I
structure BD (F0 F:PH) (b m:Nat) (S:List Tr):Prop where
 le:F0.le F
 cl:Cl S
 nb:F0 b=I
 nm:F0 m=I
 ex:∃s:Sl,F b=V (Y #[s.v,.map (V m)] 248)/\bP F 201 3 s (aV (brs S))/\∀a,s.qa5=V a->F0 a.block=I
 map:∃o,F m=V o/\dX B6 (Xs S) o
theorem bP.elem {F:PH} {e size:Nat} {s:Sl} {vs:Ξ} (h:bP F e size s vs) {a:Addr} (r:s.qa5=V a):∃g,F a.block=V (Y g e (0,0)):=by
 rcases h with ⟨rfl,rfl⟩|⟨b,g,w,A,_⟩
 ·cases r
 ·rw [w] at r;cases r;exact ⟨g,A⟩
theorem qhj (F:PH):ν 211 #[] F λr G=>∃b m,r=ph (V ⟨b,0,I⟩)/\b≠m/\BD F G b m []:=by
 refine qe5 ?_;unfold Qe;intro D B;refine tR ?_;intro E g;refine tR ?_;have w:=ae (.map #[] 0) B;have A:=ae (Y #[tS I 0 0,Value.map (V D)] 248) g;have C:E≠D:=λe=>by rw [e,aq] at g;cases g
 refine ⟨E,D,rfl,C,λb o h=>A b o (w b o h),.nil,aT w g,B,⟨pi,aq _ _ _,.inl ⟨rfl,rfl⟩,λa H=>by cases H⟩,_,A _ _ (aq _ _ _),?_⟩;have:Xs []=λ_=>I:=by funext x;simp [Xs,brs]
 rw [this];exact dX.empty B6
instance (S:List Tr) (t:Tr):Decidable (inn S t):=inferInstanceAs (Decidable (t.isL=mY\/t∈S))
def eY (S:List Tr) (t:Tr):List Tr:=if inn S t then S else S++[t]
theorem sQ {S:List Tr} (w:Cl S) {v:Nat} {l h:Tr} (G:v<64/\v<l.top/\v<h.top/\l.ok/\h.ok):eY (tY h (tY l S)) (mk v l h)=tY (mk v l h) S:=by
 obtain ⟨O,P,M,K,C⟩:=G;obtain ⟨D,A,X,H,F⟩:=bk l S K w;obtain ⟨Q,R,N,B,J⟩:=bk h (tY l S) C D;unfold mk;split
 ·rename_i e;subst e;rw [gu A];unfold eY;rw [Χ A]
 ·rename_i e
  conv=>rhs;unfold tY
  unfold eY;by_cases r:qa7 v l h∈S
  ·have L:=(w.inn_kids (.inr r)).1;have E:=(w.inn_kids (.inr r)).2;rw [Χ r,gu L,gu E,Χ (.inr r)]
  ·rw [Υ r,Υ];rintro (g|g)
   ·cases g
   ·rw [B,H] at g;rcases vd.1 g with g|g
    ·rcases vd.1 g with g|g
     ·exact r g
     ·have:=F _ g;simp only [sz] at this;omega
    ·have:=J _ g;simp only [sz] at this;omega
theorem uG {α r:Type} [DecidableEq α] [DecidableEq r] (f:α->r) (x:α):∀(l:List α),x∈l->(∀y∈l,f y=f x->y=x)->(l.map f).idxOf (f x)=l.idxOf x
 |[],h,_=>by cases h
 |a::l,h,hi=>by
  simp only [xw,List.idxOf_cons];by_cases g:a=x
  ·subst g;simp
  ·have B:¬f a=f x:=λe=>g (hi a (by simp) e);have w:(a==x)=mz:=by simpa using g
   have C:(f a==f x)=mz:=by simpa using B
   rw [w,C];simp only [cond_false];rw [uG f x l (by simpa [Ne.symm g] using h) (λy A=>hi y (by simp [A]))]
theorem iA {S:List Tr} (F:Cl S) {v:Nat} {l h:Tr} (E:inn S l) (C:inn S h):br S (qa7 v l h)∈brs S↔qa7 v l h∈S:=by
 constructor
 ·intro r;obtain ⟨u,B,A⟩:=w9.1 r;obtain ⟨_,D,H,K,rfl,w,g⟩:=F.mem u B;simp only [br,Br.mk.injEq] at A;obtain ⟨J,G,L⟩:=A;rw [<- cN w E (by omega),<- cN g C (by omega),<- show D=v by omega];exact B
 ·intro r;exact List.mem_map_of_mem r
theorem Gy {S:List Tr} (r:Cl S) {v:Nat} {l h:Tr} (g:qa7 v l h∈S):(brs S).idxOf (br S (qa7 v l h))+2=num S (qa7 v l h):=by unfold brs;rw [uG _ _ _ g (λy w e=>LB r w g e)];rfl
theorem JQ {S:List Tr} (C:Cl S) {v:Nat} {l h:Tr} (B:inn S l) (A:inn S h) (D:qa7 v l h ∉ S):
  Xs (S++[qa7 v l h])=λx=>if x=br S (qa7 v l h) then V (U (((S.length+2:Nat):Int))) else Xs S x:=by
 have E:br S (qa7 v l h) ∉ brs S:=λg=>D ((iA C B A).1 g);have r:br S (qa7 v l h)=⟨(v:Int),(num S l:Int),(num S h:Int)⟩:=rfl;funext x;unfold Xs;rw [eB C B A,<- r];by_cases w:x=br S (qa7 v l h)
 ·subst w;rw [Χ rfl,Χ (by simp),List.idxOf_append,Υ E];simp [aO]
 ·rw [Υ w];by_cases g:x∈brs S
  ·rw [Χ g,Χ (by simp [g]),List.idxOf_append,Χ g]
  ·rw [Υ g,Υ (by simp [g,w])]
section
variable {F0 F:PH} {b m:Nat} {S:List Tr}
theorem qii (hd:BD F0 F b m S) {v:Nat} {l h:Tr} (hl:inn S l) (hh:inn S h) (hv:v<64/\v<l.top/\v<h.top) (hf:x7 (S.length+2)):
  ν 214 #[ph (V ⟨b,0,I⟩),U v,U (num S l),U (num S h)] F λr F'=>r=U (num (eY S (mk v l h)) (mk v l h))/\BD F0 F' b m (eY S (mk v l h)):=by
 have e0:=hd;obtain ⟨d1,Q,a4,a3,⟨s,G,M,a9⟩,ob,K,J⟩:=hd;refine qe8 ?_;unfold Qh;refine ⟨λhe=> ?_,λhe=> ?_⟩
 ·obtain rfl:=cN hl hh (by omega);have e:mk v l l=l:=by simp [mk]
  rw [e];have e2:eY S l=S:=by unfold eY;rw [Χ hl]
  rw [e2];exact ⟨rfl,e0⟩
 have b5:l≠h:=λe=>he (by rw [e]);have d2:mk v l h=qa7 v l h:=by simp [mk,b5]
 have c9:(qa7 v l h).ok:=⟨hv.1,hv.2.1,hv.2.2,b5,Q.inn_ok hl,Q.inn_ok hh⟩;rw [d2];intro W b6;refine tR ?_;refine Ud (aq _ _ _) rfl rfl (iC ⟨v,num S l,num S h⟩) ?_;rw [aR];have C:=ae (Y (aW ⟨v,num S l,num S h⟩) 201) b6;have P:=aq F W (Y (aW ⟨v,num S l,num S h⟩) 201);have a8:br S (qa7 v l h)=⟨(v:Int),(num S l:Int),(num S h:Int)⟩:=rfl;rw [<- a8] at P C;show ∃e6:Addr,_;rw [show (#[U v,U (num S l),U (num S h)]:Γ)=aW (br S (qa7 v l h)) from rfl];have G:=C _ _ G;have K:=C _ _ K;have X:F0.le (F.set W (Y (aW (br S (qa7 v l h))) 201)):=λx o O=>C x o (d1 x o O);have c5:∀a,s.qa5=V a->a.block≠W:=λa w e=>by obtain ⟨D,g⟩:=M.elem w;rw [e,b6] at g;cases g
 have a2:∀a,s.qa5=V a->(∃D,(F.set W (Y (aW (br S (qa7 v l h))) 201)) a.block=V (Y D 201 (0,0))):=λa w=>by obtain ⟨D,g⟩:=M.elem w;exact ⟨D,C _ _ g⟩
 replace M:bP (F.set W (Y (aW (br S (qa7 v l h))) 201)) 201 3 s (aV (brs S)):=M.keep λa w=>by obtain ⟨D,g⟩:=M.elem w;rw [g,C _ _ g]
 generalize F.set W (Y (aW (br S (qa7 v l h))) 201)=F1 at*;refine ⟨_,rfl,V m,by simp only [aI];rw [av G];rfl,aW (br S (qa7 v l h)),rfl,ai P,?_⟩;have R:=bM (F:=F1) Z3 K J (br S (qa7 v l h)) mY;by_cases A:qa7 v l h∈S
 ·have O:=(iA Q hl hh).2 A;have e1:Xs S (br S (qa7 v l h))=V (U (num S (qa7 v l h))):=by unfold Xs;rw [Χ O,Gy Q A]
  rw [e1] at R;refine ⟨_,_,R,λhc=>(by cases hc),λ_=> ?_⟩;have e2:eY S (qa7 v l h)=S:=by unfold eY;rw [Χ (.inr A)]
  rw [e2];exact ⟨rfl,X,Q,a4,a3,⟨s,G,M,a9⟩,ob,K,J⟩
 ·have O:br S (qa7 v l h) ∉ brs S:=λO=>A ((iA Q hl hh).1 O);have e1:Xs S (br S (qa7 v l h))=I:=by unfold Xs;rw [Υ O]
  rw [e1] at R;have e2:eY S (qa7 v l h)=S++[qa7 v l h]:=by
   unfold eY;rw [Υ];rintro (hc|hc)
   ·cases hc
   ·exact A hc
  rw [e2];have b8:Cl (S++[qa7 v l h]):=.snoc Q hl hh c9 A;refine ⟨_,_,R,λ_=> ?_,λhc=>(by cases hc)⟩;refine ⟨s,by rw [av G];rfl,aW (br S (qa7 v l h)),rfl,ai P,rfl,λN a7=> ?_⟩;refine tR ?_;have B:=ae (Y (aW (br S (qa7 v l h))) 201) a7;have d0:=aq F1 N (Y (aW (br S (qa7 v l h))) 201);have G:=B _ _ G;have K:=B _ _ K;have P:=B _ _ P;have b2:F0.le (F1.set N (Y (aW (br S (qa7 v l h))) 201)):=λx o O=>B x o (X x o O);replace M:bP (F1.set N (Y (aW (br S (qa7 v l h))) 201)) 201 3 s (aV (brs S)):=M.keep λa w=>by obtain ⟨D,g⟩:=a2 a w;rw [g,B _ _ g]
  generalize F1.set N (Y (aW (br S (qa7 v l h))) 201)=F2 at*;have H:=M.rd.blen;rw [aO] at H;refine iM underlying31 FA FB rfl (by decide) b2 M a9 (x:=⟨V ⟨N,0,I⟩,1,1⟩) (news:=dh (br S (qa7 v l h))) (RdS.new d0 rfl rfl (qX _)) (λx O=>jm [br S (qa7 v l h)] x (by simpa [aV] using O)) (by simp only [H];omega) (by simp only [H];omega) ?_;intro E F3 b4 b7 a5 e4 a6 e5;have c4:∀a,s.qa5=V a->a.block≠b:=λa w e=>by obtain ⟨D,g⟩:=M.elem w;rw [e,G] at g;cases g
  have c3:∀a,s.qa5=V a->a.block≠m:=λa w e=>by obtain ⟨D,g⟩:=M.elem w;obtain ⟨es,c,L,rfl,_⟩:=J;rw [e,K] at g;cases g
  have G:=a6 _ _ G (λ⟨a,w,e⟩=>c4 a w e);have K:=a6 _ _ K (λ⟨a,w,e⟩=>c3 a w e);have P:=a6 _ _ P (λ⟨a,w,e⟩=>c5 a w e);refine ⟨E,rfl,?_⟩;refine Wp G (by simp) ?_;have b1:b≠m:=λe=>by obtain ⟨es,c,L,rfl,_⟩:=J;rw [e,K] at G;cases G
  have c8:W≠b:=λe=>by rw [e,G] at P;cases P
  have c2:∀a,E.qa5=V a->a.block≠b/\a.block≠m:=λa w=>by
   obtain ⟨D,g⟩:=b7.elem w;refine ⟨λe=> ?_,λe=> ?_⟩
   ·rw [e,G] at g;cases g
   ·obtain ⟨es,c,L,rfl,_⟩:=J;rw [e,K] at g;cases g
  have b0:F0.le (F3.set b (Y (#[E.v,Value.map (V m)]:Γ) 248)):=aB b4 a4;have a0:=aq F3 b (Y (#[E.v,Value.map (V m)]:Γ) 248);have d3:(F3.set b (Y (#[E.v,Value.map (V m)]:Γ) 248)) m=V ob:=by rw [aw _ _ b1.symm];exact K
  have c6:(F3.set b (Y (#[E.v,Value.map (V m)]:Γ) 248)) W=V (Y (aW (br S (qa7 v l h))) 201):=by rw [aw _ _ c8];exact P
  have c7:bP (F3.set b (Y (#[E.v,Value.map (V m)]:Γ) 248)) 201 3 E (aV (brs S)++dh (br S (qa7 v l h))):=b7.keep λa w=>aw _ _ (c2 a w).1;rw [show (#[s.v,Value.map (V m)].setIfInBounds 0 E.v:Γ)= #[E.v,Value.map (V m)] from rfl];generalize F3.set b (Y (#[E.v,Value.map (V m)]:Γ) 248)=F4 at*;have a1:E.len=S.length+1:=by rw [a5,H]
  refine ⟨E,by rw [av a0];rfl,V m,by simp only [aI];rw [av a0];rfl,aW (br S (qa7 v l h)),rfl,ai c6,?_⟩;refine bh Z3 d3 J (br S (qa7 v l h)) _ λo' b3=> ?_;have hw:i64.wrap ((E.len:Int)+1)=((S.length+2:Nat):Int):=by rw [a1,aJ (by omega)];omega
  rw [hw] at b3 ⊢;refine ⟨?_,aB b0 a3,b8,a4,a3,⟨E,by rw [aw _ _ b1];exact a0,?_,e4⟩,o',aq _ _ _,by rw [JQ Q hl hh A];exact b3⟩
  ·have d4:=dR b8 (k:=S.length) (t:=qa7 v l h) (by simp);rw [d4]
  ·have e3:aV (brs (S++[qa7 v l h]))=aV (brs S)++dh (br S (qa7 v l h)):=by rw [eB Q hl hh,<- a8,d9];simp [aV]
   rw [e3];exact c7.keep λa w=>aw _ _ (c2 a w).2
end
theorem cW {α:Type} [DecidableEq α]:∀(l m:List α),l.Nodup->(∀x∈l,x∈m)->l.length<=m.length
 |[],_,_,_=>yv _
 |a::l,m,hn,hs=>by rw [WT] at hn;have g:=hs a (by simp);have h:=cW l (m.erase a) hn.2 (λx r=>(List.mem_erase_of_ne (by rintro rfl;exact hn.1 r)).2 (hs x (by simp [r])));rw [List.length_erase_of_mem g] at h;have:=List.length_pos_of_mem g;simp only [wc];omega
theorem JR:aF prog 182=mY:=by kernel_rfl
def Xf (S0 S:List Tr) (n:Int):Option ξ:=
 if 0<=n/\n<=(S0.length:Int)+1/\inn S (tr S0 n.toNat) then V (U (num S (tr S0 n.toNat):Int)) else I
theorem qn {g S:List Tr} (r:Cl g) {t:Tr} (h:inn g t) (hi:inn S t):Xf g S (num g t)=V (U (num S t)):=by have w:=dQ h;unfold Xf;rw [N4,ow r h,Χ ⟨by omega,by omega,hi⟩]
theorem JS {g S:List Tr} (w:Cl g) {t:Tr} (r:inn g t) (hi:¬inn S t):Xf g S (num g t)=I:=by unfold Xf;rw [N4,ow w r,Υ (λh=>hi h.2.2)]
theorem JT {g S:List Tr} (C:Cl g) (_:Cl S) {t:Tr} (D:inn g t) (w:Cl (S++[t])):
  Xf g (S++[t])=λn=>if n=(num g t:Int) then V (U (((S.length+2:Nat)):Int)) else Xf g S n:=by
 funext n;by_cases B:n=(num g t:Int)
 ·subst B;rw [Χ rfl,qn C D (.inr (by simp)),dR w (k:=S.length) (by simp)]
 ·rw [Υ B];unfold Xf;by_cases r:0<=n/\n<=(g.length:Int)+1
  ·have A:tr g n.toNat≠t:=λe=>by have:=fV C (n:=n.toNat) (by omega);rw [e] at this;omega
   by_cases hi:inn S (tr g n.toNat)
   ·rw [Χ ⟨r.1,r.2,bY hi⟩,Χ ⟨r.1,r.2,hi⟩,bN hi]
   ·rw [Υ,Υ (λh=>hi h.2.2)];rintro ⟨_,_,h|h⟩
    ·exact hi (.inl h)
    ·rcases vd.1 h with h|h
     ·exact hi (.inr h)
     ·exact A (vy.1 h)
  ·rw [Υ (λh=>r ⟨h.1,h.2.1⟩),Υ (λh=>r ⟨h.1,h.2.1⟩)]
theorem M2 {g:List Tr} (w:Cl g):Xf g []=λn=>if n=1 then V (U 1) else if n=0 then V (U 0) else I:=by
 funext n;unfold Xf;by_cases r:n=1
 ·subst r;have e:tr g (nT 1)=qa6 mY:=rfl;rw [Χ rfl,e,Χ ⟨by omega,by omega,fU _ _⟩];rfl
 ·rw [Υ r];by_cases h:n=0
  ·subst h;have e:tr g (nT 0)=qa6 mz:=rfl;rw [Χ rfl,e,Χ ⟨by omega,by omega,fU _ _⟩];rfl
  ·rw [Υ h,Υ];rintro ⟨a,b,c|c⟩
   ·have A:inn g (tr g n.toNat):=gE (by omega);have B:=fV w (n:=n.toNat) (by omega);generalize tr g n.toNat=t at*;cases t with
    |qa6 x=>have:=cK g x;omega
    |qa7 _ _ _=>cases c
   ·cases c
structure VE (F0:PH) (b6 b2 b7 b5 M b:Nat) (ns:Sl) (S0:List Tr):Prop where
 c6:F0.cell ⟨b6,0,I⟩=V (.map (V M))
 c2:F0.cell ⟨b2,0,I⟩=V (ph (V ⟨b,0,I⟩))
 c7:F0.cell ⟨b7,0,I⟩=V (.func (.func 182) #[] #[ph (V ⟨b6,0,I⟩),ph (V ⟨b2,0,I⟩),ph (V ⟨b7,0,I⟩),ph (V ⟨b5,0,I⟩)])
 cb:F0.cell ⟨b,0,I⟩=V ns.v
 rd:RdS F0 ns 3 (aV (brs S0))
theorem VE.le {F0 G:PH} {r B A C M b:Nat} {ns:Sl} {w:List Tr} (h:VE F0 r B A C M b ns w) (g:F0.le G):VE G r B A C M b ns w:=
 ⟨aK g h.c6,aK g h.c2,aK g h.c7,aK g h.cb,h.rd.le g⟩
structure VS (F0 F:PH) (b5 M:Nat) (S0 S:List Tr):Prop where
 le:F0.le F
 cl:Cl S
 sub:∀x∈S,x∈S0
 n5:F0 b5=I
 nM:F0 M=I
 ex:∃(s:Sl),F b5=V (Y #[s.v,U 0] 33)/\bP F 201 3 s (aV (brs S))/\∀a,s.qa5=V a->F0 a.block=I
 map:∃o,F M=V o/\dX be (Xf S0 S) o
theorem bP.upto {F G:PH} {e size:Nat} {s:Sl} {vs:Ξ} (h:bP F e size s vs) (B:F.le G):bP G e size s vs:=by
 rcases h with h|⟨b,g,w,r,A⟩
 ·exact .inl h
 ·exact .inr ⟨b,g,w,B _ _ r,A⟩
theorem B8 {b6 b2 b7 K M b:Nat} {ns:Sl} {w:List Tr} (h0:Cl w) (hf:x7 (w.length+4)):∀(t:Tr),inn w t->∀(F0 F:PH) (S:List Tr),VE F0 b6 b2 b7 K M b ns w->VS F0 F K M w S->
  ν 182 #[U (num w t),ph (V ⟨b6,0,I⟩),ph (V ⟨b2,0,I⟩),ph (V ⟨b7,0,I⟩),ph (V ⟨K,0,I⟩)] F
   λr F'=>r=U (num (tY t S) t)/\VS F0 F' K M w (tY t S):=by
 intro t;induction t with
 |qa6 x=>intro ht F0 F S he hs;have d4:=hs;obtain ⟨D,hS,b4,c4,c5,⟨s,h5,ho,g7⟩,o,hM,a4⟩:=hs;refine P7 ?_;unfold Kk;have J:=bM (F:=F) Yx hM a4 (num w (qa6 x)) mY;rw [qn h0 ht (fU _ _)] at J;exact ⟨_,rfl,_,aK D he.c6,_,_,J,λ_=>⟨rfl,d4⟩,λhc=>by cases hc⟩
 |qa7 v l h h6 h1=>
  intro ht F0 F S he hs;have d4:=hs;obtain ⟨D,hS,b4,c4,c5,⟨s,h5,ho,g7⟩,o,hM,a4⟩:=hs;have f9:=cC ht rfl;obtain ⟨i4,h4⟩:=h0.inn_kids ht;have b8:=h0.inn_ok ht;refine P7 ?_;unfold Kk;have J:=bM (F:=F) Yx hM a4 (num w (qa7 v l h)) mY;by_cases a3:qa7 v l h∈S
  ·rw [qn h0 ht (.inr a3)] at J;have e:tY (qa7 v l h) S=S:=gu (.inr a3);rw [e];exact ⟨_,rfl,_,aK D he.c6,_,_,J,λ_=>⟨rfl,d4⟩,λhc=>by cases hc⟩
  ·have f7:¬inn S (qa7 v l h):=by
    rintro (hc|hc)
    ·cases hc
    ·exact a3 hc
   rw [JS h0 ht f7] at J;have hw:=oQ (n:=num w (qa7 v l h)) (by have:=dQ ht;omega) (cY rfl);have j5:=dQ ht;have j6:=cY (S:=w) (t:=qa7 v l h) rfl;obtain ⟨a,B,e5,_⟩:=VQ (he.rd.le D) (jT (eA f9 rfl));have g9:=he.rd.blen;rw [aO] at g9;refine ⟨_,rfl,_,aK D he.c6,_,_,J,λhc=>(by cases hc),λ_=> ?_⟩;refine ⟨_,rfl,_,aK D he.c2,_,rfl,ns,aK D he.cb,a,B,by rw [hw];omega,by rw [hw];omega,aW (br w (qa7 v l h)),rfl,by rw [hw];exact e5,?_⟩;intro P a2;refine tR ?_;refine Ud (aq _ _ _) rfl rfl (iC _) ?_;rw [aR];have g6:F0 P=I:=aT D a2;have a0:VE (F0.set P (Y (aW (br w (qa7 v l h))) 201)) b6 b2 b7 K M b ns w:=he.le (ae _ g6);have a5:K≠P:=aH a2 h5;have b1:M≠P:=aH a2 hM;have f4:(F0.set P (Y (aW (br w (qa7 v l h))) 201)).le (F.set P (Y (aW (br w (qa7 v l h))) 201)):=λx ob H=>by
    by_cases g8:x=P
    ·subst g8;rw [aq] at H ⊢;exact H
    ·rw [aw _ _ g8] at H ⊢;exact D _ _ H
   have d1:VS (F0.set P (Y (aW (br w (qa7 v l h))) 201)) (F.set P (Y (aW (br w (qa7 v l h))) 201)) K M w S:=by refine ⟨f4,hS,b4,by rw [aw _ _ a5];exact c4,by rw [aw _ _ b1];exact c5,⟨s,by rw [aw _ _ a5];exact h5,ho.upto (ae _ a2),λa B=> ?_⟩,o,by rw [aw _ _ b1];exact hM,a4⟩;obtain ⟨d3,g⟩:=ho.elem B;rw [aw _ _ (aH a2 g)];exact g7 a B
   have a7:F0.le (F0.set P (Y (aW (br w (qa7 v l h))) 201)):=ae _ g6;have d0:(F0.set P (Y (aW (br w (qa7 v l h))) 201)) P=V (Y (aW (br w (qa7 v l h))) 201):=aq _ _ _;generalize F0.set P (Y (aW (br w (qa7 v l h))) 201)=G0 at*;generalize F.set P (Y (aW (br w (qa7 v l h))) 201)=F1 at*;refine ⟨_,rfl,_,aK d1.le a0.c7,_,by rw [av (d1.le _ _ d0)];rfl,_,_,_,rfl,JR,?_⟩;refine (h6 i4 G0 F1 S a0 d1).mono ?_;rintro _ F2 ⟨rfl,d2⟩;refine ⟨_,rfl,_,aK d2.le a0.c7,_,by rw [av (d2.le _ _ d0)];rfl,_,_,_,rfl,JR,?_⟩;refine (h1 h4 G0 F2 _ a0 d2).mono ?_;rintro _ F3 ⟨rfl,g3⟩;have i5:=g3;obtain ⟨E,e0,a1,g2,e4,⟨s3,A,W,e8⟩,o3,G,O⟩:=g3;obtain ⟨i3,f3,X,j3,j1⟩:=bk l S b8.2.2.2.2.1 hS;obtain ⟨j0,h9,z0,f6,j4⟩:=bk h (tY l S) b8.2.2.2.2.2 i3;have g1:num (tY l S) l=num (tY h (tY l S)) l:=by rw [f6,bN f3]
   have g5:tY (qa7 v l h) S=tY h (tY l S)++[qa7 v l h]:=by
    conv=>lhs;unfold tY
    rw [Υ a3]
   obtain ⟨c9,_,_⟩:=bk (qa7 v l h) S b8 hS;rw [g5] at c9 ⊢;rw [g1];have g4:inn (tY h (tY l S)) l:=by rw [f6];exact bY f3
   generalize tY h (tY l S)=T at*;refine ⟨_,rfl,_,rfl,s3,by rw [av A];rfl,_,by rw [av (E _ _ d0)];rfl,rfl,λR a9=> ?_⟩;refine tR ?_;have h8:G0 R=I:=aT E a9;have j2:T.length<=w.length:=cW T w e0.nodup a1;have N:=W.rd.blen;rw [aO] at N;have ex:(#[U (v:Int),U (num T l:Int),U (num T h:Int)]:Γ)=aW ⟨(v:Int),(num T l:Int),(num T h:Int)⟩:=rfl;have C:=ae (Y (aW ⟨(v:Int),(num T l:Int),(num T h:Int)⟩) 201) a9;have h3:=aq F3 R (Y (aW ⟨(v:Int),(num T l:Int),(num T h:Int)⟩) 201);show aG prog _ (F3.set R (Y (aW ⟨(v:Int),(num T l:Int),(num T h:Int)⟩) 201)) _;replace E:G0.le (F3.set R (Y (aW ⟨(v:Int),(num T l:Int),(num T h:Int)⟩) 201)):=λx ob H=>C _ _ (E _ _ H);have W:=W.upto C;have A:=C _ _ A;have G:=C _ _ G;generalize F3.set R (Y (aW ⟨(v:Int),(num T l:Int),(num T h:Int)⟩) 201)=F4 at*;refine iM underlying31 FA FB rfl (by decide) E W e8 (x:=⟨V ⟨R,0,I⟩,1,1⟩) (news:=dh ⟨(v:Int),(num T l:Int),(num T h:Int)⟩) (RdS.new h3 rfl rfl (qX _))
    (λx H=>jm [⟨(v:Int),(num T l:Int),(num T h:Int)⟩] x (by simpa [aV] using H)) (by simp only [N];omega) (by simp only [N];omega) ?_
   intro Q F5 e7 e9 c3 f5 e6 _;have i0:∀a,s3.qa5=V a->a.block≠K:=λa B e=>by obtain ⟨d3,g⟩:=W.elem B;rw [e,A] at g;cases g
   have i1:∀a,s3.qa5=V a->a.block≠M:=λa B e=>by obtain ⟨d3,g⟩:=W.elem B;obtain ⟨es,c,L,rfl,_⟩:=O;rw [e,G] at g;cases g
   have A:=e6 _ _ A (λ⟨a,B,e⟩=>i0 a B e);have G:=e6 _ _ G (λ⟨a,B,e⟩=>i1 a B e);have f1:K≠M:=λe=>by obtain ⟨es,c,L,rfl,_⟩:=O;rw [e,G] at A;cases A
   have b3:∀a,Q.qa5=V a->a.block≠K/\a.block≠M:=λa B=>by
    obtain ⟨d3,g⟩:=e9.elem B;refine ⟨λe=> ?_,λe=> ?_⟩
    ·rw [e,A] at g;cases g
    ·obtain ⟨es,c,L,rfl,_⟩:=O;rw [e,G] at g;cases g
   refine ⟨Q,rfl,?_⟩;refine Wp A (by simp) ?_;rw [show (#[s3.v,U 0].setIfInBounds 0 Q.v:Γ)= #[Q.v,U 0] from rfl];have a6:G0.le (F5.set K (Y #[Q.v,U 0] 33)):=aB e7 g2;have e2:=aq F5 K (Y #[Q.v,U 0] 33);have i2:(F5.set K (Y #[Q.v,U 0] 33)) M=V o3:=by rw [aw _ _ f1.symm];exact G
   have h2:bP (F5.set K (Y #[Q.v,U 0] 33)) 201 3 Q _:=e9.keep λa B=>aw _ _ (b3 a B).1;generalize F5.set K (Y #[Q.v,U 0] 33)=F6 at*;have e1:Q.len=T.length+1:=by rw [c3,N]
   have h7:i64.wrap ((Q.len:Int)+1)=((T.length+2:Nat):Int):=by rw [e1,aJ (by omega)];omega
   refine ⟨_,aK a6 a0.c6,Q,by rw [av e2];rfl,?_⟩;dsimp only;rw [h7];refine bh Yx i2 O (num w (qa7 v l h):Int) _ λo' c8=> ?_;rw [<- JT h0 e0 ht c9] at c8;have a8:G0.le (F6.set M o'):=aB a6 e4;have b0:=bM (F:=F6.set M o') Yx (aq F6 M o') c8 (num w (qa7 v l h)) mz;rw [qn h0 ht (.inr (by simp))] at b0;refine ⟨_,aK a8 a0.c6,_,b0,rfl,λx ob H=>a8 _ _ (a7 _ _ H),c9,λx H=> ?_,c4,c5,⟨Q,by rw [aw _ _ f1];exact e2,?_,λa B=>aT a7 (f5 a B)⟩,o',aq _ _ _,c8⟩
   ·rcases vd.1 H with H|H
    ·exact a1 x H
    ·rw [vy.1 H];exact f9
   ·have e3:aV (brs (T++[qa7 v l h]))=aV (brs T)++dh ⟨(v:Int),(num T l:Int),(num T h:Int)⟩:=by rw [eB e0 g4 h9,d9];simp [aV]
    rw [e3];exact h2.keep λa B=>aw _ _ (b3 a B).2
def nY (F:PH) (a b:Nat):PH:=λx=>if x=a\/x=b then I else F x
theorem M3 (F:PH) (a b:Nat):(nY F a b).le F:=λx o h=>by
 unfold nY at h;split at h
 ·cases h
 ·exact h
theorem mI {F:PH} {a b x:Nat} (g:x≠a) (h:x≠b):nY F a b x=F x:=by simp [nY,g,h]
theorem Ss (F:PH) (a b:Nat):nY F a b a=I:=by simp [nY]
theorem Su (F:PH) (a b:Nat):nY F a b b=I:=by simp [nY]
theorem M4 {F G:PH} {a b:Nat} (h:F.le G) (B:F a=I) (w:F b=I):F.le (nY G a b):=λx o g=>by
 have A:x≠a:=λe=>by rw [e,B] at g;cases g
 have r:x≠b:=λe=>by rw [e,w] at g;cases g
 rw [mI A r];exact h _ _ g
theorem PH.le.trans {F G H:PH} (h:F.le G) (k:G.le H):F.le H:=λ_ _ g=>k _ _ (h _ _ g)
section
variable {F:PH} {b:Nat} {ns:Sl} {S0:List Tr} {t:Tr}
theorem mJ (hb:F.cell ⟨b,0,I⟩=V ns.v) (hr:RdS F ns 3 (aV (brs S0))) (h0:Cl S0) (ht:inn S0 t) (hf:x7 (S0.length+4)):
  ν 147 #[ph (V ⟨b,0,I⟩),U (num S0 t)] F λr F'=>∃v,r=nL v/\DV F' v (pg t)/\F.le F':=by
 have c6:=h0.inn_ok ht;refine qeX ?_;unfold PZ;intro b2 a7;refine tR ?_;have l2:=ae (Y #[ph (V ⟨b,0,I⟩)] 245) a7;have C:=aq F b2 (Y #[ph (V ⟨b,0,I⟩)] 245);generalize F.set b2 (Y #[ph (V ⟨b,0,I⟩)] 245)=F2 at*;intro L a0;refine tR ?_;have l4:=ae (Y zD 33) a0;have D:=aq F2 L (Y zD 33);have C:=l4 _ _ C;have f4:F L=I:=aT l2 a0;have l4:=l2.trans l4;generalize F2.set L (Y zD 33)=F4 at*;intro w H;refine tR ?_;have a5:b2≠w:=aH H C;have a1:L≠w:=aH H D;refine Ud (aq _ _ _) rfl rfl (λx g=> ?_) ?_
 ·simp only [tD,Wx,or_false] at g;rcases g with rfl|rfl
  ·exact Lu (x:=pi)
  ·exact jt
 rw [aR];have R:=ae (Y zD 33) H;have E:=aq F4 w (Y zD 33);have C:=R _ _ C;have D:=R _ _ D;have f5:F w=I:=aT l4 H;have R:=l4.trans R;generalize F4.set w (Y zD 33)=F5 at*;intro h A;refine tR ?_;have f9:F h=I:=aT R A;have b8:b2≠h:=aH A C;have c2:L≠h:=aH A D;have c4:w≠h:=aH A E;refine bh Yx (aq _ _ _) (dX.empty be) 0 (U 0) λo1 a8=> ?_;rw [aR];refine bh Yx (aq _ _ _) a8 1 (U 1) λJ a2=> ?_;rw [aR];have hn:Xf S0 []=(λk'=>if k'=1 then V (U 1) else if k'=0 then V (U 0) else I):=M2 h0;rw [<- hn] at a2;have l9:F.le (F5.set h J):=R.trans (ae J A);have P:=aq F5 h J;have C:=ae J A _ _ C;have D:=ae J A _ _ D;have E:=ae J A _ _ E;generalize F5.set h J=F9 at*;intro M N;refine tR ?_;refine Wp (aq _ _ _) (by simp) ?_;rw [aR,show (#[Value.map I].setIfInBounds 0 (Value.map (V h)):Γ)= #[Value.map (V h)] from rfl];have b0:M≠w:=(aH N E).symm;have b3:M≠h:=(aH N P).symm;have g:=ae (Y #[Value.map (V h)] 278) N;have h6:=aq F9 M (Y #[Value.map (V h)] 278);have l6:F.le (F9.set M (Y #[Value.map (V h)] 278)):=l9.trans g;have C:=g _ _ C;have D:=g _ _ D;have E:=g _ _ E;have P:=g _ _ P;clear g;generalize F9.set M (Y #[Value.map (V h)] 278)=F6 at*;intro K Q;refine tR ?_;refine Wp (aq _ _ _) (by simp) ?_;rw [aR];generalize a4:(Value.func (.func 182) #[] #[(ph (V (ou M 0 I))),(ph (V (ou b2 0 I))),(ph (V (ou K 0 I))),(ph (V (ou w 0 I)))])=W;rw [show (#[Value.nilFunc].setIfInBounds (ou K 0 I).off W:Γ)= #[W] from rfl];have a9:K≠w:=(aH Q E).symm;have a6:K≠h:=(aH Q P).symm;have g:=ae (Y #[W] 149) Q;have h7:=aq F6 K (Y #[W] 149);have l7:F.le (F6.set K (Y #[W] 149)):=l6.trans g;have C:=g _ _ C;have D:=g _ _ D;have E:=g _ _ E;have P:=g _ _ P;have h6:=g _ _ h6;clear g;generalize F6.set K (Y #[W] 149)=F7 at*;have lF:F.le (nY F7 w h):=M4 l7 f5 f9;have g4:(nY F7 w h) L=_:=(mI a1 c2).trans D;have he:VE (nY F7 w h) M b2 K w h b ns S0:=by
  refine ⟨?_,?_,?_,aK lF hb,hr.le lF⟩
  ·rw [av ((mI b0 b3).trans h6)];rfl
  ·rw [av ((mI a5 b8).trans C)];rfl
  ·rw [av ((mI a9 a6).trans h7),<- a4];rfl
 have hs:VS (nY F7 w h) F7 w h S0 []:=by refine ⟨M3 _ _ _,.nil,λx g=>(by cases g),Ss _ _ _,Su _ _ _,⟨pi,E,.inl ⟨rfl,rfl⟩,λa X=>by cases X⟩,J,P,a2⟩
 refine ⟨_,by rw [av h7];rfl,_,_,_,a4.symm,JR,?_⟩;refine (B8 h0 hf t ht _ _ _ he hs).mono ?_;rintro _ G ⟨rfl,b1⟩;refine ⟨_,rfl,?_⟩;obtain ⟨O,c3,_,_,_,⟨s,g5,go,gs⟩,_⟩:=b1;have ev:tY t []=aU t:=rfl;rw [ev] at*;refine Wp g5 (by simp) ?_;rw [show (#[s.v,U 0].setIfInBounds 1 (U (num (aU t) t)):Γ)= #[s.v,U (num (aU t) t)] from rfl];refine ⟨#[s.v,U (num (aU t) t)],rfl,ai (aq _ _ _),?_⟩;have k4:(G.set w (Y #[s.v,U (num (aU t) t)] 33)) L=V (Y zD 33):=by rw [aw _ _ a1];exact O _ _ g4
 refine Ud k4 rfl rfl (λx g=> ?_) ?_
 ·simp only [tD,Wx,or_false] at g;rcases g with rfl|rfl
  ·exact Lu
  ·exact jt
 refine ⟨#[s.v,U (num (aU t) t)],rfl,ai (aq _ _ _),_,rfl,⟨s,rfl,?_⟩,?_⟩
 ·have a3:∀a,s.qa5=V a->a.block≠w/\a.block≠L:=λa X=>by
   obtain ⟨c5,B⟩:=go.elem X;refine ⟨λe=> ?_,λe=> ?_⟩
   ·rw [e,g5] at B;cases B
   ·rw [e,O _ _ g4] at B;cases B
  exact (go.keep λa X=>by rw [aw _ _ (a3 a X).2,aw _ _ (a3 a X).1]).rd
 ·exact aB (aB (lF.trans O) f5) f4
end
def iS (d:vE):Prop:=∃t:Tr,t.ok/\d=pg t
open Classical in
def chk (d:vE):Int:=if 4096<d.1.length then 2 else if iS d then 0 else 20
def zH (S:List Tr) (b:Br):Prop:=∃(v:Nat) (l h:Tr),b=⟨(v:Int),(num S l:Int),(num S h:Int)⟩/\inn S l/\inn S h/\(qa7 v l h).ok/\qa7 v l h ∉ S
theorem JU {T:List Tr} (K:Cl T):∀k,k<T.length->Cl (T.take k)/\∃v l h,T[k]? =V (qa7 v l h)/\inn (T.take k) l/\inn (T.take k) h/\(qa7 v l h).ok/\qa7 v l h ∉ T.take k:=by
 induction K with
 |nil=>intro k w;simp at w
 | @snoc S v l h N H A r E ih=>
  intro k w;by_cases g:k<S.length
  ·obtain ⟨J,G,C,M,D,B,O,F,L⟩:=ih k g;rw [Xh (by omega)];exact ⟨J,G,C,M,by rw [zR g];exact D,B,O,F,L⟩
  ·have e:k=S.length:=by simp at w;omega
   subst e;rw [List.take_left' rfl];exact ⟨N,v,l,h,by simp,H,A,r,E⟩
theorem zI {T:List Tr} {k:Nat} {t:Tr} (h:inn (T.take k) t):num T t=num (T.take k) t:=by have:=bN (X:=T.drop k) h;rw [WI] at this;exact this
theorem JV {T:List Tr} (r:Cl T) (k:Nat):brs (T.take k)=(brs T).take k:=by
 by_cases g:k<T.length
 ·have h:=tK (X:=T.drop k) (JU r k g).1;rw [WI] at h;rw [h,List.take_left' (by rw [aO,zZ];omega)]
 ·rw [zc (by omega),zc (by rw [aO];omega)]
theorem xu {r:List Tr} (w:Cl r):∀(t:Tr) (S:List Tr),inn r t->(∀x∈S,x∈r)->∀x∈tY t S,x∈r
 |qa6 _,_,_,hs=>hs
 |qa7 v l h,S,ht,hs=>by
  obtain ⟨B,A⟩:=w.inn_kids ht;unfold tY;split
  ·exact hs
  ·intro x g;rcases vd.1 g with g|g
   ·exact xu w h _ A (xu w l S B hs) x g
   ·rw [vy.1 g];exact cC ht rfl
theorem M5 {g:List Tr} (r:Cl g) {t:Tr} (h:inn g t):(aU t).length<=g.length:=
 cW _ _ (bv (r.inn_ok h)).nodup (xu r t [] h (λx w=>by cases w))
theorem kC {d:vE} (J:iS d) {S:List Tr} (M:Cl S) {k:Nat} (N:S.length=k) (g:k<d.1.length) (G:brs S=d.1.take k):zH S d.1[k]:=by
 obtain ⟨t,L,rfl⟩:=J;have w:=bv L;have F:k<(aU t).length:=by simpa [pg,aO] using g
 obtain ⟨H,v,l,h,D,r,A,E,K⟩:=JU w k F;have e:S=(aU t).take k:=qL M H (by rw [G,JV w];rfl);subst e;refine ⟨v,l,h,?_,r,A,E,K⟩;have B:=jT D;have C:(brs (aU t))[k]? =V (pg t).1[k]:=N5 (by simpa [pg] using g);rw [C] at B;rw [yC B];simp only [br];rw [zI r,zI A]
theorem cq {S:List Tr} (w:Cl S) {b:Br} (h:zH S b):0<=b.v/\b.v<=63/\0<=b.l/\0<=b.h/\b.l<=S.length+1/\b.h<=S.length+1/\b.l≠b.h/\b ∉ brs S/\
  b.v<(tr S b.l.toNat).top/\b.v<(tr S b.h.toNat).top:=by
 obtain ⟨v,l,h,rfl,r,g,⟨G,K,F,C,E,H⟩,A⟩:=h;have J:=dQ r;have D:=dQ g;refine ⟨by simp,by simp only;omega,by simp,by simp,by simp only;omega,by simp only;omega,λe=>C (cN r g (by simp only at e;omega)),λB=>A ((iA w r g).1 B),?_,?_⟩
 ·simp only [N4,ow w r];omega
 ·simp only [N4,ow w g];omega
theorem Ek {S:List Tr} (g:Cl S) {b:Br} (K:0<=b.v) (H:b.v<=63) (G:0<=b.l) (M:0<=b.h) (J:b.l<=S.length+1) (L:b.h<=S.length+1) (E:b.l≠b.h) (A:b ∉ brs S)
  (F:b.v<(tr S b.l.toNat).top) (C:b.v<(tr S b.h.toNat).top):zH S b:=by
 have il:inn S (tr S b.l.toNat):=gE (by omega);have ih:inn S (tr S b.h.toNat):=gE (by omega);have r:=fV g (n:=b.l.toNat) (by omega);have D:=fV g (n:=b.h.toNat) (by omega);have e:b=⟨((b.v.toNat:Nat):Int),((num S (tr S b.l.toNat):Nat):Int),((num S (tr S b.h.toNat):Nat):Int)⟩:=by rw [r,D];obtain ⟨x,y,z⟩:=b;simp only [Br.mk.injEq];simp only at*;omega
 refine ⟨b.v.toNat,_,_,e,il,ih,⟨by omega,by omega,by omega,λw=> ?_,g.inn_ok il,g.inn_ok ih⟩,λB=>A ?_⟩
 ·rw [w] at r;omega
 ·rw [e];exact (iA g il ih).2 B
def Y4 (S:List Tr) (x:Br):Option ξ:=if x∈brs S then V (nS mY) else I
theorem JW {S:List Tr} {b:Br} {S':List Tr} (h:brs S'=brs S++[b]):Y4 S'=λx=>if x=b then V (nS mY) else Y4 S x:=by funext x;unfold Y4;rw [h];by_cases g:x=b<;>by_cases r:x∈brs S<;>simp [g,r]
section
variable {F:PH} {v:Γ} {d:vE}
theorem li (hd:DV F v d):ν 106 #[nL v] F λr R=>r=U (chk d)/\F.le R:=by
 have a0:=hd;obtain ⟨s,rfl,hr⟩:=hd;have a2:=hr.blen;refine qeR ?_;unfold PS;intro b1 b9;refine tR ?_;have Q:=ae (Y #[s.v,U d.2] 33) b9;have N:=aq F b1 (Y #[s.v,U d.2] 33);generalize F.set b1 (Y #[s.v,U d.2] 33)=G at*;refine ⟨s,by rw [av N];rfl,λb2=> ?_,λb2=> ?_⟩
 ·refine ⟨?_,Q⟩;unfold chk;rw [Χ (by omega)]
 have d0:d.1.length<=4096:=by omega
 intro a9 K;refine tR ?_;refine ⟨s,by rw [av (ae _ K _ _ N)];rfl,?_⟩;have fin:∀{R:PH},G.le R->¬iS d->(U 20=U (chk d)/\F.le R):=λ{R} hl hn=>by refine ⟨?_,Q.trans hl⟩;unfold chk;rw [Υ (by omega),Υ hn]
 refine ⟨λm i R=>∃(k:Nat) (S:List Tr),i=k/\k<=d.1.length/\m=d.1.length - k/\Cl S/\S.length=k/\brs S=d.1.take k/\G.le R/\∃o,R a9=V o/\dX B6 (Y4 S) o,d.1.length,
  ⟨0,[],rfl,by omega,rfl,.nil,rfl,rfl,ae _ K,_,aq _ _ _,dX.empty B6⟩,?_⟩
 rintro m i F1 ⟨k,S,rfl,hk,rfl,J,b0,O,g,o,hm,a5⟩;unfold EF;refine ⟨λc5=> ?_,λc8=> ?_⟩
 ·have a1:k<d.1.length:=by omega
  obtain ⟨a,ha,a4,_⟩:=VQ (hr.le (Q.trans g)) (N5 a1);have C:¬zH S d.1[k]->¬iS d:=λhn hv=>hn (kC hv J b0 a1 O);have A:=cq J (b:=d.1[k]);have c4:=Ek J (b:=d.1[k]);refine ⟨a,ha,by omega,c5,aW d.1[k],rfl,by simpa using a4,?_⟩;generalize hB:d.1[k]=B at*;intro b5 c6;refine tR ?_;refine Ud (aq _ _ _) rfl rfl (iC _) ?_;rw [aR];have l5:=ae (Y (aW B) 201) c6;have h5:=aq F1 b5 (Y (aW B) 201);have hm:=l5 _ _ hm;have g:=g.trans l5;generalize F1.set b5 (Y (aW B) 201)=F2 at*;have c0:F2.cell ⟨b5,0,I⟩=V (U B.v):=by rw [av h5];rfl
  have c1:F2.cell ⟨b5,1,I⟩=V (U B.l):=by rw [av h5];rfl
  have c2:F2.cell ⟨b5,2,I⟩=V (U B.h):=by rw [av h5];rfl
  refine ⟨_,c0,λh=>fin g (C λD=> ?_),λg1=> ?_⟩
  ·have:=(A D).1;omega
  refine ⟨_,c0,λh=>fin g (C λD=> ?_),λg2=> ?_⟩
  ·have:=(A D).2.1;omega
  refine ⟨_,c1,λh=>fin g (C λD=> ?_),λg3=> ?_⟩
  ·have:=(A D).2.2.1;omega
  refine ⟨_,c2,λh=>fin g (C λD=> ?_),λg4=> ?_⟩
  ·have:=(A D).2.2.2.1;omega
  have M:i64.wrap ((k:Int)+1)=((k+1:Nat):Int):=ff (by omega);rw [M];refine ⟨_,c1,λh=>fin g (C λD=> ?_),λg5=> ?_⟩
  ·have:=(A D).2.2.2.2.1;omega
  refine ⟨_,c2,λh=>fin g (C λD=> ?_),λg6=> ?_⟩
  ·have:=(A D).2.2.2.2.2.1;omega
  refine ⟨_,c1,_,c2,λh=>fin g (C λD=> ?_),λg7=> ?_⟩
  ·exact (A D).2.2.2.2.2.2.1 h
  have L:=bM (F:=F2) Z4 hm a5 B mz;refine ⟨aW B,rfl,ai h5,decide (B∈brs S),?_,λh=>fin g (C λD=> ?_),λg8=> ?_⟩
  ·unfold Y4 at L;by_cases hx:B∈brs S
   ·rw [Χ hx] at L;simpa [hx] using L
   ·rw [Υ hx] at L;simpa [hx] using L
  ·exact (A D).2.2.2.2.2.2.2.1 (by simpa using h)
  have c3:B ∉ brs S:=by simpa using g8
  have P:brs S<+:d.1:=by rw [O];exact List.take_prefix _ _
  have il:inn S (tr S B.l.toNat):=gE (by omega);have ih:inn S (tr S B.h.toNat):=gE (by omega);have nl:=fV J (n:=B.l.toNat) (by omega);have nh:=fV J (n:=B.h.toNat) (by omega);have el:U B.l=U (num S (tr S B.l.toNat)):=by rw [nl];congr 1;omega
  have eh:U B.h=U (num S (tr S B.h.toNat)):=by rw [nh];congr 1;omega
  refine ⟨_,rfl,ai (g _ _ N),_,c1,_,c0,?_⟩;rw [el];refine (eK (a0.le (Q.trans g)) P il (by omega)).mono ?_;rintro _ F3 ⟨rfl,E⟩;refine ⟨_,rfl,aK E c0,λh=>fin (g.trans E) (C λD=> ?_),λg9=> ?_⟩
  ·have:=(A D).2.2.2.2.2.2.2.2.1;omega
  refine ⟨_,rfl,ai ((g.trans E) _ _ N),_,aK E c2,_,aK E c0,?_⟩;rw [eh];refine (eK (a0.le (Q.trans (g.trans E))) P ih (by omega)).mono ?_;rintro _ F4 ⟨rfl,l4⟩;refine ⟨_,rfl,aK l4 (aK E c0),aK l4 (aK E c0),λh=>fin ((g.trans E).trans l4) (C λD=> ?_),λc9=> ?_⟩
  ·have:=(A D).2.2.2.2.2.2.2.2.2;omega
  have hF:=c4 (by omega) (by omega) (by omega) (by omega) (by omega) (by omega) g7 c3 (by omega) (by omega);refine ⟨aW B,rfl,ai (l4 _ _ (E _ _ h5)),?_⟩;refine bh Z4 (l4 _ _ (E _ _ hm)) a5 B _ λo' a7=> ?_;obtain ⟨v,l,h,e,hl,hh,W,hn⟩:=hF;have e2:brs (S++[qa7 v l h])=brs S++[B]:=by rw [eB J hl hh,e]
  rw [<- JW e2] at a7;have b3:G a9=I:=K;refine ⟨d.1.length - (k+1),by omega,k+1,S++[qa7 v l h],rfl,by omega,rfl,.snoc J hl hh W hn,by simp [b0],?_,aB ((g.trans E).trans l4) b3,o',aq _ _ _,a7⟩;rw [e2,O,W4 a1,hB]
 ·unfold EE;have c7:k=d.1.length:=by omega
  have a6:brs S=d.1:=by rw [O,c7,wy]
  have cr:F1.cell ⟨b1,1,I⟩=V (U d.2):=by rw [av (g _ _ N)];rfl
  have cs:F1.cell ⟨b1,0,I⟩=V s.v:=by rw [av (g _ _ N)];rfl
  have key:∀t,t.ok->d=pg t->S=aU t/\d.2=num S t:=λt X e=>by subst e;have:=qL J (bv X) a6;exact ⟨this,by rw [this];rfl⟩
  have H:iS d->0<=d.2/\d.2<=(d.1.length:Int)+1:=by
   rintro ⟨t,X,e⟩;obtain ⟨N,h2⟩:=key t X e;have h3:inn S t:=by rw [N];exact bH X
   have:=dQ h3;omega
  refine ⟨_,cr,λh=>fin g (λhv=>by have:=(H hv).1;omega),λg1=> ?_⟩;have M:i64.wrap ((s.len:Int)+1)=((d.1.length+1:Nat):Int):=by rw [a2];exact ff (by omega)
  refine ⟨_,cr,s,cs,?_⟩;dsimp only;rw [M];refine ⟨λh=>fin g (λhv=>by have:=(H hv).2;omega),λg2=> ?_⟩;refine ⟨s,cs,?_⟩;intro b4 a8;refine tR ?_;have a3:=ae (Y #[s.v,Value.map I] 248) a8;have b8:=aq F1 b4 (Y #[s.v,Value.map I] 248);have g:=g.trans a3;generalize F1.set b4 (Y #[s.v,Value.map I] 248)=F2 at*;refine ⟨_,aK a3 cr,?_⟩;have it:inn S (tr S d.2.toNat):=gE (by omega);have nt:=fV J (n:=d.2.toNat) (by omega);have et:U d.2=U (num S (tr S d.2.toNat)):=by rw [nt];congr 1;omega
  dsimp only;rw [et];refine (mJ (by rw [av b8];rfl) (by rw [a6];exact hr.le (Q.trans g)) J it (by omega)).mono ?_;rintro _ F3 ⟨w,rfl,M,E⟩;refine ⟨_,rfl,?_⟩;intro b6 b7;refine tR ?_;refine Ud (aq _ _ _) M.size rfl M.st ?_;rw [aR];have l6:=ae (Y w 33) b7;have h6:=aq F3 b6 (Y w 33);have g:=(g.trans E).trans l6;have M:=M.le l6;generalize F3.set b6 (Y w 33)=F4 at*;refine ⟨w,M.size,ai h6,_,rfl,ai (g _ _ N),?_⟩;have W:=J.inn_ok it
  refine (nX M (a0.le (Q.trans g)) (by
   have:=M5 J it;simp only [pg,aO]
   omega)).mono ?_
  rintro _ F5 ⟨rfl,l5⟩;refine ⟨_,rfl,λh=>fin (g.trans l5) ?_,λh=> ?_⟩
  ·rintro ⟨t,X,e⟩;obtain ⟨k1,k2⟩:=key t X e;have:tr S d.2.toNat=t:=by rw [k2,N4];exact ow J (by rw [k1];exact bH X)
   rw [this,<- e] at h;simp at h
  ·refine ⟨?_,Q.trans (g.trans l5)⟩;have:pg (tr S d.2.toNat)=d:=by simpa using h
   unfold chk;rw [Υ (by omega),Χ ⟨_,W,this.symm⟩]
end
theorem JX:aF prog 212=mY:=by kernel_rfl
theorem BD.weaken {F0 r F:PH} {b m:Nat} {S:List Tr} (h:BD r F b m S) (g:F0.le r):BD F0 F b m S:=by obtain ⟨E,B,A,H,⟨s,D,J,w⟩,C⟩:=h;exact ⟨g.trans E,B,aT g A,aT g H,⟨s,D,J,λa G=>aT g (w a G)⟩,C⟩
theorem BD.upto {F0 F G:PH} {b m:Nat} {S:List Tr} (h:BD F0 F b m S) (g:F.le G):BD F0 G b m S:=by obtain ⟨E,B,w,J,⟨s,D,H,r⟩,o,C,A⟩:=h;exact ⟨E.trans g,B,w,J,⟨s,g _ _ D,H.upto g,r⟩,o,g _ _ C,A⟩
theorem BD.grow {F0 G F:PH} {b m x:Nat} {o:Obj} {S:List Tr} (h:BD F0 G b m S) (A:G.le F) (B:G x=I) (P:F x=V o):BD (F0.set x o) F b m S:=by
 obtain ⟨Q,K,R,L,⟨s,C,H,J⟩,N,D,O⟩:=h;refine ⟨λy W w=> ?_,K,?_,?_,⟨s,A _ _ C,H.upto A,λa E=> ?_⟩,N,A _ _ D,O⟩
 ·by_cases g:y=x
  ·subst g;rw [aq] at w;rw [P];exact w
  ·rw [aw _ _ g] at w;exact A _ _ (Q _ _ w)
 ·rw [aw _ _ (aH B C)];exact R
 ·rw [aw _ _ (aH B D)];exact L
 ·obtain ⟨M,r⟩:=H.elem E;rw [aw _ _ (aH B r)];exact J a E
theorem BD.other {F0 F:PH} {b m x:Nat} {o:Obj} {S:List Tr} (h:BD F0 F b m S) (G:F0 x=I) (K:b≠x) (D:m≠x) (J:∀c e fr,F x≠V (Y c e fr)):BD F0 (F.set x o) b m S:=by obtain ⟨M,C,A,P,⟨s,H,r,w⟩,L,E,B⟩:=h;refine ⟨aB M G,C,A,P,⟨s,by rw [aw _ _ K];exact H,r.keep λa N=>aw _ _ (λe=> ?_),w⟩,L,by rw [aw _ _ D];exact E,B⟩;obtain ⟨O,g⟩:=r.elem N;rw [e] at g;exact J _ _ _ g
structure AP where
 b3:Nat
 b6:Nat
 b2:Nat
 b7:Nat
 b5:Nat
 bb:Nat
 mm:Nat
 b9:Nat
 opv:ξ
 o:Wq
 dd:Nat->vE
 SS:Nat->List Tr
def AP.key (p:AP) (t:Nat->Tr):Int×Int×Int:=((num (p.SS 0) (t 0):Int),(num (p.SS 1) (t 1):Int),(num (p.SS 2) (t 2):Int))
def AP.res (p:AP) (t:Nat->Tr):Tr:=ap p.o (t 0) (t 1) (t 2)
def AP.inK (p:AP) (t:Nat->Tr):Prop:=inn (p.SS 0) (t 0)/\inn (p.SS 1) (t 1)/\inn (p.SS 2) (t 2)
def AP.caps (p:AP):Γ:= #[ph (V ⟨p.b3,0,I⟩),ph (V ⟨p.b6,0,I⟩),ph (V ⟨p.b2,0,I⟩),ph (V ⟨p.b7,0,I⟩),ph (V ⟨p.b5,0,I⟩)]
def OpV (F0:PH) (v:ξ) (o:Wq):Prop:=∃(k:Nat) (fst cap:Γ),v=.func (.func k) fst cap/\aF prog k=mY/\
 ∀(x y z:Bool) (F:PH),F0.le F->aj prog k (fst++[nS x,nS y,nS z].toArray++cap) F λr F'=>r=nS (o x y z)/\F.le F'
theorem OpV.le {F0 G:PH} {v:ξ} {o:Wq} (h:OpV F0 v o) (A:F0.le G):OpV G v o:=by obtain ⟨k,f,c,r,g,w⟩:=h;exact ⟨k,f,c,r,g,λx y z F hF=>w x y z F (A.trans hF)⟩
structure AF (p:AP):Prop where
 cl:∀i,i<3->Cl (p.SS i)
 pre:∀i,i<3->brs (p.SS i)<+:(p.dd i).1
 fit:∀i,i<3->x7 ((p.dd i).1.length+2)
structure AE (F0:PH) (p:AP):Prop where
 c3:F0.cell ⟨p.b3,0,I⟩=V p.opv
 c6:F0.cell ⟨p.b6,0,I⟩=V (.map (V p.b9))
 c2:∀i,i<3->∃w,F0.row ⟨p.b2,i*2,I⟩ w/\DV F0 w (p.dd i)
 c7:F0.cell ⟨p.b7,0,I⟩=V (.func (.func 212) #[] p.caps)
 c5:F0.cell ⟨p.b5,0,I⟩=V (ph (V ⟨p.bb,0,I⟩))
 op:OpV F0 p.opv p.o
theorem aN {F G:PH} (h:F.le G) {a:Addr} {cs:Γ} (g:F.row a cs):G.row a cs:=λi hi=>aK h (g i hi)
theorem AE.le {F0 G:PH} {p:AP} (h:AE F0 p) (g:F0.le G):AE G p:=
 ⟨aK g h.c3,aK g h.c6,λi hi=>by
  obtain ⟨w,r,A⟩:=h.c2 i hi
  exact ⟨w,aN g r,A.le g⟩,aK g h.c7,aK g h.c5,h.op.le g⟩
def Sv (p:AP) (S:List Tr) (m3:Int×Int×Int->Option ξ):Prop:=∀k v,m3 k=V v->∃t,p.inK t/\k=p.key t/\inn S (p.res t)/\v=U (num S (p.res t))
structure AS (F0 F:PH) (p:AP) (S:List Tr):Prop where
 bd:BD F0 F p.bb p.mm S
 n9:F0 p.b9=I
 ne:p.mm≠p.b9
 memo:∃o m3,F p.b9=V o/\dX M1 m3 o/\Sv p S m3
theorem AS.upto {F0 F G:PH} {p:AP} {S:List Tr} (h:AS F0 F p S) (g:F.le G):AS F0 G p S:=by obtain ⟨B,r,C,o,A,D,w⟩:=h;exact ⟨B.upto g,r,C,o,A,g _ _ D,w⟩
theorem AS.weaken {F0 r F:PH} {p:AP} {S:List Tr} (h:AS r F p S) (g:F0.le r):AS F0 F p S:=by obtain ⟨A,w,B,C⟩:=h;exact ⟨A.weaken g,aT g w,B,C⟩
theorem AS.grow {F0 G F:PH} {p:AP} {S:List Tr} {x:Nat} {o:Obj} (h:AS F0 G p S) (r:G.le F) (w:G x=I) (B:F x=V o):AS (F0.set x o) F p S:=by obtain ⟨E,A,J,H,D,g,C⟩:=h;exact ⟨E.grow r w B,by rw [aw _ _ (aH w g)];exact A,J,H,D,r _ _ g,C⟩
theorem qp {p:AP} {t u:Nat->Tr} (g:p.inK t) (r:p.inK u) (h:p.key t=p.key u):p.res t=p.res u:=by unfold AP.key at h;simp only [Yq] at h;obtain ⟨A,w,B⟩:=h;unfold AP.res;rw [cN g.1 r.1 (by omega),cN g.2.1 r.2.1 (by omega),cN g.2.2 r.2.2 (by omega)]
theorem zJ (t:Tr) (S:List Tr):S.length<=(tY t S).length:=by
 induction t generalizing S with
 |qa6 b=>exact qX _
 |qa7 v l h r g=>
  unfold tY;split
  ·exact qX _
  ·have A:=r S;have w:=g (tY l S);simp only [tT];omega
theorem El (S:List Tr) (t:Tr):S.length<=(eY S t).length:=by unfold eY;split<;>simp
def Vg (t:Nat->Tr):Nat:=(t 0).sz+(t 1).sz+(t 2).sz
def JY (p:AP) (t:Nat->Tr):Prop:=∀(F0 F:PH) (S:List Tr),AE F0 p->AS F0 F p S->x7 ((tY (p.res t) S).length+4)->
 aj prog 212 (#[nL (dz (p.key t))]++p.caps) F λr F'=>r=U (num (tY (p.res t) S) (p.res t))/\AS F0 F' p (tY (p.res t) S)
structure aan (p:AP) (t:Nat->Tr) (v:Nat):Prop where
 hv:v=aX (t 0) (t 1) (t 2)
 lt:v<64
 il:p.inK (λi=>lo v (t i))
 ih:p.inK (λi=>hi v (t i))
 sl:Vg (λi=>lo v (t i))<Vg t
 sh:Vg (λi=>hi v (t i))<Vg t
 tl:v<(p.res (λi=>lo v (t i))).top
 th:v<(p.res (λi=>hi v (t i))).top
 ol:(p.res (λi=>lo v (t i))).ok
 oh:(p.res (λi=>hi v (t i))).ok
 res:p.res t=mk v (p.res (λi=>lo v (t i))) (p.res (λi=>hi v (t i)))
theorem WH {p:AP} (r:AF p) {t:Nat->Tr} (h:p.inK t) (w:aX (t 0) (t 1) (t 2)<64):aan p t (aX (t 0) (t 1) (t 2)):=by
 have G:=(r.cl 0 (by omega)).inn_ok h.1;have h1:=(r.cl 1 (by omega)).inn_ok h.2.1;have B:=(r.cl 2 (by omega)).inn_ok h.2.2;have hs:=xS (o:=p.o) G h1 B w;have v1:aX (t 0) (t 1) (t 2)<=(t 0).top:=by unfold aX;omega
 have v2:aX (t 0) (t 1) (t 2)<=(t 1).top:=by unfold aX;omega
 have v3:aX (t 0) (t 1) (t 2)<=(t 2).top:=by unfold aX;omega
 have g:aX (t 0) (t 1) (t 2)=(t 0).top\/aX (t 0) (t 1) (t 2)=(t 1).top\/aX (t 0) (t 1) (t 2)=(t 2).top:=by unfold aX;omega
 generalize hw:aX (t 0) (t 1) (t 2)=v at*;have A:∀{t:Tr},v=t.top->t.isL=mz:=λ{t} e=>by
  cases t with
  |qa6 b=>simp only [top] at e;omega
  |qa7 _ _ _=>rfl
 obtain ⟨F,C,b0,W,b3⟩:=cx G v1;obtain ⟨N,P,b1,X,a8⟩:=cx h1 v2;obtain ⟨L,R,b2,E,a4⟩:=cx B v3;obtain ⟨a0,D,a6,a1,a9⟩:=cy G v1;obtain ⟨O,K,a7,M,a2⟩:=cy h1 v2;obtain ⟨J,H,a5,Q,a3⟩:=cy B v3;obtain ⟨l1,l2,l3⟩:=fg (o:=p.o) F N L;obtain ⟨g1,g2,g3⟩:=fg (o:=p.o) a0 O J
 refine ⟨hw.symm,w,⟨(r.cl 0 (by omega)).inn_lo h.1 v,(r.cl 1 (by omega)).inn_lo h.2.1 v,(r.cl 2 (by omega)).inn_lo h.2.2 v⟩,
  ⟨(r.cl 0 (by omega)).inn_hi h.1 v,(r.cl 1 (by omega)).inn_hi h.2.1 v,(r.cl 2 (by omega)).inn_hi h.2.2 v⟩,?_,?_,?_,?_,l1,g1,hs⟩
 ·simp only [Vg];rcases g with e|e|e
  ·have:=W e.symm (A e);omega
  ·have:=X e.symm (A e);omega
  ·have:=E e.symm (A e);omega
 ·simp only [Vg];rcases g with e|e|e
  ·have:=a1 e.symm (A e);omega
  ·have:=M e.symm (A e);omega
  ·have:=Q e.symm (A e);omega
 ·have:=C w;have:=P w;have:=R w;unfold aX at l2;show v<(ap p.o (lo v (t 0)) (lo v (t 1)) (lo v (t 2))).top;omega
 ·have:=D w;have:=K w;have:=H w;unfold aX at g2;show v<(ap p.o (hi v (t 0)) (hi v (t 1)) (hi v (t 2))).top;omega
theorem dC {S:List Tr} {t:Tr}:((num S t:Int)<2)↔t.isL=mY:=by
 constructor
 ·intro h;exact qK (S:=S) (by omega)
 ·intro h;cases t with
  |qa6 b=>have:=cK S b;omega
  |qa7 _ _ _=>cases h
section
variable {p:AP} {t:Nat->Tr} {F0 F:PH} {S:List Tr} {n6:Nat}
theorem M6 (L:AE F0 p) (X:AS F0 F p S) (Q:F0 n6=V (Y (dz (p.key t)) 313)) (P:(t 0).isL=mY) (h1:(t 1).isL=mY) (M:(t 2).isL=mY) {R:ξ->Ψ}
  (O:∀G,F.le G->R (U (num S (p.res t))) G):
  gj (V ⟨p.b3,0,I⟩) (V ⟨p.b6,0,I⟩) (V ⟨p.b2,0,I⟩) (V ⟨p.b7,0,I⟩) (V ⟨p.b5,0,I⟩) n6 mY R F:=by
 unfold gj;obtain ⟨k,fst,cap,H,K,J⟩:=L.op;have r:=X.bd.le;have w:=r _ _ Q;refine ⟨λ_=> ?_,λhc=>by cases hc⟩;refine ⟨_,rfl,_,aK r L.c3,by omega,by omega,_,by simp only [aI];rw [av w];rfl,by omega,by omega,_,by simp only [aI];rw [av w];rfl,by omega,by omega,_,by simp only [aI];rw [av w];rfl,k,fst,cap,H,K,?_⟩;generalize A:t 0=W at*;generalize E:t 1=x1 at*;generalize C:t 2=N at*;cases W with
 |qa7 _ _ _=>cases P
 |qa6 a=>
  cases x1 with
  |qa7 _ _ _=>cases h1
  |qa6 b=>
   cases N with
   |qa7 _ _ _=>cases M
   |qa6 c=>
    have e:∀(S:List Tr) (x:Bool),decide ((num S (qa6 x):Int)=1)=x:=λS x=>by cases x<;>simp [num]
    simp only [AP.key,A,E,C,e];refine (J a b c F r).mono ?_;rintro _ G ⟨rfl,D⟩;have B:p.res t=qa6 (p.o a b c):=by unfold AP.res;rw [A,E,C];exact nr _ _ _ _
    have g:=O G D;rw [B] at g;refine ⟨_,rfl,λh=> ?_,λh=> ?_⟩
    ·rw [h] at g;exact g
    ·rw [h] at g;exact g
theorem M7 (W:AF p) (Q:p.inK t) (ih:∀u,p.inK u->Vg u<Vg t->JY p u) (he:AE F0 p) (hs:AS F0 F p S) (h6:F0 n6=V (Y (dz (p.key t)) 313))
  (i1:x7 ((tY (p.res t) S).length+4)) (hn:¬((t 0).isL=mY/\(t 1).isL=mY/\(t 2).isL=mY)) {R:ξ->Ψ}
  (hR:∀F',AS F0 F' p (tY (p.res t) S)->R (U (num (tY (p.res t) S) (p.res t))) F'):
  gj (V ⟨p.b3,0,I⟩) (V ⟨p.b6,0,I⟩) (V ⟨p.b2,0,I⟩) (V ⟨p.b7,0,I⟩) (V ⟨p.b5,0,I⟩) n6 mz R F:=by
 have hv:aX (t 0) (t 1) (t 2)<64:=by
  have k0:=λJ=>tI ((W.cl 0 (by omega)).inn_ok Q.1) J;have k1:=λJ=>tI ((W.cl 1 (by omega)).inn_ok Q.2.1) J;have k2:=λJ=>tI ((W.cl 2 (by omega)).inn_ok Q.2.2) J;unfold aX;cases e0:(t 0).isL with
  |false=>have:=k0 e0;omega
  |true=>
   cases e1:(t 1).isL with
   |false=>have:=k1 e1;omega
   |true=>
    cases e2:(t 2).isL with
    |false=>have:=k2 e2;omega
    |true=>exact absurd ⟨e0,e1,e2⟩ hn
 have D:=WH W Q hv;unfold gj;have r:=hs.bd.le;have b0:=r _ _ h6;obtain ⟨om,m3,hm,g8,g7⟩:=hs.memo;refine ⟨λhc=>(by cases hc),λ_=> ?_⟩;have a5:=bM (F:=F) Z2 hm g8 (p.key t) mY;refine ⟨_,rfl,_,aK r he.c6,dz (p.key t),rfl,ai b0,?_⟩;cases hmk:m3 (p.key t) with
 |some v=>rw [hmk] at a5;obtain ⟨u,hu,hk,hi,rfl⟩:=g7 _ _ hmk;have e:=qp Q hu hk;rw [<- e] at hi a5;have f6:=gu hi;refine ⟨_,_,a5,λ_=> ?_,λhc=>by cases hc⟩;have:=hR F (by rw [f6];exact hs);rw [f6] at this;exact this
 |none=>
  rw [hmk] at a5;refine ⟨_,_,a5,λhc=>(by cases hc),λ_=> ?_⟩;obtain ⟨w0,r0,d0⟩:=he.c2 0 (by omega);obtain ⟨w1,r1,d1⟩:=he.c2 1 (by omega);obtain ⟨w2,r2,d2⟩:=he.c2 2 (by omega);have c6:∀{G:PH},F.le G->G.cell ⟨n6,0,I⟩=V (U (num (p.SS 0) (t 0)))/\G.cell ⟨n6,1,I⟩=V (U (num (p.SS 1) (t 1)))/\G.cell ⟨n6,2,I⟩=V (U (num (p.SS 2) (t 2))):=λ{G} J=>by rw [av (J _ _ b0),av (J _ _ b0),av (J _ _ b0)];exact ⟨rfl,rfl,rfl⟩
  have rr:∀{G:PH},F.le G->G.row (nR ⟨p.b2,0,I⟩ (nT 0*2)) w0/\G.row (nR ⟨p.b2,0,I⟩ (nT 1*2)) w1/\G.row (nR ⟨p.b2,0,I⟩ (nT 2*2)) w2:=λ{G} J=>by simp only [aI];exact ⟨aN (r.trans J) r0,aN (r.trans J) r1,aN (r.trans J) r2⟩
  have cc:∀{G:PH},F.le G->G.cell (nR ⟨n6,0,I⟩ (nT 0*1))=V (U (num (p.SS 0) (t 0)))/\G.cell (nR ⟨n6,0,I⟩ (nT 1*1))=V (U (num (p.SS 1) (t 1)))/\G.cell (nR ⟨n6,0,I⟩ (nT 2*1))=V (U (num (p.SS 2) (t 2))):=λ{G} J=>by simp only [aI];exact c6 J
  have P:F.le F:=PH.le_rfl;refine ⟨_,rfl,by omega,by omega,w0,d0.size,(rr P).1,by omega,by omega,_,(cc P).1,by omega,by omega,w1,d1.size,(rr P).2.1,by omega,by omega,_,(cc P).2.1,by omega,by omega,w2,d2.size,(rr P).2.2,by omega,by omega,_,(cc P).2.2,?_⟩;refine (eK (d0.le r) (W.pre 0 (by omega)) Q.1 (W.fit 0 (by omega))).mono ?_;rintro _ G1 ⟨rfl,l1⟩;refine ⟨_,rfl,(cc l1).2.2,(rr l1).2.2,(cc l1).2.1,(rr l1).2.1,?_⟩;refine (eK (d1.le (r.trans l1)) (W.pre 1 (by omega)) Q.2.1 (W.fit 1 (by omega))).mono ?_;rintro _ G2 ⟨rfl,l2⟩;have l2:=l1.trans l2;refine ⟨_,rfl,(cc l2).2.2,(rr l2).2.2,?_⟩;refine (eK (d2.le (r.trans l2)) (W.pre 2 (by omega)) Q.2.2 (W.fit 2 (by omega))).mono ?_;rintro _ G ⟨rfl,l3⟩;have l3:=l2.trans l3;refine ⟨_,rfl,?_⟩;have b1:(min (min ((t 0).top:Int) ((t 1).top:Int)) ((t 2).top:Int))=((aX (t 0) (t 1) (t 2):Nat):Int):=by unfold aX;omega
  generalize aX (t 0) (t 1) (t 2)=v at*;intro g C;refine tR ?_;intro B N;refine tR ?_;have O:g≠B:=aH N (aq _ _ _);have e4:G B=I:=by rw [aw _ _ O.symm] at N;exact N
  let A (k:Nat) (f:Nat->Nat):Γ:= #[if 0<k then U (f 0) else U 0,if 1<k then U (f 1) else U 0,if 2<k then U (f 2) else U 0]
  let fl:Nat->Nat:=λi=>num (p.SS i) (lo v (t i))
  let fh:Nat->Nat:=λi=>num (p.SS i) (hi v (t i))
  have hA:∀k f,k<3->(A k f).setIfInBounds k (U (f k))=A (k+1) f:=by
   intro k f hk
   match k,hk with
   |0,_=>simp [A]
   |1,_=>simp [A]
   |2,_=>simp [A]
  refine ⟨λm i F'=>∃k:Nat,i=k/\k<=3/\m=3 - k/\G.le F'/\F' g=V (Y (A k fl) 313)/\F' B=V (Y (A k fh) 313),3,
   ⟨0,rfl,by omega,rfl,(ae _ C).trans (ae _ N),by rw [aw _ _ O,aq];rfl,by rw [aq];rfl⟩,?_⟩
  rintro m i F1 ⟨k,rfl,hk,rfl,hG,c8,d4⟩;unfold EJ;rw [b1];refine ⟨λi2=> ?_,λg3=> ?_⟩
  ·have H:k<3:=by omega
   obtain ⟨w,g6,dw⟩:=he.c2 k H;have a0:F.le F1:=l3.trans hG;have g4:inn (p.SS k) (t k):=by
    match k,H with
    |0,_=>exact Q.1
    |1,_=>exact Q.2.1
    |2,_=>exact Q.2.2
   have hc:F1.cell (nR ⟨n6,0,I⟩ (nT (k:Int)*1))=V (U (num (p.SS k) (t k))):=by
    match k,H with
    |0,_=>exact (cc a0).1
    |1,_=>exact (cc a0).2.1
    |2,_=>exact (cc a0).2.2
   refine ⟨by omega,by omega,w,dw.size,by simpa using aN (r.trans a0) g6,by omega,by omega,_,hc,?_⟩;refine (Cp (dw.le (r.trans a0)) (W.pre k H) g4 (W.fit k H) D.lt).mono ?_;rintro _ F2 ⟨rfl,l4⟩;refine ⟨_,_,rfl,by omega,by omega,?_⟩;refine tG (b:=g) (o:=k) (by simp) (l4 _ _ c8) (by simp [A];omega) ?_;rw [hA k fl H];refine ⟨by omega,by omega,?_⟩;refine tG (b:=B) (o:=k) (by simp) (by rw [aw _ _ O.symm];exact l4 _ _ d4) (by simp [A];omega) ?_;rw [hA k fh H];refine ⟨3 - (k+1),by omega,k+1,ff (by omega),by omega,rfl,aB (aB (hG.trans l4) C) e4,?_,aq _ _ _⟩;rw [aw _ _ O,aq]
  ·obtain rfl:k=3:=by omega
   have g5:A 3 fl=dz (p.key λi=>lo v (t i)):=rfl;have h2:A 3 fh=dz (p.key λi=>hi v (t i)):=rfl;rw [g5] at c8;rw [h2] at d4;clear hA g3 hk
   clear_value A fl fh
   unfold EI;rw [b1];have h0:=(hs.upto l3).grow (F:=G.set g (Y (dz (p.key λi=>lo v (t i))) 313)) (ae _ C) C (aq _ _ _);have lx:(G.set g (Y (dz (p.key λi=>lo v (t i))) 313)).le F1:=λx ob hx=>by
    by_cases a7:x=g
    ·subst a7;rw [aq] at hx;rw [c8];exact hx
    ·rw [aw _ _ a7] at hx;exact hG _ _ hx
   have e3:=h0.grow lx (by rw [aw _ _ O.symm];exact e4) d4;have i0:F0 g=I:=aT (r.trans l3) C;have h7:F0 B=I:=aT (r.trans l3) e4;have l0:F0.le ((F0.set g (Y (dz (p.key λi=>lo v (t i))) 313)).set B (Y (dz (p.key λi=>hi v (t i))) 313)):=aB (aB PH.le_rfl i0) h7;have h3:((F0.set g (Y (dz (p.key λi=>lo v (t i))) 313)).set B (Y (dz (p.key λi=>hi v (t i))) 313)) g=V (Y (dz (p.key λi=>lo v (t i))) 313):=by rw [aw _ _ O,aq]
   have g9:((F0.set g (Y (dz (p.key λi=>lo v (t i))) 313)).set B (Y (dz (p.key λi=>hi v (t i))) 313)) B=V (Y (dz (p.key λi=>hi v (t i))) 313):=aq _ _ _;generalize ((F0.set g (Y (dz (p.key λi=>lo v (t i))) 313)).set B (Y (dz (p.key λi=>hi v (t i))) 313))=E0 at*;have K:=he.le l0;have c9:=hs.bd.cl;obtain ⟨a1,a2,X,a3,a4⟩:=bk (p.res λi=>lo v (t i)) S D.ol c9;obtain ⟨c1,c2,z0,c3,c4⟩:=bk (p.res λi=>hi v (t i)) (tY (p.res λi=>lo v (t i)) S) D.oh a1;have E:=sQ c9 (v:=v) (l:=p.res λi=>lo v (t i)) (h:=p.res λi=>hi v (t i)) ⟨D.lt,D.tl,D.th,D.ol,D.oh⟩;rw [<- D.res] at E;have g1:=zJ (p.res λi=>hi v (t i)) (tY (p.res λi=>lo v (t i)) S);have g2:=El (tY (p.res λi=>hi v (t i)) (tY (p.res λi=>lo v (t i)) S)) (p.res t);rw [E] at g2;refine ⟨_,rfl,_,aK e3.bd.le K.c7,dz (p.key λi=>lo v (t i)),rfl,ai (e3.bd.le _ _ h3),_,_,_,rfl,JX,?_⟩;refine (ih _ D.il D.sl E0 F1 S K e3 (by omega)).mono ?_;rintro _ F2 ⟨rfl,a9⟩;refine ⟨_,rfl,_,rfl,_,aK a9.bd.le K.c5,_,aK a9.bd.le K.c7,dz (p.key λi=>hi v (t i)),rfl,ai (a9.bd.le _ _ g9),_,_,_,rfl,JX,?_⟩;refine (ih _ D.ih D.sh E0 F2 _ K a9 (by omega)).mono ?_;rintro _ F3 ⟨rfl,e7⟩;refine ⟨_,rfl,aK e7.bd.le K.c5,?_⟩;obtain ⟨f4,e5,b8,o9,m9,d3,M,f1⟩:=e7;have h8:num (tY (p.res λi=>lo v (t i)) S) (p.res λi=>lo v (t i))=num (tY (p.res λi=>hi v (t i)) (tY (p.res λi=>lo v (t i)) S)) (p.res λi=>lo v (t i)):=by rw [c3,bN a2]
   rw [h8];have h9:inn (tY (p.res λi=>hi v (t i)) (tY (p.res λi=>lo v (t i)) S)) (p.res λi=>lo v (t i)):=by rw [c3];exact bY a2
   have e6:p.bb≠p.b9:=λe=>by obtain ⟨_,_,_,_,⟨s,h5,_⟩,_⟩:=f4;obtain ⟨es,c,L,rfl,_⟩:=M;rw [e,d3] at h5;cases h5
   have f5:BD (E0.set p.b9 o9) F3 p.bb p.mm (tY (p.res λi=>hi v (t i)) (tY (p.res λi=>lo v (t i)) S)):=by
    obtain ⟨k1,k2,k3,k4,⟨s,k5,k6,k7⟩,k8⟩:=f4;refine ⟨λx ob hx=> ?_,k2,by rw [aw _ _ e6];exact k3,by rw [aw _ _ b8];exact k4,⟨s,k5,k6,λa ha=> ?_⟩,k8⟩
    ·by_cases a7:x=p.b9
     ·subst a7;rw [aq] at hx;rw [d3];exact hx
     ·rw [aw _ _ a7] at hx;exact k1 _ _ hx
    ·rw [aw _ _ (λe=> ?_)]
     ·exact k7 a ha
     ·obtain ⟨i3,b4⟩:=k6.elem ha;obtain ⟨es,c,L,rfl,_⟩:=M;rw [e,d3] at b4;cases b4
   refine (qii f5 h9 c2 ⟨D.lt,D.tl,D.th⟩ (by omega)).mono ?_;rintro _ F4 ⟨rfl,a8⟩;rw [<- D.res,E] at a8 ⊢;have f9:F4 p.b9=V o9:=a8.le _ _ (aq _ _ _);have h4:F4 n6=V (Y (dz (p.key t)) 313):=by
    have e9:n6≠p.b9:=λe=>by rw [e,hs.n9] at h6;cases h6
    exact a8.le _ _ (by rw [aw _ _ e9];exact l0 _ _ h6)
   have f3:BD E0 F4 p.bb p.mm (tY (p.res t) S):=a8.weaken (aB PH.le_rfl e5);refine ⟨_,rfl,_,aK f3.le K.c6,dz (p.key t),rfl,ai h4,?_⟩;refine bh Z2 f9 M (p.key t) _ λo' h1=> ?_;refine hR _ ?_;refine AS.weaken ?_ l0;have f7:inn (tY (p.res t) S) (p.res t):=by
    have e8:(p.res t).ok:=by rw [D.res];exact Fz D.lt D.tl D.th D.ol D.oh
    exact (bk _ S e8 c9).2.1
   refine ⟨f3.other e5 e6 b8 (λc e fr h=> ?_),e5,b8,o',_,aq _ _ _,h1,?_⟩
   ·obtain ⟨es,c,L,rfl,_⟩:=M;rw [f9] at h;cases h
   ·intro k w a6;dsimp only at a6;by_cases hk:k=p.key t
    ·rw [Χ hk] at a6;exact ⟨t,Q,hk,f7,(yC a6).symm⟩
    ·rw [Υ hk] at a6;obtain ⟨u,u1,u2,u3,u4⟩:=f1 k w a6;refine ⟨u,u1,u2,?_,?_⟩
     ·rw [<- E];unfold eY;split
      ·exact u3
      ·exact bY u3
     ·rw [u4,<- E];unfold eY;split
      ·rfl
      ·rw [bN u3]
theorem M8 (hf:AF p):∀(n:Nat) (t:Nat->Tr),Vg t<=n->p.inK t->JY p t:=by
 intro n;induction n with
 |zero=>intro t W;have:=lu (t 0);unfold Vg at W;omega
 |succ n ih=>
  intro t W ht F0 F S he R C;show ν 212 #[nL (dz (p.key t)),_,_,_,_,_] F _;refine qe6 ?_;unfold Qf;intro n6 w;refine tR ?_;have K:=R.bd.le;have f6:F0 n6=I:=aT K w;have g:=R.grow (F:=F.set n6 (Y (dz (p.key t)) 313)) (ae _ w) w (aq _ _ _);have J:F0.le (F0.set n6 (Y (dz (p.key t)) 313)):=ae _ f6;have D:=he.le J;have M:=aq F0 n6 (Y (dz (p.key t)) 313);generalize F0.set n6 (Y (dz (p.key t)) 313)=E0 at*;generalize F.set n6 (Y (dz (p.key t)) 313)=F1 at*;have A:=g.bd.le _ _ M;have rest:¬((t 0).isL=mY/\(t 1).isL=mY/\(t 2).isL=mY)->gj (V ⟨p.b3,0,I⟩) (V ⟨p.b6,0,I⟩) (V ⟨p.b2,0,I⟩) (V ⟨p.b7,0,I⟩) (V ⟨p.b5,0,I⟩) n6 mz
    (λr N=>r=U (num (tY (p.res t) S) (p.res t))/\AS F0 N p (tY (p.res t) S)) F1:=λL=>
   M7 hf ht (λu hu a0=>ih u (by omega) hu) D g M C L λN h=>⟨rfl,h.weaken J⟩
  refine ⟨by omega,by omega,_,by simp only [aI];rw [av A];rfl,λH=> ?_,λH=> ?_⟩
  ·refine ⟨by omega,by omega,_,by simp only [aI];rw [av A];rfl,λO=> ?_,λO=> ?_⟩
   ·refine ⟨by omega,by omega,_,by simp only [aI];rw [av A];rfl,?_⟩;have Q:=dC.1 H;have P:=dC.1 O;by_cases B:(t 2).isL=mY
    ·have e:decide ((p.key t).2.2<2)=mY:=decide_eq_true (dC.2 B);dsimp only;rw [e];have hl:(p.res t).isL=mY:=by
      unfold AP.res;generalize t 0=x0 at*;generalize t 1=x1 at*;generalize t 2=X at*;cases x0 with
      |qa7 _ _ _=>cases Q
      |qa6 a=>
       cases x1 with
       |qa7 _ _ _=>cases P
       |qa6 b=>
        cases X with
        |qa7 _ _ _=>cases B
        |qa6 c=>rw [nr];rfl
     have G:tY (p.res t) S=S:=gu (.inl hl);rw [G];exact M6 D g M Q P B λN h=>⟨rfl,(g.upto h).weaken J⟩
    ·have e:decide ((p.key t).2.2<2)=mz:=decide_eq_false (λh=>B (dC.1 h));dsimp only;rw [e];exact rest λE=>B E.2.2
   ·exact rest λE=>O (dC.2 E.2.1)
  ·exact rest λE=>H (dC.2 E.1)
end
def uH (t:Tr):List Tr:=qa6 mz::qa6 mY::aU t
theorem nZ {t x:Tr} (h:inn (aU t) x):x∈uH t:=by
 unfold uH;cases x with
 |qa6 b=>cases b<;>simp
 |qa7 v l r=>simp [cC h rfl]
def Y2 (o:Wq) (a b d:Tr):List Tr:=(uH a).flatMap λx=>(uH b).flatMap λy=>(uH d).map λz=>ap o x y z
theorem B9 (o:Wq) (a b d:Tr):(Y2 o a b d).length=((aU a).length+2)*(((aU b).length+2)*((aU d).length+2)):=by unfold Y2;simp only [List.length_flatMap,ub,List.map_const',List.sum_replicate_nat];simp [uH]
theorem Sw {o:Wq} {a b d:Tr} (ha:a.ok) (hb:b.ok) (hd:d.ok):∀(n:Nat) (x y z:Tr) (S:List Tr),x.sz+y.sz+z.sz<=n->inn (aU a) x->inn (aU b) y->inn (aU d) z->Cl S->
  ∀u∈tY (ap o x y z) S,u∈S\/u∈Y2 o a b d:=by
 intro n;induction n with
 |zero=>intro x y z S hn;have:=lu x;omega
 |succ n ih=>
  intro x y z S hn J G H W u g;have F:=(bv ha).inn_ok J;have L:=(bv hb).inn_ok G;have K:=(bv hd).inn_ok H;have E:ap o x y z∈Y2 o a b d:=XV.2 ⟨x,nZ J,XV.2 ⟨y,nZ G,w9.2 ⟨z,nZ H,rfl⟩⟩⟩;by_cases A:aX x y z<64
  ·have a9:=xS (o:=o) F L K A;have v1:aX x y z<=x.top:=by unfold aX;omega
   have v2:aX x y z<=y.top:=by unfold aX;omega
   have v3:aX x y z<=z.top:=by unfold aX;omega
   have w:aX x y z=x.top\/aX x y z=y.top\/aX x y z=z.top:=by unfold aX;omega
   generalize aX x y z=v at*;have D:∀{t:Tr},v=t.top->t.isL=mz:=λ{t} e=>by
    cases t with
    |qa6 b=>simp only [top] at e;omega
    |qa7 _ _ _=>rfl
   obtain ⟨X,O,c7,b1,d0⟩:=cx F v1;obtain ⟨a6,b0,c8,b4,c5⟩:=cx L v2;obtain ⟨a4,b3,c9,R,b9⟩:=cx K v3;obtain ⟨b5,Q,c3,b6,c6⟩:=cy F v1;obtain ⟨a7,a3,c4,a5,b7⟩:=cy L v2;obtain ⟨a2,a1,c2,b2,b8⟩:=cy K v3;have a0:(lo v x).sz+(lo v y).sz+(lo v z).sz<=n:=by
    rcases w with e|e|e
    ·have:=b1 e.symm (D e);omega
    ·have:=b4 e.symm (D e);omega
    ·have:=R e.symm (D e);omega
   have M:(hi v x).sz+(hi v y).sz+(hi v z).sz<=n:=by
    rcases w with e|e|e
    ·have:=b6 e.symm (D e);omega
    ·have:=a5 e.symm (D e);omega
    ·have:=b2 e.symm (D e);omega
   obtain ⟨l1,l2,l3⟩:=fg (o:=o) X a6 a4;obtain ⟨g1,g2,g3⟩:=fg (o:=o) b5 a7 a2;have P:v<(ap o (lo v x) (lo v y) (lo v z)).top:=by have:=O A;have:=b0 A;have:=b3 A;unfold aX at l2;omega
   have a8:v<(ap o (hi v x) (hi v y) (hi v z)).top:=by have:=Q A;have:=a3 A;have:=a1 A;unfold aX at g2;omega
   have B:=sQ W (v:=v) ⟨A,P,a8,l1,g1⟩;rw [<- a9] at B;rw [<- B] at g;have c1:=(bk _ S l1 W).1;have key:u∈tY (ap o (hi v x) (hi v y) (hi v z)) (tY (ap o (lo v x) (lo v y) (lo v z)) S)->u∈S\/u∈Y2 o a b d:=λg=>by
    rcases ih _ _ _ _ M ((bv ha).inn_hi J v) ((bv hb).inn_hi G v) ((bv hd).inn_hi H v) c1 u g with h|h
    ·exact ih _ _ _ _ a0 ((bv ha).inn_lo J v) ((bv hb).inn_lo G v) ((bv hd).inn_lo H v) W u h
    ·exact .inr h
   unfold eY at g;split at g
   ·exact key g
   ·rcases vd.1 g with g|g
    ·exact key g
    ·rw [vy.1 g];exact .inr E
  ·have C:∀{t:Tr},t.ok->64<=t.top->∃b,t=qa6 b:=λ{t} ht N=>gr ht N;unfold aX at A;obtain ⟨p,rfl⟩:=C F (by omega);obtain ⟨q,rfl⟩:=C L (by omega);obtain ⟨r,rfl⟩:=C K (by omega);rw [nr] at g;exact .inl g
theorem Gz {o:Wq} {a b d:Tr} (r:a.ok) (g:b.ok) (hd:d.ok):(aU (ap o a b d)).length<=((aU a).length+2)*(((aU b).length+2)*((aU d).length+2)):=by
 rw [<- B9 o a b d];refine cW _ _ (bv (LA r g hd)).nodup λx w=> ?_;rcases Sw r g hd _ a b d [] (qX _) (bH r) (bH g) (bH hd) .nil x w with h|h
 ·cases h
 ·exact h
def mK {α:Type} (a b c:α):Nat->α
 |0=>a
 |1=>b
 |_=>c
theorem fW {F:PH} {b w:Nat} {r:Γ} {K:Γ->Ψ} {G:PH} {d:vE} {cs:Γ} (hd:DV G cs d) (B:F b=V (Y r w (0,0))) (h:r.size=2) (A:K cs (F.set b (Y cs w))):
  cs.size=2/\(∀v∈cs.toList,ak v)/\∃c e,F (ou b 0 I).block=V (Y c e (0,0))/\(ou b 0 I).spot=I/\(ou b 0 I).off+2<=c.size/\
   xG (F.set (ou b 0 I).block (Y (wr c (ou b 0 I).off cs.toList) e)) λF=>∃g:Γ,g.size=2/\F.row (ou b 0 I) g/\K g F:=
 Ud B hd.size h hd.st ⟨cs,hd.size,ai (aq _ _ _),A⟩
theorem OpV.cells {F:PH} {v:ξ} {o:Wq} (h:OpV F v o):v.cells= #[v]:=by obtain ⟨k,f,c,rfl,_⟩:=h;rfl
def dD (F:PH) (a:Nat):PH:=λx=>if x=a then I else F x
theorem Em (F:PH) (a:Nat):(dD F a).le F:=λx o h=>by
 unfold dD at h;split at h
 ·cases h
 ·exact h
theorem eQ {F:PH} {a x:Nat} (h:x≠a):dD F a x=F x:=by simp [dD,h]
theorem Cb (F:PH) (a:Nat):dD F a a=I:=by simp [dD]
theorem d7 {F G:PH} {a:Nat} (h:F.le G) (r:F a=I):F.le (dD G a):=λx o g=>by
 have w:x≠a:=λe=>by rw [e,r] at g;cases g
 rw [eQ w];exact h _ _ g
theorem aj.avoid {P:Program} {f:FuncId} {args:Γ} {F:PH} {x:Nat} {o:Obj} {R:ξ->Ψ} (h:aj P f args (dD F x) R) (C:F x=V o):
  aj P f args F λv g=>∃G,R v G/\G.le g/\g x=V o/\G x=I:=
 (h.upon (Em F x)).mono λv g ⟨G,w,D,A⟩=>by obtain ⟨B,r⟩:=A x o (Cb F x) C;exact ⟨G,w,D,B,r⟩
theorem gT {F G r:PH} {x:Nat} {o:Obj} (h:(dD F x).le G) (B:G.le r) (A:r x=V o) (hF:F x=V o):F.le r:=λb C w=>by
 by_cases g:b=x
 ·subst g;rw [hF] at w;rw [A];exact w
 ·exact B _ _ (h _ _ (by rw [eQ g];exact w))
section
variable {F:PH} {s0 s1 s2:Sl} {t0 t1 t2:Tr} {opv:ξ} {o:Wq}
theorem qhX (h0:RdS F s0 3 (aV (pg t0).1)) (h1:RdS F s1 3 (aV (pg t1).1)) (h2:RdS F s2 3 (aV (pg t2).1)) (k0:t0.ok) (k1:t1.ok) (k2:t2.ok)
  (f0:x7 ((aU t0).length+2)) (f1:x7 ((aU t1).length+2)) (f2:x7 ((aU t2).length+2)) (hf:x7 ((aU (ap o t0 t1 t2)).length+4)) (c2:OpV F opv o):
  ν 185 #[nL #[s0.v,U (pg t0).2,s1.v,U (pg t1).2,s2.v,U (pg t2).2],opv] F λr F'=>∃w,r=nL w/\DV F' w (pg (ap o t0 t1 t2))/\F.le F':=by
 refine qe3 ?_;unfold Qc;intro b2 c6;refine tR ?_;have l2:=ae (Y #[s0.v,U (pg t0).2,s1.v,U (pg t1).2,s2.v,U (pg t2).2] 282) c6;have q2:=aq F b2 (Y #[s0.v,U (pg t0).2,s1.v,U (pg t1).2,s2.v,U (pg t2).2] 282);generalize F.set b2 (Y #[s0.v,U (pg t0).2,s1.v,U (pg t1).2,s2.v,U (pg t2).2] 282)=F2 at*;refine ⟨c2.cells,λb3 d2=> ?_⟩;refine tR ?_;have O:=ae (Y #[opv] 283) d2;have q3:=aq F2 b3 (Y #[opv] 283);have q2:=O _ _ q2;have l3:=l2.trans O;clear O;generalize F2.set b3 (Y #[opv] 283)=F3 at*;intro b4 b1;refine tR ?_;have f4:F b4=I:=aT l3 b1;have O:=ae (Y zD 33) b1;have q4:=aq F3 b4 (Y zD 33);have q2:=O _ _ q2;have q3:=O _ _ q3;have l4:=l3.trans O;clear O;generalize F3.set b4 (Y zD 33)=F4 at*;refine (qhj F4).mono ?_;rintro _ G ⟨B,mm,rfl,e3,bd⟩;refine ⟨_,rfl,?_⟩;intro J a3;refine tR ?_;refine Wp (aq _ _ _) (by simp) ?_;rw [aR,show (#[ph I].setIfInBounds (ou J 0 I).off (ph (V ⟨B,0,I⟩)):Γ)= #[ph (V ⟨B,0,I⟩)] from rfl];have g5:F4 J=I:=aT bd.le a3;have X:=bd.grow (F:=G.set J (Y #[ph (V ⟨B,0,I⟩)] 245)) (ae _ a3) a3 (aq _ _ _);have e5:=aq F4 J (Y #[ph (V ⟨B,0,I⟩)] 245);have l5:=ae (Y #[ph (V ⟨B,0,I⟩)] 245) g5;generalize F4.set J (Y #[ph (V ⟨B,0,I⟩)] 245)=N at*;generalize G.set J (Y #[ph (V ⟨B,0,I⟩)] 245)=G5 at*;intro g a0;refine tR ?_;have a9:=X.upto (ae (.map #[] 0) a0);have g9:N g=I:=aT X.le a0;have c9:=dX.empty M1;have e9:=aq G5 g (.map #[] 0);have c8:mm≠g:=by obtain ⟨om,c4,_⟩:=X.map;exact aH a0 c4
 generalize G5.set g (.map #[] 0)=G9 at*;intro A R;refine tR ?_;refine Wp (aq _ _ _) (by simp) ?_;rw [aR,show (#[Value.map I].setIfInBounds (ou A 0 I).off (Value.map (V g)):Γ)= #[Value.map (V g)] from rfl];intro H a2;refine tR ?_;refine Wp (aq _ _ _) (by simp) ?_;rw [aR]
 let p:AP:=⟨b3,A,b2,H,J,B,mm,g,opv,o,mK (pg t0) (pg t1) (pg t2),mK (aU t0) (aU t1) (aU t2)⟩
 have d4:AS N G9 p []:=⟨a9,g9,c8,_,_,e9,c9,λk v e1=>by cases e1⟩;have a7:=d4.grow (F:=G9.set A (Y #[Value.map (V g)] 311)) (ae _ R) R (aq _ _ _);have L:=a7.grow (F:=(G9.set A (Y #[Value.map (V g)] 311)).set H (Y #[.func (.func 212) #[] p.caps] 312)) (ae _ a2) a2 (aq _ _ _);have g6:N A=I:=aT a9.le R;have g7:(N.set A (Y #[Value.map (V g)] 311)) H=I:=aT a7.bd.le a2;have l6:=ae (Y #[Value.map (V g)] 311) g6;have l7:=ae (Y #[.func (.func 212) #[] p.caps] 312) g7;have e6:=l7 _ _ (aq N A (Y #[Value.map (V g)] 311));have e7:=aq (N.set A (Y #[Value.map (V g)] 311)) H (Y #[.func (.func 212) #[] p.caps] 312);have lE:F4.le ((N.set A (Y #[Value.map (V g)] 311)).set H (Y #[.func (.func 212) #[] p.caps] 312)):=l5.trans (l6.trans l7);have e5:=(l6.trans l7) _ _ e5;rw [show (#[Value.nilFunc].setIfInBounds 0 (Value.func (.func 212) #[] #[ph (V ⟨b3,0,I⟩),ph (V ⟨A,0,I⟩),ph (V ⟨b2,0,I⟩),ph (V ⟨H,0,I⟩),ph (V ⟨J,0,I⟩)]):Γ)= #[.func (.func 212) #[] p.caps] from rfl];generalize (N.set A (Y #[Value.map (V g)] 311)).set H (Y #[.func (.func 212) #[] p.caps] 312)=E7 at*;generalize (G9.set A (Y #[Value.map (V g)] 311)).set H (Y #[.func (.func 212) #[] p.caps] 312)=G7 at*;have lF:=l4.trans lE;have he:AE E7 p:=by
  refine ⟨?_,?_,λi hi=> ?_,?_,?_,c2.le lF⟩
  ·show E7.cell ⟨b3,0,I⟩=V opv;rw [av (lE _ _ q3)];rfl
  ·show E7.cell ⟨A,0,I⟩=V _;rw [av e6];rfl
  ·have row:∀(j:Nat) (s:Sl) (r:Int),(#[s0.v,U (pg t0).2,s1.v,U (pg t1).2,s2.v,U (pg t2).2]:Γ)[j]? =V s.v->(#[s0.v,U (pg t0).2,s1.v,U (pg t1).2,s2.v,U (pg t2).2]:Γ)[j+1]? =V (U r)->
     E7.row ⟨b2,j,I⟩ #[s.v,U r]:=λj s r h1 h2 i hi=>by
    simp only [aI];rw [av (lE _ _ q2)]
    match i,hi with
    |0,_=>simpa using h1
    |1,_=>simpa using h2
   match i,hi with
   |0,_=>exact ⟨_,row 0 s0 _ rfl rfl,s0,rfl,h0.le lF⟩
   |1,_=>exact ⟨_,row 2 s1 _ rfl rfl,s1,rfl,h1.le lF⟩
   |2,_=>exact ⟨_,row 4 s2 _ rfl rfl,s2,rfl,h2.le lF⟩
  ·show E7.cell ⟨H,0,I⟩=V _;rw [av e7];rfl
  ·show E7.cell ⟨J,0,I⟩=V _;rw [av e5];rfl
 have c3:AF p:=by
  refine ⟨λi hi=> ?_,λi hi=> ?_,λi hi=> ?_⟩
  ·match i,hi with
   |0,_=>exact bv k0
   |1,_=>exact bv k1
   |2,_=>exact bv k2
  ·match i,hi with
   |0,_=>exact YL _
   |1,_=>exact YL _
   |2,_=>exact YL _
  ·match i,hi with
   |0,_=>show x7 ((brs (aU t0)).length+2);rw [aO];exact f0
   |1,_=>show x7 ((brs (aU t1)).length+2);rw [aO];exact f1
   |2,_=>show x7 ((brs (aU t2)).length+2);rw [aO];exact f2
 have a1:=L.bd.le _ _ (lE _ _ q2)
 refine ⟨_,aK L.bd.le he.c5,_,aK L.bd.le he.c7,by omega,by omega,(pg t0).2,by simp only [aI];rw [av a1];rfl,by omega,by omega,(pg t1).2,by simp only [aI];rw [av a1];rfl,
  by omega,by omega,(pg t2).2,by simp only [aI];rw [av a1];rfl,_,_,_,rfl,JX,?_⟩
 have P:p.res (mK t0 t1 t2)=ap o t0 t1 t2:=rfl;have b8:=M8 c3 _ (mK t0 t1 t2) (qX _) ⟨bH k0,bH k1,bH k2⟩ E7 G7 [] he L (by rw [P];exact hf);rw [P] at b8;refine b8.mono ?_;rintro _ F5 ⟨rfl,D⟩;have h:=D.bd.le _ _ (lE _ _ q2);refine ⟨_,rfl,by simp only [aI];rw [av h];rfl,by simp only [aI];rw [av h];rfl,by simp only [aI];rw [av h];rfl,aK D.bd.le he.c5,?_⟩;have e0:=LA (o:=o) k0 k1 k2;obtain ⟨_,d0,_,_,⟨sb,C,a5,_⟩,_⟩:=D.bd;have M:=D.bd.le;clear D;have ev:tY (ap o t0 t1 t2) []=aU (ap o t0 t1 t2):=rfl;rw [ev] at*;have E:=M _ _ (lE _ _ q4);replace C:F5 B=V (Y #[sb.v,Value.map (V mm)] 248):=C;have d1:B≠b4:=λe=>by rw [e,E] at C;simp at C
 have a6:bP (dD F5 b4) 201 3 sb (aV (brs (aU (ap o t0 t1 t2)))):=a5.keep λa ha=>by obtain ⟨e4,Q⟩:=a5.elem ha;refine eQ (λe=> ?_);rw [e,E] at Q;cases Q
 refine (aj.avoid (mJ (b:=B) (F:=dD F5 b4) (ns:=sb) (by rw [av ((eQ d1).trans C)];rfl) a6.rd d0 (bH e0) hf) E).mono ?_;rintro _ F6 ⟨G6,⟨w,rfl,hw,e2⟩,lg,a8,d3⟩;have a4:=gT e2 lg a8 E;have W:=a4 _ _ h;refine ⟨_,rfl,by simp only [aI];rw [av W];rfl,by simp only [aI];rw [av W];rfl,by simp only [aI];rw [av W];rfl,?_⟩;exact fW (K:=λb0 F'=>∃w,nL b0=nL w/\DV F' w (pg (ap o t0 t1 t2))/\F.le F') hw a8 rfl ⟨w,rfl,hw.le (aB lg d3),aB (lF.trans (M.trans a4)) f4⟩
end
abbrev oM:vE:=([],0)
abbrev DR:=vE×Int
def mL:List vE->Int
 |[]=>0
 |d::r=>if chk d≠0 then chk d else mL r
open Classical in
def uc (d:vE):Tr:=if h:iS d then h.choose else qa6 mz
theorem mM {t:Tr} (h:t.ok):uc (pg t)=t:=by have g:iS (pg t):=⟨t,h,rfl⟩;unfold uc;rw [dif_pos g];exact (xT h g.choose_spec.1 g.choose_spec.2).symm
theorem M9 {d:vE} (h:chk d=0):(uc d).ok/\d=pg (uc d)/\d.1.length<=4096:=by
 unfold chk at h;split at h
 ·cases h
 ·rename_i r;split at h
  ·rename_i g;unfold uc;rw [dif_pos g];exact ⟨g.choose_spec.1,g.choose_spec.2,by omega⟩
  ·cases h
theorem Eo {t:Tr} (h:t.ok) (g:(aU t).length<=4096):chk (pg t)=0:=by unfold chk;rw [Υ (by simp only [pg,aO];omega),Χ ⟨t,h,rfl⟩]
theorem sR {d:vE} (h:chk d=0):(aU (uc d)).length<=4096:=by obtain ⟨_,r,g⟩:=M9 h;rw [r] at g;simpa [pg,aO] using g
def Xe (d:vE):DR:=if 4096<d.1.length then (oM,2) else (d,0)
abbrev VY:=Bool->Bool->Bool
def Xo (o:VY) (a b:vE):DR:=if mL [a,b]≠0 then (oM,mL [a,b]) else Xe (pg (ap (λx y _=>o x y) (uc a) (uc b) (qa6 mz)))
def DRV (F:PH) (v:ξ) (x:DR):Prop:=∃w,v=pk #[nL w,U x.2]/\DV F w x.1
theorem DRV.le {F G:PH} {v:ξ} {x:DR} (h:DRV F v x) (A:F.le G):DRV G v x:=by obtain ⟨w,g,r⟩:=h;exact ⟨w,g,r.le A⟩
theorem DV.none (F:PH):DV F zD oM:=⟨pi,rfl,RdS.nil F 3⟩
theorem qij {F:PH} {x:Nat} {dd:List vE} {n:Nat} (N:n=dd.length) (W:n<=100) (h:∀i (hi:i<dd.length),∃w,F.row ⟨x,i*2,I⟩ w/\DV F w dd[i]):
  ν 183 #[(Sl.mk (V ⟨x,0,I⟩) n n).v] F λr J=>r=U (mL dd)/\F.le J:=by
 subst N;refine qe1 ?_;unfold Qa;refine ⟨λm i J=>∃k:Nat,i=k/\k<=dd.length/\m=dd.length - k/\F.le J/\mL dd=mL (dd.drop k),dd.length,⟨0,rfl,by omega,rfl,PH.le_rfl,rfl⟩,?_⟩;rintro m i R ⟨k,rfl,P,rfl,g,A⟩;unfold EH;refine ⟨λC=> ?_,λG=> ?_⟩
 ·have B:k<dd.length:=by simpa using C
  obtain ⟨w,O,hd⟩:=h k B;refine ⟨_,rfl,by omega,C,w,hd.size,by simpa using aN g O,?_⟩;intro Q E;refine tR ?_;refine Ud (aq _ _ _) hd.size rfl hd.st ?_;rw [aR];have D:=ae (Y w 33) E;refine ⟨w,hd.size,ai (aq _ _ _),?_⟩;refine (li (hd.le (g.trans D))).mono ?_;rintro _ F2 ⟨rfl,L⟩;rw [Xi B] at A;refine ⟨_,rfl,λH=> ?_,λM=> ?_⟩
  ·refine ⟨?_,(g.trans D).trans L⟩;rw [A];unfold mL;rw [Χ H]
  ·refine ⟨dd.length - (k+1),by omega,k+1,ff (by omega),by omega,rfl,(g.trans D).trans L,?_⟩;rw [A]
   conv=>lhs;unfold mL
   rw [Υ M]
 ·unfold EG;have K:k=dd.length:=by
   have:¬k<dd.length:=by simpa using G
   omega
  refine ⟨?_,g⟩;rw [A,K,XW];rfl
theorem qhY {F:PH} {v:Γ} {d:vE} (hd:DV F v d):ν 184 #[nL v] F λr w=>DRV w r (Xe d)/\F.le w:=by
 have B:=hd;obtain ⟨s,rfl,N⟩:=hd;have L:=N.blen;refine qe2 ?_;unfold Qb;intro H E;refine tR ?_;have J:=ae (Y #[s.v,U d.2] 33) E;have G:=aq F H (Y #[s.v,U d.2] 33);generalize F.set H (Y #[s.v,U d.2] 33)=O at*;intro M A;refine tR ?_;have D:=J.trans (ae (Y zD 33) A);have C:H≠M:=aH A G;have f2:F M=I:=aT J A;refine ⟨s,by rw [av ((aw _ _ C).trans G)];rfl,λh=> ?_,λh=> ?_⟩
 ·refine fW (K:=λg w=>DRV w (pk #[nL g,U 2]) (Xe d)/\F.le w) (DV.none F) (aq _ _ _) rfl ⟨?_,aB D f2⟩;unfold Xe;rw [Χ (by omega)];exact ⟨_,rfl,DV.none _⟩
 ·refine ⟨#[s.v,U d.2],rfl,ai ((aw _ _ C).trans G),?_⟩;refine fW (K:=λg w=>DRV w (pk #[nL g,U 0]) (Xe d)/\F.le w) B (aq _ _ _) rfl ⟨?_,aB D f2⟩;unfold Xe;rw [Υ (by omega)];exact ⟨_,rfl,B.le (aB D f2)⟩
def Na (F0:PH) (v:ξ) (o:VY):Prop:=∃(k:Nat) (fst cap:Γ),v=.func (.func k) fst cap/\aF prog k=mY/\
 ∀(x y:Bool) (F:PH),F0.le F->aj prog k (fst++[nS x,nS y].toArray++cap) F λr F'=>r=nS (o x y)/\F.le F'
theorem qdS:aF prog 186=mY:=by kernel_rfl
theorem Nc {F0:PH} {b:Nat} {v:ξ} {o:VY} (A:F0.cell ⟨b,0,I⟩=V v) (h:Na F0 v o):OpV F0 (.func (.func 186) #[] #[ph (V ⟨b,0,I⟩)]) (λx y _=>o x y):=by refine ⟨186,#[],#[ph (V ⟨b,0,I⟩)],rfl,qdS,λx y z F g=> ?_⟩;obtain ⟨k,fst,cap,rfl,w,r⟩:=h;refine qe4 ?_;unfold Qd;refine ⟨_,rfl,_,aK g A,k,fst,cap,rfl,w,?_⟩;refine (r x y F g).mono ?_;rintro _ C ⟨rfl,B⟩;exact ⟨_,rfl,rfl,B⟩
theorem JZ {a b c:Nat} (h:a<=4096) (g:b<=4096) (r:c<=4096):(a+2)*((b+2)*(c+2))<=68820189192:=by
 calc (a+2)*((b+2)*(c+2))<=4098*(4098*4098):=Yo (by omega) (Yo (by omega) (by omega))
  _<=68820189192:=by decide
theorem qdT {a b:vE} (h:¬mL [a,b]≠0):chk a=0/\chk b=0:=by
 unfold mL at h;split at h
 ·exact absurd (by assumption) h
 ·rename_i r;unfold mL at h;split at h
  ·exact absurd (by assumption) h
  ·rename_i g;omega
section
variable {F:PH} {v w:Γ} {a b:vE} {opv:ξ} {o:VY}
theorem oN (ha:DV F v a) (hb:DV F w b) (R:Na F opv o):ν 148 #[nL v,nL w,opv] F λr L=>DRV L r (Xo o a b)/\F.le L:=by
 have a4:=ha;have a9:=hb;obtain ⟨s,rfl,hr⟩:=ha;obtain ⟨t,rfl,ht⟩:=hb;refine qeY ?_;unfold P0;intro b3 a7;refine tR ?_;have l3:=ae (Y #[s.v,U a.2] 33) a7;have q3:=aq F b3 (Y #[s.v,U a.2] 33);generalize F.set b3 (Y #[s.v,U a.2] 33)=F3 at*;intro b4 a1;refine tR ?_;have g:=ae (Y #[t.v,U b.2] 33) a1;have q4:=aq F3 b4 (Y #[t.v,U b.2] 33);have q3:=g _ _ q3;have l4:=l3.trans g;clear g;generalize F3.set b4 (Y #[t.v,U b.2] 33)=F4 at*;refine ⟨by obtain ⟨k,f,c,rfl,_⟩:=R;rfl,λQ a6=> ?_⟩;refine tR ?_;have g:=ae (Y #[opv] 250) a6;have q5:=aq F4 Q (Y #[opv] 250);have q3:=g _ _ q3;have q4:=g _ _ q4;have l5:=l4.trans g;clear g;generalize F4.set Q (Y #[opv] 250)=F5 at*;intro D B;refine tR ?_;have f6:F D=I:=aT l5 B;have n3:b3≠D:=aH B q3;have n4:b4≠D:=aH B q4;have n5:Q≠D:=aH B q5;have g:=ae (Y zD 33) B;have q6:=aq F5 D (Y zD 33);have q3:=g _ _ q3;have q4:=g _ _ q4;have q5:=g _ _ q5;have l6:=l5.trans g;clear g;generalize F5.set D (Y zD 33)=F6 at*;refine ⟨#[s.v,U a.2],rfl,ai q3,#[t.v,U b.2],rfl,ai q4,rfl,rfl,λC P=> ?_⟩;refine tR ?_;have a8:wr (wr (#[tS I 0 0,U 0,tS I 0 0,U 0]:Γ) 0 (#[s.v,U a.2]:Γ).toList) 2 (#[t.v,U b.2]:Γ).toList= #[s.v,U a.2,t.v,U b.2]:=rfl;rw [a8];have g:=ae (Y #[s.v,U a.2,t.v,U b.2] 33) P;have b0:=aq F6 C (Y #[s.v,U a.2,t.v,U b.2] 33);have q3:=g _ _ q3;have q4:=g _ _ q4;have q5:=g _ _ q5;have q6:=g _ _ q6;have M:=l6.trans g;clear g;generalize F6.set C (Y #[s.v,U a.2,t.v,U b.2] 33)=F7 at*;refine (qij (F:=F7) (x:=C) (dd:=[a,b]) (n:=2) rfl (by omega) (λi hi=> ?_)).mono ?_
 ·have row:∀(j:Nat) (s':Sl) (r:Int),(#[s.v,U a.2,t.v,U b.2]:Γ)[j]? =V s'.v->(#[s.v,U a.2,t.v,U b.2]:Γ)[j+1]? =V (U r)->F7.row ⟨C,j,I⟩ #[s'.v,U r]:=λj s' r h1 h2 i hi=>by
   simp only [aI];rw [av b0]
   match i,hi with
   |0,_=>simpa using h1
   |1,_=>simpa using h2
  match i,hi with
  |0,_=>exact ⟨_,row 0 s _ rfl rfl,a4.le M⟩
  |1,_=>exact ⟨_,row 2 t _ rfl rfl,a9.le M⟩
 rintro _ F8 ⟨rfl,E⟩;have q3:=E _ _ q3;have q4:=E _ _ q4;have q5:=E _ _ q5;have q6:=E _ _ q6;have E:=M.trans E;refine ⟨_,rfl,λh=> ?_,λh=> ?_⟩
 ·refine fW (K:=λA L=>DRV L (pk #[nL A,U (mL [a,b])]) (Xo o a b)/\F.le L) (DV.none F) q6 rfl ⟨?_,aB E f6⟩;unfold Xo;rw [Χ h];exact ⟨_,rfl,DV.none _⟩
 ·obtain ⟨a0,O⟩:=qdT h;obtain ⟨ka,ea,la⟩:=M9 a0;obtain ⟨kb,eb,lb⟩:=M9 O;have sa:=sR a0;have sb:=sR O;have b2:=Gz (o:=λx y _=>o x y) ka kb (d:=qa6 mz) trivial;have b8:=JZ sa sb (c:=(aU (qa6 mz)).length) (by simp [aU,tY]);refine ⟨#[s.v,U a.2],rfl,ai q3,#[t.v,U b.2],rfl,ai q4,rfl,rfl,rfl,?_⟩;have W:Xo o a b=Xe (pg (ap (λx y _=>o x y) (uc a) (uc b) (qa6 mz))):=by unfold Xo;rw [Υ h]
  rw [W];have ld:F.le (dD F8 D):=d7 E f6;have hc:=qhX (F:=dD F8 D) (s0:=s) (s1:=t) (s2:=pi) (t0:=uc a) (t1:=uc b) (t2:=qa6 mz) (opv:=.func (.func 186) #[] #[ph (V ⟨Q,0,I⟩)]) (o:=λx y _=>o x y)
   (by rw [<- ea];exact hr.le ld) (by rw [<- eb];exact ht.le ld) (RdS.nil _ _) ka kb trivial (by omega) (by omega) (by simp [aU,tY]) (by omega)
   (Nc (b:=Q) (v:=opv) (by rw [av ((eQ n5).trans q5)];rfl) (by
    obtain ⟨k,f,c,h1,h2,h3⟩:=R
    exact ⟨k,f,c,h1,h2,λx y G hG=>h3 x y G (ld.trans hG)⟩))
  rw [<- ea,<- eb] at hc;refine (aj.avoid hc q6).mono ?_;rintro _ F9 ⟨G,⟨w,rfl,hw,lg⟩,lG,N,g6⟩;have l9:=gT lg lG N q6;refine ⟨_,rfl,?_⟩;have a2:DV (dD F9 D) w (pg (ap (λx y _=>o x y) (uc a) (uc b) (qa6 mz))):=hw.le (λx ob hx=>by rw [eQ (λe=>by rw [e,g6] at hx;cases hx)];exact lG _ _ hx);refine (aj.avoid (qhY a2) N).mono ?_;rintro _ b7 ⟨G',⟨⟨w',rfl,J⟩,b1⟩,X,H,a3⟩;have a5:=gT b1 X H N;refine ⟨_,_,rfl,?_⟩;exact fW (K:=λA L=>DRV L (pk #[nL A,U _]) (Xe (pg (ap (λx y _=>o x y) (uc a) (uc b) (qa6 mz))))/\F.le L) J H rfl ⟨⟨_,rfl,J.le (aB X a3)⟩,aB (E.trans (l9.trans a5)) f6⟩
end
theorem DV.beside {F G:PH} {x:Nat} {w:Γ} {d:vE} (h:DV G w d) (A:G.le F) (r:G x=I):DV (dD F x) w d:=
 h.le λy B g=>by rw [eQ (λe=>by rw [e,r] at g;cases g)];exact A _ _ g
theorem Cc {f:FuncId} {args:Γ} {F:PH} {x:Nat} {o:Obj} {y:DR} (h:aj prog f args (dD F x) λr A=>DRV A r y/\(dD F x).le A) (C:F x=V o):
  aj prog f args F λr A=>∃w,r=pk #[nL w,U y.2]/\(∃G,DV G w y.1/\G.le A/\G x=I)/\F.le A/\A x=V o:=
 (aj.avoid h C).mono λ_ _ ⟨G,⟨⟨w,E,D⟩,H⟩,B,q,g⟩=>⟨w,E,⟨G,D,B,g⟩,gT H B q C,q⟩
theorem iT {f:FuncId} {args:Γ} {F:PH} {x:Nat} {o:Obj} {d:vE} (h:aj prog f args (dD F x) λr A=>∃w,r=nL w/\DV A w d/\(dD F x).le A) (C:F x=V o):
  aj prog f args F λr A=>∃w,r=nL w/\(∃G,DV G w d/\G.le A/\G x=I)/\F.le A/\A x=V o:=
 (aj.avoid h C).mono λ_ _ ⟨G,⟨w,E,D,H⟩,B,q,g⟩=>⟨w,E,⟨G,D,B,g⟩,gT H B q C,q⟩
theorem Px {F G F0:PH} {b H:Nat} {r:Γ} {y:DR} {w:Γ} (A:DV G w y.1) (D:G.le F) (L:G b=I) (J:F b=V (Y r H (0,0))) (h:r.size=2) (C:F0.le F) (E:F0 b=I):
  w.size=2/\(∀v∈w.toList,ak v)/\∃c e,F (ou b 0 I).block=V (Y c e (0,0))/\(ou b 0 I).spot=I/\(ou b 0 I).off+2<=c.size/\
   xG (F.set (ou b 0 I).block (Y (wr c (ou b 0 I).off w.toList) e)) λF=>∃g:Γ,g.size=2/\F.row (ou b 0 I) g/\DRV F (pk #[nL g,U y.2]) y/\F0.le F:=
 fW (K:=λg B=>DRV B (pk #[nL g,U y.2]) y/\F0.le B) A J h ⟨⟨_,rfl,A.le (aB D L)⟩,aB C E⟩
theorem SA {F F0:PH} {b D:Nat} {w:Γ} {h:Int} (E:F b=V (Y w D (0,0))) (r:w.size=2) (B:F0.le F) (C:F0 b=I):
  (zD:Γ).size=2/\(∀v∈(zD:Γ).toList,ak v)/\∃c e,F (ou b 0 I).block=V (Y c e (0,0))/\(ou b 0 I).spot=I/\(ou b 0 I).off+2<=c.size/\
   xG (F.set (ou b 0 I).block (Y (wr c (ou b 0 I).off (zD:Γ).toList) e)) λF=>∃g:Γ,g.size=2/\F.row (ou b 0 I) g/\DRV F (pk #[nL g,U h]) (oM,h)/\F0.le F:=
 fW (K:=λg A=>DRV A (pk #[nL g,U h]) (oM,h)/\F0.le A) (DV.none F) E r ⟨⟨_,rfl,DV.none _⟩,aB B C⟩
abbrev bW:VY:=λx y=>x && y
abbrev zS:VY:=λx y=>x || y
abbrev lj:VY:=λx y=> !(x==y)
theorem qdU:aF prog 149=mY:=by kernel_rfl
theorem qdV:aF prog 152=mY:=by kernel_rfl
theorem aao (F0:PH):Na F0 (.func (.func 149) #[] #[]) bW:=⟨149,#[],#[],rfl,qdU,λx y F _=>by
 refine qeZ ?_;unfold P5
 exact ⟨λh=>⟨by simp [h],PH.le_rfl⟩,λh=>⟨by simp [h],PH.le_rfl⟩⟩⟩
theorem aap (F0:PH):Na F0 (.func (.func 152) #[] #[]) zS:=⟨152,#[],#[],rfl,qdV,λx y F _=>by
 refine qe0 ?_;unfold P6
 exact ⟨λh=>⟨by simp [h],PH.le_rfl⟩,λh=>⟨by simp [h],PH.le_rfl⟩⟩⟩
section
variable {F:PH} {v w u:Γ} {a b c:vE}
theorem J0 (K:DV F v a) (L:DV F w b):ν 109 #[nL v,nL w] F λr N=>DRV N r (Xo bW a b)/\F.le N:=by refine qeS ?_;unfold PT;intro O A;refine tR ?_;have R:=ae (Y v 33) A;have q2:=aq F O (Y v 33);generalize F.set O (Y v 33)=F2 at*;intro D B;refine tR ?_;have g:=ae (Y w 33) B;have q3:=aq F2 D (Y w 33);have q2:=g _ _ q2;have M:=R.trans g;clear g;generalize F2.set D (Y w 33)=J at*;intro C h;refine tR ?_;have H:F C=I:=aT M h;have g:=ae (Y zD 33) h;have q4:=aq J C (Y zD 33);have q2:=g _ _ q2;have q3:=g _ _ q3;have E:=M.trans g;clear g;generalize J.set C (Y zD 33)=F4 at*;refine ⟨v,K.size,ai q2,w,L.size,ai q3,?_⟩;have ld:=d7 E H;refine (Cc (oN (K.le ld) (L.le ld) (aao _)) q4).mono ?_;rintro _ F5 ⟨z,rfl,⟨G,W,X,Q⟩,P,q5⟩;exact ⟨_,_,rfl,Px W X Q q5 rfl (E.trans P) H⟩
theorem Nf (K:DV F v a) (L:DV F w b):ν 113 #[nL v,nL w] F λr N=>DRV N r (Xo zS a b)/\F.le N:=by refine qeU ?_;unfold PV;intro O A;refine tR ?_;have R:=ae (Y v 33) A;have q2:=aq F O (Y v 33);generalize F.set O (Y v 33)=F2 at*;intro D B;refine tR ?_;have g:=ae (Y w 33) B;have q3:=aq F2 D (Y w 33);have q2:=g _ _ q2;have M:=R.trans g;clear g;generalize F2.set D (Y w 33)=J at*;intro C h;refine tR ?_;have H:F C=I:=aT M h;have g:=ae (Y zD 33) h;have q4:=aq J C (Y zD 33);have q2:=g _ _ q2;have q3:=g _ _ q3;have E:=M.trans g;clear g;generalize J.set C (Y zD 33)=F4 at*;refine ⟨v,K.size,ai q2,w,L.size,ai q3,?_⟩;have ld:=d7 E H;refine (Cc (oN (K.le ld) (L.le ld) (aap _)) q4).mono ?_;rintro _ F5 ⟨z,rfl,⟨G,W,X,Q⟩,P,q5⟩;exact ⟨_,_,rfl,Px W X Q q5 rfl (E.trans P) H⟩
abbrev tv (v:Nat):Tr:=qa7 v (qa6 mz) (qa6 mY)
theorem SC (v:Nat):pg (tv v)=([⟨(v:Int),0,1⟩],2):=by
 have e:aU (tv v)=[tv v]:=by simp [aU,tY,tv]
 unfold pg;rw [e];simp [brs,br,num,tv]
theorem qdW {v:Nat} (h:v<64):(tv v).ok:=⟨h,h,h,by simp,trivial,trivial⟩
theorem gB (x:Bool):ν 112 #[nS x] F λr A=>∃w,r=nL w/\DV A w (pg (qa6 x))/\F.le A:=by
 refine qeT ?_;unfold PU;intro D B;refine tR ?_;have C:=ae (Y zD 33) B;have q2:=aq F D (Y zD 33);refine ⟨λh=> ?_,λh=> ?_⟩
 ·subst h;have hd:∀G:PH,DV G #[tS I 0 0,U 1] (pg (qa6 mY)):=λG=>⟨pi,rfl,RdS.nil G 3⟩;exact fW (K:=λg A=>∃w,nL g=nL w/\DV A w (pg (qa6 mY))/\F.le A) (hd F) q2 rfl ⟨_,rfl,hd _,aB C B⟩
 ·subst h;have hd:∀G:PH,DV G zD (pg (qa6 mz)):=λG=>⟨pi,rfl,RdS.nil G 3⟩;exact fW (K:=λg A=>∃w,nL g=nL w/\DV A w (pg (qa6 mz))/\F.le A) (hd F) q2 rfl ⟨_,rfl,hd _,aB C B⟩
def t7 (v:Int):DR:=if v<0\/63<v then (oM,1) else (pg (tv v.toNat),0)
end
section
variable {F:PH} {v:Γ} {a:vE}
def wo (c:Int):Cf:=λi=>c.toNat.testBit i
theorem iB {x:Int} (g:0<=x) (h:x<18446744073709551616):u64.wrap x=x:=by unfold IntKind.wrap;simp only [IntKind.bits,IntKind.signed];simp only [W5,VN,if_false];omega
theorem J1 (n v:Nat):Int.fdiv (n:Int) (2 ^ v)=((n / 2 ^ v:Nat):Int):=by
 have g:(2:Int) ^ v=((2 ^ v:Nat):Int):=by simp
 rw [g,YB _ (Int.natCast_nonneg _)];rfl
theorem uI (n:Nat) (h:n<18446744073709551616):(BitVec.ofInt (u64).bits (n:Int)).toNat=n:=by show (BitVec.ofInt 64 (n:Int)).toNat=n;rw [BitVec.toNat_ofInt];omega
theorem mN {c:Int} (w:0<=c) (A:c<18446744073709551616) {v:Nat} (B:v<64):
  (u64.wrap ((BitVec.ofInt (u64).bits (Int.fdiv c (2 ^ (min (nT (v:Int)) (u64).bits))) &&& BitVec.ofInt (u64).bits (1:Int)).toNat))=(1:Int)↔wo c v=mY:=by
 obtain ⟨n,rfl⟩:=Xw w;have r:min (nT (v:Int)) (u64).bits=v:=by simp only [IntKind.bits,N4];omega
 rw [r,J1,BitVec.toNat_and];have h:n / 2 ^ v<=n:=Nat.div_le_self _ _;have g:(BitVec.ofInt (u64).bits (1:Int)).toNat=1:=uI 1 (by omega);rw [uI _ (by omega),g,Nat.and_one_is_mod,iB (by omega) (by omega)];unfold wo;rw [N4,Nat.testBit_eq_decide_div_mod_eq,decide_eq_true_iff];omega
def jk (a:vE) (c:Int):Bool:=open Classical in if chk a≠0 then mz else (uc a).ev (wo c)
theorem sS (X:DV F v a) {c:Int} (R:0<=c) (h1:c<18446744073709551616):ν 76 #[nL v,.int .u64 c] F λr Q=>r=nS (jk a c)/\F.le Q:=by
 have L:=X;obtain ⟨s,rfl,W⟩:=X;refine aav ?_;unfold Xa;intro b2 M;refine tR ?_;have K:=ae (Y #[s.v,U a.2] 33) M;have q2:=aq F b2 (Y #[s.v,U a.2] 33);generalize F.set b2 (Y #[s.v,U a.2] 33)=F2 at*;refine ⟨_,rfl,ai q2,?_⟩;refine (li (L.le K)).mono ?_;rintro _ F3 ⟨rfl,H⟩;refine ⟨_,rfl,λh=> ?_,λh=> ?_⟩
 ·refine ⟨?_,K.trans H⟩;unfold jk;rw [Χ h]
 ·obtain ⟨ka,ea,la⟩:=M9 (by omega:chk a=0);have hT:=bv ka;have G:RdS F s 3 (aV (brs (aU (uc a)))):=by rw [ea] at W;exact W
  have D:=G.blen;rw [aO] at D;have a2:=sR (by omega:chk a=0);have e2:a.2=(num (aU (uc a)) (uc a):Int):=by
   conv=>lhs;rw [ea]
   rfl
  have he:jk a c=(uc a).ev (wo c):=by unfold jk;rw [Υ h]
  refine ⟨a.2,by rw [av (H _ _ q2)];rfl,?_⟩;refine ⟨λm i Q=>∃A,i=(num (aU (uc a)) A:Int)/\inn (aU (uc a)) A/\m=A.sz/\F3.le Q/\A.ev (wo c)=(uc a).ev (wo c),(uc a).sz,⟨uc a,e2,bH ka,rfl,PH.le_rfl,rfl⟩,?_⟩;rintro m i F4 ⟨A,rfl,g,rfl,J,C⟩;unfold Kj;refine ⟨λa1=> ?_,λa0=> ?_⟩
  ·cases A with
   |qa6 x=>have:=cK (aU (uc a)) x;omega
   |qa7 w l r=>
    obtain ⟨il,ir⟩:=hT.inn_kids g;obtain ⟨o1,_⟩:=hT.inn_ok g;have hg:=cY (S:=aU (uc a)) (t:=qa7 w l r) rfl;have a3:=dQ g;have O:=oQ (n:=num (aU (uc a)) (qa7 w l r)) (by omega) hg;obtain ⟨p,hp,E,_⟩:=VQ (G.le (K.trans (H.trans J))) (jT (eA (cC g rfl) rfl));refine ⟨s,by rw [av (J _ _ (H _ _ q2))];rfl,p,hp,by rw [O];omega,by rw [O];omega,aW (br (aU (uc a)) (qa7 w l r)),rfl,by rw [O];exact E,?_⟩;intro b6 N;refine tR ?_;refine Ud (aq _ _ _) rfl rfl (iC _) ?_;rw [aR];have l6:=J.trans (ae (Y (aW (br (aU (uc a)) (qa7 w l r))) 201) N);refine ⟨(w:Int),by rw [av (aq _ _ _)];rfl,by omega,λP=> ?_,λP=> ?_⟩
    ·have B:=(mN R h1 o1).1 P;refine ⟨_,by rw [av (aq _ _ _)];rfl,r.sz,by simp only [sz];omega,r,rfl,ir,rfl,l6,?_⟩;rw [<- C];simp [Tr.ev,B]
    ·have B:¬wo c w=mY:=λhc=>P ((mN R h1 o1).2 hc);refine ⟨_,by rw [av (aq _ _ _)];rfl,l.sz,by simp only [sz];omega,l,rfl,il,rfl,l6,?_⟩;rw [<- C];simp [Tr.ev,B]
  ·unfold Ki;refine ⟨?_,K.trans (H.trans J)⟩;rw [he,<- C];cases A with
   |qa6 x=>cases x<;>simp [num,Tr.ev]
   |qa7 w l r=>have:=cY (S:=aU (uc a)) (t:=qa7 w l r) rfl;omega
end
def lm (n:Nat):Δ:=if h:n=0 then [] else n % 4294967296::lm (n / 4294967296)
termination_by n
decreasing_by exact Nat.div_lt_self (by omega) (by decide)
abbrev aaq (l:Δ):Ξ:=l.map λ(x:Nat)=>Value.int .u32 (x:Int)
def NV (F:PH) (s:Sl) (n:Nat):Prop:=RdS F s 1 (aaq (lm n))
theorem NV.le {F G:PH} {s:Sl} {n:Nat} (h:NV F s n) (g:F.le G):NV G s n:=RdS.le h g
def cv (n:Nat):Tr->Nat
 |qa6 b=>if b then 1 else 0
 |qa7 v l h=>cv n l*2 ^ (min n l.top - (v+1))+cv n h*2 ^ (min n h.top - (v+1))
def dT (n:Nat):Tr->Prop
 |qa6 _=>True
 |qa7 v l h=>v<n/\dT n l/\dT n h
theorem oc {F G:PH} {x:Nat} (h:F.le G):(dD F x).le (dD G x):=λy o g=>by
 have r:y≠x:=λe=>by rw [e,Cb] at g;cases g
 rw [eQ r] at g ⊢;exact h _ _ g
theorem sT {T:List Tr} (g:Cl T) {n:Nat} (h:∀x∈T,x.top<n):∀(t:Tr),inn T t->dT n t
 |qa6 _,_=>trivial
 |qa7 v l r,ht=>by obtain ⟨il,w⟩:=g.inn_kids ht;exact ⟨h _ (cC ht rfl),sT g h l il,sT g h r w⟩
variable {R:VR} {F:PH}
set_option maxHeartbeats 4000000
def WO (a:Bool) (R:VR) (F:PH):Prop:=Nb F (Y zD 33) λb F=>Bb (a) (aA F (Z b 0) 2 (#[tS I 0 0,(U 1)]:Γ) λF=>Rr 2 (Z b 0) R F) (aA F (Z b 0) 2 zD λF=>Rr 2 (Z b 0) R F)
theorem aar {a:Bool} (h:WO a R F):ν 85 #[nS a] F R:=Rx.Λ .N h
def sU (c:Int) (d:Nat) (e:Bool) (R:VR) (F:PH):Prop:=Bb (e) (aA F (Z d 0) 2 zD λF=>Lr F 2 (Z d 0) λb=>R (pk #[nL b,(U 1)]) F) ((#[(U c),(U 0),(U 1)]:Γ).size=3/\Nb F (Y (#[(U c),(U 0),(U 1)]:Γ) 201) λf F=>aA F (Z d 0) 2 (#[nE (Sb f 1),(U 2)]:Γ) λF=>Lr F 2 (Z d 0) λa=>R (pk #[nL a,(U 0)]) F)
def WP (a:Int) (R:VR) (F:PH):Prop:=Nb F (Y zD 33) λb F=>Bc (a<0) (sU a b mY R F) (sU a b (decide (63<a)) R F)
theorem aas {a:Int} (h:WP a R F):ν 87 #[(U a)] F R:=Rx.Λ (.qa8 (.T (.J mz [(9,.bool)] .N .N) .N)) h
def WQ (b:Sl) (c:Int) (R:VR) (F:PH):Prop:=Nb F (Y zD 33) λd F=>Ca 127 #[nE b,(U (max 0 (min c 6))),(U 0),(U 0)] F λa F=>aA F (Z d 0) 2 a λF=>Rr 2 (Z d 0) R F
theorem aat {a:Sl} {b:Int} (h:WQ a b R F):ν 93 #[nE a,(U b)] F R:=Rx.Λ .N h
def J2 (d:Sl) (j c a:Int) (R:VR) (F:PH):Prop:=Nb F (Y zD 33) λl F=>Bc (c=j) (Bc ((i64.wrap (Int.tdiv a 8))<(d.len:Int)) (Ix d (i64.wrap (Int.tdiv a 8)) λm=>∃g,F.cell (nR m (nT (i64.wrap (Int.tdiv a 8))*1))=V (.int .u8 g)/\0<=(u64.wrap (sq a 8))/\Ca 85 #[nS (decide ((u8.wrap ((BitVec.ofInt (u8).bits (Int.fdiv g (2 ^ (min (nT (u64.wrap (sq a 8))) (u8).bits))) &&& BitVec.ofInt (u8).bits 1).toNat))=1))] F λn F=>aA F (Z l 0) 2 n λF=>Rr 2 (Z l 0) R F) (Ca 85 #[nS mz] F λe F=>aA F (Z l 0) 2 e λF=>Rr 2 (Z l 0) R F)) (ν 87 #[(U c)] F λv F=>∃h,∃f,v=(pk #[nL h,(U f)])/\Nb F (Y zD 33) λk F=>aA F (Z k 0) 2 h λF=>Lr F 2 (Z k 0) λi=>0<=(u64.wrap c)/\Lr F 2 (Z k 0) λb=>Ca 127 #[nE d,(U j),(U (i64.wrap (c+1))),(U (i64.wrap (a+(i64.wrap (1*2 ^ (min (nT (u64.wrap c)) (i64).bits))))))] F λo F=>F.row (Z k 0) b/\F.row (Z k 0) i/\Ca 159 #[nL i,nL o] F λp F=>F.row (Z k 0) b/\Ca 127 #[nE d,(U j),(U (i64.wrap (c+1))),(U a)] F λq F=>F.row (Z k 0) b/\Ca 160 #[nL q,nL b] F λr F=>Ca 158 #[nL p,nL r] F λs F=>aA F (Z l 0) 2 s λF=>Rr 2 (Z l 0) R F)
theorem Py {a:Sl} {b:Int} {c:Int} {d:Int} (h:J2 a b c d R F):ν 127 #[nE a,(U b),(U c),(U d)] F R:=Rx.Λ .N h
def Ep (a:Int) (R:VR) (F:PH):Prop:=R (nS (decide (a=1))) F
def Er (j:Ω) (i:Int) (k:Nat) (R:VR) (a:Int) (F:PH):Prop:=Bc (1<a) (Ls F (Z k 0) λd=>Ix d (i64.wrap (a - 2)) λe=>∃b,b.size=3/\F.row (nR e (nT (i64.wrap (a - 2))*3)) b/\Nb F (Y (#[U 0,U 0,U 0]) 201) λh F=>aA F (Z h 0) 3 b λF=>Li F (Z h 0) λc=>0<=(u64.wrap c)/\Bc ((u64.wrap ((BitVec.ofInt (u64).bits (Int.fdiv i (2 ^ (min (nT (u64.wrap c)) (u64).bits))) &&& BitVec.ofInt (u64).bits 1).toNat))=1) (Li F (Z h 2) λf=>j f F) (Li F (Z h 1) λg=>j g F)) (Ep a R F)
def Pz (b:Γ) (c:Int) (R:VR) (F:PH):Prop:=Nb F (Y b 33) λe F=>Li F (Z e 1) λd=>Lp d F λN a F=>Er N c e R a F
theorem qdX {a:Γ} {b:Int} (h:Pz a b R F):ν 132 #[nL a,.int .u64 b] F R:=Rx.Λ (.qa8 (.qa8 (.J mz [(5,.int .i64)] (.L [(5,.int .i64)] .N) .N))) h
def PA (b:Γ) (R:VR) (F:PH):Prop:=Nb F (Y b 33) λe F=>Nb F (Y zD 33) λf F=>Lr F 2 (Z e 0) λa=>Ca 85 #[nS mY] F λc F=>F.row (Z e 0) a/\Ca 191 #[nL a,nL c,(U 2)] F λd F=>aA F (Z f 0) 2 d λF=>Rr 2 (Z f 0) R F
theorem qdY {a:Γ} (h:PA a R F):ν 157 #[nL a] F R:=Rx.Λ .N h
def PB (a b:Γ) (R:VR) (F:PH):Prop:=Nb F (Y a 33) λg F=>Nb F (Y b 33) λh F=>Nb F (Y zD 33) λf F=>Lr F 2 (Z g 0) λc=>Lr F 2 (Z h 0) λd=>Ca 191 #[nL c,nL d,(U 1)] F λe F=>aA F (Z f 0) 2 e λF=>Rr 2 (Z f 0) R F
theorem qdZ {a:Γ} {b:Γ} (h:PB a b R F):ν 158 #[nL a,nL b] F R:=Rx.Λ .N h
def PC (a b:Γ) (R:VR) (F:PH):Prop:=Nb F (Y a 33) λg F=>Nb F (Y b 33) λh F=>Nb F (Y zD 33) λf F=>Lr F 2 (Z g 0) λc=>Lr F 2 (Z h 0) λd=>Ca 191 #[nL c,nL d,(U 0)] F λe F=>aA F (Z f 0) 2 e λF=>Rr 2 (Z f 0) R F
theorem qd0 {a:Γ} {b:Γ} (h:PC a b R F):ν 159 #[nL a,nL b] F R:=Rx.Λ .N h
def PD (b c:Γ) (R:VR) (F:PH):Prop:=Nb F (Y b 33) λg F=>Nb F (Y c 33) λi F=>Nb F (Y zD 33) λh F=>Lr F 2 (Z g 0) λa=>Lr F 2 (Z i 0) λd=>Ca 157 #[nL d] F λe F=>F.row (Z g 0) a/\Ca 159 #[nL a,nL e] F λf F=>aA F (Z h 0) 2 f λF=>Rr 2 (Z h 0) R F
theorem qd1 {a:Γ} {b:Γ} (h:PD a b R F):ν 160 #[nL a,nL b] F R:=Rx.Λ .N h
def PE (j k:Γ) (b:Int) (R:VR) (F:PH):Prop:=Nb F (Y j 33) λl F=>Nb F (Y k 33) λm F=>Nb F (Y zD 33) λn F=>Lr F 2 (Z l 0) λc=>Lr F 2 (Z m 0) λa=>c.size=2/\a.size=2/\Nb F (Y (Array.setIfInBounds (wr (wr (#[tS I 0 0,U 0,.slice I 0 0,U 0,U 0,.slice I 0 0,.slice I 0 0]:Γ) 0 c.toList) 2 a.toList) 4 (U b)) 320) λd F=>Li F (Z l 1) λe=>Li F (Z m 1) λf=>Ci 215 #[(Pp d),(U e),(U f)] F λg F=>Ls F (Z d 5) λh=>Ca 216 #[nE h,(U g)] F λi F=>aA F (Z n 0) 2 i λF=>Rr 2 (Z n 0) R F
theorem qd2 {b:Γ} {c:Γ} {a:Int} (h:PE b c a R F):ν 191 #[nL b,nL c,(U a)] F R:=Rx.Λ .N h
def PF (a:Γ) (R:VR) (F:PH):Prop:=Nb F (Y a 33) λe F=>Ls F (Z e 0) λb=>Bc ((4096:Int)<(b.len:Int)) (R (U 2) F) (Lr F 2 (Z e 0) λc=>ud 217 #[nL c] F λd F=>Bb ((!d)) (R (U 20) F) (R (U 0) F))
theorem qd3 {a:Γ} (h:PF a R F):ν 192 #[nL a] F R:=Rx.Λ .N h
def xx (w:Θ) (h i:Int) (R:VR) (F:PH):Prop:=∃a,w=V a/\Lr F 2 a λr=>Lr F 2 (nR a 2) λj=>Ci 241 #[nL r,(U h)] F λe F=>F.row (nR a 2) j/\Ci 241 #[nL j,(U i)] F λf F=>Lr F 2 a λs=>ν 242 #[nL s,(U h),(U (min e f))] F λv F=>∃k,∃c,v=(pk #[(U k),(U c)])/\Lr F 2 (nR a 2) λt=>ν 242 #[nL t,(U i),(U (min e f))] F λv F=>∃l,∃d,v=(pk #[(U l),(U d)])/\Ci 215 #[ph (V a),(U k),(U l)] F λm F=>Ci 215 #[ph (V a),(U c),(U d)] F λn F=>Ls F (nR a 5) λo=>ν 243 #[nE o,nL (#[(U (min e f)),(U m),(U n)]:Γ)] F λv F=>∃g,∃b,v=(pk #[nE g,(U b)])/\qW F (nR a 5) (nE g) λF=>Ls F (nR a 6) λp=>(#[(U h),(U i),(U b)]:Γ).size=3/\Nb F (Y (#[(U h),(U i),(U b)]:Γ) 313) λu F=>Ap 318 #[nE p,nE (Sb u 1)] F λq F=>qW F (nR a 6) (nE q) λF=>R (U b) F
def qr (g:Ω) (a:Addr) (_ _ b:Int) (c:Bool) (R:VR) (F:PH):Prop:=Bb (c) (Ls F (nR a 6) λd=>Ix d b λe=>0<=(2:Int)/\(2:Int)<3/\Li F (nR (nR e (nT b*3)) (nT 2*1)) λf=>R (U f) F) (g (i64.wrap (b+1)) F)
def Es (m:Ω) (l:Θ) (c d:Int) (R:VR) (b:Int) (F:PH):Prop:=∃a,l=V a/\Ls F (nR a 6) λe=>Bc (b<(e.len:Int)) (Ls F (nR a 6) λf=>Ix f b λg=>0<=(0:Int)/\(0:Int)<3/\Li F (nR (nR g (nT b*3)) (nT 0*1)) λh=>Bc (h=c) (Ls F (nR a 6) λi=>Ix i b λj=>0<=(1:Int)/\(1:Int)<3/\Li F (nR (nR j (nT b*3)) (nT 1*1)) λk=>qr m a c d b (decide (k=d)) R F) (qr m a c d b mz R F)) (xx (V a) c d R F)
def mO (a:Θ) (b c:Int) (d:Bool) (R:VR) (F:PH):Prop:=Bb (d) (Ci 240 #[ph a,(U b),(U c)] F λe F=>R (U e) F) (Lp 0 F λN f F=>Es N a b c R f F)
def PG (c:Θ) (a b:Int) (R:VR) (F:PH):Prop:=Bc (a<2) (mO c a b (decide (b<2)) R F) (mO c a b mz R F)
theorem qd4 {a:Θ} {b:Int} {c:Int} (h:PG a b c R F):ν 215 #[ph a,(U b),(U c)] F R:=Rx.Λ (.qa8 (.T (.J mz [(22,.bool)] .N .N) (.J mz [(0,.ptr)] (.qa8 (.L [(7,.int .i64)] (.qa8 (.T (.J mz [(57,.bool)] .N .N) .N)))) .N))) h
def PI (a:Sl) (b:Int) (R:VR) (F:PH):Prop:=Nb F (Y zD 33) λg F=>aG prog (Instr.makeSlice 76 (U (a.len:Int)) (U (a.len:Int))) F λv F=>∃c,v=(nE c)/\Nb F (Y (#[nE a,nE c,tS I 0 0]:Γ) 339) λd F=>Ci 244 #[(Pp d),(U b)] F λe F=>Ls F (Z d 2) λf=>aA F (Z g 0) 2 (#[nE f,(U e)]:Γ) λF=>Rr 2 (Z g 0) R F
theorem qdF {a:Sl} {b:Int} (h:PI a b R F):ν 216 #[nE a,(U b)] F R:=Rx.Λ .N h
def Et (f:Nat) (R:VR) (F:PH):Prop:=Lr F 2 (Z f 0) λa=>Ls F (Z f 0) λb=>Li F (Z f 1) λc=>Ca 216 #[nE b,(U c)] F λd F=>F.row (Z f 0) a/\ud 230 #[nL a,nL d] F λe F=>R (nS e) F
def Eu (f:Ω) (e:Nat) (R:VR) (a:Int) (F:PH):Prop:=Ls F (Z e 0) λb=>Bc (a<(b.len:Int)) (Lr F 2 (Z e 0) λc=>ud 245 #[nL c,(U a)] F λd F=>Bb ((!d)) (R (nS mz) F) (f (i64.wrap (a+1)) F)) (Et e R F)
def PJ (c:Γ) (R:VR) (F:PH):Prop:=Nb F (Y c 33) λb F=>Li F (Z b 1) λd=>Bc (d<0) (R (nS mz) F) (Li F (Z b 1) λe=>Ls F (Z b 0) λa=>Bc ((i64.wrap ((a.len:Int)+2))<=e) (R (nS mz) F) (Lp 0 F λN f F=>Eu N b R f F))
theorem qdG {a:Γ} (h:PJ a R F):ν 217 #[nL a] F R:=Rx.Λ (.qa8 (.qa8 (.J mz [] (.qa8 (.L [(3,.int .i64)] .N)) .N))) h
def Ng (R:VR) (F:PH):Prop:=R (nS mY) F
def Ew (k:Ω) (j l:Nat) (R:VR) (a:Int) (F:PH):Prop:=Ls F (Z j 0) λc=>Bc (a<(c.len:Int)) (Ls F (Z j 0) λd=>Ix d a λe=>Lr F 3 (nR e (nT a*3)) λf=>Ls F (Z l 0) λg=>Ix g a λh=>Lr F 3 (nR h (nT a*3)) λi=>∃b,(∀F,pn prog (Op.equal 201 (nL f) (nL i)) F b)/\Bb ((!b)) (R (nS mz) F) (k (i64.wrap (a+1)) F)) (Ng R F)
def PK (c d:Γ) (R:VR) (F:PH):Prop:=Nb F (Y c 33) λe F=>Nb F (Y d 33) λf F=>Li F (Z e 1) λg=>Li F (Z f 1) λh=>Bc (g≠h) (R (nS mz) F) (Ls F (Z e 0) λa=>Ls F (Z f 0) λb=>Bc ((a.len:Int)≠(b.len:Int)) (R (nS mz) F) (Lp 0 F λN i F=>Ew N e f R i F))
theorem qdH {a:Γ} {b:Γ} (h:PK a b R F):ν 230 #[nL a,nL b] F R:=Rx.Λ (.qa8 (.qa8 (.J mz [] (.qa8 (.L [(5,.int .i64)] .N)) .N))) h
def PL (e:Θ) (c d:Int) (R:VR) (F:PH):Prop:=∃a,e=V a/\Li F (nR a 4) λb=>Bc (b=0) (R (U (i64.wrap (c*d))) F) (Bc (b=1) (R (U (max c d)) F) (R (U (sq (i64.wrap (c+d)) 2)) F))
theorem qdI {a:Θ} {b:Int} {c:Int} (h:PL a b c R F):ν 240 #[ph a,(U b),(U c)] F R:=Rx.Λ .N h
def PM (d:Γ) (b:Int) (R:VR) (F:PH):Prop:=Nb F (Y d 33) λf F=>Bc (b<2) (R (U 64) F) (Ls F (Z f 0) λe=>Ix e (i64.wrap (b - 2)) λc=>∃a,F.cell (nR c (nT (i64.wrap (b - 2))*3))=V (U a)/\R (U a) F)
theorem qdJ {a:Γ} {b:Int} (h:PM a b R F):ν 241 #[nL a,(U b)] F R:=Rx.Λ .N h
def PN (i:Γ) (a j:Int) (R:VR) (F:PH):Prop:=Nb F (Y i 33) λk F=>Lr F 2 (Z k 0) λl=>Ci 241 #[nL l,(U a)] F λd F=>Bc (d≠j) (R (pk #[(U a),(U a)]) F) (Ls F (Z k 0) λe=>Ix e (i64.wrap (a - 2)) λf=>∃b,F.cell (nR (nR f (nT (i64.wrap (a - 2))*3)) 1)=V (U b)/\Ls F (Z k 0) λg=>Ix g (i64.wrap (a - 2)) λh=>∃c,F.cell (nR (nR h (nT (i64.wrap (a - 2))*3)) 2)=V (U c)/\R (pk #[(U b),(U c)]) F)
theorem qdK {a:Γ} {b:Int} {c:Int} (h:PN a b c R F):ν 242 #[nL a,(U b),(U c)] F R:=Rx.Λ .N h
def Ex (c:Sl) (e:Nat) (R:VR) (F:PH):Prop:=Lr F 3 (Z e 0) λa=>a.size=3/\Nb F (Y a 201) λd F=>Ap 31 #[nE c,nE (Sb d 1)] F λb F=>R (pk #[nE b,(U (i64.wrap ((b.len:Int)+1)))]) F
def Ey (h:Ω) (b:Sl) (g:Nat) (R:VR) (a:Int) (F:PH):Prop:=Bc (a<(b.len:Int)) (Ix b a λd=>Lr F 3 (nR d (nT a*3)) λe=>Lr F 3 (Z g 0) λf=>∃c,(∀F,pn prog (Op.equal 201 (nL e) (nL f)) F c)/\Bb (c) (R (pk #[nE b,(U (i64.wrap (a+2)))]) F) (h (i64.wrap (a+1)) F)) (Ex b g R F)
def PO (a:Sl) (e:Γ) (R:VR) (F:PH):Prop:=Nb F (Y e 201) λd F=>Li F (Z d 1) λf=>Li F (Z d 2) λb=>Bc (f=b) (Li F (Z d 1) λc=>R (pk #[nE a,(U c)]) F) (Lp 0 F λN g F=>Ey N a d R g F)
theorem qdL {a:Sl} {b:Γ} (h:PO a b R F):ν 243 #[nE a,nL b] F R:=Rx.Λ (.qa8 (.qa8 (.J mz [] (.qa8 (.L [(6,.int .i64)] .N)) .N))) h
def J3 (x:Θ) (b:Int) (R:VR) (F:PH):Prop:=Bc (b<2) (R (U b) F) (∃a,x=V a/\Ls F (nR a 1) λi=>Ix i (i64.wrap (b - 2)) λj=>∃e,F.cell (nR j (nT (i64.wrap (b - 2))*1))=V (U e)/\Bc (0<e) (Ls F (nR a 1) λk=>Ix k (i64.wrap (b - 2)) λl=>∃f,F.cell (nR l (nT (i64.wrap (b - 2))*1))=V (U f)/\R (U f) F) (Ls F a λm=>Ix m (i64.wrap (b - 2)) λn=>∃c,c.size=3/\F.row (nR n (nT (i64.wrap (b - 2))*3)) c/\Nb F (Y (#[U 0,U 0,U 0]) 201) λo F=>aA F (Z o 0) 3 c λF=>Li F (Z o 1) λp=>Ci 244 #[ph (V a),(U p)] F λg F=>Li F (Z o 2) λq=>Ci 244 #[ph (V a),(U q)] F λh F=>Ls F (nR a 2) λr=>Li F (Z o 0) λd=>(#[(U d),(U g),(U h)]:Γ).size=3/\Nb F (Y (#[(U d),(U g),(U h)]:Γ) 201) λy F=>Ap 31 #[nE r,nE (Sb y 1)] F λs F=>F.cell (Z o 0)=V (U d)/\qW F (nR a 2) (nE s) λF=>Ls F (nR a 1) λt=>Ls F (nR a 2) λu=>Ix t (i64.wrap (b - 2)) λv=>qW F (nR v (nT (i64.wrap (b - 2))*1)) (U (i64.wrap ((u.len:Int)+1))) λF=>Ls F (nR a 2) λw=>R (U (i64.wrap ((w.len:Int)+1))) F))
theorem PP {a:Θ} {b:Int} (h:J3 a b R F):ν 244 #[ph a,(U b)] F R:=Rx.Λ .N h
def Ez (R:VR) (F:PH):Prop:=R (nS mY) F
def EA (h:Ω) (g:Int) (i j:Nat) (R:VR) (a:Int) (F:PH):Prop:=Bc (a<g) (Ls F (Z i 0) λc=>Ix c a λd=>Lr F 3 (nR d (nT a*3)) λe=>Lr F 3 (Z j 0) λf=>∃b,(∀F,pn prog (Op.equal 201 (nL e) (nL f)) F b)/\Bb (b) (R (nS mz) F) (h (i64.wrap (a+1)) F)) (Ez R F)
def PQ (v:Γ) (b:Int) (R:VR) (F:PH):Prop:=Nb F (Y v 33) λu F=>Ls F (Z u 0) λw=>Ix w b λe=>Lr F 3 (nR e (nT b*3)) λf=>Nb F (Y (#[U 0,U 0,U 0]) 201) λa F=>aA F (Z a 0) 3 f λF=>Li F (Z a 0) λg=>Bc (g<0) (R (nS mz) F) (Li F (Z a 0) λh=>Bc (63<h) (R (nS mz) F) (Li F (Z a 1) λi=>Bc (i<0) (R (nS mz) F) (Li F (Z a 2) λj=>Bc (j<0) (R (nS mz) F) (Li F (Z a 1) λk=>Bc ((i64.wrap (b+2))<=k) (R (nS mz) F) (Li F (Z a 2) λl=>Bc ((i64.wrap (b+2))<=l) (R (nS mz) F) (Li F (Z a 1) λm=>Li F (Z a 2) λn=>Bc (m=n) (R (nS mz) F) (Lr F 2 (Z u 0) λo=>Li F (Z a 1) λp=>Li F (Z a 0) λc=>Ci 241 #[nL o,(U p)] F λq F=>F.cell (Z a 0)=V (U c)/\Bc (q<=c) (R (nS mz) F) (Lr F 2 (Z u 0) λr=>Li F (Z a 2) λs=>Li F (Z a 0) λd=>Ci 241 #[nL r,(U s)] F λt F=>F.cell (Z a 0)=V (U d)/\F.cell (Z a 0)=V (U c)/\Bc (t<=d) (R (nS mz) F) (Lp 0 F λN x F=>EA N b u a R x F)))))))))
theorem qdM {a:Γ} {b:Int} (h:PQ a b R F):ν 245 #[nL a,(U b)] F R:=Rx.Λ (.qa8 (.qa8 (.qa8 (.qa8 (.J mz [] (.qa8 (.L [(6,.int .i64)] .N)) .N))))) h
theorem Cd {F:PH} {v w:Γ} {d e:vE} (hd:DV F v d) (he:DV F w e) (hl:x7 d.1.length):ν 230 #[nL v,nL w] F λr Q=>r=nS (decide (d=e))/\F.le Q:=by
 obtain ⟨s,rfl,N⟩:=hd;obtain ⟨t,rfl,K⟩:=he;refine qdH ?_;unfold PK;intro W a1;refine tR ?_;have L:=ae (Y #[s.v,U d.2] 33) a1;intro b3 a3;refine tR ?_;have B:=ae (Y #[t.v,U e.2] 33) a3;have A:F.le _:=λb o h=>B b o (L b o h);have C:=B _ _ (aq F W (Y #[s.v,U d.2] 33));have D:=aq (F.set W (Y #[s.v,U d.2] 33)) b3 (Y #[t.v,U e.2] 33);generalize (F.set W (Y #[s.v,U d.2] 33)).set b3 (Y #[t.v,U e.2] 33)=G at*;have N:=N.le A;have K:=K.le A;have O:=N.blen;have M:=K.blen;have cs:G.cell ⟨W,0,I⟩=V s.v:=by rw [av C];rfl
 have ct:G.cell ⟨b3,0,I⟩=V t.v:=by rw [av D];rfl
 obtain ⟨x,d2⟩:=d;obtain ⟨y,e2⟩:=e;simp only at hl O M N K C D;refine ⟨d2,by rw [av C];rfl,e2,by rw [av D];rfl,λh=> ?_,λh=> ?_⟩
 ·refine ⟨?_,A⟩;simp [h]
 have h:d2=e2:=by omega
 subst h;refine ⟨s,cs,t,ct,λhn=> ?_,λhn=> ?_⟩
 ·refine ⟨?_,A⟩;have:¬x=y:=λe=>by subst e;omega
  simp [this]
 have H:x.length=y.length:=by omega
 refine ⟨λm i Q=>∃k:Nat,i=k/\k<=x.length/\m=x.length - k/\Q=G/\x.take k=y.take k,x.length,⟨0,rfl,by omega,rfl,rfl,rfl⟩,?_⟩;rintro m i Q ⟨k,rfl,hk,rfl,rfl,g⟩;unfold Ew;refine ⟨s,cs,λa2=> ?_,λa6=> ?_⟩
 ·have P:k<x.length:=by omega
  have J:k<y.length:=by omega
  obtain ⟨p,hp,a0,_⟩:=VQ N (N5 P);obtain ⟨q,hq,a5,_⟩:=VQ K (N5 J);refine ⟨s,cs,p,hp,by omega,a2,aW x[k],rfl,by simpa using a0,t,ct,q,hq,by omega,by omega,aW y[k],rfl,by simpa using a5,decide (x[k]=y[k]),λF=>JP x[k] y[k] F,λX=> ?_,λE=> ?_⟩
  ·refine ⟨?_,A⟩;have:¬x=y:=by rintro rfl;simp at X
   simp [this]
  ·refine ⟨x.length - (k+1),by omega,k+1,ff (by omega),by omega,rfl,rfl,?_⟩;rw [W4 P,W4 J,g];simp at E;rw [E]
 ·refine ⟨?_,A⟩;have a4:k=x.length:=by omega
  rw [a4,wy,H,wy] at g;simp [g]
def gU (t:Tr):Prop:=t.ok/\(aU t).length<=4096
theorem J4 {t:Tr} (h:t.ok) (g:Xp t<=4096):gU t:=⟨h,Wz (pc t) g⟩
theorem od {t:Tr} (h:gU t):chk (pg t)=0:=Eo h.1 h.2
theorem GA {t:Tr} (h:gU t):Xe (pg t)=(pg t,0):=by unfold Xe;rw [Υ];have:=h.2;simp only [pg,aO];omega
theorem qik {a b:Tr} (h:gU a) (g:gU b):mL [pg a,pg b]=0:=by simp [mL,od h,od g]
theorem SD {o:VY} {a b:Tr} (h:gU a) (g:gU b):Xo o (pg a) (pg b)=Xe (pg (ap (λx y _=>o x y) a b (qa6 mz))):=by unfold Xo;rw [qik h g,Υ (by simp),mM h.1,mM g.1]
theorem J5 {o:VY} {a b t:Tr} (w:gU a) (r:gU b) (g:gU t) (h:∀c,t.ev c=o (a.ev c) (b.ev c)):Xo o (pg a) (pg b)=(pg t,0):=by have:ap (λx y _=>o x y) a b (qa6 mz)=t:=xR g.1 λc=>h c;rw [SD w r,this,GA g]
theorem Nh {v:Nat} (h:v<64):t7 v=(pg (tv v),0):=by unfold t7;rw [Υ (by omega),N4]
theorem mP {a:Tr} (g:gU a) (c:Int):jk (pg a) c=a.ev (wo c):=by unfold jk;rw [od g,Υ (by simp),mM g.1]
theorem EB {a:Tr} (g:gU a):x7 (pg a).1.length:=by have:=g.2;simp only [pg,aO];omega
section
variable {F:PH} {v:Γ} {d:vE} {S:List Tr} {t:Tr}
theorem eZ (hd:DV F v d) (D:brs S<+:d.1) (G:inn S t) (M:x7 (d.1.length+2)):
  ν 241 #[nL v,U (num S t)] F λr K=>r=U t.top/\F.le K:=by
 obtain ⟨A,J⟩:=qt D G M;obtain ⟨s,rfl,E⟩:=hd;refine qdJ ?_;unfold PM;intro P C;refine tR ?_;have g:=ae (Y #[s.v,U d.2] 33) C;refine ⟨λh=> ?_,λh=> ?_⟩
 ·have L:=qK (S:=S) (t:=t) (by omega);cases t with
  |qa6 b=>exact ⟨rfl,g⟩
  |qa7 _ _ _=>cases L
 ·cases t with
  |qa6 b=>have:=cK S b;omega
  |qa7 w l r=>have O:=gl D (eA (cC G rfl) rfl);obtain ⟨a,N,_,H,_⟩:=VQ (E.le g) O;have B:=oQ A (cY (S:=S) (t:=qa7 w l r) rfl);have Q:=cY (S:=S) (t:=qa7 w l r) rfl;refine ⟨s,by simp,a,N,by rw [B];omega,by rw [B,E.blen];omega,_,by rw [B];exact H,rfl,g⟩
theorem oO (hd:DV F v d) (H:brs S<+:d.1) (G:inn S t) (M:x7 (d.1.length+2)) {w:Nat} (B:w<64):
  ν 242 #[nL v,U (num S t),U w] F λr F'=>r=pk #[U (num S (lo w t)),U (num S (hi w t))]/\F.le F':=by
 obtain ⟨C,W⟩:=qt H G M;have L:=hd;obtain ⟨s,rfl,J⟩:=hd;refine qdK ?_;unfold PN;intro P K;refine tR ?_;have E:=ae (Y #[s.v,U d.2] 33) K;refine ⟨_,rfl,ai (aq _ _ _),?_⟩;refine (eZ (L.le E) H G M).mono ?_;rintro _ F2 ⟨rfl,A⟩;have O:F2 P=V _:=A _ _ (aq _ _ _);have g:F.le F2:=λb o h=>A b o (E b o h);refine ⟨_,rfl,λh=> ?_,λh=> ?_⟩
 ·refine ⟨?_,g⟩;cases t with
  |qa6 b=>rfl
  |qa7 D l r=>have:¬D=w:=λe=>h (by simp [Tr.top,e]);simp [lo,hi,this]
 ·cases t with
  |qa6 b=>simp only [Tr.top] at h;omega
  |qa7 D l r=>
   have e:D=w:=by simp only [Tr.top] at h;omega
   subst e;have X:=gl H (eA (cC G rfl) rfl);obtain ⟨a,N,_,_,h3,Q⟩:=VQ (J.le g) X;have B:=oQ C (cY (S:=S) (t:=qa7 D l r) rfl);have hg:=cY (S:=S) (t:=qa7 D l r) rfl
   refine ⟨s,by rw [av O];rfl,a,N,by rw [B];omega,by rw [B,J.blen];omega,_,by rw [B];exact h3,
    s,by rw [av O];rfl,a,N,by rw [B];omega,by rw [B,J.blen];omega,_,by rw [B];exact Q,?_,g⟩
   simp [lo,hi,br]
end
section
variable {F:PH}
theorem d8 (x:Bool):ν 85 #[nS x] F λr A=>∃w,r=nL w/\DV A w (pg (qa6 x))/\F.le A:=by
 refine aar ?_;unfold WO;intro D B;refine tR ?_;have C:=ae (Y zD 33) B;have q2:=aq F D (Y zD 33);refine ⟨λh=> ?_,λh=> ?_⟩
 ·subst h;have hd:∀G:PH,DV G #[tS I 0 0,U 1] (pg (qa6 mY)):=λG=>⟨pi,rfl,RdS.nil G 3⟩;exact fW (K:=λg A=>∃w,nL g=nL w/\DV A w (pg (qa6 mY))/\F.le A) (hd F) q2 rfl ⟨_,rfl,hd _,aB C B⟩
 ·subst h;have hd:∀G:PH,DV G zD (pg (qa6 mz)):=λG=>⟨pi,rfl,RdS.nil G 3⟩;exact fW (K:=λg A=>∃w,nL g=nL w/\DV A w (pg (qa6 mz))/\F.le A) (hd F) q2 rfl ⟨_,rfl,hd _,aB C B⟩
theorem uJ (x:Int):ν 87 #[U x] F λr w=>DRV w r (t7 x)/\F.le w:=by
 refine aas ?_;unfold WP;intro E B;refine tR ?_;have L:=ae (Y zD 33) B;have q2:=aq F E (Y zD 33);generalize F.set E (Y zD 33)=F2 at*;have bad:x<0\/63<x->sU x E mY (λr w=>DRV w r (t7 x)/\F.le w) F2:=λh=>by
  unfold sU;refine ⟨λ_=> ?_,λJ=>by cases J⟩;have e:t7 x=(oM,1):=by unfold t7;rw [Χ h]
  rw [e];exact SA q2 rfl L B
 refine ⟨λh=>bad (.inl h),λh=> ?_⟩;by_cases H:63<x
 ·rw [ε H];exact bad (.inr H)
 ·rw [η H];unfold sU;refine ⟨λJ=>(by cases J),λ_=>⟨rfl,λg A=> ?_⟩⟩;refine tR ?_;have e:t7 x=(pg (tv x.toNat),0):=by unfold t7;rw [Υ (by omega)]
  have P:((x.toNat:Nat):Int)=x:=by omega
  have M:=ae (Y #[U x,U 0,U 1] 201) A;have D:=aq F2 g (Y #[U x,U 0,U 1] 201);have n:g≠E:=(aH A q2).symm;have q2:=M _ _ q2;have N:=L.trans M;rw [e];have hd:∀G:PH,G g=V (Y #[U x,U 0,U 1] 201)->DV G #[(Sl.mk (V ⟨g,0,I⟩) 1 1).v,U 2] (pg (tv x.toNat)):=λG O=>by rw [SC,P];exact ⟨_,rfl,RdS.new O rfl rfl (qX _)⟩
  exact fW (K:=λC w=>DRV w (pk #[nL C,U 0]) (pg (tv x.toNat),0)/\F.le w) (hd _ D) q2 rfl ⟨⟨_,rfl,hd _ (by rw [aw _ _ n];exact D)⟩,aB N B⟩
end
def rnS (S:List Tr) (t:Tr):Nat:=if t∈S then num S t else 0
def WV (S0 S:List Tr):Ξ:=S0.map λt=>U (rnS S t:Int)
structure WS (F0 F:PH) (bw g:Nat) (ns:Sl) (S0 S:List Tr):Prop where
 le:F0.le F
 cl:Cl S
 sub:∀x∈S,x∈S0
 nw:F0 bw=I
 ng:F0 g=I
 rd:RdS F0 ns 3 (aV (brs S0))
 ex:∃s:Sl,F bw=V (Y #[ns.v,nE ⟨V ⟨g,0,I⟩,S0.length,S0.length⟩,s.v] 339)/\bP F 201 3 s (aV (brs S))/\∀a,s.qa5=V a->F0 a.block=I
 hg:F g=V (Y (WV S0 S).toArray 3)
theorem J6 {g S:List Tr} (G:Cl g) {t:Tr} (w:Cl (S++[t])) (H:t∈g) (E:t.isL=mz):(WV g S).set (num g t - 2) (U ((S.length+2:Nat):Int))=WV g (S++[t]):=by
 apply WJ;intro j;unfold WV;rw [Yj,yc,yc];have J:=cY (S:=g) E;have hgt:=eA H E;by_cases D:num g t - 2=j
 ·subst D;have A:=(N6.1 hgt).1;rw [Χ rfl,ub,Χ A,hgt];simp only [Vz,rnS];rw [Χ (by simp),dR w (k:=S.length) (by simp)]
 ·rw [Υ D];cases hx:g[j]? with
  |none=>rfl
  |some u=>
   simp only [Vz,rnS];have B:u≠t:=λe=>by subst e;have:=dR G hx;omega
   have C:u∈S++[t]↔u∈S:=by simp [B]
   by_cases r:u∈S
   ·rw [Χ r,Χ (C.2 r),bN (.inr r)]
   ·rw [Υ r,Υ (λh=>r (C.1 h))]
theorem qil {G g:Nat} {ns:Sl} {w:List Tr} (h0:Cl w) (hf:x7 (w.length+4)):∀(t:Tr),inn w t->∀(F0 F:PH) (S:List Tr),WS F0 F G g ns w S->
  ν 244 #[ph (V ⟨G,0,I⟩),U (num w t)] F λr F'=>r=U (num (tY t S) t)/\WS F0 F' G g ns w (tY t S):=by
 intro t;induction t with
 |qa6 x=>intro ht F0 F S hs;refine PP ?_;unfold J3;have:=cK w x;exact ⟨λ_=>⟨rfl,hs⟩,λh=>by omega⟩
 |qa7 v l h g3 f7=>
  intro ht F0 F S hs;have g8:=hs;obtain ⟨b6,hS,e5,d1,f1,a4,⟨s,hw,ho,g7⟩,hg⟩:=hs;have b2:=cC ht rfl;obtain ⟨h1,g2⟩:=h0.inn_kids ht;have b0:=h0.inn_ok ht;have f5:=cY (S:=w) (t:=qa7 v l h) rfl;have h9:=dQ ht;have hgt:=eA b2 rfl;have h8:=(N6.1 hgt).1;have g1:=oQ (n:=num w (qa7 v l h)) (by omega) f5;refine PP ?_;unfold J3;refine ⟨λh=>by omega,λ_=> ?_⟩;rw [g1];have b3:F.cell ⟨G,0,I⟩=V ns.v:=by rw [av hw];rfl
  have W:F.cell (nR ⟨G,0,I⟩ 1)=V (nE ⟨V ⟨g,0,I⟩,w.length,w.length⟩):=by rw [aI,av hw];rfl
  have J:F.cell (nR ⟨g,0,I⟩ (nT ((num w (qa7 v l h) - 2:Nat):Int)*1))=V (U (rnS S (qa7 v l h))):=by
   simp only [aI];rw [av hg];have:(WV w S)[num w (qa7 v l h) - 2]? =V (U (rnS S (qa7 v l h))):=by unfold WV;rw [yc,hgt];rfl
   simpa using this
  refine ⟨_,rfl,_,W,_,rfl,by omega,by simp only;omega,_,J,λN=> ?_,λN=> ?_⟩
  ·have O:qa7 v l h∈S:=by
    unfold rnS at N;split at N
    ·assumption
    ·omega
   have e:tY (qa7 v l h) S=S:=gu (.inr O);rw [e];have e2:rnS S (qa7 v l h)=num S (qa7 v l h):=by unfold rnS;rw [Χ O]
   rw [e2] at J;exact ⟨_,W,_,rfl,by omega,by simp only;omega,_,J,rfl,g8⟩
  ·have O:qa7 v l h ∉ S:=λO=>N (by
    have:=cY (S:=S) (t:=qa7 v l h) rfl;unfold rnS;rw [Χ O]
    omega)
   obtain ⟨a,C,c2,_⟩:=VQ (a4.le b6) (jT hgt);have f6:=a4.blen;rw [aO] at f6;refine ⟨ns,b3,a,C,by omega,by omega,aW (br w (qa7 v l h)),rfl,by simpa using c2,?_⟩;intro b5 a1;refine tR ?_;refine Ud (aq _ _ _) rfl rfl (iC _) ?_;rw [aR];have d3:F0 b5=I:=aT b6 a1;have e4:G≠b5:=aH a1 hw;have b8:g≠b5:=aH a1 hg;have e8:WS (F0.set b5 (Y (aW (br w (qa7 v l h))) 201)) (F.set b5 (Y (aW (br w (qa7 v l h))) 201)) G g ns w S:=by
    refine ⟨λx ob H=> ?_,hS,e5,by rw [aw _ _ e4];exact d1,by rw [aw _ _ b8];exact f1,a4.le (ae _ d3),⟨s,by rw [aw _ _ e4];exact hw,ho.upto (ae _ a1),λa C=> ?_⟩,by rw [aw _ _ b8];exact hg⟩
    ·by_cases f3:x=b5
     ·subst f3;rw [aq] at H ⊢;exact H
     ·rw [aw _ _ f3] at H ⊢;exact b6 _ _ H
    ·obtain ⟨b4,A⟩:=ho.elem C;rw [aw _ _ (aH a1 A)];exact g7 a C
   have a6:F0.le (F0.set b5 (Y (aW (br w (qa7 v l h))) 201)):=ae _ d3;have a2:(F0.set b5 (Y (aW (br w (qa7 v l h))) 201)) b5=V (Y (aW (br w (qa7 v l h))) 201):=aq _ _ _;generalize F0.set b5 (Y (aW (br w (qa7 v l h))) 201)=G0 at*;generalize F.set b5 (Y (aW (br w (qa7 v l h))) 201)=F1 at*;refine ⟨_,by rw [av (e8.le _ _ a2)];rfl,?_⟩;refine (g3 h1 G0 F1 S e8).mono ?_;rintro _ F2 ⟨rfl,e6⟩;refine ⟨_,rfl,_,by rw [av (e6.le _ _ a2)];rfl,?_⟩;refine (f7 g2 G0 F2 _ e6).mono ?_;rintro _ F3 ⟨rfl,g4⟩;obtain ⟨M,e9,Q,e0,d4,h2,⟨s3,B,P,c5⟩,E⟩:=g4;obtain ⟨g6,c8,X,h6,h4⟩:=bk l S b0.2.2.2.2.1 hS;obtain ⟨h3,g5,z0,d0,h7⟩:=bk h (tY l S) b0.2.2.2.2.2 g6;have d2:num (tY l S) l=num (tY h (tY l S)) l:=by rw [d0,bN c8]
   have e7:tY (qa7 v l h) S=tY h (tY l S)++[qa7 v l h]:=by
    conv=>lhs;unfold tY
    rw [Υ O]
   obtain ⟨a3,_,_⟩:=bk (qa7 v l h) S b0 hS;rw [e7] at a3 ⊢;rw [d2];have e1:inn (tY h (tY l S)) l:=by rw [d0];exact bY c8
   generalize tY h (tY l S)=T at*;refine ⟨_,rfl,s3,by rw [aI,av B];rfl,_,by rw [av (M _ _ a2)];rfl,rfl,λa0 c4=> ?_⟩;refine tR ?_;have h5:T.length<=w.length:=cW T w e9.nodup Q;have L:=P.rd.blen;rw [aO] at L;have D:=ae (Y (aW ⟨(v:Int),(num T l:Int),(num T h:Int)⟩) 201) c4;have f4:=aq F3 a0 (Y (aW ⟨(v:Int),(num T l:Int),(num T h:Int)⟩) 201);show aG prog _ (F3.set a0 (Y (aW ⟨(v:Int),(num T l:Int),(num T h:Int)⟩) 201)) _;replace M:G0.le (F3.set a0 (Y (aW ⟨(v:Int),(num T l:Int),(num T h:Int)⟩) 201)):=λx ob H=>D _ _ (M _ _ H);have P:=P.upto D;have B:=D _ _ B;have E:=D _ _ E;generalize F3.set a0 (Y (aW ⟨(v:Int),(num T l:Int),(num T h:Int)⟩) 201)=F4 at*;refine iM underlying31 FA FB rfl (by decide) M P c5 (x:=⟨V ⟨a0,0,I⟩,1,1⟩) (news:=dh ⟨(v:Int),(num T l:Int),(num T h:Int)⟩) (RdS.new f4 rfl rfl (qX _))
    (λx H=>jm [⟨(v:Int),(num T l:Int),(num T h:Int)⟩] x (by simpa [aV] using H)) (by simp only [L];omega) (by simp only [L];omega) ?_
   intro K F5 a7 c7 b1 c9 c3 _;have new:∀a,s3.qa5=V a->a.block≠G:=λa C e=>by obtain ⟨b4,A⟩:=P.elem C;rw [e,B] at A;simp at A
   have neg:∀a,s3.qa5=V a->a.block≠g:=λa C e=>by obtain ⟨b4,A⟩:=P.elem C;rw [e,E] at A;simp at A
   have B:=c3 _ _ B (λ⟨a,C,e⟩=>new a C e);have E:=c3 _ _ E (λ⟨a,C,e⟩=>neg a C e);have a9:G≠g:=λe=>by rw [e,E] at B;simp at B
   have a8:∀a,K.qa5=V a->a.block≠G/\a.block≠g:=λa C=>by
    obtain ⟨b4,A⟩:=c7.elem C;refine ⟨λe=> ?_,λe=> ?_⟩
    ·rw [e,B] at A;simp at A
    ·rw [e,E] at A;simp at A
   refine ⟨K,rfl,by rw [av (a7 _ _ a2)];rfl,?_⟩;refine tG (b:=G) (o:=2) (by simp) B (by simp) ?_;rw [show (#[ns.v,nE ⟨V ⟨g,0,I⟩,w.length,w.length⟩,s3.v].setIfInBounds 2 K.v:Γ)= #[ns.v,nE ⟨V ⟨g,0,I⟩,w.length,w.length⟩,K.v] from rfl];have b9:G0.le (F5.set G (Y #[ns.v,nE ⟨V ⟨g,0,I⟩,w.length,w.length⟩,K.v] 339)):=aB a7 e0;have a5:=aq F5 G (Y #[ns.v,nE ⟨V ⟨g,0,I⟩,w.length,w.length⟩,K.v] 339);have g9:(F5.set G (Y #[ns.v,nE ⟨V ⟨g,0,I⟩,w.length,w.length⟩,K.v] 339)) g=V (Y (WV w T).toArray 3):=by rw [aw _ _ a9.symm];exact E
   have f9:bP (F5.set G (Y #[ns.v,nE ⟨V ⟨g,0,I⟩,w.length,w.length⟩,K.v] 339)) 201 3 K _:=c7.keep λa C=>aw _ _ (a8 a C).1;generalize F5.set G (Y #[ns.v,nE ⟨V ⟨g,0,I⟩,w.length,w.length⟩,K.v] 339)=F6 at*;have b7:K.len=T.length+1:=by rw [b1,L]
   have c6:i64.wrap ((K.len:Int)+1)=((T.length+2:Nat):Int):=by rw [b7,aJ (by omega)];omega
   refine ⟨_,by rw [aI,av a5];rfl,K,by rw [aI,av a5];rfl,_,rfl,by omega,by simp only;omega,?_⟩;rw [c6];refine tG (b:=g) (o:=num w (qa7 v l h) - 2) (by simp) g9 (by simp [WV];omega) ?_;rw [List.setIfInBounds_toArray,J6 h0 a3 b2 rfl];refine ⟨K,by rw [aI,av ((aw _ _ a9).trans a5)];rfl,?_⟩;dsimp only;rw [c6];refine ⟨by rw [dR a3 (k:=T.length) (by simp)],λx ob H=>aB b9 d4 _ _ (a6 _ _ H),a3,λx H=> ?_,d1,f1,a4,⟨K,(aw _ _ a9).trans a5,?_,λa C=>aT a6 (c9 a C)⟩,aq _ _ _⟩
   ·rcases vd.1 H with H|H
    ·exact Q x H
    ·rw [vy.1 H];exact b2
   ·have e3:aV (brs (T++[qa7 v l h]))=aV (brs T)++dh ⟨(v:Int),(num T l:Int),(num T h:Int)⟩:=by rw [eB e9 e1 g5,d9];simp [aV]
    rw [e3];exact f9.keep λa C=>aw _ _ (a8 a C).2
section
variable {F:PH} {ns:Sl} {S0:List Tr} {t:Tr}
theorem kD (hr:RdS F ns 3 (aV (brs S0))) (h0:Cl S0) (ht:inn S0 t) (hf:x7 (S0.length+4)):
  ν 216 #[ns.v,U (num S0 t)] F λr L=>∃v,r=nL v/\DV L v (pg t)/\F.le L:=by
 have D:=hr.blen;rw [aO] at D;refine qdF ?_;unfold PI;intro M C;refine tR ?_;have l4:=ae (Y zD 33) C;have q4:=aq F M (Y zD 33);generalize F.set M (Y zD 33)=J at*;refine bT underlying76 X5 X7 rfl (by omega) (Va _) (by omega) (by omega) ?_;intro g X;rw [ZR _ rfl,N4,D];refine ⟨_,rfl,?_⟩;have e0:List.replicate S0.length (U 0)=WV S0 []:=by
  apply WJ;intro j;unfold WV;rw [List.getElem?_replicate,yc];by_cases O:j<S0.length
  ·rw [Χ O,N5 O];simp [rnS]
  ·rw [Υ O,VM (by omega)];rfl
 rw [e0];have Q:=ae (Y (WV S0 []).toArray 3) X;have qg:=aq J g (Y (WV S0 []).toArray 3);have a3:=Q _ _ q4;have a4:M≠g:=aH X q4;generalize hG:J.set g (Y (WV S0 []).toArray 3)=Fg at*;intro w h;refine tR ?_;have a0:g≠w:=aH h qg;have N:J w=I:=aT Q h;have lx:=ae (Y #[ns.v,nE ⟨V ⟨g,0,I⟩,S0.length,S0.length⟩,tS I 0 0] 339) h;have hs:WS J (Fg.set w (Y #[ns.v,nE ⟨V ⟨g,0,I⟩,S0.length,S0.length⟩,tS I 0 0] 339)) w g ns S0 []:=
  ⟨Q.trans lx,.nil,λx hx=>(by cases hx),N,X,hr.le l4,⟨pi,aq _ _ _,.inl ⟨rfl,rfl⟩,λa E=>by cases E⟩,lx _ _ qg⟩
 refine (qil h0 hf t ht J _ [] hs).mono ?_;rintro _ G ⟨rfl,W⟩;have ev:tY t []=aU t:=rfl;rw [ev] at*;obtain ⟨H,a1,_,_,_,_,⟨s,gw,go,gs⟩,_⟩:=W;refine ⟨_,rfl,s,by rw [av gw];rfl,?_⟩;have h4:=H _ _ q4;have P:∀a,s.qa5=V a->a.block≠M:=λa E e=>by obtain ⟨a2,A⟩:=go.elem E;rw [e,h4] at A;simp at A
 have hd:DV (dD G M) #[s.v,U (num (aU t) t)] (pg t):=⟨s,rfl,(go.keep λa E=>eQ (P a E)).rd⟩;exact fW (K:=λB L=>∃v,nL B=nL v/\DV L v (pg t)/\F.le L) hd h4 rfl ⟨_,rfl,hd.le (aB (Em _ _) (Cb _ _)),aB (l4.trans H) C⟩
end
theorem bP.keepK {F G:PH} {e size:Nat} {s:Sl} {vs:Ξ} {r:Nat->Prop} (h:bP F e size s vs) (B:dk r F G) (A:∀a,s.qa5=V a->¬r a.block):bP G e size s vs:=by
 rcases h with h|⟨b,g,w,C,D⟩
 ·exact .inl h
 ·exact .inr ⟨b,g,w,B _ _ C (A _ w),D⟩
section
variable {F0 F:PH} {l:Sl} {S:List Tr}
theorem qim (h:F0.le F) (D:bP F 201 3 l (aV (brs S))) (hb:∀a,l.qa5=V a->F0 a.block=I) (O:Cl S) {v:Nat} {A B:Tr} (hA:inn S A) (hB:inn S B) (hf:x7 (S.length+4)):
  ν 243 #[l.v,nL (aW ⟨(v:Int),(num S A:Int),(num S B:Int)⟩)] F λr E=>∃l',r=pk #[l'.v,U (num (eY S (mk v A B)) (mk v A B))]/\F0.le E/\bP E 201 3 l' (aV (brs (eY S (mk v A B))))/\
   (∀a,l'.qa5=V a->F0 a.block=I)/\dk (λb=>∃a,l.qa5=V a/\a.block=b) F E:=by
 have g:=D.rd.blen;rw [aO] at g;refine qdL ?_;unfold PO;intro b3 X;refine tR ?_;have l3:=ae (Y (aW ⟨(v:Int),(num S A:Int),(num S B:Int)⟩) 201) X;have q3:=aq F b3 (Y (aW ⟨(v:Int),(num S A:Int),(num S B:Int)⟩) 201);have n3:∀a,l.qa5=V a->a.block≠b3:=λa ha=>by obtain ⟨b9,a1⟩:=D.elem ha;exact aH X a1
 have D:=D.upto l3;have h:=h.trans l3;generalize F.set b3 (Y (aW ⟨(v:Int),(num S A:Int),(num S B:Int)⟩) 201)=F1 at*;refine ⟨_,by rw [av q3];rfl,_,by rw [av q3];rfl,λhe=> ?_,λhe=> ?_⟩
 ·obtain rfl:=cN hA hB (by have:(num S A:Int)=num S B:=he;omega);have e:mk v A A=A:=by simp [mk]
  have P:eY S A=S:=by unfold eY;rw [Χ hA]
  rw [e,P];exact ⟨_,by rw [av q3];rfl,l,rfl,h,D,hb,dk.of_le l3⟩
 have b2:A≠B:=λe=>he (by rw [e]);have b0:mk v A B=qa7 v A B:=by simp [mk,b2]
 rw [b0];have a5:br S (qa7 v A B)=⟨(v:Int),(num S A:Int),(num S B:Int)⟩:=rfl;refine ⟨λm i E=>∃k:Nat,i=k/\k<=S.length/\m=S.length - k/\E=F1/\br S (qa7 v A B) ∉ (brs S).take k,S.length,⟨0,rfl,by omega,rfl,rfl,by simp⟩,?_⟩;rintro m i E ⟨k,rfl,hk,rfl,rfl,G⟩;unfold Ey;refine ⟨λa8=> ?_,λb8=> ?_⟩
 ·have K:k<S.length:=by omega
  have a2:k<(brs S).length:=by rw [aO];exact K
  obtain ⟨p,hp,a6,_⟩:=VQ D.rd (N5 a2);refine ⟨p,hp,by omega,a8,aW (brs S)[k],rfl,by simpa using a6,aW (br S (qa7 v A B)),rfl,ai q3,decide ((brs S)[k]=br S (qa7 v A B)),λF=>JP (brs S)[k] (br S (qa7 v A B)) F,λa3=> ?_,λN=> ?_⟩
  ·have C:(brs S)[k]=br S (qa7 v A B):=ζ a3;have J:qa7 v A B∈S:=(iA O hA hB).1 (by rw [<- C];exact U9 _);have a7:S[k]=qa7 v A B:=LB O (U9 K) J (by rw [<- C];simp [brs]);have P:eY S (qa7 v A B)=S:=by unfold eY;rw [Χ (.inr J)]
   have hn:=dR O (k:=k) (t:=qa7 v A B) (by rw [N5 K,a7]);have hw:i64.wrap ((k:Int)+2)=((k+2:Nat):Int):=by rw [aJ (by omega)];omega
   rw [P,hn,hw];exact ⟨l,rfl,h,D,hb,dk.of_le l3⟩
  ·refine ⟨S.length - (k+1),by omega,k+1,ff (by omega),by omega,rfl,rfl,?_⟩;rw [W4 a2];intro w;rcases vd.1 w with w|w
   ·exact G w
   ·rw [vy] at w;rw [w] at N;simp at N
 ·have b1:k=S.length:=by omega
  have J:qa7 v A B ∉ S:=λJ=>G (by
   rw [b1,zc (by rw [aO];omega)]
   exact (iA O hA hB).2 J)
  have P:eY S (qa7 v A B)=S++[qa7 v A B]:=by
   unfold eY;rw [Υ];rintro (w|w)
   ·cases w
   ·exact J w
  rw [P];unfold Ex;refine ⟨aW (br S (qa7 v A B)),rfl,ai q3,rfl,λH a0=> ?_⟩;refine tR ?_;have M:=ae (Y (aW (br S (qa7 v A B))) 201) a0;have b4:=aq E H (Y (aW (br S (qa7 v A B))) 201);have a4:=D.upto M;have Q:=h.trans M;generalize E.set H (Y (aW (br S (qa7 v A B))) 201)=F2 at*;refine iM underlying31 FA FB rfl (by decide) Q a4 hb (x:=⟨V ⟨H,0,I⟩,1,1⟩) (news:=dh (br S (qa7 v A B))) (RdS.new b4 rfl rfl (qX _)) (λx hx=>jm [br S (qa7 v A B)] x (by simpa [aV] using hx)) (by simp only [g];omega) (by simp only [g];omega) ?_;intro s' F3 W a9 L b6 b7 _;have hw:i64.wrap ((s'.len:Int)+1)=((S.length+2:Nat):Int):=by rw [L,g,aJ (by simp only;omega) (by simp only;omega)];simp only;omega
  have e3:aV (brs (S++[qa7 v A B]))=aV (brs S)++dh (br S (qa7 v A B)):=by rw [eB O hA hB,<- a5,d9];simp [aV]
  refine ⟨s',rfl,s',?_,W,by rw [e3];exact a9,b6,λx ob hx hn=>b7 _ _ (M _ _ (l3 _ _ hx)) hn⟩;rw [hw];have b5:num (S++[qa7 v A B]) (qa7 v A B)=S.length+2:=by simp only [num,List.idxOf_append,Υ J];simp
  rw [b5]
end
structure RP where
 bp:Nat
 sa:Sl
 sb:Sl
 opc:Int
 o:VY
 da:vE
 db:vE
 A:List Tr
 B:List Tr
def RP.q (p:RP):AP:=⟨0,0,0,0,0,0,0,0,.nilFunc,λx y _=>p.o x y,mK p.da p.db oM,mK p.A p.B []⟩
def RP.in2 (p:RP) (t:Nat->Tr):Prop:=inn p.A (t 0)/\inn p.B (t 1)/\t 2=qa6 mz
theorem RP.in2_in {p:RP} {t:Nat->Tr} (h:p.in2 t):p.q.inK t:=⟨h.1,h.2.1,by rw [h.2.2];exact fU _ _⟩
def RP.obj (p:RP) (nodes seen:Sl):Γ:= #[p.sa.v,U p.da.2,p.sb.v,U p.db.2,U p.opc,nodes.v,seen.v]
structure RF (p:RP):Prop where
 cA:Cl p.A
 cB:Cl p.B
 pA:brs p.A<+:p.da.1
 pB:brs p.B<+:p.db.1
 fA:x7 (p.da.1.length+2)
 fB:x7 (p.db.1.length+2)
 fP:x7 ((p.A.length+2)*(p.B.length+2)+2)
 op:(p.opc=0/\p.o=bW)\/(p.opc=1/\p.o=zS)\/(p.opc=2/\p.o=lj)
theorem RF.af {p:RP} (h:RF p):AF p.q:=by
 refine ⟨λi hi=> ?_,λi hi=> ?_,λi hi=> ?_⟩
 ·match i,hi with
  |0,_=>exact h.cA
  |1,_=>exact h.cB
  |2,_=>exact .nil
 ·match i,hi with
  |0,_=>exact h.pA
  |1,_=>exact h.pB
  |2,_=>exact YL _
 ·match i,hi with
  |0,_=>exact h.fA
  |1,_=>exact h.fB
  |2,_=>simp [RP.q,mK]
structure RE (F0:PH) (p:RP):Prop where
 a:RdS F0 p.sa 3 (aV p.da.1)
 b:RdS F0 p.sb 3 (aV p.db.1)
theorem RE.le {F0 G:PH} {p:RP} (h:RE F0 p) (g:F0.le G):RE G p:=⟨h.a.le g,h.b.le g⟩
structure Ent (p:RP) (e:Br) (u:Nat->Tr):Prop where
 i:p.in2 u
 x:e.v=(num p.A (u 0):Int)
 y:e.l=(num p.B (u 1):Int)
structure SE (p:RP) (S:List Tr) (Ls:List Br):Prop where
 all:∀e∈Ls,∃u,Ent p e u/\inn S (p.q.res u)/\e.h=(num S (p.q.res u):Int)
 nd:(Ls.map λe=>(e.v,e.l)).Nodup
def J7 (p:RP) (Ls Ls':List Br) (n:Nat):Prop:=∀e∈Ls',e∈Ls\/∃u,Ent p e u/\Vg u<=n
theorem Ce {p:RP} (_:RF p) {e:Br} {u w:Nat->Tr} (h:Ent p e u) (g:Ent p e w):p.q.res u=p.q.res w/\Vg u=Vg w:=by
 have A:u 0=w 0:=cN h.i.1 g.i.1 (by have:=h.x;have:=g.x;omega);have B:u 1=w 1:=cN h.i.2.1 g.i.2.1 (by have:=h.y;have:=g.y;omega);have r:u 2=w 2:=by rw [h.i.2.2,g.i.2.2]
 unfold AP.res Vg;rw [A,B,r];exact ⟨rfl,rfl⟩
theorem SE.length {p:RP} {S:List Tr} {Ls:List Br} (h:SE p S Ls):Ls.length<=(p.A.length+2)*(p.B.length+2):=by
 have C:((List.range (p.A.length+2)).flatMap λ(i:Nat)=>(List.range (p.B.length+2)).map λ(j:Nat)=>((i:Int),(j:Int))).length=(p.A.length+2)*(p.B.length+2):=by simp only [List.length_flatMap,ub,V4,List.map_const',List.sum_replicate_nat]
 have:=cW (Ls.map λe=>(e.v,e.l)) ((List.range (p.A.length+2)).flatMap λ(i:Nat)=>(List.range (p.B.length+2)).map λ(j:Nat)=>((i:Int),(j:Int))) h.nd λx w=>by obtain ⟨e,r,rfl⟩:=w9.1 w;obtain ⟨u,g,_⟩:=h.all e r;have E:=dQ g.i.1;have D:=dQ g.i.2.1;exact XV.2 ⟨num p.A (u 0),WU.2 (by omega),w9.2 ⟨num p.B (u 1),WU.2 (by omega),by rw [g.x,g.y]⟩⟩
 rw [C,ub] at this;exact this
structure RS (F0 F:PH) (p:RP) (S:List Tr) (Ls:List Br):Prop where
 le:F0.le F
 nb:F0 p.bp=I
 cl:Cl S
 ok:SE p S Ls
 ex:∃nodes seen:Sl,F p.bp=V (Y (p.obj nodes seen) 320)/\bP F 201 3 nodes (aV (brs S))/\(∀a,nodes.qa5=V a->F0 a.block=I)/\bP F 313 3 seen (aV Ls)/\(∀a,seen.qa5=V a->F0 a.block=I)
theorem qhZ {F:PH} {p:RP} {w seen:Sl} (B:RF p) (D:F p.bp=V (Y (p.obj w seen) 320)) (x y:Bool):
  ν 240 #[ph (V ⟨p.bp,0,I⟩),U (if x then 1 else 0:Nat),U (if y then 1 else 0:Nat)] F λr C=>r=U (if p.o x y then 1 else 0:Nat)/\C=F:=by
 refine qdI ?_;unfold PL;refine ⟨_,rfl,p.opc,by rw [aI,av D];rfl,λh=> ?_,λh=>⟨λE=> ?_,λE=> ?_⟩⟩
 ·have A:p.o=bW:=by rcases B.op with g|g|g<;>first|exact g.2|(exfalso;omega)
  rw [A];cases x<;>cases y<;>exact ⟨congrArg (Value.int .i64) (by decide),rfl⟩
 ·have A:p.o=zS:=by rcases B.op with g|g|g<;>first|exact g.2|(exfalso;omega)
  rw [A];cases x<;>cases y<;>exact ⟨congrArg (Value.int .i64) (by decide),rfl⟩
 ·have A:p.o=lj:=by rcases B.op with g|g|g<;>first|exact g.2|(exfalso;omega)
  rw [A];cases x<;>cases y<;>exact ⟨congrArg (Value.int .i64) (by decide),rfl⟩
def ZX (p:RP) (t:Nat->Tr):Prop:=∀(F0 F:PH) (S:List Tr) (Ls:List Br),RE F0 p->RS F0 F p S Ls->x7 ((tY (p.q.res t) S).length+4)->
 ν 215 #[ph (V ⟨p.bp,0,I⟩),U (num p.A (t 0)),U (num p.B (t 1))] F λr F'=>r=U (num (tY (p.q.res t) S) (p.q.res t))/\∃Ls',RS F0 F' p (tY (p.q.res t) S) Ls'/\J7 p Ls Ls' (Vg t)
section
variable {p:RP} {t:Nat->Tr} {F0 F:PH} {S:List Tr} {Ls:List Br}
theorem SF (M:RF p) (P:p.in2 t) (ih:∀u,p.in2 u->Vg u<Vg t->ZX p u) (he:RE F0 p) (hs:RS F0 F p S Ls) (k8:x7 ((tY (p.q.res t) S).length+4)) (hn:¬((t 0).isL=mY/\(t 1).isL=mY))
  (g6:∀e∈Ls,¬(e.v=(num p.A (t 0):Int)/\e.l=(num p.B (t 1):Int))) {R:ξ->Ψ}
  (hR:∀F' h0,RS F0 F' p (tY (p.q.res t) S) h0->J7 p Ls h0 (Vg t)->R (U (num (tY (p.q.res t) S) (p.q.res t))) F'):
  xx (V ⟨p.bp,0,I⟩) (num p.A (t 0)) (num p.B (t 1)) R F:=by
 have hv:aX (t 0) (t 1) (t 2)<64:=by
  have k0:=λhl=>tI (M.cA.inn_ok P.1) hl;have k1:=λhl=>tI (M.cB.inn_ok P.2.1) hl;unfold aX;cases e0:(t 0).isL with
  |false=>have:=k0 e0;omega
  |true=>
   cases e1:(t 1).isL with
   |false=>have:=k1 e1;omega
   |true=>exact absurd ⟨e0,e1⟩ hn
 have D:=WH M.af (RP.in2_in P) hv;have i1:min ((t 0).top:Int) ((t 1).top:Int)=((aX (t 0) (t 1) (t 2):Nat):Int):=by
  have h2:(t 2).top=64:=by rw [P.2.2];rfl
  unfold aX at hv ⊢;rw [h2] at hv ⊢;omega
 have f7:∀v,lo v (t 2)=qa6 mz:=λv=>by rw [P.2.2];rfl
 have h4:∀v,hi v (t 2)=qa6 mz:=λv=>by rw [P.2.2];rfl
 obtain ⟨W,a6,a7,e9,b1,seen,hb,g8,g4,i3,e5⟩:=hs;have k9:RS F0 F p S Ls:=⟨W,a6,a7,e9,b1,seen,hb,g8,g4,i3,e5⟩;unfold xx;have dA:∀{G:PH},F0.le G->DV G #[p.sa.v,U p.da.2] p.da:=λhl=>⟨p.sa,rfl,(he.le hl).a⟩;have dB:∀{G:PH},F0.le G->DV G #[p.sb.v,U p.db.2] p.db:=λhl=>⟨p.sb,rfl,(he.le hl).b⟩;have b7:∀{G:PH} {n s:Sl},G p.bp=V (Y (p.obj n s) 320)->G.row ⟨p.bp,0,I⟩ #[p.sa.v,U p.da.2]:=λ{G n s} hG i hi=>by
  simp only [aI];rw [av hG]
  match i,hi with
  |0,_=>rfl
  |1,_=>rfl
 have b4:∀{G:PH} {n s:Sl},G p.bp=V (Y (p.obj n s) 320)->G.row (nR ⟨p.bp,0,I⟩ 2) #[p.sb.v,U p.db.2]:=λ{G n s} hG i hi=>by
  simp only [aI];rw [av hG]
  match i,hi with
  |0,_=>rfl
  |1,_=>rfl
 refine ⟨_,rfl,_,rfl,b7 hb,_,rfl,b4 hb,?_⟩;refine (eZ (dA W) M.pA P.1 M.fA).mono ?_;rintro _ F1 ⟨rfl,l1⟩;have j3:=l1 _ _ hb;refine ⟨_,rfl,b4 j3,?_⟩;refine (eZ (dB (W.trans l1)) M.pB P.2.1 M.fB).mono ?_;rintro _ F2 ⟨rfl,lx⟩;have l2:=l1.trans lx;have j0:=l2 _ _ hb;refine ⟨_,rfl,_,rfl,b7 j0,?_⟩;rw [i1];generalize aX (t 0) (t 1) (t 2)=v at*;refine (oO (dA (W.trans l2)) M.pA P.1 M.fA D.lt).mono ?_;rintro _ F3 ⟨rfl,k4⟩;have l3:=l2.trans k4;have j5:=l3 _ _ hb;refine ⟨_,_,rfl,_,rfl,b4 j5,?_⟩;refine (oO (dB (W.trans l3)) M.pB P.2.1 M.fB D.lt).mono ?_;rintro _ F4 ⟨rfl,k2⟩;have l4:=l3.trans k2;refine ⟨_,_,rfl,?_⟩;have j2:RS F0 F4 p S Ls:=⟨W.trans l4,a6,a7,e9,b1,seen,l4 _ _ hb,g8.upto l4,g4,i3.upto l4,e5⟩;have kl:p.in2 (λi=>lo v (t i)):=⟨D.il.1,D.il.2.1,f7 v⟩;have kh:p.in2 (λi=>hi v (t i)):=⟨D.ih.1,D.ih.2.1,h4 v⟩;obtain ⟨a1,a2,X,a3,a4⟩:=bk (p.q.res λi=>lo v (t i)) S D.ol a7;obtain ⟨c1,c2,z1,c3,c4⟩:=bk (p.q.res λi=>hi v (t i)) (tY (p.q.res λi=>lo v (t i)) S) D.oh a1;have K:=sQ a7 (v:=v) (l:=p.q.res λi=>lo v (t i)) (h:=p.q.res λi=>hi v (t i)) ⟨D.lt,D.tl,D.th,D.ol,D.oh⟩;rw [<- D.res] at K;have g1:=zJ (p.q.res λi=>hi v (t i)) (tY (p.q.res λi=>lo v (t i)) S);have g2:=El (tY (p.q.res λi=>hi v (t i)) (tY (p.q.res λi=>lo v (t i)) S)) (p.q.res t);rw [K] at g2;refine (ih _ kl D.sl F0 F4 S Ls he j2 (by omega)).mono ?_;rintro _ F5 ⟨rfl,L1,k5,h8⟩;refine ⟨_,rfl,?_⟩;refine (ih _ kh D.sh F0 F5 _ L1 he k5 (by omega)).mono ?_;rintro _ F6 ⟨rfl,L2,k6,f5⟩;obtain ⟨e7,_,i0,b0,E,g,c8,b2,f3,c6,f1⟩:=k6;refine ⟨_,rfl,E,by rw [aI,av c8];rfl,?_⟩;have k3:num (tY (p.q.res λi=>lo v (t i)) S) (p.q.res λi=>lo v (t i))=num (tY (p.q.res λi=>hi v (t i)) (tY (p.q.res λi=>lo v (t i)) S)) (p.q.res λi=>lo v (t i)):=by rw [c3,bN a2]
 rw [k3];have k7:inn (tY (p.q.res λi=>hi v (t i)) (tY (p.q.res λi=>lo v (t i)) S)) (p.q.res λi=>lo v (t i)):=by rw [c3];exact bY a2
 refine (qim e7 b2 f3 i0 (v:=v) k7 c2 (by omega)).mono ?_;rintro _ F7 ⟨L,rfl,e8,a8,e6,i2⟩;rw [<- D.res,K] at a8 ⊢;have j7:∀a,E.qa5=V a->a.block≠p.bp:=λa H e=>by obtain ⟨b3,r⟩:=b2.elem H;rw [e,c8] at r;simp at r
 have j8:∀a,g.qa5=V a->¬∃a',E.qa5=V a'/\a'.block=a.block:=λa H ⟨a',e4,e⟩=>by obtain ⟨b3,r⟩:=b2.elem e4;obtain ⟨h5,J⟩:=c6.elem H;rw [e,J] at r;simp at r
 have e3:=i2 _ _ c8 (λ⟨a,H,e⟩=>j7 a H e);have c7:=c6.keepK i2 j8;refine ⟨_,_,rfl,?_⟩;refine tG (b:=p.bp) (o:=5) (by simp) e3 (by simp [RP.obj]) ?_;rw [show ((p.obj E g).setIfInBounds 5 L.v:Γ)=p.obj L g from rfl];have g3:∀a,L.qa5=V a->a.block≠p.bp:=λa H e=>by obtain ⟨b3,r⟩:=a8.elem H;rw [e,e3] at r;simp at r
 have f4:∀a,g.qa5=V a->a.block≠p.bp:=λa H e=>by obtain ⟨b3,r⟩:=c7.elem H;rw [e,e3] at r;simp at r
 have h9:F0.le (F7.set p.bp (Y (p.obj L g) 320)):=aB e8 a6;have i4:=aq F7 p.bp (Y (p.obj L g) 320);have h7:bP (F7.set p.bp (Y (p.obj L g) 320)) 201 3 L (aV (brs (tY (p.q.res t) S))):=a8.keep λa H=>aw _ _ (g3 a H);have g7:bP (F7.set p.bp (Y (p.obj L g) 320)) 313 3 g (aV L2):=c7.keep λa H=>aw _ _ (f4 a H);generalize F7.set p.bp (Y (p.obj L g) 320)=F8 at*;refine ⟨g,by rw [aI,av i4];rfl,rfl,λO d1=> ?_⟩;refine tR ?_;generalize hN:num (tY (p.q.res t) S) (p.q.res t)=N at*;have b6:=ae (Y (aW ⟨(num p.A (t 0):Int),(num p.B (t 1):Int),(N:Int)⟩) 313) d1;have h3:=aq F8 O (Y (aW ⟨(num p.A (t 0):Int),(num p.B (t 1):Int),(N:Int)⟩) 313);show aG prog _ (F8.set O (Y (aW ⟨(num p.A (t 0):Int),(num p.B (t 1):Int),(N:Int)⟩) 313)) _;have g5:=h9.trans b6;have j6:=b6 _ _ i4;have b9:=h7.upto b6;have a9:=g7.upto b6;generalize F8.set O (Y (aW ⟨(num p.A (t 0):Int),(num p.B (t 1):Int),(N:Int)⟩) 313)=F9 at*;have l0:=b0.length;have l5:=M.fP;have a5:=a9.rd.blen;have Q3:vA prog 313=V (3,24):=by kernel_rfl
 have Q5:bu prog 313=V (nL #[.int .i64 0,.int .i64 0,.int .i64 0]):=by kernel_rfl
 refine iM underlying318 Q3 Q5 rfl (by decide) g5 a9 f1 (x:=⟨V ⟨O,0,I⟩,1,1⟩) (news:=dh ⟨(num p.A (t 0):Int),(num p.B (t 1):Int),(N:Int)⟩) (RdS.new h3 rfl rfl (qX _))
  (λx hx=>jm [⟨(num p.A (t 0):Int),(num p.B (t 1):Int),(N:Int)⟩] x (by simpa [aV] using hx)) (by simp only [a5];omega) (by simp only [a5];omega) ?_
 intro Q j4 d3 a0 i5 d2 b8 _;have g9:∀a,g.qa5=V a->a.block≠p.bp:=f4;have c5:=b8 _ _ j6 (λ⟨a,H,e⟩=>g9 a H e);have d0:=b9.keepK b8 λa H ⟨a',e4,e⟩=>by obtain ⟨b3,r⟩:=b9.elem H;obtain ⟨h5,J⟩:=a9.elem e4;rw [e,r] at J;simp at J
 refine ⟨Q,rfl,?_⟩;refine tG (b:=p.bp) (o:=6) (by simp) c5 (by simp [RP.obj]) ?_;rw [show ((p.obj L g).setIfInBounds 6 Q.v:Γ)=p.obj L Q from rfl];have f9:∀a,L.qa5=V a->a.block≠p.bp:=g3;have d4:∀a,Q.qa5=V a->a.block≠p.bp:=λa H e=>by obtain ⟨b3,r⟩:=a0.elem H;rw [e,c5] at r;simp at r
 have f6:(p.q.res t).ok:=by rw [D.res];exact Fz D.lt D.tl D.th D.ol D.oh
 obtain ⟨v1,v2,z0,v3,v4⟩:=bk (p.q.res t) S f6 a7;have h6:Ent p ⟨(num p.A (t 0):Int),(num p.B (t 1):Int),(N:Int)⟩ t:=⟨P,rfl,rfl⟩;have b5:∀e∈L2,(e.v,e.l)≠((num p.A (t 0):Int),(num p.B (t 1):Int)):=by
  intro e C hk;simp only [Yq] at hk;rcases f5 e C with h|⟨u,hu,c9⟩
  ·rcases h8 e h with h|⟨u,hu,c9⟩
   ·exact g6 e h hk
   ·have:=(Ce M hu (w:=t) ⟨P,hk.1,hk.2⟩).2;have:=D.sl;omega
  ·have:=(Ce M hu (w:=t) ⟨P,hk.1,hk.2⟩).2;have:=D.sh;omega
 have h1:=hR (j4.set p.bp (Y (p.obj L Q) 320)) (L2++[⟨(num p.A (t 0):Int),(num p.B (t 1):Int),(N:Int)⟩])
  ⟨aB d3 a6,a6,v1,⟨λe C=> ?_,?_⟩,L,Q,aq _ _ _,d0.keep λa H=>aw _ _ (f9 a H),e6,by rw [d9];simpa [aV] using a0.keep λa H=>aw _ _ (d4 a H),d2⟩ ?_
 ·exact h1
 ·rcases vd.1 C with C|C
  ·obtain ⟨u,hu,e2,j1⟩:=b0.all e C;refine ⟨u,hu,?_,?_⟩
   ·rw [<- K];unfold eY;split
    ·exact e2
    ·exact bY e2
   ·rw [j1,<- K];unfold eY;split
    ·rfl
    ·rw [bN e2]
  ·rw [vy.1 C];exact ⟨t,h6,v2,by rw [hN]⟩
 ·rw [yT,Vw];refine ⟨b0.nd,by simp,?_⟩;intro x hx y hy;obtain ⟨e,C,rfl⟩:=w9.1 hx;simp only [xw,List.map_nil,vy] at hy;rw [hy];exact b5 e C
 ·intro e C;rcases vd.1 C with C|C
  ·rcases f5 e C with h|⟨u,hu,c9⟩
   ·rcases h8 e h with h|⟨u,hu,c9⟩
    ·exact .inl h
    ·exact .inr ⟨u,hu,by have:=D.sl;omega⟩
   ·exact .inr ⟨u,hu,by have:=D.sh;omega⟩
  ·rw [vy.1 C];exact .inr ⟨t,h6,qX _⟩
theorem J8 (hf:RF p):∀(n:Nat) (t:Nat->Tr),Vg t<=n->p.in2 t->ZX p t:=by
 intro n;induction n with
 |zero=>intro t hn;have:=lu (t 0);unfold Vg at hn;omega
 |succ n ih=>
  intro t hn ht F0 F S Ls he hs X;obtain ⟨b8,b4,b9,a1,a4,seen,hb,c3,b7,K,b3⟩:=id hs;refine qd4 ?_;unfold PG;have rest:¬((t 0).isL=mY/\(t 1).isL=mY)->mO (V ⟨p.bp,0,I⟩) (num p.A (t 0)) (num p.B (t 1)) mz (λr D=>r=U (num (tY (p.q.res t) S) (p.q.res t))/\∃J,RS F0 D p (tY (p.q.res t) S) J/\J7 p Ls J (Vg t)) F:=by
   intro b0;unfold mO;refine ⟨λh=>(by cases h),λ_=> ?_⟩;have a6:=K.rd.blen;have hL:=a1.length;have b5:=hf.fP;have H:F.cell (nR ⟨p.bp,0,I⟩ 6)=V seen.v:=by rw [aI,av hb];rfl
   refine ⟨λm i D=>∃k:Nat,i=k/\k<=Ls.length/\m=Ls.length - k/\D=F/\∀e∈Ls.take k,¬(e.v=(num p.A (t 0):Int)/\e.l=(num p.B (t 1):Int)),Ls.length,⟨0,rfl,by omega,rfl,rfl,by simp⟩,?_⟩;rintro m i D ⟨k,rfl,hk,rfl,rfl,G⟩;unfold Es;refine ⟨_,rfl,seen,H,λa9=> ?_,λb2=> ?_⟩
   ·have E:k<Ls.length:=by omega
    obtain ⟨a,ha,_,hx,N,hh⟩:=VQ K.rd (N5 E);have W:i64.wrap ((k:Int)+1)=((k+1:Nat):Int):=ff (by omega);have next:¬(Ls[k].v=(num p.A (t 0):Int)/\Ls[k].l=(num p.B (t 1):Int))->∃m',m'<Ls.length - k/\∃k':Nat,((k+1:Nat):Int)=k'/\k'<=Ls.length/\m'=Ls.length - k'/\D=D/\∀e∈Ls.take k',¬(e.v=(num p.A (t 0):Int)/\e.l=(num p.B (t 1):Int)):=λa5=>
     ⟨Ls.length - (k+1),by omega,k+1,rfl,by omega,rfl,rfl,λe g=>by
      rw [W4 E] at g;rcases vd.1 g with g|g
      ·exact G e g
      ·rw [vy.1 g];exact a5⟩
    have ax:D.cell (nR (nR a (nT (k:Int)*3)) (nT 0*1))=V (U Ls[k].v):=by obtain ⟨ab,ao,b6⟩:=a;obtain ⟨b',o',a2,_⟩:=K.rd.cells (by omega);rw [ha] at a2;cases a2;simpa using hx
    refine ⟨seen,H,a,ha,by omega,by omega,by omega,by omega,_,ax,λL=> ?_,λL=> ?_⟩
    ·have ay:D.cell (nR (nR a (nT (k:Int)*3)) (nT 1*1))=V (U Ls[k].l):=by simpa using N
     refine ⟨seen,H,a,ha,by omega,by omega,by omega,by omega,_,ay,?_⟩;unfold qr;refine ⟨λC=> ?_,λC=> ?_⟩
     ·have C:=ζ C;have ah:D.cell (nR (nR a (nT (k:Int)*3)) (nT 2*1))=V (U Ls[k].h):=by simpa using hh
      obtain ⟨u,hu,a0,a3⟩:=a1.all _ (U9 E);have e:=(Ce hf hu (w:=t) ⟨ht,L,C⟩).1;rw [e] at a0 a3;have a7:=gu a0;refine ⟨seen,H,a,ha,by omega,by omega,by omega,by omega,_,ah,?_⟩;rw [a7,a3];exact ⟨rfl,Ls,hs,λe g=> .inl g⟩
     ·rw [W];exact next λM=>ι C M.2
    ·unfold qr;refine ⟨λh=>(by cases h),λ_=> ?_⟩;rw [W];exact next λM=>L M.1
   ·refine SF hf ht (λu hu a9=>ih u (by omega) hu) he hs X b0 (λe g=> ?_) λD J h1 h2=>⟨rfl,J,h1,h2⟩;have E:k=Ls.length:=by omega
    rw [E,wy] at G;exact G e g
  refine ⟨λhx=> ?_,λhx=>rest λM=>hx (dC.2 M.1)⟩;by_cases N:(t 1).isL=mY
  ·have e:decide ((num p.B (t 1):Int)<2)=mY:=ε (dC.2 N);rw [e];have a8:=dC.1 hx;unfold mO;refine ⟨λ_=> ?_,λh=>by cases h⟩;have Q:∀O P:Bool,t 0=qa6 O->t 1=qa6 P->p.q.res t=qa6 (p.o O P):=λO P e0 e1=>by unfold AP.res;rw [e0,e1,ht.2.2];exact nr _ _ _ _
   generalize b1:t 0=y0 at*;generalize c2:t 1=y1 at*;cases y0 with
   |qa7 _ _ _=>cases a8
   |qa6 O=>
    cases y1 with
    |qa7 _ _ _=>cases N
    |qa6 P=>have hr:=Q O P rfl rfl;rw [hr];refine (qhZ hf hb O P).mono ?_;rintro _ D ⟨rfl,rfl⟩;exact ⟨_,rfl,rfl,Ls,hs,λe g=> .inl g⟩
  ·have e:decide ((num p.B (t 1):Int)<2)=mz:=η (λh=>N (dC.1 h));rw [e];exact rest λM=>N M.2
end
abbrev ap2 (o:VY) (a b:Tr):Tr:=ap (λx y _=>o x y) a b (qa6 mz)
structure F2 (o:VY) (a b:Tr):Prop where
 ka:a.ok
 kb:b.ok
 fA:x7 ((aU a).length+2)
 fB:x7 ((aU b).length+2)
 fP:x7 (((aU a).length+2)*((aU b).length+2)+2)
 fT:x7 ((aU (ap2 o a b)).length+4)
theorem cE {o:VY} {a b:Tr} (r:a.ok) (g:b.ok):(ap2 o a b).ok/\∀c,(ap2 o a b).ev c=o (a.ev c) (b.ev c):=by obtain ⟨h,_,w⟩:=fg (o:=λx y _=>o x y) r g (d:=qa6 mz) trivial;exact ⟨h,w⟩
section
variable {F:PH} {v w:Γ} {a b:Tr}
theorem gC {o:VY} {opc:Int} (b5:(opc=0/\o=bW)\/(opc=1/\o=zS)\/(opc=2/\o=lj)) (H:DV F v (pg a)) (hb:DV F w (pg b)) (h:F2 o a b):
  ν 191 #[nL v,nL w,U opc] F λr F'=>∃u,r=nL u/\DV F' u (pg (ap2 o a b))/\F.le F':=by
 obtain ⟨ka,kb,fA,fB,fP,fT⟩:=h;obtain ⟨L,rfl,b0⟩:=H;obtain ⟨N,rfl,b7⟩:=hb;refine qd2 ?_;unfold PE;intro b3 a8;refine tR ?_;have l3:=ae (Y #[L.v,U (pg a).2] 33) a8;have q3:=aq F b3 (Y #[L.v,U (pg a).2] 33);generalize F.set b3 (Y #[L.v,U (pg a).2] 33)=F3 at*;intro b4 a2;refine tR ?_;have A:=ae (Y #[N.v,U (pg b).2] 33) a2;have q4:=aq F3 b4 (Y #[N.v,U (pg b).2] 33);have q3:=A _ _ q3;have l4:=l3.trans A;clear A;generalize F3.set b4 (Y #[N.v,U (pg b).2] 33)=F4 at*;intro b6 W;refine tR ?_;have f6:F b6=I:=aT l4 W;have A:=ae (Y zD 33) W;have q6:=aq F4 b6 (Y zD 33);have q3:=A _ _ q3;have q4:=A _ _ q4;have l6:=l4.trans A;clear A;generalize F4.set b6 (Y zD 33)=M at*;refine ⟨#[L.v,U (pg a).2],rfl,ai q3,#[N.v,U (pg b).2],rfl,ai q4,rfl,rfl,λB D=> ?_⟩;refine tR ?_
 let p:RP:=⟨B,L,N,opc,o,pg a,pg b,aU a,aU b⟩
 have a5:(Array.setIfInBounds (wr (wr (#[tS I 0 0,U 0,tS I 0 0,U 0,U 0,tS I 0 0,tS I 0 0]:Γ) 0 (#[L.v,U (pg a).2]:Γ).toList) 2 (#[N.v,U (pg b).2]:Γ).toList) 4 (U opc))=p.obj pi pi:=rfl;rw [a5];have A:=ae (Y (p.obj pi pi) 320) D;have b8:=aq M B (Y (p.obj pi pi) 320);have b9:=A _ _ q3;have b1:=A _ _ q4;have b2:RF p:=⟨bv ka,bv kb,YL _,YL _,by show x7 ((brs (aU a)).length+2);rw [aO];exact fA,by show x7 ((brs (aU b)).length+2);rw [aO];exact fB,fP,b5⟩;have a6:RE M p:=⟨b0.le l6,b7.le l6⟩;have a4:RS M (M.set B (Y (p.obj pi pi) 320)) p [] []:=⟨A,D,.nil,⟨λe he=>(by cases he),by simp⟩,pi,pi,b8,.inl ⟨rfl,rfl⟩,λa H=>(by cases H),.inl ⟨rfl,rfl⟩,λa H=>by cases H⟩;generalize M.set B (Y (p.obj pi pi) 320)=F7 at*;refine ⟨(pg a).2,by rw [av b9];rfl,(pg b).2,by rw [av b1];rfl,?_⟩;have C:p.q.res (mK a b (qa6 mz))=ap2 o a b:=rfl;have a0:=J8 b2 _ (mK a b (qa6 mz)) (qX _) ⟨bH ka,bH kb,rfl⟩ M F7 [] [] a6 a4 (by rw [C];exact fT);rw [C] at a0;refine a0.mono ?_;rintro _ F8 ⟨rfl,c3,a9,_⟩;obtain ⟨E,c2,X,_,g,seen,J,a1,P,_,_⟩:=a9;replace J:F8 B=V (Y (p.obj g seen) 320):=J;refine ⟨_,rfl,g,by rw [av J];rfl,?_⟩;have ev:tY (ap2 o a b) []=aU (ap2 o a b):=rfl;rw [ev] at*;have a3:=E _ _ q6
 have Q:bP (dD F8 b6) 201 3 g (aV (brs (aU (ap2 o a b)))):=a1.keep λa H=>eQ (λe=>by
  have:=P a H;rw [e,q6] at this
  cases this)
 have a7:=(cE (o:=o) ka kb).1;refine (iT (kD Q.rd X (bH a7) fT) a3).mono ?_;rintro _ F9 ⟨u,rfl,⟨G,hu,lG,gG⟩,l9,q9⟩;refine ⟨_,rfl,?_⟩;exact fW (K:=λO F'=>∃u,nL O=nL u/\DV F' u (pg (ap2 o a b))/\F.le F') hu q9 rfl ⟨_,rfl,hu.le (aB lG gG),aB (l6.trans (E.trans l9)) f6⟩
theorem sV (O:DV F v (pg a)) (P:DV F w (pg b)) (h:F2 bW a b):ν 159 #[nL v,nL w] F λr C=>∃u,r=nL u/\DV C u (pg (ap2 bW a b))/\F.le C:=by refine qd0 ?_;unfold PC;intro X D;refine tR ?_;have l2:=ae (Y v 33) D;have q2:=aq F X (Y v 33);generalize F.set X (Y v 33)=F2 at*;intro J E;refine tR ?_;have g:=ae (Y w 33) E;have q3:=aq F2 J (Y w 33);have q2:=g _ _ q2;have W:=l2.trans g;clear g;generalize F2.set J (Y w 33)=N at*;intro H B;refine tR ?_;have M:F H=I:=aT W B;have g:=ae (Y zD 33) B;have q4:=aq N H (Y zD 33);have q2:=g _ _ q2;have q3:=g _ _ q3;have L:=W.trans g;clear g;generalize N.set H (Y zD 33)=F4 at*;refine ⟨v,O.size,ai q2,w,P.size,ai q3,?_⟩;have ld:=d7 L M;refine (iT (gC (opc:=0) (.inl ⟨rfl,rfl⟩) (O.le ld) (P.le ld) h) q4).mono ?_;rintro _ F5 ⟨z,rfl,⟨G,Q,lG,gG⟩,l5,q5⟩;refine ⟨_,rfl,?_⟩;exact fW (K:=λA C=>∃u,nL A=nL u/\DV C u (pg (ap2 bW a b))/\F.le C) Q q5 rfl ⟨_,rfl,Q.le (aB lG gG),aB (L.trans l5) M⟩
theorem Cg (O:DV F v (pg a)) (P:DV F w (pg b)) (h:F2 zS a b):ν 158 #[nL v,nL w] F λr C=>∃u,r=nL u/\DV C u (pg (ap2 zS a b))/\F.le C:=by refine qdZ ?_;unfold PB;intro X D;refine tR ?_;have l2:=ae (Y v 33) D;have q2:=aq F X (Y v 33);generalize F.set X (Y v 33)=F2 at*;intro J E;refine tR ?_;have g:=ae (Y w 33) E;have q3:=aq F2 J (Y w 33);have q2:=g _ _ q2;have W:=l2.trans g;clear g;generalize F2.set J (Y w 33)=N at*;intro H B;refine tR ?_;have M:F H=I:=aT W B;have g:=ae (Y zD 33) B;have q4:=aq N H (Y zD 33);have q2:=g _ _ q2;have q3:=g _ _ q3;have L:=W.trans g;clear g;generalize N.set H (Y zD 33)=F4 at*;refine ⟨v,O.size,ai q2,w,P.size,ai q3,?_⟩;have ld:=d7 L M;refine (iT (gC (opc:=1) (.inr (.inl ⟨rfl,rfl⟩)) (O.le ld) (P.le ld) h) q4).mono ?_;rintro _ F5 ⟨z,rfl,⟨G,Q,lG,gG⟩,l5,q5⟩;refine ⟨_,rfl,?_⟩;exact fW (K:=λA C=>∃u,nL A=nL u/\DV C u (pg (ap2 zS a b))/\F.le C) Q q5 rfl ⟨_,rfl,Q.le (aB lG gG),aB (L.trans l5) M⟩
theorem sW (Q:DV F v (pg a)) (h:F2 lj a (qa6 mY)):ν 157 #[nL v] F λr B=>∃u,r=nL u/\DV B u (pg (ap2 lj a (qa6 mY)))/\F.le B:=by refine qdY ?_;unfold PA;intro X H;refine tR ?_;have N:=ae (Y v 33) H;have q2:=aq F X (Y v 33);generalize F.set X (Y v 33)=P at*;intro C A;refine tR ?_;have O:F C=I:=aT N A;have E:=ae (Y zD 33) A;have q4:=aq P C (Y zD 33);have q2:=E _ _ q2;have M:=N.trans E;clear E;generalize P.set C (Y zD 33)=F4 at*;refine ⟨v,Q.size,ai q2,?_⟩;refine (iT (d8 (F:=dD F4 C) mY) q4).mono ?_;rintro _ F5 ⟨y,rfl,⟨G0,hy,L,J⟩,D,q5⟩;refine ⟨_,rfl,ai (D _ _ q2),?_⟩;have ld:=d7 (M.trans D) O;refine (iT (gC (opc:=2) (.inr (.inr ⟨rfl,rfl⟩)) (Q.le ld) (hy.beside L J) h) q5).mono ?_;rintro _ F6 ⟨z,rfl,⟨G,W,lG,gG⟩,l6,q6⟩;refine ⟨_,rfl,?_⟩;exact fW (K:=λg B=>∃u,nL g=nL u/\DV B u (pg (ap2 lj a (qa6 mY)))/\F.le B) W q6 rfl ⟨_,rfl,W.le (aB lG gG),aB (M.trans (D.trans l6)) O⟩
theorem Ch (Q:DV F v (pg a)) (W:DV F w (pg b)) (h1:F2 lj b (qa6 mY)) (h2:F2 bW a (ap2 lj b (qa6 mY))):
  ν 160 #[nL v,nL w] F λr B=>∃u,r=nL u/\DV B u (pg (ap2 bW a (ap2 lj b (qa6 mY))))/\F.le B:=by
 refine qd1 ?_;unfold PD;intro b2 D;refine tR ?_;have l2:=ae (Y v 33) D;have q2:=aq F b2 (Y v 33);generalize F.set b2 (Y v 33)=F2 at*;intro O J;refine tR ?_;have g:=ae (Y w 33) J;have q3:=aq F2 O (Y w 33);have q2:=g _ _ q2;have l3:=l2.trans g;clear g;generalize F2.set O (Y w 33)=P at*;intro M A;refine tR ?_;have H:F M=I:=aT l3 A;have g:=ae (Y zD 33) A;have q4:=aq P M (Y zD 33);have q2:=g _ _ q2;have q3:=g _ _ q3;have E:=l3.trans g;clear g;generalize P.set M (Y zD 33)=F4 at*;refine ⟨v,Q.size,ai q2,w,W.size,ai q3,?_⟩;refine (iT (sW (W.le (d7 E H)) h1) q4).mono ?_;rintro _ F5 ⟨y,rfl,⟨G0,hy,N,L⟩,C,q5⟩;refine ⟨_,rfl,ai (C _ _ q2),?_⟩;refine (iT (sV (Q.le (d7 (E.trans C) H)) (hy.beside N L) h2) q5).mono ?_;rintro _ F6 ⟨z,rfl,⟨G,X,lG,gG⟩,l6,q6⟩;refine ⟨_,rfl,?_⟩;exact fW (K:=λh B=>∃u,nL h=nL u/\DV B u (pg (ap2 bW a (ap2 lj b (qa6 mY))))/\F.le B) X q6 rfl ⟨_,rfl,X.le (aB lG gG),aB (E.trans (C.trans l6)) H⟩
end
theorem sX {n v:Nat} {t:Tr} (h:dT n t):dT n (lo v t):=by
 cases t with
 |qa6 b=>trivial
 |qa7 w l r=>
  simp only [lo];split
  ·exact h.2.1
  ·exact h
theorem sY {n v:Nat} {t:Tr} (h:dT n t):dT n (hi v t):=by
 cases t with
 |qa6 b=>trivial
 |qa7 w l r=>
  simp only [hi];split
  ·exact h.2.2
  ·exact h
theorem J9 {n v:Nat} {l h:Tr} (w:v<n) (g:dT n l) (r:dT n h):dT n (mk v l h):=by
 unfold mk;split
 ·exact g
 ·exact ⟨w,g,r⟩
theorem oe {n:Nat} {t:Tr} (h:dT n t) (g:t.isL=mz):t.top<n:=by
 cases t with
 |qa6 b=>cases g
 |qa7 v l r=>exact h.1
theorem Ka (o:Wq) {n:Nat}:∀(k:Nat) (a b d:Tr),a.sz+b.sz+d.sz<=k->a.ok->b.ok->d.ok->dT n a->dT n b->dT n d->dT n (ap o a b d):=by
 intro k;induction k with
 |zero=>intro a b d hk;have:=lu a;omega
 |succ k ih=>
  intro a b d hk w A hd W nb nd;by_cases hv:aX a b d<64
  ·have N:=xS (o:=o) w A hd hv;have v1:aX a b d<=a.top:=by unfold aX;omega
   have v2:aX a b d<=b.top:=by unfold aX;omega
   have v3:aX a b d<=d.top:=by unfold aX;omega
   have g:aX a b d=a.top\/aX a b d=b.top\/aX a b d=d.top:=by unfold aX;omega
   generalize aX a b d=v at*;have h:∀{t:Tr},v=t.top->t.isL=mz:=λ{t} e=>by
    cases t with
    |qa6 b=>simp only [top] at e;omega
    |qa7 _ _ _=>rfl
   obtain ⟨D,a2,b3,P,b8⟩:=cx w v1;obtain ⟨L,b4,b6,Q,b1⟩:=cx A v2;obtain ⟨J,b5,b7,C,a5⟩:=cx hd v3;obtain ⟨X,a3,a9,a0,b2⟩:=cy w v1;obtain ⟨M,a8,b0,K,a1⟩:=cy A v2;obtain ⟨H,a7,a6,O,a4⟩:=cy hd v3;have E:v<n:=by
    rcases g with e|e|e
    ·have:=oe W (h e);omega
    ·have:=oe nb (h e);omega
    ·have:=oe nd (h e);omega
   have G:(lo v a).sz+(lo v b).sz+(lo v d).sz<=k:=by
    rcases g with e|e|e
    ·have:=P e.symm (h e);omega
    ·have:=Q e.symm (h e);omega
    ·have:=C e.symm (h e);omega
   have B:(hi v a).sz+(hi v b).sz+(hi v d).sz<=k:=by
    rcases g with e|e|e
    ·have:=a0 e.symm (h e);omega
    ·have:=K e.symm (h e);omega
    ·have:=O e.symm (h e);omega
   rw [N];exact J9 E (ih _ _ _ G D L J (sX W) (sX nb) (sX nd)) (ih _ _ _ B X M H (sY W) (sY nb) (sY nd))
  ·unfold aX at hv;obtain ⟨p,rfl⟩:=gr w (by omega);obtain ⟨q,rfl⟩:=gr A (by omega);obtain ⟨r,rfl⟩:=gr hd (by omega);rw [nr];trivial
theorem Cj {n:Nat} (g:n<=64):∀(t:Tr),t.ok->dT n t->Xp t+1<=2 ^ (n - min n t.top)
 |qa6 b,_,_=>by
  have:n - min n (qa6 b).top=0:=by simp only [top];omega
  rw [this];simp [Xp]
 |qa7 v l h,⟨h0,h1,h2,h3,h4,h5⟩,⟨b0,b1,b2⟩=>by
  have il:=Cj g l h4 b1;have ih:=Cj g h h5 b2;have r:2 ^ (n - min n l.top)<=2 ^ (n - (v+1)):=Wu (by decide) (by omega);have w:2 ^ (n - min n h.top)<=2 ^ (n - (v+1)):=Wu (by decide) (by omega);have e:n - min n (qa7 v l h).top=n - (v+1)+1:=by simp only [top];omega
  rw [e,Nat.pow_succ];simp only [Xp];omega
def Sx (n:Nat) (t:Tr):Prop:=t.ok/\dT n t
theorem Sx.cnt63 {n:Nat} {t:Tr} (h:Sx n t) (g:n<=6):Xp t<=63:=by have w:=Cj (by omega:n<=64) t h.1 h.2;have r:2 ^ (n - min n t.top)<=2 ^ 6:=Wu (by decide) (by omega);omega
theorem Sx.small {n:Nat} {t:Tr} (h:Sx n t) (g:n<=6):gU t:=J4 h.1 (by have:=h.cnt63 g;omega)
theorem Sx.len {n:Nat} {t:Tr} (h:Sx n t) (g:n<=6):(aU t).length<=63:=Wz (pc t) (h.cnt63 g)
theorem Sx.ap {n:Nat} {o:Wq} {a b d:Tr} (h:Sx n a) (g:Sx n b) (hd:Sx n d):Sx n (Tr.ap o a b d):=⟨LA h.1 g.1 hd.1,Ka o _ a b d (qX _) h.1 g.1 hd.1 h.2 g.2 hd.2⟩
theorem Sx.qa6 (n:Nat) (b:Bool):Sx n (Tr.qa6 b):=⟨trivial,trivial⟩
theorem Sx.ap2 {n:Nat} {o:VY} {a b:Tr} (h:Sx n a) (g:Sx n b):Sx n (ap2 o a b):=Sx.ap h g (Sx.qa6 n _)
theorem Sx.tv {n v:Nat} (g:v<n) (h:n<=6):Sx n (tv v):=⟨qdW (by omega),g,trivial,trivial⟩
theorem Sx.f2 {n:Nat} {o:VY} {a b:Tr} (r:Sx n a) (h:Sx n b) (g:n<=6):F2 o a b:=by have A:=r.len g;have w:=h.len g;have lt:=(r.ap2 (o:=o) h).len g;have B:((aU a).length+2)*((aU b).length+2)<=65*65:=Yo (by omega) (by omega);exact ⟨r.1,h.1,by omega,by omega,by omega,by omega⟩
theorem PR {v:Nat} (h:v<64):u64.wrap (v:Int)=(v:Int):=iB (by omega) (by omega)
theorem Kb {S:Tr->Prop} {f:FuncId} {args:Γ} {F:PH} {x:Nat} {o:Obj} (h:aj prog f args (dD F x) λr A=>∃w t,r=nL w/\S t/\DV A w (pg t)/\(dD F x).le A) (C:F x=V o):
  aj prog f args F λr A=>∃w t,r=nL w/\S t/\(∃G,DV G w (pg t)/\G.le A/\G x=I)/\F.le A/\A x=V o:=
 (aj.avoid h C).mono λ_ _ ⟨G,⟨w,t,E,J,D,H⟩,B,q,g⟩=>⟨w,t,E,J,⟨G,D,B,g⟩,gT H B q C,q⟩
def SG (l:Φ) (k:Nat):Bool:=
 if h:k / 8<l.length then decide (u8.wrap ((BitVec.ofInt (u8).bits (Int.fdiv l[k / 8] (2 ^ (min (nT (((k % 8:Nat):Int))) (u8).bits))) &&& BitVec.ofInt (u8).bits (1:Int)).toNat)=(1:Int)) else mz
def iW (l:Φ):Nat->Nat->Nat->Tr
 |0,_,k=>Tr.qa6 (SG l k)
 |m+1,v,k=>ap2 zS (ap2 bW (tv v) (iW l m (v+1) (k+2 ^ v))) (ap2 bW (iW l m (v+1) k) (ap2 lj (tv v) (Tr.qa6 mY)))
theorem Ck {n:Nat} (J:n<=6):∀(m v k:Nat),v+m=n->k<2 ^ v->∀(F:PH) (sl:Sl) (l:Φ),RdS F sl 1 (l.map (Value.int .u8))->
  ν 127 #[sl.v,U n,U v,U k] F λr B=>∃u t,r=nL u/\(Sx n t/\t=iW l m v k)/\DV B u (pg t)/\F.le B:=by
 intro m;induction m with
 |zero=>
  intro v k c8 hk F sl l hr;obtain rfl:v=n:=by omega
  have a4:k<64:=Nat.lt_of_lt_of_le hk (Wu (by decide) J);refine Py ?_;unfold J2;intro D A;refine tR ?_;have l8:=ae (Y zD 33) A;have q8:=aq F D (Y zD 33);have a3:=hr.le l8;generalize F.set D (Y zD 33)=F8 at*;have hd:i64.wrap (Int.tdiv (k:Int) 8)=((k / 8:Nat):Int):=by rw [Y9 (by omega),aJ (by omega)];rfl
  have hm:u64.wrap (sq (k:Int) 8)=((k % 8:Nat):Int):=by rw [Xu (by omega),iB (by omega) (by omega)];rfl
  have W:=a3.len;simp at W;refine ⟨λ_=>⟨λa2=> ?_,λ_=> ?_⟩,λh=>absurd rfl h⟩
  ·rw [hd] at a2 ⊢;have a5:k / 8<l.length:=by omega
   obtain ⟨b,o,hb,hc⟩:=a3.cells (by omega);have O:=hc (k / 8) (by simpa using a5);refine ⟨_,hb,by omega,a2,l[k / 8],by rw [aI,N4,xB];simpa using O,by rw [hm];omega,?_⟩;refine (iT (d8 (F:=dD F8 D) _) q8).mono ?_;rintro _ F9 ⟨u,rfl,⟨G,hu,X,gG⟩,l9,P⟩;refine ⟨_,rfl,?_⟩;exact fW (K:=λg B=>∃u t,nL g=nL u/\(Sx v t/\t=iW l 0 v k)/\DV B u (pg t)/\F.le B) hu P rfl ⟨_,_,rfl,⟨Sx.qa6 v _,by rw [iW,SG,dif_pos a5,hm]⟩,hu.le (aB X gG),aB (l8.trans l9) A⟩
  ·rename_i a7;rw [hd] at a7;refine (iT (d8 (F:=dD F8 D) mz) q8).mono ?_;rintro _ F9 ⟨u,rfl,⟨G,hu,X,gG⟩,l9,P⟩;refine ⟨_,rfl,?_⟩;exact fW (K:=λg B=>∃u t,nL g=nL u/\(Sx v t/\t=iW l 0 v k)/\DV B u (pg t)/\F.le B) hu P rfl ⟨_,_,rfl,⟨Sx.qa6 v _,by rw [iW,SG,dif_neg (by omega)]⟩,hu.le (aB X gG),aB (l8.trans l9) A⟩
 |succ m ih=>
  intro v k c8 hk F sl l hr;have E:v<n:=by omega
  have a4:k<64:=Nat.lt_of_lt_of_le hk (Wz (Wu (by decide:2>0) (by omega:v<=6)) (by decide));have d1:2 ^ v<=32:=Wz (Wu (by decide:2>0) (by omega:v<=5)) (by decide);refine Py ?_;unfold J2;intro D A;refine tR ?_;have l8:=ae (Y zD 33) A;have q8:=aq F D (Y zD 33);generalize F.set D (Y zD 33)=F8 at*;refine ⟨λh=>by omega,λ_=> ?_⟩;have L:=uJ (F:=dD F8 D) (v:Int);rw [Nh (by omega)] at L;refine (Cc L q8).mono ?_;rintro _ F9 ⟨x,rfl,⟨G,hx,X,gG⟩,l9,P⟩;refine ⟨_,_,rfl,?_⟩;intro b9 a0;refine tR ?_;refine Ud (aq _ _ _) hx.size rfl hx.st ?_;rw [aR];have e2:D≠b9:=aH a0 P;have lx:=ae (Y x 33) a0;have Q:=aq F9 b9 (Y x 33);have b4:=lx _ _ P;have M:=hx.beside (X.trans lx) gG;have N:=l8.trans (l9.trans lx);generalize F9.set b9 (Y x 33)=b5 at*;have wv:i64.wrap ((v:Int)+1)=((v+1:Nat):Int):=ff (by omega);have w2:i64.wrap ((1:Int)*2 ^ (min (nT (u64.wrap (v:Int))) (i64).bits))=((2 ^ v:Nat):Int):=by
   rw [PR (by omega)];have hm:min (nT (v:Int)) (i64).bits=v:=by simp only [IntKind.bits,N4];omega
   have e1:(1:Int)*2 ^ v=((2 ^ v:Nat):Int):=by simp
   rw [hm,e1,aJ (by omega)]
  have wk:i64.wrap ((k:Int)+((2 ^ v:Nat):Int))=((k+2 ^ v:Nat):Int):=by rw [aJ (by omega)];omega
  rw [w2,wk,wv];refine ⟨x,hx.size,ai Q,by rw [PR (by omega)];omega,x,hx.size,ai Q,?_⟩;have d2:2 ^ (v+1)=2 ^ v+2 ^ v:=by rw [Nat.pow_succ];omega
  refine (Kb (ih (v+1) (k+2 ^ v) (by omega) (by omega) (dD b5 D) sl l (hr.le (d7 N A))) b4).mono ?_;rintro _ d4 ⟨u1,t1,rfl,⟨k1,e1⟩,⟨G1,h1,b7,b1⟩,w,c3⟩;refine ⟨_,rfl,ai (w _ _ Q),ai (w _ _ Q),?_⟩;refine (iT (sV (M.le (oc w)) (h1.beside b7 b1) ((Sx.tv E J).f2 k1 J)) c3).mono ?_;rintro _ b3 ⟨u2,rfl,⟨G2,h2,c5,b0⟩,C,b2⟩;have k2:=(Sx.tv E J).ap2 (o:=bW) k1;refine ⟨_,rfl,ai (C _ _ (w _ _ Q)),?_⟩;refine (Kb (ih (v+1) k (by omega) (by omega) (dD b3 D) sl l (hr.le (d7 (N.trans (w.trans C)) A))) b2).mono ?_;rintro _ e0 ⟨u3,t3,rfl,⟨k3,e3⟩,⟨G3,h3,c7,a9⟩,H,c9⟩;refine ⟨_,rfl,ai (H _ _ (C _ _ (w _ _ Q))),?_⟩;have kx:=(Sx.tv E J).ap2 (o:=lj) (Sx.qa6 n mY);refine (iT (Ch (h3.beside c7 a9) (M.le (oc (w.trans (C.trans H)))) ((Sx.tv E J).f2 (Sx.qa6 n mY) J) (k3.f2 kx J)) c9).mono ?_;rintro _ e4 ⟨u4,rfl,⟨G4,h4,d0,a8⟩,a1,c6⟩;have k4:=k3.ap2 (o:=bW) kx;refine ⟨_,rfl,?_⟩;refine (iT (Cg ((h2.beside c5 b0).le (oc (H.trans a1))) (h4.beside d0 a8) (k2.f2 k4 J)) c6).mono ?_;rintro _ d3 ⟨u5,rfl,⟨G5,h5,c4,a6⟩,c2,b6⟩;refine ⟨_,rfl,?_⟩;exact fW (K:=λg B=>∃u t,nL g=nL u/\(Sx n t/\t=iW l (m+1) v k)/\DV B u (pg t)/\F.le B) h5 b6 rfl ⟨_,_,rfl,⟨k2.ap2 k4,by rw [iW,<- e1,<- e3]⟩,h5.le (aB c4 a6),aB (N.trans (w.trans (C.trans (H.trans (a1.trans c2))))) A⟩
theorem oP {n:Nat} (D:n<=6) {F:PH} {sl:Sl} {l:Φ} (J:RdS F sl 1 (l.map (Value.int .u8))):ν 93 #[sl.v,U n] F λr w=>∃u t,r=nL u/\(Sx n t/\t=iW l n 0 0)/\DV w u (pg t)/\F.le w:=by
 refine aat ?_;unfold WQ;intro A g;refine tR ?_;have B:=ae (Y zD 33) g;have q4:=aq F A (Y zD 33);generalize F.set A (Y zD 33)=H at*;have e:max (0:Int) (min (n:Int) 6)=(n:Int):=by omega
 rw [e];refine (Kb (Ck D n 0 0 (by omega) (by simp) (dD H A) sl l (J.le (d7 B g))) q4).mono ?_;rintro _ O ⟨u,t,rfl,L,⟨G,C,N,M⟩,E,q5⟩;refine ⟨_,rfl,?_⟩;exact fW (K:=λh w=>∃u t,nL h=nL u/\(Sx n t/\t=iW l n 0 0)/\DV w u (pg t)/\F.le w) C q5 rfl ⟨_,_,rfl,L,C.le (aB N M),aB (B.trans E) g⟩
section
variable {F:PH} {v:Γ} {d:vE}
open Classical in
theorem Cm (hd:DV F v d) (hf:x7 (d.1.length+4)) {S:List Tr} (w:Cl S) {k:Nat} (hk:S.length=k) (a0:k<d.1.length) (hb:brs S=d.1.take k):
  ν 245 #[nL v,U k] F λr F'=>r=nS (decide (zH S d.1[k]))/\F.le F':=by
 have W:=hd;obtain ⟨s,rfl,hr⟩:=hd;have a3:=hr.blen;have H:brs S<+:d.1:=by rw [hb];exact List.take_prefix _ _
 generalize hB:d.1[k]=B;have Q:d.1[k]? =V B:=by rw [N5 a0,hB]
 refine qdM ?_;unfold PQ;intro b2 a1;refine tR ?_;have l2:=ae (Y #[s.v,U d.2] 33) a1;have q2:=aq F b2 (Y #[s.v,U d.2] 33);generalize F.set b2 (Y #[s.v,U d.2] 33)=F2 at*;obtain ⟨p,hp,A,_⟩:=VQ (hr.le l2) Q;refine ⟨s,by rw [av q2];rfl,p,hp,by omega,by omega,aW B,rfl,by simpa using A,?_⟩;intro N a2;refine tR ?_;refine Ud (aq _ _ _) rfl rfl (iC _) ?_;rw [aR];have lx:=ae (Y (aW B) 201) a2;have q5:=aq F2 N (Y (aW B) 201);have q2:=lx _ _ q2;have g:=l2.trans lx;generalize F2.set N (Y (aW B) 201)=X at*;have c0:∀{G:PH},X.le G->G.cell (ou N 0 I)=V (U B.v):=λh=>by rw [av (h _ _ q5)];rfl
 have c1:∀{G:PH},X.le G->G.cell (ou N 1 I)=V (U B.l):=λh=>by rw [av (h _ _ q5)];rfl
 have c2:∀{G:PH},X.le G->G.cell (ou N 2 I)=V (U B.h):=λh=>by rw [av (h _ _ q5)];rfl
 have D:=PH.le_rfl (F:=X);have hw:i64.wrap ((k:Int)+2)=(k:Int)+2:=by rw [aJ (by omega)]
 have bad:∀{G:PH},F.le G->¬zH S B->(nS mz=nS (decide (zH S B))/\F.le G):=λ{G} hg hn=>⟨by rw [η hn],hg⟩;rw [hw];refine ⟨_,c0 D,λh=>bad g λhF=>(by have:=cq w hF;omega),λh1=> ?_⟩;refine ⟨_,c0 D,λh=>bad g λhF=>(by have:=cq w hF;omega),λh2=> ?_⟩;refine ⟨_,c1 D,λh=>bad g λhF=>(by have:=cq w hF;omega),λh3=> ?_⟩;refine ⟨_,c2 D,λh=>bad g λhF=>(by have:=cq w hF;omega),λh4=> ?_⟩;refine ⟨_,c1 D,λh=>bad g λhF=>(by have:=cq w hF;omega),λh5=> ?_⟩;refine ⟨_,c2 D,λh=>bad g λhF=>(by have:=cq w hF;omega),λh6=> ?_⟩;refine ⟨_,c1 D,_,c2 D,λh=>bad g λhF=>(by have:=cq w hF;omega),λh7=> ?_⟩;have il:inn S (tr S B.l.toNat):=gE (by omega);have ih:inn S (tr S B.h.toNat):=gE (by omega);have nl:((num S (tr S B.l.toNat):Nat):Int)=B.l:=by rw [fV w (by omega)];omega
 have nh:((num S (tr S B.h.toNat):Nat):Int)=B.h:=by rw [fV w (by omega)];omega
 refine ⟨_,rfl,ai q2,_,c1 D,_,c0 D,?_⟩;have s1:=eZ (W.le g) H il (by omega);rw [nl] at s1;refine s1.mono ?_;rintro _ F6 ⟨rfl,K⟩;refine ⟨_,rfl,c0 K,λh=>bad (g.trans K) λhF=>(by have:=cq w hF;omega),λh9=> ?_⟩;refine ⟨_,rfl,ai (K _ _ q2),_,c2 K,_,c0 K,?_⟩;have s2:=eZ (W.le (g.trans K)) H ih (by omega);rw [nh] at s2;refine s2.mono ?_;rintro _ F7 ⟨rfl,l7⟩;have E:=K.trans l7;refine ⟨_,rfl,c0 E,c0 E,λh=>bad (g.trans E) λhF=>(by have:=cq w hF;omega),λa6=> ?_⟩;have P:∀i,i<k->∀x,d.1[i]? =V x->x∈brs S:=λi hi x J=>by rw [hb];exact vQ (by rw [YC hi];exact J)
 refine ⟨λm i F'=>∃j:Nat,i=j/\j<=k/\m=k - j/\F7.le F'/\∀x∈d.1.take j,x≠B,k,⟨0,rfl,by omega,rfl,PH.le_rfl,by simp⟩,?_⟩;rintro m i F8 ⟨j,rfl,hj,rfl,l8,L⟩;have C:=E.trans l8;unfold EA;refine ⟨λa5=> ?_,λa4=> ?_⟩
 ·have M:j<d.1.length:=by omega
  have O:=N5 M;obtain ⟨p,hp,A,_⟩:=VQ (hr.le (g.trans C)) O;refine ⟨s,by rw [av (C _ _ q2)];rfl,p,hp,by omega,by omega,aW d.1[j],rfl,by simpa using A,aW B,rfl,ai (C _ _ q5),_,λF=>JP _ _ F,λhe=> ?_,λhn=> ?_⟩
  ·refine bad (g.trans C) λhF=>(cq w hF).2.2.2.2.2.2.2.1 ?_;rw [<- ζ he];exact P j (by omega) _ O
  ·refine ⟨k - (j+1),by omega,j+1,ff (by omega),by omega,rfl,l8,λx J=> ?_⟩;rw [W4 M] at J;rcases vd.1 J with J|J
   ·exact L x J
   ·rw [vy.1 J];exact ι hn
 ·obtain rfl:j=k:=by omega
  unfold Ez;refine ⟨?_,g.trans C⟩;rw [ε (Ek w (by omega) (by omega) (by omega) (by omega) (by omega) (by omega) h7 (λhm=>L B (by rw [<- hb];exact hm) rfl) (by omega) (by omega))]
open Classical in
theorem GC (hd:DV F v d) (hf:x7 (d.1.length+4)):ν 217 #[nL v] F λr F'=>r=nS (decide (iS d))/\F.le F':=by
 have M:=hd;obtain ⟨s,rfl,hr⟩:=hd;have a2:=hr.blen;refine qdG ?_;unfold PJ;intro Q W;refine tR ?_;have E:=ae (Y #[s.v,U d.2] 33) W;have q1:=aq F Q (Y #[s.v,U d.2] 33);generalize F.set Q (Y #[s.v,U d.2] 33)=O at*;have bad:∀{G:PH},F.le G->¬iS d->(nS mz=nS (decide (iS d))/\F.le G):=λ{G} hg hn=>⟨by rw [η hn],hg⟩;have g:iS d->0<=d.2/\d.2<=(d.1.length:Int)+1:=by rintro ⟨t,ht,rfl⟩;have h1:=dQ (bH ht);have h2:(pg t).1.length=(aU t).length:=aO _;have h3:(pg t).2=((num (aU t) t:Nat):Int):=rfl;omega
 have hw:i64.wrap ((s.len:Int)+2)=(s.len:Int)+2:=by rw [aJ (by omega)]
 have c1:∀{G:PH},O.le G->G.cell (ou Q 1 I)=V (U d.2):=λh=>by rw [av (h _ _ q1)];rfl
 have c0:∀{G:PH},O.le G->G.cell (ou Q 0 I)=V s.v:=λh=>by rw [av (h _ _ q1)];rfl
 have P:=PH.le_rfl (F:=O);refine ⟨_,c1 P,λh=>bad E λN=>(by have:=g N;omega),λh1=> ?_⟩;refine ⟨_,c1 P,s,c0 P,?_⟩;dsimp only;rw [hw];refine ⟨λh=>bad E λN=>(by have:=g N;omega),λh2=> ?_⟩;refine ⟨λm i F'=>∃(k:Nat) (S:List Tr),i=k/\k<=d.1.length/\m=d.1.length - k/\O.le F'/\Cl S/\S.length=k/\brs S=d.1.take k,d.1.length,⟨0,[],rfl,by omega,rfl,P,.nil,rfl,by simp [brs]⟩,?_⟩;rintro m i F2 ⟨k,S,rfl,hk,rfl,B,C,H,A⟩;unfold Eu;refine ⟨s,c0 B,λa4=> ?_,λa3=> ?_⟩
 ·have D:k<d.1.length:=by omega
  refine ⟨_,rfl,ai (B _ _ q1),?_⟩;refine (Cm (M.le (E.trans B)) hf C H D A).mono ?_;rintro _ F3 ⟨rfl,J⟩;by_cases hF:zH S d.1[k]
  ·rw [ε hF];refine ⟨_,rfl,λh=>(by cases h),λ_=> ?_⟩;obtain ⟨v,l,h,e,hl,hh,a1,hn⟩:=hF;refine ⟨d.1.length - (k+1),by omega,k+1,S++[qa7 v l h],ff (by omega),by omega,rfl,B.trans J,.snoc C hl hh a1 hn,by simp [H],?_⟩;rw [eB C hl hh,W4 D,A,e]
  ·rw [η hF];exact ⟨_,rfl,λ_=>bad (E.trans (B.trans J)) λN=>hF (kC N C H D A),λh=>by cases h⟩
 ·obtain rfl:k=d.1.length:=by omega
  rw [wy] at A;unfold Et;have K:inn S (tr S d.2.toNat):=gE (by omega);have L:((num S (tr S d.2.toNat):Nat):Int)=d.2:=by rw [fV C (by omega)];omega
  refine ⟨_,rfl,ai (B _ _ q1),s,c0 B,_,c1 B,?_⟩;have sp:=kD (ns:=s) (t:=tr S d.2.toNat) (by rw [A];exact hr.le (E.trans B)) C K (by omega);rw [L] at sp;refine sp.mono ?_;rintro _ F3 ⟨w,rfl,a0,J⟩;refine ⟨_,rfl,ai ((B.trans J) _ _ q1),?_⟩;refine (Cd (M.le (E.trans (B.trans J))) a0 (by omega)).mono ?_;rintro _ F4 ⟨rfl,l4⟩;refine ⟨_,rfl,?_,E.trans (B.trans (J.trans l4))⟩;have key:(d=pg (tr S d.2.toNat))↔iS d:=by
   constructor
   ·exact λe=>⟨_,C.inn_ok K,e⟩
   ·rintro ⟨u,X,e⟩;have e1:brs S=brs (aU u):=by rw [A,e];rfl
    have e2:S=aU u:=qL C (bv X) e1;have e3:d.2.toNat=num (aU u) u:=by rw [e];show ((num (aU u) u:Nat):Int).toNat=_;simp
    rw [e3,e2,ow (bv X) (bH X)];exact e
  congr 1;rw [wi,decide_eq_true_iff,decide_eq_true_iff];exact key
theorem GD (hd:DV F v d) (J:x7 (d.1.length+4)):ν 192 #[nL v] F λr G=>r=U (chk d)/\F.le G:=by
 have B:=hd;obtain ⟨s,rfl,H⟩:=hd;have D:=H.blen;refine qd3 ?_;unfold PF;intro E A;refine tR ?_;have g:=ae (Y #[s.v,U d.2] 33) A;have q1:=aq F E (Y #[s.v,U d.2] 33);generalize F.set E (Y #[s.v,U d.2] 33)=K at*;refine ⟨s,by rw [av q1];rfl,λh=>⟨?_,g⟩,λh=> ?_⟩
 ·unfold chk;rw [Χ (by omega)]
 ·refine ⟨_,rfl,ai q1,?_⟩;refine (GC (B.le g) J).mono ?_;rintro _ F2 ⟨rfl,C⟩;refine ⟨_,rfl,λw=>⟨?_,g.trans C⟩,λw=>⟨?_,g.trans C⟩⟩
  ·unfold chk;rw [Υ (by omega),Υ (by simpa using w)]
  ·unfold chk;rw [Υ (by omega),Χ (by simpa using w)]
end
theorem fresh {F:PH} {o:Obj} {K:Nat->Ψ} (k:∀b g,F.le g->g b=V o->F b=I->K b g):∀b,F b=I->xG (F.set b o) (K b):=λb h=>k b _ (ae o h) (aq _ _ _) h
theorem ld {F:PH} {b i:Nat} {c:Γ} {e:TypeId} {fr:Nat×Nat} {v:ξ} (h:F b=V (Y c e fr)) (g:c[i]? =V v):F.cell (ou b i I)=V v:=(av h).trans g
theorem fX {F:PH} {b o e:Nat} {c d:Γ} {fr:Nat×Nat} (h:F b=V (Y c e fr)) (hd:(c.toList.drop o).take d.size=d.toList):F.row (ou b o I) d:=by intro i hi;rw [aI,av h];have:=congrArg (λl=>l[i]?) hd;simp only [YC hi,List.getElem?_drop,YG] at this;rw [this];simp [hi]
theorem aM {F:PH} {a:Addr} {c:Γ} {i:Nat} {v:ξ} (h:F.row a c) (g:c[i]? =V v):F.cell (a.add i)=V v:=by obtain ⟨hi,rfl⟩:=XX.1 g;exact h i hi
theorem aE {F:PH} {a:Addr} {c:Γ} {v:ξ} (h:F.row a c) (g:c[0]? =V v):F.cell a=V v:=by have:=aM h g;rwa [show a.add 0=a by unfold nR;cases a;rename_i b o s;cases s<;>simp] at this
def Dj (G H:PH):Prop:=∀b,G b=I\/H b=I
theorem Dj.symm {G H:PH} (h:Dj G H):Dj H G:=λb=>(h b).symm
structure St (G F:PH) (As:List (Ψ)):Prop where
 le:G.le F
 ex:∃Hs:Nat->PH,(∀i A,As[i]? =V A->A (Hs i)/\Dj G (Hs i)/\(Hs i).le F)/\∀i j,i<As.length->j<As.length->i≠j->Dj (Hs i) (Hs j)
def pt (b:Nat) (o:Obj):Ψ:=λH=>H b=V o
def own (s:Sl) (e n:Nat) (vs:Ξ):Ψ:=λH=>bP H e n s vs
namespace St
section
variable {G F:PH} {As:List (Ψ)}
theorem start (F:PH):St F F []:=⟨au F,λ_ _=>I,λi A h=>(by cases h),λi j h=>(by cases h)⟩
theorem get (h:St G F As) {i:Nat} {A:Ψ} (hi:As[i]? =V A):∃H,A H/\Dj G H/\H.le F:=by obtain ⟨r,g,_⟩:=h.ex;exact ⟨r i,g i A hi⟩
theorem set (h:St G F As) {i:Nat} {A A':Ψ} (hi:As[i]? =V A):∃H,A H/\Dj G H/\H.le F/\∀E L,A' E->(∀b,E b≠I->H b≠I\/F b=I)->E.le L->(∀b o,F b=V o->H b=I->L b=V o)->St G L (As.set i A'):=by
 obtain ⟨N,h1,O⟩:=h.ex;obtain ⟨a1,X,a3⟩:=h1 i A hi;refine ⟨N i,a1,X,a3,λE L hA hb hl hk=> ?_⟩;have M:i<As.length:=(N6.1 hi).1;have g:∀{K:PH},K.le F->Dj (N i) K->Dj E K:=λ{K} Q hd b=>by
  by_cases e:E b=I
  ·exact .inl e
  ·rcases hb b e with e|e
   ·rcases hd b with h|h
    ·exact absurd h e
    ·exact .inr h
   ·exact .inr (aT Q e)
 have r:∀{K:PH},K.le F->Dj (N i) K->K.le L:=λ{K} Q hd b o W=>hk b o (Q b o W) (by
  rcases hd b with h|h
  ·exact h
  ·rw [h] at W;cases W)
 refine ⟨r h.le X.symm,λj=>if j=i then E else N j,λj B w=> ?_,λj k w C D=> ?_⟩
 ·dsimp only;by_cases e:j=i
  ·subst e;rw [X0 M] at w;cases w;rw [Χ rfl];exact ⟨hA,(g h.le X.symm).symm,hl⟩
  ·rw [Zh (Ne.symm e)] at w;rw [Υ e];obtain ⟨b1,b2,b3⟩:=h1 j B w;have P:j<As.length:=(N6.1 w).1;exact ⟨b1,b2,r b3 (O i j M P (Ne.symm e))⟩
 ·rw [Yn] at w C;have J:∀{m:Nat},m<As.length->(N m).le F:=λ{m} hm=>(h1 m _ (N5 hm)).2.2;dsimp only;by_cases e:j=i
  ·subst e;rw [Χ rfl,Υ (Ne.symm D)];exact g (J C) (O j k w C D)
  ·rw [Υ e];by_cases e2:k=i
   ·subst e2;rw [Χ rfl];exact (g (J w) (O k j C w (Ne.symm D))).symm
   ·rw [Υ e2];exact O j k w C D
theorem push (h:St G F As) {A:Ψ} {H E:PH} (W:A H) (hd:∀b,H b≠I->F b=I) (hl:H.le E) (J:F.le E):St G E (A::As):=by
 obtain ⟨M,L,N⟩:=h.ex;have g:∀{K:PH},K.le F->Dj K H:=λ{K} P b=>by
  by_cases e:H b=I
  ·exact .inr e
  ·exact .inl (aT P (hd b e))
 refine ⟨aa h.le J,λj=>match j with|0=>H|j+1=>M j,λj B w=> ?_,λj k w C D=> ?_⟩
 ·cases j with
  |zero=>cases w;exact ⟨W,g h.le,hl⟩
  |succ j=>obtain ⟨X,b2,O⟩:=L j B (by simpa using w);exact ⟨X,b2,aa O J⟩
 ·have r:∀{m:Nat},m<As.length->(M m).le F:=λ{m} Q=>(L m _ (N5 Q)).2.2;cases j with
  |zero=>
   cases k with
   |zero=>exact absurd rfl D
   |succ k=>exact (g (r (by simpa using C))).symm
  |succ j=>
   cases k with
   |zero=>exact g (r (by simpa using w))
   |succ k=>exact N j k (by simpa using w) (by simpa using C) (by omega)
theorem tail {A:Ψ} (h:St G F (A::As)):St G F As:=by obtain ⟨E,D,w⟩:=h.ex;exact ⟨h.le,λj=>E (j+1),λj B g=>D (j+1) B (by simpa using g),λj k g r C=>w (j+1) (k+1) (by simpa using g) (by simpa using r) (by omega)⟩
theorem pin {A:Ψ} (h:St G F (A::As)):∃D,G.le D/\(∃H,A H/\H.le D)/\St D F As:=by
 obtain ⟨r,K,J⟩:=h.ex;obtain ⟨N,Q,P⟩:=K 0 A rfl;have E:(r 0).le (G.and (r 0)):=λb o g=>by
  rcases Q b with e|e
  ·rw [PH.and_right e];exact g
  ·rw [e] at g;cases g
 refine ⟨G.and (r 0),λb o g=>PH.and_left g,⟨r 0,N,E⟩,λb o g=> ?_,λj=>r (j+1),λj B w=> ?_,λj k w O L=>J (j+1) (k+1) (by simpa using w) (by simpa using O) (by omega)⟩
 ·cases e:G b with
  |some o'=>rw [PH.and_left e] at g;rw [<- g];exact h.le _ _ e
  |none=>rw [PH.and_right e] at g;exact P _ _ g
 ·obtain ⟨W,X,M⟩:=K (j+1) B (by simpa using w);refine ⟨W,λb=> ?_,M⟩;rcases X b with e|e
  ·have hl:j+1<(A::As).length:=by have:=(N6.1 w).1;simpa using this
   rcases J 0 (j+1) (by simp) hl (by omega) b with C|C
   ·exact .inl ((PH.and_right e).trans C)
   ·exact .inr C
  ·exact .inr e
theorem pinb {b:Nat} {o:Obj} (h:St G F (pt b o::As)) {K:Ψ} (k:∀g,G.le g->g b=V o->St g F As->K F):K F:=by obtain ⟨g,A,⟨H,w,B⟩,r⟩:=h.pin;exact k g A (B _ _ w) r
theorem swap {A B:Ψ} (h:St G F (A::B::As)):St G F (B::A::As):=by
 obtain ⟨H,E,g⟩:=h.ex;refine ⟨h.le,λj=>match j with|0=>H 1|1=>H 0|j+2=>H (j+2),λj C w=> ?_,λj k w D r=> ?_⟩
 ·match j with
  |0=>exact E 1 C w
  |1=>exact E 0 C w
  |j+2=>exact E (j+2) C w
 ·match j,k with
  |0,0=>exact absurd rfl r
  |1,1=>exact absurd rfl r
  |0,1=>exact g 1 0 (by simp) (by simp) (by omega)
  |1,0=>exact g 0 1 (by simp) (by simp) (by omega)
  |0,k+2=>exact g 1 (k+2) (by simp) D (by omega)
  |1,k+2=>exact g 0 (k+2) (by simp) D (by omega)
  |j+2,0=>exact g (j+2) 1 w (by simp) (by omega)
  |j+2,1=>exact g (j+2) 0 w (by simp) (by omega)
  |j+2,k+2=>exact g (j+2) (k+2) w D r
theorem pick (h:St G F As) (f:Nat->Nat) {Bs:List (Ψ)} (E:∀i j,i<Bs.length->j<Bs.length->f i=f j->i=j) (A:∀i,i<Bs.length->As[f i]? =Bs[i]?):St G F Bs:=by
 obtain ⟨J,H,D⟩:=h.ex;have C:∀i,i<Bs.length->f i<As.length:=λi hi=>by have:=A i hi;rw [N5 hi] at this;exact (N6.1 this).1
 refine ⟨h.le,λi=>J (f i),λi B hi=> ?_,λi j hi w g=>D _ _ (C i hi) (C j w) λe=>g (E i j hi w e)⟩;have r:i<Bs.length:=(N6.1 hi).1;exact H (f i) B ((A i r).trans hi)
theorem call {f:FuncId} {args:Γ} {P:ξ->Ψ} (h:St G F As) (s:aj prog f args G P):aj prog f args F λr B=>∃g,P r g/\St g B As:=by
 refine (s.upon h.le).mono λr B ⟨g,K,M,D⟩=>⟨g,K,M,?_⟩;obtain ⟨C,L,E⟩:=h.ex;refine ⟨C,λi A hi=> ?_,E⟩;obtain ⟨N,J,H⟩:=L i A hi;have key:∀b o,C i b=V o->B b=V o/\g b=I:=λb o w=>by
  rcases J b with e|e
  ·exact D b o e (H b o w)
  ·rw [e] at w;cases w
 refine ⟨N,λb=> ?_,λb o w=>(key b o w).1⟩;cases e:C i b with
 |none=>exact .inr rfl
 |some o=>exact .inl (key b o e).2
theorem run {f:FuncId} {args:Γ} {P:ξ->Ψ} {Q:ξ->Ψ} (h:St G F As) (s:aj prog f args G λr g=>P r g/\G.le g) (k:∀r g w,P r g->G.le g->St g w As->Q r w):aj prog f args F Q:=
 (h.call s).mono λr w ⟨g,⟨B,A⟩,C⟩=>k r g w B A C
theorem runv {f:FuncId} {args:Γ} {v:ξ} {Q:ξ->Ψ} (h:St G F As) (s:aj prog f args G λr g=>r=v/\G.le g) (k:∀g w,G.le g->St g w As->Q v w):aj prog f args F Q:=
 (h.call s).mono λr w ⟨g,⟨B,A⟩,C⟩=>by rw [B];exact k g w A C
def VU (G:PH) (Hs:Nat->PH):Nat->PH
 |0=>G
 |n+1=>(VU G Hs n).and (Hs n)
theorem sZ {G:PH} {Hs:Nat->PH} {b:Nat}:∀{n:Nat},VU G Hs n b=I↔G b=I/\∀i,i<n->Hs i b=I
 |0=>⟨λh=>⟨h,λi hi=>by omega⟩,λh=>h.1⟩
 |n+1=>by
  have ih:=sZ (G:=G) (Hs:=Hs) (b:=b) (n:=n);constructor
  ·intro h;have g:VU G Hs n b=I:=by
    cases e:VU G Hs n b with
    |none=>rfl
    |some o=>rw [VU,PH.and_left e] at h;cases h
   rw [VU,PH.and_right g] at h;refine ⟨(ih.1 g).1,λi hi=> ?_⟩;by_cases e:i=n
   ·rw [e];exact h
   ·exact (ih.1 g).2 i (by omega)
  ·intro h;have g:=ih.2 ⟨h.1,λi hi=>h.2 i (by omega)⟩;rw [VU,PH.and_right g];exact h.2 n (by omega)
theorem Kc {G K:PH} {Hs:Nat->PH} (r:G.le K):∀{n:Nat},(∀i,i<n->(Hs i).le K)->(VU G Hs n).le K
 |0,_=>r
 |n+1,h=>λb o g=>by
  have ih:=Kc r (n:=n) λi hi=>h i (by omega);cases e:VU G Hs n b with
  |none=>rw [VU,PH.and_right e] at g;exact h n (by omega) b o g
  |some w=>rw [VU,PH.and_left e] at g;rw [<- g];exact ih b _ e
theorem Ke {G:PH} {Hs:Nat->PH}:∀{n:Nat},G.le (VU G Hs n)
 |0=>au _
 |n+1=>λb o g=>PH.and_left (Ke (n:=n) b o g)
theorem zQ {G:PH} {Hs:Nat->PH}:∀{n:Nat} {i:Nat},i<n->(∀i,i<n->Dj G (Hs i))->(∀i j,i<n->j<n->i≠j->Dj (Hs i) (Hs j))->(Hs i).le (VU G Hs n)
 |0,i,h,_,_=>by omega
 |n+1,i,hi,hd,hp=>λb o g=>by
  by_cases e:i=n
  ·subst e;have w:VU G Hs i b=I:=by
    refine sZ.2 ⟨?_,λj r=> ?_⟩
    ·rcases hd i (by omega) b with e|e
     ·exact e
     ·rw [e] at g;cases g
    ·rcases hp j i (by omega) (by omega) (by omega) b with e|e
     ·exact e
     ·rw [e] at g;cases g
   rw [VU,PH.and_right w];exact g
  ·exact PH.and_left (zQ (n:=n) (i:=i) (by omega) (λj r=>hd j (by omega)) (λj k r A=>hp j k (by omega) (by omega)) b o g)
theorem callL {f:FuncId} {args:Γ} {Bs Cs:List (Ψ)} {Bs':ξ->PH->List (Ψ)} {P:ξ->Ψ} (h:St G F (Bs++Cs))
  (s:∀H,St G H Bs->aj prog f args H λr Q=>∃g,P r g/\G.le g/\St g Q (Bs' r g)):
  aj prog f args F λr Q=>∃g,P r g/\G.le g/\St g Q (Bs' r g++Cs):=by
 obtain ⟨C,h1,J⟩:=h.ex;have L:(Bs++Cs).length=Bs.length+Cs.length:=tT;have W:∀i,i<Bs.length+Cs.length->Dj G (C i)/\(C i).le F:=λi hi=>(h1 i _ (N5 (by omega))).2;rw [L] at J;have hU:(VU G C Bs.length).le F:=Kc h.le λi hi=>(W i (by omega)).2;have a3:St G (VU G C Bs.length) Bs:=by refine ⟨Ke,C,λi A hi=> ?_,λi j hi B=>J i j (by omega) (by omega)⟩;have O:i<Bs.length:=(N6.1 hi).1;obtain ⟨a1,a2,_⟩:=h1 i A (by rw [zR O];exact hi);exact ⟨a1,a2,zQ O (λj B=>(W j (by omega)).1) (λj k B hk=>J j k (by omega) (by omega))⟩
 refine ((s _ a3).upon hU).mono ?_;rintro r Q ⟨H,⟨g,hp,hg,w⟩,hl,hk⟩;refine ⟨g,hp,hg,aa w.le hl,?_⟩;obtain ⟨Ks,k1,k2⟩:=w.ex;have key:∀i,i<Cs.length->∀b o,C (Bs.length+i) b=V o->Q b=V o/\H b=I:=λi hi b o E=>by
  refine hk b o (sZ.2 ⟨?_,λj B=> ?_⟩) ((W (Bs.length+i) (by omega)).2 b o E)
  ·rcases (W (Bs.length+i) (by omega)).1 b with e|e
   ·exact e
   ·rw [e] at E;cases E
  ·rcases J j (Bs.length+i) (by omega) (by omega) (by omega) b with e|e
   ·exact e
   ·rw [e] at E;cases E
 have dj:∀i,i<Cs.length->∀{K:PH},K.le H->Dj K (C (Bs.length+i)):=λi hi {K} hK b=>by
  cases e:C (Bs.length+i) b with
  |none=>exact .inr rfl
  |some o=>exact .inl (aT hK (key i hi b o e).2)
 refine ⟨λj=>if j<(Bs' r g).length then Ks j else C (Bs.length+(j - (Bs' r g).length)),λj A B=> ?_,λj k B a0 X=> ?_⟩
 ·dsimp only;by_cases e:j<(Bs' r g).length
  ·rw [Χ e];rw [zR e] at B;obtain ⟨b1,b2,b3⟩:=k1 j A B;exact ⟨b1,b2,aa b3 hl⟩
  ·rw [Υ e];rw [UR (by omega)] at B;have M:j - (Bs' r g).length<Cs.length:=(N6.1 B).1;refine ⟨(h1 (Bs.length+(j - (Bs' r g).length)) A ?_).1,dj _ M w.le,λb o E=>(key _ M b o E).1⟩;rw [UR (by omega),show Bs.length+(j - (Bs' r g).length) - Bs.length=j - (Bs' r g).length by omega];exact B
 ·rw [tT] at B a0;have N:∀m,m<(Bs' r g).length->(Ks m).le H:=λm hm=>(k1 m _ (N5 hm)).2.2;dsimp only;by_cases e:j<(Bs' r g).length
  ·rw [Χ e];by_cases D:k<(Bs' r g).length
   ·rw [Χ D];exact k2 j k e D X
   ·rw [Υ D];exact dj _ (by omega) (N j e)
  ·rw [Υ e];by_cases D:k<(Bs' r g).length
   ·rw [Χ D];exact (dj _ (by omega) (N k D)).symm
   ·rw [Υ D];exact J _ _ (by omega) (by omega) (by omega)
theorem new (h:St G F As) {o:Obj} {K:Nat->Ψ} (k:∀b w,St G w (pt b o::As)->K b w):∀b,F b=I->xG (F.set b o) (K b):=λb r=>by
 refine tR (k b _ (h.push (H:=PH.set (λ_=>I) b o) (aq _ _ _) (λx g=> ?_) (λx p g=> ?_) (ae o r)))
 ·by_cases e:x=b
  ·rw [e];exact r
  ·rw [aw _ _ e] at g;exact absurd rfl g
 ·by_cases e:x=b
  ·rw [e,aq] at g ⊢;exact g
  ·rw [aw _ _ e] at g;cases g
theorem newG (h:St G F As) {o:Obj} {K:Nat->Ψ} (k:∀b g r,G.le g->g b=V o->G b=I->St g r As->K b r):∀b,F b=I->xG (F.set b o) (K b):=λb J=>by
 refine h.new (K:=K) (λA r B=> ?_) b J;have w:G A=I:=by
  obtain ⟨H,D,E,_⟩:=B.get (i:=0) rfl;rcases E A with e|e
  ·exact e
  ·rw [D] at e;cases e
 exact B.pinb λg L C M=>k A g r L C w M
theorem ptAt (h:St G F As) {i b:Nat} {o:Obj} (hi:As[i]? =V (pt b o)):F b=V o:=by obtain ⟨H,r,_,g⟩:=h.get hi;exact g _ _ r
theorem putAt (h:St G F As) (i:Nat) {b:Nat} {o:Obj} (o':Obj) (hi:As[i]? =V (pt b o)):St G (F.set b o') (As.set i (pt b o')):=by
 obtain ⟨H,w,C,A,B⟩:=h.set (A':=pt b o') hi;refine B (H.set b o') _ (aq _ _ _) (λx g=> ?_) (λx p g=> ?_) (λx p g r=> ?_)
 ·by_cases e:x=b
  ·rw [e,w];exact .inl (by simp)
  ·rw [aw _ _ e] at g;exact .inl g
 ·by_cases e:x=b
  ·rw [e,aq] at g ⊢;exact g
  ·rw [aw _ _ e] at g ⊢;exact A _ _ g
 ·have e:x≠b:=λe=>by rw [e,w] at r;cases r
  rw [aw _ _ e];exact g
theorem ownAt (h:St G F As) {i:Nat} {s:Sl} {e n:Nat} {vs:Ξ} (hi:As[i]? =V (own s e n vs)):bP F e n s vs/\∀a,s.qa5=V a->G a.block=I:=by
 obtain ⟨H,g,w,r⟩:=h.get hi;refine ⟨bP.upto g r,λa A=> ?_⟩;obtain ⟨C,B⟩:=bP.elem g A;rcases w a.block with e|e
 ·exact e
 ·rw [B] at e;cases e
theorem nilOwn (h:St G F As) (e n:Nat):St G F (own pi e n []::As):=h.push (H:=λ_=>I) (.inl ⟨rfl,rfl⟩) (λb g=>absurd rfl g) (λb o g=>(by cases g)) (au F)
end
end St
theorem aC {k n:Nat} (h:k<n) (g:n<=9223372036854775807:=by omega):i64.wrap ((k:Int)+1)=((k+1:Nat):Int):=by rw [aJ (by omega)];omega
theorem bC {F:PH} (L:(Ω)->Ω) (n:Nat) (Inv:Nat->Ψ) (C:Inv 0 F)
  (step:∀(k:Nat) (F:PH) (N:Ω),k<=n->Inv k F->(∀g,k<n->Inv (k+1) g->N ((k+1:Nat):Int) g)->L N (k:Int) F):
  ∃(h:Nat->Ω) (m:Nat),h m (0:Int) F/\∀m v F,h m v F->L (λy F=>∃w,w<m/\h w y F) v F:=by
 refine ⟨λm i g=>∃k:Nat,i=k/\k<=n/\m=n - k/\Inv k g,n,⟨0,rfl,by omega,rfl,C⟩,?_⟩;rintro m i g ⟨k,rfl,A,rfl,hi⟩;exact step k g _ A hi λD B r=>⟨n - (k+1),by omega,k+1,rfl,by omega,rfl,r⟩
end
