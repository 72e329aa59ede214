/-
  A base that stays, and parts beside it that may change: what a heap holds, by parts.
-/
import Derived.Test.YteilolbbgieadaaGreatDoorQw
set_option maxRecDepth 10000
open Option renaming some->mB,none->nC
open Go.Obj renaming cells->mX
open Bool renaming false->nS,true->nZ
open Go.Value renaming agg->oc,bool->oY,string->pg,pointer->pj,tuple->sj,slice->tU
open Go.Addr renaming add->od,mk->pd
open Int renaming toNat->pc,tmod->tK
noncomputable section
namespace Go.Proofs.YteilolbbgieadaaGreatDoor
open Go.IntKind (i64 u8 u64)
open Sl renaming v->nV,nil->pk
open Go Go.Proofs.Tryz
section
variable {F:PH} {l:List Nd} {s:Sl}
theorem RC:aG prog 207=nZ:=by kernel_rfl
def W6 (l:List Nd) (w:Δ):Prop:=Lg (bN l).pat w
theorem qhj (hT:Tab F) (Z:RdS F s 5 (dC l)) (st:ο) (a0:st.size<=1000000000):ν 173 #[s.v,pg st] F λr L=>(∃q:Bool,r=oY q/\(q=nZ↔fD l=0/\W6 l (bs st)))/\F.le L:=by
 refine qda ?_;unfold O5;have h:=Lo.start F;refine h.new _ _ λD F1 h=> ?_;refine (h.call (oF Z)).mono ?_;rintro _ F2 ⟨G1,⟨rfl,P⟩,h⟩;refine ⟨_,rfl,λhc=>⟨⟨nS,rfl,λh=>(by cases h),λh=>absurd h.1 hc⟩,aa P h.le⟩,λhc=> ?_⟩;have W:fD l=0:=by omega
 obtain ⟨X,hl⟩:=uA W;obtain ⟨ns,ht⟩:=io X;refine (h.call (qhJ (hT.le P) X hl (Z.le P))).mono ?_;rintro _ F3 ⟨G,⟨⟨bm,rfl,hM⟩,Y⟩,h⟩;have c3:F3.cell (pd D 0 nC)=mB (pg st):=by rw [h.cell (b:=D) (w:= #[pg st]) (e:=9) (by simp)];rfl
 refine ⟨_,rfl,_,c3,?_⟩;have j1:∀(B:Nat) (C:Bool) (O:PH),Lo G O [(B,#[oY C],4),(D,#[pg st],9)]->(C=nZ↔st.size=0/\(bN l).nul=nZ)->
   pQ D (mB ⟨bm,0,nC⟩) (mB ⟨B,0,nC⟩) (λr L=>(∃q:Bool,r=oY q/\(q=nZ↔fD l=0/\W6 l (bs st)))/\F.le L) O:=λB C O h U=>by
  unfold pQ;refine ⟨_,by rw [h.cell (b:=D) (w:= #[pg st]) (e:=9) (by simp)];rfl,?_⟩
  refine (JE (bm:=bm) (k:=207) (cap:= #[pa D,pa B]) (Inv:=λn L=>∃C:Bool,Lo G L [(B,#[oY C],4),(D,#[pg st],9)]/\(n=0->(C=nZ↔st.size=0/\(bN l).nul=nZ))/\(0<n->(C=nZ↔n=st.size/\W6 l ((bs st).take n)))) RC hl X ht (by omega)
   (λn L ⟨b,K,_⟩=>⟨(hT.le (aa P Y)).le K.le,hM.le K.le⟩) ?_ ⟨C,h,λ_=>U,λh=>absurd h (by omega)⟩).mono ?_
  ·rintro n L q hn hq ⟨C,K,_,_⟩;show ν 207 #[vi ((n+1:Nat):Int),oY q,pa D,pa B] L _;refine qcK ?_;unfold Pa;refine ⟨_,rfl,_,by rw [K.cell (b:=D) (w:= #[pg st]) (e:=9) (by simp)];rfl,λg=>⟨_,rfl,?_⟩,λg=>⟨_,rfl,?_⟩⟩
   ·refine Lo.put1 [] [(D,#[pg st],9)] (b:=B) (i:=0) (w0:= #[oY C]) (w:= #[oY q]) (e:=4) K (by simp) rfl λV R=> ?_;exact ⟨rfl,q,R,λh=>by omega,λ_=>⟨λh=>⟨by omega,hq.1 h⟩,λh=>hq.2 h.2⟩⟩
   ·refine Lo.put1 [] [(D,#[pg st],9)] (b:=B) (i:=0) (w0:= #[oY C]) (w:= #[oY nS]) (e:=4) K (by simp) rfl λV R=> ?_;exact ⟨rfl,nS,R,λh=>by omega,λ_=>⟨λh=>(by cases h),λh=>by omega⟩⟩
  ·rintro _ Q ⟨rfl,n,G',hn,⟨C,K,hz,hp⟩,l5,M⟩;refine ⟨rfl,_,rfl,C,aK l5 (by rw [K.cell (b:=B) (w:= #[oY C]) (e:=4) (by simp)];rfl),⟨C,rfl,?_⟩,aa P (aa Y (aa K.le l5))⟩;have A:(bs st).take st.size=bs st:=yY (by rw [dc];exact tI _);have J:st.size=0->bs st=[]:=λh=>X1.1 (by rw [dc];exact h);have I:(bN l).nul=nZ↔W6 l []:=(bN l).nul_iff;rcases XL n with e|e
   ·subst e;rw [hz rfl];constructor
    ·rintro ⟨H,E⟩;exact ⟨W,by rw [J H];exact I.1 E⟩
    ·rintro ⟨_,E⟩;rcases M with g|g
     ·exact ⟨g.symm,I.2 (by rw [<- J g.symm];exact E)⟩
     ·rcases XL st.size with H|H
      ·exact ⟨H,I.2 (by rw [<- J H];exact E)⟩
      ·exact absurd (by rw [A];exact E) (g st.size H (tI _))
   ·rw [hp e];constructor
    ·rintro ⟨H,E⟩;exact ⟨W,by rw [H,A] at E;exact E⟩
    ·rintro ⟨_,E⟩;rcases M with g|g
     ·exact ⟨g,by rw [g,A];exact E⟩
     ·by_cases H:n=st.size
      ·exact ⟨H,by rw [H,A];exact E⟩
      ·exact absurd (by rw [A];exact E) (g st.size (by omega) (tI _))
 have N:(st.toList==(ByteArray.mk #[]).toList)=decide (st.size=0):=by
  rw [Ji];rw [wR,δ,δ,<- dc st];constructor
  ·intro h;rw [h];rfl
  ·intro h;exact X1.1 h
 dsimp only;rw [N];refine ⟨λg=> ?_,λg=> ?_⟩
 ·have g:=ζ g;obtain ⟨s',bf,qm,_,_⟩:=(hM.le h.le).ex;refine ⟨_,rfl,(bN l).nul,by rw [cx,av qm];rfl,?_⟩;refine h.new _ _ λB O h=> ?_;refine Lo.put1 [] [(D,#[pg st],9)] (b:=B) (i:=0) (w0:= #[oY nS]) (w:= #[oY (bN l).nul]) (e:=4) h (by simp) rfl λQ h=> ?_;exact j1 B _ Q h ⟨λh=>⟨g,h⟩,λh=>h.2⟩
 ·have g:=ι g;refine h.new _ _ λB O h=> ?_;refine Lo.put1 [] [(D,#[pg st],9)] (b:=B) (i:=0) (w0:= #[oY nS]) (w:= #[oY nS]) (e:=4) h (by simp) rfl λQ h=> ?_;exact j1 B _ Q h ⟨λh=>(by cases h),λh=>absurd h.1 g⟩
end
open Tr
section
theorem IB (d:Nat) (a b:Int) (F:PH):s9 prog (Op.equalIn (d+1) 3 (vi a) (vi b)) F (decide (a=b)):=by simp only [Op.equalIn,am];refine ⟨_,(aA underlying3 _).2 rfl,?_⟩;simp only [if_true,cH];by_cases h:a=b<;>simp [h]
theorem rI (cs:Γ) (off:Nat) (v:ξ) (h:cs[off]? =mB v) (F:PH):s9 prog (part 3 cs off) F v:=by unfold part;simp only [am];refine ⟨nS,(dm underlying3 _).2 rfl,?_⟩;simp only [VQ,if_false,h];rfl
theorem Dp (e:Bool) (n:Nat) (a:Int) (F:PH):s9 prog (Instr.checkKey e (n+1) 3 (vi a)) F ():=by simp only [Instr.checkKey,am];refine ⟨_,(aA underlying3 _).2 rfl,?_⟩;rfl
theorem qgL:prog.stoodInHeld 201=nS:=by kernel_rfl
abbrev LS:=ForInStep (Option Bool×Unit)
theorem dv (n:Nat) (off:Nat) (cs ds:Γ) (x y:Int) (w:cs[off]? =mB (vi x)) (g:ds[off]? =mB (vi y)) (F:PH):
  s9 prog (do
   let a <- part 3 cs off
   let b <- part 3 ds off
   let r <- Op.equalIn (n+1) 3 a b
   if (!r)=nZ then pure (ForInStep.done (mB nS,())) else pure (ForInStep.yield (nC,())):Sem LS) F (if x=y then .yield (nC,()) else .done (mB nS,())):=by
 simp only [am];refine ⟨_,rI _ _ _ w F,_,rI _ _ _ g F,_,IB n x y F,?_⟩;by_cases h:x=y
 ·simp [h]
 ·simp [h]
theorem IC (x y:Br) (F:PH):s9 prog (Op.equal 201 (oc (aX x)) (oc (aX y))) F (decide (x=y)):=by
 unfold Op.equal Op.maxDepth;show s9 prog (Op.equalIn (9998+1+1) 201 _ _) _ _;unfold Op.equalIn;simp only [am];refine ⟨_,(aA underlying201 _).2 rfl,?_⟩;dsimp only;rw [am];refine ⟨prog,rfl,?_⟩;rw [qgL];simp only [VQ,if_false];simp only [List.forIn_toArray,Yz,List.forIn_nil,am];obtain ⟨a,b,c⟩:=x;obtain ⟨d,e,f⟩:=y;rw [if_pos (by decide),if_pos (by decide),if_pos (by decide)];by_cases g:a=d
 ·by_cases h:b=e
  ·by_cases r:c=f
   ·refine ⟨(nC,()),⟨_,dv 9998 0 _ _ a d rfl rfl F,?_⟩,?_⟩
    ·rw [Χ g];refine (am _ _ _ _).2 ⟨_,dv 9998 1 _ _ b e rfl rfl F,?_⟩;rw [Χ h];refine (am _ _ _ _).2 ⟨_,dv 9998 2 _ _ c f rfl rfl F,?_⟩;rw [Χ r];rfl
    ·simp [g,h,r]
   ·refine ⟨(mB nS,()),⟨_,dv 9998 0 _ _ a d rfl rfl F,?_⟩,?_⟩
    ·rw [Χ g];refine (am _ _ _ _).2 ⟨_,dv 9998 1 _ _ b e rfl rfl F,?_⟩;rw [Χ h];refine (am _ _ _ _).2 ⟨_,dv 9998 2 _ _ c f rfl rfl F,?_⟩;rw [Υ r];rfl
    ·simp [r]
  ·refine ⟨(mB nS,()),⟨_,dv 9998 0 _ _ a d rfl rfl F,?_⟩,?_⟩
   ·rw [Χ g];refine (am _ _ _ _).2 ⟨_,dv 9998 1 _ _ b e rfl rfl F,?_⟩;rw [Υ h];rfl
   ·simp [h]
 ·refine ⟨(mB nS,()),⟨_,dv 9998 0 _ _ a d rfl rfl F,?_⟩,?_⟩
  ·rw [Υ g];rfl
  ·simp [g]
theorem lU (e:Bool) (n:Nat) (off:Nat) (cs:Γ) (x:Int) (g:cs[off]? =mB (vi x)) (F:PH):
  s9 prog (do
   let a <- part 3 cs off
   Instr.checkKey e (n+1) 3 a
   pure (ForInStep.yield PUnit.unit):Sem (ForInStep PUnit)) F (.yield PUnit.unit):=by
 simp only [am];exact ⟨_,rI _ _ _ g F,_,Dp e n x F,rfl⟩
theorem UU (e:Bool) (x:Br) (F:PH):s9 prog (Instr.checkKey e 10000 201 (.agg (aX x))) F ():=by show s9 prog (Instr.checkKey e (9998+1+1) 201 _) _ _;unfold Instr.checkKey;simp only [am];refine ⟨_,(aA underlying201 _).2 rfl,?_⟩;dsimp only;simp only [List.forIn_toArray,Yz,List.forIn_nil];rw [if_pos (by decide),if_pos (by decide),if_pos (by decide)];refine (am _ _ _ _).2 ⟨PUnit.unit,(am _ _ _ _).2 ⟨_,lU e 9998 0 _ _ rfl F,(am _ _ _ _).2 ⟨_,lU e 9998 1 _ _ rfl F,(am _ _ _ _).2 ⟨_,lU e 9998 2 _ _ rfl F,rfl⟩⟩⟩,rfl⟩
theorem cD (n:Nat) (i sz:Nat) (w:sz=1) (cs ds:Γ) (x y:Int) (h:cs[i]? =mB (vi x)) (g:ds[i]? =mB (vi y)) (F:PH):
  s9 prog (do
   let a <- part 3 cs (i*sz)
   let b <- part 3 ds (i*sz)
   let r <- Op.equalIn (n+1) 3 a b
   if (!r)=nZ then pure (ForInStep.done (mB nS,())) else pure (ForInStep.yield (nC,())):Sem LS) F (if x=y then .yield (nC,()) else .done (mB nS,())):=by
 subst w;rw [xZ];exact dv n i cs ds x y h g F
theorem lV (e:Bool) (n:Nat) (i:Nat) (cs:Γ) (x:Int) (g:cs[i]? =mB (vi x)) (F:PH):
  s9 prog (do
   let s <- sizeOf 3
   let a <- part 3 cs (i*s)
   Instr.checkKey e (n+1) 3 a
   pure (ForInStep.yield PUnit.unit):Sem (ForInStep PUnit)) F (.yield PUnit.unit):=by
 refine (am _ _ _ _).2 ⟨1,(bu Yk _).2 rfl,?_⟩;rw [xZ];exact lU e n i cs x g F
abbrev dx (x:Int×Int×Int):Γ:= #[vi x.1,vi x.2.1,vi x.2.2]
abbrev Bk (x:Int×Int):Γ:= #[vi x.1,vi x.2]
theorem eq3 (x y:Int×Int×Int) (F:PH):s9 prog (Op.equal 313 (oc (dx x)) (oc (dx y))) F (decide (x=y)):=by
 unfold Op.equal Op.maxDepth;show s9 prog (Op.equalIn (9998+1+1) 313 _ _) _ _;unfold Op.equalIn;simp only [am];refine ⟨_,(aA underlying313 _).2 rfl,?_⟩;dsimp only;refine (am _ _ _ _).2 ⟨1,(bu Yk _).2 rfl,?_⟩;rw [Std.Legacy.Range.forIn_eq_forIn_range'];simp only [Std.Legacy.Range.size,VV,Zm,Nat.div_one,List.range',Yz,List.forIn_nil,yp,Nat.reduceAdd];obtain ⟨a,b,c⟩:=x;obtain ⟨d,e,f⟩:=y;by_cases g:a=d
 ·skip
  by_cases h:b=e
  ·skip
   by_cases r:c=f
   ·skip
    refine (am _ _ _ _).2 ⟨(nC,()),(am _ _ _ _).2 ⟨_,cD 9998 0 1 rfl _ _ a d rfl rfl F,?_⟩,?_⟩
    ·skip
     rw [Χ g];refine (am _ _ _ _).2 ⟨_,cD 9998 1 1 rfl _ _ b e rfl rfl F,?_⟩;rw [Χ h];refine (am _ _ _ _).2 ⟨_,cD 9998 2 1 rfl _ _ c f rfl rfl F,?_⟩;rw [Χ r];rfl
    ·simp [g,h,r]
   ·skip
    refine (am _ _ _ _).2 ⟨(mB nS,()),(am _ _ _ _).2 ⟨_,cD 9998 0 1 rfl _ _ a d rfl rfl F,?_⟩,?_⟩
    ·skip
     rw [Χ g];refine (am _ _ _ _).2 ⟨_,cD 9998 1 1 rfl _ _ b e rfl rfl F,?_⟩;rw [Χ h];refine (am _ _ _ _).2 ⟨_,cD 9998 2 1 rfl _ _ c f rfl rfl F,?_⟩;rw [Υ r];rfl
    ·simp [g,h,r]
  ·skip
   refine (am _ _ _ _).2 ⟨(mB nS,()),(am _ _ _ _).2 ⟨_,cD 9998 0 1 rfl _ _ a d rfl rfl F,?_⟩,?_⟩
   ·skip
    rw [Χ g];refine (am _ _ _ _).2 ⟨_,cD 9998 1 1 rfl _ _ b e rfl rfl F,?_⟩;rw [Υ h];rfl
   ·simp [g,h]
 ·skip
  refine (am _ _ _ _).2 ⟨(mB nS,()),(am _ _ _ _).2 ⟨_,cD 9998 0 1 rfl _ _ a d rfl rfl F,?_⟩,?_⟩
  ·skip
   rw [Υ g];rfl
  ·simp [g]
theorem qgM (e:Bool) (x:Int×Int×Int) (F:PH):s9 prog (Instr.checkKey e 10000 313 (.agg (dx x))) F ():=by show s9 prog (Instr.checkKey e (9998+1+1) 313 _) _ _;unfold Instr.checkKey;simp only [am];refine ⟨_,(aA underlying313 _).2 rfl,?_⟩;dsimp only;rw [Std.Legacy.Range.forIn_eq_forIn_range'];simp only [Std.Legacy.Range.size,VV,Zm,Nat.div_one,List.range',Yz,List.forIn_nil,yp,Nat.reduceAdd];refine (am _ _ _ _).2 ⟨PUnit.unit,(am _ _ _ _).2 ⟨_,lV e 9998 0 _ _ rfl F,(am _ _ _ _).2 ⟨_,lV e 9998 1 _ _ rfl F,(am _ _ _ _).2 ⟨_,lV e 9998 2 _ _ rfl F,rfl⟩⟩⟩,rfl⟩
theorem eq2 (x y:Int×Int) (F:PH):s9 prog (Op.equal 213 (oc (Bk x)) (oc (Bk y))) F (decide (x=y)):=by
 unfold Op.equal Op.maxDepth;show s9 prog (Op.equalIn (9998+1+1) 213 _ _) _ _;unfold Op.equalIn;simp only [am];refine ⟨_,(aA underlying213 _).2 rfl,?_⟩;dsimp only;refine (am _ _ _ _).2 ⟨1,(bu Yk _).2 rfl,?_⟩;rw [Std.Legacy.Range.forIn_eq_forIn_range'];simp only [Std.Legacy.Range.size,VV,Zm,Nat.div_one,List.range',Yz,List.forIn_nil,yp,Nat.reduceAdd];obtain ⟨a,b⟩:=x;obtain ⟨d,e⟩:=y;by_cases g:a=d
 ·skip
  by_cases h:b=e
  ·skip
   refine (am _ _ _ _).2 ⟨(nC,()),(am _ _ _ _).2 ⟨_,cD 9998 0 1 rfl _ _ a d rfl rfl F,?_⟩,?_⟩
   ·skip
    rw [Χ g];refine (am _ _ _ _).2 ⟨_,cD 9998 1 1 rfl _ _ b e rfl rfl F,?_⟩;rw [Χ h];rfl
   ·simp [g,h]
  ·skip
   refine (am _ _ _ _).2 ⟨(mB nS,()),(am _ _ _ _).2 ⟨_,cD 9998 0 1 rfl _ _ a d rfl rfl F,?_⟩,?_⟩
   ·skip
    rw [Χ g];refine (am _ _ _ _).2 ⟨_,cD 9998 1 1 rfl _ _ b e rfl rfl F,?_⟩;rw [Υ h];rfl
   ·simp [g,h]
 ·skip
  refine (am _ _ _ _).2 ⟨(mB nS,()),(am _ _ _ _).2 ⟨_,cD 9998 0 1 rfl _ _ a d rfl rfl F,?_⟩,?_⟩
  ·skip
   rw [Υ g];rfl
  ·simp [g]
theorem qgN (e:Bool) (x:Int×Int) (F:PH):s9 prog (Instr.checkKey e 10000 213 (.agg (Bk x))) F ():=by show s9 prog (Instr.checkKey e (9998+1+1) 213 _) _ _;unfold Instr.checkKey;simp only [am];refine ⟨_,(aA underlying213 _).2 rfl,?_⟩;dsimp only;rw [Std.Legacy.Range.forIn_eq_forIn_range'];simp only [Std.Legacy.Range.size,VV,Zm,Nat.div_one,List.range',Yz,List.forIn_nil,yp,Nat.reduceAdd];refine (am _ _ _ _).2 ⟨PUnit.unit,(am _ _ _ _).2 ⟨_,lV e 9998 0 _ _ rfl F,(am _ _ _ _).2 ⟨_,lV e 9998 1 _ _ rfl F,rfl⟩⟩,rfl⟩
abbrev Bl (x:Br):Value:=oc (aX x)
abbrev bg (x:Int):Value:=vi x
theorem Mh:oM prog 3 bg:=by
 refine ⟨λF a b=> ?_,λF e a=> ?_,λa=> ?_,_,underlying3,.inl λa b=> ?_⟩
 ·unfold Op.equal Op.maxDepth;exact IB 9999 a b F
 ·exact Dp e 9999 a F
 ·unfold Instr.sameBits;simp
 ·unfold Instr.sameNow;simp only [if_true];by_cases h:a=b<;>simp [h]
theorem UV:oM prog 201 Bl:=by
 refine ⟨λF a b=>IC a b F,λF e a=>UU e a F,λa=> ?_,_,underlying201,.inr λa b=> ?_⟩
 ·show Instr.sameBits (9998+1+1) _ _=nZ;simp [Instr.sameBits]
 ·rfl
abbrev Mi (x:Int×Int×Int):Value:=oc (dx x)
theorem qgO:oM prog 313 Mi:=by
 refine ⟨λF a b=>eq3 a b F,λF e a=>qgM e a F,λa=> ?_,_,underlying313,.inr λa b=> ?_⟩
 ·show Instr.sameBits (9998+1+1) _ _=nZ;simp [Instr.sameBits]
 ·rfl
abbrev gx (x:Int×Int):Value:=oc (Bk x)
theorem qgP:oM prog 213 gx:=by
 refine ⟨λF a b=>eq2 a b F,λF e a=>qgN e a F,λa=> ?_,_,underlying213,.inr λa b=> ?_⟩
 ·show Instr.sameBits (9998+1+1) _ _=nZ;simp [Instr.sameBits]
 ·rfl
theorem qgQ:bv prog 4=mB (oY nS):=by kernel_rfl
theorem YK:fO prog 278 bg (vi 0):=⟨_,_,underlying278,Ym,Mh⟩
theorem Z3:fO prog 246 Bl (vi 0):=⟨_,_,underlying246,Ym,UV⟩
theorem Z4:fO prog 243 Bl (.bool nS):=⟨_,_,underlying243,qgQ,UV⟩
theorem Z2:fO prog 311 Mi (vi 0):=⟨_,_,underlying311,Ym,qgO⟩
theorem Bm {F:PH} {a b:Sl} {x y:List Br} (J:RdS F a 3 (aW x)) (K:RdS F b 3 (aW y)) (Q:yg x.length):
  ν 153 #[a.v,b.v] F λv C=>v=oY (decide (x=y))/\C=F:=by
 have P:=J.blen;have N:=K.blen;refine qcW ?_;unfold OZ;refine ⟨λh=> ?_,λh=> ?_⟩
 ·refine ⟨?_,rfl⟩;have:¬x=y:=by intro e;subst e;omega
  simp [this]
 ·have r:x.length=y.length:=by omega
  refine ⟨λm i C=>∃k:Nat,i=k/\k<=x.length/\m=x.length - k/\C=F/\x.take k=y.take k,x.length,⟨0,rfl,by omega,rfl,rfl,rfl⟩,?_⟩;rintro m i C ⟨k,rfl,R,rfl,rfl,g⟩;unfold DN;refine ⟨λG=> ?_,λL=> ?_⟩
  ·have B:k<x.length:=by omega
   have w:k<y.length:=by omega
   obtain ⟨p,M,E,_⟩:=VX J (N5 B);obtain ⟨q,O,H,_⟩:=VX K (N5 w);refine ⟨p,M,by omega,G,aX x[k],rfl,by simpa using E,q,O,by omega,by omega,aX y[k],rfl,by simpa using H,decide (x[k]=y[k]),λF=>IC x[k] y[k] F,λI=> ?_,λA=> ?_⟩
   ·refine ⟨?_,rfl⟩;have:¬x=y:=by rintro rfl;simp at I
    simp [this]
   ·refine ⟨x.length - (k+1),by omega,k+1,ff (by omega),by omega,rfl,rfl,?_⟩;rw [WI B,WI w,g];simp at A;rw [A]
  ·refine ⟨?_,rfl⟩;have D:k=x.length:=by omega
   rw [D,wV,r,wV] at g;simp [g]
theorem nI {F:PH} {v w:Γ} {d e:wc} (hd:DV F v d) (M:DV F w e) (N:yg d.1.length):
  ν 117 #[oc v,oc w] F λr J=>r=oY (decide (d=e))/\F.le J:=by
 obtain ⟨s,rfl,O⟩:=hd;obtain ⟨t,rfl,L⟩:=M;refine qds ?_;unfold OK;intro H I;refine tP ?_;have D:=ae (mX #[s.v,vi d.2] 33) I;intro K E;refine tP ?_;have A:=ae (mX #[t.v,vi e.2] 33) E;have g:F.le _:=λb o h=>A b o (D b o h);have B:=A _ _ (aq F H (mX #[s.v,vi d.2] 33));have C:=aq (F.set H (mX #[s.v,vi d.2] 33)) K (mX #[t.v,vi e.2] 33);generalize (F.set H (mX #[s.v,vi d.2] 33)).set K (mX #[t.v,vi e.2] 33)=G at*;refine ⟨_,by rw [av B];rfl,_,by rw [av C];rfl,λh=> ?_,λh=> ?_⟩
 ·refine ⟨s,by rw [av B];rfl,t,by rw [av C];rfl,?_⟩;refine (Bm (O.le g) (L.le g) N).mono ?_;rintro _ J ⟨rfl,rfl⟩;refine ⟨_,rfl,?_,g⟩;obtain ⟨U,P⟩:=d;obtain ⟨Q,R⟩:=e;simp only at h;simp [h]
 ·refine ⟨?_,g⟩;have:¬d=e:=by rintro rfl;exact h rfl
  simp [this]
def Xa (S:List Tr) (x:Br):Option ξ:=if x∈brs S then mB (vi (((brs S).idxOf x+2:Nat):Int)) else nC
structure BD (F0 F:PH) (b m:Nat) (S:List Tr):Prop where
 le:F0.le F
 cl:Cl S
 nb:F0 b=nC
 nm:F0 m=nC
 ex:∃s:Sl,F b=mB (mX #[s.v,.map (mB m)] 248)/\bO F 201 3 s (aW (brs S))/\∀a,s.qa5=mB a->F0 a.block=nC
 map:∃o,F m=mB o/\dW Bl (Xa S) o
theorem bO.elem {F:PH} {e size:Nat} {s:Sl} {vs:Ξ} (h:bO F e size s vs) {a:Addr} (r:s.qa5=mB a):∃g,F a.block=mB (mX g e (0,0)):=by
 rcases h with ⟨rfl,rfl⟩|⟨b,g,w,A,_⟩
 ·cases r
 ·rw [w] at r;cases r;exact ⟨g,A⟩
theorem qg5 (F:PH):ν 211 #[] F λr G=>∃b m,r=pj (mB ⟨b,0,nC⟩)/\b≠m/\BD F G b m []:=by
 refine qcS ?_;unfold OV;intro C B;refine tP ?_;intro E g;refine tP ?_;have w:=ae (.map #[] 0) B;have A:=ae (mX #[tU nC 0 0,Value.map (mB C)] 248) g;have D:E≠C:=λe=>by rw [e,aq] at g;cases g
 refine ⟨E,C,rfl,D,λb o h=>A b o (w b o h),.nil,aU w g,B,⟨pk,aq _ _ _,.inl ⟨rfl,rfl⟩,λa H=>by cases H⟩,_,A _ _ (aq _ _ _),?_⟩;have:Xa []=λ_=>nC:=by funext x;simp [Xa,brs]
 rw [this];exact dW.empty Bl
instance (S:List Tr) (t:Tr):Decidable (inn S t):=inferInstanceAs (Decidable (t.isL=nZ\/t∈S))
def eX (S:List Tr) (t:Tr):List Tr:=if inn S t then S else S++[t]
theorem rJ {S:List Tr} (w:Cl S) {v:Nat} {l h:Tr} (G:v<64/\v<l.top/\v<h.top/\l.ok/\h.ok):eX (tV h (tV l S)) (mk v l h)=tV (mk v l h) S:=by
 obtain ⟨P,N,M,C,D⟩:=G;obtain ⟨B,A,X,J,H⟩:=bk l S C w;obtain ⟨L,O,Y,I,K⟩:=bk h (tV l S) D B;unfold mk;split
 ·rename_i e;subst e;rw [gn A];unfold eX;rw [Χ A]
 ·rename_i e
  conv=>rhs;unfold tV
  unfold eX;by_cases r:qa7 v l h∈S
  ·have F:=(w.inn_kids (.inr r)).1;have E:=(w.inn_kids (.inr r)).2;rw [Χ r,gn F,gn E,Χ (.inr r)]
  ·rw [Υ r,Υ];rintro (g|g)
   ·cases g
   ·rw [I,J] at g;rcases vl.1 g with g|g
    ·rcases vl.1 g with g|g
     ·exact r g
     ·have:=H _ g;simp only [sz] at this;omega
    ·have:=K _ g;simp only [sz] at this;omega
theorem um {α r:Type} [DecidableEq α] [DecidableEq r] (f:α->r) (x:α):∀(l:List α),x∈l->(∀y∈l,f y=f x->y=x)->(l.map f).idxOf (f x)=l.idxOf x
 |[],h,_=>by cases h
 |a::l,h,hi=>by
  simp only [xV,List.idxOf_cons];by_cases g:a=x
  ·subst g;simp
  ·have B:¬f a=f x:=λe=>g (hi a (by simp) e);have w:(a==x)=nS:=by simpa using g
   have A:(f a==f x)=nS:=by simpa using B
   rw [w,A];simp only [cond_false];rw [um f x l (by simpa [Ne.symm g] using h) (λy C=>hi y (by simp [C]))]
theorem ig {S:List Tr} (D:Cl S) {v:Nat} {l h:Tr} (E:inn S l) (F:inn S h):br S (qa7 v l h)∈brs S↔qa7 v l h∈S:=by
 constructor
 ·intro g;obtain ⟨u,A,B⟩:=xR.1 g;obtain ⟨_,C,K,G,rfl,r,w⟩:=D.mem u A;simp only [br,Br.mk.injEq] at B;obtain ⟨H,J,I⟩:=B;rw [<- cK r E (by omega),<- cK w F (by omega),<- show C=v by omega];exact A
 ·intro g;exact List.mem_map_of_mem g
theorem FL {S:List Tr} (r:Cl S) {v:Nat} {l h:Tr} (g:qa7 v l h∈S):(brs S).idxOf (br S (qa7 v l h))+2=num S (qa7 v l h):=by unfold brs;rw [um _ _ _ g (λy w e=>J4 r w g e)];rfl
theorem ID {S:List Tr} (A:Cl S) {v:Nat} {l h:Tr} (B:inn S l) (C:inn S h) (E:qa7 v l h ∉ S):
  Xa (S++[qa7 v l h])=λx=>if x=br S (qa7 v l h) then mB (vi (((S.length+2:Nat):Int))) else Xa S x:=by
 have D:br S (qa7 v l h) ∉ brs S:=λg=>E ((ig A B C).1 g);have r:br S (qa7 v l h)=⟨(v:Int),(num S l:Int),(num S h:Int)⟩:=rfl;funext x;unfold Xa;rw [eg A B C,<- r];by_cases w:x=br S (qa7 v l h)
 ·subst w;rw [Χ rfl,Χ (by simp),List.idxOf_append,Υ D];simp [aP]
 ·rw [Υ w];by_cases g:x∈brs S
  ·rw [Χ g,Χ (by simp [g]),List.idxOf_append,Χ g]
  ·rw [Υ g,Υ (by simp [g,w])]
section
variable {F0 F:PH} {b m:Nat} {S:List Tr}
theorem qhV (hd:BD F0 F b m S) {v:Nat} {l h:Tr} (V:inn S l) (Y:inn S h) (hv:v<64/\v<l.top/\v<h.top) (hf:yg (S.length+2)):
  ν 214 #[pj (mB ⟨b,0,nC⟩),vi v,vi (num S l),vi (num S h)] F λr F'=>r=vi (num (eX S (mk v l h)) (mk v l h))/\BD F0 F' b m (eX S (mk v l h)):=by
 have d0:=hd;obtain ⟨b8,P,a0,a2,⟨s,E,J,a8⟩,ob,K,I⟩:=hd;refine qcV ?_;unfold OY;refine ⟨λhe=> ?_,λhe=> ?_⟩
 ·obtain rfl:=cK V Y (by omega);have e:mk v l l=l:=by simp [mk]
  rw [e];have e2:eX S l=S:=by unfold eX;rw [Χ V]
  rw [e2];exact ⟨rfl,d0⟩
 have a4:l≠h:=λe=>he (by rw [e]);have c7:mk v l h=qa7 v l h:=by simp [mk,a4]
 have c3:(qa7 v l h).ok:=⟨hv.1,hv.2.1,hv.2.2,a4,P.inn_ok V,P.inn_ok Y⟩;rw [c7];intro R b4;refine tP ?_;refine Vd (aq _ _ _) rfl rfl (ij ⟨v,num S l,num S h⟩) ?_;rw [aS];have C:=ae (mX (aX ⟨v,num S l,num S h⟩) 201) b4;have O:=aq F R (mX (aX ⟨v,num S l,num S h⟩) 201);have a6:br S (qa7 v l h)=⟨(v:Int),(num S l:Int),(num S h:Int)⟩:=rfl;rw [<- a6] at O C;show ∃d4:Addr,_;rw [show (#[vi v,vi (num S l),vi (num S h)]:Γ)=aX (br S (qa7 v l h)) from rfl];have E:=C _ _ E;have K:=C _ _ K;have U:F0.le (F.set R (mX (aX (br S (qa7 v l h))) 201)):=λx o M=>C x o (b8 x o M);have d3:∀a,s.qa5=mB a->a.block≠R:=λa w e=>by obtain ⟨D,g⟩:=J.elem w;rw [e,b4] at g;cases g
 have Z:∀a,s.qa5=mB a->(∃D,(F.set R (mX (aX (br S (qa7 v l h))) 201)) a.block=mB (mX D 201 (0,0))):=λa w=>by obtain ⟨D,g⟩:=J.elem w;exact ⟨D,C _ _ g⟩
 replace J:bO (F.set R (mX (aX (br S (qa7 v l h))) 201)) 201 3 s (aW (brs S)):=J.keep λa w=>by obtain ⟨D,g⟩:=J.elem w;rw [g,C _ _ g]
 generalize F.set R (mX (aX (br S (qa7 v l h))) 201)=F1 at*;refine ⟨_,rfl,mB m,by simp only [aJ];rw [av E];rfl,aX (br S (qa7 v l h)),rfl,ai O,?_⟩;have Q:=bL (F:=F1) Z3 K I (br S (qa7 v l h)) nZ;by_cases A:qa7 v l h∈S
 ·have M:=(ig P V Y).2 A;have e1:Xa S (br S (qa7 v l h))=mB (vi (num S (qa7 v l h))):=by unfold Xa;rw [Χ M,FL P A]
  rw [e1] at Q;refine ⟨_,_,Q,λhc=>(by cases hc),λ_=> ?_⟩;have e2:eX S (qa7 v l h)=S:=by unfold eX;rw [Χ (.inr A)]
  rw [e2];exact ⟨rfl,U,P,a0,a2,⟨s,E,J,a8⟩,ob,K,I⟩
 ·have M:br S (qa7 v l h) ∉ brs S:=λM=>A ((ig P V Y).1 M);have e1:Xa S (br S (qa7 v l h))=nC:=by unfold Xa;rw [Υ M]
  rw [e1] at Q;have e2:eX S (qa7 v l h)=S++[qa7 v l h]:=by
   unfold eX;rw [Υ];rintro (hc|hc)
   ·cases hc
   ·exact A hc
  rw [e2];have b3:Cl (S++[qa7 v l h]):=.snoc P V Y c3 A;refine ⟨_,_,Q,λ_=> ?_,λhc=>(by cases hc)⟩;refine ⟨s,by rw [av E];rfl,aX (br S (qa7 v l h)),rfl,ai O,rfl,λN a9=> ?_⟩;refine tP ?_;have B:=ae (mX (aX (br S (qa7 v l h))) 201) a9;have c5:=aq F1 N (mX (aX (br S (qa7 v l h))) 201);have E:=B _ _ E;have K:=B _ _ K;have O:=B _ _ O;have a7:F0.le (F1.set N (mX (aX (br S (qa7 v l h))) 201)):=λx o M=>B x o (U x o M);replace J:bO (F1.set N (mX (aX (br S (qa7 v l h))) 201)) 201 3 s (aW (brs S)):=J.keep λa w=>by obtain ⟨D,g⟩:=Z a w;rw [g,B _ _ g]
  generalize F1.set N (mX (aX (br S (qa7 v l h))) 201)=F2 at*;have H:=J.rd.blen;rw [aP] at H;refine iz underlying31 Et Eu rfl (by decide) a7 J a8 (x:=⟨mB ⟨N,0,nC⟩,1,1⟩) (news:=df (br S (qa7 v l h))) (RdS.new c5 rfl rfl (tI _)) (λx M=>ja [br S (qa7 v l h)] x (by simpa [aW] using M)) (by simp only [H];omega) (by simp only [H];omega) ?_;intro G F3 a5 b1 X c2 a3 e0;have c9:∀a,s.qa5=mB a->a.block≠b:=λa w e=>by obtain ⟨D,g⟩:=J.elem w;rw [e,E] at g;cases g
  have c6:∀a,s.qa5=mB a->a.block≠m:=λa w e=>by obtain ⟨D,g⟩:=J.elem w;obtain ⟨es,c,L,rfl,_⟩:=I;rw [e,K] at g;cases g
  have E:=a3 _ _ E (λ⟨a,w,e⟩=>c9 a w e);have K:=a3 _ _ K (λ⟨a,w,e⟩=>c6 a w e);have O:=a3 _ _ O (λ⟨a,w,e⟩=>d3 a w e);refine ⟨G,rfl,?_⟩;refine Wb E (by simp) ?_;have b2:b≠m:=λe=>by obtain ⟨es,c,L,rfl,_⟩:=I;rw [e,K] at E;cases E
  have d1:R≠b:=λe=>by rw [e,E] at O;cases O
  have b5:∀a,G.qa5=mB a->a.block≠b/\a.block≠m:=λa w=>by
   obtain ⟨D,g⟩:=b1.elem w;refine ⟨λe=> ?_,λe=> ?_⟩
   ·rw [e,E] at g;cases g
   ·obtain ⟨es,c,L,rfl,_⟩:=I;rw [e,K] at g;cases g
  have b6:F0.le (F3.set b (mX (#[G.v,Value.map (mB m)]:Γ) 248)):=aC a5 a0;have a1:=aq F3 b (mX (#[G.v,Value.map (mB m)]:Γ) 248);have d2:(F3.set b (mX (#[G.v,Value.map (mB m)]:Γ) 248)) m=mB ob:=by rw [aw _ _ b2.symm];exact K
  have c8:(F3.set b (mX (#[G.v,Value.map (mB m)]:Γ) 248)) R=mB (mX (aX (br S (qa7 v l h))) 201):=by rw [aw _ _ d1];exact O
  have c4:bO (F3.set b (mX (#[G.v,Value.map (mB m)]:Γ) 248)) 201 3 G (aW (brs S)++df (br S (qa7 v l h))):=b1.keep λa w=>aw _ _ (b5 a w).1;rw [show (#[s.v,Value.map (mB m)].setIfInBounds 0 G.v:Γ)= #[G.v,Value.map (mB m)] from rfl];generalize F3.set b (mX (#[G.v,Value.map (mB m)]:Γ) 248)=F4 at*;have W:G.len=S.length+1:=by rw [X,H]
  refine ⟨G,by rw [av a1];rfl,mB m,by simp only [aJ];rw [av a1];rfl,aX (br S (qa7 v l h)),rfl,ai c8,?_⟩;refine bh Z3 d2 I (br S (qa7 v l h)) _ λo' b0=> ?_;have hw:i64.wrap ((G.len:Int)+1)=((S.length+2:Nat):Int):=by rw [W,aL (by omega)];omega
  rw [hw] at b0 ⊢;refine ⟨?_,aC b6 a2,b3,a0,a2,⟨G,by rw [aw _ _ b2];exact a1,?_,c2⟩,o',aq _ _ _,by rw [ID P V Y A];exact b0⟩
  ·have b7:=dO b3 (k:=S.length) (t:=qa7 v l h) (by simp);rw [b7]
  ·have e3:aW (brs (S++[qa7 v l h]))=aW (brs S)++df (br S (qa7 v l h)):=by rw [eg P V Y,<- a6,d7];simp [aW]
   rw [e3];exact c4.keep λa w=>aw _ _ (b5 a w).2
end
theorem cS {α:Type} [DecidableEq α]:∀(l m:List α),l.Nodup->(∀x∈l,x∈m)->l.length<=m.length
 |[],_,_,_=>yM _
 |a::l,m,hn,hs=>by rw [Wx] at hn;have r:=hs a (by simp);have h:=cS l (m.erase a) hn.2 (λx g=>(List.mem_erase_of_ne (by rintro rfl;exact hn.1 g)).2 (hs x (by simp [g])));rw [List.length_erase_of_mem r] at h;have:=List.length_pos_of_mem r;simp only [wo];omega
theorem IE:aG prog 182=nZ:=by kernel_rfl
def WV (S0 S:List Tr) (n:Int):Option ξ:=
 if 0<=n/\n<=(S0.length:Int)+1/\inn S (tr S0 n.toNat) then mB (vi (num S (tr S0 n.toNat):Int)) else nC
theorem pM {g S:List Tr} (r:Cl g) {t:Tr} (h:inn g t) (hi:inn S t):WV g S (num g t)=mB (vi (num S t)):=by have w:=dN h;unfold WV;rw [N4,nT r h,Χ ⟨by omega,by omega,hi⟩]
theorem IF {g S:List Tr} (w:Cl g) {t:Tr} (r:inn g t) (hi:¬inn S t):WV g S (num g t)=nC:=by unfold WV;rw [N4,nT w r,Υ (λh=>hi h.2.2)]
theorem IG {g S:List Tr} (B:Cl g) (E:Cl S) {t:Tr} (D:inn g t) (w:Cl (S++[t])):
  WV g (S++[t])=λn=>if n=(num g t:Int) then mB (vi (((S.length+2:Nat)):Int)) else WV g S n:=by
 funext n;by_cases C:n=(num g t:Int)
 ·subst C;rw [Χ rfl,pM B D (.inr (by simp)),dO w (k:=S.length) (by simp)]
 ·rw [Υ C];unfold WV;by_cases r:0<=n/\n<=(g.length:Int)+1
  ·have A:tr g n.toNat≠t:=λe=>by have:=fR B (n:=n.toNat) (by omega);rw [e] at this;omega
   by_cases hi:inn S (tr g n.toNat)
   ·rw [Χ ⟨r.1,r.2,bX hi⟩,Χ ⟨r.1,r.2,hi⟩,bM hi]
   ·rw [Υ,Υ (λh=>hi h.2.2)];rintro ⟨_,_,h|h⟩
    ·exact hi (.inl h)
    ·rcases vl.1 h with h|h
     ·exact hi (.inr h)
     ·exact A (wa.1 h)
  ·rw [Υ (λh=>r ⟨h.1,h.2.1⟩),Υ (λh=>r ⟨h.1,h.2.1⟩)]
theorem Mj {g:List Tr} (w:Cl g):WV g []=λn=>if n=1 then mB (vi 1) else if n=0 then mB (vi 0) else nC:=by
 funext n;unfold WV;by_cases r:n=1
 ·subst r;have e:tr g (pc 1)=qa6 nZ:=rfl;rw [Χ rfl,e,Χ ⟨by omega,by omega,fQ _ _⟩];rfl
 ·rw [Υ r];by_cases h:n=0
  ·subst h;have e:tr g (pc 0)=qa6 nS:=rfl;rw [Χ rfl,e,Χ ⟨by omega,by omega,fQ _ _⟩];rfl
  ·rw [Υ h,Υ];rintro ⟨a,b,c|c⟩
   ·have B:inn g (tr g n.toNat):=gB (by omega);have A:=fR w (n:=n.toNat) (by omega);generalize tr g n.toNat=t at*;cases t with
    |qa6 x=>have:=cI g x;omega
    |qa7 _ _ _=>cases c
   ·cases c
structure VE (F0:PH) (b6 b2 b7 b5 M b:Nat) (ns:Sl) (S0:List Tr):Prop where
 c6:F0.cell ⟨b6,0,nC⟩=mB (.map (mB M))
 c2:F0.cell ⟨b2,0,nC⟩=mB (pj (mB ⟨b,0,nC⟩))
 c7:F0.cell ⟨b7,0,nC⟩=mB (.func (.func 182) #[] #[pj (mB ⟨b6,0,nC⟩),pj (mB ⟨b2,0,nC⟩),pj (mB ⟨b7,0,nC⟩),pj (mB ⟨b5,0,nC⟩)])
 cb:F0.cell ⟨b,0,nC⟩=mB ns.v
 rd:RdS F0 ns 3 (aW (brs S0))
theorem VE.le {F0 G:PH} {r w A B M b:Nat} {ns:Sl} {C:List Tr} (h:VE F0 r w A B M b ns C) (g:F0.le G):VE G r w A B M b ns C:=
 ⟨aK g h.c6,aK g h.c2,aK g h.c7,aK g h.cb,h.rd.le g⟩
structure VS (F0 F:PH) (b5 M:Nat) (S0 S:List Tr):Prop where
 le:F0.le F
 cl:Cl S
 sub:∀x∈S,x∈S0
 n5:F0 b5=nC
 nM:F0 M=nC
 ex:∃(s:Sl),F b5=mB (mX #[s.v,vi 0] 33)/\bO F 201 3 s (aW (brs S))/\∀a,s.qa5=mB a->F0 a.block=nC
 map:∃o,F M=mB o/\dW bg (WV S0 S) o
theorem bO.upto {F G:PH} {e size:Nat} {s:Sl} {vs:Ξ} (h:bO F e size s vs) (r:F.le G):bO G e size s vs:=by
 rcases h with h|⟨b,g,B,w,A⟩
 ·exact .inl h
 ·exact .inr ⟨b,g,B,r _ _ w,A⟩
theorem Bn {b6 b2 b7 I M b:Nat} {ns:Sl} {w:List Tr} (h0:Cl w) (hf:yg (w.length+4)):∀(t:Tr),inn w t->∀(F0 F:PH) (S:List Tr),VE F0 b6 b2 b7 I M b ns w->VS F0 F I M w S->
  ν 182 #[vi (num w t),pj (mB ⟨b6,0,nC⟩),pj (mB ⟨b2,0,nC⟩),pj (mB ⟨b7,0,nC⟩),pj (mB ⟨I,0,nC⟩)] F
   λr F'=>r=vi (num (tV t S) t)/\VS F0 F' I M w (tV t S):=by
 intro t;induction t with
 |qa6 x=>intro W F0 F S he hs;have c5:=hs;obtain ⟨D,hS,a7,b3,c9,⟨s,h5,ho,f8⟩,o,hM,a1⟩:=hs;refine OQ ?_;unfold Jg;have J:=bL (F:=F) YK hM a1 (num w (qa6 x)) nZ;rw [pM h0 W (fQ _ _)] at J;exact ⟨_,rfl,_,aK D he.c6,_,_,J,λ_=>⟨rfl,c5⟩,λhc=>by cases hc⟩
 |qa7 v l h i0 h4=>
  intro W F0 F S he hs;have c5:=hs;obtain ⟨D,hS,a7,b3,c9,⟨s,h5,ho,f8⟩,o,hM,a1⟩:=hs;have e1:=cy W rfl;obtain ⟨h3,g8⟩:=h0.inn_kids W;have b4:=h0.inn_ok W;refine OQ ?_;unfold Jg;have J:=bL (F:=F) YK hM a1 (num w (qa7 v l h)) nZ;by_cases a0:qa7 v l h∈S
  ·rw [pM h0 W (.inr a0)] at J;have e:tV (qa7 v l h) S=S:=gn (.inr a0);rw [e];exact ⟨_,rfl,_,aK D he.c6,_,_,J,λ_=>⟨rfl,c5⟩,λhc=>by cases hc⟩
  ·have e2:¬inn S (qa7 v l h):=by
    rintro (hc|hc)
    ·cases hc
    ·exact a0 hc
   rw [IF h0 W e2] at J;have hw:=oE (n:=num w (qa7 v l h)) (by have:=dN W;omega) (cU rfl);have j3:=dN W;have j2:=cU (S:=w) (t:=qa7 v l h) rfl;obtain ⟨a,B,e9,_⟩:=VX (he.rd.le D) (jM (ee e1 rfl));have h6:=he.rd.blen;rw [aP] at h6;refine ⟨_,rfl,_,aK D he.c6,_,_,J,λhc=>(by cases hc),λ_=> ?_⟩;refine ⟨_,rfl,_,aK D he.c2,_,rfl,ns,aK D he.cb,a,B,by rw [hw];omega,by rw [hw];omega,aX (br w (qa7 v l h)),rfl,by rw [hw];exact e9,?_⟩;intro N Z;refine tP ?_;refine Vd (aq _ _ _) rfl rfl (ij _) ?_;rw [aS];have f9:F0 N=nC:=aU D Z;have R:VE (F0.set N (mX (aX (br w (qa7 v l h))) 201)) b6 b2 b7 I M b ns w:=he.le (ae _ f9);have a9:I≠N:=aI Z h5;have a5:M≠N:=aI Z hM;have g2:(F0.set N (mX (aX (br w (qa7 v l h))) 201)).le (F.set N (mX (aX (br w (qa7 v l h))) 201)):=λx ob H=>by
    by_cases f3:x=N
    ·subst f3;rw [aq] at H ⊢;exact H
    ·rw [aw _ _ f3] at H ⊢;exact D _ _ H
   have c3:VS (F0.set N (mX (aX (br w (qa7 v l h))) 201)) (F.set N (mX (aX (br w (qa7 v l h))) 201)) I M w S:=by refine ⟨g2,hS,a7,by rw [aw _ _ a9];exact b3,by rw [aw _ _ a5];exact c9,⟨s,by rw [aw _ _ a9];exact h5,ho.upto (ae _ Z),λa B=> ?_⟩,o,by rw [aw _ _ a5];exact hM,a1⟩;obtain ⟨d1,g⟩:=ho.elem B;rw [aw _ _ (aI Z g)];exact f8 a B
   have a3:F0.le (F0.set N (mX (aX (br w (qa7 v l h))) 201)):=ae _ f9;have d2:(F0.set N (mX (aX (br w (qa7 v l h))) 201)) N=mB (mX (aX (br w (qa7 v l h))) 201):=aq _ _ _;generalize F0.set N (mX (aX (br w (qa7 v l h))) 201)=G0 at*;generalize F.set N (mX (aX (br w (qa7 v l h))) 201)=F1 at*;refine ⟨_,rfl,_,aK c3.le R.c7,_,by rw [av (c3.le _ _ d2)];rfl,_,_,_,rfl,IE,?_⟩;refine (i0 h3 G0 F1 S R c3).mono ?_;rintro _ F2 ⟨rfl,c4⟩;refine ⟨_,rfl,_,aK c4.le R.c7,_,by rw [av (c4.le _ _ d2)];rfl,_,_,_,rfl,IE,?_⟩;refine (h4 g8 G0 F2 _ R c4).mono ?_;rintro _ F3 ⟨rfl,e6⟩;have i2:=e6;obtain ⟨G,d3,V,f6,e5,⟨s3,A,Q,e8⟩,o3,E,O⟩:=e6;obtain ⟨i1,f5,X,j0,i5⟩:=bk l S b4.2.2.2.2.1 hS;obtain ⟨j1,g6,Y,g3,i4⟩:=bk h (tV l S) b4.2.2.2.2.2 i1;have g5:num (tV l S) l=num (tV h (tV l S)) l:=by rw [g3,bM f5]
   have e7:tV (qa7 v l h) S=tV h (tV l S)++[qa7 v l h]:=by
    conv=>lhs;unfold tV
    rw [Υ a0]
   obtain ⟨b8,_,_⟩:=bk (qa7 v l h) S b4 hS;rw [e7] at b8 ⊢;rw [g5];have g1:inn (tV h (tV l S)) l:=by rw [g3];exact bX f5
   generalize tV h (tV l S)=T at*;refine ⟨_,rfl,_,rfl,s3,by rw [av A];rfl,_,by rw [av (G _ _ d2)];rfl,rfl,λU a4=> ?_⟩;refine tP ?_;have h7:G0 U=nC:=aU G a4;have i3:T.length<=w.length:=cS T w d3.nodup V;have K:=Q.rd.blen;rw [aP] at K;have ex:(#[vi (v:Int),vi (num T l:Int),vi (num T h:Int)]:Γ)=aX ⟨(v:Int),(num T l:Int),(num T h:Int)⟩:=rfl;have C:=ae (mX (aX ⟨(v:Int),(num T l:Int),(num T h:Int)⟩) 201) a4;have h9:=aq F3 U (mX (aX ⟨(v:Int),(num T l:Int),(num T h:Int)⟩) 201);show aH prog _ (F3.set U (mX (aX ⟨(v:Int),(num T l:Int),(num T h:Int)⟩) 201)) _;replace G:G0.le (F3.set U (mX (aX ⟨(v:Int),(num T l:Int),(num T h:Int)⟩) 201)):=λx ob H=>C _ _ (G _ _ H);have Q:=Q.upto C;have A:=C _ _ A;have E:=C _ _ E;generalize F3.set U (mX (aX ⟨(v:Int),(num T l:Int),(num T h:Int)⟩) 201)=F4 at*;refine iz underlying31 Et Eu rfl (by decide) G Q e8 (x:=⟨mB ⟨U,0,nC⟩,1,1⟩) (news:=df ⟨(v:Int),(num T l:Int),(num T h:Int)⟩) (RdS.new h9 rfl rfl (tI _))
    (λx H=>ja [⟨(v:Int),(num T l:Int),(num T h:Int)⟩] x (by simpa [aW] using H)) (by simp only [K];omega) (by simp only [K];omega) ?_
   intro P F5 f1 e0 b1 g4 f4 _;have h8:∀a,s3.qa5=mB a->a.block≠I:=λa B e=>by obtain ⟨d1,g⟩:=Q.elem B;rw [e,A] at g;cases g
   have h1:∀a,s3.qa5=mB a->a.block≠M:=λa B e=>by obtain ⟨d1,g⟩:=Q.elem B;obtain ⟨es,c,L,rfl,_⟩:=O;rw [e,E] at g;cases g
   have A:=f4 _ _ A (λ⟨a,B,e⟩=>h8 a B e);have E:=f4 _ _ E (λ⟨a,B,e⟩=>h1 a B e);have d4:I≠M:=λe=>by obtain ⟨es,c,L,rfl,_⟩:=O;rw [e,E] at A;cases A
   have a6:∀a,P.qa5=mB a->a.block≠I/\a.block≠M:=λa B=>by
    obtain ⟨d1,g⟩:=e0.elem B;refine ⟨λe=> ?_,λe=> ?_⟩
    ·rw [e,A] at g;cases g
    ·obtain ⟨es,c,L,rfl,_⟩:=O;rw [e,E] at g;cases g
   refine ⟨P,rfl,?_⟩;refine Wb A (by simp) ?_;rw [show (#[s3.v,vi 0].setIfInBounds 0 P.v:Γ)= #[P.v,vi 0] from rfl];have a2:G0.le (F5.set I (mX #[P.v,vi 0] 33)):=aC f1 f6;have e4:=aq F5 I (mX #[P.v,vi 0] 33);have g9:(F5.set I (mX #[P.v,vi 0] 33)) M=mB o3:=by rw [aw _ _ d4.symm];exact E
   have g7:bO (F5.set I (mX #[P.v,vi 0] 33)) 201 3 P _:=e0.keep λa B=>aw _ _ (a6 a B).1;generalize F5.set I (mX #[P.v,vi 0] 33)=F6 at*;have c8:P.len=T.length+1:=by rw [b1,K]
   have h2:i64.wrap ((P.len:Int)+1)=((T.length+2:Nat):Int):=by rw [c8,aL (by omega)];omega
   refine ⟨_,aK a2 R.c6,P,by rw [av e4];rfl,?_⟩;dsimp only;rw [h2];refine bh YK g9 O (num w (qa7 v l h):Int) _ λo' d0=> ?_;rw [<- IG h0 d3 W b8] at d0;have b0:G0.le (F6.set M o'):=aC a2 e5;have a8:=bL (F:=F6.set M o') YK (aq F6 M o') d0 (num w (qa7 v l h)) nS;rw [pM h0 W (.inr (by simp))] at a8;refine ⟨_,aK b0 R.c6,_,a8,rfl,λx ob H=>b0 _ _ (a3 _ _ H),b8,λx H=> ?_,b3,c9,⟨P,by rw [aw _ _ d4];exact e4,?_,λa B=>aU a3 (g4 a B)⟩,o',aq _ _ _,d0⟩
   ·rcases vl.1 H with H|H
    ·exact V x H
    ·rw [wa.1 H];exact e1
   ·have e3:aW (brs (T++[qa7 v l h]))=aW (brs T)++df ⟨(v:Int),(num T l:Int),(num T h:Int)⟩:=by rw [eg d3 g1 g6,d7];simp [aW]
    rw [e3];exact g7.keep λa B=>aw _ _ (a6 a B).2
def nJ (F:PH) (a b:Nat):PH:=λx=>if x=a\/x=b then nC else F x
theorem Mk (F:PH) (a b:Nat):(nJ F a b).le F:=λx o h=>by
 unfold nJ at h;split at h
 ·cases h
 ·exact h
theorem lW {F:PH} {a b x:Nat} (h:x≠a) (g:x≠b):nJ F a b x=F x:=by simp [nJ,h,g]
theorem RI (F:PH) (a b:Nat):nJ F a b a=nC:=by simp [nJ]
theorem RJ (F:PH) (a b:Nat):nJ F a b b=nC:=by simp [nJ]
theorem Ml {F G:PH} {a b:Nat} (h:F.le G) (r:F a=nC) (w:F b=nC):F.le (nJ G a b):=λx o g=>by
 have B:x≠a:=λe=>by rw [e,r] at g;cases g
 have A:x≠b:=λe=>by rw [e,w] at g;cases g
 rw [lW B A];exact h _ _ g
theorem PH.le.trans {F G H:PH} (h:F.le G) (k:G.le H):F.le H:=λb o g=>k _ _ (h _ _ g)
section
variable {F:PH} {b:Nat} {ns:Sl} {S0:List Tr} {t:Tr}
theorem lX (hb:F.cell ⟨b,0,nC⟩=mB ns.v) (hr:RdS F ns 3 (aW (brs S0))) (h0:Cl S0) (ht:inn S0 t) (hf:yg (S0.length+4)):
  ν 147 #[pj (mB ⟨b,0,nC⟩),vi (num S0 t)] F λr F'=>∃v,r=oc v/\DV F' v (ph t)/\F.le F':=by
 have b8:=h0.inn_ok ht;refine qdu ?_;unfold OM;intro U b1;refine tP ?_;have l2:=ae (mX #[pj (mB ⟨b,0,nC⟩)] 245) b1;have C:=aq F U (mX #[pj (mB ⟨b,0,nC⟩)] 245);generalize F.set U (mX #[pj (mB ⟨b,0,nC⟩)] 245)=F2 at*;intro K a1;refine tP ?_;have l4:=ae (mX zD 33) a1;have D:=aq F2 K (mX zD 33);have C:=l4 _ _ C;have f4:F K=nC:=aU l2 a1;have l4:=l2.trans l4;generalize F2.set K (mX zD 33)=F4 at*;intro w H;refine tP ?_;have a7:U≠w:=aI H C;have Y:K≠w:=aI H D;refine Vd (aq _ _ _) rfl rfl (λx g=> ?_) ?_
 ·simp only [tQ,Ws,or_false] at g;rcases g with rfl|rfl
  ·exact JZ (x:=pk)
  ·exact jg
 rw [aS];have V:=ae (mX zD 33) H;have E:=aq F4 w (mX zD 33);have C:=V _ _ C;have D:=V _ _ D;have f5:F w=nC:=aU l4 H;have V:=l4.trans V;generalize F4.set w (mX zD 33)=F5 at*;intro h A;refine tP ?_;have f9:F h=nC:=aU V A;have a5:U≠h:=aI A C;have a6:K≠h:=aI A D;have c3:w≠h:=aI A E;refine bh YK (aq _ _ _) (dW.empty bg) 0 (vi 0) λo1 a4=> ?_;rw [aS];refine bh YK (aq _ _ _) a4 1 (vi 1) λJ W=> ?_;rw [aS];have hn:WV S0 []=(λk'=>if k'=1 then mB (vi 1) else if k'=0 then mB (vi 0) else nC):=Mj h0;rw [<- hn] at W;have l9:F.le (F5.set h J):=V.trans (ae J A);have L:=aq F5 h J;have C:=ae J A _ _ C;have D:=ae J A _ _ D;have E:=ae J A _ _ E;generalize F5.set h J=F9 at*;intro M P;refine tP ?_;refine Wb (aq _ _ _) (by simp) ?_;rw [aS,show (#[Value.map nC].setIfInBounds 0 (Value.map (mB h)):Γ)= #[Value.map (mB h)] from rfl];have a9:M≠w:=(aI P E).symm;have a8:M≠h:=(aI P L).symm;have g:=ae (mX #[Value.map (mB h)] 278) P;have h6:=aq F9 M (mX #[Value.map (mB h)] 278);have l6:F.le (F9.set M (mX #[Value.map (mB h)] 278)):=l9.trans g;have C:=g _ _ C;have D:=g _ _ D;have E:=g _ _ E;have L:=g _ _ L;clear g;generalize F9.set M (mX #[Value.map (mB h)] 278)=F6 at*;intro I O;refine tP ?_;refine Wb (aq _ _ _) (by simp) ?_;rw [aS];generalize X:(Value.func (.func 182) #[] #[(pj (mB (pd M 0 nC))),(pj (mB (pd U 0 nC))),(pj (mB (pd I 0 nC))),(pj (mB (pd w 0 nC)))])=R;rw [show (#[Value.nilFunc].setIfInBounds (pd I 0 nC).off R:Γ)= #[R] from rfl];have b0:I≠w:=(aI O E).symm;have a3:I≠h:=(aI O L).symm;have g:=ae (mX #[R] 149) O;have h7:=aq F6 I (mX #[R] 149);have l7:F.le (F6.set I (mX #[R] 149)):=l6.trans g;have C:=g _ _ C;have D:=g _ _ D;have E:=g _ _ E;have L:=g _ _ L;have h6:=g _ _ h6;clear g;generalize F6.set I (mX #[R] 149)=Z at*;have lF:F.le (nJ Z w h):=Ml l7 f5 f9;have g4:(nJ Z w h) K=_:=(lW Y a6).trans D;have he:VE (nJ Z w h) M U I w h b ns S0:=by
  refine ⟨?_,?_,?_,aK lF hb,hr.le lF⟩
  ·rw [av ((lW a9 a8).trans h6)];rfl
  ·rw [av ((lW a7 a5).trans C)];rfl
  ·rw [av ((lW b0 a3).trans h7),<- X];rfl
 have hs:VS (nJ Z w h) Z w h S0 []:=by refine ⟨Mk _ _ _,.nil,λx g=>(by cases g),RI _ _ _,RJ _ _ _,⟨pk,E,.inl ⟨rfl,rfl⟩,λa Q=>by cases Q⟩,J,L,W⟩
 refine ⟨_,by rw [av h7];rfl,_,_,_,X.symm,IE,?_⟩;refine (Bn h0 hf t ht _ _ _ he hs).mono ?_;rintro _ G ⟨rfl,a2⟩;refine ⟨_,rfl,?_⟩;obtain ⟨N,c2,_,_,_,⟨s,g5,go,gs⟩,_⟩:=a2;have ev:tV t []=aV t:=rfl;rw [ev] at*;refine Wb g5 (by simp) ?_;rw [show (#[s.v,vi 0].setIfInBounds 1 (vi (num (aV t) t)):Γ)= #[s.v,vi (num (aV t) t)] from rfl];refine ⟨#[s.v,vi (num (aV t) t)],rfl,ai (aq _ _ _),?_⟩;have k4:(G.set w (mX #[s.v,vi (num (aV t) t)] 33)) K=mB (mX zD 33):=by rw [aw _ _ Y];exact N _ _ g4
 refine Vd k4 rfl rfl (λx g=> ?_) ?_
 ·simp only [tQ,Ws,or_false] at g;rcases g with rfl|rfl
  ·exact JZ
  ·exact jg
 refine ⟨#[s.v,vi (num (aV t) t)],rfl,ai (aq _ _ _),_,rfl,⟨s,rfl,?_⟩,?_⟩
 ·have a0:∀a,s.qa5=mB a->a.block≠w/\a.block≠K:=λa Q=>by
   obtain ⟨b3,B⟩:=go.elem Q;refine ⟨λe=> ?_,λe=> ?_⟩
   ·rw [e,g5] at B;cases B
   ·rw [e,N _ _ g4] at B;cases B
  exact (go.keep λa Q=>by rw [aw _ _ (a0 a Q).2,aw _ _ (a0 a Q).1]).rd
 ·exact aC (aC (lF.trans N) f5) f4
end
def iP (d:wc):Prop:=∃t:Tr,t.ok/\d=ph t
open Classical in
def chk (d:wc):Int:=if 4096<d.1.length then 2 else if iP d then 0 else 20
def yG (S:List Tr) (b:Br):Prop:=∃(v:Nat) (l h:Tr),b=⟨(v:Int),(num S l:Int),(num S h:Int)⟩/\inn S l/\inn S h/\(qa7 v l h).ok/\qa7 v l h ∉ S
theorem IH {T:List Tr} (C:Cl T):∀k,k<T.length->Cl (T.take k)/\∃v l h,T[k]? =mB (qa7 v l h)/\inn (T.take k) l/\inn (T.take k) h/\(qa7 v l h).ok/\qa7 v l h ∉ T.take k:=by
 induction C with
 |nil=>intro k r;simp at r
 | @snoc S v l h F G N w L ih=>
  intro k r;by_cases g:k<S.length
  ·obtain ⟨K,B,M,D,I,J,E,A,H⟩:=ih k g;rw [WJ (by omega)];exact ⟨K,B,M,D,by rw [z8 g];exact I,J,E,A,H⟩
  ·have e:k=S.length:=by simp at r;omega
   subst e;rw [List.take_left' rfl];exact ⟨F,v,l,h,by simp,G,N,w,L⟩
theorem yH {T:List Tr} {k:Nat} {t:Tr} (h:inn (T.take k) t):num T t=num (T.take k) t:=by have:=bM (X:=T.drop k) h;rw [WY] at this;exact this
theorem II {T:List Tr} (g:Cl T) (k:Nat):brs (T.take k)=(brs T).take k:=by
 by_cases r:k<T.length
 ·have h:=sF (X:=T.drop k) (IH g k r).1;rw [WY] at h;rw [h,List.take_left' (by rw [aP,PM];omega)]
 ·rw [yY (by omega),yY (by rw [aP];omega)]
theorem vY {r:List Tr} (w:Cl r):∀(t:Tr) (S:List Tr),inn r t->(∀x∈S,x∈r)->∀x∈tV t S,x∈r
 |qa6 _,_,_,hs=>hs
 |qa7 v l h,S,ht,hs=>by
  obtain ⟨A,B⟩:=w.inn_kids ht;unfold tV;split
  ·exact hs
  ·intro x g;rcases vl.1 g with g|g
   ·exact vY w h _ B (vY w l S A hs) x g
   ·rw [wa.1 g];exact cy ht rfl
theorem Mm {g:List Tr} (r:Cl g) {t:Tr} (h:inn g t):(aV t).length<=g.length:=
 cS _ _ (bz (r.inn_ok h)).nodup (vY r t [] h (λx w=>by cases w))
theorem ku {d:wc} (J:iP d) {S:List Tr} (D:Cl S) {k:Nat} (M:S.length=k) (g:k<d.1.length) (H:brs S=d.1.take k):yG S d.1[k]:=by
 obtain ⟨t,G,rfl⟩:=J;have w:=bz G;have E:k<(aV t).length:=by simpa [ph,aP] using g
 obtain ⟨K,v,l,h,I,B,r,C,F⟩:=IH w k E;have e:S=(aV t).take k:=qj D K (by rw [H,II w];rfl);subst e;refine ⟨v,l,h,?_,B,r,C,F⟩;have A:=jM I;have L:(brs (aV t))[k]? =mB (ph t).1[k]:=N5 (by simpa [ph] using g);rw [L] at A;rw [yV A];simp only [br];rw [yH B,yH r]
theorem cj {S:List Tr} (w:Cl S) {b:Br} (h:yG S b):0<=b.v/\b.v<=63/\0<=b.l/\0<=b.h/\b.l<=S.length+1/\b.h<=S.length+1/\b.l≠b.h/\b ∉ brs S/\
  b.v<(tr S b.l.toNat).top/\b.v<(tr S b.h.toNat).top:=by
 obtain ⟨v,l,h,rfl,g,r,⟨I,F,E,C,J,H⟩,A⟩:=h;have D:=dN g;have G:=dN r;refine ⟨by simp,by simp only;omega,by simp,by simp,by simp only;omega,by simp only;omega,λe=>C (cK g r (by simp only at e;omega)),λB=>A ((ig w g r).1 B),?_,?_⟩
 ·simp only [N4,nT w g];omega
 ·simp only [N4,nT w r];omega
theorem Dq {S:List Tr} (g:Cl S) {b:Br} (L:0<=b.v) (J:b.v<=63) (K:0<=b.l) (F:0<=b.h) (E:b.l<=S.length+1) (G:b.h<=S.length+1) (H:b.l≠b.h) (A:b ∉ brs S)
  (I:b.v<(tr S b.l.toNat).top) (w:b.v<(tr S b.h.toNat).top):yG S b:=by
 have il:inn S (tr S b.l.toNat):=gB (by omega);have ih:inn S (tr S b.h.toNat):=gB (by omega);have r:=fR g (n:=b.l.toNat) (by omega);have C:=fR g (n:=b.h.toNat) (by omega);have e:b=⟨((b.v.toNat:Nat):Int),((num S (tr S b.l.toNat):Nat):Int),((num S (tr S b.h.toNat):Nat):Int)⟩:=by rw [r,C];obtain ⟨x,y,z⟩:=b;simp only [Br.mk.injEq];simp only at*;omega
 refine ⟨b.v.toNat,_,_,e,il,ih,⟨by omega,by omega,by omega,λB=> ?_,g.inn_ok il,g.inn_ok ih⟩,λD=>A ?_⟩
 ·rw [B] at r;omega
 ·rw [e];exact (ig g il ih).2 D
def Y8 (S:List Tr) (x:Br):Option ξ:=if x∈brs S then mB (oY nZ) else nC
theorem IJ {S:List Tr} {b:Br} {S':List Tr} (h:brs S'=brs S++[b]):Y8 S'=λx=>if x=b then mB (oY nZ) else Y8 S x:=by funext x;unfold Y8;rw [h];by_cases g:x=b<;>by_cases r:x∈brs S<;>simp [g,r]
section
variable {F:PH} {v:Γ} {d:wc}
theorem kV (hd:DV F v d):ν 106 #[oc v] F λr P=>r=vi (chk d)/\F.le P:=by
 have U:=hd;obtain ⟨s,rfl,hr⟩:=hd;have Z:=hr.blen;refine qdo ?_;unfold OG;intro b1 b4;refine tP ?_;have O:=ae (mX #[s.v,vi d.2] 33) b4;have N:=aq F b1 (mX #[s.v,vi d.2] 33);generalize F.set b1 (mX #[s.v,vi d.2] 33)=G at*;refine ⟨s,by rw [av N];rfl,λa2=> ?_,λa2=> ?_⟩
 ·refine ⟨?_,O⟩;unfold chk;rw [Χ (by omega)]
 have c5:d.1.length<=4096:=by omega
 intro b0 J;refine tP ?_;refine ⟨s,by rw [av (ae _ J _ _ N)];rfl,?_⟩;have fin:∀{P:PH},G.le P->¬iP d->(vi 20=vi (chk d)/\F.le P):=λ{P} hl hn=>by refine ⟨?_,O.trans hl⟩;unfold chk;rw [Υ (by omega),Υ hn]
 refine ⟨λm i P=>∃(k:Nat) (S:List Tr),i=k/\k<=d.1.length/\m=d.1.length - k/\Cl S/\S.length=k/\brs S=d.1.take k/\G.le P/\∃o,P b0=mB o/\dW Bl (Y8 S) o,d.1.length,
  ⟨0,[],rfl,by omega,rfl,.nil,rfl,rfl,ae _ J,_,aq _ _ _,dW.empty Bl⟩,?_⟩
 rintro m i X ⟨k,S,rfl,hk,rfl,I,a6,M,g,o,hm,a7⟩;unfold DI;refine ⟨λc3=> ?_,λc7=> ?_⟩
 ·have V:k<d.1.length:=by omega
  obtain ⟨a,ha,a5,_⟩:=VX (hr.le (O.trans g)) (N5 V);have C:¬yG S d.1[k]->¬iP d:=λhn hv=>hn (ku hv I a6 V M);have A:=cj I (b:=d.1[k]);have b9:=Dq I (b:=d.1[k]);refine ⟨a,ha,by omega,c3,aX d.1[k],rfl,by simpa using a5,?_⟩;generalize hB:d.1[k]=B at*;intro b5 c4;refine tP ?_;refine Vd (aq _ _ _) rfl rfl (ij _) ?_;rw [aS];have l5:=ae (mX (aX B) 201) c4;have h5:=aq X b5 (mX (aX B) 201);have hm:=l5 _ _ hm;have g:=g.trans l5;generalize X.set b5 (mX (aX B) 201)=F2 at*;have c0:F2.cell ⟨b5,0,nC⟩=mB (vi B.v):=by rw [av h5];rfl
  have c1:F2.cell ⟨b5,1,nC⟩=mB (vi B.l):=by rw [av h5];rfl
  have c2:F2.cell ⟨b5,2,nC⟩=mB (vi B.h):=by rw [av h5];rfl
  refine ⟨_,c0,λh=>fin g (C λD=> ?_),λg1=> ?_⟩
  ·have:=(A D).1;omega
  refine ⟨_,c0,λh=>fin g (C λD=> ?_),λg2=> ?_⟩
  ·have:=(A D).2.1;omega
  refine ⟨_,c1,λh=>fin g (C λD=> ?_),λg3=> ?_⟩
  ·have:=(A D).2.2.1;omega
  refine ⟨_,c2,λh=>fin g (C λD=> ?_),λg4=> ?_⟩
  ·have:=(A D).2.2.2.1;omega
  have L:i64.wrap ((k:Int)+1)=((k+1:Nat):Int):=ff (by omega);rw [L];refine ⟨_,c1,λh=>fin g (C λD=> ?_),λg5=> ?_⟩
  ·have:=(A D).2.2.2.2.1;omega
  refine ⟨_,c2,λh=>fin g (C λD=> ?_),λg6=> ?_⟩
  ·have:=(A D).2.2.2.2.2.1;omega
  refine ⟨_,c1,_,c2,λh=>fin g (C λD=> ?_),λg7=> ?_⟩
  ·exact (A D).2.2.2.2.2.2.1 h
  have K:=bL (F:=F2) Z4 hm a7 B nS;refine ⟨aX B,rfl,ai h5,decide (B∈brs S),?_,λh=>fin g (C λD=> ?_),λg8=> ?_⟩
  ·unfold Y8 at K;by_cases hx:B∈brs S
   ·rw [Χ hx] at K;simpa [hx] using K
   ·rw [Υ hx] at K;simpa [hx] using K
  ·exact (A D).2.2.2.2.2.2.2.1 (by simpa using h)
  have b3:B ∉ brs S:=by simpa using g8
  have Q:brs S<+:d.1:=by rw [M];exact List.take_prefix _ _
  have il:inn S (tr S B.l.toNat):=gB (by omega);have ih:inn S (tr S B.h.toNat):=gB (by omega);have nl:=fR I (n:=B.l.toNat) (by omega);have nh:=fR I (n:=B.h.toNat) (by omega);have el:vi B.l=vi (num S (tr S B.l.toNat)):=by rw [nl];congr 1;omega
  have eh:vi B.h=vi (num S (tr S B.h.toNat)):=by rw [nh];congr 1;omega
  refine ⟨_,rfl,ai (g _ _ N),_,c1,_,c0,?_⟩;rw [el];refine (eI (U.le (O.trans g)) Q il (by omega)).mono ?_;rintro _ F3 ⟨rfl,H⟩;refine ⟨_,rfl,aK H c0,λh=>fin (g.trans H) (C λD=> ?_),λg9=> ?_⟩
  ·have:=(A D).2.2.2.2.2.2.2.2.1;omega
  refine ⟨_,rfl,ai ((g.trans H) _ _ N),_,aK H c2,_,aK H c0,?_⟩;rw [eh];refine (eI (U.le (O.trans (g.trans H))) Q ih (by omega)).mono ?_;rintro _ F4 ⟨rfl,Y⟩;refine ⟨_,rfl,aK Y (aK H c0),aK Y (aK H c0),λh=>fin ((g.trans H).trans Y) (C λD=> ?_),λc6=> ?_⟩
  ·have:=(A D).2.2.2.2.2.2.2.2.2;omega
  have hF:=b9 (by omega) (by omega) (by omega) (by omega) (by omega) (by omega) g7 b3 (by omega) (by omega);refine ⟨aX B,rfl,ai (Y _ _ (H _ _ h5)),?_⟩;refine bh Z4 (Y _ _ (H _ _ hm)) a7 B _ λo' a8=> ?_;obtain ⟨v,l,h,e,hl,hh,R,hn⟩:=hF;have e2:brs (S++[qa7 v l h])=brs S++[B]:=by rw [eg I hl hh,e]
  rw [<- IJ e2] at a8;have a4:G b0=nC:=J;refine ⟨d.1.length - (k+1),by omega,k+1,S++[qa7 v l h],rfl,by omega,rfl,.snoc I hl hh R hn,by simp [a6],?_,aC ((g.trans H).trans Y) a4,o',aq _ _ _,a8⟩;rw [e2,M,WI V,hB]
 ·unfold DH;have b8:k=d.1.length:=by omega
  have a3:brs S=d.1:=by rw [M,b8,wV]
  have cr:X.cell ⟨b1,1,nC⟩=mB (vi d.2):=by rw [av (g _ _ N)];rfl
  have cs:X.cell ⟨b1,0,nC⟩=mB s.v:=by rw [av (g _ _ N)];rfl
  have key:∀t,t.ok->d=ph t->S=aV t/\d.2=num S t:=λt W e=>by subst e;have:=qj I (bz W) a3;exact ⟨this,by rw [this];rfl⟩
  have E:iP d->0<=d.2/\d.2<=(d.1.length:Int)+1:=by
   rintro ⟨t,W,e⟩;obtain ⟨N,h2⟩:=key t W e;have h3:inn S t:=by rw [N];exact bE W
   have:=dN h3;omega
  refine ⟨_,cr,λh=>fin g (λhv=>by have:=(E hv).1;omega),λg1=> ?_⟩;have L:i64.wrap ((s.len:Int)+1)=((d.1.length+1:Nat):Int):=by rw [Z];exact ff (by omega)
  refine ⟨_,cr,s,cs,?_⟩;dsimp only;rw [L];refine ⟨λh=>fin g (λhv=>by have:=(E hv).2;omega),λg2=> ?_⟩;refine ⟨s,cs,?_⟩;intro a1 a9;refine tP ?_;have a0:=ae (mX #[s.v,Value.map nC] 248) a9;have b2:=aq X a1 (mX #[s.v,Value.map nC] 248);have g:=g.trans a0;generalize X.set a1 (mX #[s.v,Value.map nC] 248)=F2 at*;refine ⟨_,aK a0 cr,?_⟩;have it:inn S (tr S d.2.toNat):=gB (by omega);have nt:=fR I (n:=d.2.toNat) (by omega);have et:vi d.2=vi (num S (tr S d.2.toNat)):=by rw [nt];congr 1;omega
  dsimp only;rw [et];refine (lX (by rw [av b2];rfl) (by rw [a3];exact hr.le (O.trans g)) I it (by omega)).mono ?_;rintro _ F3 ⟨w,rfl,L,H⟩;refine ⟨_,rfl,?_⟩;intro b6 b7;refine tP ?_;refine Vd (aq _ _ _) L.size rfl L.st ?_;rw [aS];have l6:=ae (mX w 33) b7;have h6:=aq F3 b6 (mX w 33);have g:=(g.trans H).trans l6;have L:=L.le l6;generalize F3.set b6 (mX w 33)=F4 at*;refine ⟨w,L.size,ai h6,_,rfl,ai (g _ _ N),?_⟩;have R:=I.inn_ok it
  refine (nI L (U.le (O.trans g)) (by
   have:=Mm I it;simp only [ph,aP]
   omega)).mono ?_
  rintro _ F5 ⟨rfl,l5⟩;refine ⟨_,rfl,λh=>fin (g.trans l5) ?_,λh=> ?_⟩
  ·rintro ⟨t,W,e⟩;obtain ⟨k1,k2⟩:=key t W e;have:tr S d.2.toNat=t:=by rw [k2,N4];exact nT I (by rw [k1];exact bE W)
   rw [this,<- e] at h;simp at h
  ·refine ⟨?_,O.trans (g.trans l5)⟩;have:ph (tr S d.2.toNat)=d:=by simpa using h
   unfold chk;rw [Υ (by omega),Χ ⟨_,R,this.symm⟩]
end
theorem IK:aG prog 212=nZ:=by kernel_rfl
theorem BD.weaken {F0 r F:PH} {b m:Nat} {S:List Tr} (h:BD r F b m S) (g:F0.le r):BD F0 F b m S:=by obtain ⟨I,G,H,A,⟨s,w,D,E⟩,C⟩:=h;exact ⟨g.trans I,G,aU g H,aU g A,⟨s,w,D,λa B=>aU g (E a B)⟩,C⟩
theorem BD.upto {F0 F G:PH} {b m:Nat} {S:List Tr} (h:BD F0 F b m S) (g:F.le G):BD F0 G b m S:=by obtain ⟨I,E,H,w,⟨s,r,B,C⟩,o,A,D⟩:=h;exact ⟨I.trans g,E,H,w,⟨s,g _ _ r,B.upto g,C⟩,o,g _ _ A,D⟩
theorem BD.grow {F0 G F:PH} {b m x:Nat} {o:Obj} {S:List Tr} (h:BD F0 G b m S) (A:G.le F) (B:G x=nC) (I:F x=mB o):BD (F0.set x o) F b m S:=by
 obtain ⟨Q,P,M,N,⟨s,C,H,O⟩,K,E,L⟩:=h;refine ⟨λy R w=> ?_,P,?_,?_,⟨s,A _ _ C,H.upto A,λa D=> ?_⟩,K,A _ _ E,L⟩
 ·by_cases g:y=x
  ·subst g;rw [aq] at w;rw [I];exact w
  ·rw [aw _ _ g] at w;exact A _ _ (Q _ _ w)
 ·rw [aw _ _ (aI B C)];exact M
 ·rw [aw _ _ (aI B E)];exact N
 ·obtain ⟨J,r⟩:=H.elem D;rw [aw _ _ (aI B r)];exact O a D
theorem BD.other {F0 F:PH} {b m x:Nat} {o:Obj} {S:List Tr} (h:BD F0 F b m S) (L:F0 x=nC) (H:b≠x) (O:m≠x) (G:∀c e fr,F x≠mB (mX c e fr)):BD F0 (F.set x o) b m S:=by obtain ⟨N,K,M,A,⟨s,w,r,J⟩,E,C,I⟩:=h;refine ⟨aC N L,K,M,A,⟨s,by rw [aw _ _ H];exact w,r.keep λa B=>aw _ _ (λe=> ?_),J⟩,E,by rw [aw _ _ O];exact C,I⟩;obtain ⟨D,g⟩:=r.elem B;rw [e] at g;exact G _ _ _ g
structure AP where
 b3:Nat
 b6:Nat
 b2:Nat
 b7:Nat
 b5:Nat
 bb:Nat
 mm:Nat
 b9:Nat
 opv:ξ
 o:Wd
 dd:Nat->wc
 SS:Nat->List Tr
def AP.key (p:AP) (t:Nat->Tr):Int×Int×Int:=((num (p.SS 0) (t 0):Int),(num (p.SS 1) (t 1):Int),(num (p.SS 2) (t 2):Int))
def AP.res (p:AP) (t:Nat->Tr):Tr:=ap p.o (t 0) (t 1) (t 2)
def AP.inK (p:AP) (t:Nat->Tr):Prop:=inn (p.SS 0) (t 0)/\inn (p.SS 1) (t 1)/\inn (p.SS 2) (t 2)
def AP.caps (p:AP):Γ:= #[pj (mB ⟨p.b3,0,nC⟩),pj (mB ⟨p.b6,0,nC⟩),pj (mB ⟨p.b2,0,nC⟩),pj (mB ⟨p.b7,0,nC⟩),pj (mB ⟨p.b5,0,nC⟩)]
def OpV (F0:PH) (v:ξ) (o:Wd):Prop:=∃(k:Nat) (fst cap:Γ),v=.func (.func k) fst cap/\aG prog k=nZ/\
 ∀(x y z:Bool) (F:PH),F0.le F->aj prog k (fst++[oY x,oY y,oY z].toArray++cap) F λr F'=>r=oY (o x y z)/\F.le F'
theorem OpV.le {F0 G:PH} {v:ξ} {o:Wd} (h:OpV F0 v o) (g:F0.le G):OpV G v o:=by obtain ⟨k,f,c,A,r,w⟩:=h;exact ⟨k,f,c,A,r,λx y z F hF=>w x y z F (g.trans hF)⟩
structure AF (p:AP):Prop where
 cl:∀i,i<3->Cl (p.SS i)
 pre:∀i,i<3->brs (p.SS i)<+:(p.dd i).1
 fit:∀i,i<3->yg ((p.dd i).1.length+2)
structure AE (F0:PH) (p:AP):Prop where
 c3:F0.cell ⟨p.b3,0,nC⟩=mB p.opv
 c6:F0.cell ⟨p.b6,0,nC⟩=mB (.map (mB p.b9))
 c2:∀i,i<3->∃w,F0.row ⟨p.b2,i*2,nC⟩ w/\DV F0 w (p.dd i)
 c7:F0.cell ⟨p.b7,0,nC⟩=mB (.func (.func 212) #[] p.caps)
 c5:F0.cell ⟨p.b5,0,nC⟩=mB (pj (mB ⟨p.bb,0,nC⟩))
 op:OpV F0 p.opv p.o
theorem aO {F G:PH} (h:F.le G) {a:Addr} {cs:Γ} (g:F.row a cs):G.row a cs:=λi hi=>aK h (g i hi)
theorem AE.le {F0 G:PH} {p:AP} (h:AE F0 p) (g:F0.le G):AE G p:=
 ⟨aK g h.c3,aK g h.c6,λi hi=>by
  obtain ⟨w,A,r⟩:=h.c2 i hi
  exact ⟨w,aO g A,r.le g⟩,aK g h.c7,aK g h.c5,h.op.le g⟩
def RM (p:AP) (S:List Tr) (m3:Int×Int×Int->Option ξ):Prop:=∀k v,m3 k=mB v->∃t,p.inK t/\k=p.key t/\inn S (p.res t)/\v=vi (num S (p.res t))
structure AS (F0 F:PH) (p:AP) (S:List Tr):Prop where
 bd:BD F0 F p.bb p.mm S
 n9:F0 p.b9=nC
 ne:p.mm≠p.b9
 memo:∃o m3,F p.b9=mB o/\dW Mi m3 o/\RM p S m3
theorem AS.upto {F0 F G:PH} {p:AP} {S:List Tr} (h:AS F0 F p S) (g:F.le G):AS F0 G p S:=by obtain ⟨D,B,C,o,A,r,w⟩:=h;exact ⟨D.upto g,B,C,o,A,g _ _ r,w⟩
theorem AS.weaken {F0 r F:PH} {p:AP} {S:List Tr} (h:AS r F p S) (g:F0.le r):AS F0 F p S:=by obtain ⟨C,A,B,w⟩:=h;exact ⟨C.weaken g,aU g A,B,w⟩
theorem AS.grow {F0 G F:PH} {p:AP} {S:List Tr} {x:Nat} {o:Obj} (h:AS F0 G p S) (r:G.le F) (g:G x=nC) (C:F x=mB o):AS (F0.set x o) F p S:=by obtain ⟨I,E,H,D,B,w,A⟩:=h;exact ⟨I.grow r g C,by rw [aw _ _ (aI g w)];exact E,H,D,B,r _ _ w,A⟩
theorem pN {p:AP} {t u:Nat->Tr} (g:p.inK t) (r:p.inK u) (h:p.key t=p.key u):p.res t=p.res u:=by unfold AP.key at h;simp only [YD] at h;obtain ⟨B,w,A⟩:=h;unfold AP.res;rw [cK g.1 r.1 (by omega),cK g.2.1 r.2.1 (by omega),cK g.2.2 r.2.2 (by omega)]
theorem yI (t:Tr) (S:List Tr):S.length<=(tV t S).length:=by
 induction t generalizing S with
 |qa6 b=>exact tI _
 |qa7 v l h g r=>
  unfold tV;split
  ·exact tI _
  ·have A:=g S;have w:=r (tV l S);simp only [tT];omega
theorem Dr (S:List Tr) (t:Tr):S.length<=(eX S t).length:=by unfold eX;split<;>simp
def Vx (t:Nat->Tr):Nat:=(t 0).sz+(t 1).sz+(t 2).sz
def IL (p:AP) (t:Nat->Tr):Prop:=∀(F0 F:PH) (S:List Tr),AE F0 p->AS F0 F p S->yg ((tV (p.res t) S).length+4)->
 aj prog 212 (#[oc (dx (p.key t))]++p.caps) F λr F'=>r=vi (num (tV (p.res t) S) (p.res t))/\AS F0 F' p (tV (p.res t) S)
structure Zv (p:AP) (t:Nat->Tr) (v:Nat):Prop where
 hv:v=aY (t 0) (t 1) (t 2)
 lt:v<64
 il:p.inK (λi=>lo v (t i))
 ih:p.inK (λi=>hi v (t i))
 sl:Vx (λi=>lo v (t i))<Vx t
 sh:Vx (λi=>hi v (t i))<Vx t
 tl:v<(p.res (λi=>lo v (t i))).top
 th:v<(p.res (λi=>hi v (t i))).top
 ol:(p.res (λi=>lo v (t i))).ok
 oh:(p.res (λi=>hi v (t i))).ok
 res:p.res t=mk v (p.res (λi=>lo v (t i))) (p.res (λi=>hi v (t i)))
theorem UW {p:AP} (r:AF p) {t:Nat->Tr} (h:p.inK t) (w:aY (t 0) (t 1) (t 2)<64):Zv p t (aY (t 0) (t 1) (t 2)):=by
 have V:=(r.cl 0 (by omega)).inn_ok h.1;have J:=(r.cl 1 (by omega)).inn_ok h.2.1;have G:=(r.cl 2 (by omega)).inn_ok h.2.2;have hs:=wF (o:=p.o) V J G w;have v1:aY (t 0) (t 1) (t 2)<=(t 0).top:=by unfold aY;omega
 have Z:aY (t 0) (t 1) (t 2)<=(t 1).top:=by unfold aY;omega
 have Y:aY (t 0) (t 1) (t 2)<=(t 2).top:=by unfold aY;omega
 have g:aY (t 0) (t 1) (t 2)=(t 0).top\/aY (t 0) (t 1) (t 2)=(t 1).top\/aY (t 0) (t 1) (t 2)=(t 2).top:=by unfold aY;omega
 generalize hw:aY (t 0) (t 1) (t 2)=v at*;have A:∀{t:Tr},v=t.top->t.isL=nS:=λ{t} e=>by
  cases t with
  |qa6 b=>simp only [top] at e;omega
  |qa7 _ _ _=>rfl
 obtain ⟨X,D,a5,N,a3⟩:=cq V v1;obtain ⟨O,F,a0,U,a9⟩:=cq J Z;obtain ⟨K,I,a1,P,a2⟩:=cq G Y;obtain ⟨H,B,a7,R,b1⟩:=cu V v1;obtain ⟨Q,C,b0,W,a4⟩:=cu J Z;obtain ⟨L,M,a8,E,a6⟩:=cu G Y;obtain ⟨l1,l2,l3⟩:=fg (o:=p.o) X O K;obtain ⟨g1,g2,g3⟩:=fg (o:=p.o) H Q L
 refine ⟨hw.symm,w,⟨(r.cl 0 (by omega)).inn_lo h.1 v,(r.cl 1 (by omega)).inn_lo h.2.1 v,(r.cl 2 (by omega)).inn_lo h.2.2 v⟩,
  ⟨(r.cl 0 (by omega)).inn_hi h.1 v,(r.cl 1 (by omega)).inn_hi h.2.1 v,(r.cl 2 (by omega)).inn_hi h.2.2 v⟩,?_,?_,?_,?_,l1,g1,hs⟩
 ·simp only [Vx];rcases g with e|e|e
  ·have:=N e.symm (A e);omega
  ·have:=U e.symm (A e);omega
  ·have:=P e.symm (A e);omega
 ·simp only [Vx];rcases g with e|e|e
  ·have:=R e.symm (A e);omega
  ·have:=W e.symm (A e);omega
  ·have:=E e.symm (A e);omega
 ·have:=D w;have:=F w;have:=I w;unfold aY at l2;show v<(ap p.o (lo v (t 0)) (lo v (t 1)) (lo v (t 2))).top;omega
 ·have:=B w;have:=C w;have:=M w;unfold aY at g2;show v<(ap p.o (hi v (t 0)) (hi v (t 1)) (hi v (t 2))).top;omega
theorem dy {S:List Tr} {t:Tr}:((num S t:Int)<2)↔t.isL=nZ:=by
 constructor
 ·intro h;exact qi (S:=S) (by omega)
 ·intro h;cases t with
  |qa6 b=>have:=cI S b;omega
  |qa7 _ _ _=>cases h
section
variable {p:AP} {t:Nat->Tr} {F0 F:PH} {S:List Tr} {n6:Nat}
theorem Mn (K:AE F0 p) (M:AS F0 F p S) (O:F0 n6=mB (mX (dx (p.key t)) 313)) (X:(t 0).isL=nZ) (U:(t 1).isL=nZ) (P:(t 2).isL=nZ) {R:ξ->Ψ}
  (L:∀G,F.le G->R (vi (num S (p.res t))) G):
  gh (mB ⟨p.b3,0,nC⟩) (mB ⟨p.b6,0,nC⟩) (mB ⟨p.b2,0,nC⟩) (mB ⟨p.b7,0,nC⟩) (mB ⟨p.b5,0,nC⟩) n6 nZ R F:=by
 unfold gh;obtain ⟨k,fst,cap,H,I,J⟩:=K.op;have r:=M.bd.le;have w:=r _ _ O;refine ⟨λ_=> ?_,λV=>by cases V⟩;refine ⟨_,rfl,_,aK r K.c3,by omega,by omega,_,by simp only [aJ];rw [av w];rfl,by omega,by omega,_,by simp only [aJ];rw [av w];rfl,by omega,by omega,_,by simp only [aJ];rw [av w];rfl,k,fst,cap,H,I,?_⟩;generalize C:t 0=W at*;generalize D:t 1=N at*;generalize E:t 2=Q at*;cases W with
 |qa7 _ _ _=>cases X
 |qa6 a=>
  cases N with
  |qa7 _ _ _=>cases U
  |qa6 b=>
   cases Q with
   |qa7 _ _ _=>cases P
   |qa6 c=>
    have e:∀(S:List Tr) (x:Bool),decide ((num S (qa6 x):Int)=1)=x:=λS x=>by cases x<;>simp [num]
    simp only [AP.key,C,D,E,e];refine (J a b c F r).mono ?_;rintro _ G ⟨rfl,B⟩;have A:p.res t=qa6 (p.o a b c):=by unfold AP.res;rw [C,D,E];exact mI _ _ _ _
    have g:=L G B;rw [A] at g;refine ⟨_,rfl,λh=> ?_,λh=> ?_⟩
    ·rw [h] at g;exact g
    ·rw [h] at g;exact g
theorem Mo (Q:AF p) (P:p.inK t) (ih:∀u,p.inK u->Vx u<Vx t->IL p u) (he:AE F0 p) (hs:AS F0 F p S) (h6:F0 n6=mB (mX (dx (p.key t)) 313))
  (h7:yg ((tV (p.res t) S).length+4)) (hn:¬((t 0).isL=nZ/\(t 1).isL=nZ/\(t 2).isL=nZ)) {R:ξ->Ψ}
  (hR:∀F',AS F0 F' p (tV (p.res t) S)->R (vi (num (tV (p.res t) S) (p.res t))) F'):
  gh (mB ⟨p.b3,0,nC⟩) (mB ⟨p.b6,0,nC⟩) (mB ⟨p.b2,0,nC⟩) (mB ⟨p.b7,0,nC⟩) (mB ⟨p.b5,0,nC⟩) n6 nS R F:=by
 have hv:aY (t 0) (t 1) (t 2)<64:=by
  have k0:=λJ=>sD ((Q.cl 0 (by omega)).inn_ok P.1) J;have k1:=λJ=>sD ((Q.cl 1 (by omega)).inn_ok P.2.1) J;have k2:=λJ=>sD ((Q.cl 2 (by omega)).inn_ok P.2.2) J;unfold aY;cases e0:(t 0).isL with
  |false=>have:=k0 e0;omega
  |true=>
   cases e1:(t 1).isL with
   |false=>have:=k1 e1;omega
   |true=>
    cases e2:(t 2).isL with
    |false=>have:=k2 e2;omega
    |true=>exact absurd ⟨e0,e1,e2⟩ hn
 have D:=UW Q P hv;unfold gh;have g:=hs.bd.le;have a5:=g _ _ h6;obtain ⟨om,m3,hm,g9,f9⟩:=hs.memo;refine ⟨λhc=>(by cases hc),λ_=> ?_⟩;have W:=bL (F:=F) Z2 hm g9 (p.key t) nZ;refine ⟨_,rfl,_,aK g he.c6,dx (p.key t),rfl,ai a5,?_⟩;cases hmk:m3 (p.key t) with
 |some v=>rw [hmk] at W;obtain ⟨u,hu,hk,hi,rfl⟩:=f9 _ _ hmk;have e:=pN P hu hk;rw [<- e] at hi W;have e6:=gn hi;refine ⟨_,_,W,λ_=> ?_,λhc=>by cases hc⟩;have:=hR F (by rw [e6];exact hs);rw [e6] at this;exact this
 |none=>
  rw [hmk] at W;refine ⟨_,_,W,λhc=>(by cases hc),λ_=> ?_⟩;obtain ⟨w0,r0,d0⟩:=he.c2 0 (by omega);obtain ⟨w1,r1,d1⟩:=he.c2 1 (by omega);obtain ⟨w2,r2,d2⟩:=he.c2 2 (by omega);have c6:∀{G:PH},F.le G->G.cell ⟨n6,0,nC⟩=mB (vi (num (p.SS 0) (t 0)))/\G.cell ⟨n6,1,nC⟩=mB (vi (num (p.SS 1) (t 1)))/\G.cell ⟨n6,2,nC⟩=mB (vi (num (p.SS 2) (t 2))):=λ{G} J=>by rw [av (J _ _ a5),av (J _ _ a5),av (J _ _ a5)];exact ⟨rfl,rfl,rfl⟩
  have rr:∀{G:PH},F.le G->G.row (od ⟨p.b2,0,nC⟩ (pc 0*2)) w0/\G.row (od ⟨p.b2,0,nC⟩ (pc 1*2)) w1/\G.row (od ⟨p.b2,0,nC⟩ (pc 2*2)) w2:=λ{G} J=>by simp only [aJ];exact ⟨aO (g.trans J) r0,aO (g.trans J) r1,aO (g.trans J) r2⟩
  have cc:∀{G:PH},F.le G->G.cell (od ⟨n6,0,nC⟩ (pc 0*1))=mB (vi (num (p.SS 0) (t 0)))/\G.cell (od ⟨n6,0,nC⟩ (pc 1*1))=mB (vi (num (p.SS 1) (t 1)))/\G.cell (od ⟨n6,0,nC⟩ (pc 2*1))=mB (vi (num (p.SS 2) (t 2))):=λ{G} J=>by simp only [aJ];exact c6 J
  have N:F.le F:=PH.le_rfl;refine ⟨_,rfl,by omega,by omega,w0,d0.size,(rr N).1,by omega,by omega,_,(cc N).1,by omega,by omega,w1,d1.size,(rr N).2.1,by omega,by omega,_,(cc N).2.1,by omega,by omega,w2,d2.size,(rr N).2.2,by omega,by omega,_,(cc N).2.2,?_⟩;refine (eI (d0.le g) (Q.pre 0 (by omega)) P.1 (Q.fit 0 (by omega))).mono ?_;rintro _ G1 ⟨rfl,l1⟩;refine ⟨_,rfl,(cc l1).2.2,(rr l1).2.2,(cc l1).2.1,(rr l1).2.1,?_⟩;refine (eI (d1.le (g.trans l1)) (Q.pre 1 (by omega)) P.2.1 (Q.fit 1 (by omega))).mono ?_;rintro _ G2 ⟨rfl,l2⟩;have l2:=l1.trans l2;refine ⟨_,rfl,(cc l2).2.2,(rr l2).2.2,?_⟩;refine (eI (d2.le (g.trans l2)) (Q.pre 2 (by omega)) P.2.2 (Q.fit 2 (by omega))).mono ?_;rintro _ G ⟨rfl,l3⟩;have l3:=l2.trans l3;refine ⟨_,rfl,?_⟩;have a7:(min (min ((t 0).top:Int) ((t 1).top:Int)) ((t 2).top:Int))=((aY (t 0) (t 1) (t 2):Nat):Int):=by unfold aY;omega
  generalize aY (t 0) (t 1) (t 2)=v at*;intro r C;refine tP ?_;intro B K;refine tP ?_;have O:r≠B:=aI K (aq _ _ _);have a9:G B=nC:=by rw [aw _ _ O.symm] at K;exact K
  let A (k:Nat) (f:Nat->Nat):Γ:= #[if 0<k then vi (f 0) else vi 0,if 1<k then vi (f 1) else vi 0,if 2<k then vi (f 2) else vi 0]
  let fl:Nat->Nat:=λi=>num (p.SS i) (lo v (t i))
  let fh:Nat->Nat:=λi=>num (p.SS i) (hi v (t i))
  have hA:∀k f,k<3->(A k f).setIfInBounds k (vi (f k))=A (k+1) f:=by
   intro k f hk
   match k,hk with
   |0,_=>simp [A]
   |1,_=>simp [A]
   |2,_=>simp [A]
  refine ⟨λm i F'=>∃k:Nat,i=k/\k<=3/\m=3 - k/\G.le F'/\F' r=mB (mX (A k fl) 313)/\F' B=mB (mX (A k fh) 313),3,
   ⟨0,rfl,by omega,rfl,(ae _ C).trans (ae _ K),by rw [aw _ _ O,aq];rfl,by rw [aq];rfl⟩,?_⟩
  rintro m i F1 ⟨k,rfl,hk,rfl,hG,c9,c8⟩;unfold DM;rw [a7];refine ⟨λh9=> ?_,λg5=> ?_⟩
  ·have I:k<3:=by omega
   obtain ⟨w,g4,dw⟩:=he.c2 k I;have U:F.le F1:=l3.trans hG;have g8:inn (p.SS k) (t k):=by
    match k,I with
    |0,_=>exact P.1
    |1,_=>exact P.2.1
    |2,_=>exact P.2.2
   have hc:F1.cell (od ⟨n6,0,nC⟩ (pc (k:Int)*1))=mB (vi (num (p.SS k) (t k))):=by
    match k,I with
    |0,_=>exact (cc U).1
    |1,_=>exact (cc U).2.1
    |2,_=>exact (cc U).2.2
   refine ⟨by omega,by omega,w,dw.size,by simpa using aO (g.trans U) g4,by omega,by omega,_,hc,?_⟩;refine (BB (dw.le (g.trans U)) (Q.pre k I) g8 (Q.fit k I) D.lt).mono ?_;rintro _ F2 ⟨rfl,l4⟩;refine ⟨_,_,rfl,by omega,by omega,?_⟩;refine sq (b:=r) (o:=k) (by simp) (l4 _ _ c9) (by simp [A];omega) ?_;rw [hA k fl I];refine ⟨by omega,by omega,?_⟩;refine sq (b:=B) (o:=k) (by simp) (by rw [aw _ _ O.symm];exact l4 _ _ c8) (by simp [A];omega) ?_;rw [hA k fh I];refine ⟨3 - (k+1),by omega,k+1,ff (by omega),by omega,rfl,aC (aC (hG.trans l4) C) a9,?_,aq _ _ _⟩;rw [aw _ _ O,aq]
  ·obtain rfl:k=3:=by omega
   have g6:A 3 fl=dx (p.key λi=>lo v (t i)):=rfl;have h4:A 3 fh=dx (p.key λi=>hi v (t i)):=rfl;rw [g6] at c9;rw [h4] at c8;clear hA g5 hk
   clear_value A fl fh
   unfold DL;rw [a7];have f8:=(hs.upto l3).grow (F:=G.set r (mX (dx (p.key λi=>lo v (t i))) 313)) (ae _ C) C (aq _ _ _);have lx:(G.set r (mX (dx (p.key λi=>lo v (t i))) 313)).le F1:=λx ob hx=>by
    by_cases V:x=r
    ·subst V;rw [aq] at hx;rw [c9];exact hx
    ·rw [aw _ _ V] at hx;exact hG _ _ hx
   have b4:=f8.grow lx (by rw [aw _ _ O.symm];exact a9) c8;have f5:F0 r=nC:=aU (g.trans l3) C;have h2:F0 B=nC:=aU (g.trans l3) a9;have l0:F0.le ((F0.set r (mX (dx (p.key λi=>lo v (t i))) 313)).set B (mX (dx (p.key λi=>hi v (t i))) 313)):=aC (aC PH.le_rfl f5) h2;have h1:((F0.set r (mX (dx (p.key λi=>lo v (t i))) 313)).set B (mX (dx (p.key λi=>hi v (t i))) 313)) r=mB (mX (dx (p.key λi=>lo v (t i))) 313):=by rw [aw _ _ O,aq]
   have f6:((F0.set r (mX (dx (p.key λi=>lo v (t i))) 313)).set B (mX (dx (p.key λi=>hi v (t i))) 313)) B=mB (mX (dx (p.key λi=>hi v (t i))) 313):=aq _ _ _;generalize ((F0.set r (mX (dx (p.key λi=>lo v (t i))) 313)).set B (mX (dx (p.key λi=>hi v (t i))) 313))=E0 at*;have H:=he.le l0;have b0:=hs.bd.cl;obtain ⟨a1,a2,X,a3,a4⟩:=bk (p.res λi=>lo v (t i)) S D.ol b0;obtain ⟨c1,c2,Y,c3,c4⟩:=bk (p.res λi=>hi v (t i)) (tV (p.res λi=>lo v (t i)) S) D.oh a1;have E:=rJ b0 (v:=v) (l:=p.res λi=>lo v (t i)) (h:=p.res λi=>hi v (t i)) ⟨D.lt,D.tl,D.th,D.ol,D.oh⟩;rw [<- D.res] at E;have g1:=yI (p.res λi=>hi v (t i)) (tV (p.res λi=>lo v (t i)) S);have g2:=Dr (tV (p.res λi=>hi v (t i)) (tV (p.res λi=>lo v (t i)) S)) (p.res t);rw [E] at g2;refine ⟨_,rfl,_,aK b4.bd.le H.c7,dx (p.key λi=>lo v (t i)),rfl,ai (b4.bd.le _ _ h1),_,_,_,rfl,IK,?_⟩;refine (ih _ D.il D.sl E0 F1 S H b4 (by omega)).mono ?_;rintro _ F2 ⟨rfl,a0⟩;refine ⟨_,rfl,_,rfl,_,aK a0.bd.le H.c5,_,aK a0.bd.le H.c7,dx (p.key λi=>hi v (t i)),rfl,ai (a0.bd.le _ _ f6),_,_,_,rfl,IK,?_⟩;refine (ih _ D.ih D.sh E0 F2 _ H a0 (by omega)).mono ?_;rintro _ F3 ⟨rfl,e4⟩;refine ⟨_,rfl,aK e4.bd.le H.c5,?_⟩;obtain ⟨f1,d3,b8,o9,m9,b1,M,e7⟩:=e4;have h3:num (tV (p.res λi=>lo v (t i)) S) (p.res λi=>lo v (t i))=num (tV (p.res λi=>hi v (t i)) (tV (p.res λi=>lo v (t i)) S)) (p.res λi=>lo v (t i)):=by rw [c3,bM a2]
   rw [h3];have g7:inn (tV (p.res λi=>hi v (t i)) (tV (p.res λi=>lo v (t i)) S)) (p.res λi=>lo v (t i)):=by rw [c3];exact bX a2
   have e8:p.bb≠p.b9:=λe=>by obtain ⟨_,_,_,_,⟨s,h5,_⟩,_⟩:=f1;obtain ⟨es,c,L,rfl,_⟩:=M;rw [e,b1] at h5;cases h5
   have e3:BD (E0.set p.b9 o9) F3 p.bb p.mm (tV (p.res λi=>hi v (t i)) (tV (p.res λi=>lo v (t i)) S)):=by
    obtain ⟨k1,k2,k3,k4,⟨s,k5,k6,k7⟩,k8⟩:=f1;refine ⟨λx ob hx=> ?_,k2,by rw [aw _ _ e8];exact k3,by rw [aw _ _ b8];exact k4,⟨s,k5,k6,λa ha=> ?_⟩,k8⟩
    ·by_cases V:x=p.b9
     ·subst V;rw [aq] at hx;rw [b1];exact hx
     ·rw [aw _ _ V] at hx;exact k1 _ _ hx
    ·rw [aw _ _ (λe=> ?_)]
     ·exact k7 a ha
     ·obtain ⟨h8,a8⟩:=k6.elem ha;obtain ⟨es,c,L,rfl,_⟩:=M;rw [e,b1] at a8;cases a8
   refine (qhV e3 g7 c2 ⟨D.lt,D.tl,D.th⟩ (by omega)).mono ?_;rintro _ F4 ⟨rfl,a6⟩;rw [<- D.res,E] at a6 ⊢;have e9:F4 p.b9=mB o9:=a6.le _ _ (aq _ _ _);have g3:F4 n6=mB (mX (dx (p.key t)) 313):=by
    have f4:n6≠p.b9:=λe=>by rw [e,hs.n9] at h6;cases h6
    exact a6.le _ _ (by rw [aw _ _ f4];exact l0 _ _ h6)
   have e5:BD E0 F4 p.bb p.mm (tV (p.res t) S):=a6.weaken (aC PH.le_rfl d3);refine ⟨_,rfl,_,aK e5.le H.c6,dx (p.key t),rfl,ai g3,?_⟩;refine bh Z2 e9 M (p.key t) _ λo' h0=> ?_;refine hR _ ?_;refine AS.weaken ?_ l0;have d4:inn (tV (p.res t) S) (p.res t):=by
    have f3:(p.res t).ok:=by rw [D.res];exact Es D.lt D.tl D.th D.ol D.oh
    exact (bk _ S f3 b0).2.1
   refine ⟨e5.other d3 e8 b8 (λc e fr h=> ?_),d3,b8,o',_,aq _ _ _,h0,?_⟩
   ·obtain ⟨es,c,L,rfl,_⟩:=M;rw [e9] at h;cases h
   ·intro k w Z;dsimp only at Z;by_cases hk:k=p.key t
    ·rw [Χ hk] at Z;exact ⟨t,P,hk,d4,(yV Z).symm⟩
    ·rw [Υ hk] at Z;obtain ⟨u,u1,u2,u3,u4⟩:=e7 k w Z;refine ⟨u,u1,u2,?_,?_⟩
     ·rw [<- E];unfold eX;split
      ·exact u3
      ·exact bX u3
     ·rw [u4,<- E];unfold eX;split
      ·rfl
      ·rw [bM u3]
theorem Mp (Z:AF p):∀(n:Nat) (t:Nat->Tr),Vx t<=n->p.inK t->IL p t:=by
 intro n;induction n with
 |zero=>intro t R;have:=kZ (t 0);unfold Vx at R;omega
 |succ n ih=>
  intro t R W F0 F S he P C;show ν 212 #[oc (dx (p.key t)),_,_,_,_,_] F _;refine qcT ?_;unfold OW;intro n6 A;refine tP ?_;have G:=P.bd.le;have f6:F0 n6=nC:=aU G A;have g:=P.grow (F:=F.set n6 (mX (dx (p.key t)) 313)) (ae _ A) A (aq _ _ _);have H:F0.le (F0.set n6 (mX (dx (p.key t)) 313)):=ae _ f6;have E:=he.le H;have I:=aq F0 n6 (mX (dx (p.key t)) 313);generalize F0.set n6 (mX (dx (p.key t)) 313)=E0 at*;generalize F.set n6 (mX (dx (p.key t)) 313)=Y at*;have w:=g.bd.le _ _ I;have rest:¬((t 0).isL=nZ/\(t 1).isL=nZ/\(t 2).isL=nZ)->gh (mB ⟨p.b3,0,nC⟩) (mB ⟨p.b6,0,nC⟩) (mB ⟨p.b2,0,nC⟩) (mB ⟨p.b7,0,nC⟩) (mB ⟨p.b5,0,nC⟩) n6 nS
    (λr K=>r=vi (num (tV (p.res t) S) (p.res t))/\AS F0 K p (tV (p.res t) S)) Y:=λM=>
   Mo Z W (λu U a0=>ih u (by omega) U) E g I C M λK h=>⟨rfl,h.weaken H⟩
  refine ⟨by omega,by omega,_,by simp only [aJ];rw [av w];rfl,λN=> ?_,λN=> ?_⟩
  ·refine ⟨by omega,by omega,_,by simp only [aJ];rw [av w];rfl,λJ=> ?_,λJ=> ?_⟩
   ·refine ⟨by omega,by omega,_,by simp only [aJ];rw [av w];rfl,?_⟩;have O:=dy.1 N;have Q:=dy.1 J;by_cases B:(t 2).isL=nZ
    ·have e:decide ((p.key t).2.2<2)=nZ:=decide_eq_true (dy.2 B);dsimp only;rw [e];have hl:(p.res t).isL=nZ:=by
      unfold AP.res;generalize t 0=x0 at*;generalize t 1=V at*;generalize t 2=X at*;cases x0 with
      |qa7 _ _ _=>cases O
      |qa6 a=>
       cases V with
       |qa7 _ _ _=>cases Q
       |qa6 b=>
        cases X with
        |qa7 _ _ _=>cases B
        |qa6 c=>rw [mI];rfl
     have L:tV (p.res t) S=S:=gn (.inl hl);rw [L];exact Mn E g I O Q B λK h=>⟨rfl,(g.upto h).weaken H⟩
    ·have e:decide ((p.key t).2.2<2)=nS:=decide_eq_false (λh=>B (dy.1 h));dsimp only;rw [e];exact rest λD=>B D.2.2
   ·exact rest λD=>J (dy.2 D.2.1)
  ·exact rest λD=>N (dy.2 D.1)
end
def un (t:Tr):List Tr:=qa6 nS::qa6 nZ::aV t
theorem nK {t x:Tr} (h:inn (aV t) x):x∈un t:=by
 unfold un;cases x with
 |qa6 b=>cases b<;>simp
 |qa7 v l r=>simp [cy h rfl]
def Y6 (o:Wd) (a b d:Tr):List Tr:=(un a).flatMap λx=>(un b).flatMap λy=>(un d).map λz=>ap o x y z
theorem Bo (o:Wd) (a b d:Tr):(Y6 o a b d).length=((aV a).length+2)*(((aV b).length+2)*((aV d).length+2)):=by unfold Y6;simp only [List.length_flatMap,vb,List.map_const',List.sum_replicate_nat];simp [un]
theorem RN {o:Wd} {a b d:Tr} (L:a.ok) (hb:b.ok) (hd:d.ok):∀(n:Nat) (x y z:Tr) (S:List Tr),x.sz+y.sz+z.sz<=n->inn (aV a) x->inn (aV b) y->inn (aV d) z->Cl S->
  ∀u∈tV (ap o x y z) S,u∈S\/u∈Y6 o a b d:=by
 intro n;induction n with
 |zero=>intro x y z S hn;have:=kZ x;omega
 |succ n ih=>
  intro x y z S hn F I H V u g;have J:=(bz L).inn_ok F;have G:=(bz hb).inn_ok I;have K:=(bz hd).inn_ok H;have E:ap o x y z∈Y6 o a b d:=XX.2 ⟨x,nK F,XX.2 ⟨y,nK I,xR.2 ⟨z,nK H,rfl⟩⟩⟩;by_cases A:aY x y z<64
  ·have a1:=wF (o:=o) J G K A;have v1:aY x y z<=x.top:=by unfold aY;omega
   have v2:aY x y z<=y.top:=by unfold aY;omega
   have v3:aY x y z<=z.top:=by unfold aY;omega
   have w:aY x y z=x.top\/aY x y z=y.top\/aY x y z=z.top:=by unfold aY;omega
   generalize aY x y z=v at*;have D:∀{t:Tr},v=t.top->t.isL=nS:=λ{t} e=>by
    cases t with
    |qa6 b=>simp only [top] at e;omega
    |qa7 _ _ _=>rfl
   obtain ⟨b2,Q,b8,a3,b6⟩:=cq J v1;obtain ⟨a4,W,b3,b0,c5⟩:=cq G v2;obtain ⟨Z,Y,b4,a5,b5⟩:=cq K v3;obtain ⟨X,O,c2,a9,c6⟩:=cu J v1;obtain ⟨a8,P,c4,b1,b7⟩:=cu G v2;obtain ⟨a0,a2,c3,R,b9⟩:=cu K v3;have M:(lo v x).sz+(lo v y).sz+(lo v z).sz<=n:=by
    rcases w with e|e|e
    ·have:=a3 e.symm (D e);omega
    ·have:=b0 e.symm (D e);omega
    ·have:=a5 e.symm (D e);omega
   have a6:(hi v x).sz+(hi v y).sz+(hi v z).sz<=n:=by
    rcases w with e|e|e
    ·have:=a9 e.symm (D e);omega
    ·have:=b1 e.symm (D e);omega
    ·have:=R e.symm (D e);omega
   obtain ⟨l1,l2,l3⟩:=fg (o:=o) b2 a4 Z;obtain ⟨g1,g2,g3⟩:=fg (o:=o) X a8 a0;have a7:v<(ap o (lo v x) (lo v y) (lo v z)).top:=by have:=Q A;have:=W A;have:=Y A;unfold aY at l2;omega
   have N:v<(ap o (hi v x) (hi v y) (hi v z)).top:=by have:=O A;have:=P A;have:=a2 A;unfold aY at g2;omega
   have B:=rJ V (v:=v) ⟨A,a7,N,l1,g1⟩;rw [<- a1] at B;rw [<- B] at g;have c1:=(bk _ S l1 V).1;have key:u∈tV (ap o (hi v x) (hi v y) (hi v z)) (tV (ap o (lo v x) (lo v y) (lo v z)) S)->u∈S\/u∈Y6 o a b d:=λg=>by
    rcases ih _ _ _ _ a6 ((bz L).inn_hi F v) ((bz hb).inn_hi I v) ((bz hd).inn_hi H v) c1 u g with h|h
    ·exact ih _ _ _ _ M ((bz L).inn_lo F v) ((bz hb).inn_lo I v) ((bz hd).inn_lo H v) V u h
    ·exact .inr h
   unfold eX at g;split at g
   ·exact key g
   ·rcases vl.1 g with g|g
    ·exact key g
    ·rw [wa.1 g];exact .inr E
  ·have C:∀{t:Tr},t.ok->64<=t.top->∃b,t=qa6 b:=λ{t} ht U=>gm ht U;unfold aY at A;obtain ⟨p,rfl⟩:=C J (by omega);obtain ⟨q,rfl⟩:=C G (by omega);obtain ⟨r,rfl⟩:=C K (by omega);rw [mI] at g;exact .inl g
theorem FM {o:Wd} {a b d:Tr} (g:a.ok) (r:b.ok) (hd:d.ok):(aV (ap o a b d)).length<=((aV a).length+2)*(((aV b).length+2)*((aV d).length+2)):=by
 rw [<- Bo o a b d];refine cS _ _ (bz (J3 g r hd)).nodup λx w=> ?_;rcases RN g r hd _ a b d [] (tI _) (bE g) (bE r) (bE hd) .nil x w with h|h
 ·cases h
 ·exact h
def lY {α:Type} (a b c:α):Nat->α
 |0=>a
 |1=>b
 |_=>c
theorem fY {F:PH} {b r:Nat} {w:Γ} {K:Γ->Ψ} {G:PH} {d:wc} {cs:Γ} (hd:DV G cs d) (A:F b=mB (mX w r (0,0))) (h:w.size=2) (B:K cs (F.set b (mX cs r))):
  cs.size=2/\(∀v∈cs.toList,ak v)/\∃c e,F (pd b 0 nC).block=mB (mX c e (0,0))/\(pd b 0 nC).spot=nC/\(pd b 0 nC).off+2<=c.size/\
   wn (F.set (pd b 0 nC).block (mX (wr c (pd b 0 nC).off cs.toList) e)) λF=>∃g:Γ,g.size=2/\F.row (pd b 0 nC) g/\K g F:=
 Vd A hd.size h hd.st ⟨cs,hd.size,ai (aq _ _ _),B⟩
theorem OpV.cells {F:PH} {v:ξ} {o:Wd} (h:OpV F v o):v.cells= #[v]:=by obtain ⟨k,f,c,rfl,_⟩:=h;rfl
def dz (F:PH) (a:Nat):PH:=λx=>if x=a then nC else F x
theorem Ds (F:PH) (a:Nat):(dz F a).le F:=λx o h=>by
 unfold dz at h;split at h
 ·cases h
 ·exact h
theorem eQ {F:PH} {a x:Nat} (h:x≠a):dz F a x=F x:=by simp [dz,h]
theorem Bp (F:PH) (a:Nat):dz F a a=nC:=by simp [dz]
theorem d5 {F G:PH} {a:Nat} (h:F.le G) (r:F a=nC):F.le (dz G a):=λx o g=>by
 have w:x≠a:=λe=>by rw [e,r] at g;cases g
 rw [eQ w];exact h _ _ g
theorem aj.avoid {P:Program} {f:FuncId} {args:Γ} {F:PH} {x:Nat} {o:Obj} {R:ξ->Ψ} (h:aj P f args (dz F x) R) (r:F x=mB o):
  aj P f args F λv g=>∃G,R v G/\G.le g/\g x=mB o/\G x=nC:=
 (h.upon (Ds F x)).mono λv g ⟨G,A,w,B⟩=>by obtain ⟨D,C⟩:=B x o (Bp F x) r;exact ⟨G,A,w,D,C⟩
theorem gI {F G r:PH} {x:Nat} {o:Obj} (h:(dz F x).le G) (B:G.le r) (A:r x=mB o) (hF:F x=mB o):F.le r:=λb C w=>by
 by_cases g:b=x
 ·subst g;rw [hF] at w;rw [A];exact w
 ·exact B _ _ (h _ _ (by rw [eQ g];exact w))
section
variable {F:PH} {s0 s1 s2:Sl} {t0 t1 t2:Tr} {opv:ξ} {o:Wd}
theorem qht (h0:RdS F s0 3 (aW (ph t0).1)) (h1:RdS F s1 3 (aW (ph t1).1)) (h2:RdS F s2 3 (aW (ph t2).1)) (k0:t0.ok) (k1:t1.ok) (k2:t2.ok)
  (f0:yg ((aV t0).length+2)) (f1:yg ((aV t1).length+2)) (f2:yg ((aV t2).length+2)) (hf:yg ((aV (ap o t0 t1 t2)).length+4)) (a6:OpV F opv o):
  ν 185 #[oc #[s0.v,vi (ph t0).2,s1.v,vi (ph t1).2,s2.v,vi (ph t2).2],opv] F λr F'=>∃w,r=oc w/\DV F' w (ph (ap o t0 t1 t2))/\F.le F':=by
 refine qdA ?_;unfold OT;intro b2 c4;refine tP ?_;have l2:=ae (mX #[s0.v,vi (ph t0).2,s1.v,vi (ph t1).2,s2.v,vi (ph t2).2] 282) c4;have q2:=aq F b2 (mX #[s0.v,vi (ph t0).2,s1.v,vi (ph t1).2,s2.v,vi (ph t2).2] 282);generalize F.set b2 (mX #[s0.v,vi (ph t0).2,s1.v,vi (ph t1).2,s2.v,vi (ph t2).2] 282)=F2 at*;refine ⟨a6.cells,λb3 d2=> ?_⟩;refine tP ?_;have P:=ae (mX #[opv] 283) d2;have q3:=aq F2 b3 (mX #[opv] 283);have q2:=P _ _ q2;have l3:=l2.trans P;clear P;generalize F2.set b3 (mX #[opv] 283)=F3 at*;intro b4 a1;refine tP ?_;have f4:F b4=nC:=aU l3 a1;have P:=ae (mX zD 33) a1;have q4:=aq F3 b4 (mX zD 33);have q2:=P _ _ q2;have q3:=P _ _ q3;have l4:=l3.trans P;clear P;generalize F3.set b4 (mX zD 33)=F4 at*;refine (qg5 F4).mono ?_;rintro _ G ⟨D,mm,rfl,e0,bd⟩;refine ⟨_,rfl,?_⟩;intro E Z;refine tP ?_;refine Wb (aq _ _ _) (by simp) ?_;rw [aS,show (#[pj nC].setIfInBounds (pd E 0 nC).off (pj (mB ⟨D,0,nC⟩)):Γ)= #[pj (mB ⟨D,0,nC⟩)] from rfl];have g5:F4 E=nC:=aU bd.le Z;have X:=bd.grow (F:=G.set E (mX #[pj (mB ⟨D,0,nC⟩)] 245)) (ae _ Z) Z (aq _ _ _);have e5:=aq F4 E (mX #[pj (mB ⟨D,0,nC⟩)] 245);have l5:=ae (mX #[pj (mB ⟨D,0,nC⟩)] 245) g5;generalize F4.set E (mX #[pj (mB ⟨D,0,nC⟩)] 245)=L at*;generalize G.set E (mX #[pj (mB ⟨D,0,nC⟩)] 245)=G5 at*;intro g U;refine tP ?_;have a7:=X.upto (ae (.map #[] 0) U);have g9:L g=nC:=aU X.le U;have c6:=dW.empty Mi;have e9:=aq G5 g (.map #[] 0);have c9:mm≠g:=by obtain ⟨om,c8,_⟩:=X.map;exact aI U c8
 generalize G5.set g (.map #[] 0)=G9 at*;intro A V;refine tP ?_;refine Wb (aq _ _ _) (by simp) ?_;rw [aS,show (#[Value.map nC].setIfInBounds (pd A 0 nC).off (Value.map (mB g)):Γ)= #[Value.map (mB g)] from rfl];intro J Q;refine tP ?_;refine Wb (aq _ _ _) (by simp) ?_;rw [aS]
 let p:AP:=⟨b3,A,b2,J,E,D,mm,g,opv,o,lY (ph t0) (ph t1) (ph t2),lY (aV t0) (aV t1) (aV t2)⟩
 have d3:AS L G9 p []:=⟨a7,g9,c9,_,_,e9,c6,λk v c2=>by cases c2⟩;have a0:=d3.grow (F:=G9.set A (mX #[Value.map (mB g)] 311)) (ae _ V) V (aq _ _ _);have H:=a0.grow (F:=(G9.set A (mX #[Value.map (mB g)] 311)).set J (mX #[.func (.func 212) #[] p.caps] 312)) (ae _ Q) Q (aq _ _ _);have g6:L A=nC:=aU a7.le V;have g7:(L.set A (mX #[Value.map (mB g)] 311)) J=nC:=aU a0.bd.le Q;have l6:=ae (mX #[Value.map (mB g)] 311) g6;have l7:=ae (mX #[.func (.func 212) #[] p.caps] 312) g7;have e6:=l7 _ _ (aq L A (mX #[Value.map (mB g)] 311));have e7:=aq (L.set A (mX #[Value.map (mB g)] 311)) J (mX #[.func (.func 212) #[] p.caps] 312);have lE:F4.le ((L.set A (mX #[Value.map (mB g)] 311)).set J (mX #[.func (.func 212) #[] p.caps] 312)):=l5.trans (l6.trans l7);have e5:=(l6.trans l7) _ _ e5;rw [show (#[Value.nilFunc].setIfInBounds 0 (Value.func (.func 212) #[] #[pj (mB ⟨b3,0,nC⟩),pj (mB ⟨A,0,nC⟩),pj (mB ⟨b2,0,nC⟩),pj (mB ⟨J,0,nC⟩),pj (mB ⟨E,0,nC⟩)]):Γ)= #[.func (.func 212) #[] p.caps] from rfl];generalize (L.set A (mX #[Value.map (mB g)] 311)).set J (mX #[.func (.func 212) #[] p.caps] 312)=W at*;generalize (G9.set A (mX #[Value.map (mB g)] 311)).set J (mX #[.func (.func 212) #[] p.caps] 312)=G7 at*;have lF:=l4.trans lE;have he:AE W p:=by
  refine ⟨?_,?_,λi hi=> ?_,?_,?_,a6.le lF⟩
  ·show W.cell ⟨b3,0,nC⟩=mB opv;rw [av (lE _ _ q3)];rfl
  ·show W.cell ⟨A,0,nC⟩=mB _;rw [av e6];rfl
  ·have row:∀(j:Nat) (s:Sl) (r:Int),(#[s0.v,vi (ph t0).2,s1.v,vi (ph t1).2,s2.v,vi (ph t2).2]:Γ)[j]? =mB s.v->(#[s0.v,vi (ph t0).2,s1.v,vi (ph t1).2,s2.v,vi (ph t2).2]:Γ)[j+1]? =mB (vi r)->
     W.row ⟨b2,j,nC⟩ #[s.v,vi r]:=λj s r h1 h2 i hi=>by
    simp only [aJ];rw [av (lE _ _ q2)]
    match i,hi with
    |0,_=>simpa using h1
    |1,_=>simpa using h2
   match i,hi with
   |0,_=>exact ⟨_,row 0 s0 _ rfl rfl,s0,rfl,h0.le lF⟩
   |1,_=>exact ⟨_,row 2 s1 _ rfl rfl,s1,rfl,h1.le lF⟩
   |2,_=>exact ⟨_,row 4 s2 _ rfl rfl,s2,rfl,h2.le lF⟩
  ·show W.cell ⟨J,0,nC⟩=mB _;rw [av e7];rfl
  ·show W.cell ⟨E,0,nC⟩=mB _;rw [av e5];rfl
 have d1:AF p:=by
  refine ⟨λi hi=> ?_,λi hi=> ?_,λi hi=> ?_⟩
  ·match i,hi with
   |0,_=>exact bz k0
   |1,_=>exact bz k1
   |2,_=>exact bz k2
  ·match i,hi with
   |0,_=>exact YX _
   |1,_=>exact YX _
   |2,_=>exact YX _
  ·match i,hi with
   |0,_=>show yg ((brs (aV t0)).length+2);rw [aP];exact f0
   |1,_=>show yg ((brs (aV t1)).length+2);rw [aP];exact f1
   |2,_=>show yg ((brs (aV t2)).length+2);rw [aP];exact f2
 have R:=H.bd.le _ _ (lE _ _ q2)
 refine ⟨_,aK H.bd.le he.c5,_,aK H.bd.le he.c7,by omega,by omega,(ph t0).2,by simp only [aJ];rw [av R];rfl,by omega,by omega,(ph t1).2,by simp only [aJ];rw [av R];rfl,
  by omega,by omega,(ph t2).2,by simp only [aJ];rw [av R];rfl,_,_,_,rfl,IK,?_⟩
 have M:p.res (lY t0 t1 t2)=ap o t0 t1 t2:=rfl;have a4:=Mp d1 _ (lY t0 t1 t2) (tI _) ⟨bE k0,bE k1,bE k2⟩ W G7 [] he H (by rw [M];exact hf);rw [M] at a4;refine a4.mono ?_;rintro _ F5 ⟨rfl,B⟩;have h:=B.bd.le _ _ (lE _ _ q2);refine ⟨_,rfl,by simp only [aJ];rw [av h];rfl,by simp only [aJ];rw [av h];rfl,by simp only [aJ];rw [av h];rfl,aK B.bd.le he.c5,?_⟩;have c3:=J3 (o:=o) k0 k1 k2;obtain ⟨_,b0,_,_,⟨sb,C,a9,_⟩,_⟩:=B.bd;have O:=B.bd.le;clear B;have ev:tV (ap o t0 t1 t2) []=aV (ap o t0 t1 t2):=rfl;rw [ev] at*;have I:=O _ _ (lE _ _ q4);replace C:F5 D=mB (mX #[sb.v,Value.map (mB mm)] 248):=C;have d0:D≠b4:=λe=>by rw [e,I] at C;simp at C
 have a8:bO (dz F5 b4) 201 3 sb (aW (brs (aV (ap o t0 t1 t2)))):=a9.keep λa ha=>by obtain ⟨d4,N⟩:=a9.elem ha;refine eQ (λe=> ?_);rw [e,I] at N;cases N
 refine (aj.avoid (lX (b:=D) (F:=dz F5 b4) (ns:=sb) (by rw [av ((eQ d0).trans C)];rfl) a8.rd b0 (bE c3) hf) I).mono ?_;rintro _ F6 ⟨G6,⟨w,rfl,hw,b1⟩,lg,a5,b8⟩;have a3:=gI b1 lg a5 I;have Y:=a3 _ _ h;refine ⟨_,rfl,by simp only [aJ];rw [av Y];rfl,by simp only [aJ];rw [av Y];rfl,by simp only [aJ];rw [av Y];rfl,?_⟩;exact fY (K:=λa2 F'=>∃w,oc a2=oc w/\DV F' w (ph (ap o t0 t1 t2))/\F.le F') hw a5 rfl ⟨w,rfl,hw.le (aC lg b8),aC (lF.trans (O.trans a3)) f4⟩
end
abbrev oA:wc:=([],0)
abbrev DR:=wc×Int
def lZ:List wc->Int
 |[]=>0
 |d::r=>if chk d≠0 then chk d else lZ r
open Classical in
def vf (d:wc):Tr:=if h:iP d then h.choose else qa6 nS
theorem ma {t:Tr} (h:t.ok):vf (ph t)=t:=by have g:iP (ph t):=⟨t,h,rfl⟩;unfold vf;rw [dif_pos g];exact (wG h g.choose_spec.1 g.choose_spec.2).symm
theorem Mq {d:wc} (h:chk d=0):(vf d).ok/\d=ph (vf d)/\d.1.length<=4096:=by
 unfold chk at h;split at h
 ·cases h
 ·rename_i r;split at h
  ·rename_i g;unfold vf;rw [dif_pos g];exact ⟨g.choose_spec.1,g.choose_spec.2,by omega⟩
  ·cases h
theorem Dt {t:Tr} (h:t.ok) (g:(aV t).length<=4096):chk (ph t)=0:=by unfold chk;rw [Υ (by simp only [ph,aP];omega),Χ ⟨t,h,rfl⟩]
theorem rK {d:wc} (h:chk d=0):(aV (vf d)).length<=4096:=by obtain ⟨_,r,g⟩:=Mq h;rw [r] at g;simpa [ph,aP] using g
def WU (d:wc):DR:=if 4096<d.1.length then (oA,2) else (d,0)
abbrev V1:=Bool->Bool->Bool
def W7 (o:V1) (a b:wc):DR:=if lZ [a,b]≠0 then (oA,lZ [a,b]) else WU (ph (ap (λx y _=>o x y) (vf a) (vf b) (qa6 nS)))
def DRV (F:PH) (v:ξ) (x:DR):Prop:=∃w,v=sj #[oc w,vi x.2]/\DV F w x.1
theorem DRV.le {F G:PH} {v:ξ} {x:DR} (h:DRV F v x) (A:F.le G):DRV G v x:=by obtain ⟨w,r,g⟩:=h;exact ⟨w,r,g.le A⟩
theorem DV.none (F:PH):DV F zD oA:=⟨pk,rfl,RdS.nil F 3⟩
theorem qhW {F:PH} {x:Nat} {dd:List wc} {n:Nat} (M:n=dd.length) (P:n<=100) (h:∀i (hi:i<dd.length),∃w,F.row ⟨x,i*2,nC⟩ w/\DV F w dd[i]):
  ν 183 #[(Sl.mk (mB ⟨x,0,nC⟩) n n).v] F λr D=>r=vi (lZ dd)/\F.le D:=by
 subst M;refine qdy ?_;unfold OR;refine ⟨λm i D=>∃k:Nat,i=k/\k<=dd.length/\m=dd.length - k/\F.le D/\lZ dd=lZ (dd.drop k),dd.length,⟨0,rfl,by omega,rfl,PH.le_rfl,rfl⟩,?_⟩;rintro m i Q ⟨k,rfl,O,rfl,g,A⟩;unfold DK;refine ⟨λC=> ?_,λH=> ?_⟩
 ·have B:k<dd.length:=by simpa using C
  obtain ⟨w,L,hd⟩:=h k B;refine ⟨_,rfl,by omega,C,w,hd.size,by simpa using aO g L,?_⟩;intro R G;refine tP ?_;refine Vd (aq _ _ _) hd.size rfl hd.st ?_;rw [aS];have E:=ae (mX w 33) G;refine ⟨w,hd.size,ai (aq _ _ _),?_⟩;refine (kV (hd.le (g.trans E))).mono ?_;rintro _ F2 ⟨rfl,K⟩;rw [XG B] at A;refine ⟨_,rfl,λJ=> ?_,λN=> ?_⟩
  ·refine ⟨?_,(g.trans E).trans K⟩;rw [A];unfold lZ;rw [Χ J]
  ·refine ⟨dd.length - (k+1),by omega,k+1,ff (by omega),by omega,rfl,(g.trans E).trans K,?_⟩;rw [A]
   conv=>lhs;unfold lZ
   rw [Υ N]
 ·unfold DJ;have I:k=dd.length:=by
   have:¬k<dd.length:=by simpa using H
   omega
  refine ⟨?_,g⟩;rw [A,I,XY];rfl
theorem qhF {F:PH} {v:Γ} {d:wc} (hd:DV F v d):ν 184 #[oc v] F λr w=>DRV w r (WU d)/\F.le w:=by
 have B:=hd;obtain ⟨s,rfl,M⟩:=hd;have J:=M.blen;refine qdz ?_;unfold OS;intro G D;refine tP ?_;have L:=ae (mX #[s.v,vi d.2] 33) D;have H:=aq F G (mX #[s.v,vi d.2] 33);generalize F.set G (mX #[s.v,vi d.2] 33)=N at*;intro I A;refine tP ?_;have E:=L.trans (ae (mX zD 33) A);have C:G≠I:=aI A H;have f2:F I=nC:=aU L A;refine ⟨s,by rw [av ((aw _ _ C).trans H)];rfl,λh=> ?_,λh=> ?_⟩
 ·refine fY (K:=λg w=>DRV w (sj #[oc g,vi 2]) (WU d)/\F.le w) (DV.none F) (aq _ _ _) rfl ⟨?_,aC E f2⟩;unfold WU;rw [Χ (by omega)];exact ⟨_,rfl,DV.none _⟩
 ·refine ⟨#[s.v,vi d.2],rfl,ai ((aw _ _ C).trans H),?_⟩;refine fY (K:=λg w=>DRV w (sj #[oc g,vi 0]) (WU d)/\F.le w) B (aq _ _ _) rfl ⟨?_,aC E f2⟩;unfold WU;rw [Υ (by omega)];exact ⟨_,rfl,B.le (aC E f2)⟩
def Mr (F0:PH) (v:ξ) (o:V1):Prop:=∃(k:Nat) (fst cap:Γ),v=.func (.func k) fst cap/\aG prog k=nZ/\
 ∀(x y:Bool) (F:PH),F0.le F->aj prog k (fst++[oY x,oY y].toArray++cap) F λr F'=>r=oY (o x y)/\F.le F'
theorem UX:aG prog 186=nZ:=by kernel_rfl
theorem Ms {F0:PH} {b:Nat} {v:ξ} {o:V1} (B:F0.cell ⟨b,0,nC⟩=mB v) (h:Mr F0 v o):OpV F0 (.func (.func 186) #[] #[pj (mB ⟨b,0,nC⟩)]) (λx y _=>o x y):=by refine ⟨186,#[],#[pj (mB ⟨b,0,nC⟩)],rfl,UX,λx y z F g=> ?_⟩;obtain ⟨k,fst,cap,rfl,r,w⟩:=h;refine qdB ?_;unfold OU;refine ⟨_,rfl,_,aK g B,k,fst,cap,rfl,r,?_⟩;refine (w x y F g).mono ?_;rintro _ C ⟨rfl,A⟩;exact ⟨_,rfl,rfl,A⟩
theorem IM {a b c:Nat} (g:a<=4096) (r:b<=4096) (h:c<=4096):(a+2)*((b+2)*(c+2))<=68820189192:=by
 calc (a+2)*((b+2)*(c+2))<=4098*(4098*4098):=YB (by omega) (YB (by omega) (by omega))
  _<=68820189192:=by decide
theorem UY {a b:wc} (h:¬lZ [a,b]≠0):chk a=0/\chk b=0:=by
 unfold lZ at h;split at h
 ·exact absurd (by assumption) h
 ·rename_i g;unfold lZ at h;split at h
  ·exact absurd (by assumption) h
  ·rename_i r;omega
section
variable {F:PH} {v w:Γ} {a b:wc} {opv:ξ} {o:V1}
theorem oB (ha:DV F v a) (hb:DV F w b) (P:Mr F opv o):ν 148 #[oc v,oc w,opv] F λr H=>DRV H r (W7 o a b)/\F.le H:=by
 have X:=ha;have a6:=hb;obtain ⟨s,rfl,hr⟩:=ha;obtain ⟨t,rfl,ht⟩:=hb;refine qdv ?_;unfold ON;intro b3 Z;refine tP ?_;have l3:=ae (mX #[s.v,vi a.2] 33) Z;have q3:=aq F b3 (mX #[s.v,vi a.2] 33);generalize F.set b3 (mX #[s.v,vi a.2] 33)=F3 at*;intro b4 a5;refine tP ?_;have g:=ae (mX #[t.v,vi b.2] 33) a5;have q4:=aq F3 b4 (mX #[t.v,vi b.2] 33);have q3:=g _ _ q3;have l4:=l3.trans g;clear g;generalize F3.set b4 (mX #[t.v,vi b.2] 33)=F4 at*;refine ⟨by obtain ⟨k,f,c,rfl,_⟩:=P;rfl,λR a3=> ?_⟩;refine tP ?_;have g:=ae (mX #[opv] 250) a3;have q5:=aq F4 R (mX #[opv] 250);have q3:=g _ _ q3;have q4:=g _ _ q4;have l5:=l4.trans g;clear g;generalize F4.set R (mX #[opv] 250)=F5 at*;intro C A;refine tP ?_;have f6:F C=nC:=aU l5 A;have n3:b3≠C:=aI A q3;have n4:b4≠C:=aI A q4;have n5:R≠C:=aI A q5;have g:=ae (mX zD 33) A;have q6:=aq F5 C (mX zD 33);have q3:=g _ _ q3;have q4:=g _ _ q4;have q5:=g _ _ q5;have l6:=l5.trans g;clear g;generalize F5.set C (mX zD 33)=F6 at*;refine ⟨#[s.v,vi a.2],rfl,ai q3,#[t.v,vi b.2],rfl,ai q4,rfl,rfl,λE N=> ?_⟩;refine tP ?_;have a7:wr (wr (#[tU nC 0 0,vi 0,tU nC 0 0,vi 0]:Γ) 0 (#[s.v,vi a.2]:Γ).toList) 2 (#[t.v,vi b.2]:Γ).toList= #[s.v,vi a.2,t.v,vi b.2]:=rfl;rw [a7];have g:=ae (mX #[s.v,vi a.2,t.v,vi b.2] 33) N;have a2:=aq F6 E (mX #[s.v,vi a.2,t.v,vi b.2] 33);have q3:=g _ _ q3;have q4:=g _ _ q4;have q5:=g _ _ q5;have q6:=g _ _ q6;have L:=l6.trans g;clear g;generalize F6.set E (mX #[s.v,vi a.2,t.v,vi b.2] 33)=F7 at*;refine (qhW (F:=F7) (x:=E) (dd:=[a,b]) (n:=2) rfl (by omega) (λi hi=> ?_)).mono ?_
 ·have row:∀(j:Nat) (s':Sl) (r:Int),(#[s.v,vi a.2,t.v,vi b.2]:Γ)[j]? =mB s'.v->(#[s.v,vi a.2,t.v,vi b.2]:Γ)[j+1]? =mB (vi r)->F7.row ⟨E,j,nC⟩ #[s'.v,vi r]:=λj s' r h1 h2 i hi=>by
   simp only [aJ];rw [av a2]
   match i,hi with
   |0,_=>simpa using h1
   |1,_=>simpa using h2
  match i,hi with
  |0,_=>exact ⟨_,row 0 s _ rfl rfl,X.le L⟩
  |1,_=>exact ⟨_,row 2 t _ rfl rfl,a6.le L⟩
 rintro _ F8 ⟨rfl,D⟩;have q3:=D _ _ q3;have q4:=D _ _ q4;have q5:=D _ _ q5;have q6:=D _ _ q6;have D:=L.trans D;refine ⟨_,rfl,λh=> ?_,λh=> ?_⟩
 ·refine fY (K:=λB H=>DRV H (sj #[oc B,vi (lZ [a,b])]) (W7 o a b)/\F.le H) (DV.none F) q6 rfl ⟨?_,aC D f6⟩;unfold W7;rw [Χ h];exact ⟨_,rfl,DV.none _⟩
 ·obtain ⟨O,V⟩:=UY h;obtain ⟨ka,ea,la⟩:=Mq O;obtain ⟨kb,eb,lb⟩:=Mq V;have sa:=rK O;have sb:=rK V;have a8:=FM (o:=λx y _=>o x y) ka kb (d:=qa6 nS) trivial;have b0:=IM sa sb (c:=(aV (qa6 nS)).length) (by simp [aV,tV]);refine ⟨#[s.v,vi a.2],rfl,ai q3,#[t.v,vi b.2],rfl,ai q4,rfl,rfl,rfl,?_⟩;have Q:W7 o a b=WU (ph (ap (λx y _=>o x y) (vf a) (vf b) (qa6 nS))):=by unfold W7;rw [Υ h]
  rw [Q];have ld:F.le (dz F8 C):=d5 D f6;have hc:=qht (F:=dz F8 C) (s0:=s) (s1:=t) (s2:=pk) (t0:=vf a) (t1:=vf b) (t2:=qa6 nS) (opv:=.func (.func 186) #[] #[pj (mB ⟨R,0,nC⟩)]) (o:=λx y _=>o x y)
   (by rw [<- ea];exact hr.le ld) (by rw [<- eb];exact ht.le ld) (RdS.nil _ _) ka kb trivial (by omega) (by omega) (by simp [aV,tV]) (by omega)
   (Ms (b:=R) (v:=opv) (by rw [av ((eQ n5).trans q5)];rfl) (by
    obtain ⟨k,f,c,h1,h2,h3⟩:=P
    exact ⟨k,f,c,h1,h2,λx y G hG=>h3 x y G (ld.trans hG)⟩))
  rw [<- ea,<- eb] at hc;refine (aj.avoid hc q6).mono ?_;rintro _ F9 ⟨G,⟨w,rfl,hw,lg⟩,lG,M,g6⟩;have l9:=gI lg lG M q6;refine ⟨_,rfl,?_⟩;have Y:DV (dz F9 C) w (ph (ap (λx y _=>o x y) (vf a) (vf b) (qa6 nS))):=hw.le (λx ob W=>by rw [eQ (λe=>by rw [e,g6] at W;cases W)];exact lG _ _ W);refine (aj.avoid (qhF Y) M).mono ?_;rintro _ a9 ⟨G',⟨⟨w',rfl,J⟩,a1⟩,U,I,a0⟩;have a4:=gI a1 U I M;refine ⟨_,_,rfl,?_⟩;exact fY (K:=λB H=>DRV H (sj #[oc B,vi _]) (WU (ph (ap (λx y _=>o x y) (vf a) (vf b) (qa6 nS))))/\F.le H) J I rfl ⟨⟨_,rfl,J.le (aC U a0)⟩,aC (D.trans (l9.trans a4)) f6⟩
end
theorem DV.beside {F G:PH} {x:Nat} {w:Γ} {d:wc} (h:DV G w d) (A:G.le F) (r:G x=nC):DV (dz F x) w d:=
 h.le λy B g=>by rw [eQ (λe=>by rw [e,r] at g;cases g)];exact A _ _ g
theorem Bq {f:FuncId} {args:Γ} {F:PH} {x:Nat} {o:Obj} {y:DR} (h:aj prog f args (dz F x) λr A=>DRV A r y/\(dz F x).le A) (B:F x=mB o):
  aj prog f args F λr A=>∃w,r=sj #[oc w,vi y.2]/\(∃G,DV G w y.1/\G.le A/\G x=nC)/\F.le A/\A x=mB o:=
 (aj.avoid h B).mono λr A ⟨G,⟨⟨w,E,H⟩,D⟩,C,q,g⟩=>⟨w,E,⟨G,H,C,g⟩,gI D C q B,q⟩
theorem iQ {f:FuncId} {args:Γ} {F:PH} {x:Nat} {o:Obj} {d:wc} (h:aj prog f args (dz F x) λr A=>∃w,r=oc w/\DV A w d/\(dz F x).le A) (B:F x=mB o):
  aj prog f args F λr A=>∃w,r=oc w/\(∃G,DV G w d/\G.le A/\G x=nC)/\F.le A/\A x=mB o:=
 (aj.avoid h B).mono λr A ⟨G,⟨w,E,H,D⟩,C,q,g⟩=>⟨w,E,⟨G,H,C,g⟩,gI D C q B,q⟩
theorem Oi {F G F0:PH} {b J:Nat} {A:Γ} {y:DR} {w:Γ} (B:DV G w y.1) (D:G.le F) (E:G b=nC) (C:F b=mB (mX A J (0,0))) (h:A.size=2) (I:F0.le F) (H:F0 b=nC):
  w.size=2/\(∀v∈w.toList,ak v)/\∃c e,F (pd b 0 nC).block=mB (mX c e (0,0))/\(pd b 0 nC).spot=nC/\(pd b 0 nC).off+2<=c.size/\
   wn (F.set (pd b 0 nC).block (mX (wr c (pd b 0 nC).off w.toList) e)) λF=>∃g:Γ,g.size=2/\F.row (pd b 0 nC) g/\DRV F (sj #[oc g,vi y.2]) y/\F0.le F:=
 fY (K:=λg r=>DRV r (sj #[oc g,vi y.2]) y/\F0.le r) B C h ⟨⟨_,rfl,B.le (aC D E)⟩,aC I H⟩
theorem RO {F F0:PH} {b E:Nat} {A:Γ} {h:Int} (B:F b=mB (mX A E (0,0))) (r:A.size=2) (D:F0.le F) (C:F0 b=nC):
  (zD:Γ).size=2/\(∀v∈(zD:Γ).toList,ak v)/\∃c e,F (pd b 0 nC).block=mB (mX c e (0,0))/\(pd b 0 nC).spot=nC/\(pd b 0 nC).off+2<=c.size/\
   wn (F.set (pd b 0 nC).block (mX (wr c (pd b 0 nC).off (zD:Γ).toList) e)) λF=>∃g:Γ,g.size=2/\F.row (pd b 0 nC) g/\DRV F (sj #[oc g,vi h]) (oA,h)/\F0.le F:=
 fY (K:=λg w=>DRV w (sj #[oc g,vi h]) (oA,h)/\F0.le w) (DV.none F) B r ⟨⟨_,rfl,DV.none _⟩,aC D C⟩
abbrev bV:V1:=λx y=>x && y
abbrev z9:V1:=λx y=>x || y
abbrev kW:V1:=λx y=> !(x==y)
theorem UZ:aG prog 149=nZ:=by kernel_rfl
theorem U0:aG prog 152=nZ:=by kernel_rfl
theorem qgR (F0:PH):Mr F0 (.func (.func 149) #[] #[]) bV:=⟨149,#[],#[],rfl,UZ,λx y F _=>by
 refine qdw ?_;unfold OO
 exact ⟨λh=>⟨by simp [h],PH.le_rfl⟩,λh=>⟨by simp [h],PH.le_rfl⟩⟩⟩
theorem qgS (F0:PH):Mr F0 (.func (.func 152) #[] #[]) z9:=⟨152,#[],#[],rfl,U0,λx y F _=>by
 refine qdx ?_;unfold OP
 exact ⟨λh=>⟨by simp [h],PH.le_rfl⟩,λh=>⟨by simp [h],PH.le_rfl⟩⟩⟩
section
variable {F:PH} {v w u:Γ} {a b c:wc}
theorem IN (D:DV F v a) (I:DV F w b):ν 109 #[oc v,oc w] F λr E=>DRV E r (W7 bV a b)/\F.le E:=by refine qdp ?_;unfold OH;intro L B;refine tP ?_;have O:=ae (mX v 33) B;have q2:=aq F L (mX v 33);generalize F.set L (mX v 33)=F2 at*;intro N A;refine tP ?_;have g:=ae (mX w 33) A;have q3:=aq F2 N (mX w 33);have q2:=g _ _ q2;have J:=O.trans g;clear g;generalize F2.set N (mX w 33)=K at*;intro C h;refine tP ?_;have M:F C=nC:=aU J h;have g:=ae (mX zD 33) h;have q4:=aq K C (mX zD 33);have q2:=g _ _ q2;have q3:=g _ _ q3;have H:=J.trans g;clear g;generalize K.set C (mX zD 33)=W at*;refine ⟨v,D.size,ai q2,w,I.size,ai q3,?_⟩;have ld:=d5 H M;refine (Bq (oB (D.le ld) (I.le ld) (qgR _)) q4).mono ?_;rintro _ V ⟨z,rfl,⟨G,Q,U,P⟩,R,q5⟩;exact ⟨_,_,rfl,Oi Q U P q5 rfl (H.trans R) M⟩
theorem Mt (D:DV F v a) (I:DV F w b):ν 113 #[oc v,oc w] F λr E=>DRV E r (W7 z9 a b)/\F.le E:=by refine qdr ?_;unfold OJ;intro L B;refine tP ?_;have O:=ae (mX v 33) B;have q2:=aq F L (mX v 33);generalize F.set L (mX v 33)=F2 at*;intro N A;refine tP ?_;have g:=ae (mX w 33) A;have q3:=aq F2 N (mX w 33);have q2:=g _ _ q2;have J:=O.trans g;clear g;generalize F2.set N (mX w 33)=K at*;intro C h;refine tP ?_;have M:F C=nC:=aU J h;have g:=ae (mX zD 33) h;have q4:=aq K C (mX zD 33);have q2:=g _ _ q2;have q3:=g _ _ q3;have H:=J.trans g;clear g;generalize K.set C (mX zD 33)=W at*;refine ⟨v,D.size,ai q2,w,I.size,ai q3,?_⟩;have ld:=d5 H M;refine (Bq (oB (D.le ld) (I.le ld) (qgS _)) q4).mono ?_;rintro _ V ⟨z,rfl,⟨G,Q,U,P⟩,R,q5⟩;exact ⟨_,_,rfl,Oi Q U P q5 rfl (H.trans R) M⟩
abbrev tv (v:Nat):Tr:=qa7 v (qa6 nS) (qa6 nZ)
theorem RQ (v:Nat):ph (tv v)=([⟨(v:Int),0,1⟩],2):=by
 have e:aV (tv v)=[tv v]:=by simp [aV,tV,tv]
 unfold ph;rw [e];simp [brs,br,num,tv]
theorem U1 {v:Nat} (h:v<64):(tv v).ok:=⟨h,h,h,by simp,trivial,trivial⟩
theorem gy (x:Bool):ν 112 #[oY x] F λr A=>∃w,r=oc w/\DV A w (ph (qa6 x))/\F.le A:=by
 refine qdq ?_;unfold OI;intro D B;refine tP ?_;have C:=ae (mX zD 33) B;have q2:=aq F D (mX zD 33);refine ⟨λh=> ?_,λh=> ?_⟩
 ·subst h;have hd:∀G:PH,DV G #[tU nC 0 0,vi 1] (ph (qa6 nZ)):=λG=>⟨pk,rfl,RdS.nil G 3⟩;exact fY (K:=λg A=>∃w,oc g=oc w/\DV A w (ph (qa6 nZ))/\F.le A) (hd F) q2 rfl ⟨_,rfl,hd _,aC C B⟩
 ·subst h;have hd:∀G:PH,DV G zD (ph (qa6 nS)):=λG=>⟨pk,rfl,RdS.nil G 3⟩;exact fY (K:=λg A=>∃w,oc g=oc w/\DV A w (ph (qa6 nS))/\F.le A) (hd F) q2 rfl ⟨_,rfl,hd _,aC C B⟩
def tR (v:Int):DR:=if v<0\/63<v then (oA,1) else (ph (tv v.toNat),0)
end
section
variable {F:PH} {v:Γ} {a:wc}
def wP (c:Int):Cf:=λi=>c.toNat.testBit i
theorem ii {x:Int} (h:0<=x) (g:x<18446744073709551616):u64.wrap x=x:=by unfold IntKind.wrap;simp only [IntKind.bits,IntKind.signed];simp only [WN,VQ,if_false];omega
theorem IP (n v:Nat):Int.fdiv (n:Int) (2 ^ v)=((n / 2 ^ v:Nat):Int):=by
 have g:(2:Int) ^ v=((2 ^ v:Nat):Int):=by simp
 rw [g,Zd _ (Int.natCast_nonneg _)];rfl
theorem uo (n:Nat) (h:n<18446744073709551616):(BitVec.ofInt (u64).bits (n:Int)).toNat=n:=by show (BitVec.ofInt 64 (n:Int)).toNat=n;rw [BitVec.toNat_ofInt];omega
theorem mb {c:Int} (r:0<=c) (B:c<18446744073709551616) {v:Nat} (A:v<64):
  (u64.wrap ((BitVec.ofInt (u64).bits (Int.fdiv c (2 ^ (min (pc (v:Int)) (u64).bits))) &&& BitVec.ofInt (u64).bits (1:Int)).toNat))=(1:Int)↔wP c v=nZ:=by
 obtain ⟨n,rfl⟩:=Yu r;have w:min (pc (v:Int)) (u64).bits=v:=by simp only [IntKind.bits,N4];omega
 rw [w,IP,BitVec.toNat_and];have h:n / 2 ^ v<=n:=Nat.div_le_self _ _;have g:(BitVec.ofInt (u64).bits (1:Int)).toNat=1:=uo 1 (by omega);rw [uo _ (by omega),g,Nat.and_one_is_mod,ii (by omega) (by omega)];unfold wP;rw [N4,Nat.testBit_eq_decide_div_mod_eq,decide_eq_true_iff];omega
def i8 (a:wc) (c:Int):Bool:=open Classical in if chk a≠0 then nS else (vf a).ev (wP c)
theorem rL (Q:DV F v a) {c:Int} (h0:0<=c) (U:c<18446744073709551616):ν 76 #[oc v,.int .u64 c] F λr L=>r=oY (i8 a c)/\F.le L:=by
 have K:=Q;obtain ⟨s,rfl,Z⟩:=Q;refine qf9 ?_;unfold Vl;intro X P;refine tP ?_;have I:=ae (mX #[s.v,vi a.2] 33) P;have q2:=aq F X (mX #[s.v,vi a.2] 33);generalize F.set X (mX #[s.v,vi a.2] 33)=F2 at*;refine ⟨_,rfl,ai q2,?_⟩;refine (kV (K.le I)).mono ?_;rintro _ F3 ⟨rfl,E⟩;refine ⟨_,rfl,λh=> ?_,λh=> ?_⟩
 ·refine ⟨?_,I.trans E⟩;unfold i8;rw [Χ h]
 ·obtain ⟨V,W,la⟩:=Mq (by omega:chk a=0);have Y:=bz V;have H:RdS F s 3 (aW (brs (aV (vf a)))):=by rw [W] at Z;exact Z
  have D:=H.blen;rw [aP] at D;have a0:=rK (by omega:chk a=0);have e2:a.2=(num (aV (vf a)) (vf a):Int):=by
   conv=>lhs;rw [W]
   rfl
  have he:i8 a c=(vf a).ev (wP c):=by unfold i8;rw [Υ h]
  refine ⟨a.2,by rw [av (E _ _ q2)];rfl,?_⟩;refine ⟨λm i L=>∃B,i=(num (aV (vf a)) B:Int)/\inn (aV (vf a)) B/\m=B.sz/\F3.le L/\B.ev (wP c)=(vf a).ev (wP c),(vf a).sz,⟨vf a,e2,bE V,rfl,PH.le_rfl,rfl⟩,?_⟩;rintro m i F4 ⟨B,rfl,g,rfl,J,A⟩;unfold Jf;refine ⟨λa3=> ?_,λa1=> ?_⟩
  ·cases B with
   |qa6 x=>have:=cI (aV (vf a)) x;omega
   |qa7 w l r=>
    obtain ⟨il,ir⟩:=Y.inn_kids g;obtain ⟨R,_⟩:=Y.inn_ok g;have hg:=cU (S:=aV (vf a)) (t:=qa7 w l r) rfl;have a2:=dN g;have O:=oE (n:=num (aV (vf a)) (qa7 w l r)) (by omega) hg;obtain ⟨p,hp,G,_⟩:=VX (H.le (I.trans (E.trans J))) (jM (ee (cy g rfl) rfl));refine ⟨s,by rw [av (J _ _ (E _ _ q2))];rfl,p,hp,by rw [O];omega,by rw [O];omega,aX (br (aV (vf a)) (qa7 w l r)),rfl,by rw [O];exact G,?_⟩;intro b6 N;refine tP ?_;refine Vd (aq _ _ _) rfl rfl (ij _) ?_;rw [aS];have l6:=J.trans (ae (mX (aX (br (aV (vf a)) (qa7 w l r))) 201) N);refine ⟨(w:Int),by rw [av (aq _ _ _)];rfl,by omega,λM=> ?_,λM=> ?_⟩
    ·have C:=(mb h0 U R).1 M;refine ⟨_,by rw [av (aq _ _ _)];rfl,r.sz,by simp only [sz];omega,r,rfl,ir,rfl,l6,?_⟩;rw [<- A];simp [Tr.ev,C]
    ·have C:¬wP c w=nZ:=λhc=>M ((mb h0 U R).2 hc);refine ⟨_,by rw [av (aq _ _ _)];rfl,l.sz,by simp only [sz];omega,l,rfl,il,rfl,l6,?_⟩;rw [<- A];simp [Tr.ev,C]
  ·unfold Je;refine ⟨?_,I.trans (E.trans J)⟩;rw [he,<- A];cases B with
   |qa6 x=>cases x<;>simp [num,Tr.ev]
   |qa7 w l r=>have:=cU (S:=aV (vf a)) (t:=qa7 w l r) rfl;omega
end
def lm (n:Nat):Δ:=if h:n=0 then [] else n % 4294967296::lm (n / 4294967296)
termination_by n
decreasing_by exact Nat.div_lt_self (by omega) (by decide)
abbrev qgT (l:Δ):Ξ:=l.map λ(x:Nat)=>Value.int .u32 (x:Int)
def NV (F:PH) (s:Sl) (n:Nat):Prop:=RdS F s 1 (qgT (lm n))
theorem NV.le {F G:PH} {s:Sl} {n:Nat} (h:NV F s n) (g:F.le G):NV G s n:=RdS.le h g
def dS (n:Nat):Tr->Prop
 |qa6 _=>True
 |qa7 v l h=>v<n/\dS n l/\dS n h
theorem nL {F G:PH} {x:Nat} (h:F.le G):(dz F x).le (dz G x):=λy o g=>by
 have r:y≠x:=λe=>by rw [e,Bp] at g;cases g
 rw [eQ r] at g ⊢;exact h _ _ g
theorem rM {T:List Tr} (g:Cl T) {n:Nat} (h:∀x∈T,x.top<n):∀(t:Tr),inn T t->dS n t
 |qa6 _,_=>trivial
 |qa7 v l r,ht=>by obtain ⟨il,w⟩:=g.inn_kids ht;exact ⟨h _ (cy ht rfl),rM g h l il,rM g h r w⟩
variable {R:VR} {F:PH}
set_option maxHeartbeats 4000000
def U2 (a:Bool) (R:VR) (F:PH):Prop:=Nb F (mX zD 33) λb F=>Bb (a) (aB F (Am b 0) 2 (#[tU nC 0 0,(vi 1)]:Γ) λF=>Rr 2 (Am b 0) R F) (aB F (Am b 0) 2 zD λF=>Rr 2 (Am b 0) R F)
theorem qgU {a:Bool} (h:U2 a R F):ν 85 #[oY a] F R:=Rx.Λ .N h
def rN (c:Int) (d:Nat) (e:Bool) (R:VR) (F:PH):Prop:=Bb (e) (aB F (Am d 0) 2 zD λF=>Lr F 2 (Am d 0) λb=>R (sj #[oc b,(vi 1)]) F) ((#[(vi c),(vi 0),(vi 1)]:Γ).size=3/\Nb F (mX (#[(vi c),(vi 0),(vi 1)]:Γ) 201) λf F=>aB F (Am d 0) 2 (#[nV (Sb f 1),(vi 2)]:Γ) λF=>Lr F 2 (Am d 0) λa=>R (sj #[oc a,(vi 0)]) F)
def U3 (a:Int) (R:VR) (F:PH):Prop:=Nb F (mX zD 33) λb F=>Bc (a<0) (rN a b nZ R F) (rN a b (decide (63<a)) R F)
theorem qf6 {a:Int} (h:U3 a R F):ν 87 #[(vi a)] F R:=Rx.Λ (.qa8 (.T (.J nS [(9,.bool)] .N .N) .N)) h
def U4 (b:Sl) (c:Int) (R:VR) (F:PH):Prop:=Nb F (mX zD 33) λd F=>Ca 127 #[nV b,(vi (max 0 (min c 6))),(vi 0),(vi 0)] F λa F=>aB F (Am d 0) 2 a λF=>Rr 2 (Am d 0) R F
theorem qf7 {a:Sl} {b:Int} (h:U4 a b R F):ν 93 #[nV a,(vi b)] F R:=Rx.Λ .N h
def IQ (d:Sl) (j c a:Int) (R:VR) (F:PH):Prop:=Nb F (mX zD 33) λl F=>Bc (c=j) (Bc ((i64.wrap (Int.tdiv a 8))<(d.len:Int)) (Ix d (i64.wrap (Int.tdiv a 8)) λm=>∃g,F.cell (od m (pc (i64.wrap (Int.tdiv a 8))*1))=mB (.int .u8 g)/\0<=(u64.wrap (tK a 8))/\Ca 85 #[oY (decide ((u8.wrap ((BitVec.ofInt (u8).bits (Int.fdiv g (2 ^ (min (pc (u64.wrap (tK a 8))) (u8).bits))) &&& BitVec.ofInt (u8).bits 1).toNat))=1))] F λn F=>aB F (Am l 0) 2 n λF=>Rr 2 (Am l 0) R F) (Ca 85 #[oY nS] F λe F=>aB F (Am l 0) 2 e λF=>Rr 2 (Am l 0) R F)) (ν 87 #[(vi c)] F λv F=>∃h,∃f,v=(sj #[oc h,(vi f)])/\Nb F (mX zD 33) λk F=>aB F (Am k 0) 2 h λF=>Lr F 2 (Am k 0) λi=>0<=(u64.wrap c)/\Lr F 2 (Am k 0) λb=>Ca 127 #[nV d,(vi j),(vi (i64.wrap (c+1))),(vi (i64.wrap (a+(i64.wrap (1*2 ^ (min (pc (u64.wrap c)) (i64).bits))))))] F λo F=>F.row (Am k 0) b/\F.row (Am k 0) i/\Ca 159 #[oc i,oc o] F λp F=>F.row (Am k 0) b/\Ca 127 #[nV d,(vi j),(vi (i64.wrap (c+1))),(vi a)] F λq F=>F.row (Am k 0) b/\Ca 160 #[oc q,oc b] F λr F=>Ca 158 #[oc p,oc r] F λs F=>aB F (Am l 0) 2 s λF=>Rr 2 (Am l 0) R F)
theorem Oj {a:Sl} {b:Int} {c:Int} {d:Int} (h:IQ a b c d R F):ν 127 #[nV a,(vi b),(vi c),(vi d)] F R:=Rx.Λ .N h
def Du (a:Int) (R:VR) (F:PH):Prop:=R (oY (decide (a=1))) F
def Dv (j:Ω) (i:Int) (k:Nat) (R:VR) (a:Int) (F:PH):Prop:=Bc (1<a) (Ls F (Am k 0) λd=>Ix d (i64.wrap (a - 2)) λe=>∃b,b.size=3/\F.row (od e (pc (i64.wrap (a - 2))*3)) b/\Nb F (mX (#[vi 0,vi 0,vi 0]) 201) λh F=>aB F (Am h 0) 3 b λF=>Li F (Am h 0) λc=>0<=(u64.wrap c)/\Bc ((u64.wrap ((BitVec.ofInt (u64).bits (Int.fdiv i (2 ^ (min (pc (u64.wrap c)) (u64).bits))) &&& BitVec.ofInt (u64).bits 1).toNat))=1) (Li F (Am h 2) λf=>j f F) (Li F (Am h 1) λg=>j g F)) (Du a R F)
def Ok (b:Γ) (c:Int) (R:VR) (F:PH):Prop:=Nb F (mX b 33) λe F=>Li F (Am e 1) λd=>Lp d F λN a F=>Dv N c e R a F
theorem U5 {a:Γ} {b:Int} (h:Ok a b R F):ν 132 #[oc a,.int .u64 b] F R:=Rx.Λ (.qa8 (.qa8 (.J nS [(5,.int .i64)] (.L [(5,.int .i64)] .N) .N))) h
def Ol (b:Γ) (R:VR) (F:PH):Prop:=Nb F (mX b 33) λe F=>Nb F (mX zD 33) λf F=>Lr F 2 (Am e 0) λa=>Ca 85 #[oY nZ] F λc F=>F.row (Am e 0) a/\Ca 191 #[oc a,oc c,(vi 2)] F λd F=>aB F (Am f 0) 2 d λF=>Rr 2 (Am f 0) R F
theorem U6 {a:Γ} (h:Ol a R F):ν 157 #[oc a] F R:=Rx.Λ .N h
def Om (a b:Γ) (R:VR) (F:PH):Prop:=Nb F (mX a 33) λg F=>Nb F (mX b 33) λh F=>Nb F (mX zD 33) λf F=>Lr F 2 (Am g 0) λc=>Lr F 2 (Am h 0) λd=>Ca 191 #[oc c,oc d,(vi 1)] F λe F=>aB F (Am f 0) 2 e λF=>Rr 2 (Am f 0) R F
theorem U7 {a:Γ} {b:Γ} (h:Om a b R F):ν 158 #[oc a,oc b] F R:=Rx.Λ .N h
def On (a b:Γ) (R:VR) (F:PH):Prop:=Nb F (mX a 33) λg F=>Nb F (mX b 33) λh F=>Nb F (mX zD 33) λf F=>Lr F 2 (Am g 0) λc=>Lr F 2 (Am h 0) λd=>Ca 191 #[oc c,oc d,(vi 0)] F λe F=>aB F (Am f 0) 2 e λF=>Rr 2 (Am f 0) R F
theorem U8 {a:Γ} {b:Γ} (h:On a b R F):ν 159 #[oc a,oc b] F R:=Rx.Λ .N h
def Oo (b c:Γ) (R:VR) (F:PH):Prop:=Nb F (mX b 33) λg F=>Nb F (mX c 33) λi F=>Nb F (mX zD 33) λh F=>Lr F 2 (Am g 0) λa=>Lr F 2 (Am i 0) λd=>Ca 157 #[oc d] F λe F=>F.row (Am g 0) a/\Ca 159 #[oc a,oc e] F λf F=>aB F (Am h 0) 2 f λF=>Rr 2 (Am h 0) R F
theorem U9 {a:Γ} {b:Γ} (h:Oo a b R F):ν 160 #[oc a,oc b] F R:=Rx.Λ .N h
def Oq (j k:Γ) (b:Int) (R:VR) (F:PH):Prop:=Nb F (mX j 33) λl F=>Nb F (mX k 33) λm F=>Nb F (mX zD 33) λn F=>Lr F 2 (Am l 0) λc=>Lr F 2 (Am m 0) λa=>c.size=2/\a.size=2/\Nb F (mX (Array.setIfInBounds (wr (wr (#[tU nC 0 0,vi 0,.slice nC 0 0,vi 0,vi 0,.slice nC 0 0,.slice nC 0 0]:Γ) 0 c.toList) 2 a.toList) 4 (vi b)) 320) λd F=>Li F (Am l 1) λe=>Li F (Am m 1) λf=>Ci 215 #[(Pp d),(vi e),(vi f)] F λg F=>Ls F (Am d 5) λh=>Ca 216 #[nV h,(vi g)] F λi F=>aB F (Am n 0) 2 i λF=>Rr 2 (Am n 0) R F
theorem qdd {b:Γ} {c:Γ} {a:Int} (h:Oq b c a R F):ν 191 #[oc b,oc c,(vi a)] F R:=Rx.Λ .N h
def Ot (a:Γ) (R:VR) (F:PH):Prop:=Nb F (mX a 33) λe F=>Ls F (Am e 0) λb=>Bc ((4096:Int)<(b.len:Int)) (R (vi 2) F) (Lr F 2 (Am e 0) λc=>vc 217 #[oc c] F λd F=>Bb ((!d)) (R (vi 20) F) (R (vi 0) F))
theorem qde {a:Γ} (h:Ot a R F):ν 192 #[oc a] F R:=Rx.Λ .N h
def wb (w:Θ) (h i:Int) (R:VR) (F:PH):Prop:=∃a,w=mB a/\Lr F 2 a λr=>Lr F 2 (od a 2) λj=>Ci 241 #[oc r,(vi h)] F λe F=>F.row (od a 2) j/\Ci 241 #[oc j,(vi i)] F λf F=>Lr F 2 a λs=>ν 242 #[oc s,(vi h),(vi (min e f))] F λv F=>∃k,∃c,v=(sj #[(vi k),(vi c)])/\Lr F 2 (od a 2) λt=>ν 242 #[oc t,(vi i),(vi (min e f))] F λv F=>∃l,∃d,v=(sj #[(vi l),(vi d)])/\Ci 215 #[pj (mB a),(vi k),(vi l)] F λm F=>Ci 215 #[pj (mB a),(vi c),(vi d)] F λn F=>Ls F (od a 5) λo=>ν 243 #[nV o,oc (#[(vi (min e f)),(vi m),(vi n)]:Γ)] F λv F=>∃g,∃b,v=(sj #[nV g,(vi b)])/\rj F (od a 5) (nV g) λF=>Ls F (od a 6) λp=>(#[(vi h),(vi i),(vi b)]:Γ).size=3/\Nb F (mX (#[(vi h),(vi i),(vi b)]:Γ) 313) λu F=>Ap 318 #[nV p,nV (Sb u 1)] F λq F=>rj F (od a 6) (nV q) λF=>R (vi b) F
def pO (g:Ω) (a:Addr) (_ _ b:Int) (c:Bool) (R:VR) (F:PH):Prop:=Bb (c) (Ls F (od a 6) λd=>Ix d b λe=>0<=(2:Int)/\(2:Int)<3/\Li F (od (od e (pc b*3)) (pc 2*1)) λf=>R (vi f) F) (g (i64.wrap (b+1)) F)
def Dw (m:Ω) (l:Θ) (c d:Int) (R:VR) (b:Int) (F:PH):Prop:=∃a,l=mB a/\Ls F (od a 6) λe=>Bc (b<(e.len:Int)) (Ls F (od a 6) λf=>Ix f b λg=>0<=(0:Int)/\(0:Int)<3/\Li F (od (od g (pc b*3)) (pc 0*1)) λh=>Bc (h=c) (Ls F (od a 6) λi=>Ix i b λj=>0<=(1:Int)/\(1:Int)<3/\Li F (od (od j (pc b*3)) (pc 1*1)) λk=>pO m a c d b (decide (k=d)) R F) (pO m a c d b nS R F)) (wb (mB a) c d R F)
def me (a:Θ) (b c:Int) (d:Bool) (R:VR) (F:PH):Prop:=Bb (d) (Ci 240 #[pj a,(vi b),(vi c)] F λe F=>R (vi e) F) (Lp 0 F λN f F=>Dw N a b c R f F)
def Ou (c:Θ) (a b:Int) (R:VR) (F:PH):Prop:=Bc (a<2) (me c a b (decide (b<2)) R F) (me c a b nS R F)
theorem qdf {a:Θ} {b:Int} {c:Int} (h:Ou a b c R F):ν 215 #[pj a,(vi b),(vi c)] F R:=Rx.Λ (.qa8 (.T (.J nS [(22,.bool)] .N .N) (.J nS [(0,.ptr)] (.qa8 (.L [(7,.int .i64)] (.qa8 (.T (.J nS [(57,.bool)] .N .N) .N)))) .N))) h
def Ow (a:Sl) (b:Int) (R:VR) (F:PH):Prop:=Nb F (mX zD 33) λg F=>aH prog (Instr.makeSlice 76 (vi (a.len:Int)) (vi (a.len:Int))) F λv F=>∃c,v=(nV c)/\Nb F (mX (#[nV a,nV c,tU nC 0 0]:Γ) 339) λd F=>Ci 244 #[(Pp d),(vi b)] F λe F=>Ls F (Am d 2) λf=>aB F (Am g 0) 2 (#[nV f,(vi e)]:Γ) λF=>Rr 2 (Am g 0) R F
theorem qdg {a:Sl} {b:Int} (h:Ow a b R F):ν 216 #[nV a,(vi b)] F R:=Rx.Λ .N h
def Dx (f:Nat) (R:VR) (F:PH):Prop:=Lr F 2 (Am f 0) λa=>Ls F (Am f 0) λb=>Li F (Am f 1) λc=>Ca 216 #[nV b,(vi c)] F λd F=>F.row (Am f 0) a/\vc 230 #[oc a,oc d] F λe F=>R (oY e) F
def Dy (f:Ω) (e:Nat) (R:VR) (a:Int) (F:PH):Prop:=Ls F (Am e 0) λb=>Bc (a<(b.len:Int)) (Lr F 2 (Am e 0) λc=>vc 245 #[oc c,(vi a)] F λd F=>Bb ((!d)) (R (oY nS) F) (f (i64.wrap (a+1)) F)) (Dx e R F)
def Ox (c:Γ) (R:VR) (F:PH):Prop:=Nb F (mX c 33) λb F=>Li F (Am b 1) λd=>Bc (d<0) (R (oY nS) F) (Li F (Am b 1) λe=>Ls F (Am b 0) λa=>Bc ((i64.wrap ((a.len:Int)+2))<=e) (R (oY nS) F) (Lp 0 F λN f F=>Dy N b R f F))
theorem qdh {a:Γ} (h:Ox a R F):ν 217 #[oc a] F R:=Rx.Λ (.qa8 (.qa8 (.J nS [] (.qa8 (.L [(3,.int .i64)] .N)) .N))) h
def Mu (R:VR) (F:PH):Prop:=R (oY nZ) F
def Dz (k:Ω) (j l:Nat) (R:VR) (a:Int) (F:PH):Prop:=Ls F (Am j 0) λc=>Bc (a<(c.len:Int)) (Ls F (Am j 0) λd=>Ix d a λe=>Lr F 3 (od e (pc a*3)) λf=>Ls F (Am l 0) λg=>Ix g a λh=>Lr F 3 (od h (pc a*3)) λi=>∃b,(∀F,s9 prog (Op.equal 201 (oc f) (oc i)) F b)/\Bb ((!b)) (R (oY nS) F) (k (i64.wrap (a+1)) F)) (Mu R F)
def Oy (c d:Γ) (R:VR) (F:PH):Prop:=Nb F (mX c 33) λe F=>Nb F (mX d 33) λf F=>Li F (Am e 1) λg=>Li F (Am f 1) λh=>Bc (g≠h) (R (oY nS) F) (Ls F (Am e 0) λa=>Ls F (Am f 0) λb=>Bc ((a.len:Int)≠(b.len:Int)) (R (oY nS) F) (Lp 0 F λN i F=>Dz N e f R i F))
theorem qdi {a:Γ} {b:Γ} (h:Oy a b R F):ν 230 #[oc a,oc b] F R:=Rx.Λ (.qa8 (.qa8 (.J nS [] (.qa8 (.L [(5,.int .i64)] .N)) .N))) h
def Oz (e:Θ) (c d:Int) (R:VR) (F:PH):Prop:=∃a,e=mB a/\Li F (od a 4) λb=>Bc (b=0) (R (vi (i64.wrap (c*d))) F) (Bc (b=1) (R (vi (max c d)) F) (R (vi (tK (i64.wrap (c+d)) 2)) F))
theorem qdj {a:Θ} {b:Int} {c:Int} (h:Oz a b c R F):ν 240 #[pj a,(vi b),(vi c)] F R:=Rx.Λ .N h
def OA (d:Γ) (b:Int) (R:VR) (F:PH):Prop:=Nb F (mX d 33) λf F=>Bc (b<2) (R (vi 64) F) (Ls F (Am f 0) λe=>Ix e (i64.wrap (b - 2)) λc=>∃a,F.cell (od c (pc (i64.wrap (b - 2))*3))=mB (vi a)/\R (vi a) F)
theorem qdk {a:Γ} {b:Int} (h:OA a b R F):ν 241 #[oc a,(vi b)] F R:=Rx.Λ .N h
def OB (i:Γ) (a j:Int) (R:VR) (F:PH):Prop:=Nb F (mX i 33) λk F=>Lr F 2 (Am k 0) λl=>Ci 241 #[oc l,(vi a)] F λd F=>Bc (d≠j) (R (sj #[(vi a),(vi a)]) F) (Ls F (Am k 0) λe=>Ix e (i64.wrap (a - 2)) λf=>∃b,F.cell (od (od f (pc (i64.wrap (a - 2))*3)) 1)=mB (vi b)/\Ls F (Am k 0) λg=>Ix g (i64.wrap (a - 2)) λh=>∃c,F.cell (od (od h (pc (i64.wrap (a - 2))*3)) 2)=mB (vi c)/\R (sj #[(vi b),(vi c)]) F)
theorem qdl {a:Γ} {b:Int} {c:Int} (h:OB a b c R F):ν 242 #[oc a,(vi b),(vi c)] F R:=Rx.Λ .N h
def DA (c:Sl) (e:Nat) (R:VR) (F:PH):Prop:=Lr F 3 (Am e 0) λa=>a.size=3/\Nb F (mX a 201) λd F=>Ap 31 #[nV c,nV (Sb d 1)] F λb F=>R (sj #[nV b,(vi (i64.wrap ((b.len:Int)+1)))]) F
def DB (h:Ω) (b:Sl) (g:Nat) (R:VR) (a:Int) (F:PH):Prop:=Bc (a<(b.len:Int)) (Ix b a λd=>Lr F 3 (od d (pc a*3)) λe=>Lr F 3 (Am g 0) λf=>∃c,(∀F,s9 prog (Op.equal 201 (oc e) (oc f)) F c)/\Bb (c) (R (sj #[nV b,(vi (i64.wrap (a+2)))]) F) (h (i64.wrap (a+1)) F)) (DA b g R F)
def OC (a:Sl) (e:Γ) (R:VR) (F:PH):Prop:=Nb F (mX e 201) λd F=>Li F (Am d 1) λf=>Li F (Am d 2) λb=>Bc (f=b) (Li F (Am d 1) λc=>R (sj #[nV a,(vi c)]) F) (Lp 0 F λN g F=>DB N a d R g F)
theorem qdm {a:Sl} {b:Γ} (h:OC a b R F):ν 243 #[nV a,oc b] F R:=Rx.Λ (.qa8 (.qa8 (.J nS [] (.qa8 (.L [(6,.int .i64)] .N)) .N))) h
def IR (x:Θ) (b:Int) (R:VR) (F:PH):Prop:=Bc (b<2) (R (vi b) F) (∃a,x=mB a/\Ls F (od a 1) λi=>Ix i (i64.wrap (b - 2)) λj=>∃e,F.cell (od j (pc (i64.wrap (b - 2))*1))=mB (vi e)/\Bc (0<e) (Ls F (od a 1) λk=>Ix k (i64.wrap (b - 2)) λl=>∃f,F.cell (od l (pc (i64.wrap (b - 2))*1))=mB (vi f)/\R (vi f) F) (Ls F a λm=>Ix m (i64.wrap (b - 2)) λn=>∃c,c.size=3/\F.row (od n (pc (i64.wrap (b - 2))*3)) c/\Nb F (mX (#[vi 0,vi 0,vi 0]) 201) λo F=>aB F (Am o 0) 3 c λF=>Li F (Am o 1) λp=>Ci 244 #[pj (mB a),(vi p)] F λg F=>Li F (Am o 2) λq=>Ci 244 #[pj (mB a),(vi q)] F λh F=>Ls F (od a 2) λr=>Li F (Am o 0) λd=>(#[(vi d),(vi g),(vi h)]:Γ).size=3/\Nb F (mX (#[(vi d),(vi g),(vi h)]:Γ) 201) λy F=>Ap 31 #[nV r,nV (Sb y 1)] F λs F=>F.cell (Am o 0)=mB (vi d)/\rj F (od a 2) (nV s) λF=>Ls F (od a 1) λt=>Ls F (od a 2) λu=>Ix t (i64.wrap (b - 2)) λv=>rj F (od v (pc (i64.wrap (b - 2))*1)) (vi (i64.wrap ((u.len:Int)+1))) λF=>Ls F (od a 2) λw=>R (vi (i64.wrap ((w.len:Int)+1))) F))
theorem OD {a:Θ} {b:Int} (h:IR a b R F):ν 244 #[pj a,(vi b)] F R:=Rx.Λ .N h
def DC (R:VR) (F:PH):Prop:=R (oY nZ) F
def DD (h:Ω) (g:Int) (i j:Nat) (R:VR) (a:Int) (F:PH):Prop:=Bc (a<g) (Ls F (Am i 0) λc=>Ix c a λd=>Lr F 3 (od d (pc a*3)) λe=>Lr F 3 (Am j 0) λf=>∃b,(∀F,s9 prog (Op.equal 201 (oc e) (oc f)) F b)/\Bb (b) (R (oY nS) F) (h (i64.wrap (a+1)) F)) (DC R F)
def OE (v:Γ) (b:Int) (R:VR) (F:PH):Prop:=Nb F (mX v 33) λu F=>Ls F (Am u 0) λw=>Ix w b λe=>Lr F 3 (od e (pc b*3)) λf=>Nb F (mX (#[vi 0,vi 0,vi 0]) 201) λa F=>aB F (Am a 0) 3 f λF=>Li F (Am a 0) λg=>Bc (g<0) (R (oY nS) F) (Li F (Am a 0) λh=>Bc (63<h) (R (oY nS) F) (Li F (Am a 1) λi=>Bc (i<0) (R (oY nS) F) (Li F (Am a 2) λj=>Bc (j<0) (R (oY nS) F) (Li F (Am a 1) λk=>Bc ((i64.wrap (b+2))<=k) (R (oY nS) F) (Li F (Am a 2) λl=>Bc ((i64.wrap (b+2))<=l) (R (oY nS) F) (Li F (Am a 1) λm=>Li F (Am a 2) λn=>Bc (m=n) (R (oY nS) F) (Lr F 2 (Am u 0) λo=>Li F (Am a 1) λp=>Li F (Am a 0) λc=>Ci 241 #[oc o,(vi p)] F λq F=>F.cell (Am a 0)=mB (vi c)/\Bc (q<=c) (R (oY nS) F) (Lr F 2 (Am u 0) λr=>Li F (Am a 2) λs=>Li F (Am a 0) λd=>Ci 241 #[oc r,(vi s)] F λt F=>F.cell (Am a 0)=mB (vi d)/\F.cell (Am a 0)=mB (vi c)/\Bc (t<=d) (R (oY nS) F) (Lp 0 F λN x F=>DD N b u a R x F)))))))))
theorem qdn {a:Γ} {b:Int} (h:OE a b R F):ν 245 #[oc a,(vi b)] F R:=Rx.Λ (.qa8 (.qa8 (.qa8 (.qa8 (.J nS [] (.qa8 (.L [(6,.int .i64)] .N)) .N))))) h
theorem Bt {F:PH} {v w:Γ} {d e:wc} (hd:DV F v d) (he:DV F w e) (hl:yg d.1.length):ν 230 #[oc v,oc w] F λr P=>r=oY (decide (d=e))/\F.le P:=by
 obtain ⟨s,rfl,M⟩:=hd;obtain ⟨t,rfl,J⟩:=he;refine qdi ?_;unfold Oy;intro Q U;refine tP ?_;have L:=ae (mX #[s.v,vi d.2] 33) U;intro b3 X;refine tP ?_;have B:=ae (mX #[t.v,vi e.2] 33) X;have A:F.le _:=λb o h=>B b o (L b o h);have C:=B _ _ (aq F Q (mX #[s.v,vi d.2] 33));have D:=aq (F.set Q (mX #[s.v,vi d.2] 33)) b3 (mX #[t.v,vi e.2] 33);generalize (F.set Q (mX #[s.v,vi d.2] 33)).set b3 (mX #[t.v,vi e.2] 33)=G at*;have M:=M.le A;have J:=J.le A;have E:=M.blen;have K:=J.blen;have cs:G.cell ⟨Q,0,nC⟩=mB s.v:=by rw [av C];rfl
 have ct:G.cell ⟨b3,0,nC⟩=mB t.v:=by rw [av D];rfl
 obtain ⟨x,d2⟩:=d;obtain ⟨y,e2⟩:=e;simp only at hl E K M J C D;refine ⟨d2,by rw [av C];rfl,e2,by rw [av D];rfl,λh=> ?_,λh=> ?_⟩
 ·refine ⟨?_,A⟩;simp [h]
 have h:d2=e2:=by omega
 subst h;refine ⟨s,cs,t,ct,λhn=> ?_,λhn=> ?_⟩
 ·refine ⟨?_,A⟩;have:¬x=y:=λe=>by subst e;omega
  simp [this]
 have H:x.length=y.length:=by omega
 refine ⟨λm i P=>∃k:Nat,i=k/\k<=x.length/\m=x.length - k/\P=G/\x.take k=y.take k,x.length,⟨0,rfl,by omega,rfl,rfl,rfl⟩,?_⟩;rintro m i P ⟨k,rfl,hk,rfl,rfl,g⟩;unfold Dz;refine ⟨s,cs,λY=> ?_,λa1=> ?_⟩
 ·have O:k<x.length:=by omega
  have I:k<y.length:=by omega
  obtain ⟨p,hp,W,_⟩:=VX M (N5 O);obtain ⟨q,hq,Z,_⟩:=VX J (N5 I);refine ⟨s,cs,p,hp,by omega,Y,aX x[k],rfl,by simpa using W,t,ct,q,hq,by omega,by omega,aX y[k],rfl,by simpa using Z,decide (x[k]=y[k]),λF=>IC x[k] y[k] F,λa0=> ?_,λN=> ?_⟩
  ·refine ⟨?_,A⟩;have:¬x=y:=by rintro rfl;simp at a0
   simp [this]
  ·refine ⟨x.length - (k+1),by omega,k+1,ff (by omega),by omega,rfl,rfl,?_⟩;rw [WI O,WI I,g];simp at N;rw [N]
 ·refine ⟨?_,A⟩;have V:k=x.length:=by omega
  rw [V,wV,H,wV] at g;simp [g]
def gJ (t:Tr):Prop:=t.ok/\(aV t).length<=4096
theorem IS {t:Tr} (h:t.ok) (g:W8 t<=4096):gJ t:=⟨h,Wl (oO t) g⟩
theorem nN {t:Tr} (h:gJ t):chk (ph t)=0:=Dt h.1 h.2
theorem FN {t:Tr} (h:gJ t):WU (ph t)=(ph t,0):=by unfold WU;rw [Υ];have:=h.2;simp only [ph,aP];omega
theorem qhX {a b:Tr} (g:gJ a) (h:gJ b):lZ [ph a,ph b]=0:=by simp [lZ,nN g,nN h]
theorem RR {o:V1} {a b:Tr} (g:gJ a) (h:gJ b):W7 o (ph a) (ph b)=WU (ph (ap (λx y _=>o x y) a b (qa6 nS))):=by unfold W7;rw [qhX g h,Υ (by simp),ma g.1,ma h.1]
theorem IT {o:V1} {a b t:Tr} (r:gJ a) (w:gJ b) (g:gJ t) (h:∀c,t.ev c=o (a.ev c) (b.ev c)):W7 o (ph a) (ph b)=(ph t,0):=by have:ap (λx y _=>o x y) a b (qa6 nS)=t:=wE g.1 λc=>h c;rw [RR r w,this,FN g]
theorem Mv {v:Nat} (h:v<64):tR v=(ph (tv v),0):=by unfold tR;rw [Υ (by omega),N4]
theorem mh {a:Tr} (g:gJ a) (c:Int):i8 (ph a) c=a.ev (wP c):=by unfold i8;rw [nN g,Υ (by simp),ma g.1]
theorem DE {a:Tr} (g:gJ a):yg (ph a).1.length:=by have:=g.2;simp only [ph,aP];omega
section
variable {F:PH} {v:Γ} {d:wc} {S:List Tr} {t:Tr}
theorem eY (hd:DV F v d) (G:brs S<+:d.1) (E:inn S t) (M:yg (d.1.length+2)):
  ν 241 #[oc v,vi (num S t)] F λr H=>r=vi t.top/\F.le H:=by
 obtain ⟨A,K⟩:=pP G E M;obtain ⟨s,rfl,D⟩:=hd;refine qdk ?_;unfold OA;intro P C;refine tP ?_;have g:=ae (mX #[s.v,vi d.2] 33) C;refine ⟨λh=> ?_,λh=> ?_⟩
 ·have J:=qi (S:=S) (t:=t) (by omega);cases t with
  |qa6 b=>exact ⟨rfl,g⟩
  |qa7 _ _ _=>cases J
 ·cases t with
  |qa6 b=>have:=cI S b;omega
  |qa7 w l r=>have I:=gi G (ee (cy E rfl) rfl);obtain ⟨a,N,_,L,_⟩:=VX (D.le g) I;have B:=oE A (cU (S:=S) (t:=qa7 w l r) rfl);have O:=cU (S:=S) (t:=qa7 w l r) rfl;refine ⟨s,by simp,a,N,by rw [B];omega,by rw [B,D.blen];omega,_,by rw [B];exact L,rfl,g⟩
theorem oC (hd:DV F v d) (I:brs S<+:d.1) (G:inn S t) (N:yg (d.1.length+2)) {w:Nat} (B:w<64):
  ν 242 #[oc v,vi (num S t),vi w] F λr U=>r=sj #[vi (num S (lo w t)),vi (num S (hi w t))]/\F.le U:=by
 obtain ⟨E,V⟩:=pP I G N;have J:=hd;obtain ⟨s,rfl,K⟩:=hd;refine qdl ?_;unfold OB;intro W H;refine tP ?_;have D:=ae (mX #[s.v,vi d.2] 33) H;refine ⟨_,rfl,ai (aq _ _ _),?_⟩;refine (eY (J.le D) I G N).mono ?_;rintro _ F2 ⟨rfl,A⟩;have M:F2 W=mB _:=A _ _ (aq _ _ _);have g:F.le F2:=λb o h=>A b o (D b o h);refine ⟨_,rfl,λh=> ?_,λh=> ?_⟩
 ·refine ⟨?_,g⟩;cases t with
  |qa6 b=>rfl
  |qa7 C l r=>have:¬C=w:=λe=>h (by simp [Tr.top,e]);simp [lo,hi,this]
 ·cases t with
  |qa6 b=>simp only [Tr.top] at h;omega
  |qa7 C l r=>
   have e:C=w:=by simp only [Tr.top] at h;omega
   subst e;have O:=gi I (ee (cy G rfl) rfl);obtain ⟨a,L,_,_,P,Q⟩:=VX (K.le g) O;have B:=oE E (cU (S:=S) (t:=qa7 C l r) rfl);have X:=cU (S:=S) (t:=qa7 C l r) rfl
   refine ⟨s,by rw [av M];rfl,a,L,by rw [B];omega,by rw [B,K.blen];omega,_,by rw [B];exact P,
    s,by rw [av M];rfl,a,L,by rw [B];omega,by rw [B,K.blen];omega,_,by rw [B];exact Q,?_,g⟩
   simp [lo,hi,br]
end
section
variable {F:PH}
theorem d6 (x:Bool):ν 85 #[oY x] F λr A=>∃w,r=oc w/\DV A w (ph (qa6 x))/\F.le A:=by
 refine qgU ?_;unfold U2;intro D B;refine tP ?_;have C:=ae (mX zD 33) B;have q2:=aq F D (mX zD 33);refine ⟨λh=> ?_,λh=> ?_⟩
 ·subst h;have hd:∀G:PH,DV G #[tU nC 0 0,vi 1] (ph (qa6 nZ)):=λG=>⟨pk,rfl,RdS.nil G 3⟩;exact fY (K:=λg A=>∃w,oc g=oc w/\DV A w (ph (qa6 nZ))/\F.le A) (hd F) q2 rfl ⟨_,rfl,hd _,aC C B⟩
 ·subst h;have hd:∀G:PH,DV G zD (ph (qa6 nS)):=λG=>⟨pk,rfl,RdS.nil G 3⟩;exact fY (K:=λg A=>∃w,oc g=oc w/\DV A w (ph (qa6 nS))/\F.le A) (hd F) q2 rfl ⟨_,rfl,hd _,aC C B⟩
theorem uq (x:Int):ν 87 #[vi x] F λr w=>DRV w r (tR x)/\F.le w:=by
 refine qf6 ?_;unfold U3;intro E B;refine tP ?_;have L:=ae (mX zD 33) B;have q2:=aq F E (mX zD 33);generalize F.set E (mX zD 33)=F2 at*;have bad:x<0\/63<x->rN x E nZ (λr w=>DRV w r (tR x)/\F.le w) F2:=λh=>by
  unfold rN;refine ⟨λ_=> ?_,λH=>by cases H⟩;have e:tR x=(oA,1):=by unfold tR;rw [Χ h]
  rw [e];exact RO q2 rfl L B
 refine ⟨λh=>bad (.inl h),λh=> ?_⟩;by_cases I:63<x
 ·rw [ε I];exact bad (.inr I)
 ·rw [η I];unfold rN;refine ⟨λH=>(by cases H),λ_=>⟨rfl,λg A=> ?_⟩⟩;refine tP ?_;have e:tR x=(ph (tv x.toNat),0):=by unfold tR;rw [Υ (by omega)]
  have M:((x.toNat:Nat):Int)=x:=by omega
  have J:=ae (mX #[vi x,vi 0,vi 1] 201) A;have D:=aq F2 g (mX #[vi x,vi 0,vi 1] 201);have n:g≠E:=(aI A q2).symm;have q2:=J _ _ q2;have O:=L.trans J;rw [e];have hd:∀G:PH,G g=mB (mX #[vi x,vi 0,vi 1] 201)->DV G #[(Sl.mk (mB ⟨g,0,nC⟩) 1 1).v,vi 2] (ph (tv x.toNat)):=λG N=>by rw [RQ,M];exact ⟨_,rfl,RdS.new N rfl rfl (tI _)⟩
  exact fY (K:=λC w=>DRV w (sj #[oc C,vi 0]) (ph (tv x.toNat),0)/\F.le w) (hd _ D) q2 rfl ⟨⟨_,rfl,hd _ (by rw [aw _ _ n];exact D)⟩,aC O B⟩
end
def rnS (S:List Tr) (t:Tr):Nat:=if t∈S then num S t else 0
def Wz (S0 S:List Tr):Ξ:=S0.map λt=>vi (rnS S t:Int)
structure WS (F0 F:PH) (bw g:Nat) (ns:Sl) (S0 S:List Tr):Prop where
 le:F0.le F
 cl:Cl S
 sub:∀x∈S,x∈S0
 nw:F0 bw=nC
 ng:F0 g=nC
 rd:RdS F0 ns 3 (aW (brs S0))
 ex:∃s:Sl,F bw=mB (mX #[ns.v,nV ⟨mB ⟨g,0,nC⟩,S0.length,S0.length⟩,s.v] 339)/\bO F 201 3 s (aW (brs S))/\∀a,s.qa5=mB a->F0 a.block=nC
 hg:F g=mB (mX (Wz S0 S).toArray 3)
theorem IU {g S:List Tr} (H:Cl g) {t:Tr} (w:Cl (S++[t])) (G:t∈g) (C:t.isL=nS):(Wz g S).set (num g t - 2) (vi ((S.length+2:Nat):Int))=Wz g (S++[t]):=by
 apply Wp;intro j;unfold Wz;rw [Yt,yr,yr];have I:=cU (S:=g) C;have hgt:=ee G C;by_cases E:num g t - 2=j
 ·subst E;have A:=(N6.1 hgt).1;rw [Χ rfl,vb,Χ A,hgt];simp only [VF,rnS];rw [Χ (by simp),dO w (k:=S.length) (by simp)]
 ·rw [Υ E];cases hx:g[j]? with
  |none=>rfl
  |some u=>
   simp only [VF,rnS];have B:u≠t:=λe=>by subst e;have:=dO H hx;omega
   have D:u∈S++[t]↔u∈S:=by simp [B]
   by_cases r:u∈S
   ·rw [Χ r,Χ (D.2 r),bM (.inr r)]
   ·rw [Υ r,Υ (λh=>r (D.1 h))]
theorem qhY {H g:Nat} {ns:Sl} {w:List Tr} (h0:Cl w) (hf:yg (w.length+4)):∀(t:Tr),inn w t->∀(F0 F:PH) (S:List Tr),WS F0 F H g ns w S->
  ν 244 #[pj (mB ⟨H,0,nC⟩),vi (num w t)] F λr F'=>r=vi (num (tV t S) t)/\WS F0 F' H g ns w (tV t S):=by
 intro t;induction t with
 |qa6 x=>intro ht F0 F S hs;refine OD ?_;unfold IR;have:=cI w x;exact ⟨λ_=>⟨rfl,hs⟩,λh=>by omega⟩
 |qa7 v l h g6 g2=>
  intro ht F0 F S hs;have f9:=hs;obtain ⟨a9,hS,d2,e5,d1,a0,⟨s,hw,ho,g3⟩,hg⟩:=hs;have a7:=cy ht rfl;obtain ⟨g1,f3⟩:=h0.inn_kids ht;have b0:=h0.inn_ok ht;have f5:=cU (S:=w) (t:=qa7 v l h) rfl;have h5:=dN ht;have hgt:=ee a7 rfl;have h6:=(N6.1 hgt).1;have g5:=oE (n:=num w (qa7 v l h)) (by omega) f5;refine OD ?_;unfold IR;refine ⟨λh=>by omega,λ_=> ?_⟩;rw [g5];have b3:F.cell ⟨H,0,nC⟩=mB ns.v:=by rw [av hw];rfl
  have U:F.cell (od ⟨H,0,nC⟩ 1)=mB (nV ⟨mB ⟨g,0,nC⟩,w.length,w.length⟩):=by rw [aJ,av hw];rfl
  have J:F.cell (od ⟨g,0,nC⟩ (pc ((num w (qa7 v l h) - 2:Nat):Int)*1))=mB (vi (rnS S (qa7 v l h))):=by
   simp only [aJ];rw [av hg];have:(Wz w S)[num w (qa7 v l h) - 2]? =mB (vi (rnS S (qa7 v l h))):=by unfold Wz;rw [yr,hgt];rfl
   simpa using this
  refine ⟨_,rfl,_,U,_,rfl,by omega,by simp only;omega,_,J,λL=> ?_,λL=> ?_⟩
  ·have O:qa7 v l h∈S:=by
    unfold rnS at L;split at L
    ·assumption
    ·omega
   have e:tV (qa7 v l h) S=S:=gn (.inr O);rw [e];have e2:rnS S (qa7 v l h)=num S (qa7 v l h):=by unfold rnS;rw [Χ O]
   rw [e2] at J;exact ⟨_,U,_,rfl,by omega,by simp only;omega,_,J,rfl,f9⟩
  ·have O:qa7 v l h ∉ S:=λO=>L (by
    have:=cU (S:=S) (t:=qa7 v l h) rfl;unfold rnS;rw [Χ O]
    omega)
   obtain ⟨a,C,c6,_⟩:=VX (a0.le a9) (jM hgt);have g4:=a0.blen;rw [aP] at g4;refine ⟨ns,b3,a,C,by omega,by omega,aX (br w (qa7 v l h)),rfl,by simpa using c6,?_⟩;intro P W;refine tP ?_;refine Vd (aq _ _ _) rfl rfl (ij _) ?_;rw [aS];have d3:F0 P=nC:=aU a9 W;have c3:H≠P:=aI W hw;have e7:g≠P:=aI W hg;have e0:WS (F0.set P (mX (aX (br w (qa7 v l h))) 201)) (F.set P (mX (aX (br w (qa7 v l h))) 201)) H g ns w S:=by
    refine ⟨λx ob G=> ?_,hS,d2,by rw [aw _ _ c3];exact e5,by rw [aw _ _ e7];exact d1,a0.le (ae _ d3),⟨s,by rw [aw _ _ c3];exact hw,ho.upto (ae _ W),λa C=> ?_⟩,by rw [aw _ _ e7];exact hg⟩
    ·by_cases c7:x=P
     ·subst c7;rw [aq] at G ⊢;exact G
     ·rw [aw _ _ c7] at G ⊢;exact a9 _ _ G
    ·obtain ⟨b2,A⟩:=ho.elem C;rw [aw _ _ (aI W A)];exact g3 a C
   have a3:F0.le (F0.set P (mX (aX (br w (qa7 v l h))) 201)):=ae _ d3;have Z:(F0.set P (mX (aX (br w (qa7 v l h))) 201)) P=mB (mX (aX (br w (qa7 v l h))) 201):=aq _ _ _;generalize F0.set P (mX (aX (br w (qa7 v l h))) 201)=G0 at*;generalize F.set P (mX (aX (br w (qa7 v l h))) 201)=F1 at*;refine ⟨_,by rw [av (e0.le _ _ Z)];rfl,?_⟩;refine (g6 g1 G0 F1 S e0).mono ?_;rintro _ F2 ⟨rfl,d0⟩;refine ⟨_,rfl,_,by rw [av (d0.le _ _ Z)];rfl,?_⟩;refine (g2 f3 G0 F2 _ d0).mono ?_;rintro _ F3 ⟨rfl,f4⟩;obtain ⟨M,e8,Q,b6,c5,g8,⟨s3,B,N,c2⟩,E⟩:=f4;obtain ⟨g7,c9,X,h3,h2⟩:=bk l S b0.2.2.2.2.1 hS;obtain ⟨h4,e9,Y,e1,h1⟩:=bk h (tV l S) b0.2.2.2.2.2 g7;have e6:num (tV l S) l=num (tV h (tV l S)) l:=by rw [e1,bM c9]
   have b8:tV (qa7 v l h) S=tV h (tV l S)++[qa7 v l h]:=by
    conv=>lhs;unfold tV
    rw [Υ O]
   obtain ⟨a1,_,_⟩:=bk (qa7 v l h) S b0 hS;rw [b8] at a1 ⊢;rw [e6];have d4:inn (tV h (tV l S)) l:=by rw [e1];exact bX c9
   generalize tV h (tV l S)=T at*;refine ⟨_,rfl,s3,by rw [aJ,av B];rfl,_,by rw [av (M _ _ Z)];rfl,rfl,λV b9=> ?_⟩;refine tP ?_;have g9:T.length<=w.length:=cS T w e8.nodup Q;have K:=N.rd.blen;rw [aP] at K;have D:=ae (mX (aX ⟨(v:Int),(num T l:Int),(num T h:Int)⟩) 201) b9;have f8:=aq F3 V (mX (aX ⟨(v:Int),(num T l:Int),(num T h:Int)⟩) 201);show aH prog _ (F3.set V (mX (aX ⟨(v:Int),(num T l:Int),(num T h:Int)⟩) 201)) _;replace M:G0.le (F3.set V (mX (aX ⟨(v:Int),(num T l:Int),(num T h:Int)⟩) 201)):=λx ob G=>D _ _ (M _ _ G);have N:=N.upto D;have B:=D _ _ B;have E:=D _ _ E;generalize F3.set V (mX (aX ⟨(v:Int),(num T l:Int),(num T h:Int)⟩) 201)=F4 at*;refine iz underlying31 Et Eu rfl (by decide) M N c2 (x:=⟨mB ⟨V,0,nC⟩,1,1⟩) (news:=df ⟨(v:Int),(num T l:Int),(num T h:Int)⟩) (RdS.new f8 rfl rfl (tI _))
    (λx G=>ja [⟨(v:Int),(num T l:Int),(num T h:Int)⟩] x (by simpa [aW] using G)) (by simp only [K];omega) (by simp only [K];omega) ?_
   intro I F5 a4 b4 a6 e4 c8 _;have new:∀a,s3.qa5=mB a->a.block≠H:=λa C e=>by obtain ⟨b2,A⟩:=N.elem C;rw [e,B] at A;simp at A
   have neg:∀a,s3.qa5=mB a->a.block≠g:=λa C e=>by obtain ⟨b2,A⟩:=N.elem C;rw [e,E] at A;simp at A
   have B:=c8 _ _ B (λ⟨a,C,e⟩=>new a C e);have E:=c8 _ _ E (λ⟨a,C,e⟩=>neg a C e);have a8:H≠g:=λe=>by rw [e,E] at B;simp at B
   have a5:∀a,I.qa5=mB a->a.block≠H/\a.block≠g:=λa C=>by
    obtain ⟨b2,A⟩:=b4.elem C;refine ⟨λe=> ?_,λe=> ?_⟩
    ·rw [e,B] at A;simp at A
    ·rw [e,E] at A;simp at A
   refine ⟨I,rfl,by rw [av (a4 _ _ Z)];rfl,?_⟩;refine sq (b:=H) (o:=2) (by simp) B (by simp) ?_;rw [show (#[ns.v,nV ⟨mB ⟨g,0,nC⟩,w.length,w.length⟩,s3.v].setIfInBounds 2 I.v:Γ)= #[ns.v,nV ⟨mB ⟨g,0,nC⟩,w.length,w.length⟩,I.v] from rfl];have c4:G0.le (F5.set H (mX #[ns.v,nV ⟨mB ⟨g,0,nC⟩,w.length,w.length⟩,I.v] 339)):=aC a4 b6;have a2:=aq F5 H (mX #[ns.v,nV ⟨mB ⟨g,0,nC⟩,w.length,w.length⟩,I.v] 339);have f6:(F5.set H (mX #[ns.v,nV ⟨mB ⟨g,0,nC⟩,w.length,w.length⟩,I.v] 339)) g=mB (mX (Wz w T).toArray 3):=by rw [aw _ _ a8.symm];exact E
   have f1:bO (F5.set H (mX #[ns.v,nV ⟨mB ⟨g,0,nC⟩,w.length,w.length⟩,I.v] 339)) 201 3 I _:=b4.keep λa C=>aw _ _ (a5 a C).1;generalize F5.set H (mX #[ns.v,nV ⟨mB ⟨g,0,nC⟩,w.length,w.length⟩,I.v] 339)=F6 at*;have b1:I.len=T.length+1:=by rw [a6,K]
   have b7:i64.wrap ((I.len:Int)+1)=((T.length+2:Nat):Int):=by rw [b1,aL (by omega)];omega
   refine ⟨_,by rw [aJ,av a2];rfl,I,by rw [aJ,av a2];rfl,_,rfl,by omega,by simp only;omega,?_⟩;rw [b7];refine sq (b:=g) (o:=num w (qa7 v l h) - 2) (by simp) f6 (by simp [Wz];omega) ?_;rw [List.setIfInBounds_toArray,IU h0 a1 a7 rfl];refine ⟨I,by rw [aJ,av ((aw _ _ a8).trans a2)];rfl,?_⟩;dsimp only;rw [b7];refine ⟨by rw [dO a1 (k:=T.length) (by simp)],λx ob G=>aC c4 c5 _ _ (a3 _ _ G),a1,λx G=> ?_,e5,d1,a0,⟨I,(aw _ _ a8).trans a2,?_,λa C=>aU a3 (e4 a C)⟩,aq _ _ _⟩
   ·rcases vl.1 G with G|G
    ·exact Q x G
    ·rw [wa.1 G];exact a7
   ·have e3:aW (brs (T++[qa7 v l h]))=aW (brs T)++df ⟨(v:Int),(num T l:Int),(num T h:Int)⟩:=by rw [eg e8 d4 e9,d7];simp [aW]
    rw [e3];exact f1.keep λa C=>aw _ _ (a5 a C).2
section
variable {F:PH} {ns:Sl} {S0:List Tr} {t:Tr}
theorem kv (Y:RdS F ns 3 (aW (brs S0))) (h0:Cl S0) (ht:inn S0 t) (hf:yg (S0.length+4)):
  ν 216 #[ns.v,vi (num S0 t)] F λr C=>∃v,r=oc v/\DV C v (ph t)/\F.le C:=by
 have E:=Y.blen;rw [aP] at E;refine qdg ?_;unfold Ow;intro L H;refine tP ?_;have W:=ae (mX zD 33) H;have q4:=aq F L (mX zD 33);generalize F.set L (mX zD 33)=I at*;refine bQ underlying76 Yk Ym rfl (by omega) (Vr _) (by omega) (by omega) ?_;intro g O;rw [ZS _ rfl,N4,E];refine ⟨_,rfl,?_⟩;have e0:List.replicate S0.length (vi 0)=Wz S0 []:=by
  apply Wp;intro j;unfold Wz;rw [List.getElem?_replicate,yr];by_cases N:j<S0.length
  ·rw [Χ N,N5 N];simp [rnS]
  ·rw [Υ N,VP (by omega)];rfl
 rw [e0];have Q:=ae (mX (Wz S0 []).toArray 3) O;have Z:=aq I g (mX (Wz S0 []).toArray 3);have a2:=Q _ _ q4;have a3:L≠g:=aI O q4;generalize hG:I.set g (mX (Wz S0 []).toArray 3)=Fg at*;intro w h;refine tP ?_;have a0:g≠w:=aI h Z;have P:I w=nC:=aU Q h;have X:=ae (mX #[ns.v,nV ⟨mB ⟨g,0,nC⟩,S0.length,S0.length⟩,tU nC 0 0] 339) h;have hs:WS I (Fg.set w (mX #[ns.v,nV ⟨mB ⟨g,0,nC⟩,S0.length,S0.length⟩,tU nC 0 0] 339)) w g ns S0 []:=
  ⟨Q.trans X,.nil,λx hx=>(by cases hx),P,O,Y.le W,⟨pk,aq _ _ _,.inl ⟨rfl,rfl⟩,λa B=>by cases B⟩,X _ _ Z⟩
 refine (qhY h0 hf t ht I _ [] hs).mono ?_;rintro _ G ⟨rfl,M⟩;have ev:tV t []=aV t:=rfl;rw [ev] at*;obtain ⟨D,a4,_,_,_,_,⟨s,gw,go,gs⟩,_⟩:=M;refine ⟨_,rfl,s,by rw [av gw];rfl,?_⟩;have V:=D _ _ q4;have U:∀a,s.qa5=mB a->a.block≠L:=λa B e=>by obtain ⟨a1,A⟩:=go.elem B;rw [e,V] at A;simp at A
 have hd:DV (dz G L) #[s.v,vi (num (aV t) t)] (ph t):=⟨s,rfl,(go.keep λa B=>eQ (U a B)).rd⟩;exact fY (K:=λJ C=>∃v,oc J=oc v/\DV C v (ph t)/\F.le C) hd V rfl ⟨_,rfl,hd.le (aC (Ds _ _) (Bp _ _)),aC (W.trans D) H⟩
end
theorem bO.keepK {F G:PH} {e size:Nat} {s:Sl} {vs:Ξ} {r:Nat->Prop} (h:bO F e size s vs) (A:dh r F G) (D:∀a,s.qa5=mB a->¬r a.block):bO G e size s vs:=by
 rcases h with h|⟨b,g,w,B,C⟩
 ·exact .inl h
 ·exact .inr ⟨b,g,w,A _ _ B (D _ w),C⟩
section
variable {F0 F:PH} {l:Sl} {S:List Tr}
theorem qhZ (h:F0.le F) (C:bO F 201 3 l (aW (brs S))) (hb:∀a,l.qa5=mB a->F0 a.block=nC) (N:Cl S) {v:Nat} {A B:Tr} (U:inn S A) (hB:inn S B) (hf:yg (S.length+4)):
  ν 243 #[l.v,oc (aX ⟨(v:Int),(num S A:Int),(num S B:Int)⟩)] F λr G=>∃l',r=sj #[l'.v,vi (num (eX S (mk v A B)) (mk v A B))]/\F0.le G/\bO G 201 3 l' (aW (brs (eX S (mk v A B))))/\
   (∀a,l'.qa5=mB a->F0 a.block=nC)/\dh (λb=>∃a,l.qa5=mB a/\a.block=b) F G:=by
 have g:=C.rd.blen;rw [aP] at g;refine qdm ?_;unfold OC;intro b3 Q;refine tP ?_;have X:=ae (mX (aX ⟨(v:Int),(num S A:Int),(num S B:Int)⟩) 201) Q;have q3:=aq F b3 (mX (aX ⟨(v:Int),(num S A:Int),(num S B:Int)⟩) 201);have n3:∀a,l.qa5=mB a->a.block≠b3:=λa ha=>by obtain ⟨b5,V⟩:=C.elem ha;exact aI Q V
 have C:=C.upto X;have h:=h.trans X;generalize F.set b3 (mX (aX ⟨(v:Int),(num S A:Int),(num S B:Int)⟩) 201)=F1 at*;refine ⟨_,by rw [av q3];rfl,_,by rw [av q3];rfl,λhe=> ?_,λhe=> ?_⟩
 ·obtain rfl:=cK U hB (by have:(num S A:Int)=num S B:=he;omega);have e:mk v A A=A:=by simp [mk]
  have Y:eX S A=S:=by unfold eX;rw [Χ U]
  rw [e,Y];exact ⟨_,by rw [av q3];rfl,l,rfl,h,C,hb,dh.of_le X⟩
 have a8:A≠B:=λe=>he (by rw [e]);have a6:mk v A B=qa7 v A B:=by simp [mk,a8]
 rw [a6];have a4:br S (qa7 v A B)=⟨(v:Int),(num S A:Int),(num S B:Int)⟩:=rfl;refine ⟨λm i G=>∃k:Nat,i=k/\k<=S.length/\m=S.length - k/\G=F1/\br S (qa7 v A B) ∉ (brs S).take k,S.length,⟨0,rfl,by omega,rfl,rfl,by simp⟩,?_⟩;rintro m i G ⟨k,rfl,hk,rfl,rfl,D⟩;unfold DB;refine ⟨λa9=> ?_,λb6=> ?_⟩
 ·have K:k<S.length:=by omega
  have P:k<(brs S).length:=by rw [aP];exact K
  obtain ⟨p,hp,a5,_⟩:=VX C.rd (N5 P);refine ⟨p,hp,by omega,a9,aX (brs S)[k],rfl,by simpa using a5,aX (br S (qa7 v A B)),rfl,ai q3,decide ((brs S)[k]=br S (qa7 v A B)),λF=>IC (brs S)[k] (br S (qa7 v A B)) F,λb4=> ?_,λZ=> ?_⟩
  ·have E:(brs S)[k]=br S (qa7 v A B):=ζ b4;have I:qa7 v A B∈S:=(ig N U hB).1 (by rw [<- E];exact Vw _);have b1:S[k]=qa7 v A B:=J4 N (Vw K) I (by rw [<- E];simp [brs]);have Y:eX S (qa7 v A B)=S:=by unfold eX;rw [Χ (.inr I)]
   have hn:=dO N (k:=k) (t:=qa7 v A B) (by rw [N5 K,b1]);have hw:i64.wrap ((k:Int)+2)=((k+2:Nat):Int):=by rw [aL (by omega)];omega
   rw [Y,hn,hw];exact ⟨l,rfl,h,C,hb,dh.of_le X⟩
  ·refine ⟨S.length - (k+1),by omega,k+1,ff (by omega),by omega,rfl,rfl,?_⟩;rw [WI P];intro w;rcases vl.1 w with w|w
   ·exact D w
   ·rw [wa] at w;rw [w] at Z;simp at Z
 ·have a3:k=S.length:=by omega
  have I:qa7 v A B ∉ S:=λI=>D (by
   rw [a3,yY (by rw [aP];omega)]
   exact (ig N U hB).2 I)
  have Y:eX S (qa7 v A B)=S++[qa7 v A B]:=by
   unfold eX;rw [Υ];rintro (w|w)
   ·cases w
   ·exact I w
  rw [Y];unfold DA;refine ⟨aX (br S (qa7 v A B)),rfl,ai q3,rfl,λH W=> ?_⟩;refine tP ?_;have L:=ae (mX (aX (br S (qa7 v A B))) 201) W;have b0:=aq G H (mX (aX (br S (qa7 v A B))) 201);have a2:=C.upto L;have O:=h.trans L;generalize G.set H (mX (aX (br S (qa7 v A B))) 201)=F2 at*;refine iz underlying31 Et Eu rfl (by decide) O a2 hb (x:=⟨mB ⟨H,0,nC⟩,1,1⟩) (news:=df (br S (qa7 v A B))) (RdS.new b0 rfl rfl (tI _)) (λx hx=>ja [br S (qa7 v A B)] x (by simpa [aW] using hx)) (by simp only [g];omega) (by simp only [g];omega) ?_;intro s' F3 M a7 J a1 b2 _;have hw:i64.wrap ((s'.len:Int)+1)=((S.length+2:Nat):Int):=by rw [J,g,aL (by simp only;omega) (by simp only;omega)];simp only;omega
  have e3:aW (brs (S++[qa7 v A B]))=aW (brs S)++df (br S (qa7 v A B)):=by rw [eg N U hB,<- a4,d7];simp [aW]
  refine ⟨s',rfl,s',?_,M,by rw [e3];exact a7,a1,λx ob hx hn=>b2 _ _ (L _ _ (X _ _ hx)) hn⟩;rw [hw];have a0:num (S++[qa7 v A B]) (qa7 v A B)=S.length+2:=by simp only [num,List.idxOf_append,Υ I];simp
  rw [a0]
end
structure RP where
 bp:Nat
 sa:Sl
 sb:Sl
 opc:Int
 o:V1
 da:wc
 db:wc
 A:List Tr
 B:List Tr
def RP.q (p:RP):AP:=⟨0,0,0,0,0,0,0,0,.nilFunc,λx y _=>p.o x y,lY p.da p.db oA,lY p.A p.B []⟩
def RP.in2 (p:RP) (t:Nat->Tr):Prop:=inn p.A (t 0)/\inn p.B (t 1)/\t 2=qa6 nS
theorem RP.in2_in {p:RP} {t:Nat->Tr} (h:p.in2 t):p.q.inK t:=⟨h.1,h.2.1,by rw [h.2.2];exact fQ _ _⟩
def RP.obj (p:RP) (nodes az:Sl):Γ:= #[p.sa.v,vi p.da.2,p.sb.v,vi p.db.2,vi p.opc,nodes.v,az.v]
structure RF (p:RP):Prop where
 cA:Cl p.A
 cB:Cl p.B
 pA:brs p.A<+:p.da.1
 pB:brs p.B<+:p.db.1
 fA:yg (p.da.1.length+2)
 fB:yg (p.db.1.length+2)
 fP:yg ((p.A.length+2)*(p.B.length+2)+2)
 op:(p.opc=0/\p.o=bV)\/(p.opc=1/\p.o=z9)\/(p.opc=2/\p.o=kW)
theorem RF.af {p:RP} (h:RF p):AF p.q:=by
 refine ⟨λi hi=> ?_,λi hi=> ?_,λi hi=> ?_⟩
 ·match i,hi with
  |0,_=>exact h.cA
  |1,_=>exact h.cB
  |2,_=>exact .nil
 ·match i,hi with
  |0,_=>exact h.pA
  |1,_=>exact h.pB
  |2,_=>exact YX _
 ·match i,hi with
  |0,_=>exact h.fA
  |1,_=>exact h.fB
  |2,_=>simp [RP.q,lY]
structure RE (F0:PH) (p:RP):Prop where
 a:RdS F0 p.sa 3 (aW p.da.1)
 b:RdS F0 p.sb 3 (aW p.db.1)
theorem RE.le {F0 G:PH} {p:RP} (h:RE F0 p) (g:F0.le G):RE G p:=⟨h.a.le g,h.b.le g⟩
structure Ent (p:RP) (e:Br) (u:Nat->Tr):Prop where
 i:p.in2 u
 x:e.v=(num p.A (u 0):Int)
 y:e.l=(num p.B (u 1):Int)
structure RU (p:RP) (S:List Tr) (Ls:List Br):Prop where
 all:∀e∈Ls,∃u,Ent p e u/\inn S (p.q.res u)/\e.h=(num S (p.q.res u):Int)
 nd:(Ls.map λe=>(e.v,e.l)).Nodup
def IV (p:RP) (Ls Ls':List Br) (n:Nat):Prop:=∀e∈Ls',e∈Ls\/∃u,Ent p e u/\Vx u<=n
theorem Bu {p:RP} (C:RF p) {e:Br} {u w:Nat->Tr} (h:Ent p e u) (g:Ent p e w):p.q.res u=p.q.res w/\Vx u=Vx w:=by
 have A:u 0=w 0:=cK h.i.1 g.i.1 (by have:=h.x;have:=g.x;omega);have B:u 1=w 1:=cK h.i.2.1 g.i.2.1 (by have:=h.y;have:=g.y;omega);have r:u 2=w 2:=by rw [h.i.2.2,g.i.2.2]
 unfold AP.res Vx;rw [A,B,r];exact ⟨rfl,rfl⟩
theorem RU.length {p:RP} {S:List Tr} {Ls:List Br} (h:RU p S Ls):Ls.length<=(p.A.length+2)*(p.B.length+2):=by
 have w:((List.range (p.A.length+2)).flatMap λ(i:Nat)=>(List.range (p.B.length+2)).map λ(j:Nat)=>((i:Int),(j:Int))).length=(p.A.length+2)*(p.B.length+2):=by simp only [List.length_flatMap,vb,Wq,List.map_const',List.sum_replicate_nat]
 have:=cS (Ls.map λe=>(e.v,e.l)) ((List.range (p.A.length+2)).flatMap λ(i:Nat)=>(List.range (p.B.length+2)).map λ(j:Nat)=>((i:Int),(j:Int))) h.nd λx r=>by obtain ⟨e,C,rfl⟩:=xR.1 r;obtain ⟨u,g,_⟩:=h.all e C;have D:=dN g.i.1;have E:=dN g.i.2.1;exact XX.2 ⟨num p.A (u 0),Wy.2 (by omega),xR.2 ⟨num p.B (u 1),Wy.2 (by omega),by rw [g.x,g.y]⟩⟩
 rw [w,vb] at this;exact this
structure RS (F0 F:PH) (p:RP) (S:List Tr) (Ls:List Br):Prop where
 le:F0.le F
 nb:F0 p.bp=nC
 cl:Cl S
 ok:RU p S Ls
 ex:∃nodes az:Sl,F p.bp=mB (mX (p.obj nodes az) 320)/\bO F 201 3 nodes (aW (brs S))/\(∀a,nodes.qa5=mB a->F0 a.block=nC)/\bO F 313 3 az (aW Ls)/\(∀a,az.qa5=mB a->F0 a.block=nC)
theorem qhG {F:PH} {p:RP} {w az:Sl} (B:RF p) (D:F p.bp=mB (mX (p.obj w az) 320)) (x y:Bool):
  ν 240 #[pj (mB ⟨p.bp,0,nC⟩),vi (if x then 1 else 0:Nat),vi (if y then 1 else 0:Nat)] F λr C=>r=vi (if p.o x y then 1 else 0:Nat)/\C=F:=by
 refine qdj ?_;unfold Oz;refine ⟨_,rfl,p.opc,by rw [aJ,av D];rfl,λh=> ?_,λh=>⟨λE=> ?_,λE=> ?_⟩⟩
 ·have A:p.o=bV:=by rcases B.op with g|g|g<;>first|exact g.2|(exfalso;omega)
  rw [A];cases x<;>cases y<;>exact ⟨congrArg (Value.int .i64) (by decide),rfl⟩
 ·have A:p.o=z9:=by rcases B.op with g|g|g<;>first|exact g.2|(exfalso;omega)
  rw [A];cases x<;>cases y<;>exact ⟨congrArg (Value.int .i64) (by decide),rfl⟩
 ·have A:p.o=kW:=by rcases B.op with g|g|g<;>first|exact g.2|(exfalso;omega)
  rw [A];cases x<;>cases y<;>exact ⟨congrArg (Value.int .i64) (by decide),rfl⟩
def ZX (p:RP) (t:Nat->Tr):Prop:=∀(F0 F:PH) (S:List Tr) (Ls:List Br),RE F0 p->RS F0 F p S Ls->yg ((tV (p.q.res t) S).length+4)->
 ν 215 #[pj (mB ⟨p.bp,0,nC⟩),vi (num p.A (t 0)),vi (num p.B (t 1))] F λr F'=>r=vi (num (tV (p.q.res t) S) (p.q.res t))/\∃Ls',RS F0 F' p (tV (p.q.res t) S) Ls'/\IV p Ls Ls' (Vx t)
section
variable {p:RP} {t:Nat->Tr} {F0 F:PH} {S:List Tr} {Ls:List Br}
theorem RV (M:RF p) (Q:p.in2 t) (ih:∀u,p.in2 u->Vx u<Vx t->ZX p u) (he:RE F0 p) (hs:RS F0 F p S Ls) (k5:yg ((tV (p.q.res t) S).length+4)) (hn:¬((t 0).isL=nZ/\(t 1).isL=nZ))
  (h8:∀e∈Ls,¬(e.v=(num p.A (t 0):Int)/\e.l=(num p.B (t 1):Int))) {R:ξ->Ψ}
  (hR:∀F' h9,RS F0 F' p (tV (p.q.res t) S) h9->IV p Ls h9 (Vx t)->R (vi (num (tV (p.q.res t) S) (p.q.res t))) F'):
  wb (mB ⟨p.bp,0,nC⟩) (num p.A (t 0)) (num p.B (t 1)) R F:=by
 have hv:aY (t 0) (t 1) (t 2)<64:=by
  have k0:=λhl=>sD (M.cA.inn_ok Q.1) hl;have k1:=λhl=>sD (M.cB.inn_ok Q.2.1) hl;unfold aY;cases e0:(t 0).isL with
  |false=>have:=k0 e0;omega
  |true=>
   cases e1:(t 1).isL with
   |false=>have:=k1 e1;omega
   |true=>exact absurd ⟨e0,e1⟩ hn
 have D:=UW M.af (RP.in2_in Q) hv;have e5:min ((t 0).top:Int) ((t 1).top:Int)=((aY (t 0) (t 1) (t 2):Nat):Int):=by
  have h2:(t 2).top=64:=by rw [Q.2.2];rfl
  unfold aY at hv ⊢;rw [h2] at hv ⊢;omega
 have h5:∀v,lo v (t 2)=qa6 nS:=λv=>by rw [Q.2.2];rfl
 have g3:∀v,hi v (t 2)=qa6 nS:=λv=>by rw [Q.2.2];rfl
 obtain ⟨O,b1,a0,f1,a5,az,hb,e4,e8,f4,h1⟩:=hs;have k8:RS F0 F p S Ls:=⟨O,b1,a0,f1,a5,az,hb,e4,e8,f4,h1⟩;unfold wb;have dA:∀{G:PH},F0.le G->DV G #[p.sa.v,vi p.da.2] p.da:=λhl=>⟨p.sa,rfl,(he.le hl).a⟩;have dB:∀{G:PH},F0.le G->DV G #[p.sb.v,vi p.db.2] p.db:=λhl=>⟨p.sb,rfl,(he.le hl).b⟩;have b6:∀{G:PH} {n s:Sl},G p.bp=mB (mX (p.obj n s) 320)->G.row ⟨p.bp,0,nC⟩ #[p.sa.v,vi p.da.2]:=λ{G n s} hG i hi=>by
  simp only [aJ];rw [av hG]
  match i,hi with
  |0,_=>rfl
  |1,_=>rfl
 have W:∀{G:PH} {n s:Sl},G p.bp=mB (mX (p.obj n s) 320)->G.row (od ⟨p.bp,0,nC⟩ 2) #[p.sb.v,vi p.db.2]:=λ{G n s} hG i hi=>by
  simp only [aJ];rw [av hG]
  match i,hi with
  |0,_=>rfl
  |1,_=>rfl
 refine ⟨_,rfl,_,rfl,b6 hb,_,rfl,W hb,?_⟩;refine (eY (dA O) M.pA Q.1 M.fA).mono ?_;rintro _ F1 ⟨rfl,l1⟩;have j2:=l1 _ _ hb;refine ⟨_,rfl,W j2,?_⟩;refine (eY (dB (O.trans l1)) M.pB Q.2.1 M.fB).mono ?_;rintro _ F2 ⟨rfl,lx⟩;have l2:=l1.trans lx;have i5:=l2 _ _ hb;refine ⟨_,rfl,_,rfl,b6 i5,?_⟩;rw [e5];generalize aY (t 0) (t 1) (t 2)=v at*;refine (oC (dA (O.trans l2)) M.pA Q.1 M.fA D.lt).mono ?_;rintro _ F3 ⟨rfl,j3⟩;have l3:=l2.trans j3;have j8:=l3 _ _ hb;refine ⟨_,_,rfl,_,rfl,W j8,?_⟩;refine (oC (dB (O.trans l3)) M.pB Q.2.1 M.fB D.lt).mono ?_;rintro _ F4 ⟨rfl,j1⟩;have l4:=l3.trans j1;refine ⟨_,_,rfl,?_⟩;have i3:RS F0 F4 p S Ls:=⟨O.trans l4,b1,a0,f1,a5,az,l4 _ _ hb,e4.upto l4,e8,f4.upto l4,h1⟩;have kl:p.in2 (λi=>lo v (t i)):=⟨D.il.1,D.il.2.1,h5 v⟩;have kh:p.in2 (λi=>hi v (t i)):=⟨D.ih.1,D.ih.2.1,g3 v⟩;obtain ⟨a1,a2,X,a3,a4⟩:=bk (p.q.res λi=>lo v (t i)) S D.ol a0;obtain ⟨c1,c2,Y,c3,c4⟩:=bk (p.q.res λi=>hi v (t i)) (tV (p.q.res λi=>lo v (t i)) S) D.oh a1;have J:=rJ a0 (v:=v) (l:=p.q.res λi=>lo v (t i)) (h:=p.q.res λi=>hi v (t i)) ⟨D.lt,D.tl,D.th,D.ol,D.oh⟩;rw [<- D.res] at J;have g1:=yI (p.q.res λi=>hi v (t i)) (tV (p.q.res λi=>lo v (t i)) S);have g2:=Dr (tV (p.q.res λi=>hi v (t i)) (tV (p.q.res λi=>lo v (t i)) S)) (p.q.res t);rw [J] at g2;refine (ih _ kl D.sl F0 F4 S Ls he i3 (by omega)).mono ?_;rintro _ F5 ⟨rfl,L1,j5,i1⟩;refine ⟨_,rfl,?_⟩;refine (ih _ kh D.sh F0 F5 _ L1 he j5 (by omega)).mono ?_;rintro _ F6 ⟨rfl,L2,k4,f6⟩;obtain ⟨f3,_,e2,a9,E,g,d3,a8,f8,b8,h6⟩:=k4;refine ⟨_,rfl,E,by rw [aJ,av d3];rfl,?_⟩;have k3:num (tV (p.q.res λi=>lo v (t i)) S) (p.q.res λi=>lo v (t i))=num (tV (p.q.res λi=>hi v (t i)) (tV (p.q.res λi=>lo v (t i)) S)) (p.q.res λi=>lo v (t i)):=by rw [c3,bM a2]
 rw [k3];have j0:inn (tV (p.q.res λi=>hi v (t i)) (tV (p.q.res λi=>lo v (t i)) S)) (p.q.res λi=>lo v (t i)):=by rw [c3];exact bX a2
 refine (qhZ f3 a8 f8 e2 (v:=v) j0 c2 (by omega)).mono ?_;rintro _ F7 ⟨K,rfl,i0,a6,e6,h0⟩;rw [<- D.res,J] at a6 ⊢;have j6:∀a,E.qa5=mB a->a.block≠p.bp:=λa H e=>by obtain ⟨b0,r⟩:=a8.elem H;rw [e,d3] at r;simp at r
 have k2:∀a,g.qa5=mB a->¬∃a',E.qa5=mB a'/\a'.block=a.block:=λa H ⟨a',d4,e⟩=>by obtain ⟨b0,r⟩:=a8.elem d4;obtain ⟨g8,I⟩:=b8.elem H;rw [e,I] at r;simp at r
 have c6:=h0 _ _ d3 (λ⟨a,H,e⟩=>j6 a H e);have b9:=b8.keepK h0 k2;refine ⟨_,_,rfl,?_⟩;refine sq (b:=p.bp) (o:=5) (by simp) c6 (by simp [RP.obj]) ?_;rw [show ((p.obj E g).setIfInBounds 5 K.v:Γ)=p.obj K g from rfl];have g9:∀a,K.qa5=mB a->a.block≠p.bp:=λa H e=>by obtain ⟨b0,r⟩:=a6.elem H;rw [e,c6] at r;simp at r
 have g4:∀a,g.qa5=mB a->a.block≠p.bp:=λa H e=>by obtain ⟨b0,r⟩:=b9.elem H;rw [e,c6] at r;simp at r
 have e3:F0.le (F7.set p.bp (mX (p.obj K g) 320)):=aC i0 b1;have g6:=aq F7 p.bp (mX (p.obj K g) 320);have e7:bO (F7.set p.bp (mX (p.obj K g) 320)) 201 3 K (aW (brs (tV (p.q.res t) S))):=a6.keep λa H=>aw _ _ (g9 a H);have g7:bO (F7.set p.bp (mX (p.obj K g) 320)) 313 3 g (aW L2):=b9.keep λa H=>aw _ _ (g4 a H);generalize F7.set p.bp (mX (p.obj K g) 320)=F8 at*;refine ⟨g,by rw [aJ,av g6];rfl,rfl,λL d0=> ?_⟩;refine tP ?_;generalize hN:num (tV (p.q.res t) S) (p.q.res t)=N at*;have b3:=ae (mX (aX ⟨(num p.A (t 0):Int),(num p.B (t 1):Int),(N:Int)⟩) 313) d0;have h4:=aq F8 L (mX (aX ⟨(num p.A (t 0):Int),(num p.B (t 1):Int),(N:Int)⟩) 313);show aH prog _ (F8.set L (mX (aX ⟨(num p.A (t 0):Int),(num p.B (t 1):Int),(N:Int)⟩) 313)) _;have h3:=e3.trans b3;have j4:=b3 _ _ g6;have b7:=e7.upto b3;have a7:=g7.upto b3;generalize F8.set L (mX (aX ⟨(num p.A (t 0):Int),(num p.B (t 1):Int),(N:Int)⟩) 313)=F9 at*;have k6:=a9.length;have k7:=M.fP;have U:=a7.rd.blen;have PP:vV prog 313=mB (3,24):=by kernel_rfl
 have PR:bv prog 313=mB (oc #[.int .i64 0,.int .i64 0,.int .i64 0]):=by kernel_rfl
 refine iz underlying318 PP PR rfl (by decide) h3 a7 h6 (x:=⟨mB ⟨L,0,nC⟩,1,1⟩) (news:=df ⟨(num p.A (t 0):Int),(num p.B (t 1):Int),(N:Int)⟩) (RdS.new h4 rfl rfl (tI _))
  (λx hx=>ja [⟨(num p.A (t 0):Int),(num p.B (t 1):Int),(N:Int)⟩] x (by simpa [aW] using hx)) (by simp only [U];omega) (by simp only [U];omega) ?_
 intro P j7 c7 V i2 d1 b5 _;have f9:∀a,g.qa5=mB a->a.block≠p.bp:=g4;have b4:=b5 _ _ j4 (λ⟨a,H,e⟩=>f9 a H e);have c9:=b7.keepK b5 λa H ⟨a',d4,e⟩=>by obtain ⟨b0,r⟩:=b7.elem H;obtain ⟨g8,I⟩:=a7.elem d4;rw [e,r] at I;simp at I
 refine ⟨P,rfl,?_⟩;refine sq (b:=p.bp) (o:=6) (by simp) b4 (by simp [RP.obj]) ?_;rw [show ((p.obj K g).setIfInBounds 6 P.v:Γ)=p.obj K P from rfl];have e9:∀a,K.qa5=mB a->a.block≠p.bp:=g9;have c8:∀a,P.qa5=mB a->a.block≠p.bp:=λa H e=>by obtain ⟨b0,r⟩:=V.elem H;rw [e,b4] at r;simp at r
 have h7:(p.q.res t).ok:=by rw [D.res];exact Es D.lt D.tl D.th D.ol D.oh
 obtain ⟨v1,v2,Z,v3,v4⟩:=bk (p.q.res t) S h7 a0;have f5:Ent p ⟨(num p.A (t 0):Int),(num p.B (t 1):Int),(N:Int)⟩ t:=⟨Q,rfl,rfl⟩;have b2:∀e∈L2,(e.v,e.l)≠((num p.A (t 0):Int),(num p.B (t 1):Int)):=by
  intro e C hk;simp only [YD] at hk;rcases f6 e C with h|⟨u,hu,d2⟩
  ·rcases i1 e h with h|⟨u,hu,d2⟩
   ·exact h8 e h hk
   ·have:=(Bu M hu (w:=t) ⟨Q,hk.1,hk.2⟩).2;have:=D.sl;omega
  ·have:=(Bu M hu (w:=t) ⟨Q,hk.1,hk.2⟩).2;have:=D.sh;omega
 have g5:=hR (j7.set p.bp (mX (p.obj K P) 320)) (L2++[⟨(num p.A (t 0):Int),(num p.B (t 1):Int),(N:Int)⟩])
  ⟨aC c7 b1,b1,v1,⟨λe C=> ?_,?_⟩,K,P,aq _ _ _,c9.keep λa H=>aw _ _ (e9 a H),e6,by rw [d7];simpa [aW] using V.keep λa H=>aw _ _ (c8 a H),d1⟩ ?_
 ·exact g5
 ·rcases vl.1 C with C|C
  ·obtain ⟨u,hu,c5,i4⟩:=a9.all e C;refine ⟨u,hu,?_,?_⟩
   ·rw [<- J];unfold eX;split
    ·exact c5
    ·exact bX c5
   ·rw [i4,<- J];unfold eX;split
    ·rfl
    ·rw [bM c5]
  ·rw [wa.1 C];exact ⟨t,f5,v2,by rw [hN]⟩
 ·rw [yO,VC];refine ⟨a9.nd,by simp,?_⟩;intro x hx y hy;obtain ⟨e,C,rfl⟩:=xR.1 hx;simp only [xV,List.map_nil,wa] at hy;rw [hy];exact b2 e C
 ·intro e C;rcases vl.1 C with C|C
  ·rcases f6 e C with h|⟨u,hu,d2⟩
   ·rcases i1 e h with h|⟨u,hu,d2⟩
    ·exact .inl h
    ·exact .inr ⟨u,hu,by have:=D.sl;omega⟩
   ·exact .inr ⟨u,hu,by have:=D.sh;omega⟩
  ·rw [wa.1 C];exact .inr ⟨t,f5,tI _⟩
theorem IW (hf:RF p):∀(n:Nat) (t:Nat->Tr),Vx t<=n->p.in2 t->ZX p t:=by
 intro n;induction n with
 |zero=>intro t hn;have:=kZ (t 0);unfold Vx at hn;omega
 |succ n ih=>
  intro t hn ht F0 F S Ls he hs W;obtain ⟨a7,b1,b0,Q,a4,az,hb,b4,b7,J,a8⟩:=id hs;refine qdf ?_;unfold Ou;have rest:¬((t 0).isL=nZ/\(t 1).isL=nZ)->me (mB ⟨p.bp,0,nC⟩) (num p.A (t 0)) (num p.B (t 1)) nS (λr G=>r=vi (num (tV (p.q.res t) S) (p.q.res t))/\∃I,RS F0 G p (tV (p.q.res t) S) I/\IV p Ls I (Vx t)) F:=by
   intro a2;unfold me;refine ⟨λh=>(by cases h),λ_=> ?_⟩;have a0:=J.rd.blen;have hL:=Q.length;have b2:=hf.fP;have H:F.cell (od ⟨p.bp,0,nC⟩ 6)=mB az.v:=by rw [aJ,av hb];rfl
   refine ⟨λm i G=>∃k:Nat,i=k/\k<=Ls.length/\m=Ls.length - k/\G=F/\∀e∈Ls.take k,¬(e.v=(num p.A (t 0):Int)/\e.l=(num p.B (t 1):Int)),Ls.length,⟨0,rfl,by omega,rfl,rfl,by simp⟩,?_⟩;rintro m i G ⟨k,rfl,hk,rfl,rfl,D⟩;unfold Dw;refine ⟨_,rfl,az,H,λa5=> ?_,λb3=> ?_⟩
   ·have C:k<Ls.length:=by omega
    obtain ⟨a,ha,_,P,N,hh⟩:=VX J.rd (N5 C);have Z:i64.wrap ((k:Int)+1)=((k+1:Nat):Int):=ff (by omega);have next:¬(Ls[k].v=(num p.A (t 0):Int)/\Ls[k].l=(num p.B (t 1):Int))->∃m',m'<Ls.length - k/\∃k':Nat,((k+1:Nat):Int)=k'/\k'<=Ls.length/\m'=Ls.length - k'/\G=G/\∀e∈Ls.take k',¬(e.v=(num p.A (t 0):Int)/\e.l=(num p.B (t 1):Int)):=λa6=>
     ⟨Ls.length - (k+1),by omega,k+1,rfl,by omega,rfl,rfl,λe g=>by
      rw [WI C] at g;rcases vl.1 g with g|g
      ·exact D e g
      ·rw [wa.1 g];exact a6⟩
    have ax:G.cell (od (od a (pc (k:Int)*3)) (pc 0*1))=mB (vi Ls[k].v):=by obtain ⟨ab,ao,a9⟩:=a;obtain ⟨b',o',Y,_⟩:=J.rd.cells (by omega);rw [ha] at Y;cases Y;simpa using P
    refine ⟨az,H,a,ha,by omega,by omega,by omega,by omega,_,ax,λL=> ?_,λL=> ?_⟩
    ·have ay:G.cell (od (od a (pc (k:Int)*3)) (pc 1*1))=mB (vi Ls[k].l):=by simpa using N
     refine ⟨az,H,a,ha,by omega,by omega,by omega,by omega,_,ay,?_⟩;unfold pO;refine ⟨λE=> ?_,λE=> ?_⟩
     ·have E:=ζ E;have ah:G.cell (od (od a (pc (k:Int)*3)) (pc 2*1))=mB (vi Ls[k].h):=by simpa using hh
      obtain ⟨u,hu,X,U⟩:=Q.all _ (Vw C);have e:=(Bu hf hu (w:=t) ⟨ht,L,E⟩).1;rw [e] at X U;have a3:=gn X;refine ⟨az,H,a,ha,by omega,by omega,by omega,by omega,_,ah,?_⟩;rw [a3,U];exact ⟨rfl,Ls,hs,λe g=> .inl g⟩
     ·rw [Z];exact next λK=>ι E K.2
    ·unfold pO;refine ⟨λh=>(by cases h),λ_=> ?_⟩;rw [Z];exact next λK=>L K.1
   ·refine RV hf ht (λu hu a5=>ih u (by omega) hu) he hs W a2 (λe g=> ?_) λG I h1 h2=>⟨rfl,I,h1,h2⟩;have C:k=Ls.length:=by omega
    rw [C,wV] at D;exact D e g
  refine ⟨λP=> ?_,λP=>rest λK=>P (dy.2 K.1)⟩;by_cases N:(t 1).isL=nZ
  ·have e:decide ((num p.B (t 1):Int)<2)=nZ:=ε (dy.2 N);rw [e];have a1:=dy.1 P;unfold me;refine ⟨λ_=> ?_,λh=>by cases h⟩;have V:∀O M:Bool,t 0=qa6 O->t 1=qa6 M->p.q.res t=qa6 (p.o O M):=λO M e0 e1=>by unfold AP.res;rw [e0,e1,ht.2.2];exact mI _ _ _ _
   generalize b5:t 0=y0 at*;generalize b6:t 1=y1 at*;cases y0 with
   |qa7 _ _ _=>cases a1
   |qa6 O=>
    cases y1 with
    |qa7 _ _ _=>cases N
    |qa6 M=>have hr:=V O M rfl rfl;rw [hr];refine (qhG hf hb O M).mono ?_;rintro _ G ⟨rfl,rfl⟩;exact ⟨_,rfl,rfl,Ls,hs,λe g=> .inl g⟩
  ·have e:decide ((num p.B (t 1):Int)<2)=nS:=η (λh=>N (dy.1 h));rw [e];exact rest λK=>N K.2
end
abbrev ap2 (o:V1) (a b:Tr):Tr:=ap (λx y _=>o x y) a b (qa6 nS)
structure F2 (o:V1) (a b:Tr):Prop where
 ka:a.ok
 kb:b.ok
 fA:yg ((aV a).length+2)
 fB:yg ((aV b).length+2)
 fP:yg (((aV a).length+2)*((aV b).length+2)+2)
 fT:yg ((aV (ap2 o a b)).length+4)
theorem cC {o:V1} {a b:Tr} (r:a.ok) (w:b.ok):(ap2 o a b).ok/\∀c,(ap2 o a b).ev c=o (a.ev c) (b.ev c):=by obtain ⟨h,_,g⟩:=fg (o:=λx y _=>o x y) r w (d:=qa6 nS) trivial;exact ⟨h,g⟩
section
variable {F:PH} {v w:Γ} {a b:Tr}
theorem gz {o:V1} {opc:Int} (a1:(opc=0/\o=bV)\/(opc=1/\o=z9)\/(opc=2/\o=kW)) (H:DV F v (ph a)) (hb:DV F w (ph b)) (h:F2 o a b):
  ν 191 #[oc v,oc w,vi opc] F λr Q=>∃u,r=oc u/\DV Q u (ph (ap2 o a b))/\F.le Q:=by
 obtain ⟨ka,kb,fA,fB,fP,fT⟩:=h;obtain ⟨L,rfl,a0⟩:=H;obtain ⟨J,rfl,a8⟩:=hb;refine qdd ?_;unfold Oq;intro b3 a2;refine tP ?_;have l3:=ae (mX #[L.v,vi (ph a).2] 33) a2;have q3:=aq F b3 (mX #[L.v,vi (ph a).2] 33);generalize F.set b3 (mX #[L.v,vi (ph a).2] 33)=F3 at*;intro b4 b5;refine tP ?_;have A:=ae (mX #[J.v,vi (ph b).2] 33) b5;have q4:=aq F3 b4 (mX #[J.v,vi (ph b).2] 33);have q3:=A _ _ q3;have l4:=l3.trans A;clear A;generalize F3.set b4 (mX #[J.v,vi (ph b).2] 33)=F4 at*;intro Y W;refine tP ?_;have f6:F Y=nC:=aU l4 W;have A:=ae (mX zD 33) W;have q6:=aq F4 Y (mX zD 33);have q3:=A _ _ q3;have q4:=A _ _ q4;have l6:=l4.trans A;clear A;generalize F4.set Y (mX zD 33)=M at*;refine ⟨#[L.v,vi (ph a).2],rfl,ai q3,#[J.v,vi (ph b).2],rfl,ai q4,rfl,rfl,λB C=> ?_⟩;refine tP ?_
 let p:RP:=⟨B,L,J,opc,o,ph a,ph b,aV a,aV b⟩
 have a3:(Array.setIfInBounds (wr (wr (#[tU nC 0 0,vi 0,tU nC 0 0,vi 0,vi 0,tU nC 0 0,tU nC 0 0]:Γ) 0 (#[L.v,vi (ph a).2]:Γ).toList) 2 (#[J.v,vi (ph b).2]:Γ).toList) 4 (vi opc))=p.obj pk pk:=rfl;rw [a3];have A:=ae (mX (p.obj pk pk) 320) C;have a5:=aq M B (mX (p.obj pk pk) 320);have a9:=A _ _ q3;have a4:=A _ _ q4;have Z:RF p:=⟨bz ka,bz kb,YX _,YX _,by show yg ((brs (aV a)).length+2);rw [aP];exact fA,by show yg ((brs (aV b)).length+2);rw [aP];exact fB,fP,a1⟩;have b2:RE M p:=⟨a0.le l6,a8.le l6⟩;have a7:RS M (M.set B (mX (p.obj pk pk) 320)) p [] []:=⟨A,C,.nil,⟨λe he=>(by cases he),by simp⟩,pk,pk,a5,.inl ⟨rfl,rfl⟩,λa H=>(by cases H),.inl ⟨rfl,rfl⟩,λa H=>by cases H⟩;generalize M.set B (mX (p.obj pk pk) 320)=F7 at*;refine ⟨(ph a).2,by rw [av a9];rfl,(ph b).2,by rw [av a4];rfl,?_⟩;have E:p.q.res (lY a b (qa6 nS))=ap2 o a b:=rfl;have N:=IW Z _ (lY a b (qa6 nS)) (tI _) ⟨bE ka,bE kb,rfl⟩ M F7 [] [] b2 a7 (by rw [E];exact fT);rw [E] at N;refine N.mono ?_;rintro _ F8 ⟨rfl,b8,a6,_⟩;obtain ⟨D,b7,O,_,g,az,I,V,P,_,_⟩:=a6;replace I:F8 B=mB (mX (p.obj g az) 320):=I;refine ⟨_,rfl,g,by rw [av I];rfl,?_⟩;have ev:tV (ap2 o a b) []=aV (ap2 o a b):=rfl;rw [ev] at*;have b1:=D _ _ q6
 have U:bO (dz F8 Y) 201 3 g (aW (brs (aV (ap2 o a b)))):=V.keep λa H=>eQ (λe=>by
  have:=P a H;rw [e,q6] at this
  cases this)
 have b0:=(cC (o:=o) ka kb).1;refine (iQ (kv U.rd O (bE b0) fT) b1).mono ?_;rintro _ F9 ⟨u,rfl,⟨G,hu,lG,gG⟩,l9,q9⟩;refine ⟨_,rfl,?_⟩;exact fY (K:=λX Q=>∃u,oc X=oc u/\DV Q u (ph (ap2 o a b))/\F.le Q) hu q9 rfl ⟨_,rfl,hu.le (aC lG gG),aC (l6.trans (D.trans l9)) f6⟩
theorem rO (I:DV F v (ph a)) (M:DV F w (ph b)) (h:F2 bV a b):ν 159 #[oc v,oc w] F λr A=>∃u,r=oc u/\DV A u (ph (ap2 bV a b))/\F.le A:=by refine U8 ?_;unfold On;intro P E;refine tP ?_;have V:=ae (mX v 33) E;have q2:=aq F P (mX v 33);generalize F.set P (mX v 33)=F2 at*;intro U D;refine tP ?_;have g:=ae (mX w 33) D;have q3:=aq F2 U (mX w 33);have q2:=g _ _ q2;have N:=V.trans g;clear g;generalize F2.set U (mX w 33)=O at*;intro H B;refine tP ?_;have Q:F H=nC:=aU N B;have g:=ae (mX zD 33) B;have q4:=aq O H (mX zD 33);have q2:=g _ _ q2;have q3:=g _ _ q3;have L:=N.trans g;clear g;generalize O.set H (mX zD 33)=F4 at*;refine ⟨v,I.size,ai q2,w,M.size,ai q3,?_⟩;have ld:=d5 L Q;refine (iQ (gz (opc:=0) (.inl ⟨rfl,rfl⟩) (I.le ld) (M.le ld) h) q4).mono ?_;rintro _ Z ⟨z,rfl,⟨G,J,Y,W⟩,X,q5⟩;refine ⟨_,rfl,?_⟩;exact fY (K:=λC A=>∃u,oc C=oc u/\DV A u (ph (ap2 bV a b))/\F.le A) J q5 rfl ⟨_,rfl,J.le (aC Y W),aC (L.trans X) Q⟩
theorem Bv (I:DV F v (ph a)) (M:DV F w (ph b)) (h:F2 z9 a b):ν 158 #[oc v,oc w] F λr A=>∃u,r=oc u/\DV A u (ph (ap2 z9 a b))/\F.le A:=by refine U7 ?_;unfold Om;intro P E;refine tP ?_;have V:=ae (mX v 33) E;have q2:=aq F P (mX v 33);generalize F.set P (mX v 33)=F2 at*;intro U D;refine tP ?_;have g:=ae (mX w 33) D;have q3:=aq F2 U (mX w 33);have q2:=g _ _ q2;have N:=V.trans g;clear g;generalize F2.set U (mX w 33)=O at*;intro H B;refine tP ?_;have Q:F H=nC:=aU N B;have g:=ae (mX zD 33) B;have q4:=aq O H (mX zD 33);have q2:=g _ _ q2;have q3:=g _ _ q3;have L:=N.trans g;clear g;generalize O.set H (mX zD 33)=F4 at*;refine ⟨v,I.size,ai q2,w,M.size,ai q3,?_⟩;have ld:=d5 L Q;refine (iQ (gz (opc:=1) (.inr (.inl ⟨rfl,rfl⟩)) (I.le ld) (M.le ld) h) q4).mono ?_;rintro _ Z ⟨z,rfl,⟨G,J,Y,W⟩,X,q5⟩;refine ⟨_,rfl,?_⟩;exact fY (K:=λC A=>∃u,oc C=oc u/\DV A u (ph (ap2 z9 a b))/\F.le A) J q5 rfl ⟨_,rfl,J.le (aC Y W),aC (L.trans X) Q⟩
theorem rP (L:DV F v (ph a)) (h:F2 kW a (qa6 nZ)):ν 157 #[oc v] F λr g=>∃u,r=oc u/\DV g u (ph (ap2 kW a (qa6 nZ)))/\F.le g:=by refine U6 ?_;unfold Ol;intro Q I;refine tP ?_;have M:=ae (mX v 33) I;have q2:=aq F Q (mX v 33);generalize F.set Q (mX v 33)=P at*;intro C A;refine tP ?_;have U:F C=nC:=aU M A;have H:=ae (mX zD 33) A;have q4:=aq P C (mX zD 33);have q2:=H _ _ q2;have O:=M.trans H;clear H;generalize P.set C (mX zD 33)=Y at*;refine ⟨v,L.size,ai q2,?_⟩;refine (iQ (d6 (F:=dz Y C) nZ) q4).mono ?_;rintro _ F5 ⟨y,rfl,⟨G0,W,D,J⟩,E,q5⟩;refine ⟨_,rfl,ai (E _ _ q2),?_⟩;have ld:=d5 (O.trans E) U;refine (iQ (gz (opc:=2) (.inr (.inr ⟨rfl,rfl⟩)) (L.le ld) (W.beside D J) h) q5).mono ?_;rintro _ F6 ⟨z,rfl,⟨G,N,X,V⟩,Z,q6⟩;refine ⟨_,rfl,?_⟩;exact fY (K:=λB g=>∃u,oc B=oc u/\DV g u (ph (ap2 kW a (qa6 nZ)))/\F.le g) N q6 rfl ⟨_,rfl,N.le (aC X V),aC (O.trans (E.trans Z)) U⟩
theorem Bw (N:DV F v (ph a)) (P:DV F w (ph b)) (h1:F2 kW b (qa6 nZ)) (Z:F2 bV a (ap2 kW b (qa6 nZ))):
  ν 160 #[oc v,oc w] F λr h=>∃u,r=oc u/\DV h u (ph (ap2 bV a (ap2 kW b (qa6 nZ))))/\F.le h:=by
 refine U9 ?_;unfold Oo;intro V J;refine tP ?_;have X:=ae (mX v 33) J;have q2:=aq F V (mX v 33);generalize F.set V (mX v 33)=F2 at*;intro W C;refine tP ?_;have g:=ae (mX w 33) C;have q3:=aq F2 W (mX w 33);have q2:=g _ _ q2;have Q:=X.trans g;clear g;generalize F2.set W (mX w 33)=U at*;intro M A;refine tP ?_;have I:F M=nC:=aU Q A;have g:=ae (mX zD 33) A;have q4:=aq U M (mX zD 33);have q2:=g _ _ q2;have q3:=g _ _ q3;have D:=Q.trans g;clear g;generalize U.set M (mX zD 33)=F4 at*;refine ⟨v,N.size,ai q2,w,P.size,ai q3,?_⟩;refine (iQ (rP (P.le (d5 D I)) h1) q4).mono ?_;rintro _ F5 ⟨y,rfl,⟨G0,hy,E,L⟩,H,q5⟩;refine ⟨_,rfl,ai (H _ _ q2),?_⟩;refine (iQ (rO (N.le (d5 (D.trans H) I)) (hy.beside E L) Z) q5).mono ?_;rintro _ F6 ⟨z,rfl,⟨G,O,lG,Y⟩,l6,q6⟩;refine ⟨_,rfl,?_⟩;exact fY (K:=λB h=>∃u,oc B=oc u/\DV h u (ph (ap2 bV a (ap2 kW b (qa6 nZ))))/\F.le h) O q6 rfl ⟨_,rfl,O.le (aC lG Y),aC (D.trans (H.trans l6)) I⟩
end
theorem rQ {n v:Nat} {t:Tr} (h:dS n t):dS n (lo v t):=by
 cases t with
 |qa6 b=>trivial
 |qa7 w l r=>
  simp only [lo];split
  ·exact h.2.1
  ·exact h
theorem rR {n v:Nat} {t:Tr} (h:dS n t):dS n (hi v t):=by
 cases t with
 |qa6 b=>trivial
 |qa7 w l r=>
  simp only [hi];split
  ·exact h.2.2
  ·exact h
theorem IX {n v:Nat} {l h:Tr} (w:v<n) (g:dS n l) (r:dS n h):dS n (mk v l h):=by
 unfold mk;split
 ·exact g
 ·exact ⟨w,g,r⟩
theorem nO {n:Nat} {t:Tr} (h:dS n t) (g:t.isL=nS):t.top<n:=by
 cases t with
 |qa6 b=>cases g
 |qa7 v l r=>exact h.1
theorem IY (o:Wd) {n:Nat}:∀(k:Nat) (a b d:Tr),a.sz+b.sz+d.sz<=k->a.ok->b.ok->d.ok->dS n a->dS n b->dS n d->dS n (ap o a b d):=by
 intro k;induction k with
 |zero=>intro a b d hk;have:=kZ a;omega
 |succ k ih=>
  intro a b d hk w A hd I nb nd;by_cases Y:aY a b d<64
  ·have H:=wF (o:=o) w A hd Y;have Z:aY a b d<=a.top:=by unfold aY;omega
   have X:aY a b d<=b.top:=by unfold aY;omega
   have W:aY a b d<=d.top:=by unfold aY;omega
   have g:aY a b d=a.top\/aY a b d=b.top\/aY a b d=d.top:=by unfold aY;omega
   generalize aY a b d=v at*;have h:∀{t:Tr},v=t.top->t.isL=nS:=λ{t} e=>by
    cases t with
    |qa6 b=>simp only [top] at e;omega
    |qa7 _ _ _=>rfl
   obtain ⟨V,a3,b0,J,a8⟩:=cq w Z;obtain ⟨K,a6,a0,P,b5⟩:=cq A X;obtain ⟨G,a7,a4,L,a5⟩:=cq hd W;obtain ⟨D,a1,b2,O,b7⟩:=cu w Z;obtain ⟨N,a2,b6,E,a9⟩:=cu A X;obtain ⟨U,b3,b4,C,b1⟩:=cu hd W;have Q:v<n:=by
    rcases g with e|e|e
    ·have:=nO I (h e);omega
    ·have:=nO nb (h e);omega
    ·have:=nO nd (h e);omega
   have B:(lo v a).sz+(lo v b).sz+(lo v d).sz<=k:=by
    rcases g with e|e|e
    ·have:=J e.symm (h e);omega
    ·have:=P e.symm (h e);omega
    ·have:=L e.symm (h e);omega
   have M:(hi v a).sz+(hi v b).sz+(hi v d).sz<=k:=by
    rcases g with e|e|e
    ·have:=O e.symm (h e);omega
    ·have:=E e.symm (h e);omega
    ·have:=C e.symm (h e);omega
   rw [H];exact IX Q (ih _ _ _ B V K G (rQ I) (rQ nb) (rQ nd)) (ih _ _ _ M D N U (rR I) (rR nb) (rR nd))
  ·unfold aY at Y;obtain ⟨p,rfl⟩:=gm w (by omega);obtain ⟨q,rfl⟩:=gm A (by omega);obtain ⟨r,rfl⟩:=gm hd (by omega);rw [mI];trivial
theorem Bx {n:Nat} (g:n<=64):∀(t:Tr),t.ok->dS n t->W8 t+1<=2 ^ (n - min n t.top)
 |qa6 b,_,_=>by
  have:n - min n (qa6 b).top=0:=by simp only [top];omega
  rw [this];simp [W8]
 |qa7 v l h,⟨h0,h1,h2,h3,h4,h5⟩,⟨b0,b1,b2⟩=>by
  have il:=Bx g l h4 b1;have ih:=Bx g h h5 b2;have r:2 ^ (n - min n l.top)<=2 ^ (n - (v+1)):=Wi (by decide) (by omega);have w:2 ^ (n - min n h.top)<=2 ^ (n - (v+1)):=Wi (by decide) (by omega);have e:n - min n (qa7 v l h).top=n - (v+1)+1:=by simp only [top];omega
  rw [e,Nat.pow_succ];simp only [W8];omega
def Sx (n:Nat) (t:Tr):Prop:=t.ok/\dS n t
theorem Sx.cnt63 {n:Nat} {t:Tr} (h:Sx n t) (w:n<=6):W8 t<=63:=by have r:=Bx (by omega:n<=64) t h.1 h.2;have g:2 ^ (n - min n t.top)<=2 ^ 6:=Wi (by decide) (by omega);omega
theorem Sx.small {n:Nat} {t:Tr} (h:Sx n t) (g:n<=6):gJ t:=IS h.1 (by have:=h.cnt63 g;omega)
theorem Sx.len {n:Nat} {t:Tr} (h:Sx n t) (g:n<=6):(aV t).length<=63:=Wl (oO t) (h.cnt63 g)
theorem Sx.ap {n:Nat} {o:Wd} {a b d:Tr} (g:Sx n a) (h:Sx n b) (hd:Sx n d):Sx n (Tr.ap o a b d):=⟨J3 g.1 h.1 hd.1,IY o _ a b d (tI _) g.1 h.1 hd.1 g.2 h.2 hd.2⟩
theorem Sx.qa6 (n:Nat) (b:Bool):Sx n (Tr.qa6 b):=⟨trivial,trivial⟩
theorem Sx.ap2 {n:Nat} {o:V1} {a b:Tr} (g:Sx n a) (h:Sx n b):Sx n (ap2 o a b):=Sx.ap g h (Sx.qa6 n _)
theorem Sx.tv {n v:Nat} (g:v<n) (h:n<=6):Sx n (tv v):=⟨U1 (by omega),g,trivial,trivial⟩
theorem Sx.f2 {n:Nat} {o:V1} {a b:Tr} (g:Sx n a) (h:Sx n b) (r:n<=6):F2 o a b:=by have w:=g.len r;have A:=h.len r;have lt:=(g.ap2 (o:=o) h).len r;have B:((aV a).length+2)*((aV b).length+2)<=65*65:=YB (by omega) (by omega);exact ⟨g.1,h.1,by omega,by omega,by omega,by omega⟩
theorem OF {v:Nat} (h:v<64):u64.wrap (v:Int)=(v:Int):=ii (by omega) (by omega)
theorem IZ {S:Tr->Prop} {f:FuncId} {args:Γ} {F:PH} {x:Nat} {o:Obj} (h:aj prog f args (dz F x) λr A=>∃w t,r=oc w/\S t/\DV A w (ph t)/\(dz F x).le A) (B:F x=mB o):
  aj prog f args F λr A=>∃w t,r=oc w/\S t/\(∃G,DV G w (ph t)/\G.le A/\G x=nC)/\F.le A/\A x=mB o:=
 (aj.avoid h B).mono λr A ⟨G,⟨w,t,E,H,I,D⟩,C,q,g⟩=>⟨w,t,E,H,⟨G,I,C,g⟩,gI D C q B,q⟩
def RW (l:Φ) (k:Nat):Bool:=
 if h:k / 8<l.length then decide (u8.wrap ((BitVec.ofInt (u8).bits (Int.fdiv l[k / 8] (2 ^ (min (pc (((k % 8:Nat):Int))) (u8).bits))) &&& BitVec.ofInt (u8).bits (1:Int)).toNat)=(1:Int)) else nS
def iU (l:Φ):Nat->Nat->Nat->Tr
 |0,_,k=>Tr.qa6 (RW l k)
 |m+1,v,k=>ap2 z9 (ap2 bV (tv v) (iU l m (v+1) (k+2 ^ v))) (ap2 bV (iU l m (v+1) k) (ap2 kW (tv v) (Tr.qa6 nZ)))
theorem By {n:Nat} (H:n<=6):∀(m v k:Nat),v+m=n->k<2 ^ v->∀(F:PH) (sl:Sl) (l:Φ),RdS F sl 1 (l.map (Value.int .u8))->
  ν 127 #[sl.v,vi n,vi v,vi k] F λr D=>∃u t,r=oc u/\(Sx n t/\t=iU l m v k)/\DV D u (ph t)/\F.le D:=by
 intro m;induction m with
 |zero=>
  intro v k c6 hk F sl l hr;obtain rfl:v=n:=by omega
  have a3:k<64:=Nat.lt_of_lt_of_le hk (Wi (by decide) H);refine Oj ?_;unfold IQ;intro B w;refine tP ?_;have W:=ae (mX zD 33) w;have q8:=aq F B (mX zD 33);have X:=hr.le W;generalize F.set B (mX zD 33)=F8 at*;have hd:i64.wrap (Int.tdiv (k:Int) 8)=((k / 8:Nat):Int):=by rw [Ze (by omega),aL (by omega)];rfl
  have hm:u64.wrap (tK (k:Int) 8)=((k % 8:Nat):Int):=by rw [Xc (by omega),ii (by omega) (by omega)];rfl
  have V:=X.len;simp at V;refine ⟨λ_=>⟨λa2=> ?_,λ_=> ?_⟩,λh=>absurd rfl h⟩
  ·rw [hd] at a2 ⊢;have Z:k / 8<l.length:=by omega
   obtain ⟨b,o,hb,hc⟩:=X.cells (by omega);have M:=hc (k / 8) (by simpa using Z);refine ⟨_,hb,by omega,a2,l[k / 8],by rw [aJ,N4,xZ];simpa using M,by rw [hm];omega,?_⟩;refine (iQ (d6 (F:=dz F8 B) _) q8).mono ?_;rintro _ F9 ⟨u,rfl,⟨G,U,lG,Y⟩,l9,P⟩;refine ⟨_,rfl,?_⟩;exact fY (K:=λg D=>∃u t,oc g=oc u/\(Sx v t/\t=iU l 0 v k)/\DV D u (ph t)/\F.le D) U P rfl ⟨_,_,rfl,⟨Sx.qa6 v _,by rw [iU,RW,dif_pos Z,hm]⟩,U.le (aC lG Y),aC (W.trans l9) w⟩
  ·rename_i a9;rw [hd] at a9;refine (iQ (d6 (F:=dz F8 B) nS) q8).mono ?_;rintro _ F9 ⟨u,rfl,⟨G,U,lG,Y⟩,l9,P⟩;refine ⟨_,rfl,?_⟩;exact fY (K:=λg D=>∃u t,oc g=oc u/\(Sx v t/\t=iU l 0 v k)/\DV D u (ph t)/\F.le D) U P rfl ⟨_,_,rfl,⟨Sx.qa6 v _,by rw [iU,RW,dif_neg (by omega)]⟩,U.le (aC lG Y),aC (W.trans l9) w⟩
 |succ m ih=>
  intro v k c6 hk F sl l hr;have I:v<n:=by omega
  have a3:k<64:=Nat.lt_of_lt_of_le hk (Wl (Wi (by decide:2>0) (by omega:v<=6)) (by decide));have d0:2 ^ v<=32:=Wl (Wi (by decide:2>0) (by omega:v<=5)) (by decide);refine Oj ?_;unfold IQ;intro B w;refine tP ?_;have W:=ae (mX zD 33) w;have q8:=aq F B (mX zD 33);generalize F.set B (mX zD 33)=F8 at*;refine ⟨λh=>by omega,λ_=> ?_⟩;have L:=uq (F:=dz F8 B) (v:Int);rw [Mv (by omega)] at L;refine (Bq L q8).mono ?_;rintro _ F9 ⟨x,rfl,⟨G,Q,lG,Y⟩,l9,P⟩;refine ⟨_,_,rfl,?_⟩;intro b9 a0;refine tP ?_;refine Vd (aq _ _ _) Q.size rfl Q.st ?_;rw [aS];have d2:B≠b9:=aI a0 P;have lx:=ae (mX x 33) a0;have O:=aq F9 b9 (mX x 33);have b0:=lx _ _ P;have J:=Q.beside (lG.trans lx) Y;have N:=W.trans (l9.trans lx);generalize F9.set b9 (mX x 33)=c3 at*;have wv:i64.wrap ((v:Int)+1)=((v+1:Nat):Int):=ff (by omega);have w2:i64.wrap ((1:Int)*2 ^ (min (pc (u64.wrap (v:Int))) (i64).bits))=((2 ^ v:Nat):Int):=by
   rw [OF (by omega)];have hm:min (pc (v:Int)) (i64).bits=v:=by simp only [IntKind.bits,N4];omega
   have e1:(1:Int)*2 ^ v=((2 ^ v:Nat):Int):=by simp
   rw [hm,e1,aL (by omega)]
  have wk:i64.wrap ((k:Int)+((2 ^ v:Nat):Int))=((k+2 ^ v:Nat):Int):=by rw [aL (by omega)];omega
  rw [w2,wk,wv];refine ⟨x,Q.size,ai O,by rw [OF (by omega)];omega,x,Q.size,ai O,?_⟩;have c9:2 ^ (v+1)=2 ^ v+2 ^ v:=by rw [Nat.pow_succ];omega
  refine (IZ (ih (v+1) (k+2 ^ v) (by omega) (by omega) (dz c3 B) sl l (hr.le (d5 N w))) b0).mono ?_;rintro _ d1 ⟨u1,t1,rfl,⟨k1,e1⟩,⟨G1,h1,b4,a6⟩,A,b5⟩;refine ⟨_,rfl,ai (A _ _ O),ai (A _ _ O),?_⟩;refine (iQ (rO (J.le (nL A)) (h1.beside b4 a6) ((Sx.tv I H).f2 k1 H)) b5).mono ?_;rintro _ b3 ⟨u2,rfl,⟨G2,h2,a8,b2⟩,C,a4⟩;have k2:=(Sx.tv I H).ap2 (o:=bV) k1;refine ⟨_,rfl,ai (C _ _ (A _ _ O)),?_⟩;refine (IZ (ih (v+1) k (by omega) (by omega) (dz b3 B) sl l (hr.le (d5 (N.trans (A.trans C)) w))) a4).mono ?_;rintro _ e0 ⟨u3,t3,rfl,⟨k3,e3⟩,⟨G3,h3,c4,c5⟩,E,a5⟩;refine ⟨_,rfl,ai (E _ _ (C _ _ (A _ _ O))),?_⟩;have kx:=(Sx.tv I H).ap2 (o:=kW) (Sx.qa6 n nZ);refine (iQ (Bw (h3.beside c4 c5) (J.le (nL (A.trans (C.trans E)))) ((Sx.tv I H).f2 (Sx.qa6 n nZ) H) (k3.f2 kx H)) a5).mono ?_;rintro _ d4 ⟨u4,rfl,⟨G4,h4,b7,b1⟩,a1,c8⟩;have k4:=k3.ap2 (o:=bV) kx;refine ⟨_,rfl,?_⟩;refine (iQ (Bv ((h2.beside a8 b2).le (nL (E.trans a1))) (h4.beside b7 b1) (k2.f2 k4 H)) c8).mono ?_;rintro _ d3 ⟨u5,rfl,⟨G5,h5,b6,a7⟩,c7,c2⟩;refine ⟨_,rfl,?_⟩;exact fY (K:=λg D=>∃u t,oc g=oc u/\(Sx n t/\t=iU l (m+1) v k)/\DV D u (ph t)/\F.le D) h5 c2 rfl ⟨_,_,rfl,⟨k2.ap2 k4,by rw [iU,<- e1,<- e3]⟩,h5.le (aC b6 a7),aC (N.trans (A.trans (C.trans (E.trans (a1.trans c7))))) w⟩
theorem oD {n:Nat} (I:n<=6) {F:PH} {sl:Sl} {l:Φ} (D:RdS F sl 1 (l.map (Value.int .u8))):ν 93 #[sl.v,vi n] F λr h=>∃u t,r=oc u/\(Sx n t/\t=iU l n 0 0)/\DV h u (ph t)/\F.le h:=by
 refine qf7 ?_;unfold U4;intro A g;refine tP ?_;have B:=ae (mX zD 33) g;have q4:=aq F A (mX zD 33);generalize F.set A (mX zD 33)=H at*;have e:max (0:Int) (min (n:Int) 6)=(n:Int):=by omega
 rw [e];refine (IZ (By I n 0 0 (by omega) (by simp) (dz H A) sl l (D.le (d5 B g))) q4).mono ?_;rintro _ N ⟨u,t,rfl,L,⟨G,C,E,J⟩,M,q5⟩;refine ⟨_,rfl,?_⟩;exact fY (K:=λw h=>∃u t,oc w=oc u/\(Sx n t/\t=iU l n 0 0)/\DV h u (ph t)/\F.le h) C q5 rfl ⟨_,_,rfl,L,C.le (aC E J),aC (B.trans M) g⟩
section
variable {F:PH} {v:Γ} {d:wc}
open Classical in
theorem Bz (hd:DV F v d) (hf:yg (d.1.length+4)) {S:List Tr} (w:Cl S) {k:Nat} (hk:S.length=k) (Z:k<d.1.length) (X:brs S=d.1.take k):
  ν 245 #[oc v,vi k] F λr W=>r=oY (decide (yG S d.1[k]))/\F.le W:=by
 have P:=hd;obtain ⟨s,rfl,hr⟩:=hd;have a2:=hr.blen;have I:brs S<+:d.1:=by rw [X];exact List.take_prefix _ _
 generalize hB:d.1[k]=B;have M:d.1[k]? =mB B:=by rw [N5 Z,hB]
 refine qdn ?_;unfold OE;intro b2 a1;refine tP ?_;have l2:=ae (mX #[s.v,vi d.2] 33) a1;have q2:=aq F b2 (mX #[s.v,vi d.2] 33);generalize F.set b2 (mX #[s.v,vi d.2] 33)=F2 at*;obtain ⟨p,Y,A,_⟩:=VX (hr.le l2) M;refine ⟨s,by rw [av q2];rfl,p,Y,by omega,by omega,aX B,rfl,by simpa using A,?_⟩;intro N a0;refine tP ?_;refine Vd (aq _ _ _) rfl rfl (ij _) ?_;rw [aS];have lx:=ae (mX (aX B) 201) a0;have q5:=aq F2 N (mX (aX B) 201);have q2:=lx _ _ q2;have g:=l2.trans lx;generalize F2.set N (mX (aX B) 201)=U at*;have c0:∀{G:PH},U.le G->G.cell (pd N 0 nC)=mB (vi B.v):=λh=>by rw [av (h _ _ q5)];rfl
 have c1:∀{G:PH},U.le G->G.cell (pd N 1 nC)=mB (vi B.l):=λh=>by rw [av (h _ _ q5)];rfl
 have V:∀{G:PH},U.le G->G.cell (pd N 2 nC)=mB (vi B.h):=λh=>by rw [av (h _ _ q5)];rfl
 have D:=PH.le_rfl (F:=U);have hw:i64.wrap ((k:Int)+2)=(k:Int)+2:=by rw [aL (by omega)]
 have bad:∀{G:PH},F.le G->¬yG S B->(oY nS=oY (decide (yG S B))/\F.le G):=λ{G} hg hn=>⟨by rw [η hn],hg⟩;rw [hw];refine ⟨_,c0 D,λh=>bad g λhF=>(by have:=cj w hF;omega),λh1=> ?_⟩;refine ⟨_,c0 D,λh=>bad g λhF=>(by have:=cj w hF;omega),λh2=> ?_⟩;refine ⟨_,c1 D,λh=>bad g λhF=>(by have:=cj w hF;omega),λh3=> ?_⟩;refine ⟨_,V D,λh=>bad g λhF=>(by have:=cj w hF;omega),λh4=> ?_⟩;refine ⟨_,c1 D,λh=>bad g λhF=>(by have:=cj w hF;omega),λh5=> ?_⟩;refine ⟨_,V D,λh=>bad g λhF=>(by have:=cj w hF;omega),λh6=> ?_⟩;refine ⟨_,c1 D,_,V D,λh=>bad g λhF=>(by have:=cj w hF;omega),λh7=> ?_⟩;have il:inn S (tr S B.l.toNat):=gB (by omega);have ih:inn S (tr S B.h.toNat):=gB (by omega);have nl:((num S (tr S B.l.toNat):Nat):Int)=B.l:=by rw [fR w (by omega)];omega
 have nh:((num S (tr S B.h.toNat):Nat):Int)=B.h:=by rw [fR w (by omega)];omega
 refine ⟨_,rfl,ai q2,_,c1 D,_,c0 D,?_⟩;have s1:=eY (P.le g) I il (by omega);rw [nl] at s1;refine s1.mono ?_;rintro _ F6 ⟨rfl,J⟩;refine ⟨_,rfl,c0 J,λh=>bad (g.trans J) λhF=>(by have:=cj w hF;omega),λh9=> ?_⟩;refine ⟨_,rfl,ai (J _ _ q2),_,V J,_,c0 J,?_⟩;have s2:=eY (P.le (g.trans J)) I ih (by omega);rw [nh] at s2;refine s2.mono ?_;rintro _ F7 ⟨rfl,l7⟩;have E:=J.trans l7;refine ⟨_,rfl,c0 E,c0 E,λh=>bad (g.trans E) λhF=>(by have:=cj w hF;omega),λa4=> ?_⟩;have K:∀i,i<k->∀x,d.1[i]? =mB x->x∈brs S:=λi hi x H=>by rw [X];exact wh (by rw [YN hi];exact H)
 refine ⟨λm i W=>∃j:Nat,i=j/\j<=k/\m=k - j/\F7.le W/\∀x∈d.1.take j,x≠B,k,⟨0,rfl,by omega,rfl,PH.le_rfl,by simp⟩,?_⟩;rintro m i F8 ⟨j,rfl,hj,rfl,l8,Q⟩;have C:=E.trans l8;unfold DD;refine ⟨λa5=> ?_,λa3=> ?_⟩
 ·have O:j<d.1.length:=by omega
  have L:=N5 O;obtain ⟨p,Y,A,_⟩:=VX (hr.le (g.trans C)) L;refine ⟨s,by rw [av (C _ _ q2)];rfl,p,Y,by omega,by omega,aX d.1[j],rfl,by simpa using A,aX B,rfl,ai (C _ _ q5),_,λF=>IC _ _ F,λhe=> ?_,λhn=> ?_⟩
  ·refine bad (g.trans C) λhF=>(cj w hF).2.2.2.2.2.2.2.1 ?_;rw [<- ζ he];exact K j (by omega) _ L
  ·refine ⟨k - (j+1),by omega,j+1,ff (by omega),by omega,rfl,l8,λx H=> ?_⟩;rw [WI O] at H;rcases vl.1 H with H|H
   ·exact Q x H
   ·rw [wa.1 H];exact ι hn
 ·obtain rfl:j=k:=by omega
  unfold DC;refine ⟨?_,g.trans C⟩;rw [ε (Dq w (by omega) (by omega) (by omega) (by omega) (by omega) (by omega) h7 (λhm=>Q B (by rw [<- X];exact hm) rfl) (by omega) (by omega))]
open Classical in
theorem FO (hd:DV F v d) (hf:yg (d.1.length+4)):ν 217 #[oc v] F λr V=>r=oY (decide (iP d))/\F.le V:=by
 have M:=hd;obtain ⟨s,rfl,hr⟩:=hd;have Z:=hr.blen;refine qdh ?_;unfold Ox;intro N W;refine tP ?_;have H:=ae (mX #[s.v,vi d.2] 33) W;have q1:=aq F N (mX #[s.v,vi d.2] 33);generalize F.set N (mX #[s.v,vi d.2] 33)=O at*;have bad:∀{G:PH},F.le G->¬iP d->(oY nS=oY (decide (iP d))/\F.le G):=λ{G} hg X=>⟨by rw [η X],hg⟩;have g:iP d->0<=d.2/\d.2<=(d.1.length:Int)+1:=by rintro ⟨t,ht,rfl⟩;have h1:=dN (bE ht);have h2:(ph t).1.length=(aV t).length:=aP _;have h3:(ph t).2=((num (aV t) t:Nat):Int):=rfl;omega
 have hw:i64.wrap ((s.len:Int)+2)=(s.len:Int)+2:=by rw [aL (by omega)]
 have c1:∀{G:PH},O.le G->G.cell (pd N 1 nC)=mB (vi d.2):=λh=>by rw [av (h _ _ q1)];rfl
 have c0:∀{G:PH},O.le G->G.cell (pd N 0 nC)=mB s.v:=λh=>by rw [av (h _ _ q1)];rfl
 have P:=PH.le_rfl (F:=O);refine ⟨_,c1 P,λh=>bad H λL=>(by have:=g L;omega),λh1=> ?_⟩;refine ⟨_,c1 P,s,c0 P,?_⟩;dsimp only;rw [hw];refine ⟨λh=>bad H λL=>(by have:=g L;omega),λh2=> ?_⟩;refine ⟨λm i V=>∃(k:Nat) (S:List Tr),i=k/\k<=d.1.length/\m=d.1.length - k/\O.le V/\Cl S/\S.length=k/\brs S=d.1.take k,d.1.length,⟨0,[],rfl,by omega,rfl,P,.nil,rfl,by simp [brs]⟩,?_⟩;rintro m i F2 ⟨k,S,rfl,hk,rfl,B,C,E,A⟩;unfold Dy;refine ⟨s,c0 B,λa1=> ?_,λa0=> ?_⟩
 ·have D:k<d.1.length:=by omega
  refine ⟨_,rfl,ai (B _ _ q1),?_⟩;refine (Bz (M.le (H.trans B)) hf C E D A).mono ?_;rintro _ F3 ⟨rfl,I⟩;by_cases hF:yG S d.1[k]
  ·rw [ε hF];refine ⟨_,rfl,λh=>(by cases h),λ_=> ?_⟩;obtain ⟨v,l,h,e,hl,hh,Q,X⟩:=hF;refine ⟨d.1.length - (k+1),by omega,k+1,S++[qa7 v l h],ff (by omega),by omega,rfl,B.trans I,.snoc C hl hh Q X,by simp [E],?_⟩;rw [eg C hl hh,WI D,A,e]
  ·rw [η hF];exact ⟨_,rfl,λ_=>bad (H.trans (B.trans I)) λL=>hF (ku L C E D A),λh=>by cases h⟩
 ·obtain rfl:k=d.1.length:=by omega
  rw [wV] at A;unfold Dx;have J:inn S (tr S d.2.toNat):=gB (by omega);have K:((num S (tr S d.2.toNat):Nat):Int)=d.2:=by rw [fR C (by omega)];omega
  refine ⟨_,rfl,ai (B _ _ q1),s,c0 B,_,c1 B,?_⟩;have sp:=kv (ns:=s) (t:=tr S d.2.toNat) (by rw [A];exact hr.le (H.trans B)) C J (by omega);rw [K] at sp;refine sp.mono ?_;rintro _ F3 ⟨w,rfl,U,I⟩;refine ⟨_,rfl,ai ((B.trans I) _ _ q1),?_⟩;refine (Bt (M.le (H.trans (B.trans I))) U (by omega)).mono ?_;rintro _ F4 ⟨rfl,l4⟩;refine ⟨_,rfl,?_,H.trans (B.trans (I.trans l4))⟩;have key:(d=ph (tr S d.2.toNat))↔iP d:=by
   constructor
   ·exact λe=>⟨_,C.inn_ok J,e⟩
   ·rintro ⟨u,Y,e⟩;have e1:brs S=brs (aV u):=by rw [A,e];rfl
    have e2:S=aV u:=qj C (bz Y) e1;have e3:d.2.toNat=num (aV u) u:=by rw [e];show ((num (aV u) u:Nat):Int).toNat=_;simp
    rw [e3,e2,nT (bz Y) (bE Y)];exact e
  congr 1;rw [wR,decide_eq_true_iff,decide_eq_true_iff];exact key
theorem FP (hd:DV F v d) (I:yg (d.1.length+4)):ν 192 #[oc v] F λr G=>r=vi (chk d)/\F.le G:=by
 have B:=hd;obtain ⟨s,rfl,H⟩:=hd;have D:=H.blen;refine qde ?_;unfold Ot;intro E w;refine tP ?_;have g:=ae (mX #[s.v,vi d.2] 33) w;have q1:=aq F E (mX #[s.v,vi d.2] 33);generalize F.set E (mX #[s.v,vi d.2] 33)=J at*;refine ⟨s,by rw [av q1];rfl,λh=>⟨?_,g⟩,λh=> ?_⟩
 ·unfold chk;rw [Χ (by omega)]
 ·refine ⟨_,rfl,ai q1,?_⟩;refine (FO (B.le g) I).mono ?_;rintro _ F2 ⟨rfl,C⟩;refine ⟨_,rfl,λA=>⟨?_,g.trans C⟩,λA=>⟨?_,g.trans C⟩⟩
  ·unfold chk;rw [Υ (by omega),Υ (by simpa using A)]
  ·unfold chk;rw [Υ (by omega),Χ (by simpa using A)]
end
theorem fresh {F:PH} {o:Obj} {K:Nat->Ψ} (k:∀b g,F.le g->g b=mB o->F b=nC->K b g):∀b,F b=nC->wn (F.set b o) (K b):=λb h=>k b _ (ae o h) (aq _ _ _) h
theorem ld {F:PH} {b i:Nat} {c:Γ} {e:TypeId} {fr:Nat×Nat} {v:ξ} (h:F b=mB (mX c e fr)) (g:c[i]? =mB v):F.cell (pd b i nC)=mB v:=(av h).trans g
theorem fZ {F:PH} {b o e:Nat} {c d:Γ} {fr:Nat×Nat} (h:F b=mB (mX c e fr)) (hd:(c.toList.drop o).take d.size=d.toList):F.row (pd b o nC) d:=by intro i hi;rw [aJ,av h];have:=congrArg (λl=>l[i]?) hd;simp only [YN hi,List.getElem?_drop,YR] at this;rw [this];simp [hi]
theorem aN {F:PH} {a:Addr} {c:Γ} {i:Nat} {v:ξ} (h:F.row a c) (g:c[i]? =mB v):F.cell (a.add i)=mB v:=by obtain ⟨hi,rfl⟩:=XZ.1 g;exact h i hi
theorem aF {F:PH} {a:Addr} {c:Γ} {v:ξ} (h:F.row a c) (g:c[0]? =mB v):F.cell a=mB v:=by have:=aN h g;rwa [show a.add 0=a by unfold od;cases a;rename_i b o s;cases s<;>simp] at this
def Dj (G H:PH):Prop:=∀b,G b=nC\/H b=nC
theorem Dj.symm {G H:PH} (h:Dj G H):Dj H G:=λb=>(h b).symm
structure St (G F:PH) (As:List (Ψ)):Prop where
 le:G.le F
 ex:∃Hs:Nat->PH,(∀i A,As[i]? =mB A->A (Hs i)/\Dj G (Hs i)/\(Hs i).le F)/\∀i j,i<As.length->j<As.length->i≠j->Dj (Hs i) (Hs j)
def pt (b:Nat) (o:Obj):Ψ:=λH=>H b=mB o
def own (s:Sl) (e n:Nat) (vs:Ξ):Ψ:=λH=>bO H e n s vs
namespace St
section
variable {G F:PH} {As:List (Ψ)}
theorem start (F:PH):St F F []:=⟨au F,λ_ _=>nC,λi A h=>(by cases h),λi j h=>(by cases h)⟩
theorem get (h:St G F As) {i:Nat} {A:Ψ} (hi:As[i]? =mB A):∃H,A H/\Dj G H/\H.le F:=by obtain ⟨g,r,_⟩:=h.ex;exact ⟨g i,r i A hi⟩
theorem set (h:St G F As) {i:Nat} {A A':Ψ} (hi:As[i]? =mB A):∃H,A H/\Dj G H/\H.le F/\∀E L,A' E->(∀b,E b≠nC->H b≠nC\/F b=nC)->E.le L->(∀b o,F b=mB o->H b=nC->L b=mB o)->St G L (As.set i A'):=by
 obtain ⟨M,U,N⟩:=h.ex;obtain ⟨X,P,a3⟩:=U i A hi;refine ⟨M i,X,P,a3,λE L hA hb hl hk=> ?_⟩;have J:i<As.length:=(N6.1 hi).1;have g:∀{K:PH},K.le F->Dj (M i) K->Dj E K:=λ{K} V hd b=>by
  by_cases e:E b=nC
  ·exact .inl e
  ·rcases hb b e with e|e
   ·rcases hd b with h|h
    ·exact absurd h e
    ·exact .inr h
   ·exact .inr (aU V e)
 have C:∀{K:PH},K.le F->Dj (M i) K->K.le L:=λ{K} V hd b o O=>hk b o (V b o O) (by
  rcases hd b with h|h
  ·exact h
  ·rw [h] at O;cases O)
 refine ⟨C h.le P.symm,λj=>if j=i then E else M j,λj B r=> ?_,λj k r w D=> ?_⟩
 ·dsimp only;by_cases e:j=i
  ·subst e;rw [X3 J] at r;cases r;rw [Χ rfl];exact ⟨hA,(g h.le P.symm).symm,hl⟩
  ·rw [Zj (Ne.symm e)] at r;rw [Υ e];obtain ⟨Z,b2,b3⟩:=U j B r;have Q:j<As.length:=(N6.1 r).1;exact ⟨Z,b2,C b3 (N i j J Q (Ne.symm e))⟩
 ·rw [YA] at r w;have I:∀{m:Nat},m<As.length->(M m).le F:=λ{m} Y=>(U m _ (N5 Y)).2.2;dsimp only;by_cases e:j=i
  ·subst e;rw [Χ rfl,Υ (Ne.symm D)];exact g (I w) (N j k r w D)
  ·rw [Υ e];by_cases W:k=i
   ·subst W;rw [Χ rfl];exact (g (I r) (N k j w r (Ne.symm D))).symm
   ·rw [Υ W];exact N j k r w D
theorem push (h:St G F As) {A:Ψ} {H D:PH} (P:A H) (hd:∀b,H b≠nC->F b=nC) (V:H.le D) (L:F.le D):St G D (A::As):=by
 obtain ⟨J,I,O⟩:=h.ex;have g:∀{K:PH},K.le F->Dj K H:=λ{K} Q b=>by
  by_cases e:H b=nC
  ·exact .inr e
  ·exact .inl (aU Q (hd b e))
 refine ⟨aa h.le L,λj=>match j with|0=>H|j+1=>J j,λj B w=> ?_,λj k w C E=> ?_⟩
 ·cases j with
  |zero=>cases w;exact ⟨P,g h.le,V⟩
  |succ j=>obtain ⟨N,U,W⟩:=I j B (by simpa using w);exact ⟨N,U,aa W L⟩
 ·have r:∀{m:Nat},m<As.length->(J m).le F:=λ{m} M=>(I m _ (N5 M)).2.2;cases j with
  |zero=>
   cases k with
   |zero=>exact absurd rfl E
   |succ k=>exact (g (r (by simpa using C))).symm
  |succ j=>
   cases k with
   |zero=>exact g (r (by simpa using w))
   |succ k=>exact O j k (by simpa using w) (by simpa using C) (by omega)
theorem tail {A:Ψ} (h:St G F (A::As)):St G F As:=by obtain ⟨r,D,C⟩:=h.ex;exact ⟨h.le,λj=>r (j+1),λj B g=>D (j+1) B (by simpa using g),λj k g w E=>C (j+1) (k+1) (by simpa using g) (by simpa using w) (by omega)⟩
theorem pin {A:Ψ} (h:St G F (A::As)):∃E,G.le E/\(∃H,A H/\H.le E)/\St E F As:=by
 obtain ⟨r,J,I⟩:=h.ex;obtain ⟨K,L,V⟩:=J 0 A rfl;have C:(r 0).le (G.and (r 0)):=λb o g=>by
  rcases L b with e|e
  ·rw [PH.and_right e];exact g
  ·rw [e] at g;cases g
 refine ⟨G.and (r 0),λb o g=>PH.and_left g,⟨r 0,K,C⟩,λb o g=> ?_,λj=>r (j+1),λj B w=> ?_,λj k w Q N=>I (j+1) (k+1) (by simpa using w) (by simpa using Q) (by omega)⟩
 ·cases e:G b with
  |some W=>rw [PH.and_left e] at g;rw [<- g];exact h.le _ _ e
  |none=>rw [PH.and_right e] at g;exact V _ _ g
 ·obtain ⟨M,O,U⟩:=J (j+1) B (by simpa using w);refine ⟨M,λb=> ?_,U⟩;rcases O b with e|e
  ·have P:j+1<(A::As).length:=by have:=(N6.1 w).1;simpa using this
   rcases I 0 (j+1) (by simp) P (by omega) b with D|D
   ·exact .inl ((PH.and_right e).trans D)
   ·exact .inr D
  ·exact .inr e
theorem pinb {b:Nat} {o:Obj} (h:St G F (pt b o::As)) {K:Ψ} (k:∀g,G.le g->g b=mB o->St g F As->K F):K F:=by obtain ⟨g,r,⟨H,B,w⟩,A⟩:=h.pin;exact k g r (w _ _ B) A
theorem swap {A B:Ψ} (h:St G F (A::B::As)):St G F (B::A::As):=by
 obtain ⟨D,H,g⟩:=h.ex;refine ⟨h.le,λj=>match j with|0=>D 1|1=>D 0|j+2=>D (j+2),λj C r=> ?_,λj k r E w=> ?_⟩
 ·match j with
  |0=>exact H 1 C r
  |1=>exact H 0 C r
  |j+2=>exact H (j+2) C r
 ·match j,k with
  |0,0=>exact absurd rfl w
  |1,1=>exact absurd rfl w
  |0,1=>exact g 1 0 (by simp) (by simp) (by omega)
  |1,0=>exact g 0 1 (by simp) (by simp) (by omega)
  |0,k+2=>exact g 1 (k+2) (by simp) E (by omega)
  |1,k+2=>exact g 0 (k+2) (by simp) E (by omega)
  |j+2,0=>exact g (j+2) 1 r (by simp) (by omega)
  |j+2,1=>exact g (j+2) 0 r (by simp) (by omega)
  |j+2,k+2=>exact g (j+2) (k+2) r E w
theorem pick (h:St G F As) (f:Nat->Nat) {Bs:List (Ψ)} (H:∀i j,i<Bs.length->j<Bs.length->f i=f j->i=j) (A:∀i,i<Bs.length->As[f i]? =Bs[i]?):St G F Bs:=by
 obtain ⟨D,I,E⟩:=h.ex;have w:∀i,i<Bs.length->f i<As.length:=λi hi=>by have:=A i hi;rw [N5 hi] at this;exact (N6.1 this).1
 refine ⟨h.le,λi=>D (f i),λi B hi=> ?_,λi j hi C r=>E _ _ (w i hi) (w j C) λe=>r (H i j hi C e)⟩;have g:i<Bs.length:=(N6.1 hi).1;exact I (f i) B ((A i g).trans hi)
theorem call {f:FuncId} {args:Γ} {P:ξ->Ψ} (h:St G F As) (s:aj prog f args G P):aj prog f args F λr B=>∃w,P r w/\St w B As:=by
 refine (s.upon h.le).mono λr B ⟨w,J,E,H⟩=>⟨w,J,E,?_⟩;obtain ⟨C,L,K⟩:=h.ex;refine ⟨C,λi A hi=> ?_,K⟩;obtain ⟨D,I,M⟩:=L i A hi;have key:∀b o,C i b=mB o->B b=mB o/\w b=nC:=λb o g=>by
  rcases I b with e|e
  ·exact H b o e (M b o g)
  ·rw [e] at g;cases g
 refine ⟨D,λb=> ?_,λb o g=>(key b o g).1⟩;cases e:C i b with
 |none=>exact .inr rfl
 |some o=>exact .inl (key b o e).2
theorem run {f:FuncId} {args:Γ} {P:ξ->Ψ} {Q:ξ->Ψ} (h:St G F As) (s:aj prog f args G λr g=>P r g/\G.le g) (k:∀r g w,P r g->G.le g->St g w As->Q r w):aj prog f args F Q:=
 (h.call s).mono λr w ⟨g,⟨C,A⟩,B⟩=>k r g w C A B
theorem runv {f:FuncId} {args:Γ} {v:ξ} {Q:ξ->Ψ} (h:St G F As) (s:aj prog f args G λr g=>r=v/\G.le g) (k:∀g w,G.le g->St g w As->Q v w):aj prog f args F Q:=
 (h.call s).mono λr w ⟨g,⟨C,A⟩,B⟩=>by rw [C];exact k g w A B
def VZ (G:PH) (Hs:Nat->PH):Nat->PH
 |0=>G
 |n+1=>(VZ G Hs n).and (Hs n)
theorem rS {G:PH} {Hs:Nat->PH} {b:Nat}:∀{n:Nat},VZ G Hs n b=nC↔G b=nC/\∀i,i<n->Hs i b=nC
 |0=>⟨λh=>⟨h,λi hi=>by omega⟩,λh=>h.1⟩
 |n+1=>by
  have ih:=rS (G:=G) (Hs:=Hs) (b:=b) (n:=n);constructor
  ·intro h;have g:VZ G Hs n b=nC:=by
    cases e:VZ G Hs n b with
    |none=>rfl
    |some o=>rw [VZ,PH.and_left e] at h;cases h
   rw [VZ,PH.and_right g] at h;refine ⟨(ih.1 g).1,λi hi=> ?_⟩;by_cases e:i=n
   ·rw [e];exact h
   ·exact (ih.1 g).2 i (by omega)
  ·intro h;have g:=ih.2 ⟨h.1,λi hi=>h.2 i (by omega)⟩;rw [VZ,PH.and_right g];exact h.2 n (by omega)
theorem I0 {G K:PH} {Hs:Nat->PH} (r:G.le K):∀{n:Nat},(∀i,i<n->(Hs i).le K)->(VZ G Hs n).le K
 |0,_=>r
 |n+1,h=>λb o g=>by
  have ih:=I0 r (n:=n) λi hi=>h i (by omega);cases e:VZ G Hs n b with
  |none=>rw [VZ,PH.and_right e] at g;exact h n (by omega) b o g
  |some w=>rw [VZ,PH.and_left e] at g;rw [<- g];exact ih b _ e
theorem Ja {G:PH} {Hs:Nat->PH}:∀{n:Nat},G.le (VZ G Hs n)
 |0=>au _
 |n+1=>λb o g=>PH.and_left (Ja (n:=n) b o g)
theorem yN {G:PH} {Hs:Nat->PH}:∀{n:Nat} {i:Nat},i<n->(∀i,i<n->Dj G (Hs i))->(∀i j,i<n->j<n->i≠j->Dj (Hs i) (Hs j))->(Hs i).le (VZ G Hs n)
 |0,i,h,_,_=>by omega
 |n+1,i,hi,hd,hp=>λb o g=>by
  by_cases e:i=n
  ·subst e;have w:VZ G Hs i b=nC:=by
    refine rS.2 ⟨?_,λj r=> ?_⟩
    ·rcases hd i (by omega) b with e|e
     ·exact e
     ·rw [e] at g;cases g
    ·rcases hp j i (by omega) (by omega) (by omega) b with e|e
     ·exact e
     ·rw [e] at g;cases g
   rw [VZ,PH.and_right w];exact g
  ·exact PH.and_left (yN (n:=n) (i:=i) (by omega) (λj r=>hd j (by omega)) (λj k r A=>hp j k (by omega) (by omega)) b o g)
theorem callL {f:FuncId} {args:Γ} {Bs Cs:List (Ψ)} {Bs':ξ->PH->List (Ψ)} {P:ξ->Ψ} (h:St G F (Bs++Cs))
  (s:∀H,St G H Bs->aj prog f args H λr N=>∃g,P r g/\G.le g/\St g N (Bs' r g)):
  aj prog f args F λr N=>∃g,P r g/\G.le g/\St g N (Bs' r g++Cs):=by
 obtain ⟨C,W,M⟩:=h.ex;have J:(Bs++Cs).length=Bs.length+Cs.length:=tT;have Q:∀i,i<Bs.length+Cs.length->Dj G (C i)/\(C i).le F:=λi hi=>(W i _ (N5 (by omega))).2;rw [J] at M;have hU:(VZ G C Bs.length).le F:=I0 h.le λi hi=>(Q i (by omega)).2;have X:St G (VZ G C Bs.length) Bs:=by refine ⟨Ja,C,λi A hi=> ?_,λi j hi w=>M i j (by omega) (by omega)⟩;have O:i<Bs.length:=(N6.1 hi).1;obtain ⟨a1,a2,_⟩:=W i A (by rw [z8 O];exact hi);exact ⟨a1,a2,yN O (λj w=>(Q j (by omega)).1) (λj k w hk=>M j k (by omega) (by omega))⟩
 refine ((s _ X).upon hU).mono ?_;rintro r N ⟨H,⟨g,hp,hg,B⟩,hl,hk⟩;refine ⟨g,hp,hg,aa B.le hl,?_⟩;obtain ⟨Ks,Z,k2⟩:=B.ex;have key:∀i,i<Cs.length->∀b o,C (Bs.length+i) b=mB o->N b=mB o/\H b=nC:=λi hi b o D=>by
  refine hk b o (rS.2 ⟨?_,λj w=> ?_⟩) ((Q (Bs.length+i) (by omega)).2 b o D)
  ·rcases (Q (Bs.length+i) (by omega)).1 b with e|e
   ·exact e
   ·rw [e] at D;cases D
  ·rcases M j (Bs.length+i) (by omega) (by omega) (by omega) b with e|e
   ·exact e
   ·rw [e] at D;cases D
 have V:∀i,i<Cs.length->∀{K:PH},K.le H->Dj K (C (Bs.length+i)):=λi hi {K} hK b=>by
  cases e:C (Bs.length+i) b with
  |none=>exact .inr rfl
  |some o=>exact .inl (aU hK (key i hi b o e).2)
 refine ⟨λj=>if j<(Bs' r g).length then Ks j else C (Bs.length+(j - (Bs' r g).length)),λj A w=> ?_,λj k w U Y=> ?_⟩
 ·dsimp only;by_cases e:j<(Bs' r g).length
  ·rw [Χ e];rw [z8 e] at w;obtain ⟨b1,b2,b3⟩:=Z j A w;exact ⟨b1,b2,aa b3 hl⟩
  ·rw [Υ e];rw [Vm (by omega)] at w;have L:j - (Bs' r g).length<Cs.length:=(N6.1 w).1;refine ⟨(W (Bs.length+(j - (Bs' r g).length)) A ?_).1,V _ L B.le,λb o D=>(key _ L b o D).1⟩;rw [Vm (by omega),show Bs.length+(j - (Bs' r g).length) - Bs.length=j - (Bs' r g).length by omega];exact w
 ·rw [tT] at w U;have I:∀m,m<(Bs' r g).length->(Ks m).le H:=λm hm=>(Z m _ (N5 hm)).2.2;dsimp only;by_cases e:j<(Bs' r g).length
  ·rw [Χ e];by_cases E:k<(Bs' r g).length
   ·rw [Χ E];exact k2 j k e E Y
   ·rw [Υ E];exact V _ (by omega) (I j e)
  ·rw [Υ e];by_cases E:k<(Bs' r g).length
   ·rw [Χ E];exact (V _ (by omega) (I k E)).symm
   ·rw [Υ E];exact M _ _ (by omega) (by omega) (by omega)
theorem new (h:St G F As) {o:Obj} {K:Nat->Ψ} (k:∀b r,St G r (pt b o::As)->K b r):∀b,F b=nC->wn (F.set b o) (K b):=λb w=>by
 refine tP (k b _ (h.push (H:=PH.set (λ_=>nC) b o) (aq _ _ _) (λx g=> ?_) (λx p g=> ?_) (ae o w)))
 ·by_cases e:x=b
  ·rw [e];exact w
  ·rw [aw _ _ e] at g;exact absurd rfl g
 ·by_cases e:x=b
  ·rw [e,aq] at g ⊢;exact g
  ·rw [aw _ _ e] at g;cases g
theorem newG (h:St G F As) {o:Obj} {K:Nat->Ψ} (k:∀b g r,G.le g->g b=mB o->G b=nC->St g r As->K b r):∀b,F b=nC->wn (F.set b o) (K b):=λb E=>by
 refine h.new (K:=K) (λA r B=> ?_) b E;have w:G A=nC:=by
  obtain ⟨H,C,D,_⟩:=B.get (i:=0) rfl;rcases D A with e|e
  ·exact e
  ·rw [C] at e;cases e
 exact B.pinb λg L I J=>k A g r L I w J
theorem ptAt (h:St G F As) {i b:Nat} {o:Obj} (hi:As[i]? =mB (pt b o)):F b=mB o:=by obtain ⟨H,r,_,g⟩:=h.get hi;exact g _ _ r
theorem putAt (h:St G F As) (i:Nat) {b:Nat} {o:Obj} (o':Obj) (hi:As[i]? =mB (pt b o)):St G (F.set b o') (As.set i (pt b o')):=by
 obtain ⟨H,r,C,B,A⟩:=h.set (A':=pt b o') hi;refine A (H.set b o') _ (aq _ _ _) (λx g=> ?_) (λx p g=> ?_) (λx p g w=> ?_)
 ·by_cases e:x=b
  ·rw [e,r];exact .inl (by simp)
  ·rw [aw _ _ e] at g;exact .inl g
 ·by_cases e:x=b
  ·rw [e,aq] at g ⊢;exact g
  ·rw [aw _ _ e] at g ⊢;exact B _ _ g
 ·have e:x≠b:=λe=>by rw [e,r] at w;cases w
  rw [aw _ _ e];exact g
theorem ownAt (h:St G F As) {i:Nat} {s:Sl} {e n:Nat} {vs:Ξ} (hi:As[i]? =mB (own s e n vs)):bO F e n s vs/\∀a,s.qa5=mB a->G a.block=nC:=by
 obtain ⟨H,g,A,C⟩:=h.get hi;refine ⟨bO.upto g C,λa r=> ?_⟩;obtain ⟨w,B⟩:=bO.elem g r;rcases A a.block with e|e
 ·exact e
 ·rw [B] at e;cases e
theorem nilOwn (h:St G F As) (e n:Nat):St G F (own pk e n []::As):=h.push (H:=λ_=>nC) (.inl ⟨rfl,rfl⟩) (λb g=>absurd rfl g) (λb o g=>(by cases g)) (au F)
end
end St
theorem aD {k n:Nat} (h:k<n) (g:n<=9223372036854775807:=by omega):i64.wrap ((k:Int)+1)=((k+1:Nat):Int):=by rw [aL (by omega)];omega
theorem bC {F:PH} (L:(Ω)->Ω) (n:Nat) (Inv:Nat->Ψ) (B:Inv 0 F)
  (step:∀(k:Nat) (F:PH) (N:Ω),k<=n->Inv k F->(∀g,k<n->Inv (k+1) g->N ((k+1:Nat):Int) g)->L N (k:Int) F):
  ∃(I:Nat->Ω) (m:Nat),I m (0:Int) F/\∀m v F,I m v F->L (λy F=>∃r,r<m/\I r y F) v F:=by
 refine ⟨λm i g=>∃k:Nat,i=k/\k<=n/\m=n - k/\Inv k g,n,⟨0,rfl,by omega,rfl,B⟩,?_⟩;rintro m i g ⟨k,rfl,A,rfl,hi⟩;exact step k g _ A hi λw C h=>⟨n - (k+1),by omega,k+1,rfl,by omega,rfl,h⟩
end
