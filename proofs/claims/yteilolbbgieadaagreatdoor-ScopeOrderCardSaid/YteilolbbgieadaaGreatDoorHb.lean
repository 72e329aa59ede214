/-
  A base that stays, and parts beside it that may change: what a heap holds, by parts.
-/
import Derived.Test.YteilolbbgieadaaGreatDoorQw
set_option maxRecDepth 10000
open Option renaming some->V,none->I
open Go.Obj renaming cells->Y
open Bool renaming false->mD,true->nk
open Go.Value renaming agg->nQ,bool->nW,pointer->pk,string->ph,tuple->po,slice->tX
open Go.Addr renaming add->nV,mk->oB
open Int renaming toNat->nX,tmod->sj
noncomputable section
namespace Go.Proofs.YteilolbbgieadaaGreatDoor
open Go.IntKind (i64 u8 u64)
open Sl renaming v->nI,nil->pm
open Go Go.Proofs.Tryz
section
variable {F:PH} {l:List Nd} {s:Sl}
theorem Sq:aF prog 207=nk:=by kernel_rfl
def Xn (l:List Nd) (w:Δ):Prop:=Lg (bN l).pat w
theorem qhp (hT:Tab F) (hs:RdS F s 5 (dF l)) (st:ο) (a0:st.size<=1000000000):ν 173 #[s.v,ph st] F λr M=>(∃q:Bool,r=nW q/\(q=nk↔fJ l=0/\Xn l (bs st)))/\F.le M:=by
 refine qen ?_;unfold Ql;have h:=Lo.start F;refine h.new _ _ λD F1 h=> ?_;refine (h.call (oU hs)).mono ?_;rintro _ F2 ⟨G1,⟨rfl,P⟩,h⟩;refine ⟨_,rfl,λhc=>⟨⟨mD,rfl,λh=>(by cases h),λh=>absurd h.1 hc⟩,aa P h.le⟩,λhc=> ?_⟩;have h0:fJ l=0:=by omega
 obtain ⟨hG,hl⟩:=uO h0;obtain ⟨ns,ht⟩:=iJ hG;refine (h.call (qhN (hT.le P) hG hl (hs.le P))).mono ?_;rintro _ F3 ⟨G,⟨⟨bm,rfl,hM⟩,l2⟩,h⟩;have c3:F3.cell (oB D 0 I)=V (ph st):=by rw [h.cell (b:=D) (w:= #[ph st]) (e:=9) (by simp)];rfl
 refine ⟨_,rfl,_,c3,?_⟩;have j1:∀(C:Nat) (B:Bool) (Q:PH),Lo G Q [(C,#[nW B],4),(D,#[ph st],9)]->(B=nk↔st.size=0/\(bN l).nul=nk)->
   qx D (V ⟨bm,0,I⟩) (V ⟨C,0,I⟩) (λr M=>(∃q:Bool,r=nW q/\(q=nk↔fJ l=0/\Xn l (bs st)))/\F.le M) Q:=λC B Q h X=>by
  unfold qx;refine ⟨_,by rw [h.cell (b:=D) (w:= #[ph st]) (e:=9) (by simp)];rfl,?_⟩
  refine (KM (bm:=bm) (k:=207) (cap:= #[pa D,pa C]) (Inv:=λn M=>∃B:Bool,Lo G M [(C,#[nW B],4),(D,#[ph st],9)]/\(n=0->(B=nk↔st.size=0/\(bN l).nul=nk))/\(0<n->(B=nk↔n=st.size/\Xn l ((bs st).take n)))) Sq hl hG ht (by omega)
   (λn M ⟨b,L,_⟩=>⟨(hT.le (aa P l2)).le L.le,hM.le L.le⟩) ?_ ⟨B,h,λ_=>X,λh=>absurd h (by omega)⟩).mono ?_
  ·rintro n M q hn hq ⟨B,L,_,_⟩;show ν 207 #[U ((n+1:Nat):Int),nW q,pa D,pa C] M _;refine qes ?_;unfold Qq;refine ⟨_,rfl,_,by rw [L.cell (b:=D) (w:= #[ph st]) (e:=9) (by simp)];rfl,λg=>⟨_,rfl,?_⟩,λg=>⟨_,rfl,?_⟩⟩
   ·refine Lo.put1 [] [(D,#[ph st],9)] (b:=C) (i:=0) (w0:= #[nW B]) (w:= #[nW q]) (e:=4) L (by simp) rfl λW h'=> ?_;exact ⟨rfl,q,h',λh=>by omega,λ_=>⟨λh=>⟨by omega,hq.1 h⟩,λh=>hq.2 h.2⟩⟩
   ·refine Lo.put1 [] [(D,#[ph st],9)] (b:=C) (i:=0) (w0:= #[nW B]) (w:= #[nW mD]) (e:=4) L (by simp) rfl λW h'=> ?_;exact ⟨rfl,mD,h',λh=>by omega,λ_=>⟨λh=>(by cases h),λh=>by omega⟩⟩
  ·rintro _ R ⟨rfl,n,G',hn,⟨B,L,hz,hp⟩,l5,N⟩;refine ⟨rfl,_,rfl,B,aK l5 (by rw [L.cell (b:=C) (w:= #[nW B]) (e:=4) (by simp)];rfl),⟨B,rfl,?_⟩,aa P (aa l2 (aa L.le l5))⟩;have A:(bs st).take st.size=bs st:=zh (by rw [de];exact ru _);have J:st.size=0->bs st=[]:=λh=>XZ.1 (by rw [de];exact h);have K:(bN l).nul=nk↔Xn l []:=(bN l).nul_iff;rcases Yh n with e|e
   ·subst e;rw [hz rfl];constructor
    ·rintro ⟨H,E⟩;exact ⟨h0,by rw [J H];exact K.1 E⟩
    ·rintro ⟨_,E⟩;rcases N with g|g
     ·exact ⟨g.symm,K.2 (by rw [<- J g.symm];exact E)⟩
     ·rcases Yh st.size with H|H
      ·exact ⟨H,K.2 (by rw [<- J H];exact E)⟩
      ·exact absurd (by rw [A];exact E) (g st.size H (ru _))
   ·rw [hp e];constructor
    ·rintro ⟨H,E⟩;exact ⟨h0,by rw [H,A] at E;exact E⟩
    ·rintro ⟨_,E⟩;rcases N with g|g
     ·exact ⟨g,by rw [g,A];exact E⟩
     ·by_cases H:n=st.size
      ·exact ⟨H,by rw [H,A];exact E⟩
      ·exact absurd (by rw [A];exact E) (g st.size (by omega) (ru _))
 have O:(st.toList==(ByteArray.mk #[]).toList)=decide (st.size=0):=by
  rw [Km];rw [wm,δ,δ,<- de st];constructor
  ·intro h;rw [h];rfl
  ·intro h;exact XZ.1 h
 dsimp only;rw [O];refine ⟨λg=> ?_,λg=> ?_⟩
 ·have g:=ζ g;obtain ⟨s',bf,qm,_,_⟩:=(hM.le h.le).ex;refine ⟨_,rfl,(bN l).nul,by rw [cz,av qm];rfl,?_⟩;refine h.new _ _ λC Q h=> ?_;refine Lo.put1 [] [(D,#[ph st],9)] (b:=C) (i:=0) (w0:= #[nW mD]) (w:= #[nW (bN l).nul]) (e:=4) h (by simp) rfl λR h=> ?_;exact j1 C _ R h ⟨λh=>⟨g,h⟩,λh=>h.2⟩
 ·have g:=ι g;refine h.new _ _ λC Q h=> ?_;refine Lo.put1 [] [(D,#[ph st],9)] (b:=C) (i:=0) (w0:= #[nW mD]) (w:= #[nW mD]) (e:=4) h (by simp) rfl λR h=> ?_;exact j1 C _ R h ⟨λh=>(by cases h),λh=>absurd h.1 g⟩
end
open Tr
section
theorem JO (d:Nat) (a b:Int) (F:PH):qX prog (Op.equalIn (d+1) 3 (U a) (U b)) F (decide (a=b)):=by simp only [Op.equalIn,am];refine ⟨_,(az underlying3 _).2 rfl,?_⟩;simp only [if_true,cJ];by_cases h:a=b<;>simp [h]
theorem sP (cs:Γ) (off:Nat) (v:ξ) (h:cs[off]? =V v) (F:PH):qX prog (part 3 cs off) F v:=by unfold part;simp only [am];refine ⟨mD,(dr underlying3 _).2 rfl,?_⟩;simp only [VQ,if_false,h];rfl
theorem Eh (e:Bool) (n:Nat) (a:Int) (F:PH):qX prog (Instr.checkKey e (n+1) 3 (U a)) F ():=by simp only [Instr.checkKey,am];refine ⟨_,(az underlying3 _).2 rfl,?_⟩;rfl
theorem aae:prog.stoodInHeld 201=mD:=by kernel_rfl
abbrev LS:=ForInStep (Option Bool×Unit)
theorem dz (n:Nat) (off:Nat) (cs ds:Γ) (x y:Int) (g:cs[off]? =V (U x)) (w:ds[off]? =V (U y)) (F:PH):
  qX prog (do
   let a <- part 3 cs off
   let b <- part 3 ds off
   let r <- Op.equalIn (n+1) 3 a b
   if (!r)=nk then pure (ForInStep.done (V mD,())) else pure (ForInStep.yield (I,())):Sem LS) F (if x=y then .yield (I,()) else .done (V mD,())):=by
 simp only [am];refine ⟨_,sP _ _ _ g F,_,sP _ _ _ w F,_,JO n x y F,?_⟩;by_cases h:x=y
 ·simp [h]
 ·simp [h]
theorem JP (x y:Br) (F:PH):qX prog (Op.equal 201 (nQ (aW x)) (nQ (aW y))) F (decide (x=y)):=by
 unfold Op.equal Op.maxDepth;show qX prog (Op.equalIn (9998+1+1) 201 _ _) _ _;unfold Op.equalIn;simp only [am];refine ⟨_,(az underlying201 _).2 rfl,?_⟩;dsimp only;rw [am];refine ⟨prog,rfl,?_⟩;rw [aae];simp only [VQ,if_false];simp only [List.forIn_toArray,Yo,List.forIn_nil,am];obtain ⟨a,b,c⟩:=x;obtain ⟨d,e,f⟩:=y;rw [if_pos (by decide),if_pos (by decide),if_pos (by decide)];by_cases g:a=d
 ·by_cases h:b=e
  ·by_cases r:c=f
   ·refine ⟨(I,()),⟨_,dz 9998 0 _ _ a d rfl rfl F,?_⟩,?_⟩
    ·rw [Χ g];refine (am _ _ _ _).2 ⟨_,dz 9998 1 _ _ b e rfl rfl F,?_⟩;rw [Χ h];refine (am _ _ _ _).2 ⟨_,dz 9998 2 _ _ c f rfl rfl F,?_⟩;rw [Χ r];rfl
    ·simp [g,h,r]
   ·refine ⟨(V mD,()),⟨_,dz 9998 0 _ _ a d rfl rfl F,?_⟩,?_⟩
    ·rw [Χ g];refine (am _ _ _ _).2 ⟨_,dz 9998 1 _ _ b e rfl rfl F,?_⟩;rw [Χ h];refine (am _ _ _ _).2 ⟨_,dz 9998 2 _ _ c f rfl rfl F,?_⟩;rw [Υ r];rfl
    ·simp [r]
  ·refine ⟨(V mD,()),⟨_,dz 9998 0 _ _ a d rfl rfl F,?_⟩,?_⟩
   ·rw [Χ g];refine (am _ _ _ _).2 ⟨_,dz 9998 1 _ _ b e rfl rfl F,?_⟩;rw [Υ h];rfl
   ·simp [h]
 ·refine ⟨(V mD,()),⟨_,dz 9998 0 _ _ a d rfl rfl F,?_⟩,?_⟩
  ·rw [Υ g];rfl
  ·simp [g]
theorem mK (e:Bool) (n:Nat) (off:Nat) (cs:Γ) (x:Int) (g:cs[off]? =V (U x)) (F:PH):
  qX prog (do
   let a <- part 3 cs off
   Instr.checkKey e (n+1) 3 a
   pure (ForInStep.yield PUnit.unit):Sem (ForInStep PUnit)) F (.yield PUnit.unit):=by
 simp only [am];exact ⟨_,sP _ _ _ g F,_,Eh e n x F,rfl⟩
theorem qdC (e:Bool) (x:Br) (F:PH):qX prog (Instr.checkKey e 10000 201 (.agg (aW x))) F ():=by show qX prog (Instr.checkKey e (9998+1+1) 201 _) _ _;unfold Instr.checkKey;simp only [am];refine ⟨_,(az underlying201 _).2 rfl,?_⟩;dsimp only;simp only [List.forIn_toArray,Yo,List.forIn_nil];rw [if_pos (by decide),if_pos (by decide),if_pos (by decide)];refine (am _ _ _ _).2 ⟨PUnit.unit,(am _ _ _ _).2 ⟨_,mK e 9998 0 _ _ rfl F,(am _ _ _ _).2 ⟨_,mK e 9998 1 _ _ rfl F,(am _ _ _ _).2 ⟨_,mK e 9998 2 _ _ rfl F,rfl⟩⟩⟩,rfl⟩
theorem cG (n:Nat) (i sz:Nat) (h:sz=1) (cs ds:Γ) (x y:Int) (g:cs[i]? =V (U x)) (w:ds[i]? =V (U y)) (F:PH):
  qX prog (do
   let a <- part 3 cs (i*sz)
   let b <- part 3 ds (i*sz)
   let r <- Op.equalIn (n+1) 3 a b
   if (!r)=nk then pure (ForInStep.done (V mD,())) else pure (ForInStep.yield (I,())):Sem LS) F (if x=y then .yield (I,()) else .done (V mD,())):=by
 subst h;rw [xF];exact dz n i cs ds x y g w F
theorem mL (e:Bool) (n:Nat) (i:Nat) (cs:Γ) (x:Int) (g:cs[i]? =V (U x)) (F:PH):
  qX prog (do
   let s <- sizeOf 3
   let a <- part 3 cs (i*s)
   Instr.checkKey e (n+1) 3 a
   pure (ForInStep.yield PUnit.unit):Sem (ForInStep PUnit)) F (.yield PUnit.unit):=by
 refine (am _ _ _ _).2 ⟨1,(bu X6 _).2 rfl,?_⟩;rw [xF];exact mK e n i cs x g F
abbrev dC (x:Int×Int×Int):Γ:= #[U x.1,U x.2.1,U x.2.2]
abbrev B1 (x:Int×Int):Γ:= #[U x.1,U x.2]
theorem eq3 (x y:Int×Int×Int) (F:PH):qX prog (Op.equal 313 (nQ (dC x)) (nQ (dC y))) F (decide (x=y)):=by
 unfold Op.equal Op.maxDepth;show qX prog (Op.equalIn (9998+1+1) 313 _ _) _ _;unfold Op.equalIn;simp only [am];refine ⟨_,(az underlying313 _).2 rfl,?_⟩;dsimp only;refine (am _ _ _ _).2 ⟨1,(bu X6 _).2 rfl,?_⟩;rw [Std.Legacy.Range.forIn_eq_forIn_range'];simp only [Std.Legacy.Range.size,VV,Zk,Nat.div_one,List.range',Yo,List.forIn_nil,x9,Nat.reduceAdd];obtain ⟨a,b,c⟩:=x;obtain ⟨d,e,f⟩:=y;by_cases g:a=d
 ·skip
  by_cases h:b=e
  ·skip
   by_cases r:c=f
   ·skip
    refine (am _ _ _ _).2 ⟨(I,()),(am _ _ _ _).2 ⟨_,cG 9998 0 1 rfl _ _ a d rfl rfl F,?_⟩,?_⟩
    ·skip
     rw [Χ g];refine (am _ _ _ _).2 ⟨_,cG 9998 1 1 rfl _ _ b e rfl rfl F,?_⟩;rw [Χ h];refine (am _ _ _ _).2 ⟨_,cG 9998 2 1 rfl _ _ c f rfl rfl F,?_⟩;rw [Χ r];rfl
    ·simp [g,h,r]
   ·skip
    refine (am _ _ _ _).2 ⟨(V mD,()),(am _ _ _ _).2 ⟨_,cG 9998 0 1 rfl _ _ a d rfl rfl F,?_⟩,?_⟩
    ·skip
     rw [Χ g];refine (am _ _ _ _).2 ⟨_,cG 9998 1 1 rfl _ _ b e rfl rfl F,?_⟩;rw [Χ h];refine (am _ _ _ _).2 ⟨_,cG 9998 2 1 rfl _ _ c f rfl rfl F,?_⟩;rw [Υ r];rfl
    ·simp [g,h,r]
  ·skip
   refine (am _ _ _ _).2 ⟨(V mD,()),(am _ _ _ _).2 ⟨_,cG 9998 0 1 rfl _ _ a d rfl rfl F,?_⟩,?_⟩
   ·skip
    rw [Χ g];refine (am _ _ _ _).2 ⟨_,cG 9998 1 1 rfl _ _ b e rfl rfl F,?_⟩;rw [Υ h];rfl
   ·simp [g,h]
 ·skip
  refine (am _ _ _ _).2 ⟨(V mD,()),(am _ _ _ _).2 ⟨_,cG 9998 0 1 rfl _ _ a d rfl rfl F,?_⟩,?_⟩
  ·skip
   rw [Υ g];rfl
  ·simp [g]
theorem aaf (e:Bool) (x:Int×Int×Int) (F:PH):qX prog (Instr.checkKey e 10000 313 (.agg (dC x))) F ():=by show qX prog (Instr.checkKey e (9998+1+1) 313 _) _ _;unfold Instr.checkKey;simp only [am];refine ⟨_,(az underlying313 _).2 rfl,?_⟩;dsimp only;rw [Std.Legacy.Range.forIn_eq_forIn_range'];simp only [Std.Legacy.Range.size,VV,Zk,Nat.div_one,List.range',Yo,List.forIn_nil,x9,Nat.reduceAdd];refine (am _ _ _ _).2 ⟨PUnit.unit,(am _ _ _ _).2 ⟨_,mL e 9998 0 _ _ rfl F,(am _ _ _ _).2 ⟨_,mL e 9998 1 _ _ rfl F,(am _ _ _ _).2 ⟨_,mL e 9998 2 _ _ rfl F,rfl⟩⟩⟩,rfl⟩
theorem eq2 (x y:Int×Int) (F:PH):qX prog (Op.equal 213 (nQ (B1 x)) (nQ (B1 y))) F (decide (x=y)):=by
 unfold Op.equal Op.maxDepth;show qX prog (Op.equalIn (9998+1+1) 213 _ _) _ _;unfold Op.equalIn;simp only [am];refine ⟨_,(az underlying213 _).2 rfl,?_⟩;dsimp only;refine (am _ _ _ _).2 ⟨1,(bu X6 _).2 rfl,?_⟩;rw [Std.Legacy.Range.forIn_eq_forIn_range'];simp only [Std.Legacy.Range.size,VV,Zk,Nat.div_one,List.range',Yo,List.forIn_nil,x9,Nat.reduceAdd];obtain ⟨a,b⟩:=x;obtain ⟨d,e⟩:=y;by_cases g:a=d
 ·skip
  by_cases h:b=e
  ·skip
   refine (am _ _ _ _).2 ⟨(I,()),(am _ _ _ _).2 ⟨_,cG 9998 0 1 rfl _ _ a d rfl rfl F,?_⟩,?_⟩
   ·skip
    rw [Χ g];refine (am _ _ _ _).2 ⟨_,cG 9998 1 1 rfl _ _ b e rfl rfl F,?_⟩;rw [Χ h];rfl
   ·simp [g,h]
  ·skip
   refine (am _ _ _ _).2 ⟨(V mD,()),(am _ _ _ _).2 ⟨_,cG 9998 0 1 rfl _ _ a d rfl rfl F,?_⟩,?_⟩
   ·skip
    rw [Χ g];refine (am _ _ _ _).2 ⟨_,cG 9998 1 1 rfl _ _ b e rfl rfl F,?_⟩;rw [Υ h];rfl
   ·simp [g,h]
 ·skip
  refine (am _ _ _ _).2 ⟨(V mD,()),(am _ _ _ _).2 ⟨_,cG 9998 0 1 rfl _ _ a d rfl rfl F,?_⟩,?_⟩
  ·skip
   rw [Υ g];rfl
  ·simp [g]
theorem aag (e:Bool) (x:Int×Int) (F:PH):qX prog (Instr.checkKey e 10000 213 (.agg (B1 x))) F ():=by show qX prog (Instr.checkKey e (9998+1+1) 213 _) _ _;unfold Instr.checkKey;simp only [am];refine ⟨_,(az underlying213 _).2 rfl,?_⟩;dsimp only;rw [Std.Legacy.Range.forIn_eq_forIn_range'];simp only [Std.Legacy.Range.size,VV,Zk,Nat.div_one,List.range',Yo,List.forIn_nil,x9,Nat.reduceAdd];refine (am _ _ _ _).2 ⟨PUnit.unit,(am _ _ _ _).2 ⟨_,mL e 9998 0 _ _ rfl F,(am _ _ _ _).2 ⟨_,mL e 9998 1 _ _ rfl F,rfl⟩⟩,rfl⟩
abbrev B2 (x:Br):Value:=nQ (aW x)
abbrev be (x:Int):Value:=U x
theorem M0:pd prog 3 be:=by
 refine ⟨λF a b=> ?_,λF e a=> ?_,λa=> ?_,_,underlying3,.inl λa b=> ?_⟩
 ·unfold Op.equal Op.maxDepth;exact JO 9999 a b F
 ·exact Eh e 9999 a F
 ·unfold Instr.sameBits;simp
 ·unfold Instr.sameNow;simp only [if_true];by_cases h:a=b<;>simp [h]
theorem WD:pd prog 201 B2:=by
 refine ⟨λF a b=>JP a b F,λF e a=>qdC e a F,λa=> ?_,_,underlying201,.inr λa b=> ?_⟩
 ·show Instr.sameBits (9998+1+1) _ _=nk;simp [Instr.sameBits]
 ·rfl
abbrev M1 (x:Int×Int×Int):Value:=nQ (dC x)
theorem aah:pd prog 313 M1:=by
 refine ⟨λF a b=>eq3 a b F,λF e a=>aaf e a F,λa=> ?_,_,underlying313,.inr λa b=> ?_⟩
 ·show Instr.sameBits (9998+1+1) _ _=nk;simp [Instr.sameBits]
 ·rfl
abbrev gD (x:Int×Int):Value:=nQ (B1 x)
theorem aai:pd prog 213 gD:=by
 refine ⟨λF a b=>eq2 a b F,λF e a=>aag e a F,λa=> ?_,_,underlying213,.inr λa b=> ?_⟩
 ·show Instr.sameBits (9998+1+1) _ _=nk;simp [Instr.sameBits]
 ·rfl
theorem aaj:bv prog 4=V (nW mD):=by kernel_rfl
theorem YC:fY prog 278 be (U 0):=⟨_,_,underlying278,X8,M0⟩
theorem Z3:fY prog 246 B2 (U 0):=⟨_,_,underlying246,X8,WD⟩
theorem Z4:fY prog 243 B2 (.bool mD):=⟨_,_,underlying243,aaj,WD⟩
theorem Z2:fY prog 311 M1 (U 0):=⟨_,_,underlying311,X8,aah⟩
theorem B3 {F:PH} {a b:Sl} {x y:List Br} (K:RdS F a 3 (aV x)) (L:RdS F b 3 (aV y)) (W:yq x.length):
  ν 153 #[a.v,b.v] F λv C=>v=nW (decide (x=y))/\C=F:=by
 have Q:=K.blen;have N:=L.blen;refine qeY ?_;unfold Qf;refine ⟨λh=> ?_,λh=> ?_⟩
 ·refine ⟨?_,rfl⟩;have:¬x=y:=by intro e;subst e;omega
  simp [this]
 ·have B:x.length=y.length:=by omega
  refine ⟨λm i C=>∃k:Nat,i=k/\k<=x.length/\m=x.length - k/\C=F/\x.take k=y.take k,x.length,⟨0,rfl,by omega,rfl,rfl,rfl⟩,?_⟩;rintro m i C ⟨k,rfl,R,rfl,rfl,g⟩;unfold EI;refine ⟨λH=> ?_,λM=> ?_⟩
  ·have A:k<x.length:=by omega
   have r:k<y.length:=by omega
   obtain ⟨p,O,J,_⟩:=VX K (N5 A);obtain ⟨q,P,D,_⟩:=VX L (N5 r);refine ⟨p,O,by omega,H,aW x[k],rfl,by simpa using J,q,P,by omega,by omega,aW y[k],rfl,by simpa using D,decide (x[k]=y[k]),λF=>JP x[k] y[k] F,λG=> ?_,λw=> ?_⟩
   ·refine ⟨?_,rfl⟩;have:¬x=y:=by rintro rfl;simp at G
    simp [this]
   ·refine ⟨x.length - (k+1),by omega,k+1,fo (by omega),by omega,rfl,rfl,?_⟩;rw [W4 A,W4 r,g];simp at w;rw [w]
  ·refine ⟨?_,rfl⟩;have E:k=x.length:=by omega
   rw [E,wB,B,wB] at g;simp [g]
theorem od {F:PH} {v w:Γ} {d e:wa} (hd:DV F v d) (N:DV F w e) (M:yq d.1.length):
  ν 117 #[nQ v,nQ w] F λr K=>r=nW (decide (d=e))/\F.le K:=by
 obtain ⟨s,rfl,O⟩:=hd;obtain ⟨t,rfl,P⟩:=N;refine qeK ?_;unfold PT;intro H J;refine tR ?_;have D:=ae (Y #[s.v,U d.2] 33) J;intro L E;refine tR ?_;have A:=ae (Y #[t.v,U e.2] 33) E;have g:F.le _:=λb o h=>A b o (D b o h);have B:=A _ _ (aq F H (Y #[s.v,U d.2] 33));have C:=aq (F.set H (Y #[s.v,U d.2] 33)) L (Y #[t.v,U e.2] 33);generalize (F.set H (Y #[s.v,U d.2] 33)).set L (Y #[t.v,U e.2] 33)=G at*;refine ⟨_,by rw [av B];rfl,_,by rw [av C];rfl,λh=> ?_,λh=> ?_⟩
 ·refine ⟨s,by rw [av B];rfl,t,by rw [av C];rfl,?_⟩;refine (B3 (O.le g) (P.le g) M).mono ?_;rintro _ K ⟨rfl,rfl⟩;refine ⟨_,rfl,?_,g⟩;obtain ⟨W,X⟩:=d;obtain ⟨R,Q⟩:=e;simp only at h;simp [h]
 ·refine ⟨?_,g⟩;have:¬d=e:=by rintro rfl;exact h rfl
  simp [this]
def Xt (S:List Tr) (x:Br):Option ξ:=if x∈brs S then V (U (((brs S).idxOf x+2:Nat):Int)) else I
structure BD (F0 F:PH) (b m:Nat) (S:List Tr):Prop where
 le:F0.le F
 cl:Cl S
 nb:F0 b=I
 nm:F0 m=I
 ex:∃s:Sl,F b=V (Y #[s.v,.map (V m)] 248)/\bO F 201 3 s (aV (brs S))/\∀a,s.qa5=V a->F0 a.block=I
 map:∃o,F m=V o/\dW B2 (Xt S) o
theorem bO.elem {F:PH} {e size:Nat} {s:Sl} {vs:Ξ} (h:bO F e size s vs) {a:Addr} (r:s.qa5=V a):∃g,F a.block=V (Y g e (0,0)):=by
 rcases h with ⟨rfl,rfl⟩|⟨b,g,w,A,_⟩
 ·cases r
 ·rw [w] at r;cases r;exact ⟨g,A⟩
theorem qhb (F:PH):ν 211 #[] F λr H=>∃b m,r=pk (V ⟨b,0,I⟩)/\b≠m/\BD F H b m []:=by
 refine qeU ?_;unfold Qb;intro C B;refine tR ?_;intro E g;refine tR ?_;have w:=ae (.map #[] 0) B;have A:=ae (Y #[tX I 0 0,Value.map (V C)] 248) g;have D:E≠C:=λe=>by rw [e,aq] at g;cases g
 refine ⟨E,C,rfl,D,λb o h=>A b o (w b o h),.nil,aT w g,B,⟨pm,aq _ _ _,.inl ⟨rfl,rfl⟩,λa G=>by cases G⟩,_,A _ _ (aq _ _ _),?_⟩;have:Xt []=λ_=>I:=by funext x;simp [Xt,brs]
 rw [this];exact dW.empty B2
instance (S:List Tr) (t:Tr):Decidable (inn S t):=inferInstanceAs (Decidable (t.isL=nk\/t∈S))
def fj (S:List Tr) (t:Tr):List Tr:=if inn S t then S else S++[t]
theorem sQ {S:List Tr} (w:Cl S) {v:Nat} {l h:Tr} (B:v<64/\v<l.top/\v<h.top/\l.ok/\h.ok):fj (tY h (tY l S)) (mk v l h)=tY (mk v l h) S:=by
 obtain ⟨R,M,N,H,G⟩:=B;obtain ⟨K,A,X,E,L⟩:=bq l S H w;obtain ⟨Q,P,O,J,D⟩:=bq h (tY l S) G K;unfold mk;split
 ·rename_i e;subst e;rw [gz A];unfold fj;rw [Χ A]
 ·rename_i e
  conv=>rhs;unfold tY
  unfold fj;by_cases r:qa7 v l h∈S
  ·have C:=(w.inn_kids (.inr r)).1;have F:=(w.inn_kids (.inr r)).2;rw [Χ r,gz C,gz F,Χ (.inr r)]
  ·rw [Υ r,Υ];rintro (g|g)
   ·cases g
   ·rw [J,E] at g;rcases vj.1 g with g|g
    ·rcases vj.1 g with g|g
     ·exact r g
     ·have:=L _ g;simp only [sz] at this;omega
    ·have:=D _ g;simp only [sz] at this;omega
theorem uC {α r:Type} [DecidableEq α] [DecidableEq r] (f:α->r) (x:α):∀(l:List α),x∈l->(∀y∈l,f y=f x->y=x)->(l.map f).idxOf (f x)=l.idxOf x
 |[],h,_=>by cases h
 |a::l,h,hi=>by
  simp only [xA,List.idxOf_cons];by_cases g:a=x
  ·subst g;simp
  ·have w:¬f a=f x:=λe=>g (hi a (by simp) e);have A:(a==x)=mD:=by simpa using g
   have C:(f a==f x)=mD:=by simpa using w
   rw [A,C];simp only [cond_false];rw [uC f x l (by simpa [Ne.symm g] using h) (λy B=>hi y (by simp [B]))]
theorem iC {S:List Tr} (C:Cl S) {v:Nat} {l h:Tr} (F:inn S l) (D:inn S h):br S (qa7 v l h)∈brs S↔qa7 v l h∈S:=by
 constructor
 ·intro g;obtain ⟨u,A,B⟩:=xv.1 g;obtain ⟨_,E,H,K,rfl,w,r⟩:=C.mem u A;simp only [br,Br.mk.injEq] at B;obtain ⟨G,L,J⟩:=B;rw [<- cM w F (by omega),<- cM r D (by omega),<- show E=v by omega];exact A
 ·intro g;exact List.mem_map_of_mem g
theorem Gu {S:List Tr} (r:Cl S) {v:Nat} {l h:Tr} (g:qa7 v l h∈S):(brs S).idxOf (br S (qa7 v l h))+2=num S (qa7 v l h):=by unfold brs;rw [uC _ _ _ g (λy w e=>LB r w g e)];rfl
theorem JQ {S:List Tr} (A:Cl S) {v:Nat} {l h:Tr} (C:inn S l) (B:inn S h) (D:qa7 v l h ∉ S):
  Xt (S++[qa7 v l h])=λx=>if x=br S (qa7 v l h) then V (U (((S.length+2:Nat):Int))) else Xt S x:=by
 have E:br S (qa7 v l h) ∉ brs S:=λg=>D ((iC A C B).1 g);have w:br S (qa7 v l h)=⟨(v:Int),(num S l:Int),(num S h:Int)⟩:=rfl;funext x;unfold Xt;rw [eC A C B,<- w];by_cases r:x=br S (qa7 v l h)
 ·subst r;rw [Χ rfl,Χ (by simp),List.idxOf_append,Υ E];simp [aO]
 ·rw [Υ r];by_cases g:x∈brs S
  ·rw [Χ g,Χ (by simp [g]),List.idxOf_append,Χ g]
  ·rw [Υ g,Υ (by simp [g,r])]
section
variable {F0 F:PH} {b m:Nat} {S:List Tr}
theorem qic (hd:BD F0 F b m S) {v:Nat} {l h:Tr} (W:inn S l) (hh:inn S h) (hv:v<64/\v<l.top/\v<h.top) (hf:yq (S.length+2)):
  ν 214 #[pk (V ⟨b,0,I⟩),U v,U (num S l),U (num S h)] F λr F'=>r=U (num (fj S (mk v l h)) (mk v l h))/\BD F0 F' b m (fj S (mk v l h)):=by
 have c4:=hd;obtain ⟨d3,Q,a6,a0,⟨s,G,M,b4⟩,ob,K,J⟩:=hd;refine qeX ?_;unfold Qe;refine ⟨λhe=> ?_,λhe=> ?_⟩
 ·obtain rfl:=cM W hh (by omega);have e:mk v l l=l:=by simp [mk]
  rw [e];have e2:fj S l=S:=by unfold fj;rw [Χ W]
  rw [e2];exact ⟨rfl,c4⟩
 have b6:l≠h:=λe=>he (by rw [e]);have d1:mk v l h=qa7 v l h:=by simp [mk,b6]
 have d2:(qa7 v l h).ok:=⟨hv.1,hv.2.1,hv.2.2,b6,Q.inn_ok W,Q.inn_ok hh⟩;rw [d1];intro b9 a8;refine tR ?_;refine Uc (aq _ _ _) rfl rfl (iE ⟨v,num S l,num S h⟩) ?_;rw [aR];have C:=ae (Y (aW ⟨v,num S l,num S h⟩) 201) a8;have P:=aq F b9 (Y (aW ⟨v,num S l,num S h⟩) 201);have a9:br S (qa7 v l h)=⟨(v:Int),(num S l:Int),(num S h:Int)⟩:=rfl;rw [<- a9] at P C;show ∃e6:Addr,_;rw [show (#[U v,U (num S l),U (num S h)]:Γ)=aW (br S (qa7 v l h)) from rfl];have G:=C _ _ G;have K:=C _ _ K;have X:F0.le (F.set b9 (Y (aW (br S (qa7 v l h))) 201)):=λx o O=>C x o (d3 x o O);have e0:∀a,s.qa5=V a->a.block≠b9:=λa A e=>by obtain ⟨D,g⟩:=M.elem A;rw [e,a8] at g;cases g
 have a5:∀a,s.qa5=V a->(∃D,(F.set b9 (Y (aW (br S (qa7 v l h))) 201)) a.block=V (Y D 201 (0,0))):=λa A=>by obtain ⟨D,g⟩:=M.elem A;exact ⟨D,C _ _ g⟩
 replace M:bO (F.set b9 (Y (aW (br S (qa7 v l h))) 201)) 201 3 s (aV (brs S)):=M.keep λa A=>by obtain ⟨D,g⟩:=M.elem A;rw [g,C _ _ g]
 generalize F.set b9 (Y (aW (br S (qa7 v l h))) 201)=F1 at*;refine ⟨_,rfl,V m,by simp only [aI];rw [av G];rfl,aW (br S (qa7 v l h)),rfl,ai P,?_⟩;have R:=bL (F:=F1) Z3 K J (br S (qa7 v l h)) nk;by_cases w:qa7 v l h∈S
 ·have O:=(iC Q W hh).2 w;have e1:Xt S (br S (qa7 v l h))=V (U (num S (qa7 v l h))):=by unfold Xt;rw [Χ O,Gu Q w]
  rw [e1] at R;refine ⟨_,_,R,λhc=>(by cases hc),λ_=> ?_⟩;have e2:fj S (qa7 v l h)=S:=by unfold fj;rw [Χ (.inr w)]
  rw [e2];exact ⟨rfl,X,Q,a6,a0,⟨s,G,M,b4⟩,ob,K,J⟩
 ·have O:br S (qa7 v l h) ∉ brs S:=λO=>w ((iC Q W hh).1 O);have e1:Xt S (br S (qa7 v l h))=I:=by unfold Xt;rw [Υ O]
  rw [e1] at R;have e2:fj S (qa7 v l h)=S++[qa7 v l h]:=by
   unfold fj;rw [Υ];rintro (hc|hc)
   ·cases hc
   ·exact w hc
  rw [e2];have b0:Cl (S++[qa7 v l h]):=.snoc Q W hh d2 w;refine ⟨_,_,R,λ_=> ?_,λhc=>(by cases hc)⟩;refine ⟨s,by rw [av G];rfl,aW (br S (qa7 v l h)),rfl,ai P,rfl,λN b3=> ?_⟩;refine tR ?_;have B:=ae (Y (aW (br S (qa7 v l h))) 201) b3;have c8:=aq F1 N (Y (aW (br S (qa7 v l h))) 201);have G:=B _ _ G;have K:=B _ _ K;have P:=B _ _ P;have b8:F0.le (F1.set N (Y (aW (br S (qa7 v l h))) 201)):=λx o O=>B x o (X x o O);replace M:bO (F1.set N (Y (aW (br S (qa7 v l h))) 201)) 201 3 s (aV (brs S)):=M.keep λa A=>by obtain ⟨D,g⟩:=a5 a A;rw [g,B _ _ g]
  generalize F1.set N (Y (aW (br S (qa7 v l h))) 201)=F2 at*;have H:=M.rd.blen;rw [aO] at H;refine iO underlying31 Fy Fz rfl (by decide) b8 M b4 (x:=⟨V ⟨N,0,I⟩,1,1⟩) (news:=dg (br S (qa7 v l h))) (RdS.new c8 rfl rfl (ru _)) (λx O=>jp [br S (qa7 v l h)] x (by simpa [aV] using O)) (by simp only [H];omega) (by simp only [H];omega) ?_;intro E F3 b2 b5 a4 d4 a1 e5;have c3:∀a,s.qa5=V a->a.block≠b:=λa A e=>by obtain ⟨D,g⟩:=M.elem A;rw [e,G] at g;cases g
  have d0:∀a,s.qa5=V a->a.block≠m:=λa A e=>by obtain ⟨D,g⟩:=M.elem A;obtain ⟨es,c,L,rfl,_⟩:=J;rw [e,K] at g;cases g
  have G:=a1 _ _ G (λ⟨a,A,e⟩=>c3 a A e);have K:=a1 _ _ K (λ⟨a,A,e⟩=>d0 a A e);have P:=a1 _ _ P (λ⟨a,A,e⟩=>e0 a A e);refine ⟨E,rfl,?_⟩;refine Wq G (by simp) ?_;have b7:b≠m:=λe=>by obtain ⟨es,c,L,rfl,_⟩:=J;rw [e,K] at G;cases G
  have e4:b9≠b:=λe=>by rw [e,G] at P;cases P
  have c2:∀a,E.qa5=V a->a.block≠b/\a.block≠m:=λa A=>by
   obtain ⟨D,g⟩:=b5.elem A;refine ⟨λe=> ?_,λe=> ?_⟩
   ·rw [e,G] at g;cases g
   ·obtain ⟨es,c,L,rfl,_⟩:=J;rw [e,K] at g;cases g
  have b1:F0.le (F3.set b (Y (#[E.v,Value.map (V m)]:Γ) 248)):=aB b2 a6;have a3:=aq F3 b (Y (#[E.v,Value.map (V m)]:Γ) 248);have c5:(F3.set b (Y (#[E.v,Value.map (V m)]:Γ) 248)) m=V ob:=by rw [aw _ _ b7.symm];exact K
  have c6:(F3.set b (Y (#[E.v,Value.map (V m)]:Γ) 248)) b9=V (Y (aW (br S (qa7 v l h))) 201):=by rw [aw _ _ e4];exact P
  have c7:bO (F3.set b (Y (#[E.v,Value.map (V m)]:Γ) 248)) 201 3 E (aV (brs S)++dg (br S (qa7 v l h))):=b5.keep λa A=>aw _ _ (c2 a A).1;rw [show (#[s.v,Value.map (V m)].setIfInBounds 0 E.v:Γ)= #[E.v,Value.map (V m)] from rfl];generalize F3.set b (Y (#[E.v,Value.map (V m)]:Γ) 248)=F4 at*;have a2:E.len=S.length+1:=by rw [a4,H]
  refine ⟨E,by rw [av a3];rfl,V m,by simp only [aI];rw [av a3];rfl,aW (br S (qa7 v l h)),rfl,ai c6,?_⟩;refine bj Z3 c5 J (br S (qa7 v l h)) _ λo' a7=> ?_;have hw:i64.wrap ((E.len:Int)+1)=((S.length+2:Nat):Int):=by rw [a2,aJ (by omega)];omega
  rw [hw] at a7 ⊢;refine ⟨?_,aB b1 a0,b0,a6,a0,⟨E,by rw [aw _ _ b7];exact a3,?_,d4⟩,o',aq _ _ _,by rw [JQ Q W hh w];exact a7⟩
  ·have c9:=dQ b0 (k:=S.length) (t:=qa7 v l h) (by simp);rw [c9]
  ·have e3:aV (brs (S++[qa7 v l h]))=aV (brs S)++dg (br S (qa7 v l h)):=by rw [eC Q W hh,<- a9,ee];simp [aV]
   rw [e3];exact c7.keep λa A=>aw _ _ (c2 a A).2
end
theorem cW {α:Type} [DecidableEq α]:∀(l m:List α),l.Nodup->(∀x∈l,x∈m)->l.length<=m.length
 |[],_,_,_=>yA _
 |a::l,m,hn,hs=>by rw [WT] at hn;have g:=hs a (by simp);have h:=cW l (m.erase a) hn.2 (λx r=>(List.mem_erase_of_ne (by rintro rfl;exact hn.1 r)).2 (hs x (by simp [r])));rw [List.length_erase_of_mem g] at h;have:=List.length_pos_of_mem g;simp only [wg];omega
theorem JR:aF prog 182=nk:=by kernel_rfl
def Xg (S0 S:List Tr) (n:Int):Option ξ:=
 if 0<=n/\n<=(S0.length:Int)+1/\inn S (tr S0 n.toNat) then V (U (num S (tr S0 n.toNat):Int)) else I
theorem qr {g S:List Tr} (r:Cl g) {t:Tr} (h:inn g t) (hi:inn S t):Xg g S (num g t)=V (U (num S t)):=by have w:=dP h;unfold Xg;rw [N4,oC r h,Χ ⟨by omega,by omega,hi⟩]
theorem JS {g S:List Tr} (r:Cl g) {t:Tr} (w:inn g t) (hi:¬inn S t):Xg g S (num g t)=I:=by unfold Xg;rw [N4,oC r w,Υ (λh=>hi h.2.2)]
theorem JT {g S:List Tr} (C:Cl g) (_:Cl S) {t:Tr} (D:inn g t) (w:Cl (S++[t])):
  Xg g (S++[t])=λn=>if n=(num g t:Int) then V (U (((S.length+2:Nat)):Int)) else Xg g S n:=by
 funext n;by_cases B:n=(num g t:Int)
 ·subst B;rw [Χ rfl,qr C D (.inr (by simp)),dQ w (k:=S.length) (by simp)]
 ·rw [Υ B];unfold Xg;by_cases r:0<=n/\n<=(g.length:Int)+1
  ·have A:tr g n.toNat≠t:=λe=>by have:=f7 C (n:=n.toNat) (by omega);rw [e] at this;omega
   by_cases hi:inn S (tr g n.toNat)
   ·rw [Χ ⟨r.1,r.2,bX hi⟩,Χ ⟨r.1,r.2,hi⟩,bM hi]
   ·rw [Υ,Υ (λh=>hi h.2.2)];rintro ⟨_,_,h|h⟩
    ·exact hi (.inl h)
    ·rcases vj.1 h with h|h
     ·exact hi (.inr h)
     ·exact A (vu.1 h)
  ·rw [Υ (λh=>r ⟨h.1,h.2.1⟩),Υ (λh=>r ⟨h.1,h.2.1⟩)]
theorem M2 {g:List Tr} (w:Cl g):Xg g []=λn=>if n=1 then V (U 1) else if n=0 then V (U 0) else I:=by
 funext n;unfold Xg;by_cases h:n=1
 ·subst h;have e:tr g (nX 1)=qa6 nk:=rfl;rw [Χ rfl,e,Χ ⟨by omega,by omega,fZ _ _⟩];rfl
 ·rw [Υ h];by_cases r:n=0
  ·subst r;have e:tr g (nX 0)=qa6 mD:=rfl;rw [Χ rfl,e,Χ ⟨by omega,by omega,fZ _ _⟩];rfl
  ·rw [Υ r,Υ];rintro ⟨a,b,c|c⟩
   ·have B:inn g (tr g n.toNat):=gI (by omega);have A:=f7 w (n:=n.toNat) (by omega);generalize tr g n.toNat=t at*;cases t with
    |qa6 x=>have:=cK g x;omega
    |qa7 _ _ _=>cases c
   ·cases c
structure VE (F0:PH) (b6 b2 b7 b5 M b:Nat) (ns:Sl) (S0:List Tr):Prop where
 c6:F0.cell ⟨b6,0,I⟩=V (.map (V M))
 c2:F0.cell ⟨b2,0,I⟩=V (pk (V ⟨b,0,I⟩))
 c7:F0.cell ⟨b7,0,I⟩=V (.func (.func 182) #[] #[pk (V ⟨b6,0,I⟩),pk (V ⟨b2,0,I⟩),pk (V ⟨b7,0,I⟩),pk (V ⟨b5,0,I⟩)])
 cb:F0.cell ⟨b,0,I⟩=V ns.v
 rd:RdS F0 ns 3 (aV (brs S0))
theorem VE.le {F0 G:PH} {w r C A M b:Nat} {ns:Sl} {B:List Tr} (h:VE F0 w r C A M b ns B) (g:F0.le G):VE G w r C A M b ns B:=
 ⟨aK g h.c6,aK g h.c2,aK g h.c7,aK g h.cb,h.rd.le g⟩
structure VS (F0 F:PH) (b5 M:Nat) (S0 S:List Tr):Prop where
 le:F0.le F
 cl:Cl S
 sub:∀x∈S,x∈S0
 n5:F0 b5=I
 nM:F0 M=I
 ex:∃(s:Sl),F b5=V (Y #[s.v,U 0] 33)/\bO F 201 3 s (aV (brs S))/\∀a,s.qa5=V a->F0 a.block=I
 map:∃o,F M=V o/\dW be (Xg S0 S) o
theorem bO.upto {F G:PH} {e size:Nat} {s:Sl} {vs:Ξ} (h:bO F e size s vs) (B:F.le G):bO G e size s vs:=by
 rcases h with h|⟨b,g,r,w,A⟩
 ·exact .inl h
 ·exact .inr ⟨b,g,r,B _ _ w,A⟩
theorem B4 {b6 b2 b7 K M b:Nat} {ns:Sl} {w:List Tr} (h0:Cl w) (hf:yq (w.length+4)):∀(t:Tr),inn w t->∀(F0 F:PH) (S:List Tr),VE F0 b6 b2 b7 K M b ns w->VS F0 F K M w S->
  ν 182 #[U (num w t),pk (V ⟨b6,0,I⟩),pk (V ⟨b2,0,I⟩),pk (V ⟨b7,0,I⟩),pk (V ⟨K,0,I⟩)] F
   λr F'=>r=U (num (tY t S) t)/\VS F0 F' K M w (tY t S):=by
 intro t;induction t with
 |qa6 x=>intro ht F0 F S he hs;have d0:=hs;obtain ⟨C,hS,a9,c4,c3,⟨s,h5,ho,g9⟩,o,hM,a3⟩:=hs;refine P0 ?_;unfold Kk;have J:=bL (F:=F) YC hM a3 (num w (qa6 x)) nk;rw [qr h0 ht (fZ _ _)] at J;exact ⟨_,rfl,_,aK C he.c6,_,_,J,λ_=>⟨rfl,d0⟩,λhc=>by cases hc⟩
 |qa7 v l h i3 h4=>
  intro ht F0 F S he hs;have d0:=hs;obtain ⟨C,hS,a9,c4,c3,⟨s,h5,ho,g9⟩,o,hM,a3⟩:=hs;have g3:=cC ht rfl;obtain ⟨h2,i0⟩:=h0.inn_kids ht;have d3:=h0.inn_ok ht;refine P0 ?_;unfold Kk;have J:=bL (F:=F) YC hM a3 (num w (qa7 v l h)) nk;by_cases a4:qa7 v l h∈S
  ·rw [qr h0 ht (.inr a4)] at J;have e:tY (qa7 v l h) S=S:=gz (.inr a4);rw [e];exact ⟨_,rfl,_,aK C he.c6,_,_,J,λ_=>⟨rfl,d0⟩,λhc=>by cases hc⟩
  ·have g5:¬inn S (qa7 v l h):=by
    rintro (hc|hc)
    ·cases hc
    ·exact a4 hc
   rw [JS h0 ht g5] at J;have hw:=oT (n:=num w (qa7 v l h)) (by have:=dP ht;omega) (cY rfl);have j4:=dP ht;have j7:=cY (S:=w) (t:=qa7 v l h) rfl;obtain ⟨a,B,f4,_⟩:=VX (he.rd.le C) (jX (eB g3 rfl));have h1:=he.rd.blen;rw [aO] at h1;refine ⟨_,rfl,_,aK C he.c6,_,_,J,λhc=>(by cases hc),λ_=> ?_⟩;refine ⟨_,rfl,_,aK C he.c2,_,rfl,ns,aK C he.cb,a,B,by rw [hw];omega,by rw [hw];omega,aW (br w (qa7 v l h)),rfl,by rw [hw];exact f4,?_⟩;intro O a2;refine tR ?_;refine Uc (aq _ _ _) rfl rfl (iE _) ?_;rw [aR];have e8:F0 O=I:=aT C a2;have W:VE (F0.set O (Y (aW (br w (qa7 v l h))) 201)) b6 b2 b7 K M b ns w:=he.le (ae _ e8);have a7:K≠O:=aH a2 h5;have b0:M≠O:=aH a2 hM;have f3:(F0.set O (Y (aW (br w (qa7 v l h))) 201)).le (F.set O (Y (aW (br w (qa7 v l h))) 201)):=λx ob H=>by
    by_cases f6:x=O
    ·subst f6;rw [aq] at H ⊢;exact H
    ·rw [aw _ _ f6] at H ⊢;exact C _ _ H
   have c5:VS (F0.set O (Y (aW (br w (qa7 v l h))) 201)) (F.set O (Y (aW (br w (qa7 v l h))) 201)) K M w S:=by refine ⟨f3,hS,a9,by rw [aw _ _ a7];exact c4,by rw [aw _ _ b0];exact c3,⟨s,by rw [aw _ _ a7];exact h5,ho.upto (ae _ a2),λa B=> ?_⟩,o,by rw [aw _ _ b0];exact hM,a3⟩;obtain ⟨d2,g⟩:=ho.elem B;rw [aw _ _ (aH a2 g)];exact g9 a B
   have b1:F0.le (F0.set O (Y (aW (br w (qa7 v l h))) 201)):=ae _ e8;have d4:(F0.set O (Y (aW (br w (qa7 v l h))) 201)) O=V (Y (aW (br w (qa7 v l h))) 201):=aq _ _ _;generalize F0.set O (Y (aW (br w (qa7 v l h))) 201)=G0 at*;generalize F.set O (Y (aW (br w (qa7 v l h))) 201)=F1 at*;refine ⟨_,rfl,_,aK c5.le W.c7,_,by rw [av (c5.le _ _ d4)];rfl,_,_,_,rfl,JR,?_⟩;refine (i3 h2 G0 F1 S W c5).mono ?_;rintro _ F2 ⟨rfl,b8⟩;refine ⟨_,rfl,_,aK b8.le W.c7,_,by rw [av (b8.le _ _ d4)];rfl,_,_,_,rfl,JR,?_⟩;refine (h4 i0 G0 F2 _ W b8).mono ?_;rintro _ F3 ⟨rfl,f9⟩;have j0:=f9;obtain ⟨E,e1,a1,e7,e6,⟨s3,A,R,g1⟩,o3,G,N⟩:=f9;obtain ⟨h7,f5,X,j1,j6⟩:=bq l S d3.2.2.2.2.1 hS;obtain ⟨j2,i2,z0,e4,j3⟩:=bq h (tY l S) d3.2.2.2.2.2 h7;have g6:num (tY l S) l=num (tY h (tY l S)) l:=by rw [e4,bM f5]
   have g4:tY (qa7 v l h) S=tY h (tY l S)++[qa7 v l h]:=by
    conv=>lhs;unfold tY
    rw [Υ a4]
   obtain ⟨e0,_,_⟩:=bq (qa7 v l h) S d3 hS;rw [g4] at e0 ⊢;rw [g6];have g8:inn (tY h (tY l S)) l:=by rw [e4];exact bX f5
   generalize tY h (tY l S)=T at*;refine ⟨_,rfl,_,rfl,s3,by rw [av A];rfl,_,by rw [av (E _ _ d4)];rfl,rfl,λa0 a8=> ?_⟩;refine tR ?_;have i1:G0 a0=I:=aT E a8;have j5:T.length<=w.length:=cW T w e1.nodup a1;have P:=R.rd.blen;rw [aO] at P;have ex:(#[U (v:Int),U (num T l:Int),U (num T h:Int)]:Γ)=aW ⟨(v:Int),(num T l:Int),(num T h:Int)⟩:=rfl;have D:=ae (Y (aW ⟨(v:Int),(num T l:Int),(num T h:Int)⟩) 201) a8;have h9:=aq F3 a0 (Y (aW ⟨(v:Int),(num T l:Int),(num T h:Int)⟩) 201);show aG prog _ (F3.set a0 (Y (aW ⟨(v:Int),(num T l:Int),(num T h:Int)⟩) 201)) _;replace E:G0.le (F3.set a0 (Y (aW ⟨(v:Int),(num T l:Int),(num T h:Int)⟩) 201)):=λx ob H=>D _ _ (E _ _ H);have R:=R.upto D;have A:=D _ _ A;have G:=D _ _ G;generalize F3.set a0 (Y (aW ⟨(v:Int),(num T l:Int),(num T h:Int)⟩) 201)=F4 at*;refine iO underlying31 Fy Fz rfl (by decide) E R g1 (x:=⟨V ⟨a0,0,I⟩,1,1⟩) (news:=dg ⟨(v:Int),(num T l:Int),(num T h:Int)⟩) (RdS.new h9 rfl rfl (ru _))
    (λx H=>jp [⟨(v:Int),(num T l:Int),(num T h:Int)⟩] x (by simpa [aV] using H)) (by simp only [P];omega) (by simp only [P];omega) ?_
   intro Q F5 g2 f1 c9 g7 e2 _;have h3:∀a,s3.qa5=V a->a.block≠K:=λa B e=>by obtain ⟨d2,g⟩:=R.elem B;rw [e,A] at g;cases g
   have h6:∀a,s3.qa5=V a->a.block≠M:=λa B e=>by obtain ⟨d2,g⟩:=R.elem B;obtain ⟨es,c,L,rfl,_⟩:=N;rw [e,G] at g;cases g
   have A:=e2 _ _ A (λ⟨a,B,e⟩=>h3 a B e);have G:=e2 _ _ G (λ⟨a,B,e⟩=>h6 a B e);have e5:K≠M:=λe=>by obtain ⟨es,c,L,rfl,_⟩:=N;rw [e,G] at A;cases A
   have b3:∀a,Q.qa5=V a->a.block≠K/\a.block≠M:=λa B=>by
    obtain ⟨d2,g⟩:=f1.elem B;refine ⟨λe=> ?_,λe=> ?_⟩
    ·rw [e,A] at g;cases g
    ·obtain ⟨es,c,L,rfl,_⟩:=N;rw [e,G] at g;cases g
   refine ⟨Q,rfl,?_⟩;refine Wq A (by simp) ?_;rw [show (#[s3.v,U 0].setIfInBounds 0 Q.v:Γ)= #[Q.v,U 0] from rfl];have a5:G0.le (F5.set K (Y #[Q.v,U 0] 33)):=aB g2 e7;have e9:=aq F5 K (Y #[Q.v,U 0] 33);have h8:(F5.set K (Y #[Q.v,U 0] 33)) M=V o3:=by rw [aw _ _ e5.symm];exact G
   have i4:bO (F5.set K (Y #[Q.v,U 0] 33)) 201 3 Q _:=f1.keep λa B=>aw _ _ (b3 a B).1;generalize F5.set K (Y #[Q.v,U 0] 33)=F6 at*;have c8:Q.len=T.length+1:=by rw [c9,P]
   have i5:i64.wrap ((Q.len:Int)+1)=((T.length+2:Nat):Int):=by rw [c8,aJ (by omega)];omega
   refine ⟨_,aK a5 W.c6,Q,by rw [av e9];rfl,?_⟩;dsimp only;rw [i5];refine bj YC h8 N (num w (qa7 v l h):Int) _ λo' d1=> ?_;rw [<- JT h0 e1 ht e0] at d1;have a6:G0.le (F6.set M o'):=aB a5 e6;have b4:=bL (F:=F6.set M o') YC (aq F6 M o') d1 (num w (qa7 v l h)) mD;rw [qr h0 ht (.inr (by simp))] at b4;refine ⟨_,aK a6 W.c6,_,b4,rfl,λx ob H=>a6 _ _ (b1 _ _ H),e0,λx H=> ?_,c4,c3,⟨Q,by rw [aw _ _ e5];exact e9,?_,λa B=>aT b1 (g7 a B)⟩,o',aq _ _ _,d1⟩
   ·rcases vj.1 H with H|H
    ·exact a1 x H
    ·rw [vu.1 H];exact g3
   ·have e3:aV (brs (T++[qa7 v l h]))=aV (brs T)++dg ⟨(v:Int),(num T l:Int),(num T h:Int)⟩:=by rw [eC e1 g8 i2,ee];simp [aV]
    rw [e3];exact i4.keep λa B=>aw _ _ (b3 a B).2
def oe (F:PH) (a b:Nat):PH:=λx=>if x=a\/x=b then I else F x
theorem M3 (F:PH) (a b:Nat):(oe F a b).le F:=λx o h=>by
 unfold oe at h;split at h
 ·cases h
 ·exact h
theorem mM {F:PH} {a b x:Nat} (g:x≠a) (h:x≠b):oe F a b x=F x:=by simp [oe,g,h]
theorem Sr (F:PH) (a b:Nat):oe F a b a=I:=by simp [oe]
theorem Ss (F:PH) (a b:Nat):oe F a b b=I:=by simp [oe]
theorem M4 {F G:PH} {a b:Nat} (h:F.le G) (A:F a=I) (B:F b=I):F.le (oe G a b):=λx o g=>by
 have r:x≠a:=λe=>by rw [e,A] at g;cases g
 have w:x≠b:=λe=>by rw [e,B] at g;cases g
 rw [mM r w];exact h _ _ g
theorem PH.le.trans {F G H:PH} (h:F.le G) (k:G.le H):F.le H:=λ_ _ g=>k _ _ (h _ _ g)
section
variable {F:PH} {b:Nat} {ns:Sl} {S0:List Tr} {t:Tr}
theorem mN (hb:F.cell ⟨b,0,I⟩=V ns.v) (hr:RdS F ns 3 (aV (brs S0))) (h0:Cl S0) (ht:inn S0 t) (hf:yq (S0.length+4)):
  ν 147 #[pk (V ⟨b,0,I⟩),U (num S0 t)] F λr F'=>∃v,r=nQ v/\DV F' v (pj t)/\F.le F':=by
 have c4:=h0.inn_ok ht;refine qeM ?_;unfold PV;intro X b3;refine tR ?_;have l2:=ae (Y #[pk (V ⟨b,0,I⟩)] 245) b3;have C:=aq F X (Y #[pk (V ⟨b,0,I⟩)] 245);generalize F.set X (Y #[pk (V ⟨b,0,I⟩)] 245)=F2 at*;intro K a1;refine tR ?_;have l4:=ae (Y zD 33) a1;have D:=aq F2 K (Y zD 33);have C:=l4 _ _ C;have f4:F K=I:=aT l2 a1;have l4:=l2.trans l4;generalize F2.set K (Y zD 33)=F4 at*;intro A H;refine tR ?_;have b1:X≠A:=aH H C;have a4:K≠A:=aH H D;refine Uc (aq _ _ _) rfl rfl (λx g=> ?_) ?_
 ·simp only [tS,WO,or_false] at g;rcases g with rfl|rfl
  ·exact Lu (x:=pm)
  ·exact jv
 rw [aR];have W:=ae (Y zD 33) H;have E:=aq F4 A (Y zD 33);have C:=W _ _ C;have D:=W _ _ D;have f5:F A=I:=aT l4 H;have W:=l4.trans W;generalize F4.set A (Y zD 33)=F5 at*;intro h w;refine tR ?_;have f9:F h=I:=aT W w;have a7:X≠h:=aH w C;have c2:K≠h:=aH w D;have c5:A≠h:=aH w E;refine bj YC (aq _ _ _) (dW.empty be) 0 (U 0) λo1 a6=> ?_;rw [aR];refine bj YC (aq _ _ _) a6 1 (U 1) λJ a0=> ?_;rw [aR];have hn:Xg S0 []=(λk'=>if k'=1 then V (U 1) else if k'=0 then V (U 0) else I):=M2 h0;rw [<- hn] at a0;have l9:F.le (F5.set h J):=W.trans (ae J w);have O:=aq F5 h J;have C:=ae J w _ _ C;have D:=ae J w _ _ D;have E:=ae J w _ _ E;generalize F5.set h J=F9 at*;intro P M;refine tR ?_;refine Wq (aq _ _ _) (by simp) ?_;rw [aR,show (#[Value.map I].setIfInBounds 0 (Value.map (V h)):Γ)= #[Value.map (V h)] from rfl];have b8:P≠A:=(aH M E).symm;have b0:P≠h:=(aH M O).symm;have g:=ae (Y #[Value.map (V h)] 278) M;have h6:=aq F9 P (Y #[Value.map (V h)] 278);have l6:F.le (F9.set P (Y #[Value.map (V h)] 278)):=l9.trans g;have C:=g _ _ C;have D:=g _ _ D;have E:=g _ _ E;have O:=g _ _ O;clear g;generalize F9.set P (Y #[Value.map (V h)] 278)=F6 at*;intro L Q;refine tR ?_;refine Wq (aq _ _ _) (by simp) ?_;rw [aR];generalize a3:(Value.func (.func 182) #[] #[(pk (V (oB P 0 I))),(pk (V (oB X 0 I))),(pk (V (oB L 0 I))),(pk (V (oB A 0 I)))])=R;rw [show (#[Value.nilFunc].setIfInBounds (oB L 0 I).off R:Γ)= #[R] from rfl];have a5:L≠A:=(aH Q E).symm;have a9:L≠h:=(aH Q O).symm;have g:=ae (Y #[R] 149) Q;have h7:=aq F6 L (Y #[R] 149);have l7:F.le (F6.set L (Y #[R] 149)):=l6.trans g;have C:=g _ _ C;have D:=g _ _ D;have E:=g _ _ E;have O:=g _ _ O;have h6:=g _ _ h6;clear g;generalize F6.set L (Y #[R] 149)=F7 at*;have lF:F.le (oe F7 A h):=M4 l7 f5 f9;have g4:(oe F7 A h) K=_:=(mM a4 c2).trans D;have he:VE (oe F7 A h) P X L A h b ns S0:=by
  refine ⟨?_,?_,?_,aK lF hb,hr.le lF⟩
  ·rw [av ((mM b8 b0).trans h6)];rfl
  ·rw [av ((mM b1 a7).trans C)];rfl
  ·rw [av ((mM a5 a9).trans h7),<- a3];rfl
 have hs:VS (oe F7 A h) F7 A h S0 []:=by refine ⟨M3 _ _ _,.nil,λx g=>(by cases g),Sr _ _ _,Ss _ _ _,⟨pm,E,.inl ⟨rfl,rfl⟩,λa ha=>by cases ha⟩,J,O,a0⟩
 refine ⟨_,by rw [av h7];rfl,_,_,_,a3.symm,JR,?_⟩;refine (B4 h0 hf t ht _ _ _ he hs).mono ?_;rintro _ G ⟨rfl,a8⟩;refine ⟨_,rfl,?_⟩;obtain ⟨N,c6,_,_,_,⟨s,g5,go,gs⟩,_⟩:=a8;have ev:tY t []=aU t:=rfl;rw [ev] at*;refine Wq g5 (by simp) ?_;rw [show (#[s.v,U 0].setIfInBounds 1 (U (num (aU t) t)):Γ)= #[s.v,U (num (aU t) t)] from rfl];refine ⟨#[s.v,U (num (aU t) t)],rfl,ai (aq _ _ _),?_⟩;have k4:(G.set A (Y #[s.v,U (num (aU t) t)] 33)) K=V (Y zD 33):=by rw [aw _ _ a4];exact N _ _ g4
 refine Uc k4 rfl rfl (λx g=> ?_) ?_
 ·simp only [tS,WO,or_false] at g;rcases g with rfl|rfl
  ·exact Lu
  ·exact jv
 refine ⟨#[s.v,U (num (aU t) t)],rfl,ai (aq _ _ _),_,rfl,⟨s,rfl,?_⟩,?_⟩
 ·have a2:∀a,s.qa5=V a->a.block≠A/\a.block≠K:=λa ha=>by
   obtain ⟨c3,B⟩:=go.elem ha;refine ⟨λe=> ?_,λe=> ?_⟩
   ·rw [e,g5] at B;cases B
   ·rw [e,N _ _ g4] at B;cases B
  exact (go.keep λa ha=>by rw [aw _ _ (a2 a ha).2,aw _ _ (a2 a ha).1]).rd
 ·exact aB (aB (lF.trans N) f5) f4
end
def iU (d:wa):Prop:=∃t:Tr,t.ok/\d=pj t
open Classical in
def chk (d:wa):Int:=if 4096<d.1.length then 2 else if iU d then 0 else 20
def zC (S:List Tr) (b:Br):Prop:=∃(v:Nat) (l h:Tr),b=⟨(v:Int),(num S l:Int),(num S h:Int)⟩/\inn S l/\inn S h/\(qa7 v l h).ok/\qa7 v l h ∉ S
theorem JU {T:List Tr} (B:Cl T):∀k,k<T.length->Cl (T.take k)/\∃v l h,T[k]? =V (qa7 v l h)/\inn (T.take k) l/\inn (T.take k) h/\(qa7 v l h).ok/\qa7 v l h ∉ T.take k:=by
 induction B with
 |nil=>intro k w;simp at w
 | @snoc S v l h F O G r C ih=>
  intro k w;by_cases g:k<S.length
  ·obtain ⟨A,K,H,J,D,N,M,L,E⟩:=ih k g;rw [Xi (by omega)];exact ⟨A,K,H,J,by rw [zM g];exact D,N,M,L,E⟩
  ·have e:k=S.length:=by simp at w;omega
   subst e;rw [List.take_left' rfl];exact ⟨F,v,l,h,by simp,O,G,r,C⟩
theorem zE {T:List Tr} {k:Nat} {t:Tr} (h:inn (T.take k) t):num T t=num (T.take k) t:=by have:=bM (X:=T.drop k) h;rw [W5] at this;exact this
theorem JV {T:List Tr} (g:Cl T) (k:Nat):brs (T.take k)=(brs T).take k:=by
 by_cases r:k<T.length
 ·have h:=tJ (X:=T.drop k) (JU g k r).1;rw [W5] at h;rw [h,List.take_left' (by rw [aO,z9];omega)]
 ·rw [zh (by omega),zh (by rw [aO];omega)]
theorem xq {r:List Tr} (w:Cl r):∀(t:Tr) (S:List Tr),inn r t->(∀x∈S,x∈r)->∀x∈tY t S,x∈r
 |qa6 _,_,_,hs=>hs
 |qa7 v l h,S,ht,hs=>by
  obtain ⟨B,A⟩:=w.inn_kids ht;unfold tY;split
  ·exact hs
  ·intro x g;rcases vj.1 g with g|g
   ·exact xq w h _ A (xq w l S B hs) x g
   ·rw [vu.1 g];exact cC ht rfl
theorem M5 {g:List Tr} (h:Cl g) {t:Tr} (r:inn g t):(aU t).length<=g.length:=
 cW _ _ (bz (h.inn_ok r)).nodup (xq h t [] r (λx w=>by cases w))
theorem kE {d:wa} (H:iU d) {S:List Tr} (G:Cl S) {k:Nat} (N:S.length=k) (g:k<d.1.length) (D:brs S=d.1.take k):zC S d.1[k]:=by
 obtain ⟨t,J,rfl⟩:=H;have r:=bz J;have L:k<(aU t).length:=by simpa [pj,aO] using g
 obtain ⟨C,v,l,h,E,B,A,K,F⟩:=JU r k L;have e:S=(aU t).take k:=qN G C (by rw [D,JV r];rfl);subst e;refine ⟨v,l,h,?_,B,A,K,F⟩;have w:=jX E;have M:(brs (aU t))[k]? =V (pj t).1[k]:=N5 (by simpa [pj] using g);rw [M] at w;rw [yR w];simp only [br];rw [zE B,zE A]
theorem cu {S:List Tr} (w:Cl S) {b:Br} (h:zC S b):0<=b.v/\b.v<=63/\0<=b.l/\0<=b.h/\b.l<=S.length+1/\b.h<=S.length+1/\b.l≠b.h/\b ∉ brs S/\
  b.v<(tr S b.l.toNat).top/\b.v<(tr S b.h.toNat).top:=by
 obtain ⟨v,l,h,rfl,r,g,⟨J,D,G,C,K,E⟩,B⟩:=h;have F:=dP r;have H:=dP g;refine ⟨by simp,by simp only;omega,by simp,by simp,by simp only;omega,by simp only;omega,λe=>C (cM r g (by simp only at e;omega)),λA=>B ((iC w r g).1 A),?_,?_⟩
 ·simp only [N4,oC w r];omega
 ·simp only [N4,oC w g];omega
theorem Ei {S:List Tr} (g:Cl S) {b:Br} (E:0<=b.v) (F:b.v<=63) (M:0<=b.l) (L:0<=b.h) (K:b.l<=S.length+1) (G:b.h<=S.length+1) (H:b.l≠b.h) (C:b ∉ brs S)
  (J:b.v<(tr S b.l.toNat).top) (B:b.v<(tr S b.h.toNat).top):zC S b:=by
 have il:inn S (tr S b.l.toNat):=gI (by omega);have ih:inn S (tr S b.h.toNat):=gI (by omega);have r:=f7 g (n:=b.l.toNat) (by omega);have A:=f7 g (n:=b.h.toNat) (by omega);have e:b=⟨((b.v.toNat:Nat):Int),((num S (tr S b.l.toNat):Nat):Int),((num S (tr S b.h.toNat):Nat):Int)⟩:=by rw [r,A];obtain ⟨x,y,z⟩:=b;simp only [Br.mk.injEq];simp only at*;omega
 refine ⟨b.v.toNat,_,_,e,il,ih,⟨by omega,by omega,by omega,λD=> ?_,g.inn_ok il,g.inn_ok ih⟩,λw=>C ?_⟩
 ·rw [D] at r;omega
 ·rw [e];exact (iC g il ih).2 w
def Y6 (S:List Tr) (x:Br):Option ξ:=if x∈brs S then V (nW nk) else I
theorem JW {S:List Tr} {b:Br} {S':List Tr} (h:brs S'=brs S++[b]):Y6 S'=λx=>if x=b then V (nW nk) else Y6 S x:=by funext x;unfold Y6;rw [h];by_cases r:x=b<;>by_cases g:x∈brs S<;>simp [r,g]
section
variable {F:PH} {v:Γ} {d:wa}
theorem lw (hd:DV F v d):ν 106 #[nQ v] F λr R=>r=U (chk d)/\F.le R:=by
 have a0:=hd;obtain ⟨s,rfl,hr⟩:=hd;have a9:=hr.blen;refine qdz ?_;unfold PP;intro b1 b9;refine tR ?_;have Q:=ae (Y #[s.v,U d.2] 33) b9;have N:=aq F b1 (Y #[s.v,U d.2] 33);generalize F.set b1 (Y #[s.v,U d.2] 33)=G at*;refine ⟨s,by rw [av N];rfl,λb4=> ?_,λb4=> ?_⟩
 ·refine ⟨?_,Q⟩;unfold chk;rw [Χ (by omega)]
 have d0:d.1.length<=4096:=by omega
 intro b3 K;refine tR ?_;refine ⟨s,by rw [av (ae _ K _ _ N)];rfl,?_⟩;have fin:∀{R:PH},G.le R->¬iU d->(U 20=U (chk d)/\F.le R):=λ{R} hl hn=>by refine ⟨?_,Q.trans hl⟩;unfold chk;rw [Υ (by omega),Υ hn]
 refine ⟨λm i R=>∃(k:Nat) (S:List Tr),i=k/\k<=d.1.length/\m=d.1.length - k/\Cl S/\S.length=k/\brs S=d.1.take k/\G.le R/\∃o,R b3=V o/\dW B2 (Y6 S) o,d.1.length,
  ⟨0,[],rfl,by omega,rfl,.nil,rfl,rfl,ae _ K,_,aq _ _ _,dW.empty B2⟩,?_⟩
 rintro m i F1 ⟨k,S,rfl,hk,rfl,J,a8,O,g,o,hm,a5⟩;unfold ED;refine ⟨λc4=> ?_,λc8=> ?_⟩
 ·have W:k<d.1.length:=by omega
  obtain ⟨a,ha,a6,_⟩:=VX (hr.le (Q.trans g)) (N5 W);have C:¬zC S d.1[k]->¬iU d:=λhn hv=>hn (kE hv J a8 W O);have A:=cu J (b:=d.1[k]);have b7:=Ei J (b:=d.1[k]);refine ⟨a,ha,by omega,c4,aW d.1[k],rfl,by simpa using a6,?_⟩;generalize hB:d.1[k]=B at*;intro b5 c6;refine tR ?_;refine Uc (aq _ _ _) rfl rfl (iE _) ?_;rw [aR];have l5:=ae (Y (aW B) 201) c6;have h5:=aq F1 b5 (Y (aW B) 201);have hm:=l5 _ _ hm;have g:=g.trans l5;generalize F1.set b5 (Y (aW B) 201)=F2 at*;have c0:F2.cell ⟨b5,0,I⟩=V (U B.v):=by rw [av h5];rfl
  have c1:F2.cell ⟨b5,1,I⟩=V (U B.l):=by rw [av h5];rfl
  have c2:F2.cell ⟨b5,2,I⟩=V (U B.h):=by rw [av h5];rfl
  refine ⟨_,c0,λh=>fin g (C λD=> ?_),λg1=> ?_⟩
  ·have:=(A D).1;omega
  refine ⟨_,c0,λh=>fin g (C λD=> ?_),λg2=> ?_⟩
  ·have:=(A D).2.1;omega
  refine ⟨_,c1,λh=>fin g (C λD=> ?_),λg3=> ?_⟩
  ·have:=(A D).2.2.1;omega
  refine ⟨_,c2,λh=>fin g (C λD=> ?_),λg4=> ?_⟩
  ·have:=(A D).2.2.2.1;omega
  have M:i64.wrap ((k:Int)+1)=((k+1:Nat):Int):=fo (by omega);rw [M];refine ⟨_,c1,λh=>fin g (C λD=> ?_),λg5=> ?_⟩
  ·have:=(A D).2.2.2.2.1;omega
  refine ⟨_,c2,λh=>fin g (C λD=> ?_),λg6=> ?_⟩
  ·have:=(A D).2.2.2.2.2.1;omega
  refine ⟨_,c1,_,c2,λh=>fin g (C λD=> ?_),λg7=> ?_⟩
  ·exact (A D).2.2.2.2.2.2.1 h
  have L:=bL (F:=F2) Z4 hm a5 B mD;refine ⟨aW B,rfl,ai h5,decide (B∈brs S),?_,λh=>fin g (C λD=> ?_),λg8=> ?_⟩
  ·unfold Y6 at L;by_cases hx:B∈brs S
   ·rw [Χ hx] at L;simpa [hx] using L
   ·rw [Υ hx] at L;simpa [hx] using L
  ·exact (A D).2.2.2.2.2.2.2.1 (by simpa using h)
  have c5:B ∉ brs S:=by simpa using g8
  have P:brs S<+:d.1:=by rw [O];exact List.take_prefix _ _
  have il:inn S (tr S B.l.toNat):=gI (by omega);have ih:inn S (tr S B.h.toNat):=gI (by omega);have nl:=f7 J (n:=B.l.toNat) (by omega);have nh:=f7 J (n:=B.h.toNat) (by omega);have el:U B.l=U (num S (tr S B.l.toNat)):=by rw [nl];congr 1;omega
  have eh:U B.h=U (num S (tr S B.h.toNat)):=by rw [nh];congr 1;omega
  refine ⟨_,rfl,ai (g _ _ N),_,c1,_,c0,?_⟩;rw [el];refine (eQ (a0.le (Q.trans g)) P il (by omega)).mono ?_;rintro _ F3 ⟨rfl,H⟩;refine ⟨_,rfl,aK H c0,λh=>fin (g.trans H) (C λD=> ?_),λg9=> ?_⟩
  ·have:=(A D).2.2.2.2.2.2.2.2.1;omega
  refine ⟨_,rfl,ai ((g.trans H) _ _ N),_,aK H c2,_,aK H c0,?_⟩;rw [eh];refine (eQ (a0.le (Q.trans (g.trans H))) P ih (by omega)).mono ?_;rintro _ F4 ⟨rfl,l4⟩;refine ⟨_,rfl,aK l4 (aK H c0),aK l4 (aK H c0),λh=>fin ((g.trans H).trans l4) (C λD=> ?_),λc9=> ?_⟩
  ·have:=(A D).2.2.2.2.2.2.2.2.2;omega
  have hF:=b7 (by omega) (by omega) (by omega) (by omega) (by omega) (by omega) g7 c5 (by omega) (by omega);refine ⟨aW B,rfl,ai (l4 _ _ (H _ _ h5)),?_⟩;refine bj Z4 (l4 _ _ (H _ _ hm)) a5 B _ λo' a7=> ?_;obtain ⟨v,l,h,e,hl,hh,a1,hn⟩:=hF;have e2:brs (S++[qa7 v l h])=brs S++[B]:=by rw [eC J hl hh,e]
  rw [<- JW e2] at a7;have b0:G b3=I:=K;refine ⟨d.1.length - (k+1),by omega,k+1,S++[qa7 v l h],rfl,by omega,rfl,.snoc J hl hh a1 hn,by simp [a8],?_,aB ((g.trans H).trans l4) b0,o',aq _ _ _,a7⟩;rw [e2,O,W4 W,hB]
 ·unfold EC;have b8:k=d.1.length:=by omega
  have a3:brs S=d.1:=by rw [O,b8,wB]
  have cr:F1.cell ⟨b1,1,I⟩=V (U d.2):=by rw [av (g _ _ N)];rfl
  have cs:F1.cell ⟨b1,0,I⟩=V s.v:=by rw [av (g _ _ N)];rfl
  have key:∀t,t.ok->d=pj t->S=aU t/\d.2=num S t:=λt X e=>by subst e;have:=qN J (bz X) a3;exact ⟨this,by rw [this];rfl⟩
  have E:iU d->0<=d.2/\d.2<=(d.1.length:Int)+1:=by
   rintro ⟨t,X,e⟩;obtain ⟨N,h2⟩:=key t X e;have h3:inn S t:=by rw [N];exact bH X
   have:=dP h3;omega
  refine ⟨_,cr,λh=>fin g (λhv=>by have:=(E hv).1;omega),λg1=> ?_⟩;have M:i64.wrap ((s.len:Int)+1)=((d.1.length+1:Nat):Int):=by rw [a9];exact fo (by omega)
  refine ⟨_,cr,s,cs,?_⟩;dsimp only;rw [M];refine ⟨λh=>fin g (λhv=>by have:=(E hv).2;omega),λg2=> ?_⟩;refine ⟨s,cs,?_⟩;intro a2 a4;refine tR ?_;have b2:=ae (Y #[s.v,Value.map I] 248) a4;have c3:=aq F1 a2 (Y #[s.v,Value.map I] 248);have g:=g.trans b2;generalize F1.set a2 (Y #[s.v,Value.map I] 248)=F2 at*;refine ⟨_,aK b2 cr,?_⟩;have it:inn S (tr S d.2.toNat):=gI (by omega);have nt:=f7 J (n:=d.2.toNat) (by omega);have et:U d.2=U (num S (tr S d.2.toNat)):=by rw [nt];congr 1;omega
  dsimp only;rw [et];refine (mN (by rw [av c3];rfl) (by rw [a3];exact hr.le (Q.trans g)) J it (by omega)).mono ?_;rintro _ F3 ⟨w,rfl,M,H⟩;refine ⟨_,rfl,?_⟩;intro b6 c7;refine tR ?_;refine Uc (aq _ _ _) M.size rfl M.st ?_;rw [aR];have l6:=ae (Y w 33) c7;have h6:=aq F3 b6 (Y w 33);have g:=(g.trans H).trans l6;have M:=M.le l6;generalize F3.set b6 (Y w 33)=F4 at*;refine ⟨w,M.size,ai h6,_,rfl,ai (g _ _ N),?_⟩;have a1:=J.inn_ok it
  refine (od M (a0.le (Q.trans g)) (by
   have:=M5 J it;simp only [pj,aO]
   omega)).mono ?_
  rintro _ F5 ⟨rfl,l5⟩;refine ⟨_,rfl,λh=>fin (g.trans l5) ?_,λh=> ?_⟩
  ·rintro ⟨t,X,e⟩;obtain ⟨k1,k2⟩:=key t X e;have:tr S d.2.toNat=t:=by rw [k2,N4];exact oC J (by rw [k1];exact bH X)
   rw [this,<- e] at h;simp at h
  ·refine ⟨?_,Q.trans (g.trans l5)⟩;have:pj (tr S d.2.toNat)=d:=by simpa using h
   unfold chk;rw [Υ (by omega),Χ ⟨_,a1,this.symm⟩]
end
theorem JX:aF prog 212=nk:=by kernel_rfl
theorem BD.weaken {F0 r F:PH} {b m:Nat} {S:List Tr} (h:BD r F b m S) (g:F0.le r):BD F0 F b m S:=by obtain ⟨w,A,J,G,⟨s,E,B,C⟩,H⟩:=h;exact ⟨g.trans w,A,aT g J,aT g G,⟨s,E,B,λa D=>aT g (C a D)⟩,H⟩
theorem BD.upto {F0 F G:PH} {b m:Nat} {S:List Tr} (h:BD F0 F b m S) (g:F.le G):BD F0 G b m S:=by obtain ⟨r,w,J,E,⟨s,D,A,B⟩,o,H,C⟩:=h;exact ⟨r.trans g,w,J,E,⟨s,g _ _ D,A.upto g,B⟩,o,g _ _ H,C⟩
theorem BD.grow {F0 G F:PH} {b m x:Nat} {o:Obj} {S:List Tr} (h:BD F0 G b m S) (w:G.le F) (B:G x=I) (L:F x=V o):BD (F0.set x o) F b m S:=by
 obtain ⟨J,K,Q,P,⟨s,H,C,R⟩,N,D,M⟩:=h;refine ⟨λy W A=> ?_,K,?_,?_,⟨s,w _ _ H,C.upto w,λa E=> ?_⟩,N,w _ _ D,M⟩
 ·by_cases r:y=x
  ·subst r;rw [aq] at A;rw [L];exact A
  ·rw [aw _ _ r] at A;exact w _ _ (J _ _ A)
 ·rw [aw _ _ (aH B H)];exact Q
 ·rw [aw _ _ (aH B D)];exact P
 ·obtain ⟨O,g⟩:=C.elem E;rw [aw _ _ (aH B g)];exact R a E
theorem BD.other {F0 F:PH} {b m x:Nat} {o:Obj} {S:List Tr} (h:BD F0 F b m S) (M:F0 x=I) (C:b≠x) (w:m≠x) (J:∀c e fr,F x≠V (Y c e fr)):BD F0 (F.set x o) b m S:=by obtain ⟨A,D,P,N,⟨s,L,r,E⟩,B,O,K⟩:=h;refine ⟨aB A M,D,P,N,⟨s,by rw [aw _ _ C];exact L,r.keep λa H=>aw _ _ (λe=> ?_),E⟩,B,by rw [aw _ _ w];exact O,K⟩;obtain ⟨G,g⟩:=r.elem H;rw [e] at g;exact J _ _ _ g
structure AP where
 b3:Nat
 b6:Nat
 b2:Nat
 b7:Nat
 b5:Nat
 bb:Nat
 mm:Nat
 b9:Nat
 opv:ξ
 o:Wr
 dd:Nat->wa
 SS:Nat->List Tr
def AP.key (p:AP) (t:Nat->Tr):Int×Int×Int:=((num (p.SS 0) (t 0):Int),(num (p.SS 1) (t 1):Int),(num (p.SS 2) (t 2):Int))
def AP.res (p:AP) (t:Nat->Tr):Tr:=ap p.o (t 0) (t 1) (t 2)
def AP.inK (p:AP) (t:Nat->Tr):Prop:=inn (p.SS 0) (t 0)/\inn (p.SS 1) (t 1)/\inn (p.SS 2) (t 2)
def AP.caps (p:AP):Γ:= #[pk (V ⟨p.b3,0,I⟩),pk (V ⟨p.b6,0,I⟩),pk (V ⟨p.b2,0,I⟩),pk (V ⟨p.b7,0,I⟩),pk (V ⟨p.b5,0,I⟩)]
def OpV (F0:PH) (v:ξ) (o:Wr):Prop:=∃(k:Nat) (fst cap:Γ),v=.func (.func k) fst cap/\aF prog k=nk/\
 ∀(x y z:Bool) (F:PH),F0.le F->aj prog k (fst++[nW x,nW y,nW z].toArray++cap) F λr F'=>r=nW (o x y z)/\F.le F'
theorem OpV.le {F0 G:PH} {v:ξ} {o:Wr} (h:OpV F0 v o) (A:F0.le G):OpV G v o:=by obtain ⟨k,f,c,g,r,w⟩:=h;exact ⟨k,f,c,g,r,λx y z F hF=>w x y z F (A.trans hF)⟩
structure AF (p:AP):Prop where
 cl:∀i,i<3->Cl (p.SS i)
 pre:∀i,i<3->brs (p.SS i)<+:(p.dd i).1
 fit:∀i,i<3->yq ((p.dd i).1.length+2)
structure AE (F0:PH) (p:AP):Prop where
 c3:F0.cell ⟨p.b3,0,I⟩=V p.opv
 c6:F0.cell ⟨p.b6,0,I⟩=V (.map (V p.b9))
 c2:∀i,i<3->∃w,F0.row ⟨p.b2,i*2,I⟩ w/\DV F0 w (p.dd i)
 c7:F0.cell ⟨p.b7,0,I⟩=V (.func (.func 212) #[] p.caps)
 c5:F0.cell ⟨p.b5,0,I⟩=V (pk (V ⟨p.bb,0,I⟩))
 op:OpV F0 p.opv p.o
theorem aN {F G:PH} (h:F.le G) {a:Addr} {cs:Γ} (g:F.row a cs):G.row a cs:=λi hi=>aK h (g i hi)
theorem AE.le {F0 G:PH} {p:AP} (h:AE F0 p) (g:F0.le G):AE G p:=
 ⟨aK g h.c3,aK g h.c6,λi hi=>by
  obtain ⟨w,r,A⟩:=h.c2 i hi
  exact ⟨w,aN g r,A.le g⟩,aK g h.c7,aK g h.c5,h.op.le g⟩
def Su (p:AP) (S:List Tr) (m3:Int×Int×Int->Option ξ):Prop:=∀k v,m3 k=V v->∃t,p.inK t/\k=p.key t/\inn S (p.res t)/\v=U (num S (p.res t))
structure AS (F0 F:PH) (p:AP) (S:List Tr):Prop where
 bd:BD F0 F p.bb p.mm S
 n9:F0 p.b9=I
 ne:p.mm≠p.b9
 memo:∃o m3,F p.b9=V o/\dW M1 m3 o/\Su p S m3
theorem AS.upto {F0 F G:PH} {p:AP} {S:List Tr} (h:AS F0 F p S) (g:F.le G):AS F0 G p S:=by obtain ⟨r,w,D,o,A,C,B⟩:=h;exact ⟨r.upto g,w,D,o,A,g _ _ C,B⟩
theorem AS.weaken {F0 g F:PH} {p:AP} {S:List Tr} (h:AS g F p S) (r:F0.le g):AS F0 F p S:=by obtain ⟨w,A,C,B⟩:=h;exact ⟨w.weaken r,aT r A,C,B⟩
theorem AS.grow {F0 G F:PH} {p:AP} {S:List Tr} {x:Nat} {o:Obj} (h:AS F0 G p S) (r:G.le F) (g:G x=I) (J:F x=V o):AS (F0.set x o) F p S:=by obtain ⟨A,C,H,B,D,w,E⟩:=h;exact ⟨A.grow r g J,by rw [aw _ _ (aH g w)];exact C,H,B,D,r _ _ w,E⟩
theorem qt {p:AP} {t u:Nat->Tr} (g:p.inK t) (r:p.inK u) (h:p.key t=p.key u):p.res t=p.res u:=by unfold AP.key at h;simp only [Ys] at h;obtain ⟨w,A,B⟩:=h;unfold AP.res;rw [cM g.1 r.1 (by omega),cM g.2.1 r.2.1 (by omega),cM g.2.2 r.2.2 (by omega)]
theorem zH (t:Tr) (S:List Tr):S.length<=(tY t S).length:=by
 induction t generalizing S with
 |qa6 b=>exact ru _
 |qa7 v l h r g=>
  unfold tY;split
  ·exact ru _
  ·have w:=r S;have A:=g (tY l S);simp only [tT];omega
theorem Ej (S:List Tr) (t:Tr):S.length<=(fj S t).length:=by unfold fj;split<;>simp
def Vt (t:Nat->Tr):Nat:=(t 0).sz+(t 1).sz+(t 2).sz
def JY (p:AP) (t:Nat->Tr):Prop:=∀(F0 F:PH) (S:List Tr),AE F0 p->AS F0 F p S->yq ((tY (p.res t) S).length+4)->
 aj prog 212 (#[nQ (dC (p.key t))]++p.caps) F λr F'=>r=U (num (tY (p.res t) S) (p.res t))/\AS F0 F' p (tY (p.res t) S)
structure aak (p:AP) (t:Nat->Tr) (v:Nat):Prop where
 hv:v=aX (t 0) (t 1) (t 2)
 lt:v<64
 il:p.inK (λi=>lo v (t i))
 ih:p.inK (λi=>hi v (t i))
 sl:Vt (λi=>lo v (t i))<Vt t
 sh:Vt (λi=>hi v (t i))<Vt t
 tl:v<(p.res (λi=>lo v (t i))).top
 th:v<(p.res (λi=>hi v (t i))).top
 ol:(p.res (λi=>lo v (t i))).ok
 oh:(p.res (λi=>hi v (t i))).ok
 res:p.res t=mk v (p.res (λi=>lo v (t i))) (p.res (λi=>hi v (t i)))
theorem WE {p:AP} (r:AF p) {t:Nat->Tr} (h:p.inK t) (w:aX (t 0) (t 1) (t 2)<64):aak p t (aX (t 0) (t 1) (t 2)):=by
 have h0:=(r.cl 0 (by omega)).inn_ok h.1;have B:=(r.cl 1 (by omega)).inn_ok h.2.1;have D:=(r.cl 2 (by omega)).inn_ok h.2.2;have hs:=xR (o:=p.o) h0 B D w;have v1:aX (t 0) (t 1) (t 2)<=(t 0).top:=by unfold aX;omega
 have v2:aX (t 0) (t 1) (t 2)<=(t 1).top:=by unfold aX;omega
 have v3:aX (t 0) (t 1) (t 2)<=(t 2).top:=by unfold aX;omega
 have g:aX (t 0) (t 1) (t 2)=(t 0).top\/aX (t 0) (t 1) (t 2)=(t 1).top\/aX (t 0) (t 1) (t 2)=(t 2).top:=by unfold aX;omega
 generalize hw:aX (t 0) (t 1) (t 2)=v at*;have A:∀{t:Tr},v=t.top->t.isL=mD:=λ{t} e=>by
  cases t with
  |qa6 b=>simp only [top] at e;omega
  |qa7 _ _ _=>rfl
 obtain ⟨M,E,a7,N,b0⟩:=cx h0 v1;obtain ⟨R,O,a6,W,b2⟩:=cx B v2;obtain ⟨a1,C,a8,K,a9⟩:=cx D v3;obtain ⟨a0,H,a3,X,a4⟩:=cy h0 v1;obtain ⟨F,P,a5,G,a2⟩:=cy B v2;obtain ⟨L,Q,b1,J,b3⟩:=cy D v3;obtain ⟨l1,l2,l3⟩:=fq (o:=p.o) M R a1;obtain ⟨g1,g2,g3⟩:=fq (o:=p.o) a0 F L
 refine ⟨hw.symm,w,⟨(r.cl 0 (by omega)).inn_lo h.1 v,(r.cl 1 (by omega)).inn_lo h.2.1 v,(r.cl 2 (by omega)).inn_lo h.2.2 v⟩,
  ⟨(r.cl 0 (by omega)).inn_hi h.1 v,(r.cl 1 (by omega)).inn_hi h.2.1 v,(r.cl 2 (by omega)).inn_hi h.2.2 v⟩,?_,?_,?_,?_,l1,g1,hs⟩
 ·simp only [Vt];rcases g with e|e|e
  ·have:=N e.symm (A e);omega
  ·have:=W e.symm (A e);omega
  ·have:=K e.symm (A e);omega
 ·simp only [Vt];rcases g with e|e|e
  ·have:=X e.symm (A e);omega
  ·have:=G e.symm (A e);omega
  ·have:=J e.symm (A e);omega
 ·have:=E w;have:=O w;have:=C w;unfold aX at l2;show v<(ap p.o (lo v (t 0)) (lo v (t 1)) (lo v (t 2))).top;omega
 ·have:=H w;have:=P w;have:=Q w;unfold aX at g2;show v<(ap p.o (hi v (t 0)) (hi v (t 1)) (hi v (t 2))).top;omega
theorem dD {S:List Tr} {t:Tr}:((num S t:Int)<2)↔t.isL=nk:=by
 constructor
 ·intro h;exact qM (S:=S) (by omega)
 ·intro h;cases t with
  |qa6 b=>have:=cK S b;omega
  |qa7 _ _ _=>cases h
section
variable {p:AP} {t:Nat->Tr} {F0 F:PH} {S:List Tr} {n6:Nat}
theorem M6 (L:AE F0 p) (P:AS F0 F p S) (O:F0 n6=V (Y (dC (p.key t)) 313)) (W:(t 0).isL=nk) (M:(t 1).isL=nk) (N:(t 2).isL=nk) {R:ξ->Ψ}
  (Q:∀G,F.le G->R (U (num S (p.res t))) G):
  gn (V ⟨p.b3,0,I⟩) (V ⟨p.b6,0,I⟩) (V ⟨p.b2,0,I⟩) (V ⟨p.b7,0,I⟩) (V ⟨p.b5,0,I⟩) n6 nk R F:=by
 unfold gn;obtain ⟨k,fst,cap,J,K,H⟩:=L.op;have w:=P.bd.le;have r:=w _ _ O;refine ⟨λ_=> ?_,λX=>by cases X⟩;refine ⟨_,rfl,_,aK w L.c3,by omega,by omega,_,by simp only [aI];rw [av r];rfl,by omega,by omega,_,by simp only [aI];rw [av r];rfl,by omega,by omega,_,by simp only [aI];rw [av r];rfl,k,fst,cap,J,K,?_⟩;generalize D:t 0=x0 at*;generalize C:t 1=x1 at*;generalize E:t 2=x2 at*;cases x0 with
 |qa7 _ _ _=>cases W
 |qa6 a=>
  cases x1 with
  |qa7 _ _ _=>cases M
  |qa6 b=>
   cases x2 with
   |qa7 _ _ _=>cases N
   |qa6 c=>
    have e:∀(S:List Tr) (x:Bool),decide ((num S (qa6 x):Int)=1)=x:=λS x=>by cases x<;>simp [num]
    simp only [AP.key,D,C,E,e];refine (H a b c F w).mono ?_;rintro _ G ⟨rfl,B⟩;have A:p.res t=qa6 (p.o a b c):=by unfold AP.res;rw [D,C,E];exact nA _ _ _ _
    have g:=Q G B;rw [A] at g;refine ⟨_,rfl,λh=> ?_,λh=> ?_⟩
    ·rw [h] at g;exact g
    ·rw [h] at g;exact g
theorem M7 (W:AF p) (Q:p.inK t) (ih:∀u,p.inK u->Vt u<Vt t->JY p u) (he:AE F0 p) (hs:AS F0 F p S) (h6:F0 n6=V (Y (dC (p.key t)) 313))
  (i2:yq ((tY (p.res t) S).length+4)) (hn:¬((t 0).isL=nk/\(t 1).isL=nk/\(t 2).isL=nk)) {R:ξ->Ψ}
  (hR:∀F',AS F0 F' p (tY (p.res t) S)->R (U (num (tY (p.res t) S) (p.res t))) F'):
  gn (V ⟨p.b3,0,I⟩) (V ⟨p.b6,0,I⟩) (V ⟨p.b2,0,I⟩) (V ⟨p.b7,0,I⟩) (V ⟨p.b5,0,I⟩) n6 mD R F:=by
 have hv:aX (t 0) (t 1) (t 2)<64:=by
  have k0:=λH=>tH ((W.cl 0 (by omega)).inn_ok Q.1) H;have k1:=λH=>tH ((W.cl 1 (by omega)).inn_ok Q.2.1) H;have k2:=λH=>tH ((W.cl 2 (by omega)).inn_ok Q.2.2) H;unfold aX;cases e0:(t 0).isL with
  |false=>have:=k0 e0;omega
  |true=>
   cases e1:(t 1).isL with
   |false=>have:=k1 e1;omega
   |true=>
    cases e2:(t 2).isL with
    |false=>have:=k2 e2;omega
    |true=>exact absurd ⟨e0,e1,e2⟩ hn
 have D:=WE W Q hv;unfold gn;have g:=hs.bd.le;have a8:=g _ _ h6;obtain ⟨om,m3,hm,g9,h8⟩:=hs.memo;refine ⟨λhc=>(by cases hc),λ_=> ?_⟩;have a0:=bL (F:=F) Z2 hm g9 (p.key t) nk;refine ⟨_,rfl,_,aK g he.c6,dC (p.key t),rfl,ai a8,?_⟩;cases hmk:m3 (p.key t) with
 |some v=>rw [hmk] at a0;obtain ⟨u,hu,hk,hi,rfl⟩:=h8 _ _ hmk;have e:=qt Q hu hk;rw [<- e] at hi a0;have f3:=gz hi;refine ⟨_,_,a0,λ_=> ?_,λhc=>by cases hc⟩;have:=hR F (by rw [f3];exact hs);rw [f3] at this;exact this
 |none=>
  rw [hmk] at a0;refine ⟨_,_,a0,λhc=>(by cases hc),λ_=> ?_⟩;obtain ⟨w0,r0,d0⟩:=he.c2 0 (by omega);obtain ⟨w1,r1,d1⟩:=he.c2 1 (by omega);obtain ⟨w2,r2,d2⟩:=he.c2 2 (by omega);have c6:∀{G:PH},F.le G->G.cell ⟨n6,0,I⟩=V (U (num (p.SS 0) (t 0)))/\G.cell ⟨n6,1,I⟩=V (U (num (p.SS 1) (t 1)))/\G.cell ⟨n6,2,I⟩=V (U (num (p.SS 2) (t 2))):=λ{G} H=>by rw [av (H _ _ a8),av (H _ _ a8),av (H _ _ a8)];exact ⟨rfl,rfl,rfl⟩
  have rr:∀{G:PH},F.le G->G.row (nV ⟨p.b2,0,I⟩ (nX 0*2)) w0/\G.row (nV ⟨p.b2,0,I⟩ (nX 1*2)) w1/\G.row (nV ⟨p.b2,0,I⟩ (nX 2*2)) w2:=λ{G} H=>by simp only [aI];exact ⟨aN (g.trans H) r0,aN (g.trans H) r1,aN (g.trans H) r2⟩
  have cc:∀{G:PH},F.le G->G.cell (nV ⟨n6,0,I⟩ (nX 0*1))=V (U (num (p.SS 0) (t 0)))/\G.cell (nV ⟨n6,0,I⟩ (nX 1*1))=V (U (num (p.SS 1) (t 1)))/\G.cell (nV ⟨n6,0,I⟩ (nX 2*1))=V (U (num (p.SS 2) (t 2))):=λ{G} H=>by simp only [aI];exact c6 H
  have O:F.le F:=PH.le_rfl;refine ⟨_,rfl,by omega,by omega,w0,d0.size,(rr O).1,by omega,by omega,_,(cc O).1,by omega,by omega,w1,d1.size,(rr O).2.1,by omega,by omega,_,(cc O).2.1,by omega,by omega,w2,d2.size,(rr O).2.2,by omega,by omega,_,(cc O).2.2,?_⟩;refine (eQ (d0.le g) (W.pre 0 (by omega)) Q.1 (W.fit 0 (by omega))).mono ?_;rintro _ G1 ⟨rfl,l1⟩;refine ⟨_,rfl,(cc l1).2.2,(rr l1).2.2,(cc l1).2.1,(rr l1).2.1,?_⟩;refine (eQ (d1.le (g.trans l1)) (W.pre 1 (by omega)) Q.2.1 (W.fit 1 (by omega))).mono ?_;rintro _ G2 ⟨rfl,l2⟩;have l2:=l1.trans l2;refine ⟨_,rfl,(cc l2).2.2,(rr l2).2.2,?_⟩;refine (eQ (d2.le (g.trans l2)) (W.pre 2 (by omega)) Q.2.2 (W.fit 2 (by omega))).mono ?_;rintro _ G ⟨rfl,l3⟩;have l3:=l2.trans l3;refine ⟨_,rfl,?_⟩;have b4:(min (min ((t 0).top:Int) ((t 1).top:Int)) ((t 2).top:Int))=((aX (t 0) (t 1) (t 2):Nat):Int):=by unfold aX;omega
  generalize aX (t 0) (t 1) (t 2)=v at*;intro r C;refine tR ?_;intro B M;refine tR ?_;have P:r≠B:=aH M (aq _ _ _);have c9:G B=I:=by rw [aw _ _ P.symm] at M;exact M
  let A (k:Nat) (f:Nat->Nat):Γ:= #[if 0<k then U (f 0) else U 0,if 1<k then U (f 1) else U 0,if 2<k then U (f 2) else U 0]
  let fl:Nat->Nat:=λi=>num (p.SS i) (lo v (t i))
  let fh:Nat->Nat:=λi=>num (p.SS i) (hi v (t i))
  have hA:∀k f,k<3->(A k f).setIfInBounds k (U (f k))=A (k+1) f:=by
   intro k f hk
   match k,hk with
   |0,_=>simp [A]
   |1,_=>simp [A]
   |2,_=>simp [A]
  refine ⟨λm i F'=>∃k:Nat,i=k/\k<=3/\m=3 - k/\G.le F'/\F' r=V (Y (A k fl) 313)/\F' B=V (Y (A k fh) 313),3,
   ⟨0,rfl,by omega,rfl,(ae _ C).trans (ae _ M),by rw [aw _ _ P,aq];rfl,by rw [aq];rfl⟩,?_⟩
  rintro m i F1 ⟨k,rfl,hk,rfl,hG,d4,e3⟩;unfold EH;rw [b4];refine ⟨λi3=> ?_,λg4=> ?_⟩
  ·have J:k<3:=by omega
   obtain ⟨w,h2,dw⟩:=he.c2 k J;have a5:F.le F1:=l3.trans hG;have h0:inn (p.SS k) (t k):=by
    match k,J with
    |0,_=>exact Q.1
    |1,_=>exact Q.2.1
    |2,_=>exact Q.2.2
   have hc:F1.cell (nV ⟨n6,0,I⟩ (nX (k:Int)*1))=V (U (num (p.SS k) (t k))):=by
    match k,J with
    |0,_=>exact (cc a5).1
    |1,_=>exact (cc a5).2.1
    |2,_=>exact (cc a5).2.2
   refine ⟨by omega,by omega,w,dw.size,by simpa using aN (g.trans a5) h2,by omega,by omega,_,hc,?_⟩;refine (Cj (dw.le (g.trans a5)) (W.pre k J) h0 (W.fit k J) D.lt).mono ?_;rintro _ F2 ⟨rfl,l4⟩;refine ⟨_,_,rfl,by omega,by omega,?_⟩;refine tF (b:=r) (o:=k) (by simp) (l4 _ _ d4) (by simp [A];omega) ?_;rw [hA k fl J];refine ⟨by omega,by omega,?_⟩;refine tF (b:=B) (o:=k) (by simp) (by rw [aw _ _ P.symm];exact l4 _ _ e3) (by simp [A];omega) ?_;rw [hA k fh J];refine ⟨3 - (k+1),by omega,k+1,fo (by omega),by omega,rfl,aB (aB (hG.trans l4) C) c9,?_,aq _ _ _⟩;rw [aw _ _ P,aq]
  ·obtain rfl:k=3:=by omega
   have h7:A 3 fl=dC (p.key λi=>lo v (t i)):=rfl;have i0:A 3 fh=dC (p.key λi=>hi v (t i)):=rfl;rw [h7] at d4;rw [i0] at e3;clear hA g4 hk
   clear_value A fl fh
   unfold EG;rw [b4];have h9:=(hs.upto l3).grow (F:=G.set r (Y (dC (p.key λi=>lo v (t i))) 313)) (ae _ C) C (aq _ _ _);have lx:(G.set r (Y (dC (p.key λi=>lo v (t i))) 313)).le F1:=λx ob hx=>by
    by_cases a7:x=r
    ·subst a7;rw [aq] at hx;rw [d4];exact hx
    ·rw [aw _ _ a7] at hx;exact hG _ _ hx
   have b8:=h9.grow lx (by rw [aw _ _ P.symm];exact c9) e3;have i1:F0 r=I:=aT (g.trans l3) C;have g5:F0 B=I:=aT (g.trans l3) c9;have l0:F0.le ((F0.set r (Y (dC (p.key λi=>lo v (t i))) 313)).set B (Y (dC (p.key λi=>hi v (t i))) 313)):=aB (aB PH.le_rfl i1) g5;have h3:((F0.set r (Y (dC (p.key λi=>lo v (t i))) 313)).set B (Y (dC (p.key λi=>hi v (t i))) 313)) r=V (Y (dC (p.key λi=>lo v (t i))) 313):=by rw [aw _ _ P,aq]
   have g8:((F0.set r (Y (dC (p.key λi=>lo v (t i))) 313)).set B (Y (dC (p.key λi=>hi v (t i))) 313)) B=V (Y (dC (p.key λi=>hi v (t i))) 313):=aq _ _ _;generalize ((F0.set r (Y (dC (p.key λi=>lo v (t i))) 313)).set B (Y (dC (p.key λi=>hi v (t i))) 313))=E0 at*;have K:=he.le l0;have c8:=hs.bd.cl;obtain ⟨a1,a2,X,a3,a4⟩:=bq (p.res λi=>lo v (t i)) S D.ol c8;obtain ⟨c1,c2,z0,c3,c4⟩:=bq (p.res λi=>hi v (t i)) (tY (p.res λi=>lo v (t i)) S) D.oh a1;have E:=sQ c8 (v:=v) (l:=p.res λi=>lo v (t i)) (h:=p.res λi=>hi v (t i)) ⟨D.lt,D.tl,D.th,D.ol,D.oh⟩;rw [<- D.res] at E;have g1:=zH (p.res λi=>hi v (t i)) (tY (p.res λi=>lo v (t i)) S);have g2:=Ej (tY (p.res λi=>hi v (t i)) (tY (p.res λi=>lo v (t i)) S)) (p.res t);rw [E] at g2;refine ⟨_,rfl,_,aK b8.bd.le K.c7,dC (p.key λi=>lo v (t i)),rfl,ai (b8.bd.le _ _ h3),_,_,_,rfl,JX,?_⟩;refine (ih _ D.il D.sl E0 F1 S K b8 (by omega)).mono ?_;rintro _ F2 ⟨rfl,a9⟩;refine ⟨_,rfl,_,rfl,_,aK a9.bd.le K.c5,_,aK a9.bd.le K.c7,dC (p.key λi=>hi v (t i)),rfl,ai (a9.bd.le _ _ g8),_,_,_,rfl,JX,?_⟩;refine (ih _ D.ih D.sh E0 F2 _ K a9 (by omega)).mono ?_;rintro _ F3 ⟨rfl,e6⟩;refine ⟨_,rfl,aK e6.bd.le K.c5,?_⟩;obtain ⟨e8,e4,d3,o9,m9,e5,N,f5⟩:=e6;have h4:num (tY (p.res λi=>lo v (t i)) S) (p.res λi=>lo v (t i))=num (tY (p.res λi=>hi v (t i)) (tY (p.res λi=>lo v (t i)) S)) (p.res λi=>lo v (t i)):=by rw [c3,bM a2]
   rw [h4];have g6:inn (tY (p.res λi=>hi v (t i)) (tY (p.res λi=>lo v (t i)) S)) (p.res λi=>lo v (t i)):=by rw [c3];exact bX a2
   have e9:p.bb≠p.b9:=λe=>by obtain ⟨_,_,_,_,⟨s,h5,_⟩,_⟩:=e8;obtain ⟨es,c,L,rfl,_⟩:=N;rw [e,e5] at h5;cases h5
   have f1:BD (E0.set p.b9 o9) F3 p.bb p.mm (tY (p.res λi=>hi v (t i)) (tY (p.res λi=>lo v (t i)) S)):=by
    obtain ⟨k1,k2,k3,k4,⟨s,k5,k6,k7⟩,k8⟩:=e8;refine ⟨λx ob hx=> ?_,k2,by rw [aw _ _ e9];exact k3,by rw [aw _ _ d3];exact k4,⟨s,k5,k6,λa ha=> ?_⟩,k8⟩
    ·by_cases a7:x=p.b9
     ·subst a7;rw [aq] at hx;rw [e5];exact hx
     ·rw [aw _ _ a7] at hx;exact k1 _ _ hx
    ·rw [aw _ _ (λe=> ?_)]
     ·exact k7 a ha
     ·obtain ⟨i4,b1⟩:=k6.elem ha;obtain ⟨es,c,L,rfl,_⟩:=N;rw [e,e5] at b1;cases b1
   refine (qic f1 g6 c2 ⟨D.lt,D.tl,D.th⟩ (by omega)).mono ?_;rintro _ F4 ⟨rfl,b0⟩;rw [<- D.res,E] at b0 ⊢;have f4:F4 p.b9=V o9:=b0.le _ _ (aq _ _ _);have g7:F4 n6=V (Y (dC (p.key t)) 313):=by
    have f6:n6≠p.b9:=λe=>by rw [e,hs.n9] at h6;cases h6
    exact b0.le _ _ (by rw [aw _ _ f6];exact l0 _ _ h6)
   have f9:BD E0 F4 p.bb p.mm (tY (p.res t) S):=b0.weaken (aB PH.le_rfl e4);refine ⟨_,rfl,_,aK f9.le K.c6,dC (p.key t),rfl,ai g7,?_⟩;refine bj Z2 f4 N (p.key t) _ λo' h1=> ?_;refine hR _ ?_;refine AS.weaken ?_ l0;have e7:inn (tY (p.res t) S) (p.res t):=by
    have g3:(p.res t).ok:=by rw [D.res];exact Fx D.lt D.tl D.th D.ol D.oh
    exact (bq _ S g3 c8).2.1
   refine ⟨f9.other e4 e9 d3 (λc e fr h=> ?_),e4,d3,o',_,aq _ _ _,h1,?_⟩
   ·obtain ⟨es,c,L,rfl,_⟩:=N;rw [f4] at h;cases h
   ·intro k w a6;dsimp only at a6;by_cases hk:k=p.key t
    ·rw [Χ hk] at a6;exact ⟨t,Q,hk,e7,(yR a6).symm⟩
    ·rw [Υ hk] at a6;obtain ⟨u,u1,u2,u3,u4⟩:=f5 k w a6;refine ⟨u,u1,u2,?_,?_⟩
     ·rw [<- E];unfold fj;split
      ·exact u3
      ·exact bX u3
     ·rw [u4,<- E];unfold fj;split
      ·rfl
      ·rw [bM u3]
theorem M8 (hf:AF p):∀(n:Nat) (t:Nat->Tr),Vt t<=n->p.inK t->JY p t:=by
 intro n;induction n with
 |zero=>intro t Q;have:=lC (t 0);unfold Vt at Q;omega
 |succ n ih=>
  intro t Q ht F0 F S he P C;show ν 212 #[nQ (dC (p.key t)),_,_,_,_,_] F _;refine qeV ?_;unfold Qc;intro n6 A;refine tR ?_;have M:=P.bd.le;have f6:F0 n6=I:=aT M A;have g:=P.grow (F:=F.set n6 (Y (dC (p.key t)) 313)) (ae _ A) A (aq _ _ _);have O:F0.le (F0.set n6 (Y (dC (p.key t)) 313)):=ae _ f6;have D:=he.le O;have J:=aq F0 n6 (Y (dC (p.key t)) 313);generalize F0.set n6 (Y (dC (p.key t)) 313)=E0 at*;generalize F.set n6 (Y (dC (p.key t)) 313)=X at*;have w:=g.bd.le _ _ J;have rest:¬((t 0).isL=nk/\(t 1).isL=nk/\(t 2).isL=nk)->gn (V ⟨p.b3,0,I⟩) (V ⟨p.b6,0,I⟩) (V ⟨p.b2,0,I⟩) (V ⟨p.b7,0,I⟩) (V ⟨p.b5,0,I⟩) n6 mD
    (λr K=>r=U (num (tY (p.res t) S) (p.res t))/\AS F0 K p (tY (p.res t) S)) X:=λH=>
   M7 hf ht (λu hu a0=>ih u (by omega) hu) D g J C H λK h=>⟨rfl,h.weaken O⟩
  refine ⟨by omega,by omega,_,by simp only [aI];rw [av w];rfl,λN=> ?_,λN=> ?_⟩
  ·refine ⟨by omega,by omega,_,by simp only [aI];rw [av w];rfl,λG=> ?_,λG=> ?_⟩
   ·refine ⟨by omega,by omega,_,by simp only [aI];rw [av w];rfl,?_⟩;have R:=dD.1 N;have W:=dD.1 G;by_cases B:(t 2).isL=nk
    ·have e:decide ((p.key t).2.2<2)=nk:=decide_eq_true (dD.2 B);dsimp only;rw [e];have hl:(p.res t).isL=nk:=by
      unfold AP.res;generalize t 0=x0 at*;generalize t 1=x1 at*;generalize t 2=x2 at*;cases x0 with
      |qa7 _ _ _=>cases R
      |qa6 a=>
       cases x1 with
       |qa7 _ _ _=>cases W
       |qa6 b=>
        cases x2 with
        |qa7 _ _ _=>cases B
        |qa6 c=>rw [nA];rfl
     have L:tY (p.res t) S=S:=gz (.inl hl);rw [L];exact M6 D g J R W B λK h=>⟨rfl,(g.upto h).weaken O⟩
    ·have e:decide ((p.key t).2.2<2)=mD:=decide_eq_false (λh=>B (dD.1 h));dsimp only;rw [e];exact rest λE=>B E.2.2
   ·exact rest λE=>G (dD.2 E.2.1)
  ·exact rest λE=>N (dD.2 E.1)
end
def uD (t:Tr):List Tr:=qa6 mD::qa6 nk::aU t
theorem og {t x:Tr} (h:inn (aU t) x):x∈uD t:=by
 unfold uD;cases x with
 |qa6 b=>cases b<;>simp
 |qa7 v l r=>simp [cC h rfl]
def Y4 (o:Wr) (a b d:Tr):List Tr:=(uD a).flatMap λx=>(uD b).flatMap λy=>(uD d).map λz=>ap o x y z
theorem B5 (o:Wr) (a b d:Tr):(Y4 o a b d).length=((aU a).length+2)*(((aU b).length+2)*((aU d).length+2)):=by unfold Y4;simp only [List.length_flatMap,ub,List.map_const',List.sum_replicate_nat];simp [uD]
theorem Sv {o:Wr} {a b d:Tr} (ha:a.ok) (hb:b.ok) (hd:d.ok):∀(n:Nat) (x y z:Tr) (S:List Tr),x.sz+y.sz+z.sz<=n->inn (aU a) x->inn (aU b) y->inn (aU d) z->Cl S->
  ∀u∈tY (ap o x y z) S,u∈S\/u∈Y4 o a b d:=by
 intro n;induction n with
 |zero=>intro x y z S hn;have:=lC x;omega
 |succ n ih=>
  intro x y z S hn G J K N u g;have F:=(bz ha).inn_ok G;have L:=(bz hb).inn_ok J;have H:=(bz hd).inn_ok K;have E:ap o x y z∈Y4 o a b d:=XW.2 ⟨x,og G,XW.2 ⟨y,og J,xv.2 ⟨z,og K,rfl⟩⟩⟩;by_cases A:aX x y z<64
  ·have X:=xR (o:=o) F L H A;have v1:aX x y z<=x.top:=by unfold aX;omega
   have v2:aX x y z<=y.top:=by unfold aX;omega
   have v3:aX x y z<=z.top:=by unfold aX;omega
   have w:aX x y z=x.top\/aX x y z=y.top\/aX x y z=z.top:=by unfold aX;omega
   generalize aX x y z=v at*;have D:∀{t:Tr},v=t.top->t.isL=mD:=λ{t} e=>by
    cases t with
    |qa6 b=>simp only [top] at e;omega
    |qa7 _ _ _=>rfl
   obtain ⟨a6,O,c4,a7,c7⟩:=cx F v1;obtain ⟨b2,a8,c3,b3,c9⟩:=cx L v2;obtain ⟨b5,M,c5,a0,c6⟩:=cx H v3;obtain ⟨b4,R,b8,b6,b9⟩:=cy F v1;obtain ⟨P,a9,c2,Q,b7⟩:=cy L v2;obtain ⟨a4,b1,c8,W,d0⟩:=cy H v3;have b0:(lo v x).sz+(lo v y).sz+(lo v z).sz<=n:=by
    rcases w with e|e|e
    ·have:=a7 e.symm (D e);omega
    ·have:=b3 e.symm (D e);omega
    ·have:=a0 e.symm (D e);omega
   have a1:(hi v x).sz+(hi v y).sz+(hi v z).sz<=n:=by
    rcases w with e|e|e
    ·have:=b6 e.symm (D e);omega
    ·have:=Q e.symm (D e);omega
    ·have:=W e.symm (D e);omega
   obtain ⟨l1,l2,l3⟩:=fq (o:=o) a6 b2 b5;obtain ⟨g1,g2,g3⟩:=fq (o:=o) b4 P a4;have a2:v<(ap o (lo v x) (lo v y) (lo v z)).top:=by have:=O A;have:=a8 A;have:=M A;unfold aX at l2;omega
   have a5:v<(ap o (hi v x) (hi v y) (hi v z)).top:=by have:=R A;have:=a9 A;have:=b1 A;unfold aX at g2;omega
   have B:=sQ N (v:=v) ⟨A,a2,a5,l1,g1⟩;rw [<- X] at B;rw [<- B] at g;have c1:=(bq _ S l1 N).1;have key:u∈tY (ap o (hi v x) (hi v y) (hi v z)) (tY (ap o (lo v x) (lo v y) (lo v z)) S)->u∈S\/u∈Y4 o a b d:=λg=>by
    rcases ih _ _ _ _ a1 ((bz ha).inn_hi G v) ((bz hb).inn_hi J v) ((bz hd).inn_hi K v) c1 u g with h|h
    ·exact ih _ _ _ _ b0 ((bz ha).inn_lo G v) ((bz hb).inn_lo J v) ((bz hd).inn_lo K v) N u h
    ·exact .inr h
   unfold fj at g;split at g
   ·exact key g
   ·rcases vj.1 g with g|g
    ·exact key g
    ·rw [vu.1 g];exact .inr E
  ·have C:∀{t:Tr},t.ok->64<=t.top->∃b,t=qa6 b:=λ{t} ht a3=>gy ht a3;unfold aX at A;obtain ⟨p,rfl⟩:=C F (by omega);obtain ⟨q,rfl⟩:=C L (by omega);obtain ⟨r,rfl⟩:=C H (by omega);rw [nA] at g;exact .inl g
theorem Gv {o:Wr} {a b d:Tr} (g:a.ok) (r:b.ok) (hd:d.ok):(aU (ap o a b d)).length<=((aU a).length+2)*(((aU b).length+2)*((aU d).length+2)):=by
 rw [<- B5 o a b d];refine cW _ _ (bz (LA g r hd)).nodup λx w=> ?_;rcases Sv g r hd _ a b d [] (ru _) (bH g) (bH r) (bH hd) .nil x w with h|h
 ·cases h
 ·exact h
def mO {α:Type} (a b c:α):Nat->α
 |0=>a
 |1=>b
 |_=>c
theorem f8 {F:PH} {b r:Nat} {w:Γ} {K:Γ->Ψ} {G:PH} {d:wa} {cs:Γ} (hd:DV G cs d) (B:F b=V (Y w r (0,0))) (h:w.size=2) (A:K cs (F.set b (Y cs r))):
  cs.size=2/\(∀v∈cs.toList,ak v)/\∃c e,F (oB b 0 I).block=V (Y c e (0,0))/\(oB b 0 I).spot=I/\(oB b 0 I).off+2<=c.size/\
   xJ (F.set (oB b 0 I).block (Y (wr c (oB b 0 I).off cs.toList) e)) λF=>∃g:Γ,g.size=2/\F.row (oB b 0 I) g/\K g F:=
 Uc B hd.size h hd.st ⟨cs,hd.size,ai (aq _ _ _),A⟩
theorem OpV.cells {F:PH} {v:ξ} {o:Wr} (h:OpV F v o):v.cells= #[v]:=by obtain ⟨k,f,c,rfl,_⟩:=h;rfl
def dE (F:PH) (a:Nat):PH:=λx=>if x=a then I else F x
theorem Ek (F:PH) (a:Nat):(dE F a).le F:=λx o h=>by
 unfold dE at h;split at h
 ·cases h
 ·exact h
theorem eX {F:PH} {a x:Nat} (h:x≠a):dE F a x=F x:=by simp [dE,h]
theorem B6 (F:PH) (a:Nat):dE F a a=I:=by simp [dE]
theorem d8 {F G:PH} {a:Nat} (h:F.le G) (w:F a=I):F.le (dE G a):=λx o g=>by
 have r:x≠a:=λe=>by rw [e,w] at g;cases g
 rw [eX r];exact h _ _ g
theorem aj.avoid {P:Program} {f:FuncId} {args:Γ} {F:PH} {x:Nat} {o:Obj} {R:ξ->Ψ} (h:aj P f args (dE F x) R) (w:F x=V o):
  aj P f args F λv g=>∃G,R v G/\G.le g/\g x=V o/\G x=I:=
 (h.upon (Ek F x)).mono λv g ⟨G,C,D,B⟩=>by obtain ⟨r,A⟩:=B x o (B6 F x) w;exact ⟨G,C,D,r,A⟩
theorem gX {F G r:PH} {x:Nat} {o:Obj} (h:(dE F x).le G) (B:G.le r) (A:r x=V o) (hF:F x=V o):F.le r:=λb C w=>by
 by_cases g:b=x
 ·subst g;rw [hF] at w;rw [A];exact w
 ·exact B _ _ (h _ _ (by rw [eX g];exact w))
section
variable {F:PH} {s0 s1 s2:Sl} {t0 t1 t2:Tr} {opv:ξ} {o:Wr}
theorem qhQ (h0:RdS F s0 3 (aV (pj t0).1)) (h1:RdS F s1 3 (aV (pj t1).1)) (h2:RdS F s2 3 (aV (pj t2).1)) (k0:t0.ok) (k1:t1.ok) (k2:t2.ok)
  (f0:yq ((aU t0).length+2)) (f1:yq ((aU t1).length+2)) (f2:yq ((aU t2).length+2)) (hf:yq ((aU (ap o t0 t1 t2)).length+4)) (c2:OpV F opv o):
  ν 185 #[nQ #[s0.v,U (pj t0).2,s1.v,U (pj t1).2,s2.v,U (pj t2).2],opv] F λr F'=>∃w,r=nQ w/\DV F' w (pj (ap o t0 t1 t2))/\F.le F':=by
 refine qeS ?_;unfold P7;intro b2 d3;refine tR ?_;have l2:=ae (Y #[s0.v,U (pj t0).2,s1.v,U (pj t1).2,s2.v,U (pj t2).2] 282) d3;have q2:=aq F b2 (Y #[s0.v,U (pj t0).2,s1.v,U (pj t1).2,s2.v,U (pj t2).2] 282);generalize F.set b2 (Y #[s0.v,U (pj t0).2,s1.v,U (pj t1).2,s2.v,U (pj t2).2] 282)=F2 at*;refine ⟨c2.cells,λb3 d0=> ?_⟩;refine tR ?_;have O:=ae (Y #[opv] 283) d0;have q3:=aq F2 b3 (Y #[opv] 283);have q2:=O _ _ q2;have l3:=l2.trans O;clear O;generalize F2.set b3 (Y #[opv] 283)=F3 at*;intro b4 b8;refine tR ?_;have f4:F b4=I:=aT l3 b8;have O:=ae (Y zD 33) b8;have q4:=aq F3 b4 (Y zD 33);have q2:=O _ _ q2;have q3:=O _ _ q3;have l4:=l3.trans O;clear O;generalize F3.set b4 (Y zD 33)=F4 at*;refine (qhb F4).mono ?_;rintro _ G ⟨D,mm,rfl,e3,bd⟩;refine ⟨_,rfl,?_⟩;intro J R;refine tR ?_;refine Wq (aq _ _ _) (by simp) ?_;rw [aR,show (#[pk I].setIfInBounds (oB J 0 I).off (pk (V ⟨D,0,I⟩)):Γ)= #[pk (V ⟨D,0,I⟩)] from rfl];have g5:F4 J=I:=aT bd.le R;have a3:=bd.grow (F:=G.set J (Y #[pk (V ⟨D,0,I⟩)] 245)) (ae _ R) R (aq _ _ _);have e5:=aq F4 J (Y #[pk (V ⟨D,0,I⟩)] 245);have l5:=ae (Y #[pk (V ⟨D,0,I⟩)] 245) g5;generalize F4.set J (Y #[pk (V ⟨D,0,I⟩)] 245)=N at*;generalize G.set J (Y #[pk (V ⟨D,0,I⟩)] 245)=G5 at*;intro g W;refine tR ?_;have a7:=a3.upto (ae (.map #[] 0) W);have g9:N g=I:=aT a3.le W;have c8:=dW.empty M1;have e9:=aq G5 g (.map #[] 0);have d1:mm≠g:=by obtain ⟨om,d4,_⟩:=a3.map;exact aH W d4
 generalize G5.set g (.map #[] 0)=G9 at*;intro A a2;refine tR ?_;refine Wq (aq _ _ _) (by simp) ?_;rw [aR,show (#[Value.map I].setIfInBounds (oB A 0 I).off (Value.map (V g)):Γ)= #[Value.map (V g)] from rfl];intro L a1;refine tR ?_;refine Wq (aq _ _ _) (by simp) ?_;rw [aR]
 let p:AP:=⟨b3,A,b2,L,J,D,mm,g,opv,o,mO (pj t0) (pj t1) (pj t2),mO (aU t0) (aU t1) (aU t2)⟩
 have e0:AS N G9 p []:=⟨a7,g9,d1,_,_,e9,c8,λk v c6=>by cases c6⟩;have a9:=e0.grow (F:=G9.set A (Y #[Value.map (V g)] 311)) (ae _ a2) a2 (aq _ _ _);have E:=a9.grow (F:=(G9.set A (Y #[Value.map (V g)] 311)).set L (Y #[.func (.func 212) #[] p.caps] 312)) (ae _ a1) a1 (aq _ _ _);have g6:N A=I:=aT a7.le a2;have g7:(N.set A (Y #[Value.map (V g)] 311)) L=I:=aT a9.bd.le a1;have l6:=ae (Y #[Value.map (V g)] 311) g6;have l7:=ae (Y #[.func (.func 212) #[] p.caps] 312) g7;have e6:=l7 _ _ (aq N A (Y #[Value.map (V g)] 311));have e7:=aq (N.set A (Y #[Value.map (V g)] 311)) L (Y #[.func (.func 212) #[] p.caps] 312);have lE:F4.le ((N.set A (Y #[Value.map (V g)] 311)).set L (Y #[.func (.func 212) #[] p.caps] 312)):=l5.trans (l6.trans l7);have e5:=(l6.trans l7) _ _ e5;rw [show (#[Value.nilFunc].setIfInBounds 0 (Value.func (.func 212) #[] #[pk (V ⟨b3,0,I⟩),pk (V ⟨A,0,I⟩),pk (V ⟨b2,0,I⟩),pk (V ⟨L,0,I⟩),pk (V ⟨J,0,I⟩)]):Γ)= #[.func (.func 212) #[] p.caps] from rfl];generalize (N.set A (Y #[Value.map (V g)] 311)).set L (Y #[.func (.func 212) #[] p.caps] 312)=E7 at*;generalize (G9.set A (Y #[Value.map (V g)] 311)).set L (Y #[.func (.func 212) #[] p.caps] 312)=G7 at*;have lF:=l4.trans lE;have he:AE E7 p:=by
  refine ⟨?_,?_,λi hi=> ?_,?_,?_,c2.le lF⟩
  ·show E7.cell ⟨b3,0,I⟩=V opv;rw [av (lE _ _ q3)];rfl
  ·show E7.cell ⟨A,0,I⟩=V _;rw [av e6];rfl
  ·have row:∀(j:Nat) (s:Sl) (r:Int),(#[s0.v,U (pj t0).2,s1.v,U (pj t1).2,s2.v,U (pj t2).2]:Γ)[j]? =V s.v->(#[s0.v,U (pj t0).2,s1.v,U (pj t1).2,s2.v,U (pj t2).2]:Γ)[j+1]? =V (U r)->
     E7.row ⟨b2,j,I⟩ #[s.v,U r]:=λj s r h1 h2 i hi=>by
    simp only [aI];rw [av (lE _ _ q2)]
    match i,hi with
    |0,_=>simpa using h1
    |1,_=>simpa using h2
   match i,hi with
   |0,_=>exact ⟨_,row 0 s0 _ rfl rfl,s0,rfl,h0.le lF⟩
   |1,_=>exact ⟨_,row 2 s1 _ rfl rfl,s1,rfl,h1.le lF⟩
   |2,_=>exact ⟨_,row 4 s2 _ rfl rfl,s2,rfl,h2.le lF⟩
  ·show E7.cell ⟨L,0,I⟩=V _;rw [av e7];rfl
  ·show E7.cell ⟨J,0,I⟩=V _;rw [av e5];rfl
 have e2:AF p:=by
  refine ⟨λi hi=> ?_,λi hi=> ?_,λi hi=> ?_⟩
  ·match i,hi with
   |0,_=>exact bz k0
   |1,_=>exact bz k1
   |2,_=>exact bz k2
  ·match i,hi with
   |0,_=>exact YN _
   |1,_=>exact YN _
   |2,_=>exact YN _
  ·match i,hi with
   |0,_=>show yq ((brs (aU t0)).length+2);rw [aO];exact f0
   |1,_=>show yq ((brs (aU t1)).length+2);rw [aO];exact f1
   |2,_=>show yq ((brs (aU t2)).length+2);rw [aO];exact f2
 have X:=E.bd.le _ _ (lE _ _ q2)
 refine ⟨_,aK E.bd.le he.c5,_,aK E.bd.le he.c7,by omega,by omega,(pj t0).2,by simp only [aI];rw [av X];rfl,by omega,by omega,(pj t1).2,by simp only [aI];rw [av X];rfl,
  by omega,by omega,(pj t2).2,by simp only [aI];rw [av X];rfl,_,_,_,rfl,JX,?_⟩
 have Q:p.res (mO t0 t1 t2)=ap o t0 t1 t2:=rfl;have a8:=M8 e2 _ (mO t0 t1 t2) (ru _) ⟨bH k0,bH k1,bH k2⟩ E7 G7 [] he E (by rw [Q];exact hf);rw [Q] at a8;refine a8.mono ?_;rintro _ F5 ⟨rfl,C⟩;have h:=C.bd.le _ _ (lE _ _ q2);refine ⟨_,rfl,by simp only [aI];rw [av h];rfl,by simp only [aI];rw [av h];rfl,by simp only [aI];rw [av h];rfl,aK C.bd.le he.c5,?_⟩;have e1:=LA (o:=o) k0 k1 k2;obtain ⟨_,c4,_,_,⟨sb,B,b0,_⟩,_⟩:=C.bd;have P:=C.bd.le;clear C;have ev:tY (ap o t0 t1 t2) []=aU (ap o t0 t1 t2):=rfl;rw [ev] at*;have H:=P _ _ (lE _ _ q4);replace B:F5 D=V (Y #[sb.v,Value.map (V mm)] 248):=B;have c9:D≠b4:=λe=>by rw [e,H] at B;simp at B
 have a6:bO (dE F5 b4) 201 3 sb (aV (brs (aU (ap o t0 t1 t2)))):=b0.keep λa ha=>by obtain ⟨e4,M⟩:=b0.elem ha;refine eX (λe=> ?_);rw [e,H] at M;cases M
 refine (aj.avoid (mN (b:=D) (F:=dE F5 b4) (ns:=sb) (by rw [av ((eX c9).trans B)];rfl) a6.rd c4 (bH e1) hf) H).mono ?_;rintro _ F6 ⟨G6,⟨w,rfl,hw,c3⟩,lg,a5,d2⟩;have b1:=gX c3 lg a5 H;have a0:=b1 _ _ h;refine ⟨_,rfl,by simp only [aI];rw [av a0];rfl,by simp only [aI];rw [av a0];rfl,by simp only [aI];rw [av a0];rfl,?_⟩;exact f8 (K:=λa4 F'=>∃w,nQ a4=nQ w/\DV F' w (pj (ap o t0 t1 t2))/\F.le F') hw a5 rfl ⟨w,rfl,hw.le (aB lg d2),aB (lF.trans (P.trans b1)) f4⟩
end
abbrev oP:wa:=([],0)
abbrev DR:=wa×Int
def mP:List wa->Int
 |[]=>0
 |d::r=>if chk d≠0 then chk d else mP r
open Classical in
def vi (d:wa):Tr:=if h:iU d then h.choose else qa6 mD
theorem mQ {t:Tr} (h:t.ok):vi (pj t)=t:=by have g:iU (pj t):=⟨t,h,rfl⟩;unfold vi;rw [dif_pos g];exact (xS h g.choose_spec.1 g.choose_spec.2).symm
theorem M9 {d:wa} (h:chk d=0):(vi d).ok/\d=pj (vi d)/\d.1.length<=4096:=by
 unfold chk at h;split at h
 ·cases h
 ·rename_i r;split at h
  ·rename_i g;unfold vi;rw [dif_pos g];exact ⟨g.choose_spec.1,g.choose_spec.2,by omega⟩
  ·cases h
theorem El {t:Tr} (h:t.ok) (g:(aU t).length<=4096):chk (pj t)=0:=by unfold chk;rw [Υ (by simp only [pj,aO];omega),Χ ⟨t,h,rfl⟩]
theorem sR {d:wa} (h:chk d=0):(aU (vi d)).length<=4096:=by obtain ⟨_,r,g⟩:=M9 h;rw [r] at g;simpa [pj,aO] using g
def Xf (d:wa):DR:=if 4096<d.1.length then (oP,2) else (d,0)
abbrev V2:=Bool->Bool->Bool
def Xo (o:V2) (a b:wa):DR:=if mP [a,b]≠0 then (oP,mP [a,b]) else Xf (pj (ap (λx y _=>o x y) (vi a) (vi b) (qa6 mD)))
def DRV (F:PH) (v:ξ) (x:DR):Prop:=∃w,v=po #[nQ w,U x.2]/\DV F w x.1
theorem DRV.le {F G:PH} {v:ξ} {x:DR} (h:DRV F v x) (r:F.le G):DRV G v x:=by obtain ⟨w,g,A⟩:=h;exact ⟨w,g,A.le r⟩
theorem DV.none (F:PH):DV F zD oP:=⟨pm,rfl,RdS.nil F 3⟩
theorem qid {F:PH} {x:Nat} {dd:List wa} {n:Nat} (M:n=dd.length) (W:n<=100) (h:∀i (hi:i<dd.length),∃w,F.row ⟨x,i*2,I⟩ w/\DV F w dd[i]):
  ν 183 #[(Sl.mk (V ⟨x,0,I⟩) n n).v] F λr J=>r=U (mP dd)/\F.le J:=by
 subst M;refine qeQ ?_;unfold P5;refine ⟨λm i J=>∃k:Nat,i=k/\k<=dd.length/\m=dd.length - k/\F.le J/\mP dd=mP (dd.drop k),dd.length,⟨0,rfl,by omega,rfl,PH.le_rfl,rfl⟩,?_⟩;rintro m i P ⟨k,rfl,R,rfl,g,A⟩;unfold EF;refine ⟨λB=> ?_,λD=> ?_⟩
 ·have C:k<dd.length:=by simpa using B
  obtain ⟨w,N,hd⟩:=h k C;refine ⟨_,rfl,by omega,B,w,hd.size,by simpa using aN g N,?_⟩;intro Q H;refine tR ?_;refine Uc (aq _ _ _) hd.size rfl hd.st ?_;rw [aR];have E:=ae (Y w 33) H;refine ⟨w,hd.size,ai (aq _ _ _),?_⟩;refine (lw (hd.le (g.trans E))).mono ?_;rintro _ F2 ⟨rfl,L⟩;rw [XJ C] at A;refine ⟨_,rfl,λK=> ?_,λO=> ?_⟩
  ·refine ⟨?_,(g.trans E).trans L⟩;rw [A];unfold mP;rw [Χ K]
  ·refine ⟨dd.length - (k+1),by omega,k+1,fo (by omega),by omega,rfl,(g.trans E).trans L,?_⟩;rw [A]
   conv=>lhs;unfold mP
   rw [Υ O]
 ·unfold EE;have G:k=dd.length:=by
   have:¬k<dd.length:=by simpa using D
   omega
  refine ⟨?_,g⟩;rw [A,G,XX];rfl
theorem qhR {F:PH} {v:Γ} {d:wa} (hd:DV F v d):ν 184 #[nQ v] F λr w=>DRV w r (Xf d)/\F.le w:=by
 have C:=hd;obtain ⟨s,rfl,N⟩:=hd;have L:=N.blen;refine qeR ?_;unfold P6;intro H G;refine tR ?_;have M:=ae (Y #[s.v,U d.2] 33) G;have D:=aq F H (Y #[s.v,U d.2] 33);generalize F.set H (Y #[s.v,U d.2] 33)=O at*;intro J A;refine tR ?_;have E:=M.trans (ae (Y zD 33) A);have B:H≠J:=aH A D;have f2:F J=I:=aT M A;refine ⟨s,by rw [av ((aw _ _ B).trans D)];rfl,λh=> ?_,λh=> ?_⟩
 ·refine f8 (K:=λg w=>DRV w (po #[nQ g,U 2]) (Xf d)/\F.le w) (DV.none F) (aq _ _ _) rfl ⟨?_,aB E f2⟩;unfold Xf;rw [Χ (by omega)];exact ⟨_,rfl,DV.none _⟩
 ·refine ⟨#[s.v,U d.2],rfl,ai ((aw _ _ B).trans D),?_⟩;refine f8 (K:=λg w=>DRV w (po #[nQ g,U 0]) (Xf d)/\F.le w) C (aq _ _ _) rfl ⟨?_,aB E f2⟩;unfold Xf;rw [Υ (by omega)];exact ⟨_,rfl,C.le (aB E f2)⟩
def Na (F0:PH) (v:ξ) (o:V2):Prop:=∃(k:Nat) (fst cap:Γ),v=.func (.func k) fst cap/\aF prog k=nk/\
 ∀(x y:Bool) (F:PH),F0.le F->aj prog k (fst++[nW x,nW y].toArray++cap) F λr F'=>r=nW (o x y)/\F.le F'
theorem qdD:aF prog 186=nk:=by kernel_rfl
theorem Nc {F0:PH} {b:Nat} {v:ξ} {o:V2} (A:F0.cell ⟨b,0,I⟩=V v) (h:Na F0 v o):OpV F0 (.func (.func 186) #[] #[pk (V ⟨b,0,I⟩)]) (λx y _=>o x y):=by refine ⟨186,#[],#[pk (V ⟨b,0,I⟩)],rfl,qdD,λx y z F g=> ?_⟩;obtain ⟨k,fst,cap,rfl,w,r⟩:=h;refine qeT ?_;unfold Qa;refine ⟨_,rfl,_,aK g A,k,fst,cap,rfl,w,?_⟩;refine (r x y F g).mono ?_;rintro _ C ⟨rfl,B⟩;exact ⟨_,rfl,rfl,B⟩
theorem JZ {a b c:Nat} (g:a<=4096) (h:b<=4096) (r:c<=4096):(a+2)*((b+2)*(c+2))<=68820189192:=by
 calc (a+2)*((b+2)*(c+2))<=4098*(4098*4098):=Yq (by omega) (Yq (by omega) (by omega))
  _<=68820189192:=by decide
theorem qdE {a b:wa} (h:¬mP [a,b]≠0):chk a=0/\chk b=0:=by
 unfold mP at h;split at h
 ·exact absurd (by assumption) h
 ·rename_i g;unfold mP at h;split at h
  ·exact absurd (by assumption) h
  ·rename_i r;omega
section
variable {F:PH} {v w:Γ} {a b:wa} {opv:ξ} {o:V2}
theorem oQ (ha:DV F v a) (hb:DV F w b) (a0:Na F opv o):ν 148 #[nQ v,nQ w,opv] F λr H=>DRV H r (Xo o a b)/\F.le H:=by
 have a7:=ha;have b0:=hb;obtain ⟨s,rfl,hr⟩:=ha;obtain ⟨t,rfl,ht⟩:=hb;refine qeN ?_;unfold PX;intro b3 a2;refine tR ?_;have l3:=ae (Y #[s.v,U a.2] 33) a2;have q3:=aq F b3 (Y #[s.v,U a.2] 33);generalize F.set b3 (Y #[s.v,U a.2] 33)=F3 at*;intro b4 a5;refine tR ?_;have g:=ae (Y #[t.v,U b.2] 33) a5;have q4:=aq F3 b4 (Y #[t.v,U b.2] 33);have q3:=g _ _ q3;have l4:=l3.trans g;clear g;generalize F3.set b4 (Y #[t.v,U b.2] 33)=F4 at*;refine ⟨by obtain ⟨k,f,c,rfl,_⟩:=a0;rfl,λP b1=> ?_⟩;refine tR ?_;have g:=ae (Y #[opv] 250) b1;have q5:=aq F4 P (Y #[opv] 250);have q3:=g _ _ q3;have q4:=g _ _ q4;have l5:=l4.trans g;clear g;generalize F4.set P (Y #[opv] 250)=F5 at*;intro D A;refine tR ?_;have f6:F D=I:=aT l5 A;have n3:b3≠D:=aH A q3;have n4:b4≠D:=aH A q4;have n5:P≠D:=aH A q5;have g:=ae (Y zD 33) A;have q6:=aq F5 D (Y zD 33);have q3:=g _ _ q3;have q4:=g _ _ q4;have q5:=g _ _ q5;have l6:=l5.trans g;clear g;generalize F5.set D (Y zD 33)=F6 at*;refine ⟨#[s.v,U a.2],rfl,ai q3,#[t.v,U b.2],rfl,ai q4,rfl,rfl,λE Q=> ?_⟩;refine tR ?_;have a4:wr (wr (#[tX I 0 0,U 0,tX I 0 0,U 0]:Γ) 0 (#[s.v,U a.2]:Γ).toList) 2 (#[t.v,U b.2]:Γ).toList= #[s.v,U a.2,t.v,U b.2]:=rfl;rw [a4];have g:=ae (Y #[s.v,U a.2,t.v,U b.2] 33) Q;have a3:=aq F6 E (Y #[s.v,U a.2,t.v,U b.2] 33);have q3:=g _ _ q3;have q4:=g _ _ q4;have q5:=g _ _ q5;have q6:=g _ _ q6;have N:=l6.trans g;clear g;generalize F6.set E (Y #[s.v,U a.2,t.v,U b.2] 33)=F7 at*;refine (qid (F:=F7) (x:=E) (dd:=[a,b]) (n:=2) rfl (by omega) (λi hi=> ?_)).mono ?_
 ·have row:∀(j:Nat) (s':Sl) (r:Int),(#[s.v,U a.2,t.v,U b.2]:Γ)[j]? =V s'.v->(#[s.v,U a.2,t.v,U b.2]:Γ)[j+1]? =V (U r)->F7.row ⟨E,j,I⟩ #[s'.v,U r]:=λj s' r h1 h2 i hi=>by
   simp only [aI];rw [av a3]
   match i,hi with
   |0,_=>simpa using h1
   |1,_=>simpa using h2
  match i,hi with
  |0,_=>exact ⟨_,row 0 s _ rfl rfl,a7.le N⟩
  |1,_=>exact ⟨_,row 2 t _ rfl rfl,b0.le N⟩
 rintro _ F8 ⟨rfl,C⟩;have q3:=C _ _ q3;have q4:=C _ _ q4;have q5:=C _ _ q5;have q6:=C _ _ q6;have C:=N.trans C;refine ⟨_,rfl,λh=> ?_,λh=> ?_⟩
 ·refine f8 (K:=λB H=>DRV H (po #[nQ B,U (mP [a,b])]) (Xo o a b)/\F.le H) (DV.none F) q6 rfl ⟨?_,aB C f6⟩;unfold Xo;rw [Χ h];exact ⟨_,rfl,DV.none _⟩
 ·obtain ⟨W,X⟩:=qdE h;obtain ⟨ka,ea,la⟩:=M9 W;obtain ⟨kb,eb,lb⟩:=M9 X;have sa:=sR W;have sb:=sR X;have b2:=Gv (o:=λx y _=>o x y) ka kb (d:=qa6 mD) trivial;have b7:=JZ sa sb (c:=(aU (qa6 mD)).length) (by simp [aU,tY]);refine ⟨#[s.v,U a.2],rfl,ai q3,#[t.v,U b.2],rfl,ai q4,rfl,rfl,rfl,?_⟩;have R:Xo o a b=Xf (pj (ap (λx y _=>o x y) (vi a) (vi b) (qa6 mD))):=by unfold Xo;rw [Υ h]
  rw [R];have ld:F.le (dE F8 D):=d8 C f6;have hc:=qhQ (F:=dE F8 D) (s0:=s) (s1:=t) (s2:=pm) (t0:=vi a) (t1:=vi b) (t2:=qa6 mD) (opv:=.func (.func 186) #[] #[pk (V ⟨P,0,I⟩)]) (o:=λx y _=>o x y)
   (by rw [<- ea];exact hr.le ld) (by rw [<- eb];exact ht.le ld) (RdS.nil _ _) ka kb trivial (by omega) (by omega) (by simp [aU,tY]) (by omega)
   (Nc (b:=P) (v:=opv) (by rw [av ((eX n5).trans q5)];rfl) (by
    obtain ⟨k,f,c,h1,h2,h3⟩:=a0
    exact ⟨k,f,c,h1,h2,λx y G hG=>h3 x y G (ld.trans hG)⟩))
  rw [<- ea,<- eb] at hc;refine (aj.avoid hc q6).mono ?_;rintro _ F9 ⟨G,⟨w,rfl,hw,lg⟩,lG,M,g6⟩;have l9:=gX lg lG M q6;refine ⟨_,rfl,?_⟩;have a8:DV (dE F9 D) w (pj (ap (λx y _=>o x y) (vi a) (vi b) (qa6 mD))):=hw.le (λx ob hx=>by rw [eX (λe=>by rw [e,g6] at hx;cases hx)];exact lG _ _ hx);refine (aj.avoid (qhR a8) M).mono ?_;rintro _ b8 ⟨G',⟨⟨w',rfl,L⟩,a1⟩,O,J,a9⟩;have a6:=gX a1 O J M;refine ⟨_,_,rfl,?_⟩;exact f8 (K:=λB H=>DRV H (po #[nQ B,U _]) (Xf (pj (ap (λx y _=>o x y) (vi a) (vi b) (qa6 mD))))/\F.le H) L J rfl ⟨⟨_,rfl,L.le (aB O a9)⟩,aB (C.trans (l9.trans a6)) f6⟩
end
theorem DV.beside {F G:PH} {x:Nat} {w:Γ} {d:wa} (h:DV G w d) (A:G.le F) (r:G x=I):DV (dE F x) w d:=
 h.le λy B g=>by rw [eX (λe=>by rw [e,r] at g;cases g)];exact A _ _ g
theorem B7 {f:FuncId} {args:Γ} {F:PH} {x:Nat} {o:Obj} {y:DR} (h:aj prog f args (dE F x) λr A=>DRV A r y/\(dE F x).le A) (B:F x=V o):
  aj prog f args F λr A=>∃w,r=po #[nQ w,U y.2]/\(∃G,DV G w y.1/\G.le A/\G x=I)/\F.le A/\A x=V o:=
 (aj.avoid h B).mono λ_ _ ⟨G,⟨⟨w,H,D⟩,E⟩,C,q,g⟩=>⟨w,H,⟨G,D,C,g⟩,gX E C q B,q⟩
theorem iV {f:FuncId} {args:Γ} {F:PH} {x:Nat} {o:Obj} {d:wa} (h:aj prog f args (dE F x) λr A=>∃w,r=nQ w/\DV A w d/\(dE F x).le A) (B:F x=V o):
  aj prog f args F λr A=>∃w,r=nQ w/\(∃G,DV G w d/\G.le A/\G x=I)/\F.le A/\A x=V o:=
 (aj.avoid h B).mono λ_ _ ⟨G,⟨w,H,D,E⟩,C,q,g⟩=>⟨w,H,⟨G,D,C,g⟩,gX E C q B,q⟩
theorem Pu {F G F0:PH} {b D:Nat} {B:Γ} {y:DR} {w:Γ} (r:DV G w y.1) (L:G.le F) (C:G b=I) (J:F b=V (Y B D (0,0))) (h:B.size=2) (H:F0.le F) (E:F0 b=I):
  w.size=2/\(∀v∈w.toList,ak v)/\∃c e,F (oB b 0 I).block=V (Y c e (0,0))/\(oB b 0 I).spot=I/\(oB b 0 I).off+2<=c.size/\
   xJ (F.set (oB b 0 I).block (Y (wr c (oB b 0 I).off w.toList) e)) λF=>∃g:Γ,g.size=2/\F.row (oB b 0 I) g/\DRV F (po #[nQ g,U y.2]) y/\F0.le F:=
 f8 (K:=λg A=>DRV A (po #[nQ g,U y.2]) y/\F0.le A) r J h ⟨⟨_,rfl,r.le (aB L C)⟩,aB H E⟩
theorem Sw {F F0:PH} {b B:Nat} {A:Γ} {h:Int} (C:F b=V (Y A B (0,0))) (r:A.size=2) (D:F0.le F) (E:F0 b=I):
  (zD:Γ).size=2/\(∀v∈(zD:Γ).toList,ak v)/\∃c e,F (oB b 0 I).block=V (Y c e (0,0))/\(oB b 0 I).spot=I/\(oB b 0 I).off+2<=c.size/\
   xJ (F.set (oB b 0 I).block (Y (wr c (oB b 0 I).off (zD:Γ).toList) e)) λF=>∃g:Γ,g.size=2/\F.row (oB b 0 I) g/\DRV F (po #[nQ g,U h]) (oP,h)/\F0.le F:=
 f8 (K:=λg w=>DRV w (po #[nQ g,U h]) (oP,h)/\F0.le w) (DV.none F) C r ⟨⟨_,rfl,DV.none _⟩,aB D E⟩
abbrev bV:V2:=λx y=>x && y
abbrev z8:V2:=λx y=>x || y
abbrev ly:V2:=λx y=> !(x==y)
theorem qdF:aF prog 149=nk:=by kernel_rfl
theorem qdG:aF prog 152=nk:=by kernel_rfl
theorem aal (F0:PH):Na F0 (.func (.func 149) #[] #[]) bV:=⟨149,#[],#[],rfl,qdF,λx y F _=>by
 refine qeO ?_;unfold PY
 exact ⟨λh=>⟨by simp [h],PH.le_rfl⟩,λh=>⟨by simp [h],PH.le_rfl⟩⟩⟩
theorem aam (F0:PH):Na F0 (.func (.func 152) #[] #[]) z8:=⟨152,#[],#[],rfl,qdG,λx y F _=>by
 refine qeP ?_;unfold PZ
 exact ⟨λh=>⟨by simp [h],PH.le_rfl⟩,λh=>⟨by simp [h],PH.le_rfl⟩⟩⟩
section
variable {F:PH} {v w u:Γ} {a b c:wa}
theorem J0 (M:DV F v a) (O:DV F w b):ν 109 #[nQ v,nQ w] F λr E=>DRV E r (Xo bV a b)/\F.le E:=by refine qdA ?_;unfold PQ;intro L C;refine tR ?_;have X:=ae (Y v 33) C;have q2:=aq F L (Y v 33);generalize F.set L (Y v 33)=F2 at*;intro N A;refine tR ?_;have g:=ae (Y w 33) A;have q3:=aq F2 N (Y w 33);have q2:=g _ _ q2;have H:=X.trans g;clear g;generalize F2.set N (Y w 33)=J at*;intro B h;refine tR ?_;have K:F B=I:=aT H h;have g:=ae (Y zD 33) h;have q4:=aq J B (Y zD 33);have q2:=g _ _ q2;have q3:=g _ _ q3;have D:=H.trans g;clear g;generalize J.set B (Y zD 33)=F4 at*;refine ⟨v,M.size,ai q2,w,O.size,ai q3,?_⟩;have ld:=d8 D K;refine (B7 (oQ (M.le ld) (O.le ld) (aal _)) q4).mono ?_;rintro _ F5 ⟨z,rfl,⟨G,R,P,Q⟩,W,q5⟩;exact ⟨_,_,rfl,Pu R P Q q5 rfl (D.trans W) K⟩
theorem Nf (M:DV F v a) (O:DV F w b):ν 113 #[nQ v,nQ w] F λr E=>DRV E r (Xo z8 a b)/\F.le E:=by refine qeJ ?_;unfold PS;intro L C;refine tR ?_;have X:=ae (Y v 33) C;have q2:=aq F L (Y v 33);generalize F.set L (Y v 33)=F2 at*;intro N A;refine tR ?_;have g:=ae (Y w 33) A;have q3:=aq F2 N (Y w 33);have q2:=g _ _ q2;have H:=X.trans g;clear g;generalize F2.set N (Y w 33)=J at*;intro B h;refine tR ?_;have K:F B=I:=aT H h;have g:=ae (Y zD 33) h;have q4:=aq J B (Y zD 33);have q2:=g _ _ q2;have q3:=g _ _ q3;have D:=H.trans g;clear g;generalize J.set B (Y zD 33)=F4 at*;refine ⟨v,M.size,ai q2,w,O.size,ai q3,?_⟩;have ld:=d8 D K;refine (B7 (oQ (M.le ld) (O.le ld) (aam _)) q4).mono ?_;rintro _ F5 ⟨z,rfl,⟨G,R,P,Q⟩,W,q5⟩;exact ⟨_,_,rfl,Pu R P Q q5 rfl (D.trans W) K⟩
abbrev tv (v:Nat):Tr:=qa7 v (qa6 mD) (qa6 nk)
theorem SA (v:Nat):pj (tv v)=([⟨(v:Int),0,1⟩],2):=by
 have e:aU (tv v)=[tv v]:=by simp [aU,tY,tv]
 unfold pj;rw [e];simp [brs,br,num,tv]
theorem qdH {v:Nat} (h:v<64):(tv v).ok:=⟨h,h,h,by simp,trivial,trivial⟩
theorem gE (x:Bool):ν 112 #[nW x] F λr A=>∃w,r=nQ w/\DV A w (pj (qa6 x))/\F.le A:=by
 refine qeI ?_;unfold PR;intro D B;refine tR ?_;have C:=ae (Y zD 33) B;have q2:=aq F D (Y zD 33);refine ⟨λh=> ?_,λh=> ?_⟩
 ·subst h;have hd:∀G:PH,DV G #[tX I 0 0,U 1] (pj (qa6 nk)):=λG=>⟨pm,rfl,RdS.nil G 3⟩;exact f8 (K:=λg A=>∃w,nQ g=nQ w/\DV A w (pj (qa6 nk))/\F.le A) (hd F) q2 rfl ⟨_,rfl,hd _,aB C B⟩
 ·subst h;have hd:∀G:PH,DV G zD (pj (qa6 mD)):=λG=>⟨pm,rfl,RdS.nil G 3⟩;exact f8 (K:=λg A=>∃w,nQ g=nQ w/\DV A w (pj (qa6 mD))/\F.le A) (hd F) q2 rfl ⟨_,rfl,hd _,aB C B⟩
def t5 (v:Int):DR:=if v<0\/63<v then (oP,1) else (pj (tv v.toNat),0)
end
section
variable {F:PH} {v:Γ} {a:wa}
def wu (c:Int):Cf:=λi=>c.toNat.testBit i
theorem iD {x:Int} (g:0<=x) (h:x<18446744073709551616):u64.wrap x=x:=by unfold IntKind.wrap;simp only [IntKind.bits,IntKind.signed];simp only [W6,VQ,if_false];omega
theorem J1 (n v:Nat):Int.fdiv (n:Int) (2 ^ v)=((n / 2 ^ v:Nat):Int):=by
 have g:(2:Int) ^ v=((2 ^ v:Nat):Int):=by simp
 rw [g,Zb _ (Int.natCast_nonneg _)];rfl
theorem uE (n:Nat) (h:n<18446744073709551616):(BitVec.ofInt (u64).bits (n:Int)).toNat=n:=by show (BitVec.ofInt 64 (n:Int)).toNat=n;rw [BitVec.toNat_ofInt];omega
theorem mR {c:Int} (w:0<=c) (A:c<18446744073709551616) {v:Nat} (B:v<64):
  (u64.wrap ((BitVec.ofInt (u64).bits (Int.fdiv c (2 ^ (min (nX (v:Int)) (u64).bits))) &&& BitVec.ofInt (u64).bits (1:Int)).toNat))=(1:Int)↔wu c v=nk:=by
 obtain ⟨n,rfl⟩:=Yj w;have h:min (nX (v:Int)) (u64).bits=v:=by simp only [IntKind.bits,N4];omega
 rw [h,J1,BitVec.toNat_and];have r:n / 2 ^ v<=n:=Nat.div_le_self _ _;have g:(BitVec.ofInt (u64).bits (1:Int)).toNat=1:=uE 1 (by omega);rw [uE _ (by omega),g,Nat.and_one_is_mod,iD (by omega) (by omega)];unfold wu;rw [N4,Nat.testBit_eq_decide_div_mod_eq,decide_eq_true_iff];omega
def jm (a:wa) (c:Int):Bool:=open Classical in if chk a≠0 then mD else (vi a).ev (wu c)
theorem sS (ha:DV F v a) {c:Int} (h0:0<=c) (R:c<18446744073709551616):ν 76 #[nQ v,.int .u64 c] F λr M=>r=nW (jm a c)/\F.le M:=by
 have N:=ha;obtain ⟨s,rfl,hr⟩:=ha;refine aas ?_;unfold W7;intro b2 P;refine tR ?_;have K:=ae (Y #[s.v,U a.2] 33) P;have q2:=aq F b2 (Y #[s.v,U a.2] 33);generalize F.set b2 (Y #[s.v,U a.2] 33)=F2 at*;refine ⟨_,rfl,ai q2,?_⟩;refine (lw (N.le K)).mono ?_;rintro _ F3 ⟨rfl,E⟩;refine ⟨_,rfl,λh=> ?_,λh=> ?_⟩
 ·refine ⟨?_,K.trans E⟩;unfold jm;rw [Χ h]
 ·obtain ⟨ka,W,la⟩:=M9 (by omega:chk a=0);have hT:=bz ka;have D:RdS F s 3 (aV (brs (aU (vi a)))):=by rw [W] at hr;exact hr
  have G:=D.blen;rw [aO] at G;have a2:=sR (by omega:chk a=0);have e2:a.2=(num (aU (vi a)) (vi a):Int):=by
   conv=>lhs;rw [W]
   rfl
  have he:jm a c=(vi a).ev (wu c):=by unfold jm;rw [Υ h]
  refine ⟨a.2,by rw [av (E _ _ q2)];rfl,?_⟩;refine ⟨λm i M=>∃B,i=(num (aU (vi a)) B:Int)/\inn (aU (vi a)) B/\m=B.sz/\F3.le M/\B.ev (wu c)=(vi a).ev (wu c),(vi a).sz,⟨vi a,e2,bH ka,rfl,PH.le_rfl,rfl⟩,?_⟩;rintro m i F4 ⟨B,rfl,g,rfl,J,A⟩;unfold Kj;refine ⟨λa3=> ?_,λa0=> ?_⟩
  ·cases B with
   |qa6 x=>have:=cK (aU (vi a)) x;omega
   |qa7 w l r=>
    obtain ⟨il,ir⟩:=hT.inn_kids g;obtain ⟨X,_⟩:=hT.inn_ok g;have hg:=cY (S:=aU (vi a)) (t:=qa7 w l r) rfl;have a1:=dP g;have O:=oT (n:=num (aU (vi a)) (qa7 w l r)) (by omega) hg;obtain ⟨p,hp,H,_⟩:=VX (D.le (K.trans (E.trans J))) (jX (eB (cC g rfl) rfl));refine ⟨s,by rw [av (J _ _ (E _ _ q2))];rfl,p,hp,by rw [O];omega,by rw [O];omega,aW (br (aU (vi a)) (qa7 w l r)),rfl,by rw [O];exact H,?_⟩;intro b6 L;refine tR ?_;refine Uc (aq _ _ _) rfl rfl (iE _) ?_;rw [aR];have l6:=J.trans (ae (Y (aW (br (aU (vi a)) (qa7 w l r))) 201) L);refine ⟨(w:Int),by rw [av (aq _ _ _)];rfl,by omega,λQ=> ?_,λQ=> ?_⟩
    ·have C:=(mR h0 R X).1 Q;refine ⟨_,by rw [av (aq _ _ _)];rfl,r.sz,by simp only [sz];omega,r,rfl,ir,rfl,l6,?_⟩;rw [<- A];simp [Tr.ev,C]
    ·have C:¬wu c w=nk:=λhc=>Q ((mR h0 R X).2 hc);refine ⟨_,by rw [av (aq _ _ _)];rfl,l.sz,by simp only [sz];omega,l,rfl,il,rfl,l6,?_⟩;rw [<- A];simp [Tr.ev,C]
  ·unfold Ki;refine ⟨?_,K.trans (E.trans J)⟩;rw [he,<- A];cases B with
   |qa6 x=>cases x<;>simp [num,Tr.ev]
   |qa7 w l r=>have:=cY (S:=aU (vi a)) (t:=qa7 w l r) rfl;omega
end
def lm (n:Nat):Δ:=if h:n=0 then [] else n % 4294967296::lm (n / 4294967296)
termination_by n
decreasing_by exact Nat.div_lt_self (by omega) (by decide)
abbrev aan (l:Δ):Ξ:=l.map λ(x:Nat)=>Value.int .u32 (x:Int)
def NV (F:PH) (s:Sl) (n:Nat):Prop:=RdS F s 1 (aan (lm n))
theorem NV.le {F G:PH} {s:Sl} {n:Nat} (h:NV F s n) (g:F.le G):NV G s n:=RdS.le h g
def dS (n:Nat):Tr->Prop
 |qa6 _=>True
 |qa7 v l h=>v<n/\dS n l/\dS n h
theorem oo {F G:PH} {x:Nat} (h:F.le G):(dE F x).le (dE G x):=λy o g=>by
 have r:y≠x:=λe=>by rw [e,B6] at g;cases g
 rw [eX r] at g ⊢;exact h _ _ g
theorem sT {T:List Tr} (g:Cl T) {n:Nat} (h:∀x∈T,x.top<n):∀(t:Tr),inn T t->dS n t
 |qa6 _,_=>trivial
 |qa7 v l r,ht=>by obtain ⟨il,w⟩:=g.inn_kids ht;exact ⟨h _ (cC ht rfl),sT g h l il,sT g h r w⟩
variable {R:VR} {F:PH}
set_option maxHeartbeats 4000000
def WL (a:Bool) (R:VR) (F:PH):Prop:=Nb F (Y zD 33) λb F=>Bb (a) (aA F (Z b 0) 2 (#[tX I 0 0,(U 1)]:Γ) λF=>Rr 2 (Z b 0) R F) (aA F (Z b 0) 2 zD λF=>Rr 2 (Z b 0) R F)
theorem aao {a:Bool} (h:WL a R F):ν 85 #[nW a] F R:=Rx.Λ .N h
def sU (c:Int) (d:Nat) (e:Bool) (R:VR) (F:PH):Prop:=Bb (e) (aA F (Z d 0) 2 zD λF=>Lr F 2 (Z d 0) λb=>R (po #[nQ b,(U 1)]) F) ((#[(U c),(U 0),(U 1)]:Γ).size=3/\Nb F (Y (#[(U c),(U 0),(U 1)]:Γ) 201) λf F=>aA F (Z d 0) 2 (#[nI (Sb f 1),(U 2)]:Γ) λF=>Lr F 2 (Z d 0) λa=>R (po #[nQ a,(U 0)]) F)
def WM (a:Int) (R:VR) (F:PH):Prop:=Nb F (Y zD 33) λb F=>Bc (a<0) (sU a b nk R F) (sU a b (decide (63<a)) R F)
theorem aap {a:Int} (h:WM a R F):ν 87 #[(U a)] F R:=Rx.Λ (.qa8 (.T (.J mD [(9,.bool)] .N .N) .N)) h
def WN (b:Sl) (c:Int) (R:VR) (F:PH):Prop:=Nb F (Y zD 33) λd F=>Ca 127 #[nI b,(U (max 0 (min c 6))),(U 0),(U 0)] F λa F=>aA F (Z d 0) 2 a λF=>Rr 2 (Z d 0) R F
theorem aaq {a:Sl} {b:Int} (h:WN a b R F):ν 93 #[nI a,(U b)] F R:=Rx.Λ .N h
def J2 (d:Sl) (j c a:Int) (R:VR) (F:PH):Prop:=Nb F (Y zD 33) λl F=>Bc (c=j) (Bc ((i64.wrap (Int.tdiv a 8))<(d.len:Int)) (Ix d (i64.wrap (Int.tdiv a 8)) λm=>∃g,F.cell (nV m (nX (i64.wrap (Int.tdiv a 8))*1))=V (.int .u8 g)/\0<=(u64.wrap (sj a 8))/\Ca 85 #[nW (decide ((u8.wrap ((BitVec.ofInt (u8).bits (Int.fdiv g (2 ^ (min (nX (u64.wrap (sj a 8))) (u8).bits))) &&& BitVec.ofInt (u8).bits 1).toNat))=1))] F λn F=>aA F (Z l 0) 2 n λF=>Rr 2 (Z l 0) R F) (Ca 85 #[nW mD] F λe F=>aA F (Z l 0) 2 e λF=>Rr 2 (Z l 0) R F)) (ν 87 #[(U c)] F λv F=>∃h,∃f,v=(po #[nQ h,(U f)])/\Nb F (Y zD 33) λk F=>aA F (Z k 0) 2 h λF=>Lr F 2 (Z k 0) λi=>0<=(u64.wrap c)/\Lr F 2 (Z k 0) λb=>Ca 127 #[nI d,(U j),(U (i64.wrap (c+1))),(U (i64.wrap (a+(i64.wrap (1*2 ^ (min (nX (u64.wrap c)) (i64).bits))))))] F λo F=>F.row (Z k 0) b/\F.row (Z k 0) i/\Ca 159 #[nQ i,nQ o] F λp F=>F.row (Z k 0) b/\Ca 127 #[nI d,(U j),(U (i64.wrap (c+1))),(U a)] F λq F=>F.row (Z k 0) b/\Ca 160 #[nQ q,nQ b] F λr F=>Ca 158 #[nQ p,nQ r] F λs F=>aA F (Z l 0) 2 s λF=>Rr 2 (Z l 0) R F)
theorem Pv {a:Sl} {b:Int} {c:Int} {d:Int} (h:J2 a b c d R F):ν 127 #[nI a,(U b),(U c),(U d)] F R:=Rx.Λ .N h
def Em (a:Int) (R:VR) (F:PH):Prop:=R (nW (decide (a=1))) F
def Eo (j:Ω) (i:Int) (k:Nat) (R:VR) (a:Int) (F:PH):Prop:=Bc (1<a) (Ls F (Z k 0) λd=>Ix d (i64.wrap (a - 2)) λe=>∃b,b.size=3/\F.row (nV e (nX (i64.wrap (a - 2))*3)) b/\Nb F (Y (#[U 0,U 0,U 0]) 201) λh F=>aA F (Z h 0) 3 b λF=>Li F (Z h 0) λc=>0<=(u64.wrap c)/\Bc ((u64.wrap ((BitVec.ofInt (u64).bits (Int.fdiv i (2 ^ (min (nX (u64.wrap c)) (u64).bits))) &&& BitVec.ofInt (u64).bits 1).toNat))=1) (Li F (Z h 2) λf=>j f F) (Li F (Z h 1) λg=>j g F)) (Em a R F)
def Pw (b:Γ) (c:Int) (R:VR) (F:PH):Prop:=Nb F (Y b 33) λe F=>Li F (Z e 1) λd=>Lp d F λN a F=>Eo N c e R a F
theorem qdI {a:Γ} {b:Int} (h:Pw a b R F):ν 132 #[nQ a,.int .u64 b] F R:=Rx.Λ (.qa8 (.qa8 (.J mD [(5,.int .i64)] (.L [(5,.int .i64)] .N) .N))) h
def Px (b:Γ) (R:VR) (F:PH):Prop:=Nb F (Y b 33) λe F=>Nb F (Y zD 33) λf F=>Lr F 2 (Z e 0) λa=>Ca 85 #[nW nk] F λc F=>F.row (Z e 0) a/\Ca 191 #[nQ a,nQ c,(U 2)] F λd F=>aA F (Z f 0) 2 d λF=>Rr 2 (Z f 0) R F
theorem qdJ {a:Γ} (h:Px a R F):ν 157 #[nQ a] F R:=Rx.Λ .N h
def Py (a b:Γ) (R:VR) (F:PH):Prop:=Nb F (Y a 33) λg F=>Nb F (Y b 33) λh F=>Nb F (Y zD 33) λf F=>Lr F 2 (Z g 0) λc=>Lr F 2 (Z h 0) λd=>Ca 191 #[nQ c,nQ d,(U 1)] F λe F=>aA F (Z f 0) 2 e λF=>Rr 2 (Z f 0) R F
theorem qdK {a:Γ} {b:Γ} (h:Py a b R F):ν 158 #[nQ a,nQ b] F R:=Rx.Λ .N h
def Pz (a b:Γ) (R:VR) (F:PH):Prop:=Nb F (Y a 33) λg F=>Nb F (Y b 33) λh F=>Nb F (Y zD 33) λf F=>Lr F 2 (Z g 0) λc=>Lr F 2 (Z h 0) λd=>Ca 191 #[nQ c,nQ d,(U 0)] F λe F=>aA F (Z f 0) 2 e λF=>Rr 2 (Z f 0) R F
theorem qdL {a:Γ} {b:Γ} (h:Pz a b R F):ν 159 #[nQ a,nQ b] F R:=Rx.Λ .N h
def PA (b c:Γ) (R:VR) (F:PH):Prop:=Nb F (Y b 33) λg F=>Nb F (Y c 33) λi F=>Nb F (Y zD 33) λh F=>Lr F 2 (Z g 0) λa=>Lr F 2 (Z i 0) λd=>Ca 157 #[nQ d] F λe F=>F.row (Z g 0) a/\Ca 159 #[nQ a,nQ e] F λf F=>aA F (Z h 0) 2 f λF=>Rr 2 (Z h 0) R F
theorem qdM {a:Γ} {b:Γ} (h:PA a b R F):ν 160 #[nQ a,nQ b] F R:=Rx.Λ .N h
def PB (j k:Γ) (b:Int) (R:VR) (F:PH):Prop:=Nb F (Y j 33) λl F=>Nb F (Y k 33) λm F=>Nb F (Y zD 33) λn F=>Lr F 2 (Z l 0) λc=>Lr F 2 (Z m 0) λa=>c.size=2/\a.size=2/\Nb F (Y (Array.setIfInBounds (wr (wr (#[tX I 0 0,U 0,.slice I 0 0,U 0,U 0,.slice I 0 0,.slice I 0 0]:Γ) 0 c.toList) 2 a.toList) 4 (U b)) 320) λd F=>Li F (Z l 1) λe=>Li F (Z m 1) λf=>Ci 215 #[(Pp d),(U e),(U f)] F λg F=>Ls F (Z d 5) λh=>Ca 216 #[nI h,(U g)] F λi F=>aA F (Z n 0) 2 i λF=>Rr 2 (Z n 0) R F
theorem qdN {b:Γ} {c:Γ} {a:Int} (h:PB b c a R F):ν 191 #[nQ b,nQ c,(U a)] F R:=Rx.Λ .N h
def PC (a:Γ) (R:VR) (F:PH):Prop:=Nb F (Y a 33) λe F=>Ls F (Z e 0) λb=>Bc ((4096:Int)<(b.len:Int)) (R (U 2) F) (Lr F 2 (Z e 0) λc=>vf 217 #[nQ c] F λd F=>Bb ((!d)) (R (U 20) F) (R (U 0) F))
theorem qdO {a:Γ} (h:PC a R F):ν 192 #[nQ a] F R:=Rx.Λ .N h
def xw (w:Θ) (h i:Int) (R:VR) (F:PH):Prop:=∃a,w=V a/\Lr F 2 a λr=>Lr F 2 (nV a 2) λj=>Ci 241 #[nQ r,(U h)] F λe F=>F.row (nV a 2) j/\Ci 241 #[nQ j,(U i)] F λf F=>Lr F 2 a λs=>ν 242 #[nQ s,(U h),(U (min e f))] F λv F=>∃k,∃c,v=(po #[(U k),(U c)])/\Lr F 2 (nV a 2) λt=>ν 242 #[nQ t,(U i),(U (min e f))] F λv F=>∃l,∃d,v=(po #[(U l),(U d)])/\Ci 215 #[pk (V a),(U k),(U l)] F λm F=>Ci 215 #[pk (V a),(U c),(U d)] F λn F=>Ls F (nV a 5) λo=>ν 243 #[nI o,nQ (#[(U (min e f)),(U m),(U n)]:Γ)] F λv F=>∃g,∃b,v=(po #[nI g,(U b)])/\pv F (nV a 5) (nI g) λF=>Ls F (nV a 6) λp=>(#[(U h),(U i),(U b)]:Γ).size=3/\Nb F (Y (#[(U h),(U i),(U b)]:Γ) 313) λu F=>Ap 318 #[nI p,nI (Sb u 1)] F λq F=>pv F (nV a 6) (nI q) λF=>R (U b) F
def qv (g:Ω) (a:Addr) (_ _ b:Int) (c:Bool) (R:VR) (F:PH):Prop:=Bb (c) (Ls F (nV a 6) λd=>Ix d b λe=>0<=(2:Int)/\(2:Int)<3/\Li F (nV (nV e (nX b*3)) (nX 2*1)) λf=>R (U f) F) (g (i64.wrap (b+1)) F)
def Ep (m:Ω) (l:Θ) (c d:Int) (R:VR) (b:Int) (F:PH):Prop:=∃a,l=V a/\Ls F (nV a 6) λe=>Bc (b<(e.len:Int)) (Ls F (nV a 6) λf=>Ix f b λg=>0<=(0:Int)/\(0:Int)<3/\Li F (nV (nV g (nX b*3)) (nX 0*1)) λh=>Bc (h=c) (Ls F (nV a 6) λi=>Ix i b λj=>0<=(1:Int)/\(1:Int)<3/\Li F (nV (nV j (nX b*3)) (nX 1*1)) λk=>qv m a c d b (decide (k=d)) R F) (qv m a c d b mD R F)) (xw (V a) c d R F)
def mT (a:Θ) (b c:Int) (d:Bool) (R:VR) (F:PH):Prop:=Bb (d) (Ci 240 #[pk a,(U b),(U c)] F λe F=>R (U e) F) (Lp 0 F λN f F=>Ep N a b c R f F)
def PD (c:Θ) (a b:Int) (R:VR) (F:PH):Prop:=Bc (a<2) (mT c a b (decide (b<2)) R F) (mT c a b mD R F)
theorem qdP {a:Θ} {b:Int} {c:Int} (h:PD a b c R F):ν 215 #[pk a,(U b),(U c)] F R:=Rx.Λ (.qa8 (.T (.J mD [(22,.bool)] .N .N) (.J mD [(0,.ptr)] (.qa8 (.L [(7,.int .i64)] (.qa8 (.T (.J mD [(57,.bool)] .N .N) .N)))) .N))) h
def PE (a:Sl) (b:Int) (R:VR) (F:PH):Prop:=Nb F (Y zD 33) λg F=>aG prog (Instr.makeSlice 76 (U (a.len:Int)) (U (a.len:Int))) F λv F=>∃c,v=(nI c)/\Nb F (Y (#[nI a,nI c,tX I 0 0]:Γ) 339) λd F=>Ci 244 #[(Pp d),(U b)] F λe F=>Ls F (Z d 2) λf=>aA F (Z g 0) 2 (#[nI f,(U e)]:Γ) λF=>Rr 2 (Z g 0) R F
theorem qdQ {a:Sl} {b:Int} (h:PE a b R F):ν 216 #[nI a,(U b)] F R:=Rx.Λ .N h
def Er (f:Nat) (R:VR) (F:PH):Prop:=Lr F 2 (Z f 0) λa=>Ls F (Z f 0) λb=>Li F (Z f 1) λc=>Ca 216 #[nI b,(U c)] F λd F=>F.row (Z f 0) a/\vf 230 #[nQ a,nQ d] F λe F=>R (nW e) F
def Es (f:Ω) (e:Nat) (R:VR) (a:Int) (F:PH):Prop:=Ls F (Z e 0) λb=>Bc (a<(b.len:Int)) (Lr F 2 (Z e 0) λc=>vf 245 #[nQ c,(U a)] F λd F=>Bb ((!d)) (R (nW mD) F) (f (i64.wrap (a+1)) F)) (Er e R F)
def PF (c:Γ) (R:VR) (F:PH):Prop:=Nb F (Y c 33) λb F=>Li F (Z b 1) λd=>Bc (d<0) (R (nW mD) F) (Li F (Z b 1) λe=>Ls F (Z b 0) λa=>Bc ((i64.wrap ((a.len:Int)+2))<=e) (R (nW mD) F) (Lp 0 F λN f F=>Es N b R f F))
theorem qdR {a:Γ} (h:PF a R F):ν 217 #[nQ a] F R:=Rx.Λ (.qa8 (.qa8 (.J mD [] (.qa8 (.L [(3,.int .i64)] .N)) .N))) h
def Ng (R:VR) (F:PH):Prop:=R (nW nk) F
def Et (k:Ω) (j l:Nat) (R:VR) (a:Int) (F:PH):Prop:=Ls F (Z j 0) λc=>Bc (a<(c.len:Int)) (Ls F (Z j 0) λd=>Ix d a λe=>Lr F 3 (nV e (nX a*3)) λf=>Ls F (Z l 0) λg=>Ix g a λh=>Lr F 3 (nV h (nX a*3)) λi=>∃b,(∀F,qX prog (Op.equal 201 (nQ f) (nQ i)) F b)/\Bb ((!b)) (R (nW mD) F) (k (i64.wrap (a+1)) F)) (Ng R F)
def PG (c d:Γ) (R:VR) (F:PH):Prop:=Nb F (Y c 33) λe F=>Nb F (Y d 33) λf F=>Li F (Z e 1) λg=>Li F (Z f 1) λh=>Bc (g≠h) (R (nW mD) F) (Ls F (Z e 0) λa=>Ls F (Z f 0) λb=>Bc ((a.len:Int)≠(b.len:Int)) (R (nW mD) F) (Lp 0 F λN i F=>Et N e f R i F))
theorem qdS {a:Γ} {b:Γ} (h:PG a b R F):ν 230 #[nQ a,nQ b] F R:=Rx.Λ (.qa8 (.qa8 (.J mD [] (.qa8 (.L [(5,.int .i64)] .N)) .N))) h
def PI (e:Θ) (c d:Int) (R:VR) (F:PH):Prop:=∃a,e=V a/\Li F (nV a 4) λb=>Bc (b=0) (R (U (i64.wrap (c*d))) F) (Bc (b=1) (R (U (max c d)) F) (R (U (sj (i64.wrap (c+d)) 2)) F))
theorem qdu {a:Θ} {b:Int} {c:Int} (h:PI a b c R F):ν 240 #[pk a,(U b),(U c)] F R:=Rx.Λ .N h
def PJ (d:Γ) (b:Int) (R:VR) (F:PH):Prop:=Nb F (Y d 33) λf F=>Bc (b<2) (R (U 64) F) (Ls F (Z f 0) λe=>Ix e (i64.wrap (b - 2)) λc=>∃a,F.cell (nV c (nX (i64.wrap (b - 2))*3))=V (U a)/\R (U a) F)
theorem qdv {a:Γ} {b:Int} (h:PJ a b R F):ν 241 #[nQ a,(U b)] F R:=Rx.Λ .N h
def PK (i:Γ) (a j:Int) (R:VR) (F:PH):Prop:=Nb F (Y i 33) λk F=>Lr F 2 (Z k 0) λl=>Ci 241 #[nQ l,(U a)] F λd F=>Bc (d≠j) (R (po #[(U a),(U a)]) F) (Ls F (Z k 0) λe=>Ix e (i64.wrap (a - 2)) λf=>∃b,F.cell (nV (nV f (nX (i64.wrap (a - 2))*3)) 1)=V (U b)/\Ls F (Z k 0) λg=>Ix g (i64.wrap (a - 2)) λh=>∃c,F.cell (nV (nV h (nX (i64.wrap (a - 2))*3)) 2)=V (U c)/\R (po #[(U b),(U c)]) F)
theorem qdw {a:Γ} {b:Int} {c:Int} (h:PK a b c R F):ν 242 #[nQ a,(U b),(U c)] F R:=Rx.Λ .N h
def Eu (c:Sl) (e:Nat) (R:VR) (F:PH):Prop:=Lr F 3 (Z e 0) λa=>a.size=3/\Nb F (Y a 201) λd F=>Ap 31 #[nI c,nI (Sb d 1)] F λb F=>R (po #[nI b,(U (i64.wrap ((b.len:Int)+1)))]) F
def Ew (h:Ω) (b:Sl) (g:Nat) (R:VR) (a:Int) (F:PH):Prop:=Bc (a<(b.len:Int)) (Ix b a λd=>Lr F 3 (nV d (nX a*3)) λe=>Lr F 3 (Z g 0) λf=>∃c,(∀F,qX prog (Op.equal 201 (nQ e) (nQ f)) F c)/\Bb (c) (R (po #[nI b,(U (i64.wrap (a+2)))]) F) (h (i64.wrap (a+1)) F)) (Eu b g R F)
def PL (a:Sl) (e:Γ) (R:VR) (F:PH):Prop:=Nb F (Y e 201) λd F=>Li F (Z d 1) λf=>Li F (Z d 2) λb=>Bc (f=b) (Li F (Z d 1) λc=>R (po #[nI a,(U c)]) F) (Lp 0 F λN g F=>Ew N a d R g F)
theorem qdx {a:Sl} {b:Γ} (h:PL a b R F):ν 243 #[nI a,nQ b] F R:=Rx.Λ (.qa8 (.qa8 (.J mD [] (.qa8 (.L [(6,.int .i64)] .N)) .N))) h
def J3 (x:Θ) (b:Int) (R:VR) (F:PH):Prop:=Bc (b<2) (R (U b) F) (∃a,x=V a/\Ls F (nV a 1) λi=>Ix i (i64.wrap (b - 2)) λj=>∃e,F.cell (nV j (nX (i64.wrap (b - 2))*1))=V (U e)/\Bc (0<e) (Ls F (nV a 1) λk=>Ix k (i64.wrap (b - 2)) λl=>∃f,F.cell (nV l (nX (i64.wrap (b - 2))*1))=V (U f)/\R (U f) F) (Ls F a λm=>Ix m (i64.wrap (b - 2)) λn=>∃c,c.size=3/\F.row (nV n (nX (i64.wrap (b - 2))*3)) c/\Nb F (Y (#[U 0,U 0,U 0]) 201) λo F=>aA F (Z o 0) 3 c λF=>Li F (Z o 1) λp=>Ci 244 #[pk (V a),(U p)] F λg F=>Li F (Z o 2) λq=>Ci 244 #[pk (V a),(U q)] F λh F=>Ls F (nV a 2) λr=>Li F (Z o 0) λd=>(#[(U d),(U g),(U h)]:Γ).size=3/\Nb F (Y (#[(U d),(U g),(U h)]:Γ) 201) λy F=>Ap 31 #[nI r,nI (Sb y 1)] F λs F=>F.cell (Z o 0)=V (U d)/\pv F (nV a 2) (nI s) λF=>Ls F (nV a 1) λt=>Ls F (nV a 2) λu=>Ix t (i64.wrap (b - 2)) λv=>pv F (nV v (nX (i64.wrap (b - 2))*1)) (U (i64.wrap ((u.len:Int)+1))) λF=>Ls F (nV a 2) λw=>R (U (i64.wrap ((w.len:Int)+1))) F))
theorem PM {a:Θ} {b:Int} (h:J3 a b R F):ν 244 #[pk a,(U b)] F R:=Rx.Λ .N h
def Ex (R:VR) (F:PH):Prop:=R (nW nk) F
def Ey (h:Ω) (g:Int) (i j:Nat) (R:VR) (a:Int) (F:PH):Prop:=Bc (a<g) (Ls F (Z i 0) λc=>Ix c a λd=>Lr F 3 (nV d (nX a*3)) λe=>Lr F 3 (Z j 0) λf=>∃b,(∀F,qX prog (Op.equal 201 (nQ e) (nQ f)) F b)/\Bb (b) (R (nW mD) F) (h (i64.wrap (a+1)) F)) (Ex R F)
def PN (v:Γ) (b:Int) (R:VR) (F:PH):Prop:=Nb F (Y v 33) λu F=>Ls F (Z u 0) λw=>Ix w b λe=>Lr F 3 (nV e (nX b*3)) λf=>Nb F (Y (#[U 0,U 0,U 0]) 201) λa F=>aA F (Z a 0) 3 f λF=>Li F (Z a 0) λg=>Bc (g<0) (R (nW mD) F) (Li F (Z a 0) λh=>Bc (63<h) (R (nW mD) F) (Li F (Z a 1) λi=>Bc (i<0) (R (nW mD) F) (Li F (Z a 2) λj=>Bc (j<0) (R (nW mD) F) (Li F (Z a 1) λk=>Bc ((i64.wrap (b+2))<=k) (R (nW mD) F) (Li F (Z a 2) λl=>Bc ((i64.wrap (b+2))<=l) (R (nW mD) F) (Li F (Z a 1) λm=>Li F (Z a 2) λn=>Bc (m=n) (R (nW mD) F) (Lr F 2 (Z u 0) λo=>Li F (Z a 1) λp=>Li F (Z a 0) λc=>Ci 241 #[nQ o,(U p)] F λq F=>F.cell (Z a 0)=V (U c)/\Bc (q<=c) (R (nW mD) F) (Lr F 2 (Z u 0) λr=>Li F (Z a 2) λs=>Li F (Z a 0) λd=>Ci 241 #[nQ r,(U s)] F λt F=>F.cell (Z a 0)=V (U d)/\F.cell (Z a 0)=V (U c)/\Bc (t<=d) (R (nW mD) F) (Lp 0 F λN x F=>Ey N b u a R x F)))))))))
theorem qdy {a:Γ} {b:Int} (h:PN a b R F):ν 245 #[nQ a,(U b)] F R:=Rx.Λ (.qa8 (.qa8 (.qa8 (.qa8 (.J mD [] (.qa8 (.L [(6,.int .i64)] .N)) .N))))) h
theorem B8 {F:PH} {v w:Γ} {d e:wa} (hd:DV F v d) (he:DV F w e) (hl:yq d.1.length):ν 230 #[nQ v,nQ w] F λr Q=>r=nW (decide (d=e))/\F.le Q:=by
 obtain ⟨s,rfl,L⟩:=hd;obtain ⟨t,rfl,M⟩:=he;refine qdS ?_;unfold PG;intro W a3;refine tR ?_;have O:=ae (Y #[s.v,U d.2] 33) a3;intro b3 X;refine tR ?_;have B:=ae (Y #[t.v,U e.2] 33) X;have A:F.le _:=λb o h=>B b o (O b o h);have C:=B _ _ (aq F W (Y #[s.v,U d.2] 33));have D:=aq (F.set W (Y #[s.v,U d.2] 33)) b3 (Y #[t.v,U e.2] 33);generalize (F.set W (Y #[s.v,U d.2] 33)).set b3 (Y #[t.v,U e.2] 33)=G at*;have L:=L.le A;have M:=M.le A;have K:=L.blen;have H:=M.blen;have cs:G.cell ⟨W,0,I⟩=V s.v:=by rw [av C];rfl
 have ct:G.cell ⟨b3,0,I⟩=V t.v:=by rw [av D];rfl
 obtain ⟨x,d2⟩:=d;obtain ⟨y,e2⟩:=e;simp only at hl K H L M C D;refine ⟨d2,by rw [av C];rfl,e2,by rw [av D];rfl,λh=> ?_,λh=> ?_⟩
 ·refine ⟨?_,A⟩;simp [h]
 have h:d2=e2:=by omega
 subst h;refine ⟨s,cs,t,ct,λhn=> ?_,λhn=> ?_⟩
 ·refine ⟨?_,A⟩;have:¬x=y:=λe=>by subst e;omega
  simp [this]
 have P:x.length=y.length:=by omega
 refine ⟨λm i Q=>∃k:Nat,i=k/\k<=x.length/\m=x.length - k/\Q=G/\x.take k=y.take k,x.length,⟨0,rfl,by omega,rfl,rfl,rfl⟩,?_⟩;rintro m i Q ⟨k,rfl,hk,rfl,rfl,g⟩;unfold Et;refine ⟨s,cs,λa4=> ?_,λa6=> ?_⟩
 ·have N:k<x.length:=by omega
  have E:k<y.length:=by omega
  obtain ⟨p,hp,a5,_⟩:=VX L (N5 N);obtain ⟨q,hq,a0,_⟩:=VX M (N5 E);refine ⟨s,cs,p,hp,by omega,a4,aW x[k],rfl,by simpa using a5,t,ct,q,hq,by omega,by omega,aW y[k],rfl,by simpa using a0,decide (x[k]=y[k]),λF=>JP x[k] y[k] F,λa2=> ?_,λJ=> ?_⟩
  ·refine ⟨?_,A⟩;have:¬x=y:=by rintro rfl;simp at a2
   simp [this]
  ·refine ⟨x.length - (k+1),by omega,k+1,fo (by omega),by omega,rfl,rfl,?_⟩;rw [W4 N,W4 E,g];simp at J;rw [J]
 ·refine ⟨?_,A⟩;have a1:k=x.length:=by omega
  rw [a1,wB,P,wB] at g;simp [g]
def gY (t:Tr):Prop:=t.ok/\(aU t).length<=4096
theorem J4 {t:Tr} (h:t.ok) (g:Xp t<=4096):gY t:=⟨h,WA (pf t) g⟩
theorem oq {t:Tr} (h:gY t):chk (pj t)=0:=El h.1 h.2
theorem Gw {t:Tr} (h:gY t):Xf (pj t)=(pj t,0):=by unfold Xf;rw [Υ];have:=h.2;simp only [pj,aO];omega
theorem qie {a b:Tr} (g:gY a) (h:gY b):mP [pj a,pj b]=0:=by simp [mP,oq g,oq h]
theorem SC {o:V2} {a b:Tr} (g:gY a) (h:gY b):Xo o (pj a) (pj b)=Xf (pj (ap (λx y _=>o x y) a b (qa6 mD))):=by unfold Xo;rw [qie g h,Υ (by simp),mQ g.1,mQ h.1]
theorem J5 {o:V2} {a b t:Tr} (h:gY a) (r:gY b) (g:gY t) (w:∀c,t.ev c=o (a.ev c) (b.ev c)):Xo o (pj a) (pj b)=(pj t,0):=by have:ap (λx y _=>o x y) a b (qa6 mD)=t:=xQ g.1 λc=>w c;rw [SC h r,this,Gw g]
theorem Nh {v:Nat} (h:v<64):t5 v=(pj (tv v),0):=by unfold t5;rw [Υ (by omega),N4]
theorem mU {a:Tr} (g:gY a) (c:Int):jm (pj a) c=a.ev (wu c):=by unfold jm;rw [oq g,Υ (by simp),mQ g.1]
theorem Ez {a:Tr} (g:gY a):yq (pj a).1.length:=by have:=g.2;simp only [pj,aO];omega
section
variable {F:PH} {v:Γ} {d:wa} {S:List Tr} {t:Tr}
theorem fk (hd:DV F v d) (D:brs S<+:d.1) (E:inn S t) (N:yq (d.1.length+2)):
  ν 241 #[nQ v,U (num S t)] F λr M=>r=U t.top/\F.le M:=by
 obtain ⟨A,L⟩:=qw D E N;obtain ⟨s,rfl,G⟩:=hd;refine qdv ?_;unfold PJ;intro Q B;refine tR ?_;have g:=ae (Y #[s.v,U d.2] 33) B;refine ⟨λh=> ?_,λh=> ?_⟩
 ·have O:=qM (S:=S) (t:=t) (by omega);cases t with
  |qa6 b=>exact ⟨rfl,g⟩
  |qa7 _ _ _=>cases O
 ·cases t with
  |qa6 b=>have:=cK S b;omega
  |qa7 w l r=>have J:=gq D (eB (cC E rfl) rfl);obtain ⟨a,H,_,K,_⟩:=VX (G.le g) J;have C:=oT A (cY (S:=S) (t:=qa7 w l r) rfl);have P:=cY (S:=S) (t:=qa7 w l r) rfl;refine ⟨s,by simp,a,H,by rw [C];omega,by rw [C,G.blen];omega,_,by rw [C];exact K,rfl,g⟩
theorem oR (hd:DV F v d) (K:brs S<+:d.1) (L:inn S t) (O:yq (d.1.length+2)) {w:Nat} (B:w<64):
  ν 242 #[nQ v,U (num S t),U w] F λr P=>r=po #[U (num S (lo w t)),U (num S (hi w t))]/\F.le P:=by
 obtain ⟨C,a0⟩:=qw K L O;have H:=hd;obtain ⟨s,rfl,J⟩:=hd;refine qdw ?_;unfold PK;intro b3 G;refine tR ?_;have D:=ae (Y #[s.v,U d.2] 33) G;refine ⟨_,rfl,ai (aq _ _ _),?_⟩;refine (fk (H.le D) K L O).mono ?_;rintro _ F2 ⟨rfl,A⟩;have N:F2 b3=V _:=A _ _ (aq _ _ _);have g:F.le F2:=λb o h=>A b o (D b o h);refine ⟨_,rfl,λh=> ?_,λh=> ?_⟩
 ·refine ⟨?_,g⟩;cases t with
  |qa6 b=>rfl
  |qa7 E l r=>have:¬E=w:=λe=>h (by simp [Tr.top,e]);simp [lo,hi,this]
 ·cases t with
  |qa6 b=>simp only [Tr.top] at h;omega
  |qa7 E l r=>
   have e:E=w:=by simp only [Tr.top] at h;omega
   subst e;have Q:=gq K (eB (cC L rfl) rfl);obtain ⟨a,M,_,_,X,W⟩:=VX (J.le g) Q;have B:=oT C (cY (S:=S) (t:=qa7 E l r) rfl);have hg:=cY (S:=S) (t:=qa7 E l r) rfl
   refine ⟨s,by rw [av N];rfl,a,M,by rw [B];omega,by rw [B,J.blen];omega,_,by rw [B];exact X,
    s,by rw [av N];rfl,a,M,by rw [B];omega,by rw [B,J.blen];omega,_,by rw [B];exact W,?_,g⟩
   simp [lo,hi,br]
end
section
variable {F:PH}
theorem d9 (x:Bool):ν 85 #[nW x] F λr A=>∃w,r=nQ w/\DV A w (pj (qa6 x))/\F.le A:=by
 refine aao ?_;unfold WL;intro D B;refine tR ?_;have C:=ae (Y zD 33) B;have q2:=aq F D (Y zD 33);refine ⟨λh=> ?_,λh=> ?_⟩
 ·subst h;have hd:∀G:PH,DV G #[tX I 0 0,U 1] (pj (qa6 nk)):=λG=>⟨pm,rfl,RdS.nil G 3⟩;exact f8 (K:=λg A=>∃w,nQ g=nQ w/\DV A w (pj (qa6 nk))/\F.le A) (hd F) q2 rfl ⟨_,rfl,hd _,aB C B⟩
 ·subst h;have hd:∀G:PH,DV G zD (pj (qa6 mD)):=λG=>⟨pm,rfl,RdS.nil G 3⟩;exact f8 (K:=λg A=>∃w,nQ g=nQ w/\DV A w (pj (qa6 mD))/\F.le A) (hd F) q2 rfl ⟨_,rfl,hd _,aB C B⟩
theorem uF (x:Int):ν 87 #[U x] F λr A=>DRV A r (t5 x)/\F.le A:=by
 refine aap ?_;unfold WM;intro E B;refine tR ?_;have L:=ae (Y zD 33) B;have q2:=aq F E (Y zD 33);generalize F.set E (Y zD 33)=F2 at*;have bad:x<0\/63<x->sU x E nk (λr A=>DRV A r (t5 x)/\F.le A) F2:=λh=>by
  unfold sU;refine ⟨λ_=> ?_,λJ=>by cases J⟩;have e:t5 x=(oP,1):=by unfold t5;rw [Χ h]
  rw [e];exact Sw q2 rfl L B
 refine ⟨λh=>bad (.inl h),λh=> ?_⟩;by_cases H:63<x
 ·rw [ε H];exact bad (.inr H)
 ·rw [η H];unfold sU;refine ⟨λJ=>(by cases J),λ_=>⟨rfl,λg w=> ?_⟩⟩;refine tR ?_;have e:t5 x=(pj (tv x.toNat),0):=by unfold t5;rw [Υ (by omega)]
  have N:((x.toNat:Nat):Int)=x:=by omega
  have M:=ae (Y #[U x,U 0,U 1] 201) w;have C:=aq F2 g (Y #[U x,U 0,U 1] 201);have n:g≠E:=(aH w q2).symm;have q2:=M _ _ q2;have O:=L.trans M;rw [e];have hd:∀G:PH,G g=V (Y #[U x,U 0,U 1] 201)->DV G #[(Sl.mk (V ⟨g,0,I⟩) 1 1).v,U 2] (pj (tv x.toNat)):=λG P=>by rw [SA,N];exact ⟨_,rfl,RdS.new P rfl rfl (ru _)⟩
  exact f8 (K:=λD A=>DRV A (po #[nQ D,U 0]) (pj (tv x.toNat),0)/\F.le A) (hd _ C) q2 rfl ⟨⟨_,rfl,hd _ (by rw [aw _ _ n];exact C)⟩,aB O B⟩
end
def rnS (S:List Tr) (t:Tr):Nat:=if t∈S then num S t else 0
def WV (S0 S:List Tr):Ξ:=S0.map λt=>U (rnS S t:Int)
structure WS (F0 F:PH) (bw g:Nat) (ns:Sl) (S0 S:List Tr):Prop where
 le:F0.le F
 cl:Cl S
 sub:∀x∈S,x∈S0
 nw:F0 bw=I
 ng:F0 g=I
 rd:RdS F0 ns 3 (aV (brs S0))
 ex:∃s:Sl,F bw=V (Y #[ns.v,nI ⟨V ⟨g,0,I⟩,S0.length,S0.length⟩,s.v] 339)/\bO F 201 3 s (aV (brs S))/\∀a,s.qa5=V a->F0 a.block=I
 hg:F g=V (Y (WV S0 S).toArray 3)
theorem J6 {g S:List Tr} (G:Cl g) {t:Tr} (A:Cl (S++[t])) (H:t∈g) (D:t.isL=mD):(WV g S).set (num g t - 2) (U ((S.length+2:Nat):Int))=WV g (S++[t]):=by
 apply WH;intro j;unfold WV;rw [Yk,yw,yw];have J:=cY (S:=g) D;have hgt:=eB H D;by_cases E:num g t - 2=j
 ·subst E;have w:=(N6.1 hgt).1;rw [Χ rfl,ub,Χ w,hgt];simp only [VD,rnS];rw [Χ (by simp),dQ A (k:=S.length) (by simp)]
 ·rw [Υ E];cases hx:g[j]? with
  |none=>rfl
  |some u=>
   simp only [VD,rnS];have B:u≠t:=λe=>by subst e;have:=dQ G hx;omega
   have C:u∈S++[t]↔u∈S:=by simp [B]
   by_cases r:u∈S
   ·rw [Χ r,Χ (C.2 r),bM (.inr r)]
   ·rw [Υ r,Υ (λh=>r (C.1 h))]
theorem qif {H g:Nat} {ns:Sl} {w:List Tr} (h0:Cl w) (hf:yq (w.length+4)):∀(t:Tr),inn w t->∀(F0 F:PH) (S:List Tr),WS F0 F H g ns w S->
  ν 244 #[pk (V ⟨H,0,I⟩),U (num w t)] F λr F'=>r=U (num (tY t S) t)/\WS F0 F' H g ns w (tY t S):=by
 intro t;induction t with
 |qa6 x=>intro ht F0 F S hs;refine PM ?_;unfold J3;have:=cK w x;exact ⟨λ_=>⟨rfl,hs⟩,λh=>by omega⟩
 |qa7 v l h g9 f9=>
  intro ht F0 F S hs;have g1:=hs;obtain ⟨b2,hS,d1,d4,e8,a3,⟨s,hw,ho,h2⟩,hg⟩:=hs;have b7:=cC ht rfl;obtain ⟨f6,g7⟩:=h0.inn_kids ht;have b4:=h0.inn_ok ht;have f4:=cY (S:=w) (t:=qa7 v l h) rfl;have h8:=dP ht;have hgt:=eB b7 rfl;have h5:=(N6.1 hgt).1;have g2:=oT (n:=num w (qa7 v l h)) (by omega) f4;refine PM ?_;unfold J3;refine ⟨λh=>by omega,λ_=> ?_⟩;rw [g2];have b0:F.cell ⟨H,0,I⟩=V ns.v:=by rw [av hw];rfl
  have Q:F.cell (nV ⟨H,0,I⟩ 1)=V (nI ⟨V ⟨g,0,I⟩,w.length,w.length⟩):=by rw [aI,av hw];rfl
  have J:F.cell (nV ⟨g,0,I⟩ (nX ((num w (qa7 v l h) - 2:Nat):Int)*1))=V (U (rnS S (qa7 v l h))):=by
   simp only [aI];rw [av hg];have:(WV w S)[num w (qa7 v l h) - 2]? =V (U (rnS S (qa7 v l h))):=by unfold WV;rw [yw,hgt];rfl
   simpa using this
  refine ⟨_,rfl,_,Q,_,rfl,by omega,by simp only;omega,_,J,λL=> ?_,λL=> ?_⟩
  ·have P:qa7 v l h∈S:=by
    unfold rnS at L;split at L
    ·assumption
    ·omega
   have e:tY (qa7 v l h) S=S:=gz (.inr P);rw [e];have e2:rnS S (qa7 v l h)=num S (qa7 v l h):=by unfold rnS;rw [Χ P]
   rw [e2] at J;exact ⟨_,Q,_,rfl,by omega,by simp only;omega,_,J,rfl,g1⟩
  ·have P:qa7 v l h ∉ S:=λP=>L (by
    have:=cY (S:=S) (t:=qa7 v l h) rfl;unfold rnS;rw [Χ P]
    omega)
   obtain ⟨a,C,d2,_⟩:=VX (a3.le b2) (jX hgt);have f5:=a3.blen;rw [aO] at f5;refine ⟨ns,b0,a,C,by omega,by omega,aW (br w (qa7 v l h)),rfl,by simpa using d2,?_⟩;intro b5 W;refine tR ?_;refine Uc (aq _ _ _) rfl rfl (iE _) ?_;rw [aR];have c8:F0 b5=I:=aT b2 W;have d0:H≠b5:=aH W hw;have e1:g≠b5:=aH W hg;have c7:WS (F0.set b5 (Y (aW (br w (qa7 v l h))) 201)) (F.set b5 (Y (aW (br w (qa7 v l h))) 201)) H g ns w S:=by
    refine ⟨λx ob G=> ?_,hS,d1,by rw [aw _ _ d0];exact d4,by rw [aw _ _ e1];exact e8,a3.le (ae _ c8),⟨s,by rw [aw _ _ d0];exact hw,ho.upto (ae _ W),λa C=> ?_⟩,by rw [aw _ _ e1];exact hg⟩
    ·by_cases e0:x=b5
     ·subst e0;rw [aq] at G ⊢;exact G
     ·rw [aw _ _ e0] at G ⊢;exact b2 _ _ G
    ·obtain ⟨b3,A⟩:=ho.elem C;rw [aw _ _ (aH W A)];exact h2 a C
   have a6:F0.le (F0.set b5 (Y (aW (br w (qa7 v l h))) 201)):=ae _ c8;have a2:(F0.set b5 (Y (aW (br w (qa7 v l h))) 201)) b5=V (Y (aW (br w (qa7 v l h))) 201):=aq _ _ _;generalize F0.set b5 (Y (aW (br w (qa7 v l h))) 201)=G0 at*;generalize F.set b5 (Y (aW (br w (qa7 v l h))) 201)=F1 at*;refine ⟨_,by rw [av (c7.le _ _ a2)];rfl,?_⟩;refine (g9 f6 G0 F1 S c7).mono ?_;rintro _ F2 ⟨rfl,b8⟩;refine ⟨_,rfl,_,by rw [av (b8.le _ _ a2)];rfl,?_⟩;refine (f9 g7 G0 F2 _ b8).mono ?_;rintro _ F3 ⟨rfl,g5⟩;obtain ⟨M,e7,a0,c4,c6,h3,⟨s3,B,O,e4⟩,E⟩:=g5;obtain ⟨g4,d3,X,h4,i0⟩:=bq l S b4.2.2.2.2.1 hS;obtain ⟨h6,g8,z0,b9,h7⟩:=bq h (tY l S) b4.2.2.2.2.2 g4;have e9:num (tY l S) l=num (tY h (tY l S)) l:=by rw [b9,bM d3]
   have e5:tY (qa7 v l h) S=tY h (tY l S)++[qa7 v l h]:=by
    conv=>lhs;unfold tY
    rw [Υ P]
   obtain ⟨a4,_,_⟩:=bq (qa7 v l h) S b4 hS;rw [e5] at a4 ⊢;rw [e9];have f3:inn (tY h (tY l S)) l:=by rw [b9];exact bX d3
   generalize tY h (tY l S)=T at*;refine ⟨_,rfl,s3,by rw [aI,av B];rfl,_,by rw [av (M _ _ a2)];rfl,rfl,λa1 c5=> ?_⟩;refine tR ?_;have h9:T.length<=w.length:=cW T w e7.nodup a0;have N:=O.rd.blen;rw [aO] at N;have D:=ae (Y (aW ⟨(v:Int),(num T l:Int),(num T h:Int)⟩) 201) c5;have g3:=aq F3 a1 (Y (aW ⟨(v:Int),(num T l:Int),(num T h:Int)⟩) 201);show aG prog _ (F3.set a1 (Y (aW ⟨(v:Int),(num T l:Int),(num T h:Int)⟩) 201)) _;replace M:G0.le (F3.set a1 (Y (aW ⟨(v:Int),(num T l:Int),(num T h:Int)⟩) 201)):=λx ob G=>D _ _ (M _ _ G);have O:=O.upto D;have B:=D _ _ B;have E:=D _ _ E;generalize F3.set a1 (Y (aW ⟨(v:Int),(num T l:Int),(num T h:Int)⟩) 201)=F4 at*;refine iO underlying31 Fy Fz rfl (by decide) M O e4 (x:=⟨V ⟨a1,0,I⟩,1,1⟩) (news:=dg ⟨(v:Int),(num T l:Int),(num T h:Int)⟩) (RdS.new g3 rfl rfl (ru _))
    (λx G=>jp [⟨(v:Int),(num T l:Int),(num T h:Int)⟩] x (by simpa [aV] using G)) (by simp only [N];omega) (by simp only [N];omega) ?_
   intro K F5 a7 c9 b1 f1 c2 _;have new:∀a,s3.qa5=V a->a.block≠H:=λa C e=>by obtain ⟨b3,A⟩:=O.elem C;rw [e,B] at A;simp at A
   have neg:∀a,s3.qa5=V a->a.block≠g:=λa C e=>by obtain ⟨b3,A⟩:=O.elem C;rw [e,E] at A;simp at A
   have B:=c2 _ _ B (λ⟨a,C,e⟩=>new a C e);have E:=c2 _ _ E (λ⟨a,C,e⟩=>neg a C e);have b6:H≠g:=λe=>by rw [e,E] at B;simp at B
   have a8:∀a,K.qa5=V a->a.block≠H/\a.block≠g:=λa C=>by
    obtain ⟨b3,A⟩:=c9.elem C;refine ⟨λe=> ?_,λe=> ?_⟩
    ·rw [e,B] at A;simp at A
    ·rw [e,E] at A;simp at A
   refine ⟨K,rfl,by rw [av (a7 _ _ a2)];rfl,?_⟩;refine tF (b:=H) (o:=2) (by simp) B (by simp) ?_;rw [show (#[ns.v,nI ⟨V ⟨g,0,I⟩,w.length,w.length⟩,s3.v].setIfInBounds 2 K.v:Γ)= #[ns.v,nI ⟨V ⟨g,0,I⟩,w.length,w.length⟩,K.v] from rfl];have c3:G0.le (F5.set H (Y #[ns.v,nI ⟨V ⟨g,0,I⟩,w.length,w.length⟩,K.v] 339)):=aB a7 c4;have a5:=aq F5 H (Y #[ns.v,nI ⟨V ⟨g,0,I⟩,w.length,w.length⟩,K.v] 339);have g6:(F5.set H (Y #[ns.v,nI ⟨V ⟨g,0,I⟩,w.length,w.length⟩,K.v] 339)) g=V (Y (WV w T).toArray 3):=by rw [aw _ _ b6.symm];exact E
   have h1:bO (F5.set H (Y #[ns.v,nI ⟨V ⟨g,0,I⟩,w.length,w.length⟩,K.v] 339)) 201 3 K _:=c9.keep λa C=>aw _ _ (a8 a C).1;generalize F5.set H (Y #[ns.v,nI ⟨V ⟨g,0,I⟩,w.length,w.length⟩,K.v] 339)=F6 at*;have a9:K.len=T.length+1:=by rw [b1,N]
   have e6:i64.wrap ((K.len:Int)+1)=((T.length+2:Nat):Int):=by rw [a9,aJ (by omega)];omega
   refine ⟨_,by rw [aI,av a5];rfl,K,by rw [aI,av a5];rfl,_,rfl,by omega,by simp only;omega,?_⟩;rw [e6];refine tF (b:=g) (o:=num w (qa7 v l h) - 2) (by simp) g6 (by simp [WV];omega) ?_;rw [List.setIfInBounds_toArray,J6 h0 a4 b7 rfl];refine ⟨K,by rw [aI,av ((aw _ _ b6).trans a5)];rfl,?_⟩;dsimp only;rw [e6];refine ⟨by rw [dQ a4 (k:=T.length) (by simp)],λx ob G=>aB c3 c6 _ _ (a6 _ _ G),a4,λx G=> ?_,d4,e8,a3,⟨K,(aw _ _ b6).trans a5,?_,λa C=>aT a6 (f1 a C)⟩,aq _ _ _⟩
   ·rcases vj.1 G with G|G
    ·exact a0 x G
    ·rw [vu.1 G];exact b7
   ·have e3:aV (brs (T++[qa7 v l h]))=aV (brs T)++dg ⟨(v:Int),(num T l:Int),(num T h:Int)⟩:=by rw [eC e7 f3 g8,ee];simp [aV]
    rw [e3];exact h1.keep λa C=>aw _ _ (a8 a C).2
section
variable {F:PH} {ns:Sl} {S0:List Tr} {t:Tr}
theorem kF (hr:RdS F ns 3 (aV (brs S0))) (h0:Cl S0) (ht:inn S0 t) (hf:yq (S0.length+4)):
  ν 216 #[ns.v,U (num S0 t)] F λr B=>∃v,r=nQ v/\DV B v (pj t)/\F.le B:=by
 have H:=hr.blen;rw [aO] at H;refine qdQ ?_;unfold PE;intro D E;refine tR ?_;have l4:=ae (Y zD 33) E;have q4:=aq F D (Y zD 33);generalize F.set D (Y zD 33)=M at*;refine bT underlying76 X6 X8 rfl (by omega) (Vd _) (by omega) (by omega) ?_;intro g N;rw [ZR _ rfl,N4,H];refine ⟨_,rfl,?_⟩;have e0:List.replicate S0.length (U 0)=WV S0 []:=by
  apply WH;intro j;unfold WV;rw [List.getElem?_replicate,yw];by_cases Q:j<S0.length
  ·rw [Χ Q,N5 Q];simp [rnS]
  ·rw [Υ Q,VP (by omega)];rfl
 rw [e0];have O:=ae (Y (WV S0 []).toArray 3) N;have qg:=aq M g (Y (WV S0 []).toArray 3);have a1:=O _ _ q4;have a3:D≠g:=aH N q4;generalize hG:M.set g (Y (WV S0 []).toArray 3)=Fg at*;intro w h;refine tR ?_;have a0:g≠w:=aH h qg;have W:M w=I:=aT O h;have lx:=ae (Y #[ns.v,nI ⟨V ⟨g,0,I⟩,S0.length,S0.length⟩,tX I 0 0] 339) h;have hs:WS M (Fg.set w (Y #[ns.v,nI ⟨V ⟨g,0,I⟩,S0.length,S0.length⟩,tX I 0 0] 339)) w g ns S0 []:=
  ⟨O.trans lx,.nil,λx hx=>(by cases hx),W,N,hr.le l4,⟨pm,aq _ _ _,.inl ⟨rfl,rfl⟩,λa J=>by cases J⟩,lx _ _ qg⟩
 refine (qif h0 hf t ht M _ [] hs).mono ?_;rintro _ G ⟨rfl,P⟩;have ev:tY t []=aU t:=rfl;rw [ev] at*;obtain ⟨C,a4,_,_,_,_,⟨s,gw,go,gs⟩,_⟩:=P;refine ⟨_,rfl,s,by rw [av gw];rfl,?_⟩;have h4:=C _ _ q4;have X:∀a,s.qa5=V a->a.block≠D:=λa J e=>by obtain ⟨a2,A⟩:=go.elem J;rw [e,h4] at A;simp at A
 have hd:DV (dE G D) #[s.v,U (num (aU t) t)] (pj t):=⟨s,rfl,(go.keep λa J=>eX (X a J)).rd⟩;exact f8 (K:=λL B=>∃v,nQ L=nQ v/\DV B v (pj t)/\F.le B) hd h4 rfl ⟨_,rfl,hd.le (aB (Ek _ _) (B6 _ _)),aB (l4.trans C) E⟩
end
theorem bO.keepK {F G:PH} {e size:Nat} {s:Sl} {vs:Ξ} {w:Nat->Prop} (h:bO F e size s vs) (C:dk w F G) (A:∀a,s.qa5=V a->¬w a.block):bO G e size s vs:=by
 rcases h with h|⟨b,g,r,B,D⟩
 ·exact .inl h
 ·exact .inr ⟨b,g,r,C _ _ B (A _ r),D⟩
section
variable {F0 F:PH} {l:Sl} {S:List Tr}
theorem qig (h:F0.le F) (D:bO F 201 3 l (aV (brs S))) (hb:∀a,l.qa5=V a->F0 a.block=I) (O:Cl S) {v:Nat} {A B:Tr} (hA:inn S A) (hB:inn S B) (hf:yq (S.length+4)):
  ν 243 #[l.v,nQ (aW ⟨(v:Int),(num S A:Int),(num S B:Int)⟩)] F λr C=>∃l',r=po #[l'.v,U (num (fj S (mk v A B)) (mk v A B))]/\F0.le C/\bO C 201 3 l' (aV (brs (fj S (mk v A B))))/\
   (∀a,l'.qa5=V a->F0 a.block=I)/\dk (λb=>∃a,l.qa5=V a/\a.block=b) F C:=by
 have g:=D.rd.blen;rw [aO] at g;refine qdx ?_;unfold PL;intro b3 N;refine tR ?_;have Q:=ae (Y (aW ⟨(v:Int),(num S A:Int),(num S B:Int)⟩) 201) N;have q3:=aq F b3 (Y (aW ⟨(v:Int),(num S A:Int),(num S B:Int)⟩) 201);have n3:∀a,l.qa5=V a->a.block≠b3:=λa ha=>by obtain ⟨c2,P⟩:=D.elem ha;exact aH N P
 have D:=D.upto Q;have h:=h.trans Q;generalize F.set b3 (Y (aW ⟨(v:Int),(num S A:Int),(num S B:Int)⟩) 201)=F1 at*;refine ⟨_,by rw [av q3];rfl,_,by rw [av q3];rfl,λhe=> ?_,λhe=> ?_⟩
 ·obtain rfl:=cM hA hB (by have:(num S A:Int)=num S B:=he;omega);have e:mk v A A=A:=by simp [mk]
  have X:fj S A=S:=by unfold fj;rw [Χ hA]
  rw [e,X];exact ⟨_,by rw [av q3];rfl,l,rfl,h,D,hb,dk.of_le Q⟩
 have a8:A≠B:=λe=>he (by rw [e]);have b5:mk v A B=qa7 v A B:=by simp [mk,a8]
 rw [b5];have a4:br S (qa7 v A B)=⟨(v:Int),(num S A:Int),(num S B:Int)⟩:=rfl;refine ⟨λm i C=>∃k:Nat,i=k/\k<=S.length/\m=S.length - k/\C=F1/\br S (qa7 v A B) ∉ (brs S).take k,S.length,⟨0,rfl,by omega,rfl,rfl,by simp⟩,?_⟩;rintro m i C ⟨k,rfl,hk,rfl,rfl,G⟩;unfold Ew;refine ⟨λb6=> ?_,λb9=> ?_⟩
 ·have M:k<S.length:=by omega
  have a1:k<(brs S).length:=by rw [aO];exact M
  obtain ⟨p,hp,b8,_⟩:=VX D.rd (N5 a1);refine ⟨p,hp,by omega,b6,aW (brs S)[k],rfl,by simpa using b8,aW (br S (qa7 v A B)),rfl,ai q3,decide ((brs S)[k]=br S (qa7 v A B)),λF=>JP (brs S)[k] (br S (qa7 v A B)) F,λa7=> ?_,λa2=> ?_⟩
  ·have E:(brs S)[k]=br S (qa7 v A B):=ζ a7;have H:qa7 v A B∈S:=(iC O hA hB).1 (by rw [<- E];exact Vc _);have b4:S[k]=qa7 v A B:=LB O (Vc M) H (by rw [<- E];simp [brs]);have X:fj S (qa7 v A B)=S:=by unfold fj;rw [Χ (.inr H)]
   have hn:=dQ O (k:=k) (t:=qa7 v A B) (by rw [N5 M,b4]);have hw:i64.wrap ((k:Int)+2)=((k+2:Nat):Int):=by rw [aJ (by omega)];omega
   rw [X,hn,hw];exact ⟨l,rfl,h,D,hb,dk.of_le Q⟩
  ·refine ⟨S.length - (k+1),by omega,k+1,fo (by omega),by omega,rfl,rfl,?_⟩;rw [W4 a1];intro w;rcases vj.1 w with w|w
   ·exact G w
   ·rw [vu] at w;rw [w] at a2;simp at a2
 ·have a9:k=S.length:=by omega
  have H:qa7 v A B ∉ S:=λH=>G (by
   rw [a9,zh (by rw [aO];omega)]
   exact (iC O hA hB).2 H)
  have X:fj S (qa7 v A B)=S++[qa7 v A B]:=by
   unfold fj;rw [Υ];rintro (w|w)
   ·cases w
   ·exact H w
  rw [X];unfold Eu;refine ⟨aW (br S (qa7 v A B)),rfl,ai q3,rfl,λJ a0=> ?_⟩;refine tR ?_;have L:=ae (Y (aW (br S (qa7 v A B))) 201) a0;have b1:=aq C J (Y (aW (br S (qa7 v A B))) 201);have a6:=D.upto L;have a3:=h.trans L;generalize C.set J (Y (aW (br S (qa7 v A B))) 201)=F2 at*;refine iO underlying31 Fy Fz rfl (by decide) a3 a6 hb (x:=⟨V ⟨J,0,I⟩,1,1⟩) (news:=dg (br S (qa7 v A B))) (RdS.new b1 rfl rfl (ru _)) (λx hx=>jp [br S (qa7 v A B)] x (by simpa [aV] using hx)) (by simp only [g];omega) (by simp only [g];omega) ?_;intro s' F3 W b2 K b7 a5 _;have hw:i64.wrap ((s'.len:Int)+1)=((S.length+2:Nat):Int):=by rw [K,g,aJ (by simp only;omega) (by simp only;omega)];simp only;omega
  have e3:aV (brs (S++[qa7 v A B]))=aV (brs S)++dg (br S (qa7 v A B)):=by rw [eC O hA hB,<- a4,ee];simp [aV]
  refine ⟨s',rfl,s',?_,W,by rw [e3];exact b2,b7,λx ob hx hn=>a5 _ _ (L _ _ (Q _ _ hx)) hn⟩;rw [hw];have b0:num (S++[qa7 v A B]) (qa7 v A B)=S.length+2:=by simp only [num,List.idxOf_append,Υ H];simp
  rw [b0]
end
structure RP where
 bp:Nat
 sa:Sl
 sb:Sl
 opc:Int
 o:V2
 da:wa
 db:wa
 A:List Tr
 B:List Tr
def RP.q (p:RP):AP:=⟨0,0,0,0,0,0,0,0,.nilFunc,λx y _=>p.o x y,mO p.da p.db oP,mO p.A p.B []⟩
def RP.in2 (p:RP) (t:Nat->Tr):Prop:=inn p.A (t 0)/\inn p.B (t 1)/\t 2=qa6 mD
theorem RP.in2_in {p:RP} {t:Nat->Tr} (h:p.in2 t):p.q.inK t:=⟨h.1,h.2.1,by rw [h.2.2];exact fZ _ _⟩
def RP.obj (p:RP) (nodes seen:Sl):Γ:= #[p.sa.v,U p.da.2,p.sb.v,U p.db.2,U p.opc,nodes.v,seen.v]
structure RF (p:RP):Prop where
 cA:Cl p.A
 cB:Cl p.B
 pA:brs p.A<+:p.da.1
 pB:brs p.B<+:p.db.1
 fA:yq (p.da.1.length+2)
 fB:yq (p.db.1.length+2)
 fP:yq ((p.A.length+2)*(p.B.length+2)+2)
 op:(p.opc=0/\p.o=bV)\/(p.opc=1/\p.o=z8)\/(p.opc=2/\p.o=ly)
theorem RF.af {p:RP} (h:RF p):AF p.q:=by
 refine ⟨λi hi=> ?_,λi hi=> ?_,λi hi=> ?_⟩
 ·match i,hi with
  |0,_=>exact h.cA
  |1,_=>exact h.cB
  |2,_=>exact .nil
 ·match i,hi with
  |0,_=>exact h.pA
  |1,_=>exact h.pB
  |2,_=>exact YN _
 ·match i,hi with
  |0,_=>exact h.fA
  |1,_=>exact h.fB
  |2,_=>simp [RP.q,mO]
structure RE (F0:PH) (p:RP):Prop where
 a:RdS F0 p.sa 3 (aV p.da.1)
 b:RdS F0 p.sb 3 (aV p.db.1)
theorem RE.le {F0 G:PH} {p:RP} (h:RE F0 p) (g:F0.le G):RE G p:=⟨h.a.le g,h.b.le g⟩
structure Ent (p:RP) (e:Br) (u:Nat->Tr):Prop where
 i:p.in2 u
 x:e.v=(num p.A (u 0):Int)
 y:e.l=(num p.B (u 1):Int)
structure SD (p:RP) (S:List Tr) (Ls:List Br):Prop where
 all:∀e∈Ls,∃u,Ent p e u/\inn S (p.q.res u)/\e.h=(num S (p.q.res u):Int)
 nd:(Ls.map λe=>(e.v,e.l)).Nodup
def J7 (p:RP) (Ls Ls':List Br) (n:Nat):Prop:=∀e∈Ls',e∈Ls\/∃u,Ent p e u/\Vt u<=n
theorem B9 {p:RP} (_:RF p) {e:Br} {u w:Nat->Tr} (h:Ent p e u) (g:Ent p e w):p.q.res u=p.q.res w/\Vt u=Vt w:=by
 have B:u 0=w 0:=cM h.i.1 g.i.1 (by have:=h.x;have:=g.x;omega);have r:u 1=w 1:=cM h.i.2.1 g.i.2.1 (by have:=h.y;have:=g.y;omega);have A:u 2=w 2:=by rw [h.i.2.2,g.i.2.2]
 unfold AP.res Vt;rw [B,r,A];exact ⟨rfl,rfl⟩
theorem SD.length {p:RP} {S:List Tr} {Ls:List Br} (h:SD p S Ls):Ls.length<=(p.A.length+2)*(p.B.length+2):=by
 have w:((List.range (p.A.length+2)).flatMap λ(i:Nat)=>(List.range (p.B.length+2)).map λ(j:Nat)=>((i:Int),(j:Int))).length=(p.A.length+2)*(p.B.length+2):=by simp only [List.length_flatMap,ub,WI,List.map_const',List.sum_replicate_nat]
 have:=cW (Ls.map λe=>(e.v,e.l)) ((List.range (p.A.length+2)).flatMap λ(i:Nat)=>(List.range (p.B.length+2)).map λ(j:Nat)=>((i:Int),(j:Int))) h.nd λx r=>by obtain ⟨e,C,rfl⟩:=xv.1 r;obtain ⟨u,g,_⟩:=h.all e C;have D:=dP g.i.1;have E:=dP g.i.2.1;exact XW.2 ⟨num p.A (u 0),WU.2 (by omega),xv.2 ⟨num p.B (u 1),WU.2 (by omega),by rw [g.x,g.y]⟩⟩
 rw [w,ub] at this;exact this
structure RS (F0 F:PH) (p:RP) (S:List Tr) (Ls:List Br):Prop where
 le:F0.le F
 nb:F0 p.bp=I
 cl:Cl S
 ok:SD p S Ls
 ex:∃nodes seen:Sl,F p.bp=V (Y (p.obj nodes seen) 320)/\bO F 201 3 nodes (aV (brs S))/\(∀a,nodes.qa5=V a->F0 a.block=I)/\bO F 313 3 seen (aV Ls)/\(∀a,seen.qa5=V a->F0 a.block=I)
theorem qhS {F:PH} {p:RP} {w seen:Sl} (B:RF p) (D:F p.bp=V (Y (p.obj w seen) 320)) (x y:Bool):
  ν 240 #[pk (V ⟨p.bp,0,I⟩),U (if x then 1 else 0:Nat),U (if y then 1 else 0:Nat)] F λr E=>r=U (if p.o x y then 1 else 0:Nat)/\E=F:=by
 refine qdu ?_;unfold PI;refine ⟨_,rfl,p.opc,by rw [aI,av D];rfl,λh=> ?_,λh=>⟨λC=> ?_,λC=> ?_⟩⟩
 ·have A:p.o=bV:=by rcases B.op with g|g|g<;>first|exact g.2|(exfalso;omega)
  rw [A];cases x<;>cases y<;>exact ⟨congrArg (Value.int .i64) (by decide),rfl⟩
 ·have A:p.o=z8:=by rcases B.op with g|g|g<;>first|exact g.2|(exfalso;omega)
  rw [A];cases x<;>cases y<;>exact ⟨congrArg (Value.int .i64) (by decide),rfl⟩
 ·have A:p.o=ly:=by rcases B.op with g|g|g<;>first|exact g.2|(exfalso;omega)
  rw [A];cases x<;>cases y<;>exact ⟨congrArg (Value.int .i64) (by decide),rfl⟩
def ZX (p:RP) (t:Nat->Tr):Prop:=∀(F0 F:PH) (S:List Tr) (Ls:List Br),RE F0 p->RS F0 F p S Ls->yq ((tY (p.q.res t) S).length+4)->
 ν 215 #[pk (V ⟨p.bp,0,I⟩),U (num p.A (t 0)),U (num p.B (t 1))] F λr F'=>r=U (num (tY (p.q.res t) S) (p.q.res t))/\∃Ls',RS F0 F' p (tY (p.q.res t) S) Ls'/\J7 p Ls Ls' (Vt t)
section
variable {p:RP} {t:Nat->Tr} {F0 F:PH} {S:List Tr} {Ls:List Br}
theorem SE (M:RF p) (Q:p.in2 t) (ih:∀u,p.in2 u->Vt u<Vt t->ZX p u) (he:RE F0 p) (hs:RS F0 F p S Ls) (k9:yq ((tY (p.q.res t) S).length+4)) (hn:¬((t 0).isL=nk/\(t 1).isL=nk))
  (i3:∀e∈Ls,¬(e.v=(num p.A (t 0):Int)/\e.l=(num p.B (t 1):Int))) {R:ξ->Ψ}
  (hR:∀F' g7,RS F0 F' p (tY (p.q.res t) S) g7->J7 p Ls g7 (Vt t)->R (U (num (tY (p.q.res t) S) (p.q.res t))) F'):
  xw (V ⟨p.bp,0,I⟩) (num p.A (t 0)) (num p.B (t 1)) R F:=by
 have hv:aX (t 0) (t 1) (t 2)<64:=by
  have k0:=λhl=>tH (M.cA.inn_ok Q.1) hl;have k1:=λhl=>tH (M.cB.inn_ok Q.2.1) hl;unfold aX;cases e0:(t 0).isL with
  |false=>have:=k0 e0;omega
  |true=>
   cases e1:(t 1).isL with
   |false=>have:=k1 e1;omega
   |true=>exact absurd ⟨e0,e1⟩ hn
 have D:=WE M.af (RP.in2_in Q) hv;have f5:min ((t 0).top:Int) ((t 1).top:Int)=((aX (t 0) (t 1) (t 2):Nat):Int):=by
  have h2:(t 2).top=64:=by rw [Q.2.2];rfl
  unfold aX at hv ⊢;rw [h2] at hv ⊢;omega
 have h3:∀v,lo v (t 2)=qa6 mD:=λv=>by rw [Q.2.2];rfl
 have h0:∀v,hi v (t 2)=qa6 mD:=λv=>by rw [Q.2.2];rfl
 obtain ⟨W,a7,a0,h9,b4,seen,hb,e9,h8,h5,e5⟩:=hs;have l6:RS F0 F p S Ls:=⟨W,a7,a0,h9,b4,seen,hb,e9,h8,h5,e5⟩;unfold xw;have dA:∀{G:PH},F0.le G->DV G #[p.sa.v,U p.da.2] p.da:=λhl=>⟨p.sa,rfl,(he.le hl).a⟩;have dB:∀{G:PH},F0.le G->DV G #[p.sb.v,U p.db.2] p.db:=λhl=>⟨p.sb,rfl,(he.le hl).b⟩;have b8:∀{G:PH} {n s:Sl},G p.bp=V (Y (p.obj n s) 320)->G.row ⟨p.bp,0,I⟩ #[p.sa.v,U p.da.2]:=λ{G n s} hG i hi=>by
  simp only [aI];rw [av hG]
  match i,hi with
  |0,_=>rfl
  |1,_=>rfl
 have b0:∀{G:PH} {n s:Sl},G p.bp=V (Y (p.obj n s) 320)->G.row (nV ⟨p.bp,0,I⟩ 2) #[p.sb.v,U p.db.2]:=λ{G n s} hG i hi=>by
  simp only [aI];rw [av hG]
  match i,hi with
  |0,_=>rfl
  |1,_=>rfl
 refine ⟨_,rfl,_,rfl,b8 hb,_,rfl,b0 hb,?_⟩;refine (fk (dA W) M.pA Q.1 M.fA).mono ?_;rintro _ F1 ⟨rfl,l1⟩;have j3:=l1 _ _ hb;refine ⟨_,rfl,b0 j3,?_⟩;refine (fk (dB (W.trans l1)) M.pB Q.2.1 M.fB).mono ?_;rintro _ F2 ⟨rfl,lx⟩;have l2:=l1.trans lx;have k7:=l2 _ _ hb;refine ⟨_,rfl,_,rfl,b8 k7,?_⟩;rw [f5];generalize aX (t 0) (t 1) (t 2)=v at*;refine (oR (dA (W.trans l2)) M.pA Q.1 M.fA D.lt).mono ?_;rintro _ F3 ⟨rfl,k8⟩;have l3:=l2.trans k8;have j7:=l3 _ _ hb;refine ⟨_,_,rfl,_,rfl,b0 j7,?_⟩;refine (oR (dB (W.trans l3)) M.pB Q.2.1 M.fB D.lt).mono ?_;rintro _ F4 ⟨rfl,k4⟩;have l4:=l3.trans k4;refine ⟨_,_,rfl,?_⟩;have j1:RS F0 F4 p S Ls:=⟨W.trans l4,a7,a0,h9,b4,seen,l4 _ _ hb,e9.upto l4,h8,h5.upto l4,e5⟩;have kl:p.in2 (λi=>lo v (t i)):=⟨D.il.1,D.il.2.1,h3 v⟩;have kh:p.in2 (λi=>hi v (t i)):=⟨D.ih.1,D.ih.2.1,h0 v⟩;obtain ⟨a1,a2,X,a3,a4⟩:=bq (p.q.res λi=>lo v (t i)) S D.ol a0;obtain ⟨c1,c2,z1,c3,c4⟩:=bq (p.q.res λi=>hi v (t i)) (tY (p.q.res λi=>lo v (t i)) S) D.oh a1;have K:=sQ a0 (v:=v) (l:=p.q.res λi=>lo v (t i)) (h:=p.q.res λi=>hi v (t i)) ⟨D.lt,D.tl,D.th,D.ol,D.oh⟩;rw [<- D.res] at K;have g1:=zH (p.q.res λi=>hi v (t i)) (tY (p.q.res λi=>lo v (t i)) S);have g2:=Ej (tY (p.q.res λi=>hi v (t i)) (tY (p.q.res λi=>lo v (t i)) S)) (p.q.res t);rw [K] at g2;refine (ih _ kl D.sl F0 F4 S Ls he j1 (by omega)).mono ?_;rintro _ F5 ⟨rfl,L1,j6,g8⟩;refine ⟨_,rfl,?_⟩;refine (ih _ kh D.sh F0 F5 _ L1 he j6 (by omega)).mono ?_;rintro _ F6 ⟨rfl,L2,k3,e7⟩;obtain ⟨f1,_,g6,a5,E,g,d4,b3,i5,b7,g5⟩:=k3;refine ⟨_,rfl,E,by rw [aI,av d4];rfl,?_⟩;have k2:num (tY (p.q.res λi=>lo v (t i)) S) (p.q.res λi=>lo v (t i))=num (tY (p.q.res λi=>hi v (t i)) (tY (p.q.res λi=>lo v (t i)) S)) (p.q.res λi=>lo v (t i)):=by rw [c3,bM a2]
 rw [k2];have j4:inn (tY (p.q.res λi=>hi v (t i)) (tY (p.q.res λi=>lo v (t i)) S)) (p.q.res λi=>lo v (t i)):=by rw [c3];exact bX a2
 refine (qig f1 b3 i5 g6 (v:=v) j4 c2 (by omega)).mono ?_;rintro _ F7 ⟨L,rfl,f6,a9,g4,h6⟩;rw [<- D.res,K] at a9 ⊢;have j2:∀a,E.qa5=V a->a.block≠p.bp:=λa H e=>by obtain ⟨b1,r⟩:=b3.elem H;rw [e,d4] at r;simp at r
 have j8:∀a,g.qa5=V a->¬∃a',E.qa5=V a'/\a'.block=a.block:=λa H ⟨a',e3,e⟩=>by obtain ⟨b1,r⟩:=b3.elem e3;obtain ⟨f9,J⟩:=b7.elem H;rw [e,J] at r;simp at r
 have d1:=h6 _ _ d4 (λ⟨a,H,e⟩=>j2 a H e);have c7:=b7.keepK h6 j8;refine ⟨_,_,rfl,?_⟩;refine tF (b:=p.bp) (o:=5) (by simp) d1 (by simp [RP.obj]) ?_;rw [show ((p.obj E g).setIfInBounds 5 L.v:Γ)=p.obj L g from rfl];have i2:∀a,L.qa5=V a->a.block≠p.bp:=λa H e=>by obtain ⟨b1,r⟩:=a9.elem H;rw [e,d1] at r;simp at r
 have h4:∀a,g.qa5=V a->a.block≠p.bp:=λa H e=>by obtain ⟨b1,r⟩:=c7.elem H;rw [e,d1] at r;simp at r
 have f4:F0.le (F7.set p.bp (Y (p.obj L g) 320)):=aB f6 a7;have i0:=aq F7 p.bp (Y (p.obj L g) 320);have g3:bO (F7.set p.bp (Y (p.obj L g) 320)) 201 3 L (aV (brs (tY (p.q.res t) S))):=a9.keep λa H=>aw _ _ (i2 a H);have h7:bO (F7.set p.bp (Y (p.obj L g) 320)) 313 3 g (aV L2):=c7.keep λa H=>aw _ _ (h4 a H);generalize F7.set p.bp (Y (p.obj L g) 320)=F8 at*;refine ⟨g,by rw [aI,av i0];rfl,rfl,λO d2=> ?_⟩;refine tR ?_;generalize hN:num (tY (p.q.res t) S) (p.q.res t)=N at*;have b5:=ae (Y (aW ⟨(num p.A (t 0):Int),(num p.B (t 1):Int),(N:Int)⟩) 313) d2;have e6:=aq F8 O (Y (aW ⟨(num p.A (t 0):Int),(num p.B (t 1):Int),(N:Int)⟩) 313);show aG prog _ (F8.set O (Y (aW ⟨(num p.A (t 0):Int),(num p.B (t 1):Int),(N:Int)⟩) 313)) _;have g9:=f4.trans b5;have j5:=b5 _ _ i0;have c5:=g3.upto b5;have b2:=h7.upto b5;generalize F8.set O (Y (aW ⟨(num p.A (t 0):Int),(num p.B (t 1):Int),(N:Int)⟩) 313)=F9 at*;have l0:=a5.length;have l5:=M.fP;have a6:=b2.rd.blen;have Q0:vy prog 313=V (3,24):=by kernel_rfl
 have Q2:bv prog 313=V (nQ #[.int .i64 0,.int .i64 0,.int .i64 0]):=by kernel_rfl
 refine iO underlying318 Q0 Q2 rfl (by decide) g9 b2 g5 (x:=⟨V ⟨O,0,I⟩,1,1⟩) (news:=dg ⟨(num p.A (t 0):Int),(num p.B (t 1):Int),(N:Int)⟩) (RdS.new e6 rfl rfl (ru _))
  (λx hx=>jp [⟨(num p.A (t 0):Int),(num p.B (t 1):Int),(N:Int)⟩] x (by simpa [aV] using hx)) (by simp only [a6];omega) (by simp only [a6];omega) ?_
 intro P k6 c8 a8 j0 e2 c6 _;have i1:∀a,g.qa5=V a->a.block≠p.bp:=h4;have b9:=c6 _ _ j5 (λ⟨a,H,e⟩=>i1 a H e);have d0:=c5.keepK c6 λa H ⟨a',e3,e⟩=>by obtain ⟨b1,r⟩:=c5.elem H;obtain ⟨f9,J⟩:=b2.elem e3;rw [e,r] at J;simp at J
 refine ⟨P,rfl,?_⟩;refine tF (b:=p.bp) (o:=6) (by simp) b9 (by simp [RP.obj]) ?_;rw [show ((p.obj L g).setIfInBounds 6 P.v:Γ)=p.obj L P from rfl];have h1:∀a,L.qa5=V a->a.block≠p.bp:=i2;have c9:∀a,P.qa5=V a->a.block≠p.bp:=λa H e=>by obtain ⟨b1,r⟩:=a8.elem H;rw [e,b9] at r;simp at r
 have i4:(p.q.res t).ok:=by rw [D.res];exact Fx D.lt D.tl D.th D.ol D.oh
 obtain ⟨v1,v2,z0,v3,v4⟩:=bq (p.q.res t) S i4 a0;have f3:Ent p ⟨(num p.A (t 0):Int),(num p.B (t 1):Int),(N:Int)⟩ t:=⟨Q,rfl,rfl⟩;have b6:∀e∈L2,(e.v,e.l)≠((num p.A (t 0):Int),(num p.B (t 1):Int)):=by
  intro e C hk;simp only [Ys] at hk;rcases e7 e C with h|⟨u,hu,e4⟩
  ·rcases g8 e h with h|⟨u,hu,e4⟩
   ·exact i3 e h hk
   ·have:=(B9 M hu (w:=t) ⟨Q,hk.1,hk.2⟩).2;have:=D.sl;omega
  ·have:=(B9 M hu (w:=t) ⟨Q,hk.1,hk.2⟩).2;have:=D.sh;omega
 have e8:=hR (k6.set p.bp (Y (p.obj L P) 320)) (L2++[⟨(num p.A (t 0):Int),(num p.B (t 1):Int),(N:Int)⟩])
  ⟨aB c8 a7,a7,v1,⟨λe C=> ?_,?_⟩,L,P,aq _ _ _,d0.keep λa H=>aw _ _ (h1 a H),g4,by rw [ee];simpa [aV] using a8.keep λa H=>aw _ _ (c9 a H),e2⟩ ?_
 ·exact e8
 ·rcases vj.1 C with C|C
  ·obtain ⟨u,hu,d3,k5⟩:=a5.all e C;refine ⟨u,hu,?_,?_⟩
   ·rw [<- K];unfold fj;split
    ·exact d3
    ·exact bX d3
   ·rw [k5,<- K];unfold fj;split
    ·rfl
    ·rw [bM d3]
  ·rw [vu.1 C];exact ⟨t,f3,v2,by rw [hN]⟩
 ·rw [yW,VB];refine ⟨a5.nd,by simp,?_⟩;intro x hx y hy;obtain ⟨e,C,rfl⟩:=xv.1 hx;simp only [xA,List.map_nil,vu] at hy;rw [hy];exact b6 e C
 ·intro e C;rcases vj.1 C with C|C
  ·rcases e7 e C with h|⟨u,hu,e4⟩
   ·rcases g8 e h with h|⟨u,hu,e4⟩
    ·exact .inl h
    ·exact .inr ⟨u,hu,by have:=D.sl;omega⟩
   ·exact .inr ⟨u,hu,by have:=D.sh;omega⟩
  ·rw [vu.1 C];exact .inr ⟨t,f3,ru _⟩
theorem J8 (hf:RF p):∀(n:Nat) (t:Nat->Tr),Vt t<=n->p.in2 t->ZX p t:=by
 intro n;induction n with
 |zero=>intro t hn;have:=lC (t 0);unfold Vt at hn;omega
 |succ n ih=>
  intro t hn ht F0 F S Ls he hs Q;obtain ⟨c3,b4,b6,a2,b0,seen,hb,b7,c2,M,b2⟩:=id hs;refine qdP ?_;unfold PD;have rest:¬((t 0).isL=nk/\(t 1).isL=nk)->mT (V ⟨p.bp,0,I⟩) (num p.A (t 0)) (num p.B (t 1)) mD (λr D=>r=U (num (tY (p.q.res t) S) (p.q.res t))/\∃H,RS F0 D p (tY (p.q.res t) S) H/\J7 p Ls H (Vt t)) F:=by
   intro a5;unfold mT;refine ⟨λh=>(by cases h),λ_=> ?_⟩;have a6:=M.rd.blen;have hL:=a2.length;have b9:=hf.fP;have J:F.cell (nV ⟨p.bp,0,I⟩ 6)=V seen.v:=by rw [aI,av hb];rfl
   refine ⟨λm i D=>∃k:Nat,i=k/\k<=Ls.length/\m=Ls.length - k/\D=F/\∀e∈Ls.take k,¬(e.v=(num p.A (t 0):Int)/\e.l=(num p.B (t 1):Int)),Ls.length,⟨0,rfl,by omega,rfl,rfl,by simp⟩,?_⟩;rintro m i D ⟨k,rfl,hk,rfl,rfl,G⟩;unfold Ep;refine ⟨_,rfl,seen,J,λb1=> ?_,λb3=> ?_⟩
   ·have E:k<Ls.length:=by omega
    obtain ⟨a,ha,_,W,N,hh⟩:=VX M.rd (N5 E);have X:i64.wrap ((k:Int)+1)=((k+1:Nat):Int):=fo (by omega);have next:¬(Ls[k].v=(num p.A (t 0):Int)/\Ls[k].l=(num p.B (t 1):Int))->∃m',m'<Ls.length - k/\∃k':Nat,((k+1:Nat):Int)=k'/\k'<=Ls.length/\m'=Ls.length - k'/\D=D/\∀e∈Ls.take k',¬(e.v=(num p.A (t 0):Int)/\e.l=(num p.B (t 1):Int)):=λa9=>
     ⟨Ls.length - (k+1),by omega,k+1,rfl,by omega,rfl,rfl,λe g=>by
      rw [W4 E] at g;rcases vj.1 g with g|g
      ·exact G e g
      ·rw [vu.1 g];exact a9⟩
    have ax:D.cell (nV (nV a (nX (k:Int)*3)) (nX 0*1))=V (U Ls[k].v):=by obtain ⟨ab,ao,b5⟩:=a;obtain ⟨b',o',a3,_⟩:=M.rd.cells (by omega);rw [ha] at a3;cases a3;simpa using W
    refine ⟨seen,J,a,ha,by omega,by omega,by omega,by omega,_,ax,λL=> ?_,λL=> ?_⟩
    ·have ay:D.cell (nV (nV a (nX (k:Int)*3)) (nX 1*1))=V (U Ls[k].l):=by simpa using N
     refine ⟨seen,J,a,ha,by omega,by omega,by omega,by omega,_,ay,?_⟩;unfold qv;refine ⟨λC=> ?_,λC=> ?_⟩
     ·have C:=ζ C;have ah:D.cell (nV (nV a (nX (k:Int)*3)) (nX 2*1))=V (U Ls[k].h):=by simpa using hh
      obtain ⟨u,hu,a4,a1⟩:=a2.all _ (Vc E);have e:=(B9 hf hu (w:=t) ⟨ht,L,C⟩).1;rw [e] at a4 a1;have a7:=gz a4;refine ⟨seen,J,a,ha,by omega,by omega,by omega,by omega,_,ah,?_⟩;rw [a7,a1];exact ⟨rfl,Ls,hs,λe g=> .inl g⟩
     ·rw [X];exact next λK=>ι C K.2
    ·unfold qv;refine ⟨λh=>(by cases h),λ_=> ?_⟩;rw [X];exact next λK=>L K.1
   ·refine SE hf ht (λu hu b1=>ih u (by omega) hu) he hs Q a5 (λe g=> ?_) λD H h1 h2=>⟨rfl,H,h1,h2⟩;have E:k=Ls.length:=by omega
    rw [E,wB] at G;exact G e g
  refine ⟨λW=> ?_,λW=>rest λK=>W (dD.2 K.1)⟩;by_cases N:(t 1).isL=nk
  ·have e:decide ((num p.B (t 1):Int)<2)=nk:=ε (dD.2 N);rw [e];have a8:=dD.1 W;unfold mT;refine ⟨λ_=> ?_,λh=>by cases h⟩;have a0:∀P O:Bool,t 0=qa6 P->t 1=qa6 O->p.q.res t=qa6 (p.o P O):=λP O e0 e1=>by unfold AP.res;rw [e0,e1,ht.2.2];exact nA _ _ _ _
   generalize b8:t 0=y0 at*;generalize c4:t 1=y1 at*;cases y0 with
   |qa7 _ _ _=>cases a8
   |qa6 P=>
    cases y1 with
    |qa7 _ _ _=>cases N
    |qa6 O=>have hr:=a0 P O rfl rfl;rw [hr];refine (qhS hf hb P O).mono ?_;rintro _ D ⟨rfl,rfl⟩;exact ⟨_,rfl,rfl,Ls,hs,λe g=> .inl g⟩
  ·have e:decide ((num p.B (t 1):Int)<2)=mD:=η (λh=>N (dD.1 h));rw [e];exact rest λK=>N K.2
end
abbrev ap2 (o:V2) (a b:Tr):Tr:=ap (λx y _=>o x y) a b (qa6 mD)
structure F2 (o:V2) (a b:Tr):Prop where
 ka:a.ok
 kb:b.ok
 fA:yq ((aU a).length+2)
 fB:yq ((aU b).length+2)
 fP:yq (((aU a).length+2)*((aU b).length+2)+2)
 fT:yq ((aU (ap2 o a b)).length+4)
theorem cE {o:V2} {a b:Tr} (h:a.ok) (r:b.ok):(ap2 o a b).ok/\∀c,(ap2 o a b).ev c=o (a.ev c) (b.ev c):=by obtain ⟨g,_,w⟩:=fq (o:=λx y _=>o x y) h r (d:=qa6 mD) trivial;exact ⟨g,w⟩
section
variable {F:PH} {v w:Γ} {a b:Tr}
theorem gF {o:V2} {opc:Int} (c2:(opc=0/\o=bV)\/(opc=1/\o=z8)\/(opc=2/\o=ly)) (H:DV F v (pj a)) (hb:DV F w (pj b)) (h:F2 o a b):
  ν 191 #[nQ v,nQ w,U opc] F λr Q=>∃u,r=nQ u/\DV Q u (pj (ap2 o a b))/\F.le Q:=by
 obtain ⟨ka,kb,fA,fB,fP,fT⟩:=h;obtain ⟨N,rfl,b5⟩:=H;obtain ⟨L,rfl,a5⟩:=hb;refine qdN ?_;unfold PB;intro b3 a3;refine tR ?_;have l3:=ae (Y #[N.v,U (pj a).2] 33) a3;have q3:=aq F b3 (Y #[N.v,U (pj a).2] 33);generalize F.set b3 (Y #[N.v,U (pj a).2] 33)=F3 at*;intro b4 b1;refine tR ?_;have A:=ae (Y #[L.v,U (pj b).2] 33) b1;have q4:=aq F3 b4 (Y #[L.v,U (pj b).2] 33);have q3:=A _ _ q3;have l4:=l3.trans A;clear A;generalize F3.set b4 (Y #[L.v,U (pj b).2] 33)=F4 at*;intro b6 O;refine tR ?_;have f6:F b6=I:=aT l4 O;have A:=ae (Y zD 33) O;have q6:=aq F4 b6 (Y zD 33);have q3:=A _ _ q3;have q4:=A _ _ q4;have l6:=l4.trans A;clear A;generalize F4.set b6 (Y zD 33)=M at*;refine ⟨#[N.v,U (pj a).2],rfl,ai q3,#[L.v,U (pj b).2],rfl,ai q4,rfl,rfl,λB E=> ?_⟩;refine tR ?_
 let p:RP:=⟨B,N,L,opc,o,pj a,pj b,aU a,aU b⟩
 have a7:(Array.setIfInBounds (wr (wr (#[tX I 0 0,U 0,tX I 0 0,U 0,U 0,tX I 0 0,tX I 0 0]:Γ) 0 (#[N.v,U (pj a).2]:Γ).toList) 2 (#[L.v,U (pj b).2]:Γ).toList) 4 (U opc))=p.obj pm pm:=rfl;rw [a7];have A:=ae (Y (p.obj pm pm) 320) E;have a8:=aq M B (Y (p.obj pm pm) 320);have a9:=A _ _ q3;have b7:=A _ _ q4;have b0:RF p:=⟨bz ka,bz kb,YN _,YN _,by show yq ((brs (aU a)).length+2);rw [aO];exact fA,by show yq ((brs (aU b)).length+2);rw [aO];exact fB,fP,c2⟩;have b9:RE M p:=⟨b5.le l6,a5.le l6⟩;have a6:RS M (M.set B (Y (p.obj pm pm) 320)) p [] []:=⟨A,E,.nil,⟨λe he=>(by cases he),by simp⟩,pm,pm,a8,.inl ⟨rfl,rfl⟩,λa H=>(by cases H),.inl ⟨rfl,rfl⟩,λa H=>by cases H⟩;generalize M.set B (Y (p.obj pm pm) 320)=F7 at*;refine ⟨(pj a).2,by rw [av a9];rfl,(pj b).2,by rw [av b7];rfl,?_⟩;have C:p.q.res (mO a b (qa6 mD))=ap2 o a b:=rfl;have P:=J8 b0 _ (mO a b (qa6 mD)) (ru _) ⟨bH ka,bH kb,rfl⟩ M F7 [] [] b9 a6 (by rw [C];exact fT);rw [C] at P;refine P.mono ?_;rintro _ F8 ⟨rfl,c4,b8,_⟩;obtain ⟨D,c3,X,_,g,seen,J,a2,W,_,_⟩:=b8;replace J:F8 B=V (Y (p.obj g seen) 320):=J;refine ⟨_,rfl,g,by rw [av J];rfl,?_⟩;have ev:tY (ap2 o a b) []=aU (ap2 o a b):=rfl;rw [ev] at*;have a4:=D _ _ q6
 have a1:bO (dE F8 b6) 201 3 g (aV (brs (aU (ap2 o a b)))):=a2.keep λa H=>eX (λe=>by
  have:=W a H;rw [e,q6] at this
  cases this)
 have b2:=(cE (o:=o) ka kb).1;refine (iV (kF a1.rd X (bH b2) fT) a4).mono ?_;rintro _ F9 ⟨u,rfl,⟨G,hu,lG,gG⟩,l9,q9⟩;refine ⟨_,rfl,?_⟩;exact f8 (K:=λa0 Q=>∃u,nQ a0=nQ u/\DV Q u (pj (ap2 o a b))/\F.le Q) hu q9 rfl ⟨_,rfl,hu.le (aB lG gG),aB (l6.trans (D.trans l9)) f6⟩
theorem sV (Q:DV F v (pj a)) (X:DV F w (pj b)) (h:F2 bV a b):ν 159 #[nQ v,nQ w] F λr A=>∃u,r=nQ u/\DV A u (pj (ap2 bV a b))/\F.le A:=by refine qdL ?_;unfold Pz;intro P H;refine tR ?_;have l2:=ae (Y v 33) H;have q2:=aq F P (Y v 33);generalize F.set P (Y v 33)=F2 at*;intro W D;refine tR ?_;have g:=ae (Y w 33) D;have q3:=aq F2 W (Y w 33);have q2:=g _ _ q2;have L:=l2.trans g;clear g;generalize F2.set W (Y w 33)=M at*;intro E B;refine tR ?_;have N:F E=I:=aT L B;have g:=ae (Y zD 33) B;have q4:=aq M E (Y zD 33);have q2:=g _ _ q2;have q3:=g _ _ q3;have J:=L.trans g;clear g;generalize M.set E (Y zD 33)=F4 at*;refine ⟨v,Q.size,ai q2,w,X.size,ai q3,?_⟩;have ld:=d8 J N;refine (iV (gF (opc:=0) (.inl ⟨rfl,rfl⟩) (Q.le ld) (X.le ld) h) q4).mono ?_;rintro _ F5 ⟨z,rfl,⟨G,O,lG,gG⟩,l5,q5⟩;refine ⟨_,rfl,?_⟩;exact f8 (K:=λC A=>∃u,nQ C=nQ u/\DV A u (pj (ap2 bV a b))/\F.le A) O q5 rfl ⟨_,rfl,O.le (aB lG gG),aB (J.trans l5) N⟩
theorem Cb (Q:DV F v (pj a)) (X:DV F w (pj b)) (h:F2 z8 a b):ν 158 #[nQ v,nQ w] F λr A=>∃u,r=nQ u/\DV A u (pj (ap2 z8 a b))/\F.le A:=by refine qdK ?_;unfold Py;intro P H;refine tR ?_;have l2:=ae (Y v 33) H;have q2:=aq F P (Y v 33);generalize F.set P (Y v 33)=F2 at*;intro W D;refine tR ?_;have g:=ae (Y w 33) D;have q3:=aq F2 W (Y w 33);have q2:=g _ _ q2;have L:=l2.trans g;clear g;generalize F2.set W (Y w 33)=M at*;intro E B;refine tR ?_;have N:F E=I:=aT L B;have g:=ae (Y zD 33) B;have q4:=aq M E (Y zD 33);have q2:=g _ _ q2;have q3:=g _ _ q3;have J:=L.trans g;clear g;generalize M.set E (Y zD 33)=F4 at*;refine ⟨v,Q.size,ai q2,w,X.size,ai q3,?_⟩;have ld:=d8 J N;refine (iV (gF (opc:=1) (.inr (.inl ⟨rfl,rfl⟩)) (Q.le ld) (X.le ld) h) q4).mono ?_;rintro _ F5 ⟨z,rfl,⟨G,O,lG,gG⟩,l5,q5⟩;refine ⟨_,rfl,?_⟩;exact f8 (K:=λC A=>∃u,nQ C=nQ u/\DV A u (pj (ap2 z8 a b))/\F.le A) O q5 rfl ⟨_,rfl,O.le (aB lG gG),aB (J.trans l5) N⟩
theorem sW (X:DV F v (pj a)) (h:F2 ly a (qa6 nk)):ν 157 #[nQ v] F λr g=>∃u,r=nQ u/\DV g u (pj (ap2 ly a (qa6 nk)))/\F.le g:=by refine qdJ ?_;unfold Px;intro W J;refine tR ?_;have Q:=ae (Y v 33) J;have q2:=aq F W (Y v 33);generalize F.set W (Y v 33)=N at*;intro C A;refine tR ?_;have O:F C=I:=aT Q A;have H:=ae (Y zD 33) A;have q4:=aq N C (Y zD 33);have q2:=H _ _ q2;have M:=Q.trans H;clear H;generalize N.set C (Y zD 33)=F4 at*;refine ⟨v,X.size,ai q2,?_⟩;refine (iV (d9 (F:=dE F4 C) nk) q4).mono ?_;rintro _ F5 ⟨y,rfl,⟨G0,hy,L,D⟩,E,q5⟩;refine ⟨_,rfl,ai (E _ _ q2),?_⟩;have ld:=d8 (M.trans E) O;refine (iV (gF (opc:=2) (.inr (.inr ⟨rfl,rfl⟩)) (X.le ld) (hy.beside L D) h) q5).mono ?_;rintro _ F6 ⟨z,rfl,⟨G,P,lG,gG⟩,l6,q6⟩;refine ⟨_,rfl,?_⟩;exact f8 (K:=λB g=>∃u,nQ B=nQ u/\DV g u (pj (ap2 ly a (qa6 nk)))/\F.le g) P q6 rfl ⟨_,rfl,P.le (aB lG gG),aB (M.trans (E.trans l6)) O⟩
theorem Cc (X:DV F v (pj a)) (hb:DV F w (pj b)) (h1:F2 ly b (qa6 nk)) (h2:F2 bV a (ap2 ly b (qa6 nk))):
  ν 160 #[nQ v,nQ w] F λr h=>∃u,r=nQ u/\DV h u (pj (ap2 bV a (ap2 ly b (qa6 nk))))/\F.le h:=by
 refine qdM ?_;unfold PA;intro W M;refine tR ?_;have l2:=ae (Y v 33) M;have q2:=aq F W (Y v 33);generalize F.set W (Y v 33)=F2 at*;intro b3 C;refine tR ?_;have g:=ae (Y w 33) C;have q3:=aq F2 b3 (Y w 33);have q2:=g _ _ q2;have O:=l2.trans g;clear g;generalize F2.set b3 (Y w 33)=P at*;intro H A;refine tR ?_;have J:F H=I:=aT O A;have g:=ae (Y zD 33) A;have q4:=aq P H (Y zD 33);have q2:=g _ _ q2;have q3:=g _ _ q3;have D:=O.trans g;clear g;generalize P.set H (Y zD 33)=F4 at*;refine ⟨v,X.size,ai q2,w,hb.size,ai q3,?_⟩;refine (iV (sW (hb.le (d8 D J)) h1) q4).mono ?_;rintro _ F5 ⟨y,rfl,⟨G0,hy,N,E⟩,L,q5⟩;refine ⟨_,rfl,ai (L _ _ q2),?_⟩;refine (iV (sV (X.le (d8 (D.trans L) J)) (hy.beside N E) h2) q5).mono ?_;rintro _ F6 ⟨z,rfl,⟨G,Q,lG,gG⟩,l6,q6⟩;refine ⟨_,rfl,?_⟩;exact f8 (K:=λB h=>∃u,nQ B=nQ u/\DV h u (pj (ap2 bV a (ap2 ly b (qa6 nk))))/\F.le h) Q q6 rfl ⟨_,rfl,Q.le (aB lG gG),aB (D.trans (L.trans l6)) J⟩
end
theorem sX {n v:Nat} {t:Tr} (h:dS n t):dS n (lo v t):=by
 cases t with
 |qa6 b=>trivial
 |qa7 w l r=>
  simp only [lo];split
  ·exact h.2.1
  ·exact h
theorem sY {n v:Nat} {t:Tr} (h:dS n t):dS n (hi v t):=by
 cases t with
 |qa6 b=>trivial
 |qa7 w l r=>
  simp only [hi];split
  ·exact h.2.2
  ·exact h
theorem J9 {n v:Nat} {l h:Tr} (r:v<n) (g:dS n l) (w:dS n h):dS n (mk v l h):=by
 unfold mk;split
 ·exact g
 ·exact ⟨r,g,w⟩
theorem ou {n:Nat} {t:Tr} (h:dS n t) (g:t.isL=mD):t.top<n:=by
 cases t with
 |qa6 b=>cases g
 |qa7 v l r=>exact h.1
theorem Ka (o:Wr) {n:Nat}:∀(k:Nat) (a b d:Tr),a.sz+b.sz+d.sz<=k->a.ok->b.ok->d.ok->dS n a->dS n b->dS n d->dS n (ap o a b d):=by
 intro k;induction k with
 |zero=>intro a b d hk;have:=lC a;omega
 |succ k ih=>
  intro a b d hk w A hd B nb nd;by_cases hv:aX a b d<64
  ·have H:=xR (o:=o) w A hd hv;have v1:aX a b d<=a.top:=by unfold aX;omega
   have v2:aX a b d<=b.top:=by unfold aX;omega
   have v3:aX a b d<=d.top:=by unfold aX;omega
   have g:aX a b d=a.top\/aX a b d=b.top\/aX a b d=d.top:=by unfold aX;omega
   generalize aX a b d=v at*;have h:∀{t:Tr},v=t.top->t.isL=mD:=λ{t} e=>by
    cases t with
    |qa6 b=>simp only [top] at e;omega
    |qa7 _ _ _=>rfl
   obtain ⟨M,a4,a9,N,b2⟩:=cx w v1;obtain ⟨O,b5,a8,Q,b4⟩:=cx A v2;obtain ⟨X,a2,b0,J,b1⟩:=cx hd v3;obtain ⟨W,a7,a3,a0,a5⟩:=cy w v1;obtain ⟨D,b6,a6,E,a1⟩:=cy A v2;obtain ⟨L,b7,b3,G,b8⟩:=cy hd v3;have C:v<n:=by
    rcases g with e|e|e
    ·have:=ou B (h e);omega
    ·have:=ou nb (h e);omega
    ·have:=ou nd (h e);omega
   have P:(lo v a).sz+(lo v b).sz+(lo v d).sz<=k:=by
    rcases g with e|e|e
    ·have:=N e.symm (h e);omega
    ·have:=Q e.symm (h e);omega
    ·have:=J e.symm (h e);omega
   have K:(hi v a).sz+(hi v b).sz+(hi v d).sz<=k:=by
    rcases g with e|e|e
    ·have:=a0 e.symm (h e);omega
    ·have:=E e.symm (h e);omega
    ·have:=G e.symm (h e);omega
   rw [H];exact J9 C (ih _ _ _ P M O X (sX B) (sX nb) (sX nd)) (ih _ _ _ K W D L (sY B) (sY nb) (sY nd))
  ·unfold aX at hv;obtain ⟨p,rfl⟩:=gy w (by omega);obtain ⟨q,rfl⟩:=gy A (by omega);obtain ⟨r,rfl⟩:=gy hd (by omega);rw [nA];trivial
theorem Cd {n:Nat} (g:n<=64):∀(t:Tr),t.ok->dS n t->Xp t+1<=2 ^ (n - min n t.top)
 |qa6 b,_,_=>by
  have:n - min n (qa6 b).top=0:=by simp only [top];omega
  rw [this];simp [Xp]
 |qa7 v l h,⟨h0,h1,h2,h3,h4,h5⟩,⟨b0,b1,b2⟩=>by
  have il:=Cd g l h4 b1;have ih:=Cd g h h5 b2;have w:2 ^ (n - min n l.top)<=2 ^ (n - (v+1)):=Ww (by decide) (by omega);have r:2 ^ (n - min n h.top)<=2 ^ (n - (v+1)):=Ww (by decide) (by omega);have e:n - min n (qa7 v l h).top=n - (v+1)+1:=by simp only [top];omega
  rw [e,Nat.pow_succ];simp only [Xp];omega
def Sx (n:Nat) (t:Tr):Prop:=t.ok/\dS n t
theorem Sx.cnt63 {n:Nat} {t:Tr} (h:Sx n t) (r:n<=6):Xp t<=63:=by have g:=Cd (by omega:n<=64) t h.1 h.2;have w:2 ^ (n - min n t.top)<=2 ^ 6:=Ww (by decide) (by omega);omega
theorem Sx.small {n:Nat} {t:Tr} (h:Sx n t) (g:n<=6):gY t:=J4 h.1 (by have:=h.cnt63 g;omega)
theorem Sx.len {n:Nat} {t:Tr} (h:Sx n t) (g:n<=6):(aU t).length<=63:=WA (pf t) (h.cnt63 g)
theorem Sx.ap {n:Nat} {o:Wr} {a b d:Tr} (g:Sx n a) (h:Sx n b) (hd:Sx n d):Sx n (Tr.ap o a b d):=⟨LA g.1 h.1 hd.1,Ka o _ a b d (ru _) g.1 h.1 hd.1 g.2 h.2 hd.2⟩
theorem Sx.qa6 (n:Nat) (b:Bool):Sx n (Tr.qa6 b):=⟨trivial,trivial⟩
theorem Sx.ap2 {n:Nat} {o:V2} {a b:Tr} (g:Sx n a) (h:Sx n b):Sx n (ap2 o a b):=Sx.ap g h (Sx.qa6 n _)
theorem Sx.tv {n v:Nat} (g:v<n) (h:n<=6):Sx n (tv v):=⟨qdH (by omega),g,trivial,trivial⟩
theorem Sx.f2 {n:Nat} {o:V2} {a b:Tr} (h:Sx n a) (r:Sx n b) (g:n<=6):F2 o a b:=by have B:=h.len g;have w:=r.len g;have lt:=(h.ap2 (o:=o) r).len g;have A:((aU a).length+2)*((aU b).length+2)<=65*65:=Yq (by omega) (by omega);exact ⟨h.1,r.1,by omega,by omega,by omega,by omega⟩
theorem PO {v:Nat} (h:v<64):u64.wrap (v:Int)=(v:Int):=iD (by omega) (by omega)
theorem Kb {S:Tr->Prop} {f:FuncId} {args:Γ} {F:PH} {x:Nat} {o:Obj} (h:aj prog f args (dE F x) λr A=>∃w t,r=nQ w/\S t/\DV A w (pj t)/\(dE F x).le A) (B:F x=V o):
  aj prog f args F λr A=>∃w t,r=nQ w/\S t/\(∃G,DV G w (pj t)/\G.le A/\G x=I)/\F.le A/\A x=V o:=
 (aj.avoid h B).mono λ_ _ ⟨G,⟨w,t,J,H,D,E⟩,C,q,g⟩=>⟨w,t,J,H,⟨G,D,C,g⟩,gX E C q B,q⟩
def SF (l:Φ) (k:Nat):Bool:=
 if h:k / 8<l.length then decide (u8.wrap ((BitVec.ofInt (u8).bits (Int.fdiv l[k / 8] (2 ^ (min (nX (((k % 8:Nat):Int))) (u8).bits))) &&& BitVec.ofInt (u8).bits (1:Int)).toNat)=(1:Int)) else mD
def iY (l:Φ):Nat->Nat->Nat->Tr
 |0,_,k=>Tr.qa6 (SF l k)
 |m+1,v,k=>ap2 z8 (ap2 bV (tv v) (iY l m (v+1) (k+2 ^ v))) (ap2 bV (iY l m (v+1) k) (ap2 ly (tv v) (Tr.qa6 nk)))
theorem Ce {n:Nat} (E:n<=6):∀(m v k:Nat),v+m=n->k<2 ^ v->∀(F:PH) (sl:Sl) (l:Φ),RdS F sl 1 (l.map (Value.int .u8))->
  ν 127 #[sl.v,U n,U v,U k] F λr C=>∃u t,r=nQ u/\(Sx n t/\t=iY l m v k)/\DV C u (pj t)/\F.le C:=by
 intro m;induction m with
 |zero=>
  intro v k c2 hk F sl l hr;obtain rfl:v=n:=by omega
  have a2:k<64:=Nat.lt_of_lt_of_le hk (Ww (by decide) E);refine Pv ?_;unfold J2;intro B w;refine tR ?_;have l8:=ae (Y zD 33) w;have q8:=aq F B (Y zD 33);have W:=hr.le l8;generalize F.set B (Y zD 33)=F8 at*;have hd:i64.wrap (Int.tdiv (k:Int) 8)=((k / 8:Nat):Int):=by rw [Zc (by omega),aJ (by omega)];rfl
  have hm:u64.wrap (sj (k:Int) 8)=((k % 8:Nat):Int):=by rw [Xv (by omega),iD (by omega) (by omega)];rfl
  have a3:=W.len;simp at a3;refine ⟨λ_=>⟨λa0=> ?_,λ_=> ?_⟩,λh=>absurd rfl h⟩
  ·rw [hd] at a0 ⊢;have a5:k / 8<l.length:=by omega
   obtain ⟨b,o,hb,hc⟩:=W.cells (by omega);have N:=hc (k / 8) (by simpa using a5);refine ⟨_,hb,by omega,a0,l[k / 8],by rw [aI,N4,xF];simpa using N,by rw [hm];omega,?_⟩;refine (iV (d9 (F:=dE F8 B) _) q8).mono ?_;rintro _ F9 ⟨u,rfl,⟨G,hu,lG,gG⟩,l9,P⟩;refine ⟨_,rfl,?_⟩;exact f8 (K:=λg C=>∃u t,nQ g=nQ u/\(Sx v t/\t=iY l 0 v k)/\DV C u (pj t)/\F.le C) hu P rfl ⟨_,_,rfl,⟨Sx.qa6 v _,by rw [iY,SF,dif_pos a5,hm]⟩,hu.le (aB lG gG),aB (l8.trans l9) w⟩
  ·rename_i a6;rw [hd] at a6;refine (iV (d9 (F:=dE F8 B) mD) q8).mono ?_;rintro _ F9 ⟨u,rfl,⟨G,hu,lG,gG⟩,l9,P⟩;refine ⟨_,rfl,?_⟩;exact f8 (K:=λg C=>∃u t,nQ g=nQ u/\(Sx v t/\t=iY l 0 v k)/\DV C u (pj t)/\F.le C) hu P rfl ⟨_,_,rfl,⟨Sx.qa6 v _,by rw [iY,SF,dif_neg (by omega)]⟩,hu.le (aB lG gG),aB (l8.trans l9) w⟩
 |succ m ih=>
  intro v k c2 hk F sl l hr;have J:v<n:=by omega
  have a2:k<64:=Nat.lt_of_lt_of_le hk (WA (Ww (by decide:2>0) (by omega:v<=6)) (by decide));have d1:2 ^ v<=32:=WA (Ww (by decide:2>0) (by omega:v<=5)) (by decide);refine Pv ?_;unfold J2;intro B w;refine tR ?_;have l8:=ae (Y zD 33) w;have q8:=aq F B (Y zD 33);generalize F.set B (Y zD 33)=F8 at*;refine ⟨λh=>by omega,λ_=> ?_⟩;have L:=uF (F:=dE F8 B) (v:Int);rw [Nh (by omega)] at L;refine (B7 L q8).mono ?_;rintro _ F9 ⟨x,rfl,⟨G,X,lG,gG⟩,l9,P⟩;refine ⟨_,_,rfl,?_⟩;intro b9 a1;refine tR ?_;refine Uc (aq _ _ _) X.size rfl X.st ?_;rw [aR];have e4:B≠b9:=aH a1 P;have lx:=ae (Y x 33) a1;have Q:=aq F9 b9 (Y x 33);have b2:=lx _ _ P;have M:=X.beside (lG.trans lx) gG;have O:=l8.trans (l9.trans lx);generalize F9.set b9 (Y x 33)=c3 at*;have wv:i64.wrap ((v:Int)+1)=((v+1:Nat):Int):=fo (by omega);have w2:i64.wrap ((1:Int)*2 ^ (min (nX (u64.wrap (v:Int))) (i64).bits))=((2 ^ v:Nat):Int):=by
   rw [PO (by omega)];have hm:min (nX (v:Int)) (i64).bits=v:=by simp only [IntKind.bits,N4];omega
   have e1:(1:Int)*2 ^ v=((2 ^ v:Nat):Int):=by simp
   rw [hm,e1,aJ (by omega)]
  have wk:i64.wrap ((k:Int)+((2 ^ v:Nat):Int))=((k+2 ^ v:Nat):Int):=by rw [aJ (by omega)];omega
  rw [w2,wk,wv];refine ⟨x,X.size,ai Q,by rw [PO (by omega)];omega,x,X.size,ai Q,?_⟩;have d2:2 ^ (v+1)=2 ^ v+2 ^ v:=by rw [Nat.pow_succ];omega
  refine (Kb (ih (v+1) (k+2 ^ v) (by omega) (by omega) (dE c3 B) sl l (hr.le (d8 O w))) b2).mono ?_;rintro _ d3 ⟨u1,t1,rfl,⟨k1,e1⟩,⟨G1,h1,b4,c8⟩,A,b6⟩;refine ⟨_,rfl,ai (A _ _ Q),ai (A _ _ Q),?_⟩;refine (iV (sV (M.le (oo A)) (h1.beside b4 c8) ((Sx.tv J E).f2 k1 E)) b6).mono ?_;rintro _ a7 ⟨u2,rfl,⟨G2,h2,b5,b7⟩,D,a9⟩;have k2:=(Sx.tv J E).ap2 (o:=bV) k1;refine ⟨_,rfl,ai (D _ _ (A _ _ Q)),?_⟩;refine (Kb (ih (v+1) k (by omega) (by omega) (dE a7 B) sl l (hr.le (d8 (O.trans (A.trans D)) w))) a9).mono ?_;rintro _ e0 ⟨u3,t3,rfl,⟨k3,e3⟩,⟨G3,h3,a8,b3⟩,H,b1⟩;refine ⟨_,rfl,ai (H _ _ (D _ _ (A _ _ Q))),?_⟩;have kx:=(Sx.tv J E).ap2 (o:=ly) (Sx.qa6 n nk);refine (iV (Cc (h3.beside a8 b3) (M.le (oo (A.trans (D.trans H)))) ((Sx.tv J E).f2 (Sx.qa6 n nk) E) (k3.f2 kx E)) b1).mono ?_;rintro _ d4 ⟨u4,rfl,⟨G4,h4,c9,b0⟩,a4,c7⟩;have k4:=k3.ap2 (o:=bV) kx;refine ⟨_,rfl,?_⟩;refine (iV (Cb ((h2.beside b5 b7).le (oo (H.trans a4))) (h4.beside c9 b0) (k2.f2 k4 E)) c7).mono ?_;rintro _ e2 ⟨u5,rfl,⟨G5,h5,d0,c4⟩,c5,c6⟩;refine ⟨_,rfl,?_⟩;exact f8 (K:=λg C=>∃u t,nQ g=nQ u/\(Sx n t/\t=iY l (m+1) v k)/\DV C u (pj t)/\F.le C) h5 c6 rfl ⟨_,_,rfl,⟨k2.ap2 k4,by rw [iY,<- e1,<- e3]⟩,h5.le (aB d0 c4),aB (O.trans (A.trans (D.trans (H.trans (a4.trans c5))))) w⟩
theorem oS {n:Nat} (D:n<=6) {F:PH} {sl:Sl} {l:Φ} (L:RdS F sl 1 (l.map (Value.int .u8))):ν 93 #[sl.v,U n] F λr h=>∃u t,r=nQ u/\(Sx n t/\t=iY l n 0 0)/\DV h u (pj t)/\F.le h:=by
 refine aaq ?_;unfold WN;intro A g;refine tR ?_;have B:=ae (Y zD 33) g;have q4:=aq F A (Y zD 33);generalize F.set A (Y zD 33)=N at*;have e:max (0:Int) (min (n:Int) 6)=(n:Int):=by omega
 rw [e];refine (Kb (Ce D n 0 0 (by omega) (by simp) (dE N A) sl l (L.le (d8 B g))) q4).mono ?_;rintro _ O ⟨u,t,rfl,M,⟨G,C,E,H⟩,J,q5⟩;refine ⟨_,rfl,?_⟩;exact f8 (K:=λw h=>∃u t,nQ w=nQ u/\(Sx n t/\t=iY l n 0 0)/\DV h u (pj t)/\F.le h) C q5 rfl ⟨_,_,rfl,M,C.le (aB E H),aB (B.trans J) g⟩
section
variable {F:PH} {v:Γ} {d:wa}
open Classical in
theorem Cg (hd:DV F v d) (hf:yq (d.1.length+4)) {S:List Tr} (w:Cl S) {k:Nat} (hk:S.length=k) (a0:k<d.1.length) (hb:brs S=d.1.take k):
  ν 245 #[nQ v,U k] F λr F'=>r=nW (decide (zC S d.1[k]))/\F.le F':=by
 have M:=hd;obtain ⟨s,rfl,hr⟩:=hd;have a3:=hr.blen;have J:brs S<+:d.1:=by rw [hb];exact List.take_prefix _ _
 generalize hB:d.1[k]=B;have Q:d.1[k]? =V B:=by rw [N5 a0,hB]
 refine qdy ?_;unfold PN;intro b2 a1;refine tR ?_;have l2:=ae (Y #[s.v,U d.2] 33) a1;have q2:=aq F b2 (Y #[s.v,U d.2] 33);generalize F.set b2 (Y #[s.v,U d.2] 33)=F2 at*;obtain ⟨p,hp,A,_⟩:=VX (hr.le l2) Q;refine ⟨s,by rw [av q2];rfl,p,hp,by omega,by omega,aW B,rfl,by simpa using A,?_⟩;intro N a2;refine tR ?_;refine Uc (aq _ _ _) rfl rfl (iE _) ?_;rw [aR];have lx:=ae (Y (aW B) 201) a2;have q5:=aq F2 N (Y (aW B) 201);have q2:=lx _ _ q2;have g:=l2.trans lx;generalize F2.set N (Y (aW B) 201)=X at*;have c0:∀{G:PH},X.le G->G.cell (oB N 0 I)=V (U B.v):=λh=>by rw [av (h _ _ q5)];rfl
 have c1:∀{G:PH},X.le G->G.cell (oB N 1 I)=V (U B.l):=λh=>by rw [av (h _ _ q5)];rfl
 have c2:∀{G:PH},X.le G->G.cell (oB N 2 I)=V (U B.h):=λh=>by rw [av (h _ _ q5)];rfl
 have D:=PH.le_rfl (F:=X);have hw:i64.wrap ((k:Int)+2)=(k:Int)+2:=by rw [aJ (by omega)]
 have bad:∀{G:PH},F.le G->¬zC S B->(nW mD=nW (decide (zC S B))/\F.le G):=λ{G} hg hn=>⟨by rw [η hn],hg⟩;rw [hw];refine ⟨_,c0 D,λh=>bad g λhF=>(by have:=cu w hF;omega),λh1=> ?_⟩;refine ⟨_,c0 D,λh=>bad g λhF=>(by have:=cu w hF;omega),λh2=> ?_⟩;refine ⟨_,c1 D,λh=>bad g λhF=>(by have:=cu w hF;omega),λh3=> ?_⟩;refine ⟨_,c2 D,λh=>bad g λhF=>(by have:=cu w hF;omega),λh4=> ?_⟩;refine ⟨_,c1 D,λh=>bad g λhF=>(by have:=cu w hF;omega),λh5=> ?_⟩;refine ⟨_,c2 D,λh=>bad g λhF=>(by have:=cu w hF;omega),λh6=> ?_⟩;refine ⟨_,c1 D,_,c2 D,λh=>bad g λhF=>(by have:=cu w hF;omega),λh7=> ?_⟩;have il:inn S (tr S B.l.toNat):=gI (by omega);have ih:inn S (tr S B.h.toNat):=gI (by omega);have nl:((num S (tr S B.l.toNat):Nat):Int)=B.l:=by rw [f7 w (by omega)];omega
 have nh:((num S (tr S B.h.toNat):Nat):Int)=B.h:=by rw [f7 w (by omega)];omega
 refine ⟨_,rfl,ai q2,_,c1 D,_,c0 D,?_⟩;have s1:=fk (M.le g) J il (by omega);rw [nl] at s1;refine s1.mono ?_;rintro _ F6 ⟨rfl,K⟩;refine ⟨_,rfl,c0 K,λh=>bad (g.trans K) λhF=>(by have:=cu w hF;omega),λh9=> ?_⟩;refine ⟨_,rfl,ai (K _ _ q2),_,c2 K,_,c0 K,?_⟩;have s2:=fk (M.le (g.trans K)) J ih (by omega);rw [nh] at s2;refine s2.mono ?_;rintro _ F7 ⟨rfl,l7⟩;have E:=K.trans l7;refine ⟨_,rfl,c0 E,c0 E,λh=>bad (g.trans E) λhF=>(by have:=cu w hF;omega),λa5=> ?_⟩;have L:∀i,i<k->∀x,d.1[i]? =V x->x∈brs S:=λi hi x H=>by rw [hb];exact vO (by rw [YF hi];exact H)
 refine ⟨λm i F'=>∃j:Nat,i=j/\j<=k/\m=k - j/\F7.le F'/\∀x∈d.1.take j,x≠B,k,⟨0,rfl,by omega,rfl,PH.le_rfl,by simp⟩,?_⟩;rintro m i F8 ⟨j,rfl,hj,rfl,l8,W⟩;have C:=E.trans l8;unfold Ey;refine ⟨λa6=> ?_,λa4=> ?_⟩
 ·have P:j<d.1.length:=by omega
  have O:=N5 P;obtain ⟨p,hp,A,_⟩:=VX (hr.le (g.trans C)) O;refine ⟨s,by rw [av (C _ _ q2)];rfl,p,hp,by omega,by omega,aW d.1[j],rfl,by simpa using A,aW B,rfl,ai (C _ _ q5),_,λF=>JP _ _ F,λhe=> ?_,λhn=> ?_⟩
  ·refine bad (g.trans C) λhF=>(cu w hF).2.2.2.2.2.2.2.1 ?_;rw [<- ζ he];exact L j (by omega) _ O
  ·refine ⟨k - (j+1),by omega,j+1,fo (by omega),by omega,rfl,l8,λx H=> ?_⟩;rw [W4 P] at H;rcases vj.1 H with H|H
   ·exact W x H
   ·rw [vu.1 H];exact ι hn
 ·obtain rfl:j=k:=by omega
  unfold Ex;refine ⟨?_,g.trans C⟩;rw [ε (Ei w (by omega) (by omega) (by omega) (by omega) (by omega) (by omega) h7 (λhm=>W B (by rw [<- hb];exact hm) rfl) (by omega) (by omega))]
open Classical in
theorem Gx (hd:DV F v d) (hf:yq (d.1.length+4)):ν 217 #[nQ v] F λr W=>r=nW (decide (iU d))/\F.le W:=by
 have K:=hd;obtain ⟨s,rfl,hr⟩:=hd;have a3:=hr.blen;refine qdR ?_;unfold PF;intro Q a0;refine tR ?_;have H:=ae (Y #[s.v,U d.2] 33) a0;have q1:=aq F Q (Y #[s.v,U d.2] 33);generalize F.set Q (Y #[s.v,U d.2] 33)=O at*;have bad:∀{G:PH},F.le G->¬iU d->(nW mD=nW (decide (iU d))/\F.le G):=λ{G} hg X=>⟨by rw [η X],hg⟩;have g:iU d->0<=d.2/\d.2<=(d.1.length:Int)+1:=by rintro ⟨t,ht,rfl⟩;have h1:=dP (bH ht);have h2:(pj t).1.length=(aU t).length:=aO _;have h3:(pj t).2=((num (aU t) t:Nat):Int):=rfl;omega
 have hw:i64.wrap ((s.len:Int)+2)=(s.len:Int)+2:=by rw [aJ (by omega)]
 have c1:∀{G:PH},O.le G->G.cell (oB Q 1 I)=V (U d.2):=λh=>by rw [av (h _ _ q1)];rfl
 have c0:∀{G:PH},O.le G->G.cell (oB Q 0 I)=V s.v:=λh=>by rw [av (h _ _ q1)];rfl
 have P:=PH.le_rfl (F:=O);refine ⟨_,c1 P,λh=>bad H λL=>(by have:=g L;omega),λh1=> ?_⟩;refine ⟨_,c1 P,s,c0 P,?_⟩;dsimp only;rw [hw];refine ⟨λh=>bad H λL=>(by have:=g L;omega),λh2=> ?_⟩;refine ⟨λm i W=>∃(k:Nat) (S:List Tr),i=k/\k<=d.1.length/\m=d.1.length - k/\O.le W/\Cl S/\S.length=k/\brs S=d.1.take k,d.1.length,⟨0,[],rfl,by omega,rfl,P,.nil,rfl,by simp [brs]⟩,?_⟩;rintro m i F2 ⟨k,S,rfl,hk,rfl,B,C,D,A⟩;unfold Es;refine ⟨s,c0 B,λa5=> ?_,λa4=> ?_⟩
 ·have E:k<d.1.length:=by omega
  refine ⟨_,rfl,ai (B _ _ q1),?_⟩;refine (Cg (K.le (H.trans B)) hf C D E A).mono ?_;rintro _ F3 ⟨rfl,J⟩;by_cases hF:zC S d.1[k]
  ·rw [ε hF];refine ⟨_,rfl,λh=>(by cases h),λ_=> ?_⟩;obtain ⟨v,l,h,e,hl,hh,a1,X⟩:=hF;refine ⟨d.1.length - (k+1),by omega,k+1,S++[qa7 v l h],fo (by omega),by omega,rfl,B.trans J,.snoc C hl hh a1 X,by simp [D],?_⟩;rw [eC C hl hh,W4 E,A,e]
  ·rw [η hF];exact ⟨_,rfl,λ_=>bad (H.trans (B.trans J)) λL=>hF (kE L C D E A),λh=>by cases h⟩
 ·obtain rfl:k=d.1.length:=by omega
  rw [wB] at A;unfold Er;have M:inn S (tr S d.2.toNat):=gI (by omega);have N:((num S (tr S d.2.toNat):Nat):Int)=d.2:=by rw [f7 C (by omega)];omega
  refine ⟨_,rfl,ai (B _ _ q1),s,c0 B,_,c1 B,?_⟩;have sp:=kF (ns:=s) (t:=tr S d.2.toNat) (by rw [A];exact hr.le (H.trans B)) C M (by omega);rw [N] at sp;refine sp.mono ?_;rintro _ F3 ⟨w,rfl,a2,J⟩;refine ⟨_,rfl,ai ((B.trans J) _ _ q1),?_⟩;refine (B8 (K.le (H.trans (B.trans J))) a2 (by omega)).mono ?_;rintro _ F4 ⟨rfl,l4⟩;refine ⟨_,rfl,?_,H.trans (B.trans (J.trans l4))⟩;have key:(d=pj (tr S d.2.toNat))↔iU d:=by
   constructor
   ·exact λe=>⟨_,C.inn_ok M,e⟩
   ·rintro ⟨u,hu,e⟩;have e1:brs S=brs (aU u):=by rw [A,e];rfl
    have e2:S=aU u:=qN C (bz hu) e1;have e3:d.2.toNat=num (aU u) u:=by rw [e];show ((num (aU u) u:Nat):Int).toNat=_;simp
    rw [e3,e2,oC (bz hu) (bH hu)];exact e
  congr 1;rw [wm,decide_eq_true_iff,decide_eq_true_iff];exact key
theorem Gy (hd:DV F v d) (G:yq (d.1.length+4)):ν 192 #[nQ v] F λr H=>r=U (chk d)/\F.le H:=by
 have A:=hd;obtain ⟨s,rfl,J⟩:=hd;have D:=J.blen;refine qdO ?_;unfold PC;intro E B;refine tR ?_;have g:=ae (Y #[s.v,U d.2] 33) B;have q1:=aq F E (Y #[s.v,U d.2] 33);generalize F.set E (Y #[s.v,U d.2] 33)=K at*;refine ⟨s,by rw [av q1];rfl,λh=>⟨?_,g⟩,λh=> ?_⟩
 ·unfold chk;rw [Χ (by omega)]
 ·refine ⟨_,rfl,ai q1,?_⟩;refine (Gx (A.le g) G).mono ?_;rintro _ F2 ⟨rfl,C⟩;refine ⟨_,rfl,λw=>⟨?_,g.trans C⟩,λw=>⟨?_,g.trans C⟩⟩
  ·unfold chk;rw [Υ (by omega),Υ (by simpa using w)]
  ·unfold chk;rw [Υ (by omega),Χ (by simpa using w)]
end
theorem fresh {F:PH} {o:Obj} {K:Nat->Ψ} (k:∀b g,F.le g->g b=V o->F b=I->K b g):∀b,F b=I->xJ (F.set b o) (K b):=λb h=>k b _ (ae o h) (aq _ _ _) h
theorem ld {F:PH} {b i:Nat} {c:Γ} {e:TypeId} {fr:Nat×Nat} {v:ξ} (h:F b=V (Y c e fr)) (g:c[i]? =V v):F.cell (oB b i I)=V v:=(av h).trans g
theorem ga {F:PH} {b o e:Nat} {c d:Γ} {fr:Nat×Nat} (h:F b=V (Y c e fr)) (hd:(c.toList.drop o).take d.size=d.toList):F.row (oB b o I) d:=by intro i hi;rw [aI,av h];have:=congrArg (λl=>l[i]?) hd;simp only [YF hi,List.getElem?_drop,YI] at this;rw [this];simp [hi]
theorem aM {F:PH} {a:Addr} {c:Γ} {i:Nat} {v:ξ} (h:F.row a c) (g:c[i]? =V v):F.cell (a.add i)=V v:=by obtain ⟨hi,rfl⟩:=XY.1 g;exact h i hi
theorem aE {F:PH} {a:Addr} {c:Γ} {v:ξ} (h:F.row a c) (g:c[0]? =V v):F.cell a=V v:=by have:=aM h g;rwa [show a.add 0=a by unfold nV;cases a;rename_i b o s;cases s<;>simp] at this
def Dj (G H:PH):Prop:=∀b,G b=I\/H b=I
theorem Dj.symm {G H:PH} (h:Dj G H):Dj H G:=λb=>(h b).symm
structure St (G F:PH) (As:List (Ψ)):Prop where
 le:G.le F
 ex:∃Hs:Nat->PH,(∀i A,As[i]? =V A->A (Hs i)/\Dj G (Hs i)/\(Hs i).le F)/\∀i j,i<As.length->j<As.length->i≠j->Dj (Hs i) (Hs j)
def pt (b:Nat) (o:Obj):Ψ:=λH=>H b=V o
def own (s:Sl) (e n:Nat) (vs:Ξ):Ψ:=λH=>bO H e n s vs
namespace St
section
variable {G F:PH} {As:List (Ψ)}
theorem start (F:PH):St F F []:=⟨au F,λ_ _=>I,λi A h=>(by cases h),λi j h=>(by cases h)⟩
theorem get (h:St G F As) {i:Nat} {A:Ψ} (hi:As[i]? =V A):∃H,A H/\Dj G H/\H.le F:=by obtain ⟨g,r,_⟩:=h.ex;exact ⟨g i,r i A hi⟩
theorem set (h:St G F As) {i:Nat} {A A':Ψ} (hi:As[i]? =V A):∃H,A H/\Dj G H/\H.le F/\∀E J,A' E->(∀b,E b≠I->H b≠I\/F b=I)->E.le J->(∀b o,F b=V o->H b=I->J b=V o)->St G J (As.set i A'):=by
 obtain ⟨L,P,O⟩:=h.ex;obtain ⟨a1,a2,a3⟩:=P i A hi;refine ⟨L i,a1,a2,a3,λE J hA hb hl hk=> ?_⟩;have N:i<As.length:=(N6.1 hi).1;have g:∀{K:PH},K.le F->Dj (L i) K->Dj E K:=λ{K} X hd b=>by
  by_cases e:E b=I
  ·exact .inl e
  ·rcases hb b e with e|e
   ·rcases hd b with h|h
    ·exact absurd h e
    ·exact .inr h
   ·exact .inr (aT X e)
 have C:∀{K:PH},K.le F->Dj (L i) K->K.le J:=λ{K} X hd b o W=>hk b o (X b o W) (by
  rcases hd b with h|h
  ·exact h
  ·rw [h] at W;cases W)
 refine ⟨C h.le a2.symm,λj=>if j=i then E else L j,λj B w=> ?_,λj k w r D=> ?_⟩
 ·dsimp only;by_cases e:j=i
  ·subst e;rw [X1 N] at w;cases w;rw [Χ rfl];exact ⟨hA,(g h.le a2.symm).symm,hl⟩
  ·rw [Zh (Ne.symm e)] at w;rw [Υ e];obtain ⟨b1,b2,b3⟩:=P j B w;have Q:j<As.length:=(N6.1 w).1;exact ⟨b1,b2,C b3 (O i j N Q (Ne.symm e))⟩
 ·rw [Yp] at w r;have M:∀{m:Nat},m<As.length->(L m).le F:=λ{m} hm=>(P m _ (N5 hm)).2.2;dsimp only;by_cases e:j=i
  ·subst e;rw [Χ rfl,Υ (Ne.symm D)];exact g (M r) (O j k w r D)
  ·rw [Υ e];by_cases e2:k=i
   ·subst e2;rw [Χ rfl];exact (g (M w) (O k j r w (Ne.symm D))).symm
   ·rw [Υ e2];exact O j k w r D
theorem push (h:St G F As) {A:Ψ} {H D:PH} (hA:A H) (hd:∀b,H b≠I->F b=I) (P:H.le D) (L:F.le D):St G D (A::As):=by
 obtain ⟨M,J,O⟩:=h.ex;have g:∀{K:PH},K.le F->Dj K H:=λ{K} Q b=>by
  by_cases e:H b=I
  ·exact .inr e
  ·exact .inl (aT Q (hd b e))
 refine ⟨aa h.le L,λj=>match j with|0=>H|j+1=>M j,λj B w=> ?_,λj k w r E=> ?_⟩
 ·cases j with
  |zero=>cases w;exact ⟨hA,g h.le,P⟩
  |succ j=>obtain ⟨X,W,b3⟩:=J j B (by simpa using w);exact ⟨X,W,aa b3 L⟩
 ·have C:∀{m:Nat},m<As.length->(M m).le F:=λ{m} N=>(J m _ (N5 N)).2.2;cases j with
  |zero=>
   cases k with
   |zero=>exact absurd rfl E
   |succ k=>exact (g (C (by simpa using r))).symm
  |succ j=>
   cases k with
   |zero=>exact g (C (by simpa using w))
   |succ k=>exact O j k (by simpa using w) (by simpa using r) (by omega)
theorem tail {A:Ψ} (h:St G F (A::As)):St G F As:=by obtain ⟨C,r,w⟩:=h.ex;exact ⟨h.le,λj=>C (j+1),λj B g=>r (j+1) B (by simpa using g),λj k g D E=>w (j+1) (k+1) (by simpa using g) (by simpa using D) (by omega)⟩
theorem pin {A:Ψ} (h:St G F (A::As)):∃D,G.le D/\(∃H,A H/\H.le D)/\St D F As:=by
 obtain ⟨r,J,K⟩:=h.ex;obtain ⟨a1,W,N⟩:=J 0 A rfl;have E:(r 0).le (G.and (r 0)):=λb o g=>by
  rcases W b with e|e
  ·rw [PH.and_right e];exact g
  ·rw [e] at g;cases g
 refine ⟨G.and (r 0),λb o g=>PH.and_left g,⟨r 0,a1,E⟩,λb o g=> ?_,λj=>r (j+1),λj B w=> ?_,λj k w L Q=>K (j+1) (k+1) (by simpa using w) (by simpa using L) (by omega)⟩
 ·cases e:G b with
  |some o'=>rw [PH.and_left e] at g;rw [<- g];exact h.le _ _ e
  |none=>rw [PH.and_right e] at g;exact N _ _ g
 ·obtain ⟨P,O,X⟩:=J (j+1) B (by simpa using w);refine ⟨P,λb=> ?_,X⟩;rcases O b with e|e
  ·have M:j+1<(A::As).length:=by have:=(N6.1 w).1;simpa using this
   rcases K 0 (j+1) (by simp) M (by omega) b with C|C
   ·exact .inl ((PH.and_right e).trans C)
   ·exact .inr C
  ·exact .inr e
theorem pinb {b:Nat} {o:Obj} (h:St G F (pt b o::As)) {K:Ψ} (k:∀g,G.le g->g b=V o->St g F As->K F):K F:=by obtain ⟨g,r,⟨H,A,B⟩,w⟩:=h.pin;exact k g r (B _ _ A) w
theorem swap {A B:Ψ} (h:St G F (A::B::As)):St G F (B::A::As):=by
 obtain ⟨E,D,g⟩:=h.ex;refine ⟨h.le,λj=>match j with|0=>E 1|1=>E 0|j+2=>E (j+2),λj C r=> ?_,λj k r H w=> ?_⟩
 ·match j with
  |0=>exact D 1 C r
  |1=>exact D 0 C r
  |j+2=>exact D (j+2) C r
 ·match j,k with
  |0,0=>exact absurd rfl w
  |1,1=>exact absurd rfl w
  |0,1=>exact g 1 0 (by simp) (by simp) (by omega)
  |1,0=>exact g 0 1 (by simp) (by simp) (by omega)
  |0,k+2=>exact g 1 (k+2) (by simp) H (by omega)
  |1,k+2=>exact g 0 (k+2) (by simp) H (by omega)
  |j+2,0=>exact g (j+2) 1 r (by simp) (by omega)
  |j+2,1=>exact g (j+2) 0 r (by simp) (by omega)
  |j+2,k+2=>exact g (j+2) (k+2) r H w
theorem pick (h:St G F As) (f:Nat->Nat) {Bs:List (Ψ)} (J:∀i j,i<Bs.length->j<Bs.length->f i=f j->i=j) (w:∀i,i<Bs.length->As[f i]? =Bs[i]?):St G F Bs:=by
 obtain ⟨H,D,E⟩:=h.ex;have C:∀i,i<Bs.length->f i<As.length:=λi hi=>by have:=w i hi;rw [N5 hi] at this;exact (N6.1 this).1
 refine ⟨h.le,λi=>H (f i),λi B hi=> ?_,λi j hi A g=>E _ _ (C i hi) (C j A) λe=>g (J i j hi A e)⟩;have r:i<Bs.length:=(N6.1 hi).1;exact D (f i) B ((w i r).trans hi)
theorem call {f:FuncId} {args:Γ} {P:ξ->Ψ} (h:St G F As) (s:aj prog f args G P):aj prog f args F λr C=>∃w,P r w/\St w C As:=by
 refine (s.upon h.le).mono λr C ⟨w,H,M,K⟩=>⟨w,H,M,?_⟩;obtain ⟨B,D,E⟩:=h.ex;refine ⟨B,λi A hi=> ?_,E⟩;obtain ⟨L,N,J⟩:=D i A hi;have key:∀b o,B i b=V o->C b=V o/\w b=I:=λb o g=>by
  rcases N b with e|e
  ·exact K b o e (J b o g)
  ·rw [e] at g;cases g
 refine ⟨L,λb=> ?_,λb o g=>(key b o g).1⟩;cases e:B i b with
 |none=>exact .inr rfl
 |some o=>exact .inl (key b o e).2
theorem run {f:FuncId} {args:Γ} {P:ξ->Ψ} {Q:ξ->Ψ} (h:St G F As) (s:aj prog f args G λr g=>P r g/\G.le g) (k:∀r g w,P r g->G.le g->St g w As->Q r w):aj prog f args F Q:=
 (h.call s).mono λr w ⟨g,⟨A,B⟩,C⟩=>k r g w A B C
theorem runv {f:FuncId} {args:Γ} {v:ξ} {Q:ξ->Ψ} (h:St G F As) (s:aj prog f args G λr g=>r=v/\G.le g) (k:∀g w,G.le g->St g w As->Q v w):aj prog f args F Q:=
 (h.call s).mono λr w ⟨g,⟨A,B⟩,C⟩=>by rw [A];exact k g w B C
def V0 (G:PH) (Hs:Nat->PH):Nat->PH
 |0=>G
 |n+1=>(V0 G Hs n).and (Hs n)
theorem sZ {G:PH} {Hs:Nat->PH} {b:Nat}:∀{n:Nat},V0 G Hs n b=I↔G b=I/\∀i,i<n->Hs i b=I
 |0=>⟨λh=>⟨h,λi hi=>by omega⟩,λh=>h.1⟩
 |n+1=>by
  have ih:=sZ (G:=G) (Hs:=Hs) (b:=b) (n:=n);constructor
  ·intro h;have g:V0 G Hs n b=I:=by
    cases e:V0 G Hs n b with
    |none=>rfl
    |some o=>rw [V0,PH.and_left e] at h;cases h
   rw [V0,PH.and_right g] at h;refine ⟨(ih.1 g).1,λi hi=> ?_⟩;by_cases e:i=n
   ·rw [e];exact h
   ·exact (ih.1 g).2 i (by omega)
  ·intro h;have g:=ih.2 ⟨h.1,λi hi=>h.2 i (by omega)⟩;rw [V0,PH.and_right g];exact h.2 n (by omega)
theorem Kc {G K:PH} {Hs:Nat->PH} (r:G.le K):∀{n:Nat},(∀i,i<n->(Hs i).le K)->(V0 G Hs n).le K
 |0,_=>r
 |n+1,h=>λb o g=>by
  have ih:=Kc r (n:=n) λi hi=>h i (by omega);cases e:V0 G Hs n b with
  |none=>rw [V0,PH.and_right e] at g;exact h n (by omega) b o g
  |some w=>rw [V0,PH.and_left e] at g;rw [<- g];exact ih b _ e
theorem Ke {G:PH} {Hs:Nat->PH}:∀{n:Nat},G.le (V0 G Hs n)
 |0=>au _
 |n+1=>λb o g=>PH.and_left (Ke (n:=n) b o g)
theorem zN {G:PH} {Hs:Nat->PH}:∀{n:Nat} {i:Nat},i<n->(∀i,i<n->Dj G (Hs i))->(∀i j,i<n->j<n->i≠j->Dj (Hs i) (Hs j))->(Hs i).le (V0 G Hs n)
 |0,i,h,_,_=>by omega
 |n+1,i,hi,hd,hp=>λb o g=>by
  by_cases e:i=n
  ·subst e;have w:V0 G Hs i b=I:=by
    refine sZ.2 ⟨?_,λj r=> ?_⟩
    ·rcases hd i (by omega) b with e|e
     ·exact e
     ·rw [e] at g;cases g
    ·rcases hp j i (by omega) (by omega) (by omega) b with e|e
     ·exact e
     ·rw [e] at g;cases g
   rw [V0,PH.and_right w];exact g
  ·exact PH.and_left (zN (n:=n) (i:=i) (by omega) (λj r=>hd j (by omega)) (λj k r A=>hp j k (by omega) (by omega)) b o g)
theorem callL {f:FuncId} {args:Γ} {Bs Cs:List (Ψ)} {Bs':ξ->PH->List (Ψ)} {P:ξ->Ψ} (h:St G F (Bs++Cs))
  (s:∀H,St G H Bs->aj prog f args H λr L=>∃g,P r g/\G.le g/\St g L (Bs' r g)):
  aj prog f args F λr L=>∃g,P r g/\G.le g/\St g L (Bs' r g++Cs):=by
 obtain ⟨C,X,J⟩:=h.ex;have N:(Bs++Cs).length=Bs.length+Cs.length:=tT;have W:∀i,i<Bs.length+Cs.length->Dj G (C i)/\(C i).le F:=λi hi=>(X i _ (N5 (by omega))).2;rw [N] at J;have hU:(V0 G C Bs.length).le F:=Kc h.le λi hi=>(W i (by omega)).2;have a0:St G (V0 G C Bs.length) Bs:=by refine ⟨Ke,C,λi A hi=> ?_,λi j hi B=>J i j (by omega) (by omega)⟩;have Q:i<Bs.length:=(N6.1 hi).1;obtain ⟨a1,a2,_⟩:=X i A (by rw [zM Q];exact hi);exact ⟨a1,a2,zN Q (λj B=>(W j (by omega)).1) (λj k B hk=>J j k (by omega) (by omega))⟩
 refine ((s _ a0).upon hU).mono ?_;rintro r L ⟨H,⟨g,hp,hg,w⟩,hl,hk⟩;refine ⟨g,hp,hg,aa w.le hl,?_⟩;obtain ⟨Ks,k1,k2⟩:=w.ex;have key:∀i,i<Cs.length->∀b o,C (Bs.length+i) b=V o->L b=V o/\H b=I:=λi hi b o E=>by
  refine hk b o (sZ.2 ⟨?_,λj B=> ?_⟩) ((W (Bs.length+i) (by omega)).2 b o E)
  ·rcases (W (Bs.length+i) (by omega)).1 b with e|e
   ·exact e
   ·rw [e] at E;cases E
  ·rcases J j (Bs.length+i) (by omega) (by omega) (by omega) b with e|e
   ·exact e
   ·rw [e] at E;cases E
 have dj:∀i,i<Cs.length->∀{K:PH},K.le H->Dj K (C (Bs.length+i)):=λi hi {K} hK b=>by
  cases e:C (Bs.length+i) b with
  |none=>exact .inr rfl
  |some o=>exact .inl (aT hK (key i hi b o e).2)
 refine ⟨λj=>if j<(Bs' r g).length then Ks j else C (Bs.length+(j - (Bs' r g).length)),λj A B=> ?_,λj k B a3 a4=> ?_⟩
 ·dsimp only;by_cases e:j<(Bs' r g).length
  ·rw [Χ e];rw [zM e] at B;obtain ⟨b1,b2,b3⟩:=k1 j A B;exact ⟨b1,b2,aa b3 hl⟩
  ·rw [Υ e];rw [Ua (by omega)] at B;have O:j - (Bs' r g).length<Cs.length:=(N6.1 B).1;refine ⟨(X (Bs.length+(j - (Bs' r g).length)) A ?_).1,dj _ O w.le,λb o E=>(key _ O b o E).1⟩;rw [Ua (by omega),show Bs.length+(j - (Bs' r g).length) - Bs.length=j - (Bs' r g).length by omega];exact B
 ·rw [tT] at B a3;have M:∀m,m<(Bs' r g).length->(Ks m).le H:=λm hm=>(k1 m _ (N5 hm)).2.2;dsimp only;by_cases e:j<(Bs' r g).length
  ·rw [Χ e];by_cases D:k<(Bs' r g).length
   ·rw [Χ D];exact k2 j k e D a4
   ·rw [Υ D];exact dj _ (by omega) (M j e)
  ·rw [Υ e];by_cases D:k<(Bs' r g).length
   ·rw [Χ D];exact (dj _ (by omega) (M k D)).symm
   ·rw [Υ D];exact J _ _ (by omega) (by omega) (by omega)
theorem new (h:St G F As) {o:Obj} {K:Nat->Ψ} (k:∀b w,St G w (pt b o::As)->K b w):∀b,F b=I->xJ (F.set b o) (K b):=λb r=>by
 refine tR (k b _ (h.push (H:=PH.set (λ_=>I) b o) (aq _ _ _) (λx g=> ?_) (λx p g=> ?_) (ae o r)))
 ·by_cases e:x=b
  ·rw [e];exact r
  ·rw [aw _ _ e] at g;exact absurd rfl g
 ·by_cases e:x=b
  ·rw [e,aq] at g ⊢;exact g
  ·rw [aw _ _ e] at g;cases g
theorem newG (h:St G F As) {o:Obj} {K:Nat->Ψ} (k:∀b g r,G.le g->g b=V o->G b=I->St g r As->K b r):∀b,F b=I->xJ (F.set b o) (K b):=λb D=>by
 refine h.new (K:=K) (λA r B=> ?_) b D;have w:G A=I:=by
  obtain ⟨H,J,M,_⟩:=B.get (i:=0) rfl;rcases M A with e|e
  ·exact e
  ·rw [J] at e;cases e
 exact B.pinb λg C E L=>k A g r C E w L
theorem ptAt (h:St G F As) {i b:Nat} {o:Obj} (hi:As[i]? =V (pt b o)):F b=V o:=by obtain ⟨H,r,_,g⟩:=h.get hi;exact g _ _ r
theorem putAt (h:St G F As) (i:Nat) {b:Nat} {o:Obj} (o':Obj) (hi:As[i]? =V (pt b o)):St G (F.set b o') (As.set i (pt b o')):=by
 obtain ⟨H,w,C,A,B⟩:=h.set (A':=pt b o') hi;refine B (H.set b o') _ (aq _ _ _) (λx g=> ?_) (λx p g=> ?_) (λx p g r=> ?_)
 ·by_cases e:x=b
  ·rw [e,w];exact .inl (by simp)
  ·rw [aw _ _ e] at g;exact .inl g
 ·by_cases e:x=b
  ·rw [e,aq] at g ⊢;exact g
  ·rw [aw _ _ e] at g ⊢;exact A _ _ g
 ·have e:x≠b:=λe=>by rw [e,w] at r;cases r
  rw [aw _ _ e];exact g
theorem ownAt (h:St G F As) {i:Nat} {s:Sl} {e n:Nat} {vs:Ξ} (hi:As[i]? =V (own s e n vs)):bO F e n s vs/\∀a,s.qa5=V a->G a.block=I:=by
 obtain ⟨H,g,C,r⟩:=h.get hi;refine ⟨bO.upto g r,λa A=> ?_⟩;obtain ⟨w,B⟩:=bO.elem g A;rcases C a.block with e|e
 ·exact e
 ·rw [B] at e;cases e
theorem nilOwn (h:St G F As) (e n:Nat):St G F (own pm e n []::As):=h.push (H:=λ_=>I) (.inl ⟨rfl,rfl⟩) (λb g=>absurd rfl g) (λb o g=>(by cases g)) (au F)
end
end St
theorem aC {k n:Nat} (h:k<n) (g:n<=9223372036854775807:=by omega):i64.wrap ((k:Int)+1)=((k+1:Nat):Int):=by rw [aJ (by omega)];omega
theorem bD {F:PH} (L:(Ω)->Ω) (n:Nat) (Inv:Nat->Ψ) (D:Inv 0 F)
  (step:∀(k:Nat) (F:PH) (N:Ω),k<=n->Inv k F->(∀g,k<n->Inv (k+1) g->N ((k+1:Nat):Int) g)->L N (k:Int) F):
  ∃(r:Nat->Ω) (m:Nat),r m (0:Int) F/\∀m v F,r m v F->L (λy F=>∃w,w<m/\r w y F) v F:=by
 refine ⟨λm i g=>∃k:Nat,i=k/\k<=n/\m=n - k/\Inv k g,n,⟨0,rfl,by omega,rfl,D⟩,?_⟩;rintro m i g ⟨k,rfl,C,rfl,hi⟩;exact step k g _ C hi λB A h=>⟨n - (k+1),by omega,k+1,rfl,by omega,rfl,h⟩
end
