/-
  The diagrams: the walk that numbers the branches of a builder.
-/
import Derived.Test.YtcemhghkipgdiaaGreatDoorQw
import Derived.Test.YtcemhghkipgdiaaGreatDoorGbits
namespace Go.Proofs.YtcemhghkipgdiaaGreatDoor
open Go Go.Proofs.Tryz
set_option maxRecDepth 10000
section
variable {F:PH} {l:List Nd} {s:Sl}
theorem MF:aE prog 186=true:=by kernel_rfl
def LgL (l:List Nd) (w:Δ):Prop:=Lg (bT l).pat w
theorem sR (hT:Tab F) (hs:RdS F s 5 (ft l)) (st:ByteArray) (hst:st.size<=1000000000):ai prog 145 #[s.v,.string st] F λr F'=>(∃q:Bool,r=.bool q/\(q=true↔iZ l=0/\LgL l (bs st)))/\F.le F':=by
 refine Oo ?_;unfold JQ;have h:=Lo.start F;refine h.new _ _ λb3 F1 h=> ?_;refine (h.call (oo hs)).mono ?_;rintro _ F2 ⟨G1,⟨rfl,l1⟩,h⟩;refine ⟨_,rfl,λhc=>⟨⟨false,rfl,λh=>(by cases h),λh=>absurd h.1 hc⟩,aa l1 h.le⟩,λhc=> ?_⟩;have h0:iZ l=0:=by omega
 obtain ⟨hG,hl⟩:=C9 h0;obtain ⟨ns,ht⟩:=kN hG;refine (h.call (vo (hT.le l1) hG hl (hs.le l1))).mono ?_;rintro _ F3 ⟨G,⟨⟨bm,rfl,hM⟩,l2⟩,h⟩;have c3:F3.cell (Addr.mk b3 0 none)=some (.string st):=by rw [h.cell (b:=b3) (w:= #[.string st]) (e:=9) (by simp)];rfl
 refine ⟨_,rfl,_,c3,?_⟩;have j1:∀(b6:Nat) (mt:Bool) (F4:PH),Lo G F4 [(b6,#[.bool mt],4),(b3,#[.string st],9)]->(mt=true↔st.size=0/\(bT l).nul=true)->
   ph b3 (some ⟨bm,0,none⟩) (some ⟨b6,0,none⟩) (λr F'=>(∃q:Bool,r=.bool q/\(q=true↔iZ l=0/\LgL l (bs st)))/\F.le F') F4:=λb6 mt F4 h hmt=>by
  unfold ph;refine ⟨_,by rw [h.cell (b:=b3) (w:= #[.string st]) (e:=9) (by simp)];rfl,?_⟩
  refine (Fz (bm:=bm) (k:=186) (cap:= #[pa b3,pa b6]) (Inv:=λn F'=>∃mt:Bool,Lo G F' [(b6,#[.bool mt],4),(b3,#[.string st],9)]/\(n=0->(mt=true↔st.size=0/\(bT l).nul=true))/\(0<n->(mt=true↔n=st.size/\LgL l ((bs st).take n)))) MF hl hG ht (by omega)
   (λn F' ⟨b,hL,_⟩=>⟨(hT.le (aa l1 l2)).le hL.le,hM.le hL.le⟩) ?_ ⟨mt,h,λ_=>hmt,λh=>absurd h (by omega)⟩).mono ?_
  ·rintro n F' q hn hq ⟨mt,hL,_,_⟩;show ai prog 186 #[vi ((n+1:Nat):Int),.bool q,pa b3,pa b6] F' _;refine Ow ?_;unfold JV;refine ⟨_,rfl,_,by rw [hL.cell (b:=b3) (w:= #[.string st]) (e:=9) (by simp)];rfl,λhe=>⟨_,rfl,?_⟩,λhe=>⟨_,rfl,?_⟩⟩
   ·refine Lo.put1 [] [(b3,#[.string st],9)] (b:=b6) (i:=0) (w0:= #[.bool mt]) (w:= #[.bool q]) (e:=4) hL (by simp) rfl λF'' h'=> ?_;exact ⟨rfl,q,h',λh=>by omega,λ_=>⟨λh=>⟨by omega,hq.1 h⟩,λh=>hq.2 h.2⟩⟩
   ·refine Lo.put1 [] [(b3,#[.string st],9)] (b:=b6) (i:=0) (w0:= #[.bool mt]) (w:= #[.bool false]) (e:=4) hL (by simp) rfl λF'' h'=> ?_;exact ⟨rfl,false,h',λh=>by omega,λ_=>⟨λh=>(by cases h),λh=>by omega⟩⟩
  ·rintro _ F5 ⟨rfl,n,G',hn,⟨mt,hL,hz,hp⟩,l5,hend⟩;refine ⟨rfl,_,rfl,mt,aH l5 (by rw [hL.cell (b:=b6) (w:= #[.bool mt]) (e:=4) (by simp)];rfl),⟨mt,rfl,?_⟩,aa l1 (aa l2 (aa hL.le l5))⟩;have hall:(bs st).take st.size=bs st:=UZ (by rw [fU];exact UW _);have hnil:st.size=0->bs st=[]:=λh=>V1.1 (by rw [fU];exact h);have hnul:(bT l).nul=true↔LgL l []:=(bT l).nul_iff;rcases VT n with e|e
   ·subst e;rw [hz rfl];constructor
    ·rintro ⟨h1,h2⟩;exact ⟨h0,by rw [hnil h1];exact hnul.1 h2⟩
    ·rintro ⟨_,h2⟩;rcases hend with he|he
     ·exact ⟨he.symm,hnul.2 (by rw [<- hnil he.symm];exact h2)⟩
     ·rcases VT st.size with h1|h1
      ·exact ⟨h1,hnul.2 (by rw [<- hnil h1];exact h2)⟩
      ·exact absurd (by rw [hall];exact h2) (he st.size h1 (UW _))
   ·rw [hp e];constructor
    ·rintro ⟨h1,h2⟩;exact ⟨h0,by rw [h1,hall] at h2;exact h2⟩
    ·rintro ⟨_,h2⟩;rcases hend with he|he
     ·exact ⟨he,by rw [he,hall];exact h2⟩
     ·by_cases h1:n=st.size
      ·exact ⟨h1,by rw [h1,hall];exact h2⟩
      ·exact absurd (by rw [hall];exact h2) (he st.size (by omega) (UW _))
 have hemp:(st.toList==(ByteArray.mk #[]).toList)=decide (st.size=0):=by
  rw [Fd];rw [U3,decide_eq_true_eq,decide_eq_true_eq,<- fU st];constructor
  ·intro h;rw [h];rfl
  ·intro h;exact V1.1 h
 dsimp only;rw [hemp];refine ⟨λhe=> ?_,λhe=> ?_⟩
 ·have he:=of_decide_eq_true he;obtain ⟨s',bf,qm,_,_⟩:=(hM.le h.le).ex;refine ⟨_,rfl,(bT l).nul,by rw [cw,am qm];rfl,?_⟩;refine h.new _ _ λb6 F4 h=> ?_;refine Lo.put1 [] [(b3,#[.string st],9)] (b:=b6) (i:=0) (w0:= #[.bool false]) (w:= #[.bool (bT l).nul]) (e:=4) h (by simp) rfl λF5 h=> ?_;exact j1 b6 _ F5 h ⟨λh=>⟨he,h⟩,λh=>h.2⟩
 ·have he:=of_decide_eq_false he;refine h.new _ _ λb6 F4 h=> ?_;refine Lo.put1 [] [(b3,#[.string st],9)] (b:=b6) (i:=0) (w0:= #[.bool false]) (w:= #[.bool false]) (e:=4) h (by simp) rfl λF5 h=> ?_;exact j1 b6 _ F5 h ⟨λh=>(by cases h),λh=>absurd h.1 he⟩
end
end Go.Proofs.YtcemhghkipgdiaaGreatDoor
namespace Go.Proofs.YtcemhghkipgdiaaGreatDoor
open Go Go.Proofs.Tryz Tr
set_option maxRecDepth 10000
theorem Fe (d:Nat) (a b:Int) (F:PH):rdo prog (Op.equalIn (d+1) 3 (vi a) (vi b)) F (decide (a=b)):=by simp only [Op.equalIn,aj];refine ⟨_,(az underlying3 _).2 rfl,?_⟩;simp only [if_true,cG];by_cases h:a=b<;>simp [h]
theorem ra (cs:Γ) (off:Nat) (v:Value) (h:cs[off]? =some v) (F:PH):rdo prog (part 3 cs off) F v:=by unfold part;simp only [aj];refine ⟨false,(dH underlying3 _).2 rfl,?_⟩;simp only [Vu,if_false,h];rfl
theorem Bv (e:Bool) (n:Nat) (a:Int) (F:PH):rdo prog (Instr.checkKey e (n+1) 3 (vi a)) F ():=by simp only [Instr.checkKey,aj];refine ⟨_,(az underlying3 _).2 rfl,?_⟩;rfl
theorem Tx:prog.stoodInHeld 124=false:=by kernel_rfl
abbrev LS:=ForInStep (Option Bool×Unit)
theorem dQ (n:Nat) (off:Nat) (cs ds:Γ) (x y:Int) (h1:cs[off]? =some (vi x)) (h2:ds[off]? =some (vi y)) (F:PH):
  rdo prog (do
   let a <- part 3 cs off
   let b <- part 3 ds off
   let r <- Op.equalIn (n+1) 3 a b
   if (!r)=true then pure (ForInStep.done (some false,())) else pure (ForInStep.yield (none,())):Sem LS) F (if x=y then .yield (none,()) else .done (some false,())):=by
 simp only [aj];refine ⟨_,ra _ _ _ h1 F,_,ra _ _ _ h2 F,_,Fe n x y F,?_⟩;by_cases h:x=y
 ·simp [h]
 ·simp [h]
theorem Ff (x y:Br) (F:PH):rdo prog (Op.equal 124 (.agg (aV x)) (.agg (aV y))) F (decide (x=y)):=by
 unfold Op.equal Op.maxDepth;show rdo prog (Op.equalIn (9998+1+1) 124 _ _) _ _;unfold Op.equalIn;simp only [aj];refine ⟨_,(az underlying124 _).2 rfl,?_⟩;dsimp only;rw [aj];refine ⟨prog,rfl,?_⟩;rw [Tx];simp only [Vu,if_false];simp only [List.forIn_toArray,Ww,List.forIn_nil,aj];obtain ⟨a,b,c⟩:=x;obtain ⟨d,e,f⟩:=y;rw [if_pos (by decide),if_pos (by decide),if_pos (by decide)];by_cases h1:a=d
 ·by_cases h2:b=e
  ·by_cases h3:c=f
   ·refine ⟨(none,()),⟨_,dQ 9998 0 _ _ a d rfl rfl F,?_⟩,?_⟩
    ·rw [if_pos h1];refine (aj _ _ _ _).2 ⟨_,dQ 9998 1 _ _ b e rfl rfl F,?_⟩;rw [if_pos h2];refine (aj _ _ _ _).2 ⟨_,dQ 9998 2 _ _ c f rfl rfl F,?_⟩;rw [if_pos h3];rfl
    ·simp [h1,h2,h3]
   ·refine ⟨(some false,()),⟨_,dQ 9998 0 _ _ a d rfl rfl F,?_⟩,?_⟩
    ·rw [if_pos h1];refine (aj _ _ _ _).2 ⟨_,dQ 9998 1 _ _ b e rfl rfl F,?_⟩;rw [if_pos h2];refine (aj _ _ _ _).2 ⟨_,dQ 9998 2 _ _ c f rfl rfl F,?_⟩;rw [if_neg h3];rfl
    ·simp [h3]
  ·refine ⟨(some false,()),⟨_,dQ 9998 0 _ _ a d rfl rfl F,?_⟩,?_⟩
   ·rw [if_pos h1];refine (aj _ _ _ _).2 ⟨_,dQ 9998 1 _ _ b e rfl rfl F,?_⟩;rw [if_neg h2];rfl
   ·simp [h2]
 ·refine ⟨(some false,()),⟨_,dQ 9998 0 _ _ a d rfl rfl F,?_⟩,?_⟩
  ·rw [if_neg h1];rfl
  ·simp [h1]
theorem lR (e:Bool) (n:Nat) (off:Nat) (cs:Γ) (x:Int) (h1:cs[off]? =some (vi x)) (F:PH):
  rdo prog (do
   let a <- part 3 cs off
   Instr.checkKey e (n+1) 3 a
   pure (ForInStep.yield PUnit.unit):Sem (ForInStep PUnit)) F (.yield PUnit.unit):=by
 simp only [aj];exact ⟨_,ra _ _ _ h1 F,_,Bv e n x F,rfl⟩
theorem PN (e:Bool) (x:Br) (F:PH):rdo prog (Instr.checkKey e 10000 124 (.agg (aV x))) F ():=by show rdo prog (Instr.checkKey e (9998+1+1) 124 _) _ _;unfold Instr.checkKey;simp only [aj];refine ⟨_,(az underlying124 _).2 rfl,?_⟩;dsimp only;simp only [List.forIn_toArray,Ww,List.forIn_nil];rw [if_pos (by decide),if_pos (by decide),if_pos (by decide)];refine (aj _ _ _ _).2 ⟨PUnit.unit,(aj _ _ _ _).2 ⟨_,lR e 9998 0 _ _ rfl F,(aj _ _ _ _).2 ⟨_,lR e 9998 1 _ _ rfl F,(aj _ _ _ _).2 ⟨_,lR e 9998 2 _ _ rfl F,rfl⟩⟩⟩,rfl⟩
theorem cH (n:Nat) (i sz:Nat) (hz:sz=1) (cs ds:Γ) (x y:Int) (h1:cs[i]? =some (vi x)) (h2:ds[i]? =some (vi y)) (F:PH):
  rdo prog (do
   let a <- part 3 cs (i*sz)
   let b <- part 3 ds (i*sz)
   let r <- Op.equalIn (n+1) 3 a b
   if (!r)=true then pure (ForInStep.done (some false,())) else pure (ForInStep.yield (none,())):Sem LS) F (if x=y then .yield (none,()) else .done (some false,())):=by
 subst hz;rw [Vs];exact dQ n i cs ds x y h1 h2 F
theorem lS (e:Bool) (n:Nat) (i:Nat) (cs:Γ) (x:Int) (h1:cs[i]? =some (vi x)) (F:PH):
  rdo prog (do
   let s <- sizeOf 3
   let a <- part 3 cs (i*s)
   Instr.checkKey e (n+1) 3 a
   pure (ForInStep.yield PUnit.unit):Sem (ForInStep PUnit)) F (.yield PUnit.unit):=by
 refine (aj _ _ _ _).2 ⟨1,(bB sz3 _).2 rfl,?_⟩;rw [Vs];exact lR e n i cs x h1 F
abbrev dR (x:Int×Int×Int):Γ:= #[vi x.1,vi x.2.1,vi x.2.2]
abbrev vn (x:Int×Int):Γ:= #[vi x.1,vi x.2]
theorem eq3 (x y:Int×Int×Int) (F:PH):rdo prog (Op.equal 215 (.agg (dR x)) (.agg (dR y))) F (decide (x=y)):=by
 unfold Op.equal Op.maxDepth;show rdo prog (Op.equalIn (9998+1+1) 215 _ _) _ _;unfold Op.equalIn;simp only [aj];refine ⟨_,(az underlying215 _).2 rfl,?_⟩;dsimp only;refine (aj _ _ _ _).2 ⟨1,(bB sz3 _).2 rfl,?_⟩;rw [Std.Legacy.Range.forIn_eq_forIn_range'];simp only [Std.Legacy.Range.size,We,WG,Nat.div_one,List.range',Ww,List.forIn_nil,Vd,Nat.reduceAdd];obtain ⟨a,b,c⟩:=x;obtain ⟨d,e,f⟩:=y;by_cases h0:a=d
 ·skip
  by_cases h1:b=e
  ·skip
   by_cases h2:c=f
   ·skip
    refine (aj _ _ _ _).2 ⟨(none,()),(aj _ _ _ _).2 ⟨_,cH 9998 0 1 rfl _ _ a d rfl rfl F,?_⟩,?_⟩
    ·skip
     rw [if_pos h0];refine (aj _ _ _ _).2 ⟨_,cH 9998 1 1 rfl _ _ b e rfl rfl F,?_⟩;rw [if_pos h1];refine (aj _ _ _ _).2 ⟨_,cH 9998 2 1 rfl _ _ c f rfl rfl F,?_⟩;rw [if_pos h2];rfl
    ·simp [h0,h1,h2]
   ·skip
    refine (aj _ _ _ _).2 ⟨(some false,()),(aj _ _ _ _).2 ⟨_,cH 9998 0 1 rfl _ _ a d rfl rfl F,?_⟩,?_⟩
    ·skip
     rw [if_pos h0];refine (aj _ _ _ _).2 ⟨_,cH 9998 1 1 rfl _ _ b e rfl rfl F,?_⟩;rw [if_pos h1];refine (aj _ _ _ _).2 ⟨_,cH 9998 2 1 rfl _ _ c f rfl rfl F,?_⟩;rw [if_neg h2];rfl
    ·simp [h0,h1,h2]
  ·skip
   refine (aj _ _ _ _).2 ⟨(some false,()),(aj _ _ _ _).2 ⟨_,cH 9998 0 1 rfl _ _ a d rfl rfl F,?_⟩,?_⟩
   ·skip
    rw [if_pos h0];refine (aj _ _ _ _).2 ⟨_,cH 9998 1 1 rfl _ _ b e rfl rfl F,?_⟩;rw [if_neg h1];rfl
   ·simp [h0,h1]
 ·skip
  refine (aj _ _ _ _).2 ⟨(some false,()),(aj _ _ _ _).2 ⟨_,cH 9998 0 1 rfl _ _ a d rfl rfl F,?_⟩,?_⟩
  ·skip
   rw [if_neg h0];rfl
  ·simp [h0]
theorem Ty (e:Bool) (x:Int×Int×Int) (F:PH):rdo prog (Instr.checkKey e 10000 215 (.agg (dR x))) F ():=by show rdo prog (Instr.checkKey e (9998+1+1) 215 _) _ _;unfold Instr.checkKey;simp only [aj];refine ⟨_,(az underlying215 _).2 rfl,?_⟩;dsimp only;rw [Std.Legacy.Range.forIn_eq_forIn_range'];simp only [Std.Legacy.Range.size,We,WG,Nat.div_one,List.range',Ww,List.forIn_nil,Vd,Nat.reduceAdd];refine (aj _ _ _ _).2 ⟨PUnit.unit,(aj _ _ _ _).2 ⟨_,lS e 9998 0 _ _ rfl F,(aj _ _ _ _).2 ⟨_,lS e 9998 1 _ _ rfl F,(aj _ _ _ _).2 ⟨_,lS e 9998 2 _ _ rfl F,rfl⟩⟩⟩,rfl⟩
theorem eq2 (x y:Int×Int) (F:PH):rdo prog (Op.equal 115 (.agg (vn x)) (.agg (vn y))) F (decide (x=y)):=by
 unfold Op.equal Op.maxDepth;show rdo prog (Op.equalIn (9998+1+1) 115 _ _) _ _;unfold Op.equalIn;simp only [aj];refine ⟨_,(az underlying115 _).2 rfl,?_⟩;dsimp only;refine (aj _ _ _ _).2 ⟨1,(bB sz3 _).2 rfl,?_⟩;rw [Std.Legacy.Range.forIn_eq_forIn_range'];simp only [Std.Legacy.Range.size,We,WG,Nat.div_one,List.range',Ww,List.forIn_nil,Vd,Nat.reduceAdd];obtain ⟨a,b⟩:=x;obtain ⟨d,e⟩:=y;by_cases h0:a=d
 ·skip
  by_cases h1:b=e
  ·skip
   refine (aj _ _ _ _).2 ⟨(none,()),(aj _ _ _ _).2 ⟨_,cH 9998 0 1 rfl _ _ a d rfl rfl F,?_⟩,?_⟩
   ·skip
    rw [if_pos h0];refine (aj _ _ _ _).2 ⟨_,cH 9998 1 1 rfl _ _ b e rfl rfl F,?_⟩;rw [if_pos h1];rfl
   ·simp [h0,h1]
  ·skip
   refine (aj _ _ _ _).2 ⟨(some false,()),(aj _ _ _ _).2 ⟨_,cH 9998 0 1 rfl _ _ a d rfl rfl F,?_⟩,?_⟩
   ·skip
    rw [if_pos h0];refine (aj _ _ _ _).2 ⟨_,cH 9998 1 1 rfl _ _ b e rfl rfl F,?_⟩;rw [if_neg h1];rfl
   ·simp [h0,h1]
 ·skip
  refine (aj _ _ _ _).2 ⟨(some false,()),(aj _ _ _ _).2 ⟨_,cH 9998 0 1 rfl _ _ a d rfl rfl F,?_⟩,?_⟩
  ·skip
   rw [if_neg h0];rfl
  ·simp [h0]
theorem Tz (e:Bool) (x:Int×Int) (F:PH):rdo prog (Instr.checkKey e 10000 115 (.agg (vn x))) F ():=by show rdo prog (Instr.checkKey e (9998+1+1) 115 _) _ _;unfold Instr.checkKey;simp only [aj];refine ⟨_,(az underlying115 _).2 rfl,?_⟩;dsimp only;rw [Std.Legacy.Range.forIn_eq_forIn_range'];simp only [Std.Legacy.Range.size,We,WG,Nat.div_one,List.range',Ww,List.forIn_nil,Vd,Nat.reduceAdd];refine (aj _ _ _ _).2 ⟨PUnit.unit,(aj _ _ _ _).2 ⟨_,lS e 9998 0 _ _ rfl F,(aj _ _ _ _).2 ⟨_,lS e 9998 1 _ _ rfl F,rfl⟩⟩,rfl⟩
abbrev za (x:Br):Value:=.agg (aV x)
abbrev aM (x:Int):Value:=vi x
theorem IC:ou prog 3 aM:=by
 refine ⟨λF a b=> ?_,λF e a=> ?_,λa=> ?_,_,underlying3,.inl λa b=> ?_⟩
 ·unfold Op.equal Op.maxDepth;exact Fe 9999 a b F
 ·exact Bv e 9999 a F
 ·unfold Instr.sameBits;simp
 ·unfold Instr.sameNow;simp only [if_true];by_cases h:a=b<;>simp [h]
theorem PO:ou prog 124 za:=by
 refine ⟨λF a b=>Ff a b F,λF e a=>PN e a F,λa=> ?_,_,underlying124,.inr λa b=> ?_⟩
 ·show Instr.sameBits (9998+1+1) _ _=true;simp [Instr.sameBits]
 ·rfl
abbrev ID (x:Int×Int×Int):Value:=.agg (dR x)
theorem TA:ou prog 215 ID:=by
 refine ⟨λF a b=>eq3 a b F,λF e a=>Ty e a F,λa=> ?_,_,underlying215,.inr λa b=> ?_⟩
 ·show Instr.sameBits (9998+1+1) _ _=true;simp [Instr.sameBits]
 ·rfl
abbrev bU (x:Int×Int):Value:=.agg (vn x)
theorem TB:ou prog 115 bU:=by
 refine ⟨λF a b=>eq2 a b F,λF e a=>Tz e a F,λa=> ?_,_,underlying115,.inr λa b=> ?_⟩
 ·show Instr.sameBits (9998+1+1) _ _=true;simp [Instr.sameBits]
 ·rfl
theorem TC:bP prog 4=some (.bool false):=by kernel_rfl
theorem mtN:fY prog 238 aM (vi 0):=⟨_,_,underlying238,zr3,IC⟩
theorem mtB:fY prog 197 za (vi 0):=⟨_,_,underlying197,zr3,PO⟩
theorem mtK:fY prog 195 za (.bool false):=⟨_,_,underlying195,TC,PO⟩
theorem mt3:fY prog 213 ID (vi 0):=⟨_,_,underlying213,zr3,TA⟩
theorem zc {F:PH} {a b:Sl} {x y:List Br} (ha:RdS F a 3 (aY x)) (hb:RdS F b 3 (aY y)) (hl:Fit x.length):
  ai prog 79 #[a.v,b.v] F λv F'=>v=.bool (decide (x=y))/\F'=F:=by
 have hal:=ha.blen;have hbl:=hb.blen;refine Tw ?_;unfold Pm;refine ⟨λh=> ?_,λh=> ?_⟩
 ·refine ⟨?_,rfl⟩;have:¬x=y:=by intro e;subst e;omega
  simp [this]
 ·have hlen:x.length=y.length:=by omega
  refine ⟨λm i F'=>∃k:Nat,i=k/\k<=x.length/\m=x.length - k/\F'=F/\x.take k=y.take k,x.length,⟨0,rfl,by omega,rfl,rfl,rfl⟩,?_⟩;rintro m i F' ⟨k,rfl,hk,rfl,rfl,htake⟩;unfold Fc;refine ⟨λhlt=> ?_,λhge=> ?_⟩
  ·have hkx:k<x.length:=by omega
   have hky:k<y.length:=by omega
   obtain ⟨p,hp,hpr,_⟩:=rdb ha (N5 hkx);obtain ⟨q,hq,hqr,_⟩:=rdb hb (N5 hky);refine ⟨p,hp,by omega,hlt,aV x[k],rfl,by simpa using hpr,q,hq,by omega,by omega,aV y[k],rfl,by simpa using hqr,decide (x[k]=y[k]),λF=>Ff x[k] y[k] F,λhne=> ?_,λheq=> ?_⟩
   ·refine ⟨?_,rfl⟩;have:¬x=y:=by rintro rfl;simp at hne
    simp [this]
   ·refine ⟨x.length - (k+1),by omega,k+1,i6 (by omega),by omega,rfl,rfl,?_⟩;rw [Vh hkx,Vh hky,htake];simp at heq;rw [heq]
  ·refine ⟨?_,rfl⟩;have hk':k=x.length:=by omega
   rw [hk',U7,hlen,U7] at htake;simp [htake]
theorem jQ {F:PH} {v w:Γ} {d e:Dia} (hd:DV F v d) (he:DV F w e) (hl:Fit d.1.length):
  ai prog 31 #[.agg v,.agg w] F λr F'=>r=.bool (decide (d=e))/\F.le F':=by
 obtain ⟨s,rfl,hr⟩:=hd;obtain ⟨t,rfl,ht⟩:=he;refine Tn ?_;unfold OV;intro b2 hb2;refine atI ?_;have hle2:=ae (.cells #[s.v,vi d.2] 31) hb2;intro b3 hb3;refine atI ?_;have hle3:=ae (.cells #[t.v,vi e.2] 31) hb3;have hle:F.le _:=λb o h=>hle3 b o (hle2 b o h);have hc2:=hle3 _ _ (al F b2 (.cells #[s.v,vi d.2] 31));have hc3:=al (F.set b2 (.cells #[s.v,vi d.2] 31)) b3 (.cells #[t.v,vi e.2] 31);generalize (F.set b2 (.cells #[s.v,vi d.2] 31)).set b3 (.cells #[t.v,vi e.2] 31)=G at*;refine ⟨_,by rw [am hc2];rfl,_,by rw [am hc3];rfl,λh=> ?_,λh=> ?_⟩
 ·refine ⟨s,by rw [am hc2];rfl,t,by rw [am hc3];rfl,?_⟩;refine (zc (hr.le hle) (ht.le hle) hl).mono ?_;rintro _ F' ⟨rfl,rfl⟩;refine ⟨_,rfl,?_,hle⟩;obtain ⟨d1,d2⟩:=d;obtain ⟨e1,e2⟩:=e;simp only at h;simp [h]
 ·refine ⟨?_,hle⟩;have:¬d=e:=by rintro rfl;exact h rfl
  simp [this]
def mpS (S:List Tr) (x:Br):Option Value:=if x∈brs S then some (vi (((brs S).idxOf x+2:Nat):Int)) else none
structure BD (F0 F:PH) (b m:Nat) (S:List Tr):Prop where
 le:F0.le F
 cl:Cl S
 nb:F0 b=none
 nm:F0 m=none
 ex:∃s:Sl,F b=some (.cells #[s.v,.map (some m)] 199)/\cf F 124 3 s (aY (brs S))/\∀a,s.base=some a->F0 a.block=none
 map:∃o,F m=some o/\eH za (mpS S) o
theorem cf.elem {F:PH} {e size:Nat} {s:Sl} {vs:Ξ} (h:cf F e size s vs) {a:Addr} (ha:s.base=some a):∃cur,F a.block=some (.cells cur e (0,0)):=by
 rcases h with ⟨rfl,rfl⟩|⟨b,cur,h1,h2,_⟩
 ·cases ha
 ·rw [h1] at ha;cases ha;exact ⟨cur,h2⟩
theorem iS (F:PH):ai prog 172 #[] F λr F'=>∃b m,r=.pointer (some ⟨b,0,none⟩)/\b≠m/\BD F F' b m []:=by
 refine Pb ?_;unfold Ke;intro b1 hb1;refine atI ?_;intro b3 hb3;refine atI ?_;have hle1:=ae (.map #[] 0) hb1;have hle3:=ae (.cells #[Value.slice none 0 0,Value.map (some b1)] 199) hb3;have hne:b3≠b1:=λe=>by rw [e,al] at hb3;cases hb3
 refine ⟨b3,b1,rfl,hne,λb o h=>hle3 b o (hle1 b o h),.nil,aT hle1 hb3,hb1,⟨Sl.nil,al _ _ _,.inl ⟨rfl,rfl⟩,λa ha=>by cases ha⟩,_,hle3 _ _ (al _ _ _),?_⟩;have:mpS []=λ_=>none:=by funext x;simp [mpS,brs]
 rw [this];exact eH.empty za
instance (S:List Tr) (t:Tr):Decidable (inn S t):=inferInstanceAs (Decidable (t.isL=true\/t∈S))
def dv (S:List Tr) (t:Tr):List Tr:=if inn S t then S else S++[t]
theorem lT {S:List Tr} (hS:Cl S) {v:Nat} {l h:Tr} (hk:v<64/\v<l.top/\v<h.top/\l.ok/\h.ok):dv (vis h (vis l S)) (mk v l h)=vis (mk v l h) S:=by
 obtain ⟨h0,h1,h2,h3,h4⟩:=hk;obtain ⟨a1,a2,X,a3,a4⟩:=bo l S h3 hS;obtain ⟨b1,b2,Y,b3,b4⟩:=bo h (vis l S) h4 a1;unfold mk;split
 ·rename_i e;subst e;rw [gn a2];unfold dv;rw [if_pos a2]
 ·rename_i e
  conv=>rhs;unfold vis
  unfold dv;by_cases hm:node v l h∈S
  ·have hl:=(hS.inn_kids (.inr hm)).1;have hh:=(hS.inn_kids (.inr hm)).2;rw [if_pos hm,gn hl,gn hh,if_pos (.inr hm)]
  ·rw [if_neg hm,if_neg];rintro (hc|hc)
   ·cases hc
   ·rw [b3,a3] at hc;rcases UX.1 hc with hc|hc
    ·rcases UX.1 hc with hc|hc
     ·exact hm hc
     ·have:=a4 _ hc;simp only [sz] at this;omega
    ·have:=b4 _ hc;simp only [sz] at this;omega
theorem ua {α β:Type} [DecidableEq α] [DecidableEq β] (f:α->β) (x:α):∀(l:List α),x∈l->(∀y∈l,f y=f x->y=x)->(l.map f).idxOf (f x)=l.idxOf x
 |[],h,_=>by cases h
 |a::l,h,hi=>by
  simp only [Vi,List.idxOf_cons];by_cases ha:a=x
  ·subst ha;simp
  ·have h1:¬f a=f x:=λe=>ha (hi a (by simp) e);have h2:(a==x)=false:=by simpa using ha
   have h3:(f a==f x)=false:=by simpa using h1
   rw [h2,h3];simp only [cond_false];rw [ua f x l (by simpa [Ne.symm ha] using h) (λy hy=>hi y (by simp [hy]))]
theorem iC {S:List Tr} (hS:Cl S) {v:Nat} {l h:Tr} (hl:inn S l) (hh:inn S h):br S (node v l h)∈brs S↔node v l h∈S:=by
 constructor
 ·intro hm;obtain ⟨u,hu,he⟩:=U8.1 hm;obtain ⟨_,v',l',h',rfl,hl',hh'⟩:=hS.mem u hu;simp only [br,Br.mk.injEq] at he;obtain ⟨e1,e2,e3⟩:=he;rw [<- cJ hl' hl (by omega),<- cJ hh' hh (by omega),<- show v'=v by omega];exact hu
 ·intro hm;exact WH hm
theorem C4 {S:List Tr} (hS:Cl S) {v:Nat} {l h:Tr} (hm:node v l h∈S):(brs S).idxOf (br S (node v l h))+2=num S (node v l h):=by unfold brs;rw [ua _ _ _ hm (λy hy e=>EF hS hy hm e)];rfl
theorem Fh {S:List Tr} (hS:Cl S) {v:Nat} {l h:Tr} (hl:inn S l) (hh:inn S h) (hn:node v l h ∉ S):
  mpS (S++[node v l h])=λx=>if x=br S (node v l h) then some (vi (((S.length+2:Nat):Int))) else mpS S x:=by
 have hb:br S (node v l h) ∉ brs S:=λhm=>hn ((iC hS hl hh).1 hm);have hbr:br S (node v l h)=⟨(v:Int),(num S l:Int),(num S h:Int)⟩:=rfl;funext x;unfold mpS;rw [eN hS hl hh,<- hbr];by_cases hx:x=br S (node v l h)
 ·subst hx;rw [if_pos rfl,if_pos (by simp),List.idxOf_append,if_neg hb];simp [aO]
 ·rw [if_neg hx];by_cases hm:x∈brs S
  ·rw [if_pos hm,if_pos (by simp [hm]),List.idxOf_append,if_pos hm]
  ·rw [if_neg hm,if_neg (by simp [hm,hx])]
section
variable {F0 F:PH} {b m:Nat} {S:List Tr}
theorem oA (hd:BD F0 F b m S) {v:Nat} {l h:Tr} (hl:inn S l) (hh:inn S h) (hv:v<64/\v<l.top/\v<h.top) (hf:Fit (S.length+2)):
  ai prog 174 #[.pointer (some ⟨b,0,none⟩),vi v,vi (num S l),vi (num S h)] F λr F'=>r=vi (num (dv S (mk v l h)) (mk v l h))/\BD F0 F' b m (dv S (mk v l h)):=by
 have hd':=hd;obtain ⟨hle,hS,hb0,hm0,⟨s,hb,ho,hs0⟩,ob,hm,hmp⟩:=hd;refine Pd ?_;unfold Kg;refine ⟨λhe=> ?_,λhe=> ?_⟩
 ·obtain rfl:=cJ hl hh (by omega);have e:mk v l l=l:=by simp [mk]
  rw [e];have e2:dv S l=S:=by unfold dv;rw [if_pos hl]
  rw [e2];exact ⟨rfl,hd'⟩
 have hlh:l≠h:=λe=>he (by rw [e]);have emk:mk v l h=node v l h:=by simp [mk,hlh]
 have hok:(node v l h).ok:=⟨hv.1,hv.2.1,hv.2.2,hlh,hS.inn_ok hl,hS.inn_ok hh⟩;rw [emk];intro b9 hb9;refine atI ?_;refine stW (al _ _ _) rfl rfl (iA ⟨v,num S l,num S h⟩) ?_;rw [bh];have hle9:=ae (.cells (aV ⟨v,num S l,num S h⟩) 124) hb9;have h9:=al F b9 (.cells (aV ⟨v,num S l,num S h⟩) 124);have hbr:br S (node v l h)=⟨(v:Int),(num S l:Int),(num S h:Int)⟩:=rfl;rw [<- hbr] at h9 hle9;show ∃b0a_:Addr,_;rw [show (#[vi v,vi (num S l),vi (num S h)]:Γ)=aV (br S (node v l h)) from rfl];replace hb:=hle9 _ _ hb;replace hm:=hle9 _ _ hm;have hle1:F0.le (F.set b9 (.cells (aV (br S (node v l h))) 124)):=λx o hx=>hle9 x o (hle x o hx);have ne9:∀a,s.base=some a->a.block≠b9:=λa ha e=>by obtain ⟨cur,hcur⟩:=ho.elem ha;rw [e,hb9] at hcur;cases hcur
 have hbase:∀a,s.base=some a->(∃cur,(F.set b9 (.cells (aV (br S (node v l h))) 124)) a.block=some (.cells cur 124 (0,0))):=λa ha=>by obtain ⟨cur,hcur⟩:=ho.elem ha;exact ⟨cur,hle9 _ _ hcur⟩
 replace ho:cf (F.set b9 (.cells (aV (br S (node v l h))) 124)) 124 3 s (aY (brs S)):=ho.keep λa ha=>by obtain ⟨cur,hcur⟩:=ho.elem ha;rw [hcur,hle9 _ _ hcur]
 generalize F.set b9 (.cells (aV (br S (node v l h))) 124)=F1 at*;refine ⟨_,rfl,some m,by simp only [aB];rw [am hb];rfl,aV (br S (node v l h)),rfl,ac h9,?_⟩;have hlk:=bL (F:=F1) mtB hm hmp (br S (node v l h)) true;by_cases hmem:node v l h∈S
 ·have hx:=(iC hS hl hh).2 hmem;have e1:mpS S (br S (node v l h))=some (vi (num S (node v l h))):=by unfold mpS;rw [if_pos hx,C4 hS hmem]
  rw [e1] at hlk;refine ⟨_,_,hlk,λhc=>(by cases hc),λ_=> ?_⟩;have e2:dv S (node v l h)=S:=by unfold dv;rw [if_pos (.inr hmem)]
  rw [e2];exact ⟨rfl,hle1,hS,hb0,hm0,⟨s,hb,ho,hs0⟩,ob,hm,hmp⟩
 ·have hx:br S (node v l h) ∉ brs S:=λhx=>hmem ((iC hS hl hh).1 hx);have e1:mpS S (br S (node v l h))=none:=by unfold mpS;rw [if_neg hx]
  rw [e1] at hlk;have e2:dv S (node v l h)=S++[node v l h]:=by
   unfold dv;rw [if_neg];rintro (hc|hc)
   ·cases hc
   ·exact hmem hc
  rw [e2];have hS':Cl (S++[node v l h]):=.snoc hS hl hh hok hmem;refine ⟨_,_,hlk,λ_=> ?_,λhc=>(by cases hc)⟩;refine ⟨s,by rw [am hb];rfl,aV (br S (node v l h)),rfl,ac h9,rfl,λb37 hb37=> ?_⟩;refine atI ?_;have hle37:=ae (.cells (aV (br S (node v l h))) 124) hb37;have h37:=al F1 b37 (.cells (aV (br S (node v l h))) 124);replace hb:=hle37 _ _ hb;replace hm:=hle37 _ _ hm;replace h9:=hle37 _ _ h9;have hle2:F0.le (F1.set b37 (.cells (aV (br S (node v l h))) 124)):=λx o hx=>hle37 x o (hle1 x o hx);replace ho:cf (F1.set b37 (.cells (aV (br S (node v l h))) 124)) 124 3 s (aY (brs S)):=ho.keep λa ha=>by obtain ⟨cur,hcur⟩:=hbase a ha;rw [hcur,hle37 _ _ hcur]
  generalize F1.set b37 (.cells (aV (br S (node v l h))) 124)=F2 at*;have hlen:=ho.rd.blen;rw [aO] at hlen;refine lK underlying29 xy xz rfl (by decide) hle2 ho hs0 (x:=⟨some ⟨b37,0,none⟩,1,1⟩) (news:=dn (br S (node v l h))) (RdS.new h37 rfl rfl (UW _)) (λx hx=>gV [br S (node v l h)] x (by simpa [aY] using hx)) (by simp only [hlen];omega) (by simp only [hlen];omega) ?_;intro s' F3 hle3 ho3 hlen3 hs3 hk3 hfr3;have neB:∀a,s.base=some a->a.block≠b:=λa ha e=>by obtain ⟨cur,hcur⟩:=ho.elem ha;rw [e,hb] at hcur;cases hcur
  have neM:∀a,s.base=some a->a.block≠m:=λa ha e=>by obtain ⟨cur,hcur⟩:=ho.elem ha;obtain ⟨es,c,L,rfl,_⟩:=hmp;rw [e,hm] at hcur;cases hcur
  replace hb:=hk3 _ _ hb (λ⟨a,ha,e⟩=>neB a ha e);replace hm:=hk3 _ _ hm (λ⟨a,ha,e⟩=>neM a ha e);replace h9:=hk3 _ _ h9 (λ⟨a,ha,e⟩=>ne9 a ha e);refine ⟨s',rfl,?_⟩;refine st1 hb (by simp) ?_;have hbm:b≠m:=λe=>by obtain ⟨es,c,L,rfl,_⟩:=hmp;rw [e,hm] at hb;cases hb
  have h9b:b9≠b:=λe=>by rw [e,hb] at h9;cases h9
  have hsb:∀a,s'.base=some a->a.block≠b/\a.block≠m:=λa ha=>by
   obtain ⟨cur,hcur⟩:=ho3.elem ha;refine ⟨λe=> ?_,λe=> ?_⟩
   ·rw [e,hb] at hcur;cases hcur
   ·obtain ⟨es,c,L,rfl,_⟩:=hmp;rw [e,hm] at hcur;cases hcur
  have hle4:F0.le (F3.set b (.cells (#[s'.v,Value.map (some m)]:Γ) 199)):=aw hle3 hb0;have hb4:=al F3 b (.cells (#[s'.v,Value.map (some m)]:Γ) 199);have hm4:(F3.set b (.cells (#[s'.v,Value.map (some m)]:Γ) 199)) m=some ob:=by rw [av _ _ hbm.symm];exact hm
  have h94:(F3.set b (.cells (#[s'.v,Value.map (some m)]:Γ) 199)) b9=some (.cells (aV (br S (node v l h))) 124):=by rw [av _ _ h9b];exact h9
  have ho4:cf (F3.set b (.cells (#[s'.v,Value.map (some m)]:Γ) 199)) 124 3 s' (aY (brs S)++dn (br S (node v l h))):=ho3.keep λa ha=>av _ _ (hsb a ha).1;rw [show (#[s.v,Value.map (some m)].setIfInBounds 0 s'.v:Γ)= #[s'.v,Value.map (some m)] from rfl];generalize F3.set b (.cells (#[s'.v,Value.map (some m)]:Γ) 199)=F4 at*;have hlen4:s'.len=S.length+1:=by rw [hlen3,hlen]
  refine ⟨s',by rw [am hb4];rfl,some m,by simp only [aB];rw [am hb4];rfl,aV (br S (node v l h)),rfl,ac h94,?_⟩;refine aX mtB hm4 hmp (br S (node v l h)) _ λo' ho'=> ?_;have hw:IntKind.i64.wrap ((s'.len:Int)+1)=((S.length+2:Nat):Int):=by rw [hlen4,aS (by omega) (by omega)];omega
  rw [hw] at ho' ⊢;refine ⟨?_,aw hle4 hm0,hS',hb0,hm0,⟨s',by rw [av _ _ hbm];exact hb4,?_,hs3⟩,o',al _ _ _,by rw [Fh hS hl hh hmem];exact ho'⟩
  ·have hl2:=d8 hS' (k:=S.length) (t:=node v l h) (by simp);rw [hl2]
  ·have e3:aY (brs (S++[node v l h]))=aY (brs S)++dn (br S (node v l h)):=by rw [eN hS hl hh,<- hbr,eP];simp [aY]
   rw [e3];exact ho4.keep λa ha=>av _ _ (hsb a ha).2
end
theorem cY {α:Type} [DecidableEq α]:∀(l m:List α),l.Nodup->(∀x∈l,x∈m)->l.length<=m.length
 |[],_,_,_=>Nat.zero_le _
 |a::l,m,hn,hs=>by rw [VM] at hn;have ha:=hs a (by simp);have h:=cY l (m.erase a) hn.2 (λx hx=>(List.mem_erase_of_ne (by rintro rfl;exact hn.1 hx)).2 (hs x (by simp [hx])));rw [List.length_erase_of_mem ha] at h;have:=List.length_pos_of_mem ha;simp only [Vf];omega
theorem Fj:aE prog 190=true:=by kernel_rfl
def nmS (S0 S:List Tr) (n:Int):Option Value:=
 if 0<=n/\n<=(S0.length:Int)+1/\inn S (tr S0 n.toNat) then some (vi (num S (tr S0 n.toNat):Int)) else none
theorem pD {S0 S:List Tr} (h0:Cl S0) {t:Tr} (ht:inn S0 t) (hi:inn S t):nmS S0 S (num S0 t)=some (vi (num S t)):=by have h1:=dt ht;unfold nmS;rw [N4,gE h0 ht,if_pos ⟨by omega,by omega,hi⟩]
theorem Fl {S0 S:List Tr} (h0:Cl S0) {t:Tr} (ht:inn S0 t) (hi:¬inn S t):nmS S0 S (num S0 t)=none:=by unfold nmS;rw [N4,gE h0 ht,if_neg (λh=>hi h.2.2)]
theorem Fm {S0 S:List Tr} (h0:Cl S0) (_:Cl S) {t:Tr} (ht:inn S0 t) (hS':Cl (S++[t])):
  nmS S0 (S++[t])=λn=>if n=(num S0 t:Int) then some (vi (((S.length+2:Nat)):Int)) else nmS S0 S n:=by
 funext n;by_cases hn:n=(num S0 t:Int)
 ·subst hn;rw [if_pos rfl,pD h0 ht (.inr (by simp)),d8 hS' (k:=S.length) (by simp)]
 ·rw [if_neg hn];unfold nmS;by_cases hr:0<=n/\n<=(S0.length:Int)+1
  ·have hne:tr S0 n.toNat≠t:=λe=>by have:=f7 h0 (n:=n.toNat) (by omega);rw [e] at this;omega
   by_cases hi:inn S (tr S0 n.toNat)
   ·rw [if_pos ⟨hr.1,hr.2,bG hi⟩,if_pos ⟨hr.1,hr.2,hi⟩,bN hi]
   ·rw [if_neg,if_neg (λh=>hi h.2.2)];rintro ⟨_,_,h|h⟩
    ·exact hi (.inl h)
    ·rcases UX.1 h with h|h
     ·exact hi (.inr h)
     ·exact hne (UU.1 h)
  ·rw [if_neg (λh=>hr ⟨h.1,h.2.1⟩),if_neg (λh=>hr ⟨h.1,h.2.1⟩)]
theorem IE {S0:List Tr} (h0:Cl S0):nmS S0 []=λn=>if n=1 then some (vi 1) else if n=0 then some (vi 0) else none:=by
 funext n;unfold nmS;by_cases h1:n=1
 ·subst h1;have e:tr S0 (Int.toNat 1)=leaf true:=rfl;rw [if_pos rfl,e,if_pos ⟨by omega,by omega,eM _ _⟩];rfl
 ·rw [if_neg h1];by_cases h2:n=0
  ·subst h2;have e:tr S0 (Int.toNat 0)=leaf false:=rfl;rw [if_pos rfl,e,if_pos ⟨by omega,by omega,eM _ _⟩];rfl
  ·rw [if_neg h2,if_neg];rintro ⟨a,b,c|c⟩
   ·have h3:inn S0 (tr S0 n.toNat):=gD (by omega);have h4:=f7 h0 (n:=n.toNat) (by omega);generalize tr S0 n.toNat=t at*;cases t with
    |leaf x=>have:=cT S0 x;omega
    |node _ _ _=>cases c
   ·cases c
structure VE (F0:PH) (b6 b2 b7 b5 M b:Nat) (ns:Sl) (S0:List Tr):Prop where
 c6:F0.cell ⟨b6,0,none⟩=some (.map (some M))
 c2:F0.cell ⟨b2,0,none⟩=some (.pointer (some ⟨b,0,none⟩))
 c7:F0.cell ⟨b7,0,none⟩=some (.func (.func 190) #[] #[.pointer (some ⟨b6,0,none⟩),.pointer (some ⟨b2,0,none⟩),.pointer (some ⟨b7,0,none⟩),.pointer (some ⟨b5,0,none⟩)])
 cb:F0.cell ⟨b,0,none⟩=some ns.v
 rd:RdS F0 ns 3 (aY (brs S0))
theorem VE.le {F0 G:PH} {b6 b2 b7 b5 M b:Nat} {ns:Sl} {S0:List Tr} (h:VE F0 b6 b2 b7 b5 M b ns S0) (hl:F0.le G):VE G b6 b2 b7 b5 M b ns S0:=
 ⟨aH hl h.c6,aH hl h.c2,aH hl h.c7,aH hl h.cb,h.rd.le hl⟩
structure VS (F0 F:PH) (b5 M:Nat) (S0 S:List Tr):Prop where
 le:F0.le F
 cl:Cl S
 sub:∀x∈S,x∈S0
 n5:F0 b5=none
 nM:F0 M=none
 ex:∃(s:Sl),F b5=some (.cells #[s.v,vi 0] 31)/\cf F 124 3 s (aY (brs S))/\∀a,s.base=some a->F0 a.block=none
 map:∃o,F M=some o/\eH aM (nmS S0 S) o
theorem cf.upto {F G:PH} {e size:Nat} {s:Sl} {vs:Ξ} (h:cf F e size s vs) (hl:F.le G):cf G e size s vs:=by
 rcases h with h|⟨b,cur,h1,h2,h3⟩
 ·exact .inl h
 ·exact .inr ⟨b,cur,h1,hl _ _ h2,h3⟩
theorem zd {b6 b2 b7 b5 M b:Nat} {ns:Sl} {S0:List Tr} (h0:Cl S0) (hf:Fit (S0.length+4)):∀(t:Tr),inn S0 t->∀(F0 F:PH) (S:List Tr),VE F0 b6 b2 b7 b5 M b ns S0->VS F0 F b5 M S0 S->
  ai prog 190 #[vi (num S0 t),.pointer (some ⟨b6,0,none⟩),.pointer (some ⟨b2,0,none⟩),.pointer (some ⟨b7,0,none⟩),.pointer (some ⟨b5,0,none⟩)] F
   λr F'=>r=vi (num (vis t S) t)/\VS F0 F' b5 M S0 (vis t S):=by
 intro t;induction t with
 |leaf x=>intro ht F0 F S he hs;have hs':=hs;obtain ⟨hle,hS,hsub,hn5,hnM,⟨s,h5,ho,hsb⟩,o,hM,hmo⟩:=hs;refine Kh ?_;unfold EQ;have hlk:=bL (F:=F) mtN hM hmo (num S0 (leaf x)) true;rw [pD h0 ht (eM _ _)] at hlk;exact ⟨_,rfl,_,aH hle he.c6,_,_,hlk,λ_=>⟨rfl,hs'⟩,λhc=>by cases hc⟩
 |node v l h ihl ihh=>
  intro ht F0 F S he hs;have hs':=hs;obtain ⟨hle,hS,hsub,hn5,hnM,⟨s,h5,ho,hsb⟩,o,hM,hmo⟩:=hs;have htm:=cx ht rfl;obtain ⟨hil,hih⟩:=h0.inn_kids ht;have hok:=h0.inn_ok ht;refine Kh ?_;unfold EQ;have hlk:=bL (F:=F) mtN hM hmo (num S0 (node v l h)) true;by_cases hin:node v l h∈S
  ·rw [pD h0 ht (.inr hin)] at hlk;have e:vis (node v l h) S=S:=gn (.inr hin);rw [e];exact ⟨_,rfl,_,aH hle he.c6,_,_,hlk,λ_=>⟨rfl,hs'⟩,λhc=>by cases hc⟩
  ·have hnin:¬inn S (node v l h):=by
    rintro (hc|hc)
    ·cases hc
    ·exact hin hc
   rw [Fl h0 ht hnin] at hlk;have hw:=q0 (n:=num S0 (node v l h)) (by have:=dt ht;omega) (dm rfl);have hnl:=dt ht;have hng:=dm (S:=S0) (t:=node v l h) rfl;obtain ⟨a,ha,hrow,_⟩:=rdb (he.rd.le hle) (jM (ff htm rfl));have hns:=he.rd.blen;rw [aO] at hns;refine ⟨_,rfl,_,aH hle he.c6,_,_,hlk,λhc=>(by cases hc),λ_=> ?_⟩;refine ⟨_,rfl,_,aH hle he.c2,_,rfl,ns,aH hle he.cb,a,ha,by rw [hw];omega,by rw [hw];omega,aV (br S0 (node v l h)),rfl,by rw [hw];exact hrow,?_⟩;intro b9 hb9;refine atI ?_;refine stW (al _ _ _) rfl rfl (iA _) ?_;rw [bh];have h90:F0 b9=none:=aT hle hb9;have he9:VE (F0.set b9 (.cells (aV (br S0 (node v l h))) 124)) b6 b2 b7 b5 M b ns S0:=he.le (ae _ h90);have ne95:b5≠b9:=aJ hb9 h5;have ne9M:M≠b9:=aJ hb9 hM;have hle9:(F0.set b9 (.cells (aV (br S0 (node v l h))) 124)).le (F.set b9 (.cells (aV (br S0 (node v l h))) 124)):=λx ob hx=>by
    by_cases hxb:x=b9
    ·subst hxb;rw [al] at hx ⊢;exact hx
    ·rw [av _ _ hxb] at hx ⊢;exact hle _ _ hx
   have hs9:VS (F0.set b9 (.cells (aV (br S0 (node v l h))) 124)) (F.set b9 (.cells (aV (br S0 (node v l h))) 124)) b5 M S0 S:=by refine ⟨hle9,hS,hsub,by rw [av _ _ ne95];exact hn5,by rw [av _ _ ne9M];exact hnM,⟨s,by rw [av _ _ ne95];exact h5,ho.upto (ae _ hb9),λa ha=> ?_⟩,o,by rw [av _ _ ne9M];exact hM,hmo⟩;obtain ⟨cur,hcur⟩:=ho.elem ha;rw [av _ _ (aJ hb9 hcur)];exact hsb a ha
   have hle0:F0.le (F0.set b9 (.cells (aV (br S0 (node v l h))) 124)):=ae _ h90;have hc9:(F0.set b9 (.cells (aV (br S0 (node v l h))) 124)) b9=some (.cells (aV (br S0 (node v l h))) 124):=al _ _ _;generalize F0.set b9 (.cells (aV (br S0 (node v l h))) 124)=G0 at*;generalize F.set b9 (.cells (aV (br S0 (node v l h))) 124)=F1 at*;refine ⟨_,rfl,_,aH hs9.le he9.c7,_,by rw [am (hs9.le _ _ hc9)];rfl,_,_,_,rfl,Fj,?_⟩;refine (ihl hil G0 F1 S he9 hs9).mono ?_;rintro _ F2 ⟨rfl,hs2⟩;refine ⟨_,rfl,_,aH hs2.le he9.c7,_,by rw [am (hs2.le _ _ hc9)];rfl,_,_,_,rfl,Fj,?_⟩;refine (ihh hih G0 F2 _ he9 hs2).mono ?_;rintro _ F3 ⟨rfl,hs3⟩;have hs3':=hs3;obtain ⟨hle3,hS3,hsub3,hn53,hnM3,⟨s3,h53,ho3,hsb3⟩,o3,hM3,hmo3⟩:=hs3;obtain ⟨fl1,fl2,X,fl3,fl4⟩:=bo l S hok.2.2.2.2.1 hS;obtain ⟨fh1,fh2,Y,fh3,fh4⟩:=bo h (vis l S) hok.2.2.2.2.2 fl1;have hnl':num (vis l S) l=num (vis h (vis l S)) l:=by rw [fh3,bN fl2]
   have evis:vis (node v l h) S=vis h (vis l S)++[node v l h]:=by
    conv=>lhs;unfold vis
    rw [if_neg hin]
   obtain ⟨hSv,_,_⟩:=bo (node v l h) S hok hS;rw [evis] at hSv ⊢;rw [hnl'];have hil3:inn (vis h (vis l S)) l:=by rw [fh3];exact bG fl2
   generalize vis h (vis l S)=T at*;refine ⟨_,rfl,_,rfl,s3,by rw [am h53];rfl,_,by rw [am (hle3 _ _ hc9)];rfl,rfl,λb43 hb43=> ?_⟩;refine atI ?_;have hb430:G0 b43=none:=aT hle3 hb43;have hTl:T.length<=S0.length:=cY T S0 hS3.nodup hsub3;have hlen:=ho3.rd.blen;rw [aO] at hlen;have ex:(#[vi (v:Int),vi (num T l:Int),vi (num T h:Int)]:Γ)=aV ⟨(v:Int),(num T l:Int),(num T h:Int)⟩:=rfl;have hle43:=ae (.cells (aV ⟨(v:Int),(num T l:Int),(num T h:Int)⟩) 124) hb43;have h43:=al F3 b43 (.cells (aV ⟨(v:Int),(num T l:Int),(num T h:Int)⟩) 124);show aG prog _ (F3.set b43 (.cells (aV ⟨(v:Int),(num T l:Int),(num T h:Int)⟩) 124)) _;replace hle3:G0.le (F3.set b43 (.cells (aV ⟨(v:Int),(num T l:Int),(num T h:Int)⟩) 124)):=λx ob hx=>hle43 _ _ (hle3 _ _ hx);replace ho3:=ho3.upto hle43;replace h53:=hle43 _ _ h53;replace hM3:=hle43 _ _ hM3;generalize F3.set b43 (.cells (aV ⟨(v:Int),(num T l:Int),(num T h:Int)⟩) 124)=F4 at*;refine lK underlying29 xy xz rfl (by decide) hle3 ho3 hsb3 (x:=⟨some ⟨b43,0,none⟩,1,1⟩) (news:=dn ⟨(v:Int),(num T l:Int),(num T h:Int)⟩) (RdS.new h43 rfl rfl (UW _))
    (λx hx=>gV [⟨(v:Int),(num T l:Int),(num T h:Int)⟩] x (by simpa [aY] using hx)) (by simp only [hlen];omega) (by simp only [hlen];omega) ?_
   intro s5 F5 hle5 ho5 hlen5 hsb5 hk5 _;have ne5:∀a,s3.base=some a->a.block≠b5:=λa ha e=>by obtain ⟨cur,hcur⟩:=ho3.elem ha;rw [e,h53] at hcur;cases hcur
   have neM:∀a,s3.base=some a->a.block≠M:=λa ha e=>by obtain ⟨cur,hcur⟩:=ho3.elem ha;obtain ⟨es,c,L,rfl,_⟩:=hmo3;rw [e,hM3] at hcur;cases hcur
   replace h53:=hk5 _ _ h53 (λ⟨a,ha,e⟩=>ne5 a ha e);replace hM3:=hk5 _ _ hM3 (λ⟨a,ha,e⟩=>neM a ha e);have n5M:b5≠M:=λe=>by obtain ⟨es,c,L,rfl,_⟩:=hmo3;rw [e,hM3] at h53;cases h53
   have hsb6:∀a,s5.base=some a->a.block≠b5/\a.block≠M:=λa ha=>by
    obtain ⟨cur,hcur⟩:=ho5.elem ha;refine ⟨λe=> ?_,λe=> ?_⟩
    ·rw [e,h53] at hcur;cases hcur
    ·obtain ⟨es,c,L,rfl,_⟩:=hmo3;rw [e,hM3] at hcur;cases hcur
   refine ⟨s5,rfl,?_⟩;refine st1 h53 (by simp) ?_;rw [show (#[s3.v,vi 0].setIfInBounds 0 s5.v:Γ)= #[s5.v,vi 0] from rfl];have hle6:G0.le (F5.set b5 (.cells #[s5.v,vi 0] 31)):=aw hle5 hn53;have h56:=al F5 b5 (.cells #[s5.v,vi 0] 31);have hM6:(F5.set b5 (.cells #[s5.v,vi 0] 31)) M=some o3:=by rw [av _ _ n5M.symm];exact hM3
   have ho6:cf (F5.set b5 (.cells #[s5.v,vi 0] 31)) 124 3 s5 _:=ho5.keep λa ha=>av _ _ (hsb6 a ha).1;generalize F5.set b5 (.cells #[s5.v,vi 0] 31)=F6 at*;have hlen6:s5.len=T.length+1:=by rw [hlen5,hlen]
   have hw6:IntKind.i64.wrap ((s5.len:Int)+1)=((T.length+2:Nat):Int):=by rw [hlen6,aS (by omega) (by omega)];omega
   refine ⟨_,aH hle6 he9.c6,s5,by rw [am h56];rfl,?_⟩;dsimp only;rw [hw6];refine aX mtN hM6 hmo3 (num S0 (node v l h):Int) _ λo' ho'=> ?_;rw [<- Fm h0 hS3 ht hSv] at ho';have hle7:G0.le (F6.set M o'):=aw hle6 hnM3;have hlk7:=bL (F:=F6.set M o') mtN (al F6 M o') ho' (num S0 (node v l h)) false;rw [pD h0 ht (.inr (by simp))] at hlk7;refine ⟨_,aH hle7 he9.c6,_,hlk7,rfl,λx ob hx=>hle7 _ _ (hle0 _ _ hx),hSv,λx hx=> ?_,hn5,hnM,⟨s5,by rw [av _ _ n5M];exact h56,?_,λa ha=>aT hle0 (hsb5 a ha)⟩,o',al _ _ _,ho'⟩
   ·rcases UX.1 hx with hx|hx
    ·exact hsub3 x hx
    ·rw [UU.1 hx];exact htm
   ·have e3:aY (brs (T++[node v l h]))=aY (brs T)++dn ⟨(v:Int),(num T l:Int),(num T h:Int)⟩:=by rw [eN hS3 hil3 fh2,eP];simp [aY]
    rw [e3];exact ho6.keep λa ha=>av _ _ (hsb6 a ha).2
end Go.Proofs.YtcemhghkipgdiaaGreatDoor
