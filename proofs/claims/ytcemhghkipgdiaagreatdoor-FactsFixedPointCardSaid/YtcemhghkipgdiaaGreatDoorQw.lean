/-
  Running a machine.
-/
import Derived.Test.YtcemhghkipgdiaaGreatDoorQs
import Derived.Test.YtcemhghkipgdiaaGreatDoorQr
import Derived.Test.YtcemhghkipgdiaaGreatDoorQq
namespace Go.Proofs.YtcemhghkipgdiaaGreatDoor
open Go Go.Proofs.Tryz
set_option maxRecDepth 10000
def bK (s:Sl) (P Q:Nat->Bool) (bf n:Nat) (e:Bool):Γ:=
 #[s.v,cP (wd P 0),cP (wd P 1),cP (wd P 2),cP (wd P 3),cP (wd P 4),cP (wd P 5),cP (wd P 6),cP (wd P 7),
  cP (wd Q 0),cP (wd Q 1),cP (wd Q 2),cP (wd Q 3),cP (wd Q 4),cP (wd Q 5),cP (wd Q 6),cP (wd Q 7),Sl.v ⟨some ⟨bf,0,none⟩,n,n⟩,.bool e]
theorem Oi (a0 a1 a2 a3 a4 a5 a6 a7 a8 a9 a10 a11 a12 a13 a14 a15 a16 a17 a18 v0 v1 v2 v3 v4 v5 v6 v7:Value):wr (#[a0,a1,a2,a3,a4,a5,a6,a7,a8,a9,a10,a11,a12,a13,a14,a15,a16,a17,a18]:Γ) 1 [v0,v1,v2,v3,v4,v5,v6,v7]= #[a0,v0,v1,v2,v3,v4,v5,v6,v7,a9,a10,a11,a12,a13,a14,a15,a16,a17,a18]:=
 (dI [v0,v1,v2,v3,v4,v5,v6,v7] [a0,a1,a2,a3,a4,a5,a6,a7,a8,a9,a10,a11,a12,a13,a14,a15,a16,a17,a18] 1 (by show 9<=19;omega)).trans rfl
theorem Oj (a0 a1 a2 a3 a4 a5 a6 a7 a8 a9 a10 a11 a12 a13 a14 a15 a16 a17 a18 v0 v1 v2 v3 v4 v5 v6 v7:Value):wr (#[a0,a1,a2,a3,a4,a5,a6,a7,a8,a9,a10,a11,a12,a13,a14,a15,a16,a17,a18]:Γ) 9 [v0,v1,v2,v3,v4,v5,v6,v7]= #[a0,a1,a2,a3,a4,a5,a6,a7,a8,v0,v1,v2,v3,v4,v5,v6,v7,a17,a18]:=
 (dI [v0,v1,v2,v3,v4,v5,v6,v7] [a0,a1,a2,a3,a4,a5,a6,a7,a8,a9,a10,a11,a12,a13,a14,a15,a16,a17,a18] 9 (by show 17<=19;omega)).trans rfl
theorem Ok (s:Sl) (P P' Q:Nat->Bool) (bf n:Nat) (e:Bool):wr (bK s P' Q bf n e) 1 (plA P).toList=bK s P Q bf n e:=Oi _ _ _ _ _ _ _ _ _ _ _ _ _ _ _ _ _ _ _ _ _ _ _ _ _ _ _
theorem Ol (s:Sl) (P Q' Q:Nat->Bool) (bf n:Nat) (e:Bool):wr (bK s P Q' bf n e) 9 (plA Q).toList=bK s P Q bf n e:=Oj _ _ _ _ _ _ _ _ _ _ _ _ _ _ _ _ _ _ _ _ _ _ _ _ _ _ _
theorem Om (s:Sl) (P Q:Nat->Bool) (bf n:Nat) (e e':Bool):(bK s P Q bf n e).setIfInBounds 18 (.bool e')=bK s P Q bf n e':=rfl
def noR:Nat->Nat->Bool:=λ_ _=>false
theorem sJ:∀n:Nat,cT n noR=List.replicate (n*8) (.int .u64 0)
 |0=>rfl
 |n+1=>by
  have:=sJ n;unfold cT at this ⊢;rw [Uq,T5,this,To,List.flatMap_nil,Tn];have e:(plA (noR n)).toList=List.replicate 8 (.int .u64 0):=by show (plA noP).toList=_;rw [bF];rfl
  rw [e,List.replicate_append_replicate];congr 1;omega
theorem D7:tsz prog 229=some (8,64):=by kernel_rfl
theorem D8:bP prog 229=some (.agg #[.int .u64 0,.int .u64 0,.int .u64 0,.int .u64 0,.int .u64 0,.int .u64 0,.int .u64 0,.int .u64 0]):=by kernel_rfl
theorem zc8 (n:Nat):Builtin.zeroCells (Value.agg #[.int .u64 0,.int .u64 0,.int .u64 0,.int .u64 0,.int .u64 0,.int .u64 0,.int .u64 0,.int .u64 0]).cells n=(cT n noR).toArray:=by
 rw [sJ];have hz:(Value.agg #[.int .u64 0,.int .u64 0,.int .u64 0,.int .u64 0,.int .u64 0,.int .u64 0,.int .u64 0,.int .u64 0]).cells=(List.replicate 8 (Value.int .u64 0)).toArray:=rfl;rw [hz];apply Array.ext
 ·simp [Builtin.zeroCells]
 ·intro i h1 h2;simp only [Builtin.zeroCells,Array.getElem_map,Array.getElem_range,List.getElem_toArray,List.getElem_replicate];have:i % (List.replicate 8 (Value.int .u64 0)).toArray.size<8:=TC _ (by decide);rw [getElem!_pos _ _ (by simpa using this)];simp only [Ud,List.length_replicate,List.getElem_toArray,List.getElem_replicate]
structure Mch (F:PH) (bm:Nat) (l:List Nd) (t:Lt):Prop where
 ex:∃(s:Sl) (bf:Nat),F bm=some (.cells (bK s (fB t) (lB t) bf l.length t.nul) 232)/\RdS F s 5 (eX l)/\F bf=some (.cells (cT l.length (foB t)).toArray 229)
theorem Mch.le {F G:PH} {bm:Nat} {l:List Nd} {t:Lt} (h:Mch F bm l t) (hl:F.le G):Mch G bm l t:=by obtain ⟨s,bf,a,b,c⟩:=h.ex;exact ⟨s,bf,hl _ _ a,b.le hl,hl _ _ c⟩
theorem Tab.zero {F:PH} (h:Tab F):∃o,F 0=some o:=by
 have:=h 0 0 rfl;unfold PH.cell at this;cases hz:F 0 with
 |none=>rw [hz] at this;cases this
 |some o=>exact ⟨o,rfl⟩
theorem RdS.block {F:PH} {s:Sl} {size:Nat} {vs:Ξ} (h:RdS F s size vs) (hv:0<vs.length) {a:Addr} (ha:s.base=some a):∃o,F a.block=some o:=by
 have hp:0<s.len:=by
  rcases TW s.len with h0|h0
  ·have:=h.len;rw [h0,TN] at this;omega
  ·exact h0
 obtain ⟨b,o,h1,h2⟩:=h.cells hp;rw [ha] at h1;cases h1;have hc:=h2 0 hv;unfold PH.cell at hc;cases hz:F b with
 |none=>simp only [hz] at hc;cases hc
 |some ob=>exact ⟨ob,rfl⟩
theorem Lo.new' {G F:PH} {xs:List (Nat×Γ×TypeId)} (h:Lo G F xs) (c:Γ) (e:TypeId) {b:Nat} (hb:F b=none):Lo G (F.set b (.cells c e)) ((b,c,e)::xs):=
 atE (h.new c e (K:=λb F'=>Lo G F' ((b,c,e)::xs)) (λ_ _ h=>h) b hb)
section
variable {F0 F:PH} {l:List Nd}
set_option maxHeartbeats 1000000 in
theorem yj {s:Sl} {b1 b3 bm bf:Nat} (hT:Tab F0) (hG:GoodL l) (hl:l.length<=512) (hs:RdS F0 s 5 (eX l)) (le:F0.le F) (q1:F b1=some (.cells #[s.v] 144)) (q3:F b3=some (.cells #[pa bm] 226))
  (qm:F bm=some (.cells (bK s noP noP bf l.length false) 232)) (qf:F bf=some (.cells (cT l.length noR).toArray 229)) (zm:F0 bm=none) (zf:F0 bf=none) {R:Value->Ψ}
  (k:∀F',Mch F' bm l (bL l)->F0.le F'->R (pa bm) F'):jr b1 (some ⟨b3,0,none⟩) R F:=by
 obtain ⟨ns,ht⟩:=j7 hG;have hlen:=hs.nlen;have hpos:=T4.2 hG.ne;have h0:bf≠0:=λe=>by obtain ⟨o,ho⟩:=hT.zero;rw [e,ho] at zf;cases zf
 unfold jr;intro b4 hb4;refine atI ?_;have l4:=ae (.cells #[.nilFunc] 247) hb4;have q4:=al F b4 (.cells #[.nilFunc] 247);have le4:=aa le l4;replace q1:=l4 _ _ q1;replace q3:=l4 _ _ q3;replace qm:=l4 _ _ qm;replace qf:=l4 _ _ qf;have z4:F0 b4=none:=aQ le hb4;clear l4 hb4 le;generalize F.set b4 (.cells #[.nilFunc] 247)=F1 at*;intro b5 hb5;refine atI ?_;have l5:=ae (.cells #[.nilFunc] 251) hb5;have q5:=al F1 b5 (.cells #[.nilFunc] 251);have le5:=aa le4 l5;replace q1:=l5 _ _ q1;replace q3:=l5 _ _ q3;replace qm:=l5 _ _ qm;replace qf:=l5 _ _ qf;have n45:b4≠b5:=aG hb5 q4;replace q4:=l5 _ _ q4;have z5:F0 b5=none:=aQ le4 hb5;clear l5 hb5 le4;generalize F1.set b5 (.cells #[.nilFunc] 251)=F2 at*;have ne:∀{x y:Nat} {c d:Γ} {e e':TypeId},e≠e'->F2 x=some (.cells c e)->F2 y=some (.cells d e')->x≠y:=λhe hx hy e=>by rw [e,hy] at hx;simp at hx;exact he hx.2.symm
 refine st1 (o:=0) q5 (by simp) ?_;show ∃c e,_;have e5:(#[Value.nilFunc]:Γ).setIfInBounds 0 (.func (.func 202) #[] #[pa b3])= #[.func (.func 202) #[] #[pa b3]]:=rfl;rw [e5];have le6:=aw (o:=.cells #[.func (.func 202) #[] #[pa b3]] 251) le5 z5;have q1':(F2.set b5 (.cells #[.func (.func 202) #[] #[pa b3]] 251)) b1=_:=(az _ _ (ne (by decide) q1 q5)).trans q1;have q3':(F2.set b5 (.cells #[.func (.func 202) #[] #[pa b3]] 251)) b3=_:=(az _ _ (ne (by decide) q3 q5)).trans q3;have qm':(F2.set b5 (.cells #[.func (.func 202) #[] #[pa b3]] 251)) bm=_:=(az _ _ (ne (by decide) qm q5)).trans qm;have qf':(F2.set b5 (.cells #[.func (.func 202) #[] #[pa b3]] 251)) bf=_:=(az _ _ (ne (by decide) qf q5)).trans qf;have q4':(F2.set b5 (.cells #[.func (.func 202) #[] #[pa b3]] 251)) b4=_:=(az _ _ n45).trans q4;have q5':=al F2 b5 (.cells #[.func (.func 202) #[] #[pa b3]] 251);clear q1 q3 qm qf q4 q5 le5 ne;generalize F2.set b5 (.cells #[.func (.func 202) #[] #[pa b3]] 251)=F3 at*;have ne:∀{x y:Nat} {c d:Γ} {e e':TypeId},e≠e'->F3 x=some (.cells c e)->F3 y=some (.cells d e')->x≠y:=λhe hx hy e=>by rw [e,hy] at hx;simp at hx;exact he hx.2.symm
 refine st1 (o:=0) q4' (by simp) ?_;have e4:(#[Value.nilFunc]:Γ).setIfInBounds 0 (.func (.func 206) #[] #[pa b1,pa b4,pa b5])= #[.func (.func 206) #[] #[pa b1,pa b4,pa b5]]:=rfl;rw [e4];have le7:=aw (o:=.cells #[.func (.func 206) #[] #[pa b1,pa b4,pa b5]] 247) le6 z4;have q1:(F3.set b4 (.cells #[.func (.func 206) #[] #[pa b1,pa b4,pa b5]] 247)) b1=_:=(az _ _ (ne (by decide) q1' q4')).trans q1';have q3:(F3.set b4 (.cells #[.func (.func 206) #[] #[pa b1,pa b4,pa b5]] 247)) b3=_:=(az _ _ (ne (by decide) q3' q4')).trans q3';have qm:(F3.set b4 (.cells #[.func (.func 206) #[] #[pa b1,pa b4,pa b5]] 247)) bm=_:=(az _ _ (ne (by decide) qm' q4')).trans qm';have qf:(F3.set b4 (.cells #[.func (.func 206) #[] #[pa b1,pa b4,pa b5]] 247)) bf=_:=(az _ _ (ne (by decide) qf' q4')).trans qf';have q5:(F3.set b4 (.cells #[.func (.func 206) #[] #[pa b1,pa b4,pa b5]] 247)) b5=_:=(az _ _ n45.symm).trans q5';have q4:=al F3 b4 (.cells #[.func (.func 206) #[] #[pa b1,pa b4,pa b5]] 247);clear q1' q3' qm' qf' q4' q5' le6 ne;generalize F3.set b4 (.cells #[.func (.func 206) #[] #[pa b1,pa b4,pa b5]] 247)=F4 at*;have hs4:=hs.le le7;have hC:Cmp F4 b1 b3 b4 b5 bm bf l noR:=by refine ⟨⟨hT.le le7,q3,⟨_,qm,rfl⟩,qf⟩,⟨s,q1,hs4,λa ha e=> ?_⟩,q4,q5⟩;obtain ⟨o,ho⟩:=hs.block (by rw [hX];omega) ha;rw [e,zf] at ho;cases ho
 have c3:F4.cell (Addr.mk b3 0 none)=some (pa bm):=by rw [am q3];rfl
 refine ⟨_,rfl,_,c3,_,c3,_,c3,_,by rw [am q4];rfl,s,by rw [am q1];rfl,206,#[],_,rfl,mw,?_⟩;have ew:IntKind.i64.wrap ((s.len:Int) - 1)=((l.length - 1:Nat):Int):=by rw [hlen,aO (by omega) (by omega)];omega
 rw [ew];refine (BV hl h0 ht hC).mono ?_;rintro _ F5 ⟨rfl,hC5,hK⟩;have hne:∀{x:Nat} {c:Γ} {e:TypeId},e≠229->F4 x=some (.cells c e)->x≠bf:=λhe hx e=>by rw [e,qf] at hx;simp at hx;exact he hx.2.symm
 have q1:=hK _ _ q1 (hne (by decide) q1);have q3:=hK _ _ q3 (hne (by decide) q3);have qm:=hK _ _ qm (hne (by decide) qm);have le8:F0.le F5:=λy o hy=>hK y o (le7 y o hy) λe=>by rw [e,zf] at hy;cases hy
 have c3:∀{G:PH},G b3=some (.cells #[pa bm] 226)->G.cell (Addr.mk b3 0 none)=some (pa bm):=λh=>by rw [am h];rfl
 have n3m:b3≠bm:=λe=>by rw [e,qm] at q3;simp at q3
 have nfm:bf≠bm:=λe=>by rw [<- e,hC5.lnk.qf] at qm;simp at qm
 have nsm:∀a,s.base=some a->a.block≠bm:=λa ha e=>by obtain ⟨o,ho⟩:=hs.block (by rw [hX];omega) ha;rw [e,zm] at ho;cases ho
 have qf:=hC5.lnk.qf;have hs5:=hs.le le8;clear hC hC5 hK hne;refine ⟨_,_,_,rfl,by rw [am q1];rfl,c3 q3,c3 q3,c3 q3,_,rfl,rfl,bx _,_,_,qm,rfl,(by show 9<=19;omega),?_⟩;refine atI ?_;have w1:wr (bK s noP noP bf l.length false) ((Addr.mk bm 0 none).add 1).off (plA (fB (bL l))).toList=bK s (fB (bL l)) noP bf l.length false:=Ok _ _ _ _ _ _ _;rw [w1];show (F5.set bm _).cell _=_/\_;have q3a:(F5.set bm (.cells (bK s (fB (bL l)) noP bf l.length false) 232)) b3=_:=(az _ _ n3m).trans q3;have qma:=al F5 bm (.cells (bK s (fB (bL l)) noP bf l.length false) 232);refine ⟨c3 q3a,c3 q3a,_,rfl,rfl,bx _,_,_,qma,rfl,(by show 17<=19;omega),?_⟩;refine atI ?_;have w2:wr (bK s (fB (bL l)) noP bf l.length false) ((Addr.mk bm 0 none).add 9).off (plA (lB (bL l))).toList=bK s (fB (bL l)) (lB (bL l)) bf l.length false:=Ol _ _ _ _ _ _ _;rw [w2];rw [show ((F5.set ((Addr.mk bm 0 none).add 1).block (.cells (bK s (fB (bL l)) noP bf l.length false) 232)).set ((Addr.mk bm 0 none).add 9).block (.cells (bK s (fB (bL l)) (lB (bL l)) bf l.length false) 232))=F5.set bm (.cells (bK s (fB (bL l)) (lB (bL l)) bf l.length false) 232) from bi _ _ _ _];have q3b:(F5.set bm (.cells (bK s (fB (bL l)) (lB (bL l)) bf l.length false) 232)) b3=_:=(az _ _ n3m).trans q3;have qmb:=al F5 bm (.cells (bK s (fB (bL l)) (lB (bL l)) bf l.length false) 232);refine ⟨c3 q3b,_,rfl,?_⟩;refine rA (b:=bm) (o:=18) rfl qmb (by show 18<19;omega) ?_;rw [bi];have w3:(bK s (fB (bL l)) (lB (bL l)) bf l.length false).setIfInBounds 18 (.bool (bL l).nul)=bK s (fB (bL l)) (lB (bL l)) bf l.length (bL l).nul:=Om _ _ _ _ _ _ _;rw [w3];refine ⟨_,c3 ((az _ _ n3m).trans q3),k _ ⟨s,bf,al _ _ _,hs5.keep λa ha o ho=>(az _ _ (nsm a ha)).trans ho,?_⟩ (aw le8 zm)⟩;rw [az _ _ nfm,qf];congr 3
theorem um {s:Sl} (hT:Tab F) (hG:GoodL l) (hl:l.length<=512) (hs:RdS F s 5 (eX l)):aj prog 184 #[s.v] F λr F'=>(∃bm,r=pa bm/\Mch F' bm l (bL l))/\F.le F':=by
 have hlen:=hs.nlen;refine OG ?_;unfold Ji;have fin:∀{F':PH} {xs:List (Nat×Γ×TypeId)} {b1 bf bm b3:Nat},Lo F F' xs->(b1,#[s.v],144)∈xs->(b3,#[pa bm],226)∈xs->
   (bm,(#[s.v,.int .u64 0,.int .u64 0,.int .u64 0,.int .u64 0,.int .u64 0,.int .u64 0,.int .u64 0,.int .u64 0,.int .u64 0,.int .u64 0,.int .u64 0,.int .u64 0,.int .u64 0,.int .u64 0,.int .u64 0,.int .u64 0,Sl.v ⟨some ⟨bf,0,none⟩,s.len,s.len⟩,.bool false]:Γ),232)∈xs->
   (bf,(cT s.len noR).toArray,229)∈xs->jr b1 (some ⟨b3,0,none⟩) (λr F'=>(∃bm,r=pa bm/\Mch F' bm l (bL l))/\F.le F') F':=λh m1 m3 mm mf=>by
  have em:∀bf:Nat,(#[s.v,.int .u64 0,.int .u64 0,.int .u64 0,.int .u64 0,.int .u64 0,.int .u64 0,.int .u64 0,.int .u64 0,.int .u64 0,.int .u64 0,.int .u64 0,.int .u64 0,.int .u64 0,.int .u64 0,.int .u64 0,.int .u64 0,Sl.v ⟨some ⟨bf,0,none⟩,s.len,s.len⟩,.bool false]:Γ)=bK s noP noP bf l.length false:=λbf=>by unfold bK noP;simp only [t5,hlen];rfl
  rw [em] at mm;rw [hlen] at mf;exact yj hT hG hl hs h.le (h.get m1) (h.get m3) (h.get mm) (h.get mf) (h.z _ mm).2 (h.z _ mf).2 λF'' a b=>⟨⟨_,rfl,a⟩,b⟩
 have h:=Lo.start F;refine h.new _ _ λb1 F1 h=> ?_;have c1:F1.cell (Addr.mk b1 0 none)=some s.v:=by rw [h.cell (b:=b1) (w:= #[s.v]) (e:=144) (by simp)];rfl
 refine ⟨s,c1,s,c1,?_,?_⟩
 ·refine dh underlying230 D7 D8 rfl (by omega) (Int.le_refl _) (by omega) (by omega) ?_;intro bf hbf;rw [zc8,N4];have h:=h.new' (cT s.len noR).toArray 229 hbf;generalize F1.set bf (.cells (cT s.len noR).toArray 229)=F2 at*;have c1:F2.cell (Addr.mk b1 0 none)=some s.v:=by rw [h.cell (b:=b1) (w:= #[s.v]) (e:=144) (by simp)];rfl
  refine ⟨_,rfl,c1,c1,?_,?_⟩
  ·refine h.new _ _ λbm F3 h=> ?_;refine h.new _ _ λb3 F4 h=> ?_;refine Lo.put1 [] [(bm,_,232),(bf,_,229),(b1,_,144)] (b:=b3) (i:=0) (w0:= #[.pointer none]) (w:= #[pa bm]) (e:=226) h (by simp) rfl λF5 h=> ?_;exact fin h (.tail _ (.tail _ (.tail _ (.head _)))) (.head _) (.tail _ (.head _)) (.tail _ (.tail _ (.head _)))
  ·refine h.new _ _ λb3 F3 h=> ?_;refine h.new _ _ λbm F4 h=> ?_;refine Lo.put1 [(bm,_,232)] [(bf,_,229),(b1,_,144)] (b:=b3) (i:=0) (w0:= #[.pointer none]) (w:= #[pa bm]) (e:=226) h (by simp) rfl λF5 h=> ?_;exact fin h (.tail _ (.tail _ (.tail _ (.head _)))) (.tail _ (.head _)) (.head _) (.tail _ (.tail _ (.head _)))
 ·refine h.new _ _ λb3 F2 h=> ?_;refine dh underlying230 D7 D8 rfl (by omega) (Int.le_refl _) (by omega) (by omega) ?_;intro bf hbf;rw [zc8,N4];have h:=h.new' (cT s.len noR).toArray 229 hbf;generalize F2.set bf (.cells (cT s.len noR).toArray 229)=F3 at*;have c1:F3.cell (Addr.mk b1 0 none)=some s.v:=by rw [h.cell (b:=b1) (w:= #[s.v]) (e:=144) (by simp)];rfl
  refine ⟨_,rfl,c1,c1,?_⟩;refine h.new _ _ λbm F4 h=> ?_;refine Lo.put1 [(bm,_,232),(bf,_,229)] [(b1,_,144)] (b:=b3) (i:=0) (w0:= #[.pointer none]) (w:= #[pa bm]) (e:=226) h (by simp) rfl λF5 h=> ?_;exact fin h (.tail _ (.tail _ (.tail _ (.head _)))) (.tail _ (.tail _ (.head _))) (.head _) (.tail _ (.head _))
end
abbrev LSp:=ForInStep (Option Bool×Unit)
section
variable {F:PH}
theorem yk {P:Program} {α:Type} (step:α->Option Bool×Unit->Sem LSp) (eqs:α->Bool):∀(l:List α),(∀a∈l,rdo P (step a (none,())) F (if eqs a then .yield (none,()) else .done (some false,())))->
  rdo P (forIn l (none,()) step) F (if l.all eqs then (none,()) else (some false,()))
 |[],_=>rfl
 |a::l,h=>by
  rw [Uc,ai];refine ⟨_,h a (by simp),?_⟩;rw [Uh];cases eqs a with
  |false=>rfl
  |true=>rw [T1];exact yk step eqs l λb hb=>h b (by simp [hb])
theorem Ae (t:TypeId) (k:IntKind) (ht:prog.underlying t=some (.int k)) (d:Nat) (a b:Int):rdo prog (Op.equalIn (d+1) t (.int k a) (.int k b)) F (decide (a=b)):=by simp only [Op.equalIn,ai];refine ⟨_,(av ht _).2 rfl,?_⟩;simp only [if_true,cx];by_cases h:a=b<;>simp [h]
theorem sK (t:TypeId) (k:IntKind) (ht:prog.underlying t=some (.int k)) {cs:Γ} {off:Nat} {v:Value} (h:cs[off]? =some v):rdo prog (part t cs off) F v:=by unfold part;simp only [ai];refine ⟨false,(dq ht _).2 rfl,?_⟩;simp only [S9,if_false,h];rfl
theorem D9 (t:TypeId) (k:IntKind) (ht:prog.underlying t=some (.int k)) (n off:Nat) (cs ds:Γ) (x y:Int) (h1:cs[off]? =some (.int k x)) (h2:ds[off]? =some (.int k y)):
  rdo prog (do
   let a <- part t cs off
   let b <- part t ds off
   let r <- Op.equalIn (n+1) t a b
   if (!r)=true then pure (ForInStep.done (some false,())) else pure (ForInStep.yield (none,())):Sem LSp) F (if decide (x=y)=true then .yield (none,()) else .done (some false,())):=by
 simp only [ai];refine ⟨_,sK t k ht h1,_,sK t k ht h2,_,Ae t k ht n x y,?_⟩;by_cases h:x=y<;>simp [h]
theorem On:tsz prog 76=some (1,8):=by kernel_rfl
theorem Rf {cs ds:Γ} {f g:Nat->Int} (h1:∀k,k<8->cs[k]? =some (.int .u64 (f k))) (h2:∀k,k<8->ds[k]? =some (.int .u64 (g k))):
  rdo prog (Op.equal 229 (.agg cs) (.agg ds)) F ((List.range 8).all λk=>decide (f k=g k)):=by
 unfold Op.equal Op.maxDepth;show rdo prog (Op.equalIn (9998+1+1) 229 _ _) _ _;unfold Op.equalIn;simp only [ai];refine ⟨_,(av underlying229 _).2 rfl,?_⟩;dsimp only;refine (ai _ _ _ _).2 ⟨1,(bq On _).2 rfl,?_⟩;rw [Std.Legacy.Range.forIn_eq_forIn_range'];simp only [Std.Legacy.Range.size,TZ,Um,Nat.div_one];rw [ai];refine ⟨_,yk _ (λk=>decide (f k=g k)) _ λk hk=> ?_,?_⟩
 ·have hk8:k<8:=by have:=List.mem_range'.1 hk;omega
  rw [Tb];exact D9 76 .u64 underlying76 9998 k cs ds _ _ (h1 k hk8) (h2 k hk8)
 ·have hl:List.range' 0 8 1=List.range 8:=rfl;rw [hl];cases (List.range 8).all (λk=>decide (f k=g k))<;>rfl
theorem Rg (P Q:Nat->Bool):rdo prog (Op.equal 229 (.agg (plA P)) (.agg (plA Q))) F ((List.range 8).all λk=>decide ((wd P k:Int)=(wd Q k:Int))):=
 Rf (λ_ h=>eR P h) (λ_ h=>eR Q h)
theorem BS (P:Nat->Bool):((List.range 8).all λk=>decide ((wd P k:Int)=(wd noP k:Int)))=true↔∀i,i<512->P i=false:=by
 rw [Tc];have hz:∀k,wd noP k=0:=λk=>t5 k;constructor
 ·intro h i hi;have:=of_decide_eq_true (h (i / 64) (Tp.2 (by omega)));rw [hz] at this;have h0:wd P (i / 64)=0:=by omega
  have:=gT.1 h0 (i % 64) (by omega);rwa [show 64*(i / 64)+i % 64=i by omega] at this
 ·intro h k hk;have hk8:=Tp.1 hk;have:wd P k=0:=gT.2 λj hj=>h _ (by omega);rw [hz,this];rfl
end
def Nx (acc fol:Nat->Nat->Prop):(Nat->Prop)->Δ->Nat->Prop
 |S,[],j=>S j
 |S,b::w,j=>Nx acc fol (λj=>∃i,S i/\acc i b/\fol i j) w j
section
variable {acc fol:Nat->Nat->Prop} {e:Nat->Prop}
theorem mv:∀(w u:Δ) (S:Nat->Prop) (j:Nat),Nx acc fol S (w++u) j↔Nx acc fol (Nx acc fol S w) u j
 |[],_,S,j=>Iff.rfl
 |b::w,u,S,j=>mv w u _ j
theorem Af (w:Δ) (b:Nat) (S:Nat->Prop) (j:Nat):Nx acc fol S (w++[b]) j↔∃i,Nx acc fol S w i/\acc i b/\fol i j:=by rw [mv];rfl
theorem Ah:∀(w:Δ) (S:Nat->Prop),(∀j,¬S j)->∀j,¬Nx acc fol S w j
 |[],S,h,j=>h j
 |b::w,S,h,j=>Ah w _ (λj ⟨i,hi,_⟩=>h i hi) j
theorem Ea:∀(w:Δ) (b:Nat) (S:Nat->Prop),(∃i,S i/\Pth acc fol e i (w++[b]))↔∃j,Nx acc fol S w j/\acc j b/\e j
 |[],b,S=>by
  constructor
  ·rintro ⟨i,h1,h2,⟨_,h3⟩|⟨j,_,h3⟩⟩
   ·exact ⟨i,h1,h2,h3⟩
   ·exact h3.elim
  ·rintro ⟨i,h1,h2,h3⟩;exact ⟨i,h1,h2,.inl ⟨rfl,h3⟩⟩
 |c::w,b,S=>by
  have ih:=Ea w b (λj=>∃i,S i/\acc i c/\fol i j);show _↔∃j,Nx acc fol (λj=>∃i,S i/\acc i c/\fol i j) w j/\acc j b/\e j;rw [<- ih];constructor
  ·rintro ⟨i,h1,h2,⟨h3,_⟩|⟨j,h3,h4⟩⟩
   ·exact absurd h3 (by simp)
   ·exact ⟨j,⟨i,h1,h2,h3⟩,h4⟩
  ·rintro ⟨j,⟨i,h1,h2,h3⟩,h4⟩;exact ⟨i,h1,h2,.inr ⟨j,h3,h4⟩⟩
end
def kU (l:List Nd) (i b:Nat):Prop:=∃x,l[i]? =some x/\x.lo<=(b:Int)/\(b:Int)<=x.hi
theorem BT {l:List Nd} (hG:GoodL l) {i:Nat} {t:Lt} {ns:Δ} (h:cO l i t ns):t.fits (kU l):=by
 induction h with
 |emp=>trivial
 | @rng i lo hi x hx hk hlo hhi hle h255=>
  intro b;constructor
  ·rintro ⟨y,hy,h1,h2⟩;rw [hx] at hy;cases hy;omega
  ·rintro ⟨h1,h2⟩;exact ⟨x,hx,by omega,by omega⟩
 | @seq i a b x t u na nb hx hk hxa hxb ht hu it iu=>exact ⟨it,iu,λj h1 h2=>Jd hG hx (.inl hk) hxa hxb (oH ht j ((dH ht).2 j h1)) (oH hu j ((dH hu).2 j h2))⟩
 | @alt i a b x t u na nb hx hk hxa hxb ht hu it iu=>exact ⟨it,iu,λj h1 h2=>Jd hG hx (.inr hk) hxa hxb (oH ht j ((dH ht).2 j h1)) (oH hu j ((dH hu).2 j h2))⟩
 |rep _ _ _ _ it=>exact it
abbrev kV (l:List Nd) (t:Lt) (w:Δ):Nat->Prop:=Nx (kU l) t.fol t.first w
theorem Ai {l:List Nd} {t:Lt} (hf:t.fits (kU l)) (w:Δ) (b:Nat):Lg t.pat (w++[b])↔∃j,kV l t w j/\kU l j b/\t.last j:=by rw [t.places hf _ (by simp)];exact Ea w b t.first
theorem jm {ws:Δ} {n:Nat} (h:n<ws.length):ws.take (n+1)=ws.take n++[ws[n]]:=by rw [TQ,N5 h];rfl
theorem Eb {l:List Nd} {t:Lt} (hf:t.fits (kU l)) {ws:Δ} {n:Nat} (h:n<ws.length) (he:∀j,¬(kV l t (ws.take n) j/\kU l j ws[n])) {m:Nat} (hm:n<m) (hml:m<=ws.length):¬Lg t.pat (ws.take m):=by
 obtain ⟨m,rfl⟩:∃m',m=m'+1:=⟨m - 1,by omega⟩;have hm':m<ws.length:=by omega
 rw [jm hm',Ai hf];rintro ⟨j,h1,h2,_⟩;by_cases e:m=n
 ·subst e;exact he j ⟨h1,h2⟩
 ·have h0:∀j,¬kV l t (ws.take (n+1)) j:=λj hj=>by rw [jm h] at hj;obtain ⟨i,a,b,_⟩:=(Af _ _ _ _).1 hj;exact he i ⟨a,b⟩
  have:ws.take m=ws.take (n+1)++(ws.take m).drop (n+1):=by have:=List.take_append_drop (n+1) (ws.take m);rw [List.take_take,show min (n+1) m=n+1 by omega] at this;exact this.symm
  rw [this] at h1;have h1':=(mv _ _ _ _).1 h1;exact Ah _ _ h0 j h1'
open Classical in
noncomputable def nQ (l:List Nd) (t:Lt) (w:Δ):Nat->Bool:=λj=>decide (kV l t w j)
open Classical in
noncomputable def un (l:List Nd) (b:Nat):Nat->Bool:=λi=>decide (kU l i b)
theorem kW {l:List Nd} {t:Lt} {w:Δ} {j:Nat}:nQ l t w j=true↔kV l t w j:=by simp [nQ]
theorem kX {l:List Nd} {b i:Nat}:un l b i=true↔kU l i b:=by simp [un]
theorem Oo (a0 a1 a2 a3 a4 a5 a6 a7 a8 a9 a10 a11 a12 a13 a14 a15 a16 a17 a18:Value):(#[a0,a1,a2,a3,a4,a5,a6,a7,a8,a9,a10,a11,a12,a13,a14,a15,a16,a17,a18]:Γ)[1]? =some a1:=rfl
theorem Oq (a0 a1 a2 a3 a4 a5 a6 a7 a8 a9 a10 a11 a12 a13 a14 a15 a16 a17 a18:Value):(#[a0,a1,a2,a3,a4,a5,a6,a7,a8,a9,a10,a11,a12,a13,a14,a15,a16,a17,a18]:Γ)[2]? =some a2:=rfl
theorem Ot (a0 a1 a2 a3 a4 a5 a6 a7 a8 a9 a10 a11 a12 a13 a14 a15 a16 a17 a18:Value):(#[a0,a1,a2,a3,a4,a5,a6,a7,a8,a9,a10,a11,a12,a13,a14,a15,a16,a17,a18]:Γ)[3]? =some a3:=rfl
theorem Ou (a0 a1 a2 a3 a4 a5 a6 a7 a8 a9 a10 a11 a12 a13 a14 a15 a16 a17 a18:Value):(#[a0,a1,a2,a3,a4,a5,a6,a7,a8,a9,a10,a11,a12,a13,a14,a15,a16,a17,a18]:Γ)[4]? =some a4:=rfl
theorem Ov (a0 a1 a2 a3 a4 a5 a6 a7 a8 a9 a10 a11 a12 a13 a14 a15 a16 a17 a18:Value):(#[a0,a1,a2,a3,a4,a5,a6,a7,a8,a9,a10,a11,a12,a13,a14,a15,a16,a17,a18]:Γ)[5]? =some a5:=rfl
theorem Ow (a0 a1 a2 a3 a4 a5 a6 a7 a8 a9 a10 a11 a12 a13 a14 a15 a16 a17 a18:Value):(#[a0,a1,a2,a3,a4,a5,a6,a7,a8,a9,a10,a11,a12,a13,a14,a15,a16,a17,a18]:Γ)[6]? =some a6:=rfl
theorem Ox (a0 a1 a2 a3 a4 a5 a6 a7 a8 a9 a10 a11 a12 a13 a14 a15 a16 a17 a18:Value):(#[a0,a1,a2,a3,a4,a5,a6,a7,a8,a9,a10,a11,a12,a13,a14,a15,a16,a17,a18]:Γ)[7]? =some a7:=rfl
theorem Oy (a0 a1 a2 a3 a4 a5 a6 a7 a8 a9 a10 a11 a12 a13 a14 a15 a16 a17 a18:Value):(#[a0,a1,a2,a3,a4,a5,a6,a7,a8,a9,a10,a11,a12,a13,a14,a15,a16,a17,a18]:Γ)[8]? =some a8:=rfl
theorem Oz (a0 a1 a2 a3 a4 a5 a6 a7 a8 a9 a10 a11 a12 a13 a14 a15 a16 a17 a18:Value):(#[a0,a1,a2,a3,a4,a5,a6,a7,a8,a9,a10,a11,a12,a13,a14,a15,a16,a17,a18]:Γ)[9]? =some a9:=rfl
theorem KW (a0 a1 a2 a3 a4 a5 a6 a7 a8 a9 a10 a11 a12 a13 a14 a15 a16 a17 a18:Value):(#[a0,a1,a2,a3,a4,a5,a6,a7,a8,a9,a10,a11,a12,a13,a14,a15,a16,a17,a18]:Γ)[10]? =some a10:=rfl
theorem KX (a0 a1 a2 a3 a4 a5 a6 a7 a8 a9 a10 a11 a12 a13 a14 a15 a16 a17 a18:Value):(#[a0,a1,a2,a3,a4,a5,a6,a7,a8,a9,a10,a11,a12,a13,a14,a15,a16,a17,a18]:Γ)[11]? =some a11:=rfl
theorem KY (a0 a1 a2 a3 a4 a5 a6 a7 a8 a9 a10 a11 a12 a13 a14 a15 a16 a17 a18:Value):(#[a0,a1,a2,a3,a4,a5,a6,a7,a8,a9,a10,a11,a12,a13,a14,a15,a16,a17,a18]:Γ)[12]? =some a12:=rfl
theorem KZ (a0 a1 a2 a3 a4 a5 a6 a7 a8 a9 a10 a11 a12 a13 a14 a15 a16 a17 a18:Value):(#[a0,a1,a2,a3,a4,a5,a6,a7,a8,a9,a10,a11,a12,a13,a14,a15,a16,a17,a18]:Γ)[13]? =some a13:=rfl
theorem K9 (a0 a1 a2 a3 a4 a5 a6 a7 a8 a9 a10 a11 a12 a13 a14 a15 a16 a17 a18:Value):(#[a0,a1,a2,a3,a4,a5,a6,a7,a8,a9,a10,a11,a12,a13,a14,a15,a16,a17,a18]:Γ)[14]? =some a14:=rfl
theorem La (a0 a1 a2 a3 a4 a5 a6 a7 a8 a9 a10 a11 a12 a13 a14 a15 a16 a17 a18:Value):(#[a0,a1,a2,a3,a4,a5,a6,a7,a8,a9,a10,a11,a12,a13,a14,a15,a16,a17,a18]:Γ)[15]? =some a15:=rfl
theorem Lc (a0 a1 a2 a3 a4 a5 a6 a7 a8 a9 a10 a11 a12 a13 a14 a15 a16 a17 a18:Value):(#[a0,a1,a2,a3,a4,a5,a6,a7,a8,a9,a10,a11,a12,a13,a14,a15,a16,a17,a18]:Γ)[16]? =some a16:=rfl
theorem Ec {s:Sl} {P Q:Nat->Bool} {bf n:Nat} {e:Bool} {i:Nat} (hi:i<8):(bK s P Q bf n e)[1+i]? =some (cP (wd P i))/\(bK s P Q bf n e)[9+i]? =some (cP (wd Q i)):=by
 have:i=0\/i=1\/i=2\/i=3\/i=4\/i=5\/i=6\/i=7:=by omega
 unfold bK;rcases this with rfl|rfl|rfl|rfl|rfl|rfl|rfl|rfl
 ·exact ⟨Oo _ _ _ _ _ _ _ _ _ _ _ _ _ _ _ _ _ _ _,Oz _ _ _ _ _ _ _ _ _ _ _ _ _ _ _ _ _ _ _⟩
 ·exact ⟨Oq _ _ _ _ _ _ _ _ _ _ _ _ _ _ _ _ _ _ _,KW _ _ _ _ _ _ _ _ _ _ _ _ _ _ _ _ _ _ _⟩
 ·exact ⟨Ot _ _ _ _ _ _ _ _ _ _ _ _ _ _ _ _ _ _ _,KX _ _ _ _ _ _ _ _ _ _ _ _ _ _ _ _ _ _ _⟩
 ·exact ⟨Ou _ _ _ _ _ _ _ _ _ _ _ _ _ _ _ _ _ _ _,KY _ _ _ _ _ _ _ _ _ _ _ _ _ _ _ _ _ _ _⟩
 ·exact ⟨Ov _ _ _ _ _ _ _ _ _ _ _ _ _ _ _ _ _ _ _,KZ _ _ _ _ _ _ _ _ _ _ _ _ _ _ _ _ _ _ _⟩
 ·exact ⟨Ow _ _ _ _ _ _ _ _ _ _ _ _ _ _ _ _ _ _ _,K9 _ _ _ _ _ _ _ _ _ _ _ _ _ _ _ _ _ _ _⟩
 ·exact ⟨Ox _ _ _ _ _ _ _ _ _ _ _ _ _ _ _ _ _ _ _,La _ _ _ _ _ _ _ _ _ _ _ _ _ _ _ _ _ _ _⟩
 ·exact ⟨Oy _ _ _ _ _ _ _ _ _ _ _ _ _ _ _ _ _ _ _,Lc _ _ _ _ _ _ _ _ _ _ _ _ _ _ _ _ _ _ _⟩
theorem Ed {F:PH} {bm:Nat} {s:Sl} {P Q:Nat->Bool} {bf n:Nat} {e:Bool} (h:F bm=some (.cells (bK s P Q bf n e) 232)):F.row ((Addr.mk bm 0 none).add 1) (plA P)/\F.row ((Addr.mk bm 0 none).add 9) (plA Q):=by
 constructor
 ·intro i hi;have hi':i<8:=hi;rw [cn,cn,am h,<- SZ hi,eR P hi',SP];exact (Ec hi').1
 ·intro i hi;have hi':i<8:=hi;rw [cn,cn,am h,<- SZ hi,eR Q hi',SP];exact (Ec hi').2
theorem Ee {F:PH} {bf n i:Nat} {R:Nat->Nat->Bool} (h:F bf=some (.cells (cT n R).toArray 229)) (hi:i<n):F.row ((Addr.mk bf 0 none).add (i*8)) (plA (R i)):=by
 obtain ⟨pre,post,hpre,hsp,_⟩:=nA hi R;have hs:jB F bf 229 pre (R i) post:=by unfold jB;rw [<- hsp];exact h
 have:=hs.row;rw [hpre] at this;rw [cn,SP];exact this
theorem Rh {F:PH} {s:Sl} {l:List Nd} (h:RdS F s 5 (eX l)) {i:Nat} {x:Nd} (hx:l[i]? =some x):∃a,s.base=some a/\F.row (a.add (i*5)) x.arr/\F.cell ((a.add (i*5)).add 1)=some (vi x.lo)/\F.cell ((a.add (i*5)).add 2)=some (vi x.hi):=by obtain ⟨a,h1,h2⟩:=rdn h hx;exact ⟨a,h1,h2,by have:=h2 1 (by simp);simpa using this,by have:=h2 2 (by simp);simpa using this⟩
theorem Lo.sub {G F:PH} {xs ys:List (Nat×Γ×TypeId)} (h:Lo G F xs) (hs:ys.Sublist xs):Lo G F ys:=⟨h.le,λp hp=>h.z p (hs.subset hp),h.nd.sublist (hs.map _)⟩
section
variable {G F:PH} {l:List Nd} {t:Lt} {bm b3 b4 b6 b7 b8 b9 n:Nat} {st:ByteArray} {N P8 P9:Nat->Bool}
theorem BU (hM:Mch G bm l t) (hl:l.length<=512) (h:Lo G F [(b9,plA P9,229),(b8,plA P8,229),(b7,#[vi n],3),(b6,plA N,229),(b4,#[.string st],9),(b3,#[pa bm],226)]) (hn:n<st.size) (_:st.size<=9223372036854775807) {i:Nat} (hi:i<l.length):
  aj prog 208 #[vi i,pa b4,pa b7,pa b3,pa b8,pa b9] F λr F'=>r=.tuple #[]/\
   Lo G F' [(b9,plA (λj=>P9 j || (un l (cb st n) i && foB t i j)),229),(b8,plA (λj=>P8 j || (decide (j=i) && un l (cb st n) i)),229),(b7,#[vi n],3),(b6,plA N,229),(b4,#[.string st],9),(b3,#[pa bm],226)]:=by
 obtain ⟨s,bf,qm,hs,qf⟩:=(hM.le h.le).ex;have hlen:=hs.nlen;refine OO ?_;unfold Jq;have hx:l[i]? =some l[i]:=N5 hi;generalize l[i]=x at hx;obtain ⟨a,ha,_,hlo,hhi⟩:=Rh hs hx;have c3:F.cell (Addr.mk b3 0 none)=some (pa bm):=by rw [h.cell (b:=b3) (w:= #[pa bm]) (e:=226) (by simp)];rfl
 have cm:F.cell (Addr.mk bm 0 none)=some s.v:=by rw [am qm];rfl
 have ei:Int.toNat (i:Int)=i:=N4 i;refine ⟨_,rfl,st,by rw [h.cell (b:=b4) (w:= #[.string st]) (e:=9) (by simp)];rfl,_,rfl,(n:Int),by rw [h.cell (b:=b7) (w:= #[vi n]) (e:=3) (by simp)];rfl,by omega,by omega,by simpa using hn,_,rfl,_,rfl,_,c3,_,rfl,s,cm,a,ha,by omega,by omega,x.lo,by rw [ei];exact hlo,?_⟩;rw [Lz rfl hn,MX (by have:=Hg st n;omega)]
 have j1:∀tt:Bool,tt=un l (cb st n) i->oL i (some ⟨b3,0,none⟩) (some ⟨b8,0,none⟩) (some ⟨b9,0,none⟩) tt (λr F'=>r=.tuple #[]/\
   Lo G F' [(b9,plA (λj=>P9 j || (un l (cb st n) i && foB t i j)),229),(b8,plA (λj=>P8 j || (decide (j=i) && un l (cb st n) i)),229),(b7,#[vi n],3),(b6,plA N,229),(b4,#[.string st],9),(b3,#[pa bm],226)]) F:=λtt htt=>by
  unfold oL;refine ⟨λht=> ?_,λht=> ?_⟩
  ·rw [ht] at htt;rw [<- htt];refine (Lo.add [(b9,plA P9,229)] _ (b:=b8) (P:=P8) (by omega) h).mono ?_;rintro _ F2 ⟨rfl,h2⟩;replace h2:Lo G F2 [(b9,plA P9,229),(b8,plA (λj=>P8 j || decide (j=i)),229),(b7,#[vi n],3),(b6,plA N,229),(b4,#[.string st],9),(b3,#[pa bm],226)]:=h2;obtain ⟨s2,bf2,qm2,hs2,qf2⟩:=(hM.le h2.le).ex;have c3':F2.cell (Addr.mk b3 0 none)=some (pa bm):=by rw [h2.cell (b:=b3) (w:= #[pa bm]) (e:=226) (by simp)];rfl
   refine ⟨rfl,_,rfl,_,c3',_,rfl,_,by rw [cn,SP,am qm2];rfl,_,rfl,by omega,by simp only;omega,plA (foB t i),rfl,by rw [ei];exact Ee qf2 hi,?_⟩;refine (Lo.join [] _ (b:=b9) (P:=P9) (Q:=foB t i) h2).mono ?_;rintro _ F3 ⟨rfl,h3⟩;have e1:(λj=>P9 j || (true && foB t i j))=λj=>P9 j || foB t i j:=by funext j;simp
   have e2:(λj=>P8 j || (decide (j=i) && true))=λj=>P8 j || decide (j=i):=by funext j;simp
   rw [e1,e2];exact ⟨rfl,rfl,h3⟩
  ·rw [ht] at htt;rw [<- htt];have e1:(λj=>P9 j || (false && foB t i j))=P9:=by funext j;simp
   have e2:(λj=>P8 j || (decide (j=i) && false))=P8:=by funext j;simp
   rw [e1,e2];exact ⟨rfl,h⟩
 refine ⟨λh1=>⟨_,c3,_,rfl,s,cm,a,ha,by omega,by omega,x.hi,by rw [ei];exact hhi,j1 _ ?_⟩,λh1=>j1 _ ?_⟩
 ·rw [SG,decide_eq_true_eq,kX];constructor
  ·exact λh2=>⟨x,hx,h1,h2⟩
  ·rintro ⟨y,hy,_,h2⟩;rw [hx] at hy;cases hy;exact h2
 ·symm;rw [<- T8,kX];rintro ⟨y,hy,h2,_⟩;rw [hx] at hy;cases hy;exact h1 h2
theorem Ld:aB prog 208=true:=by kernel_rfl
theorem Ef {acc fol:Nat->Nat->Prop} {P:Nat->Prop} (hf:∀i j,fol i j->P j):∀(w:Δ) (S:Nat->Prop),(∀j,S j->P j)->∀j,Nx acc fol S w j->P j
 |[],S,hS,j,h=>hS j h
 |b::w,S,_,j,h=>Ef hf w _ (λj ⟨i,_,_,h⟩=>hf i j h) j h
theorem qh {l:List Nd} {i0:Nat} {t:Lt} {ns:Δ} (ht:cO l i0 t ns) {w:Δ} {j:Nat} (h:kV l t w j):j<l.length:=
 Ef (P:=λj=>j<l.length) (λi j h=>(dH ht).1 j ((dH ht).2 j (t.fol_lab h).2)) w t.first (λj h=>(dH ht).1 j ((dH ht).2 j (t.first_lab h))) j h
theorem Eg {l:List Nd} {t:Lt} (w:Δ) (b j:Nat):kV l t (w++[b]) j↔∃i,kV l t w i/\kU l i b/\t.fol i j:=Af w b _ j
theorem Lo.le' {G F F':PH} {xs:List (Nat×Γ×TypeId)} (h:Lo G F xs) (hl:F.le F'):Lo G F' xs:=⟨aa h.le hl,λp hp=>⟨hl _ _ (h.z p hp).1,(h.z p hp).2⟩,h.nd⟩
open Classical in
noncomputable def reB (l:List Nd) (t:Lt) (w:Δ) (b m:Nat):Nat->Bool:=λj=>decide (j<m/\kV l t w j/\kU l j b)
theorem jo {l:List Nd} {t:Lt} {w:Δ} {b m j:Nat}:reB l t w b m j=true↔j<m/\kV l t w j/\kU l j b:=by simp [reB]
open Classical in
noncomputable def nxB (l:List Nd) (t:Lt) (w:Δ) (b m:Nat):Nat->Bool:=λj=>decide (∃i,i<m/\kV l t w i/\kU l i b/\t.fol i j)
theorem jp {l:List Nd} {t:Lt} {w:Δ} {b m j:Nat}:nxB l t w b m j=true↔∃i,i<m/\kV l t w i/\kU l i b/\t.fol i j:=by simp [nxB]
set_option maxHeartbeats 1000000 in
theorem Eh {k:FuncId} {cap:Γ} {Inv:Nat->Ψ} (hk:aB prog k=true) (hl:l.length<=512) (hG:GoodL l) {ns:Δ} {i0:Nat} (ht:cO l i0 t ns) (hns:st.size<=9223372036854775806)
  (hI:∀n F,Inv n F->Tab F/\Mch F bm l t)
  (h1:∀n F (q:Bool),n<st.size->(q=true↔Lg t.pat ((bs st).take (n+1)))->Inv n F->aj prog k (#[vi ((n+1:Nat):Int),.bool q]++cap) F λr F'=>r=.bool true/\Inv (n+1) F') (hF:Inv 0 F):
  aj prog 185 #[pa bm,.string st,.func (.func k) #[] cap] F λr F'=>r=.tuple #[]/\∃n G,n<=st.size/\Inv n G/\G.le F'/\(n=st.size\/∀m,n<m->m<=st.size->¬Lg t.pat ((bs st).take m)):=by
 have hfit:=BT hG ht;refine OH ?_;unfold Jj;have h:=Lo.start F;refine h.new _ _ λb3 F1 h=> ?_;refine h.new _ _ λb4 F2 h=> ?_;obtain ⟨s,bf,qm,hs,qf⟩:=((hI 0 F hF).2.le h.le).ex;refine ⟨_,by rw [h.cell (b:=b3) (w:= #[pa bm]) (e:=226) (by simp)];rfl,_,rfl,plA (fB t),rfl,(Ed qm).1,?_⟩;refine h.new _ _ λb6 F3 h=> ?_;rw [<- bF] at h;refine Lo.put [] _ (n:=8) (b:=b6) (w0:=plA noP) (w:=plA (fB t)) (e:=229) h rfl rfl (bx _) λF4 h=> ?_;replace h:Lo F F4 [(b6,plA (fB t),229),(b4,#[.string st],9),(b3,#[pa bm],226)]:=h;have e0:fB t=nQ l t ((bs st).take 0):=by funext j;rw [SG,dQ,kW];rfl
 rw [e0] at h;refine ⟨st,by rw [h.cell (b:=b4) (w:= #[.string st]) (e:=9) (by simp)];rfl,λM v F'=>∃n G,v=((n:Nat):Int)/\n<=st.size/\M=st.size - n/\Inv n G/\Lo G F' [(b6,plA (nQ l t ((bs st).take n)),229),(b4,#[.string st],9),(b3,#[pa bm],226)],st.size,⟨0,F,rfl,Nat.zero_le _,rfl,hF,h⟩,?_⟩;clear h qm hs qf e0;rintro _ _ F5 ⟨n,G,rfl,hn,rfl,hIn,h⟩;unfold Ax;refine ⟨λhlt=> ?_,λhge=>⟨rfl,n,G,hn,hIn,h.le,.inl (by omega)⟩⟩;have hlt:n<st.size:=by omega
 have hltb:n<(bs st).length:=by rw [fE];exact hlt
 have hcb:cb st n=(bs st)[n]:=by rw [Js,Td,N5 hltb];rfl
 refine h.new _ _ λb7 F6 h=> ?_;refine Lo.put1 [] _ (b:=b7) (i:=0) (w0:= #[vi 0]) (w:= #[vi n]) (e:=3) h (by simp) rfl λF7 h=> ?_;replace h:Lo G F7 [(b7,#[vi n],3),(b6,plA (nQ l t ((bs st).take n)),229),(b4,#[.string st],9),(b3,#[pa bm],226)]:=h;refine h.new _ _ λb8 F8 h=> ?_;refine h.new _ _ λb9 F9 h=> ?_;rw [<- bF] at h;obtain ⟨hT,hM⟩:=hI n G hIn
 refine (sP (a:=⟨b6,0,none⟩) (P:=nQ l t ((bs st).take n)) (k:=208) (cap:= #[pa b4,pa b7,pa b3,pa b8,pa b9])
  (Inv:=λm F'=>Lo G F' [(b9,plA (nxB l t ((bs st).take n) (cb st n) m),229),(b8,plA (reB l t ((bs st).take n) (cb st n) m),229),(b7,#[vi n],3),(b6,plA (nQ l t ((bs st).take n)),229),(b4,#[.string st],9),(b3,#[pa bm],226)])
  Ld rfl (λm F' hI'=>⟨hT.le hI'.le,hI'.row (b:=b6) (w:=plA (nQ l t ((bs st).take n))) (e:=229) (by simp)⟩) ?_ ?_ ?_).mono ?_
 ·intro i F' hi hp hI';have hnp:¬kV l t ((bs st).take n) i:=λh=>by rw [kW.2 h] at hp;cases hp
  have e9:nxB l t ((bs st).take n) (cb st n) (i+1)=nxB l t ((bs st).take n) (cb st n) i:=by
   funext j;rw [SG,jp,jp];constructor
   ·rintro ⟨i',h1,h2,h3⟩;have:i'≠i:=λe=>hnp (e▸h2);exact ⟨i',by omega,h2,h3⟩
   ·rintro ⟨i',h1,h2,h3⟩;exact ⟨i',by omega,h2,h3⟩
  have e8:reB l t ((bs st).take n) (cb st n) (i+1)=reB l t ((bs st).take n) (cb st n) i:=by
   funext j;rw [SG,jo,jo];constructor
   ·rintro ⟨h1,h2,h3⟩;have:j≠i:=λe=>hnp (e▸h2);exact ⟨by omega,h2,h3⟩
   ·rintro ⟨h1,h2,h3⟩;exact ⟨by omega,h2,h3⟩
  rw [e9,e8];exact hI'
 ·intro i F' hi hp hI';have hnp:=kW.1 hp;have hil:=qh ht hnp;refine (BU hM hl hI' hlt (by omega) hil).mono ?_;rintro _ F'' ⟨rfl,h2⟩;refine ⟨rfl,?_⟩;have e9:(λj=>nxB l t ((bs st).take n) (cb st n) i j || (un l (cb st n) i && foB t i j))=nxB l t ((bs st).take n) (cb st n) (i+1):=by
   funext j;rw [SG,Ty,Tj,jp,jp,kX,jq];constructor
   ·rintro (⟨i',h1,h2⟩|⟨h1,h2⟩)
    ·exact ⟨i',by omega,h2⟩
    ·exact ⟨i,by omega,hnp,h1,h2⟩
   ·rintro ⟨i',h1,h2,h3⟩;by_cases e:i'=i
    ·subst e;exact .inr h3
    ·exact .inl ⟨i',by omega,h2,h3⟩
  have e8:(λj=>reB l t ((bs st).take n) (cb st n) i j || (decide (j=i) && un l (cb st n) i))=reB l t ((bs st).take n) (cb st n) (i+1):=by
   funext j;rw [SG,Ty,Tj,jo,jo,decide_eq_true_eq,kX];constructor
   ·rintro (⟨h1,h2⟩|⟨h1,h2⟩)
    ·exact ⟨by omega,h2⟩
    ·subst h1;exact ⟨by omega,hnp,h2⟩
   ·rintro ⟨h1,h2,h3⟩;by_cases e:j=i
    ·subst e;exact .inr ⟨rfl,h3⟩
    ·exact .inl ⟨by omega,h2,h3⟩
  rw [e9,e8] at h2;exact h2
 ·have e9:nxB l t ((bs st).take n) (cb st n) 0=noP:=by funext j;show _=false;rw [<- T8,jp];rintro ⟨i,h,_⟩;omega
  have e8:reB l t ((bs st).take n) (cb st n) 0=noP:=by funext j;show _=false;rw [<- T8,jo];rintro ⟨h,_⟩;omega
  rw [e9,e8];exact h
 ·clear h;rintro _ F10 ⟨rfl,h⟩;generalize hre:reB l t ((bs st).take n) (cb st n) 512=re at h;generalize hnx:nxB l t ((bs st).take n) (cb st n) 512=nx at h;have hre':∀j,re j=true↔kV l t ((bs st).take n) j/\kU l j (cb st n):=λj=>by rw [<- hre,jo];exact ⟨λh=>h.2,λh=>⟨by have:=qh ht h.1;omega,h⟩⟩
  have hnx':nx=nQ l t ((bs st).take (n+1)):=by
   rw [<- hnx];funext j;rw [SG,jp,kW,jm hltb,Eg,<- hcb];constructor
   ·rintro ⟨i',_,h2⟩;exact ⟨i',h2⟩
   ·rintro ⟨i',h2⟩;exact ⟨i',by have:=qh ht h2.1;omega,h2⟩
  refine ⟨rfl,plA re,rfl,h.row (b:=b8) (w:=plA re) (e:=229) (by simp),_,λF=>by have:=Rg (F:=F) re noP;rw [bF] at this;exact this,λhz=> ?_,λhz=> ?_⟩
  ·have hz':=(BS re).1 hz;refine ⟨rfl,n,G,hn,hIn,h.le,.inr λm hm hml=>Eb hfit hltb (λj hj=> ?_) hm (by rw [fE];exact hml)⟩;rw [<- hcb] at hj;have:=hz' j (by have:=qh ht hj.1;omega);rw [(hre' j).2 hj] at this;cases this
  ·obtain ⟨s,bf,qm,hs,qf⟩:=(hM.le h.le).ex;have c7:∀{F' G':PH},Lo G' F' [(b9,plA nx,229),(b8,plA re,229),(b7,#[vi n],3),(b6,plA (nQ l t ((bs st).take n)),229),(b4,#[.string st],9),(b3,#[pa bm],226)]->F'.cell (Addr.mk b7 0 none)=some (vi n):=λh=>by rw [h.cell (b:=b7) (w:= #[vi n]) (e:=3) (by simp)];rfl
   have c3:∀{F' G':PH},Lo G' F' [(b9,plA nx,229),(b8,plA re,229),(b7,#[vi n],3),(b6,plA (nQ l t ((bs st).take n)),229),(b4,#[.string st],9),(b3,#[pa bm],226)]->F'.cell (Addr.mk b3 0 none)=some (pa bm):=λh=>by rw [h.cell (b:=b3) (w:= #[pa bm]) (e:=226) (by simp)];rfl
   refine ⟨_,c7 h,_,c3 h,_,rfl,plA (lB t),rfl,(Ed qm).2,?_⟩;refine (wx (pre:=[]) (post:=[]) (Q:=lB t) (jB.own.2 (h.get (b:=b8) (w:=plA re) (e:=229) (by simp)))).mono ?_;rintro _ F11 ⟨⟨q,rfl,hq⟩,l11⟩;replace h:=h.le' l11;have hq':q=true↔Lg t.pat ((bs st).take (n+1)):=by
    rw [hq,jm hltb,Ai hfit,<- hcb];constructor
    ·rintro ⟨i,_,h2,h3⟩;obtain ⟨h4,h5⟩:=(hre' i).1 h2;exact ⟨i,h4,h5,di.1 h3⟩
    ·rintro ⟨i,h4,h5,h3⟩;exact ⟨i,by have:=qh ht h4;omega,(hre' i).2 ⟨h4,h5⟩,di.2 h3⟩
   refine ⟨q,rfl,c3 h,c7 h,h.row (b:=b8) (w:=plA re) (e:=229) (by simp),k,#[],cap,rfl,hk,?_⟩;have hcall:=h.call (h1 n G q hlt hq' hIn);rw [iR (by omega)];refine aj.mono (R:=λr F'=>∃G',(r=.bool true/\Inv (n+1) G')/\Lo G' F' _) (by simpa using hcall) ?_;clear hcall h;rintro _ F12 ⟨G',⟨rfl,hIn'⟩,h⟩;refine ⟨true,rfl,c3 h,c7 h,h.row (b:=b8) (w:=plA re) (e:=229) (by simp),λhh=>by simp at hh,λ_=>⟨plA nx,rfl,h.row (b:=b9) (w:=plA nx) (e:=229) (by simp),?_⟩⟩;refine Lo.put [(b9,plA nx,229),(b8,plA re,229),(b7,#[vi n],3)] _ (n:=8) (b:=b6) (w0:=plA (nQ l t ((bs st).take n))) (w:=plA nx) (e:=229) h rfl rfl (bx _) λF13 h=> ?_;replace h:Lo G' F13 [(b9,plA nx,229),(b8,plA re,229),(b7,#[vi n],3),(b6,plA nx,229),(b4,#[.string st],9),(b3,#[pa bm],226)]:=h;rw [hnx'] at h;exact ⟨st.size - (n+1),by omega,n+1,G',rfl,hlt,rfl,hIn',h.sub (.cons _ (.cons _ (.cons _ (List.Sublist.refl _))))⟩
end
end Go.Proofs.YtcemhghkipgdiaaGreatDoor
