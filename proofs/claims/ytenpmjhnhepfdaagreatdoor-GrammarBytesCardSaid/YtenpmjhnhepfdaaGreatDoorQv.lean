/-
  Equality of nodes and of sets of places.
-/
import Derived.Test.YtenpmjhnhepfdaaGreatDoorQs
import Derived.Test.YtenpmjhnhepfdaaGreatDoorQr
namespace Go.Proofs.YtenpmjhnhepfdaaGreatDoor
open Go Go.Proofs.Tryz
set_option maxRecDepth 10000
def bC (s:Sl) (P Q:Nat→Bool) (bf n:Nat) (e:Bool):Array Value:=
 #[s.v,cy (wd P 0),cy (wd P 1),cy (wd P 2),cy (wd P 3),cy (wd P 4),cy (wd P 5),cy (wd P 6),cy (wd P 7),
  cy (wd Q 0),cy (wd Q 1),cy (wd Q 2),cy (wd Q 3),cy (wd Q 4),cy (wd Q 5),cy (wd Q 6),cy (wd Q 7),Sl.v ⟨some ⟨bf,0,none⟩,n,n⟩,.bool e]
theorem Ma (a0 a1 a2 a3 a4 a5 a6 a7 a8 a9 a10 a11 a12 a13 a14 a15 a16 a17 a18 v0 v1 v2 v3 v4 v5 v6 v7:Value):wr (#[a0,a1,a2,a3,a4,a5,a6,a7,a8,a9,a10,a11,a12,a13,a14,a15,a16,a17,a18]:Array Value) 1 [v0,v1,v2,v3,v4,v5,v6,v7]= #[a0,v0,v1,v2,v3,v4,v5,v6,v7,a9,a10,a11,a12,a13,a14,a15,a16,a17,a18]:=
 (iL [v0,v1,v2,v3,v4,v5,v6,v7] [a0,a1,a2,a3,a4,a5,a6,a7,a8,a9,a10,a11,a12,a13,a14,a15,a16,a17,a18] 1 (by show 9≤19;omega)).trans rfl
theorem Mb (a0 a1 a2 a3 a4 a5 a6 a7 a8 a9 a10 a11 a12 a13 a14 a15 a16 a17 a18 v0 v1 v2 v3 v4 v5 v6 v7:Value):wr (#[a0,a1,a2,a3,a4,a5,a6,a7,a8,a9,a10,a11,a12,a13,a14,a15,a16,a17,a18]:Array Value) 9 [v0,v1,v2,v3,v4,v5,v6,v7]= #[a0,a1,a2,a3,a4,a5,a6,a7,a8,v0,v1,v2,v3,v4,v5,v6,v7,a17,a18]:=
 (iL [v0,v1,v2,v3,v4,v5,v6,v7] [a0,a1,a2,a3,a4,a5,a6,a7,a8,a9,a10,a11,a12,a13,a14,a15,a16,a17,a18] 9 (by show 17≤19;omega)).trans rfl
theorem Mc (s:Sl) (P P' Q:Nat→Bool) (bf n:Nat) (e:Bool):wr (bC s P' Q bf n e) 1 (plA P).toList=bC s P Q bf n e:=Ma _ _ _ _ _ _ _ _ _ _ _ _ _ _ _ _ _ _ _ _ _ _ _ _ _ _ _
theorem Md (s:Sl) (P Q' Q:Nat→Bool) (bf n:Nat) (e:Bool):wr (bC s P Q' bf n e) 9 (plA Q).toList=bC s P Q bf n e:=Mb _ _ _ _ _ _ _ _ _ _ _ _ _ _ _ _ _ _ _ _ _ _ _ _ _ _ _
theorem Me (s:Sl) (P Q:Nat→Bool) (bf n:Nat) (e e':Bool):(bC s P Q bf n e).setIfInBounds 18 (.bool e')=bC s P Q bf n e':=rfl
def noR:Nat→Nat→Bool:=fun _ _=>false
theorem rn:∀n:Nat,cG n noR=List.replicate (n*8) (.int .u64 0)
 |0=>rfl
 |n+1=>by
  have:=rn n
  unfold cG at this ⊢
  rw [List.range_succ,List.flatMap_append,this,List.flatMap_cons,List.flatMap_nil,List.append_nil]
  have e:(plA (noR n)).toList=List.replicate 8 (.int .u64 0):=by
   show (plA noP).toList=_
   rw [bo]
   rfl
  rw [e,List.replicate_append_replicate]
  congr 1
  omega
theorem CR:tsz prog 275=some (8,64):=by kernel_rfl
theorem CS:bu prog 275=some (.agg #[.int .u64 0,.int .u64 0,.int .u64 0,.int .u64 0,.int .u64 0,.int .u64 0,.int .u64 0,.int .u64 0]):=by kernel_rfl
theorem zc8 (n:Nat):Builtin.zeroCells (Value.agg #[.int .u64 0,.int .u64 0,.int .u64 0,.int .u64 0,.int .u64 0,.int .u64 0,.int .u64 0,.int .u64 0]).cells n=(cG n noR).toArray:=by
 rw [rn]
 have hz:(Value.agg #[.int .u64 0,.int .u64 0,.int .u64 0,.int .u64 0,.int .u64 0,.int .u64 0,.int .u64 0,.int .u64 0]).cells=(List.replicate 8 (Value.int .u64 0)).toArray:=rfl
 rw [hz]
 apply Array.ext
 ·simp [Builtin.zeroCells]
 ·intro i h1 h2
  simp only [Builtin.zeroCells,Array.getElem_map,Array.getElem_range,List.getElem_toArray,List.getElem_replicate]
  have:i % (List.replicate 8 (Value.int .u64 0)).toArray.size<8:=Nat.mod_lt _ (by decide)
  rw [getElem!_pos _ _ (by simpa using this)]
  simp only [List.size_toArray,List.length_replicate,List.getElem_toArray,List.getElem_replicate]
structure Mch (F:PH) (bm:Nat) (l:List Nd) (t:Lt):Prop where
 ex:∃(s:Sl) (bf:Nat),F bm=some (.cells (bC s (fB t) (lB t) bf l.length t.nul) 278)∧RdS F s 5 (eg l)∧F bf=some (.cells (cG l.length (foB t)).toArray 275)
theorem Mch.le {F G:PH} {bm:Nat} {l:List Nd} {t:Lt} (h:Mch F bm l t) (hl:F.le G):Mch G bm l t:=by
 obtain ⟨s,bf,a,b,c⟩:=h.ex
 exact ⟨s,bf,hl _ _ a,b.le hl,hl _ _ c⟩
theorem Tab.zero {F:PH} (h:Tab F):∃o,F 0=some o:=by
 have:=h 0 0 rfl
 unfold PH.cell at this
 cases hz:F 0 with
 |none=>rw [hz] at this;cases this
 |some o=>exact ⟨o,rfl⟩
theorem RdS.block {F:PH} {s:Sl} {size:Nat} {vs:List Value} (h:RdS F s size vs) (hv:0<vs.length) {a:Addr} (ha:s.base=some a):∃o,F a.block=some o:=by
 have hp:0<s.len:=by
  rcases Nat.eq_zero_or_pos s.len with h0|h0
  ·have:=h.len;rw [h0,Nat.zero_mul] at this;omega
  ·exact h0
 obtain ⟨b,o,h1,h2⟩:=h.cells hp
 rw [ha] at h1
 cases h1
 have hc:=h2 0 hv
 unfold PH.cell at hc
 cases hz:F b with
 |none=>simp only [hz] at hc;cases hc
 |some ob=>exact ⟨ob,rfl⟩
theorem Lo.new' {G F:PH} {xs:List (Nat×Array Value×TypeId)} (h:Lo G F xs) (c:Array Value) (e:TypeId) {b:Nat} (hb:F b=none):Lo G (F.set b (.cells c e)) ((b,c,e)::xs):=
 atE (h.new c e (K:=fun b F'=>Lo G F' ((b,c,e)::xs)) (fun _ _ h=>h) b hb)
section
variable {F0 F:PH} {l:List Nd}
set_option maxHeartbeats 1000000 in
theorem wF {s:Sl} {b1 b3 bm bf:Nat} (hT:Tab F0) (hG:GoodL l) (hl:l.length≤512) (hs:RdS F0 s 5 (eg l)) (le:F0.le F) (q1:F b1=some (.cells #[s.v] 77)) (q3:F b3=some (.cells #[pa bm] 272))
  (qm:F bm=some (.cells (bC s noP noP bf l.length false) 278)) (qf:F bf=some (.cells (cG l.length noR).toArray 275)) (zm:F0 bm=none) (zf:F0 bf=none) {R:Value→PH→Prop}
  (k:∀F',Mch F' bm l (bv l)→F0.le F'→R (pa bm) F'):iU b1 (some ⟨b3,0,none⟩) R F:=by
 obtain ⟨ns,ht⟩:=gA hG
 have hlen:=hs.nlen
 have hpos:=List.length_pos_iff.2 hG.ne
 have h0:bf≠0:=fun e=>by
  obtain ⟨o,ho⟩:=hT.zero
  rw [e,ho] at zf
  cases zf
 unfold iU
 intro b4 hb4
 refine atI ?_
 have l4:=ae (.cells #[.nilFunc] 303) hb4
 have q4:=an F b4 (.cells #[.nilFunc] 303)
 have le4:=aa le l4
 replace q1:=l4 _ _ q1
 replace q3:=l4 _ _ q3
 replace qm:=l4 _ _ qm
 replace qf:=l4 _ _ qf
 have z4:F0 b4=none:=aU le hb4
 clear l4 hb4 le
 generalize F.set b4 (.cells #[.nilFunc] 303)=F1 at*
 intro b5 hb5
 refine atI ?_
 have l5:=ae (.cells #[.nilFunc] 306) hb5
 have q5:=an F1 b5 (.cells #[.nilFunc] 306)
 have le5:=aa le4 l5
 replace q1:=l5 _ _ q1
 replace q3:=l5 _ _ q3
 replace qm:=l5 _ _ qm
 replace qf:=l5 _ _ qf
 have n45:b4≠b5:=aG hb5 q4
 replace q4:=l5 _ _ q4
 have z5:F0 b5=none:=aU le4 hb5
 clear l5 hb5 le4
 generalize F1.set b5 (.cells #[.nilFunc] 306)=F2 at*
 have ne:∀{x y:Nat} {c d:Array Value} {e e':TypeId},e≠e'→F2 x=some (.cells c e)→F2 y=some (.cells d e')→x≠y:=fun he hx hy e=>by
  rw [e,hy] at hx
  simp at hx
  exact he hx.2.symm
 refine st1 (o:=0) q5 (by simp) ?_
 show ∃c e,_
 have e5:(#[Value.nilFunc]:Array Value).setIfInBounds 0 (.func (.func 222) #[] #[pa b3])= #[.func (.func 222) #[] #[pa b3]]:=rfl
 rw [e5]
 have le6:=aw (o:=.cells #[.func (.func 222) #[] #[pa b3]] 306) le5 z5
 have q1':(F2.set b5 (.cells #[.func (.func 222) #[] #[pa b3]] 306)) b1=_:=(az _ _ (ne (by decide) q1 q5)).trans q1
 have q3':(F2.set b5 (.cells #[.func (.func 222) #[] #[pa b3]] 306)) b3=_:=(az _ _ (ne (by decide) q3 q5)).trans q3
 have qm':(F2.set b5 (.cells #[.func (.func 222) #[] #[pa b3]] 306)) bm=_:=(az _ _ (ne (by decide) qm q5)).trans qm
 have qf':(F2.set b5 (.cells #[.func (.func 222) #[] #[pa b3]] 306)) bf=_:=(az _ _ (ne (by decide) qf q5)).trans qf
 have q4':(F2.set b5 (.cells #[.func (.func 222) #[] #[pa b3]] 306)) b4=_:=(az _ _ n45).trans q4
 have q5':=an F2 b5 (.cells #[.func (.func 222) #[] #[pa b3]] 306)
 clear q1 q3 qm qf q4 q5 le5 ne
 generalize F2.set b5 (.cells #[.func (.func 222) #[] #[pa b3]] 306)=F3 at*
 have ne:∀{x y:Nat} {c d:Array Value} {e e':TypeId},e≠e'→F3 x=some (.cells c e)→F3 y=some (.cells d e')→x≠y:=fun he hx hy e=>by
  rw [e,hy] at hx
  simp at hx
  exact he hx.2.symm
 refine st1 (o:=0) q4' (by simp) ?_
 have e4:(#[Value.nilFunc]:Array Value).setIfInBounds 0 (.func (.func 226) #[] #[pa b1,pa b4,pa b5])= #[.func (.func 226) #[] #[pa b1,pa b4,pa b5]]:=rfl
 rw [e4]
 have le7:=aw (o:=.cells #[.func (.func 226) #[] #[pa b1,pa b4,pa b5]] 303) le6 z4
 have q1:(F3.set b4 (.cells #[.func (.func 226) #[] #[pa b1,pa b4,pa b5]] 303)) b1=_:=(az _ _ (ne (by decide) q1' q4')).trans q1'
 have q3:(F3.set b4 (.cells #[.func (.func 226) #[] #[pa b1,pa b4,pa b5]] 303)) b3=_:=(az _ _ (ne (by decide) q3' q4')).trans q3'
 have qm:(F3.set b4 (.cells #[.func (.func 226) #[] #[pa b1,pa b4,pa b5]] 303)) bm=_:=(az _ _ (ne (by decide) qm' q4')).trans qm'
 have qf:(F3.set b4 (.cells #[.func (.func 226) #[] #[pa b1,pa b4,pa b5]] 303)) bf=_:=(az _ _ (ne (by decide) qf' q4')).trans qf'
 have q5:(F3.set b4 (.cells #[.func (.func 226) #[] #[pa b1,pa b4,pa b5]] 303)) b5=_:=(az _ _ n45.symm).trans q5'
 have q4:=an F3 b4 (.cells #[.func (.func 226) #[] #[pa b1,pa b4,pa b5]] 303)
 clear q1' q3' qm' qf' q4' q5' le6 ne
 generalize F3.set b4 (.cells #[.func (.func 226) #[] #[pa b1,pa b4,pa b5]] 303)=F4 at*
 have hs4:=hs.le le7
 have hC:Cmp F4 b1 b3 b4 b5 bm bf l noR:=by
  refine ⟨⟨hT.le le7,q3,⟨_,qm,rfl⟩,qf⟩,⟨s,q1,hs4,fun a ha e=> ?_⟩,q4,q5⟩
  obtain ⟨o,ho⟩:=hs.block (by rw [gB];omega) ha
  rw [e,zf] at ho
  cases ho
 have c3:F4.cell (Addr.mk b3 0 none)=some (pa bm):=by rw [am q3];rfl
 refine ⟨_,rfl,_,c3,_,c3,_,c3,_,by rw [am q4];rfl,s,by rw [am q1];rfl,226,#[],_,rfl,lN,?_⟩
 have ew:IntKind.i64.wrap ((s.len:Int) - 1)=((l.length - 1:Nat):Int):=by rw [hlen,aK (by omega) (by omega)];omega
 rw [ew]
 refine (An hl h0 ht hC).mono ?_
 rintro _ F5 ⟨rfl,hC5,hK⟩
 have hne:∀{x:Nat} {c:Array Value} {e:TypeId},e≠275→F4 x=some (.cells c e)→x≠bf:=fun he hx e=>by
  rw [e,qf] at hx
  simp at hx
  exact he hx.2.symm
 have q1:=hK _ _ q1 (hne (by decide) q1)
 have q3:=hK _ _ q3 (hne (by decide) q3)
 have qm:=hK _ _ qm (hne (by decide) qm)
 have le8:F0.le F5:=fun y o hy=>hK y o (le7 y o hy) fun e=>by rw [e,zf] at hy;cases hy
 have c3:∀{G:PH},G b3=some (.cells #[pa bm] 272)→G.cell (Addr.mk b3 0 none)=some (pa bm):=fun h=>by rw [am h];rfl
 have n3m:b3≠bm:=fun e=>by rw [e,qm] at q3;simp at q3
 have nfm:bf≠bm:=fun e=>by rw [← e,hC5.lnk.qf] at qm;simp at qm
 have nsm:∀a,s.base=some a→a.block≠bm:=fun a ha e=>by
  obtain ⟨o,ho⟩:=hs.block (by rw [gB];omega) ha
  rw [e,zm] at ho
  cases ho
 have qf:=hC5.lnk.qf
 have hs5:=hs.le le8
 clear hC hC5 hK hne
 refine ⟨_,_,_,rfl,by rw [am q1];rfl,c3 q3,c3 q3,c3 q3,_,rfl,rfl,bi _,_,_,qm,rfl,(by show 9≤19;omega),?_⟩
 refine atI ?_
 have w1:wr (bC s noP noP bf l.length false) ((Addr.mk bm 0 none).add 1).off (plA (fB (bv l))).toList=bC s (fB (bv l)) noP bf l.length false:=Mc _ _ _ _ _ _ _
 rw [w1]
 show (F5.set bm _).cell _=_∧_
 have q3a:(F5.set bm (.cells (bC s (fB (bv l)) noP bf l.length false) 278)) b3=_:=(az _ _ n3m).trans q3
 have qma:=an F5 bm (.cells (bC s (fB (bv l)) noP bf l.length false) 278)
 refine ⟨c3 q3a,c3 q3a,_,rfl,rfl,bi _,_,_,qma,rfl,(by show 17≤19;omega),?_⟩
 refine atI ?_
 have w2:wr (bC s (fB (bv l)) noP bf l.length false) ((Addr.mk bm 0 none).add 9).off (plA (lB (bv l))).toList=bC s (fB (bv l)) (lB (bv l)) bf l.length false:=Md _ _ _ _ _ _ _
 rw [w2]
 rw [show ((F5.set ((Addr.mk bm 0 none).add 1).block (.cells (bC s (fB (bv l)) noP bf l.length false) 278)).set ((Addr.mk bm 0 none).add 9).block (.cells (bC s (fB (bv l)) (lB (bv l)) bf l.length false) 278))=F5.set bm (.cells (bC s (fB (bv l)) (lB (bv l)) bf l.length false) 278) from ba _ _ _ _]
 have q3b:(F5.set bm (.cells (bC s (fB (bv l)) (lB (bv l)) bf l.length false) 278)) b3=_:=(az _ _ n3m).trans q3
 have qmb:=an F5 bm (.cells (bC s (fB (bv l)) (lB (bv l)) bf l.length false) 278)
 refine ⟨c3 q3b,_,rfl,?_⟩
 refine ql (b:=bm) (o:=18) rfl qmb (by show 18<19;omega) ?_
 rw [ba]
 have w3:(bC s (fB (bv l)) (lB (bv l)) bf l.length false).setIfInBounds 18 (.bool (bv l).nul)=bC s (fB (bv l)) (lB (bv l)) bf l.length (bv l).nul:=Me _ _ _ _ _ _ _
 rw [w3]
 refine ⟨_,c3 ((az _ _ n3m).trans q3),k _ ⟨s,bf,an _ _ _,hs5.keep fun a ha o ho=>(az _ _ (nsm a ha)).trans ho,?_⟩ (aw le8 zm)⟩
 rw [az _ _ nfm,qf]
 congr 3
theorem sT {s:Sl} (hT:Tab F) (hG:GoodL l) (hl:l.length≤512) (hs:RdS F s 5 (eg l)):ac prog 203 #[s.v] F fun r F'=>(∃bm,r=pa bm∧Mch F' bm l (bv l))∧F.le F':=by
 have hlen:=hs.nlen
 refine MM ?_
 unfold GP
 have fin:∀{F':PH} {xs:List (Nat×Array Value×TypeId)} {b1 bf bm b3:Nat},Lo F F' xs→(b1,#[s.v],77)∈xs→(b3,#[pa bm],272)∈xs→
   (bm,(#[s.v,.int .u64 0,.int .u64 0,.int .u64 0,.int .u64 0,.int .u64 0,.int .u64 0,.int .u64 0,.int .u64 0,.int .u64 0,.int .u64 0,.int .u64 0,.int .u64 0,.int .u64 0,.int .u64 0,.int .u64 0,.int .u64 0,Sl.v ⟨some ⟨bf,0,none⟩,s.len,s.len⟩,.bool false]:Array Value),278)∈xs→
   (bf,(cG s.len noR).toArray,275)∈xs→iU b1 (some ⟨b3,0,none⟩) (fun r F'=>(∃bm,r=pa bm∧Mch F' bm l (bv l))∧F.le F') F':=fun h m1 m3 mm mf=>by
  have em:∀bf:Nat,(#[s.v,.int .u64 0,.int .u64 0,.int .u64 0,.int .u64 0,.int .u64 0,.int .u64 0,.int .u64 0,.int .u64 0,.int .u64 0,.int .u64 0,.int .u64 0,.int .u64 0,.int .u64 0,.int .u64 0,.int .u64 0,.int .u64 0,Sl.v ⟨some ⟨bf,0,none⟩,s.len,s.len⟩,.bool false]:Array Value)=bC s noP noP bf l.length false:=fun bf=>by
   unfold bC noP
   simp only [sB,hlen]
   rfl
  rw [em] at mm
  rw [hlen] at mf
  exact wF hT hG hl hs h.le (h.get m1) (h.get m3) (h.get mm) (h.get mf) (h.z _ mm).2 (h.z _ mf).2 fun F'' a b=>⟨⟨_,rfl,a⟩,b⟩
 have h:=Lo.start F
 refine h.new _ _ fun b1 F1 h=> ?_
 have c1:F1.cell (Addr.mk b1 0 none)=some s.v:=by rw [h.cell (b:=b1) (w:= #[s.v]) (e:=77) (by simp)];rfl
 refine ⟨s,c1,s,c1,?_,?_⟩
 ·refine cN underlying276 CR CS rfl (by omega) (Int.le_refl _) (by omega) (by omega) ?_
  intro bf hbf
  rw [zc8,Int.toNat_natCast]
  have h:=h.new' (cG s.len noR).toArray 275 hbf
  generalize F1.set bf (.cells (cG s.len noR).toArray 275)=F2 at*
  have c1:F2.cell (Addr.mk b1 0 none)=some s.v:=by rw [h.cell (b:=b1) (w:= #[s.v]) (e:=77) (by simp)];rfl
  refine ⟨_,rfl,c1,c1,?_,?_⟩
  ·refine h.new _ _ fun bm F3 h=> ?_
   refine h.new _ _ fun b3 F4 h=> ?_
   refine Lo.put1 [] [(bm,_,278),(bf,_,275),(b1,_,77)] (b:=b3) (i:=0) (w0:= #[.pointer none]) (w:= #[pa bm]) (e:=272) h (by simp) rfl fun F5 h=> ?_
   exact fin h (.tail _ (.tail _ (.tail _ (.head _)))) (.head _) (.tail _ (.head _)) (.tail _ (.tail _ (.head _)))
  ·refine h.new _ _ fun b3 F3 h=> ?_
   refine h.new _ _ fun bm F4 h=> ?_
   refine Lo.put1 [(bm,_,278)] [(bf,_,275),(b1,_,77)] (b:=b3) (i:=0) (w0:= #[.pointer none]) (w:= #[pa bm]) (e:=272) h (by simp) rfl fun F5 h=> ?_
   exact fin h (.tail _ (.tail _ (.tail _ (.head _)))) (.tail _ (.head _)) (.head _) (.tail _ (.tail _ (.head _)))
 ·refine h.new _ _ fun b3 F2 h=> ?_
  refine cN underlying276 CR CS rfl (by omega) (Int.le_refl _) (by omega) (by omega) ?_
  intro bf hbf
  rw [zc8,Int.toNat_natCast]
  have h:=h.new' (cG s.len noR).toArray 275 hbf
  generalize F2.set bf (.cells (cG s.len noR).toArray 275)=F3 at*
  have c1:F3.cell (Addr.mk b1 0 none)=some s.v:=by rw [h.cell (b:=b1) (w:= #[s.v]) (e:=77) (by simp)];rfl
  refine ⟨_,rfl,c1,c1,?_⟩
  refine h.new _ _ fun bm F4 h=> ?_
  refine Lo.put1 [(bm,_,278),(bf,_,275)] [(b1,_,77)] (b:=b3) (i:=0) (w0:= #[.pointer none]) (w:= #[pa bm]) (e:=272) h (by simp) rfl fun F5 h=> ?_
  exact fin h (.tail _ (.tail _ (.tail _ (.head _)))) (.tail _ (.tail _ (.head _))) (.head _) (.tail _ (.head _))
end
abbrev LSp:=ForInStep (Option Bool×Unit)
section
variable {F:PH}
theorem wG {P:Program} {α:Type} (step:α→Option Bool×Unit→Sem LSp) (eqs:α→Bool):∀(l:List α),(∀a∈l,rdo P (step a (none,())) F (if eqs a then .yield (none,()) else .done (some false,())))→
  rdo P (forIn l (none,()) step) F (if l.all eqs then (none,()) else (some false,()))
 |[],_=>rfl
 |a::l,h=>by
  rw [List.forIn_cons,ai]
  refine ⟨_,h a (by simp),?_⟩
  rw [List.all_cons]
  cases eqs a with
  |false=>rfl
  |true=>
   rw [Bool.true_and]
   exact wG step eqs l fun b hb=>h b (by simp [hb])
theorem x9 (t:TypeId) (k:IntKind) (ht:prog.underlying t=some (.int k)) (d:Nat) (a b:Int):rdo prog (Op.equalIn (d+1) t (.int k a) (.int k b)) F (decide (a=b)):=by
 simp only [Op.equalIn,ai]
 refine ⟨_,(av ht _).2 rfl,?_⟩
 simp only [if_true,bV]
 by_cases h:a=b<;>simp [h]
theorem ro (t:TypeId) (k:IntKind) (ht:prog.underlying t=some (.int k)) {cs:Array Value} {off:Nat} {v:Value} (h:cs[off]? =some v):rdo prog (part t cs off) F v:=by
 unfold part
 simp only [ai]
 refine ⟨false,(cU ht _).2 rfl,?_⟩
 simp only [Bool.false_eq_true,if_false,h]
 rfl
theorem CT (t:TypeId) (k:IntKind) (ht:prog.underlying t=some (.int k)) (n off:Nat) (cs ds:Array Value) (x y:Int) (h1:cs[off]? =some (.int k x)) (h2:ds[off]? =some (.int k y)):
  rdo prog (do
   let a ← part t cs off
   let b ← part t ds off
   let r ← Op.equalIn (n+1) t a b
   if (!r)=true then pure (ForInStep.done (some false,())) else pure (ForInStep.yield (none,())):Sem LSp) F (if decide (x=y)=true then .yield (none,()) else .done (some false,())):=by
 simp only [ai]
 refine ⟨_,ro t k ht h1,_,ro t k ht h2,_,x9 t k ht n x y,?_⟩
 by_cases h:x=y<;>simp [h]
def Nd.get (x:Nd) (k:Nat):Int:=match k with|0=>x.k|1=>x.lo|2=>x.hi|3=>x.a|_=>x.b
theorem Mf:tsz prog 53=some (1,8):=by kernel_rfl
theorem PM {cs ds:Array Value} {f g:Nat→Int} (h1:∀k,k<8→cs[k]? =some (.int .u64 (f k))) (h2:∀k,k<8→ds[k]? =some (.int .u64 (g k))):
  rdo prog (Op.equal 275 (.agg cs) (.agg ds)) F ((List.range 8).all fun k=>decide (f k=g k)):=by
 unfold Op.equal Op.maxDepth
 show rdo prog (Op.equalIn (9998+1+1) 275 _ _) _ _
 unfold Op.equalIn
 simp only [ai]
 refine ⟨_,(av underlying275 _).2 rfl,?_⟩
 dsimp only
 refine (ai _ _ _ _).2 ⟨1,(bB Mf _).2 rfl,?_⟩
 rw [Std.Legacy.Range.forIn_eq_forIn_range']
 simp only [Std.Legacy.Range.size,Nat.sub_zero,Nat.add_one_sub_one,Nat.div_one]
 rw [ai]
 refine ⟨_,wG _ (fun k=>decide (f k=g k)) _ fun k hk=> ?_,?_⟩
 ·have hk8:k<8:=by
   have:=List.mem_range'.1 hk
   omega
  rw [Nat.mul_one]
  exact CT 53 .u64 underlying53 9998 k cs ds _ _ (h1 k hk8) (h2 k hk8)
 ·have hl:List.range' 0 8 1=List.range 8:=rfl
  rw [hl]
  cases (List.range 8).all (fun k=>decide (f k=g k))<;>rfl
theorem PN (P Q:Nat→Bool):rdo prog (Op.equal 275 (.agg (plA P)) (.agg (plA Q))) F ((List.range 8).all fun k=>decide ((wd P k:Int)=(wd Q k:Int))):=
 PM (fun _ h=>d8 P h) (fun _ h=>d8 Q h)
theorem Al (P:Nat→Bool):((List.range 8).all fun k=>decide ((wd P k:Int)=(wd noP k:Int)))=true↔∀i,i<512→P i=false:=by
 rw [List.all_eq_true]
 have hz:∀k,wd noP k=0:=fun k=>sB k
 constructor
 ·intro h i hi
  have:=of_decide_eq_true (h (i / 64) (List.mem_range.2 (by omega)))
  rw [hz] at this
  have h0:wd P (i / 64)=0:=by omega
  have:=gm.1 h0 (i % 64) (by omega)
  rwa [show 64*(i / 64)+i % 64=i by omega] at this
 ·intro h k hk
  have hk8:=List.mem_range.1 hk
  have:wd P k=0:=gm.2 fun j hj=>h _ (by omega)
  rw [hz,this]
  rfl
end
end Go.Proofs.YtenpmjhnhepfdaaGreatDoor
