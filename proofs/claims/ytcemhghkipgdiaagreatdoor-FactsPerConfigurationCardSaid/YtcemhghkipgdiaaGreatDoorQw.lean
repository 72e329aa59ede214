/-
  Running a machine.
-/
import Derived.Test.YtcemhghkipgdiaaGreatDoorQs
import Derived.Test.YtcemhghkipgdiaaGreatDoorQr
import Derived.Test.YtcemhghkipgdiaaGreatDoorQq
namespace Go.Proofs.YtcemhghkipgdiaaGreatDoor
open Go Go.Proofs.Tryz
set_option maxRecDepth 10000
def bS (s:Sl) (P Q:Nat->Bool) (bf n:Nat) (e:Bool):Γ:=
 #[s.v,cW (wd P 0),cW (wd P 1),cW (wd P 2),cW (wd P 3),cW (wd P 4),cW (wd P 5),cW (wd P 6),cW (wd P 7),
  cW (wd Q 0),cW (wd Q 1),cW (wd Q 2),cW (wd Q 3),cW (wd Q 4),cW (wd Q 5),cW (wd Q 6),cW (wd Q 7),Sl.v ⟨some ⟨bf,0,none⟩,n,n⟩,.bool e]
theorem PP (a0 a1 a2 a3 a4 a5 a6 a7 a8 a9 a10 a11 a12 a13 a14 a15 a16 a17 a18 v0 v1 v2 v3 v4 v5 v6 v7:Value):wr (#[a0,a1,a2,a3,a4,a5,a6,a7,a8,a9,a10,a11,a12,a13,a14,a15,a16,a17,a18]:Γ) 1 [v0,v1,v2,v3,v4,v5,v6,v7]= #[a0,v0,v1,v2,v3,v4,v5,v6,v7,a9,a10,a11,a12,a13,a14,a15,a16,a17,a18]:=
 (dV [v0,v1,v2,v3,v4,v5,v6,v7] [a0,a1,a2,a3,a4,a5,a6,a7,a8,a9,a10,a11,a12,a13,a14,a15,a16,a17,a18] 1 (by show 9<=19;omega)).trans rfl
theorem PQ (a0 a1 a2 a3 a4 a5 a6 a7 a8 a9 a10 a11 a12 a13 a14 a15 a16 a17 a18 v0 v1 v2 v3 v4 v5 v6 v7:Value):wr (#[a0,a1,a2,a3,a4,a5,a6,a7,a8,a9,a10,a11,a12,a13,a14,a15,a16,a17,a18]:Γ) 9 [v0,v1,v2,v3,v4,v5,v6,v7]= #[a0,a1,a2,a3,a4,a5,a6,a7,a8,v0,v1,v2,v3,v4,v5,v6,v7,a17,a18]:=
 (dV [v0,v1,v2,v3,v4,v5,v6,v7] [a0,a1,a2,a3,a4,a5,a6,a7,a8,a9,a10,a11,a12,a13,a14,a15,a16,a17,a18] 9 (by show 17<=19;omega)).trans rfl
theorem PR (s:Sl) (P P' Q:Nat->Bool) (bf n:Nat) (e:Bool):wr (bS s P' Q bf n e) 1 (plA P).toList=bS s P Q bf n e:=PP _ _ _ _ _ _ _ _ _ _ _ _ _ _ _ _ _ _ _ _ _ _ _ _ _ _ _
theorem PS (s:Sl) (P Q' Q:Nat->Bool) (bf n:Nat) (e:Bool):wr (bS s P Q' bf n e) 9 (plA Q).toList=bS s P Q bf n e:=PQ _ _ _ _ _ _ _ _ _ _ _ _ _ _ _ _ _ _ _ _ _ _ _ _ _ _ _
theorem PT (s:Sl) (P Q:Nat->Bool) (bf n:Nat) (e e':Bool):(bS s P Q bf n e).setIfInBounds 18 (.bool e')=bS s P Q bf n e':=rfl
def noR:Nat->Nat->Bool:=λ_ _=>false
theorem ub:∀n:Nat,de n noR=List.replicate (n*8) (.int .u64 0)
 |0=>rfl
 |n+1=>by
  have:=ub n;unfold de at this ⊢;rw [Wv,Wm,this,VC,List.flatMap_nil,Vx];have e:(plA (noR n)).toList=List.replicate 8 (.int .u64 0):=by show (plA noP).toList=_;rw [bM];rfl
  rw [e,List.replicate_append_replicate];congr 1;omega
theorem Fo:tsz prog 229=some (8,64):=by kernel_rfl
theorem Fp:bP prog 229=some (.agg #[.int .u64 0,.int .u64 0,.int .u64 0,.int .u64 0,.int .u64 0,.int .u64 0,.int .u64 0,.int .u64 0]):=by kernel_rfl
theorem zc8 (n:Nat):Builtin.zeroCells (Value.agg #[.int .u64 0,.int .u64 0,.int .u64 0,.int .u64 0,.int .u64 0,.int .u64 0,.int .u64 0,.int .u64 0]).cells n=(de n noR).toArray:=by
 rw [ub];have hz:(Value.agg #[.int .u64 0,.int .u64 0,.int .u64 0,.int .u64 0,.int .u64 0,.int .u64 0,.int .u64 0,.int .u64 0]).cells=(List.replicate 8 (Value.int .u64 0)).toArray:=rfl;rw [hz];apply Array.ext
 ·simp [Builtin.zeroCells]
 ·intro i h1 h2;simp only [Builtin.zeroCells,Array.getElem_map,Array.getElem_range,List.getElem_toArray,List.getElem_replicate];have:i % (List.replicate 8 (Value.int .u64 0)).toArray.size<8:=VU _ (by decide);rw [getElem!_pos _ _ (by simpa using this)];simp only [Wx,List.length_replicate,List.getElem_toArray,List.getElem_replicate]
structure Mch (F:PH) (bm:Nat) (l:List Nd) (t:Lt):Prop where
 ex:∃(s:Sl) (bf:Nat),F bm=some (.cells (bS s (fB t) (lB t) bf l.length t.nul) 232)/\RdS F s 5 (ft l)/\F bf=some (.cells (de l.length (foB t)).toArray 229)
theorem Mch.le {F G:PH} {bm:Nat} {l:List Nd} {t:Lt} (h:Mch F bm l t) (hl:F.le G):Mch G bm l t:=by obtain ⟨s,bf,a,b,c⟩:=h.ex;exact ⟨s,bf,hl _ _ a,b.le hl,hl _ _ c⟩
theorem Tab.zero {F:PH} (h:Tab F):∃o,F 0=some o:=by
 have:=h 0 0 rfl;unfold PH.cell at this;cases hz:F 0 with
 |none=>rw [hz] at this;cases this
 |some o=>exact ⟨o,rfl⟩
theorem RdS.block {F:PH} {s:Sl} {size:Nat} {vs:Ξ} (h:RdS F s size vs) (hv:0<vs.length) {a:Addr} (ha:s.base=some a):∃o,F a.block=some o:=by
 have hp:0<s.len:=by
  rcases VT s.len with h0|h0
  ·have:=h.len;rw [h0,V5] at this;omega
  ·exact h0
 obtain ⟨b,o,h1,h2⟩:=h.cells hp;rw [ha] at h1;cases h1;have hc:=h2 0 hv;unfold PH.cell at hc;cases hz:F b with
 |none=>simp only [hz] at hc;cases hc
 |some ob=>exact ⟨ob,rfl⟩
theorem Lo.new' {G F:PH} {xs:List (Nat×Γ×TypeId)} (h:Lo G F xs) (c:Γ) (e:TypeId) {b:Nat} (hb:F b=none):Lo G (F.set b (.cells c e)) ((b,c,e)::xs):=
 atE (h.new c e (K:=λb F'=>Lo G F' ((b,c,e)::xs)) (λ_ _ h=>h) b hb)
section
variable {F0 F:PH} {l:List Nd}
set_option maxHeartbeats 1000000 in
theorem ze {s:Sl} {b1 b3 bm bf:Nat} (hT:Tab F0) (hG:GoodL l) (hl:l.length<=512) (hs:RdS F0 s 5 (ft l)) (le:F0.le F) (q1:F b1=some (.cells #[s.v] 144)) (q3:F b3=some (.cells #[pa bm] 226))
  (qm:F bm=some (.cells (bS s noP noP bf l.length false) 232)) (qf:F bf=some (.cells (de l.length noR).toArray 229)) (zm:F0 bm=none) (zf:F0 bf=none) {R:Value->Ψ}
  (k:∀F',Mch F' bm l (bT l)->F0.le F'->R (pa bm) F'):jK b1 (some ⟨b3,0,none⟩) R F:=by
 obtain ⟨ns,ht⟩:=kN hG;have hlen:=hs.nlen;have hpos:=Wl.2 hG.ne;have h0:bf≠0:=λe=>by obtain ⟨o,ho⟩:=hT.zero;rw [e,ho] at zf;cases zf
 unfold jK;intro b4 hb4;refine atI ?_;have l4:=ae (.cells #[.nilFunc] 247) hb4;have q4:=al F b4 (.cells #[.nilFunc] 247);have le4:=aa le l4;replace q1:=l4 _ _ q1;replace q3:=l4 _ _ q3;replace qm:=l4 _ _ qm;replace qf:=l4 _ _ qf;have z4:F0 b4=none:=aT le hb4;clear l4 hb4 le;generalize F.set b4 (.cells #[.nilFunc] 247)=F1 at*;intro b5 hb5;refine atI ?_;have l5:=ae (.cells #[.nilFunc] 251) hb5;have q5:=al F1 b5 (.cells #[.nilFunc] 251);have le5:=aa le4 l5;replace q1:=l5 _ _ q1;replace q3:=l5 _ _ q3;replace qm:=l5 _ _ qm;replace qf:=l5 _ _ qf;have n45:b4≠b5:=aJ hb5 q4;replace q4:=l5 _ _ q4;have z5:F0 b5=none:=aT le4 hb5;clear l5 hb5 le4;generalize F1.set b5 (.cells #[.nilFunc] 251)=F2 at*;have ne:∀{x y:Nat} {c d:Γ} {e e':TypeId},e≠e'->F2 x=some (.cells c e)->F2 y=some (.cells d e')->x≠y:=λhe hx hy e=>by rw [e,hy] at hx;simp at hx;exact he hx.2.symm
 refine st1 (o:=0) q5 (by simp) ?_;show ∃c e,_;have e5:(#[Value.nilFunc]:Γ).setIfInBounds 0 (.func (.func 202) #[] #[pa b3])= #[.func (.func 202) #[] #[pa b3]]:=rfl;rw [e5];have le6:=aw (o:=.cells #[.func (.func 202) #[] #[pa b3]] 251) le5 z5;have q1':(F2.set b5 (.cells #[.func (.func 202) #[] #[pa b3]] 251)) b1=_:=(av _ _ (ne (by decide) q1 q5)).trans q1;have q3':(F2.set b5 (.cells #[.func (.func 202) #[] #[pa b3]] 251)) b3=_:=(av _ _ (ne (by decide) q3 q5)).trans q3;have qm':(F2.set b5 (.cells #[.func (.func 202) #[] #[pa b3]] 251)) bm=_:=(av _ _ (ne (by decide) qm q5)).trans qm;have qf':(F2.set b5 (.cells #[.func (.func 202) #[] #[pa b3]] 251)) bf=_:=(av _ _ (ne (by decide) qf q5)).trans qf;have q4':(F2.set b5 (.cells #[.func (.func 202) #[] #[pa b3]] 251)) b4=_:=(av _ _ n45).trans q4;have q5':=al F2 b5 (.cells #[.func (.func 202) #[] #[pa b3]] 251);clear q1 q3 qm qf q4 q5 le5 ne;generalize F2.set b5 (.cells #[.func (.func 202) #[] #[pa b3]] 251)=F3 at*;have ne:∀{x y:Nat} {c d:Γ} {e e':TypeId},e≠e'->F3 x=some (.cells c e)->F3 y=some (.cells d e')->x≠y:=λhe hx hy e=>by rw [e,hy] at hx;simp at hx;exact he hx.2.symm
 refine st1 (o:=0) q4' (by simp) ?_;have e4:(#[Value.nilFunc]:Γ).setIfInBounds 0 (.func (.func 206) #[] #[pa b1,pa b4,pa b5])= #[.func (.func 206) #[] #[pa b1,pa b4,pa b5]]:=rfl;rw [e4];have le7:=aw (o:=.cells #[.func (.func 206) #[] #[pa b1,pa b4,pa b5]] 247) le6 z4;have q1:(F3.set b4 (.cells #[.func (.func 206) #[] #[pa b1,pa b4,pa b5]] 247)) b1=_:=(av _ _ (ne (by decide) q1' q4')).trans q1';have q3:(F3.set b4 (.cells #[.func (.func 206) #[] #[pa b1,pa b4,pa b5]] 247)) b3=_:=(av _ _ (ne (by decide) q3' q4')).trans q3';have qm:(F3.set b4 (.cells #[.func (.func 206) #[] #[pa b1,pa b4,pa b5]] 247)) bm=_:=(av _ _ (ne (by decide) qm' q4')).trans qm';have qf:(F3.set b4 (.cells #[.func (.func 206) #[] #[pa b1,pa b4,pa b5]] 247)) bf=_:=(av _ _ (ne (by decide) qf' q4')).trans qf';have q5:(F3.set b4 (.cells #[.func (.func 206) #[] #[pa b1,pa b4,pa b5]] 247)) b5=_:=(av _ _ n45.symm).trans q5';have q4:=al F3 b4 (.cells #[.func (.func 206) #[] #[pa b1,pa b4,pa b5]] 247);clear q1' q3' qm' qf' q4' q5' le6 ne;generalize F3.set b4 (.cells #[.func (.func 206) #[] #[pa b1,pa b4,pa b5]] 247)=F4 at*;have hs4:=hs.le le7;have hC:Cmp F4 b1 b3 b4 b5 bm bf l noR:=by refine ⟨⟨hT.le le7,q3,⟨_,qm,rfl⟩,qf⟩,⟨s,q1,hs4,λa ha e=> ?_⟩,q4,q5⟩;obtain ⟨o,ho⟩:=hs.block (by rw [iB];omega) ha;rw [e,zf] at ho;cases ho
 have c3:F4.cell (Addr.mk b3 0 none)=some (pa bm):=by rw [am q3];rfl
 refine ⟨_,rfl,_,c3,_,c3,_,c3,_,by rw [am q4];rfl,s,by rw [am q1];rfl,206,#[],_,rfl,ny,?_⟩;have ew:IntKind.i64.wrap ((s.len:Int) - 1)=((l.length - 1:Nat):Int):=by rw [hlen,aS (by omega) (by omega)];omega
 rw [ew];refine (C8 hl h0 ht hC).mono ?_;rintro _ F5 ⟨rfl,hC5,hK⟩;have hne:∀{x:Nat} {c:Γ} {e:TypeId},e≠229->F4 x=some (.cells c e)->x≠bf:=λhe hx e=>by rw [e,qf] at hx;simp at hx;exact he hx.2.symm
 have q1:=hK _ _ q1 (hne (by decide) q1);have q3:=hK _ _ q3 (hne (by decide) q3);have qm:=hK _ _ qm (hne (by decide) qm);have le8:F0.le F5:=λy o hy=>hK y o (le7 y o hy) λe=>by rw [e,zf] at hy;cases hy
 have c3:∀{G:PH},G b3=some (.cells #[pa bm] 226)->G.cell (Addr.mk b3 0 none)=some (pa bm):=λh=>by rw [am h];rfl
 have n3m:b3≠bm:=λe=>by rw [e,qm] at q3;simp at q3
 have nfm:bf≠bm:=λe=>by rw [<- e,hC5.lnk.qf] at qm;simp at qm
 have nsm:∀a,s.base=some a->a.block≠bm:=λa ha e=>by obtain ⟨o,ho⟩:=hs.block (by rw [iB];omega) ha;rw [e,zm] at ho;cases ho
 have qf:=hC5.lnk.qf;have hs5:=hs.le le8;clear hC hC5 hK hne;refine ⟨_,_,_,rfl,by rw [am q1];rfl,c3 q3,c3 q3,c3 q3,_,rfl,rfl,bD _,_,_,qm,rfl,(by show 9<=19;omega),?_⟩;refine atI ?_;have w1:wr (bS s noP noP bf l.length false) ((Addr.mk bm 0 none).add 1).off (plA (fB (bT l))).toList=bS s (fB (bT l)) noP bf l.length false:=PR _ _ _ _ _ _ _;rw [w1];show (F5.set bm _).cell _=_/\_;have q3a:(F5.set bm (.cells (bS s (fB (bT l)) noP bf l.length false) 232)) b3=_:=(av _ _ n3m).trans q3;have qma:=al F5 bm (.cells (bS s (fB (bT l)) noP bf l.length false) 232);refine ⟨c3 q3a,c3 q3a,_,rfl,rfl,bD _,_,_,qma,rfl,(by show 17<=19;omega),?_⟩;refine atI ?_;have w2:wr (bS s (fB (bT l)) noP bf l.length false) ((Addr.mk bm 0 none).add 9).off (plA (lB (bT l))).toList=bS s (fB (bT l)) (lB (bT l)) bf l.length false:=PS _ _ _ _ _ _ _;rw [w2];rw [show ((F5.set ((Addr.mk bm 0 none).add 1).block (.cells (bS s (fB (bT l)) noP bf l.length false) 232)).set ((Addr.mk bm 0 none).add 9).block (.cells (bS s (fB (bT l)) (lB (bT l)) bf l.length false) 232))=F5.set bm (.cells (bS s (fB (bT l)) (lB (bT l)) bf l.length false) 232) from bh _ _ _ _];have q3b:(F5.set bm (.cells (bS s (fB (bT l)) (lB (bT l)) bf l.length false) 232)) b3=_:=(av _ _ n3m).trans q3;have qmb:=al F5 bm (.cells (bS s (fB (bT l)) (lB (bT l)) bf l.length false) 232);refine ⟨c3 q3b,_,rfl,?_⟩;refine oR (b:=bm) (o:=18) rfl qmb (by show 18<19;omega) ?_;rw [bh];have w3:(bS s (fB (bT l)) (lB (bT l)) bf l.length false).setIfInBounds 18 (.bool (bT l).nul)=bS s (fB (bT l)) (lB (bT l)) bf l.length (bT l).nul:=PT _ _ _ _ _ _ _;rw [w3];refine ⟨_,c3 ((av _ _ n3m).trans q3),k _ ⟨s,bf,al _ _ _,hs5.keep λa ha o ho=>(av _ _ (nsm a ha)).trans ho,?_⟩ (aw le8 zm)⟩;rw [av _ _ nfm,qf];congr 3
theorem vo {s:Sl} (hT:Tab F) (hG:GoodL l) (hl:l.length<=512) (hs:RdS F s 5 (ft l)):ai prog 184 #[s.v] F λr F'=>(∃bm,r=pa bm/\Mch F' bm l (bT l))/\F.le F':=by
 have hlen:=hs.nlen;refine Ou ?_;unfold JT;have fin:∀{F':PH} {xs:List (Nat×Γ×TypeId)} {b1 bf bm b3:Nat},Lo F F' xs->(b1,#[s.v],144)∈xs->(b3,#[pa bm],226)∈xs->
   (bm,(#[s.v,.int .u64 0,.int .u64 0,.int .u64 0,.int .u64 0,.int .u64 0,.int .u64 0,.int .u64 0,.int .u64 0,.int .u64 0,.int .u64 0,.int .u64 0,.int .u64 0,.int .u64 0,.int .u64 0,.int .u64 0,.int .u64 0,Sl.v ⟨some ⟨bf,0,none⟩,s.len,s.len⟩,.bool false]:Γ),232)∈xs->
   (bf,(de s.len noR).toArray,229)∈xs->jK b1 (some ⟨b3,0,none⟩) (λr F'=>(∃bm,r=pa bm/\Mch F' bm l (bT l))/\F.le F') F':=λh m1 m3 mm mf=>by
  have em:∀bf:Nat,(#[s.v,.int .u64 0,.int .u64 0,.int .u64 0,.int .u64 0,.int .u64 0,.int .u64 0,.int .u64 0,.int .u64 0,.int .u64 0,.int .u64 0,.int .u64 0,.int .u64 0,.int .u64 0,.int .u64 0,.int .u64 0,.int .u64 0,Sl.v ⟨some ⟨bf,0,none⟩,s.len,s.len⟩,.bool false]:Γ)=bS s noP noP bf l.length false:=λbf=>by unfold bS noP;simp only [uX,hlen];rfl
  rw [em] at mm;rw [hlen] at mf;exact ze hT hG hl hs h.le (h.get m1) (h.get m3) (h.get mm) (h.get mf) (h.z _ mm).2 (h.z _ mf).2 λF'' a b=>⟨⟨_,rfl,a⟩,b⟩
 have h:=Lo.start F;refine h.new _ _ λb1 F1 h=> ?_;have c1:F1.cell (Addr.mk b1 0 none)=some s.v:=by rw [h.cell (b:=b1) (w:= #[s.v]) (e:=144) (by simp)];rfl
 refine ⟨s,c1,s,c1,?_,?_⟩
 ·refine cP underlying230 Fo Fp rfl (by omega) (WO _) (by omega) (by omega) ?_;intro bf hbf;rw [zc8,N4];have h:=h.new' (de s.len noR).toArray 229 hbf;generalize F1.set bf (.cells (de s.len noR).toArray 229)=F2 at*;have c1:F2.cell (Addr.mk b1 0 none)=some s.v:=by rw [h.cell (b:=b1) (w:= #[s.v]) (e:=144) (by simp)];rfl
  refine ⟨_,rfl,c1,c1,?_,?_⟩
  ·refine h.new _ _ λbm F3 h=> ?_;refine h.new _ _ λb3 F4 h=> ?_;refine Lo.put1 [] [(bm,_,232),(bf,_,229),(b1,_,144)] (b:=b3) (i:=0) (w0:= #[.pointer none]) (w:= #[pa bm]) (e:=226) h (by simp) rfl λF5 h=> ?_;exact fin h (.tail _ (.tail _ (.tail _ (.head _)))) (.head _) (.tail _ (.head _)) (.tail _ (.tail _ (.head _)))
  ·refine h.new _ _ λb3 F3 h=> ?_;refine h.new _ _ λbm F4 h=> ?_;refine Lo.put1 [(bm,_,232)] [(bf,_,229),(b1,_,144)] (b:=b3) (i:=0) (w0:= #[.pointer none]) (w:= #[pa bm]) (e:=226) h (by simp) rfl λF5 h=> ?_;exact fin h (.tail _ (.tail _ (.tail _ (.head _)))) (.tail _ (.head _)) (.head _) (.tail _ (.tail _ (.head _)))
 ·refine h.new _ _ λb3 F2 h=> ?_;refine cP underlying230 Fo Fp rfl (by omega) (WO _) (by omega) (by omega) ?_;intro bf hbf;rw [zc8,N4];have h:=h.new' (de s.len noR).toArray 229 hbf;generalize F2.set bf (.cells (de s.len noR).toArray 229)=F3 at*;have c1:F3.cell (Addr.mk b1 0 none)=some s.v:=by rw [h.cell (b:=b1) (w:= #[s.v]) (e:=144) (by simp)];rfl
  refine ⟨_,rfl,c1,c1,?_⟩;refine h.new _ _ λbm F4 h=> ?_;refine Lo.put1 [(bm,_,232),(bf,_,229)] [(b1,_,144)] (b:=b3) (i:=0) (w0:= #[.pointer none]) (w:= #[pa bm]) (e:=226) h (by simp) rfl λF5 h=> ?_;exact fin h (.tail _ (.tail _ (.tail _ (.head _)))) (.tail _ (.tail _ (.head _))) (.head _) (.tail _ (.head _))
end
abbrev LSp:=ForInStep (Option Bool×Unit)
section
variable {F:PH}
theorem zg {P:Program} {α:Type} (step:α->Option Bool×Unit->Sem LSp) (eqs:α->Bool):∀(l:List α),(∀a∈l,rdo P (step a (none,())) F (if eqs a then .yield (none,()) else .done (some false,())))->
  rdo P (forIn l (none,()) step) F (if l.all eqs then (none,()) else (some false,()))
 |[],_=>rfl
 |a::l,h=>by
  rw [Ww,aj];refine ⟨_,h a (by simp),?_⟩;rw [WC];cases eqs a with
  |false=>rfl
  |true=>rw [V4];exact zg step eqs l λb hb=>h b (by simp [hb])
theorem Bw (t:TypeId) (k:IntKind) (ht:prog.underlying t=some (.int k)) (d:Nat) (a b:Int):rdo prog (Op.equalIn (d+1) t (.int k a) (.int k b)) F (decide (a=b)):=by simp only [Op.equalIn,aj];refine ⟨_,(az ht _).2 rfl,?_⟩;simp only [if_true,cG];by_cases h:a=b<;>simp [h]
theorem uc (t:TypeId) (k:IntKind) (ht:prog.underlying t=some (.int k)) {cs:Γ} {off:Nat} {v:Value} (h:cs[off]? =some v):rdo prog (part t cs off) F v:=by unfold part;simp only [aj];refine ⟨false,(dH ht _).2 rfl,?_⟩;simp only [Vu,if_false,h];rfl
theorem Fq (t:TypeId) (k:IntKind) (ht:prog.underlying t=some (.int k)) (n off:Nat) (cs ds:Γ) (x y:Int) (h1:cs[off]? =some (.int k x)) (h2:ds[off]? =some (.int k y)):
  rdo prog (do
   let a <- part t cs off
   let b <- part t ds off
   let r <- Op.equalIn (n+1) t a b
   if (!r)=true then pure (ForInStep.done (some false,())) else pure (ForInStep.yield (none,())):Sem LSp) F (if decide (x=y)=true then .yield (none,()) else .done (some false,())):=by
 simp only [aj];refine ⟨_,uc t k ht h1,_,uc t k ht h2,_,Bw t k ht n x y,?_⟩;by_cases h:x=y<;>simp [h]
theorem PU:tsz prog 76=some (1,8):=by kernel_rfl
theorem TD {cs ds:Γ} {f g:Nat->Int} (h1:∀k,k<8->cs[k]? =some (.int .u64 (f k))) (h2:∀k,k<8->ds[k]? =some (.int .u64 (g k))):
  rdo prog (Op.equal 229 (.agg cs) (.agg ds)) F ((List.range 8).all λk=>decide (f k=g k)):=by
 unfold Op.equal Op.maxDepth;show rdo prog (Op.equalIn (9998+1+1) 229 _ _) _ _;unfold Op.equalIn;simp only [aj];refine ⟨_,(az underlying229 _).2 rfl,?_⟩;dsimp only;refine (aj _ _ _ _).2 ⟨1,(bB PU _).2 rfl,?_⟩;rw [Std.Legacy.Range.forIn_eq_forIn_range'];simp only [Std.Legacy.Range.size,We,WG,Nat.div_one];rw [aj];refine ⟨_,zg _ (λk=>decide (f k=g k)) _ λk hk=> ?_,?_⟩
 ·have hk8:k<8:=by have:=List.mem_range'.1 hk;omega
  rw [Vs];exact Fq 76 .u64 underlying76 9998 k cs ds _ _ (h1 k hk8) (h2 k hk8)
 ·have hl:List.range' 0 8 1=List.range 8:=rfl;rw [hl];cases (List.range 8).all (λk=>decide (f k=g k))<;>rfl
theorem TE (P Q:Nat->Bool):rdo prog (Op.equal 229 (.agg (plA P)) (.agg (plA Q))) F ((List.range 8).all λk=>decide ((wd P k:Int)=(wd Q k:Int))):=
 TD (λ_ h=>fe P h) (λ_ h=>fe Q h)
theorem C5 (P:Nat->Bool):((List.range 8).all λk=>decide ((wd P k:Int)=(wd noP k:Int)))=true↔∀i,i<512->P i=false:=by
 rw [Vv];have hz:∀k,wd noP k=0:=λk=>uX k;constructor
 ·intro h i hi;have:=of_decide_eq_true (h (i / 64) (VA.2 (by omega)));rw [hz] at this;have h0:wd P (i / 64)=0:=by omega
  have:=io.1 h0 (i % 64) (by omega);rwa [show 64*(i / 64)+i % 64=i by omega] at this
 ·intro h k hk;have hk8:=VA.1 hk;have:wd P k=0:=io.2 λj hj=>h _ (by omega);rw [hz,this];rfl
end
def Nx (acc fol:Nat->Nat->Prop):(Nat->Prop)->Δ->Nat->Prop
 |S,[],j=>S j
 |S,b::w,j=>Nx acc fol (λj=>∃i,S i/\acc i b/\fol i j) w j
section
variable {acc fol:Nat->Nat->Prop} {e:Nat->Prop}
theorem nu:∀(w u:Δ) (S:Nat->Prop) (j:Nat),Nx acc fol S (w++u) j↔Nx acc fol (Nx acc fol S w) u j
 |[],_,S,j=>Iff.rfl
 |b::w,u,S,j=>nu w u _ j
theorem Bx (w:Δ) (b:Nat) (S:Nat->Prop) (j:Nat):Nx acc fol S (w++[b]) j↔∃i,Nx acc fol S w i/\acc i b/\fol i j:=by rw [nu];rfl
theorem By:∀(w:Δ) (S:Nat->Prop),(∀j,¬S j)->∀j,¬Nx acc fol S w j
 |[],S,h,j=>h j
 |b::w,S,h,j=>By w _ (λj ⟨i,hi,_⟩=>h i hi) j
theorem Fs:∀(w:Δ) (b:Nat) (S:Nat->Prop),(∃i,S i/\Pth acc fol e i (w++[b]))↔∃j,Nx acc fol S w j/\acc j b/\e j
 |[],b,S=>by
  constructor
  ·rintro ⟨i,h1,h2,⟨_,h3⟩|⟨j,_,h3⟩⟩
   ·exact ⟨i,h1,h2,h3⟩
   ·exact h3.elim
  ·rintro ⟨i,h1,h2,h3⟩;exact ⟨i,h1,h2,.inl ⟨rfl,h3⟩⟩
 |c::w,b,S=>by
  have ih:=Fs w b (λj=>∃i,S i/\acc i c/\fol i j);show _↔∃j,Nx acc fol (λj=>∃i,S i/\acc i c/\fol i j) w j/\acc j b/\e j;rw [<- ih];constructor
  ·rintro ⟨i,h1,h2,⟨h3,_⟩|⟨j,h3,h4⟩⟩
   ·exact absurd h3 (by simp)
   ·exact ⟨j,⟨i,h1,h2,h3⟩,h4⟩
  ·rintro ⟨j,⟨i,h1,h2,h3⟩,h4⟩;exact ⟨i,h1,h2,.inr ⟨j,h3,h4⟩⟩
end
def lU (l:List Nd) (i b:Nat):Prop:=∃x,l[i]? =some x/\x.lo<=(b:Int)/\(b:Int)<=x.hi
theorem C6 {l:List Nd} (hG:GoodL l) {i:Nat} {t:Lt} {ns:Δ} (h:cV l i t ns):t.fits (lU l):=by
 induction h with
 |emp=>trivial
 | @rng i lo hi x hx hk hlo hhi hle h255=>
  intro b;constructor
  ·rintro ⟨y,hy,h1,h2⟩;rw [hx] at hy;cases hy;omega
  ·rintro ⟨h1,h2⟩;exact ⟨x,hx,by omega,by omega⟩
 | @seq i a b x t u na nb hx hk hxa hxb ht hu it iu=>exact ⟨it,iu,λj h1 h2=>Jz hG hx (.inl hk) hxa hxb (o8 ht j ((dS ht).2 j h1)) (o8 hu j ((dS hu).2 j h2))⟩
 | @alt i a b x t u na nb hx hk hxa hxb ht hu it iu=>exact ⟨it,iu,λj h1 h2=>Jz hG hx (.inr hk) hxa hxb (o8 ht j ((dS ht).2 j h1)) (o8 hu j ((dS hu).2 j h2))⟩
 |rep _ _ _ _ it=>exact it
abbrev lV (l:List Nd) (t:Lt) (w:Δ):Nat->Prop:=Nx (lU l) t.fol t.first w
theorem Bz {l:List Nd} {t:Lt} (hf:t.fits (lU l)) (w:Δ) (b:Nat):Lg t.pat (w++[b])↔∃j,lV l t w j/\lU l j b/\t.last j:=by rw [t.places hf _ (by simp)];exact Fs w b t.first
theorem jR {ws:Δ} {n:Nat} (h:n<ws.length):ws.take (n+1)=ws.take n++[ws[n]]:=by rw [V7,N5 h];rfl
theorem Ft {l:List Nd} {t:Lt} (hf:t.fits (lU l)) {ws:Δ} {n:Nat} (h:n<ws.length) (he:∀j,¬(lV l t (ws.take n) j/\lU l j ws[n])) {m:Nat} (hm:n<m) (hml:m<=ws.length):¬Lg t.pat (ws.take m):=by
 obtain ⟨m,rfl⟩:∃m',m=m'+1:=⟨m - 1,by omega⟩;have hm':m<ws.length:=by omega
 rw [jR hm',Bz hf];rintro ⟨j,h1,h2,_⟩;by_cases e:m=n
 ·subst e;exact he j ⟨h1,h2⟩
 ·have h0:∀j,¬lV l t (ws.take (n+1)) j:=λj hj=>by rw [jR h] at hj;obtain ⟨i,a,b,_⟩:=(Bx _ _ _ _).1 hj;exact he i ⟨a,b⟩
  have:ws.take m=ws.take (n+1)++(ws.take m).drop (n+1):=by have:=Wb (n+1) (ws.take m);rw [List.take_take,show min (n+1) m=n+1 by omega] at this;exact this.symm
  rw [this] at h1;have h1':=(nu _ _ _ _).1 h1;exact By _ _ h0 j h1'
open Classical in
noncomputable def oT (l:List Nd) (t:Lt) (w:Δ):Nat->Bool:=λj=>decide (lV l t w j)
open Classical in
noncomputable def vp (l:List Nd) (b:Nat):Nat->Bool:=λi=>decide (lU l i b)
theorem lW {l:List Nd} {t:Lt} {w:Δ} {j:Nat}:oT l t w j=true↔lV l t w j:=by simp [oT]
theorem lX {l:List Nd} {b i:Nat}:vp l b i=true↔lU l i b:=by simp [vp]
theorem PV (a0 a1 a2 a3 a4 a5 a6 a7 a8 a9 a10 a11 a12 a13 a14 a15 a16 a17 a18:Value):(#[a0,a1,a2,a3,a4,a5,a6,a7,a8,a9,a10,a11,a12,a13,a14,a15,a16,a17,a18]:Γ)[1]? =some a1:=rfl
theorem PX (a0 a1 a2 a3 a4 a5 a6 a7 a8 a9 a10 a11 a12 a13 a14 a15 a16 a17 a18:Value):(#[a0,a1,a2,a3,a4,a5,a6,a7,a8,a9,a10,a11,a12,a13,a14,a15,a16,a17,a18]:Γ)[2]? =some a2:=rfl
theorem PY (a0 a1 a2 a3 a4 a5 a6 a7 a8 a9 a10 a11 a12 a13 a14 a15 a16 a17 a18:Value):(#[a0,a1,a2,a3,a4,a5,a6,a7,a8,a9,a10,a11,a12,a13,a14,a15,a16,a17,a18]:Γ)[3]? =some a3:=rfl
theorem PZ (a0 a1 a2 a3 a4 a5 a6 a7 a8 a9 a10 a11 a12 a13 a14 a15 a16 a17 a18:Value):(#[a0,a1,a2,a3,a4,a5,a6,a7,a8,a9,a10,a11,a12,a13,a14,a15,a16,a17,a18]:Γ)[4]? =some a4:=rfl
theorem P0 (a0 a1 a2 a3 a4 a5 a6 a7 a8 a9 a10 a11 a12 a13 a14 a15 a16 a17 a18:Value):(#[a0,a1,a2,a3,a4,a5,a6,a7,a8,a9,a10,a11,a12,a13,a14,a15,a16,a17,a18]:Γ)[5]? =some a5:=rfl
theorem P5 (a0 a1 a2 a3 a4 a5 a6 a7 a8 a9 a10 a11 a12 a13 a14 a15 a16 a17 a18:Value):(#[a0,a1,a2,a3,a4,a5,a6,a7,a8,a9,a10,a11,a12,a13,a14,a15,a16,a17,a18]:Γ)[6]? =some a6:=rfl
theorem P6 (a0 a1 a2 a3 a4 a5 a6 a7 a8 a9 a10 a11 a12 a13 a14 a15 a16 a17 a18:Value):(#[a0,a1,a2,a3,a4,a5,a6,a7,a8,a9,a10,a11,a12,a13,a14,a15,a16,a17,a18]:Γ)[7]? =some a7:=rfl
theorem P7 (a0 a1 a2 a3 a4 a5 a6 a7 a8 a9 a10 a11 a12 a13 a14 a15 a16 a17 a18:Value):(#[a0,a1,a2,a3,a4,a5,a6,a7,a8,a9,a10,a11,a12,a13,a14,a15,a16,a17,a18]:Γ)[8]? =some a8:=rfl
theorem Qa (a0 a1 a2 a3 a4 a5 a6 a7 a8 a9 a10 a11 a12 a13 a14 a15 a16 a17 a18:Value):(#[a0,a1,a2,a3,a4,a5,a6,a7,a8,a9,a10,a11,a12,a13,a14,a15,a16,a17,a18]:Γ)[9]? =some a9:=rfl
theorem MH (a0 a1 a2 a3 a4 a5 a6 a7 a8 a9 a10 a11 a12 a13 a14 a15 a16 a17 a18:Value):(#[a0,a1,a2,a3,a4,a5,a6,a7,a8,a9,a10,a11,a12,a13,a14,a15,a16,a17,a18]:Γ)[10]? =some a10:=rfl
theorem MI (a0 a1 a2 a3 a4 a5 a6 a7 a8 a9 a10 a11 a12 a13 a14 a15 a16 a17 a18:Value):(#[a0,a1,a2,a3,a4,a5,a6,a7,a8,a9,a10,a11,a12,a13,a14,a15,a16,a17,a18]:Γ)[11]? =some a11:=rfl
theorem MJ (a0 a1 a2 a3 a4 a5 a6 a7 a8 a9 a10 a11 a12 a13 a14 a15 a16 a17 a18:Value):(#[a0,a1,a2,a3,a4,a5,a6,a7,a8,a9,a10,a11,a12,a13,a14,a15,a16,a17,a18]:Γ)[12]? =some a12:=rfl
theorem MK (a0 a1 a2 a3 a4 a5 a6 a7 a8 a9 a10 a11 a12 a13 a14 a15 a16 a17 a18:Value):(#[a0,a1,a2,a3,a4,a5,a6,a7,a8,a9,a10,a11,a12,a13,a14,a15,a16,a17,a18]:Γ)[13]? =some a13:=rfl
theorem ML (a0 a1 a2 a3 a4 a5 a6 a7 a8 a9 a10 a11 a12 a13 a14 a15 a16 a17 a18:Value):(#[a0,a1,a2,a3,a4,a5,a6,a7,a8,a9,a10,a11,a12,a13,a14,a15,a16,a17,a18]:Γ)[14]? =some a14:=rfl
theorem MM (a0 a1 a2 a3 a4 a5 a6 a7 a8 a9 a10 a11 a12 a13 a14 a15 a16 a17 a18:Value):(#[a0,a1,a2,a3,a4,a5,a6,a7,a8,a9,a10,a11,a12,a13,a14,a15,a16,a17,a18]:Γ)[15]? =some a15:=rfl
theorem MN (a0 a1 a2 a3 a4 a5 a6 a7 a8 a9 a10 a11 a12 a13 a14 a15 a16 a17 a18:Value):(#[a0,a1,a2,a3,a4,a5,a6,a7,a8,a9,a10,a11,a12,a13,a14,a15,a16,a17,a18]:Γ)[16]? =some a16:=rfl
theorem Fu {s:Sl} {P Q:Nat->Bool} {bf n:Nat} {e:Bool} {i:Nat} (hi:i<8):(bS s P Q bf n e)[1+i]? =some (cW (wd P i))/\(bS s P Q bf n e)[9+i]? =some (cW (wd Q i)):=by
 have:i=0\/i=1\/i=2\/i=3\/i=4\/i=5\/i=6\/i=7:=by omega
 unfold bS;rcases this with rfl|rfl|rfl|rfl|rfl|rfl|rfl|rfl
 ·exact ⟨PV _ _ _ _ _ _ _ _ _ _ _ _ _ _ _ _ _ _ _,Qa _ _ _ _ _ _ _ _ _ _ _ _ _ _ _ _ _ _ _⟩
 ·exact ⟨PX _ _ _ _ _ _ _ _ _ _ _ _ _ _ _ _ _ _ _,MH _ _ _ _ _ _ _ _ _ _ _ _ _ _ _ _ _ _ _⟩
 ·exact ⟨PY _ _ _ _ _ _ _ _ _ _ _ _ _ _ _ _ _ _ _,MI _ _ _ _ _ _ _ _ _ _ _ _ _ _ _ _ _ _ _⟩
 ·exact ⟨PZ _ _ _ _ _ _ _ _ _ _ _ _ _ _ _ _ _ _ _,MJ _ _ _ _ _ _ _ _ _ _ _ _ _ _ _ _ _ _ _⟩
 ·exact ⟨P0 _ _ _ _ _ _ _ _ _ _ _ _ _ _ _ _ _ _ _,MK _ _ _ _ _ _ _ _ _ _ _ _ _ _ _ _ _ _ _⟩
 ·exact ⟨P5 _ _ _ _ _ _ _ _ _ _ _ _ _ _ _ _ _ _ _,ML _ _ _ _ _ _ _ _ _ _ _ _ _ _ _ _ _ _ _⟩
 ·exact ⟨P6 _ _ _ _ _ _ _ _ _ _ _ _ _ _ _ _ _ _ _,MM _ _ _ _ _ _ _ _ _ _ _ _ _ _ _ _ _ _ _⟩
 ·exact ⟨P7 _ _ _ _ _ _ _ _ _ _ _ _ _ _ _ _ _ _ _,MN _ _ _ _ _ _ _ _ _ _ _ _ _ _ _ _ _ _ _⟩
theorem Fv {F:PH} {bm:Nat} {s:Sl} {P Q:Nat->Bool} {bf n:Nat} {e:Bool} (h:F bm=some (.cells (bS s P Q bf n e) 232)):F.row ((Addr.mk bm 0 none).add 1) (plA P)/\F.row ((Addr.mk bm 0 none).add 9) (plA Q):=by
 constructor
 ·intro i hi;have hi':i<8:=hi;rw [cw,cw,am h,<- Vk hi,fe P hi',Vd];exact (Fu hi').1
 ·intro i hi;have hi':i<8:=hi;rw [cw,cw,am h,<- Vk hi,fe Q hi',Vd];exact (Fu hi').2
theorem Fw {F:PH} {bf n i:Nat} {R:Nat->Nat->Bool} (h:F bf=some (.cells (de n R).toArray 229)) (hi:i<n):F.row ((Addr.mk bf 0 none).add (i*8)) (plA (R i)):=by
 obtain ⟨pre,post,hpre,hsp,_⟩:=oC hi R;have hs:j8 F bf 229 pre (R i) post:=by unfold j8;rw [<- hsp];exact h
 have:=hs.row;rw [hpre] at this;rw [cw,Vd];exact this
theorem TF {F:PH} {s:Sl} {l:List Nd} (h:RdS F s 5 (ft l)) {i:Nat} {x:Nd} (hx:l[i]? =some x):∃a,s.base=some a/\F.row (a.add (i*5)) x.arr/\F.cell ((a.add (i*5)).add 1)=some (vi x.lo)/\F.cell ((a.add (i*5)).add 2)=some (vi x.hi):=by obtain ⟨a,h1,h2⟩:=rdn h hx;exact ⟨a,h1,h2,by have:=h2 1 (by simp);simpa using this,by have:=h2 2 (by simp);simpa using this⟩
theorem Lo.sub {G F:PH} {xs ys:List (Nat×Γ×TypeId)} (h:Lo G F xs) (hs:ys.Sublist xs):Lo G F ys:=⟨h.le,λp hp=>h.z p (hs.subset hp),h.nd.sublist (hs.map _)⟩
section
variable {G F:PH} {l:List Nd} {t:Lt} {bm b3 b4 b6 b7 b8 b9 n:Nat} {st:ByteArray} {N P8 P9:Nat->Bool}
theorem C7 (hM:Mch G bm l t) (hl:l.length<=512) (h:Lo G F [(b9,plA P9,229),(b8,plA P8,229),(b7,#[vi n],3),(b6,plA N,229),(b4,#[.string st],9),(b3,#[pa bm],226)]) (hn:n<st.size) (_:st.size<=9223372036854775807) {i:Nat} (hi:i<l.length):
  ai prog 208 #[vi i,pa b4,pa b7,pa b3,pa b8,pa b9] F λr F'=>r=.tuple #[]/\
   Lo G F' [(b9,plA (λj=>P9 j || (vp l (cb st n) i && foB t i j)),229),(b8,plA (λj=>P8 j || (decide (j=i) && vp l (cb st n) i)),229),(b7,#[vi n],3),(b6,plA N,229),(b4,#[.string st],9),(b3,#[pa bm],226)]:=by
 obtain ⟨s,bf,qm,hs,qf⟩:=(hM.le h.le).ex;have hlen:=hs.nlen;refine OC ?_;unfold J1;have hx:l[i]? =some l[i]:=N5 hi;generalize l[i]=x at hx;obtain ⟨a,ha,_,hlo,hhi⟩:=TF hs hx;have c3:F.cell (Addr.mk b3 0 none)=some (pa bm):=by rw [h.cell (b:=b3) (w:= #[pa bm]) (e:=226) (by simp)];rfl
 have cm:F.cell (Addr.mk bm 0 none)=some s.v:=by rw [am qm];rfl
 have ei:Int.toNat (i:Int)=i:=N4 i;refine ⟨_,rfl,st,by rw [h.cell (b:=b4) (w:= #[.string st]) (e:=9) (by simp)];rfl,_,rfl,(n:Int),by rw [h.cell (b:=b7) (w:= #[vi n]) (e:=3) (by simp)];rfl,by omega,by omega,by simpa using hn,_,rfl,_,rfl,_,c3,_,rfl,s,cm,a,ha,by omega,by omega,x.lo,by rw [ei];exact hlo,?_⟩;rw [ME rfl hn,NY (by have:=IA st n;omega)]
 have j1:∀tt:Bool,tt=vp l (cb st n) i->pm i (some ⟨b3,0,none⟩) (some ⟨b8,0,none⟩) (some ⟨b9,0,none⟩) tt (λr F'=>r=.tuple #[]/\
   Lo G F' [(b9,plA (λj=>P9 j || (vp l (cb st n) i && foB t i j)),229),(b8,plA (λj=>P8 j || (decide (j=i) && vp l (cb st n) i)),229),(b7,#[vi n],3),(b6,plA N,229),(b4,#[.string st],9),(b3,#[pa bm],226)]) F:=λtt htt=>by
  unfold pm;refine ⟨λht=> ?_,λht=> ?_⟩
  ·rw [ht] at htt;rw [<- htt];refine (Lo.add [(b9,plA P9,229)] _ (b:=b8) (P:=P8) (by omega) h).mono ?_;rintro _ F2 ⟨rfl,h2⟩;replace h2:Lo G F2 [(b9,plA P9,229),(b8,plA (λj=>P8 j || decide (j=i)),229),(b7,#[vi n],3),(b6,plA N,229),(b4,#[.string st],9),(b3,#[pa bm],226)]:=h2;obtain ⟨s2,bf2,qm2,hs2,qf2⟩:=(hM.le h2.le).ex;have c3':F2.cell (Addr.mk b3 0 none)=some (pa bm):=by rw [h2.cell (b:=b3) (w:= #[pa bm]) (e:=226) (by simp)];rfl
   refine ⟨rfl,_,rfl,_,c3',_,rfl,_,by rw [cw,Vd,am qm2];rfl,_,rfl,by omega,by simp only;omega,plA (foB t i),rfl,by rw [ei];exact Fw qf2 hi,?_⟩;refine (Lo.join [] _ (b:=b9) (P:=P9) (Q:=foB t i) h2).mono ?_;rintro _ F3 ⟨rfl,h3⟩;have e1:(λj=>P9 j || (true && foB t i j))=λj=>P9 j || foB t i j:=by funext j;simp
   have e2:(λj=>P8 j || (decide (j=i) && true))=λj=>P8 j || decide (j=i):=by funext j;simp
   rw [e1,e2];exact ⟨rfl,rfl,h3⟩
  ·rw [ht] at htt;rw [<- htt];have e1:(λj=>P9 j || (false && foB t i j))=P9:=by funext j;simp
   have e2:(λj=>P8 j || (decide (j=i) && false))=P8:=by funext j;simp
   rw [e1,e2];exact ⟨rfl,h⟩
 refine ⟨λh1=>⟨_,c3,_,rfl,s,cm,a,ha,by omega,by omega,x.hi,by rw [ei];exact hhi,j1 _ ?_⟩,λh1=>j1 _ ?_⟩
 ·rw [U3,decide_eq_true_eq,lX];constructor
  ·exact λh2=>⟨x,hx,h1,h2⟩
  ·rintro ⟨y,hy,_,h2⟩;rw [hx] at hy;cases hy;exact h2
 ·symm;rw [<- Wq,lX];rintro ⟨y,hy,h2,_⟩;rw [hx] at hy;cases hy;exact h1 h2
theorem MO:aE prog 208=true:=by kernel_rfl
theorem Fx {acc fol:Nat->Nat->Prop} {P:Nat->Prop} (hf:∀i j,fol i j->P j):∀(w:Δ) (S:Nat->Prop),(∀j,S j->P j)->∀j,Nx acc fol S w j->P j
 |[],S,hS,j,h=>hS j h
 |b::w,S,_,j,h=>Fx hf w _ (λj ⟨i,_,_,h⟩=>hf i j h) j h
theorem rb {l:List Nd} {i0:Nat} {t:Lt} {ns:Δ} (ht:cV l i0 t ns) {w:Δ} {j:Nat} (h:lV l t w j):j<l.length:=
 Fx (P:=λj=>j<l.length) (λi j h=>(dS ht).1 j ((dS ht).2 j (t.fol_lab h).2)) w t.first (λj h=>(dS ht).1 j ((dS ht).2 j (t.first_lab h))) j h
theorem Fy {l:List Nd} {t:Lt} (w:Δ) (b j:Nat):lV l t (w++[b]) j↔∃i,lV l t w i/\lU l i b/\t.fol i j:=Bx w b _ j
theorem Lo.le' {G F F':PH} {xs:List (Nat×Γ×TypeId)} (h:Lo G F xs) (hl:F.le F'):Lo G F' xs:=⟨aa h.le hl,λp hp=>⟨hl _ _ (h.z p hp).1,(h.z p hp).2⟩,h.nd⟩
open Classical in
noncomputable def reB (l:List Nd) (t:Lt) (w:Δ) (b m:Nat):Nat->Bool:=λj=>decide (j<m/\lV l t w j/\lU l j b)
theorem jS {l:List Nd} {t:Lt} {w:Δ} {b m j:Nat}:reB l t w b m j=true↔j<m/\lV l t w j/\lU l j b:=by simp [reB]
open Classical in
noncomputable def nxB (l:List Nd) (t:Lt) (w:Δ) (b m:Nat):Nat->Bool:=λj=>decide (∃i,i<m/\lV l t w i/\lU l i b/\t.fol i j)
theorem jT {l:List Nd} {t:Lt} {w:Δ} {b m j:Nat}:nxB l t w b m j=true↔∃i,i<m/\lV l t w i/\lU l i b/\t.fol i j:=by simp [nxB]
set_option maxHeartbeats 1000000 in
theorem Fz {k:FuncId} {cap:Γ} {Inv:Nat->Ψ} (hk:aE prog k=true) (hl:l.length<=512) (hG:GoodL l) {ns:Δ} {i0:Nat} (ht:cV l i0 t ns) (hns:st.size<=9223372036854775806)
  (hI:∀n F,Inv n F->Tab F/\Mch F bm l t)
  (h1:∀n F (q:Bool),n<st.size->(q=true↔Lg t.pat ((bs st).take (n+1)))->Inv n F->ai prog k (#[vi ((n+1:Nat):Int),.bool q]++cap) F λr F'=>r=.bool true/\Inv (n+1) F') (hF:Inv 0 F):
  ai prog 185 #[pa bm,.string st,.func (.func k) #[] cap] F λr F'=>r=.tuple #[]/\∃n G,n<=st.size/\Inv n G/\G.le F'/\(n=st.size\/∀m,n<m->m<=st.size->¬Lg t.pat ((bs st).take m)):=by
 have hfit:=C6 hG ht;refine Ov ?_;unfold JU;have h:=Lo.start F;refine h.new _ _ λb3 F1 h=> ?_;refine h.new _ _ λb4 F2 h=> ?_;obtain ⟨s,bf,qm,hs,qf⟩:=((hI 0 F hF).2.le h.le).ex;refine ⟨_,by rw [h.cell (b:=b3) (w:= #[pa bm]) (e:=226) (by simp)];rfl,_,rfl,plA (fB t),rfl,(Fv qm).1,?_⟩;refine h.new _ _ λb6 F3 h=> ?_;rw [<- bM] at h;refine Lo.put [] _ (n:=8) (b:=b6) (w0:=plA noP) (w:=plA (fB t)) (e:=229) h rfl rfl (bD _) λF4 h=> ?_;replace h:Lo F F4 [(b6,plA (fB t),229),(b4,#[.string st],9),(b3,#[pa bm],226)]:=h;have e0:fB t=oT l t ((bs st).take 0):=by funext j;rw [U3,d9,lW];rfl
 rw [e0] at h;refine ⟨st,by rw [h.cell (b:=b4) (w:= #[.string st]) (e:=9) (by simp)];rfl,λM v F'=>∃n G,v=((n:Nat):Int)/\n<=st.size/\M=st.size - n/\Inv n G/\Lo G F' [(b6,plA (oT l t ((bs st).take n)),229),(b4,#[.string st],9),(b3,#[pa bm],226)],st.size,⟨0,F,rfl,Nat.zero_le _,rfl,hF,h⟩,?_⟩;clear h qm hs qf e0;rintro _ _ F5 ⟨n,G,rfl,hn,rfl,hIn,h⟩;unfold A7;refine ⟨λhlt=> ?_,λhge=>⟨rfl,n,G,hn,hIn,h.le,.inl (by omega)⟩⟩;have hlt:n<st.size:=by omega
 have hltb:n<(bs st).length:=by rw [fU];exact hlt
 have hcb:cb st n=(bs st)[n]:=by rw [Kn,Vr,N5 hltb];rfl
 refine h.new _ _ λb7 F6 h=> ?_;refine Lo.put1 [] _ (b:=b7) (i:=0) (w0:= #[vi 0]) (w:= #[vi n]) (e:=3) h (by simp) rfl λF7 h=> ?_;replace h:Lo G F7 [(b7,#[vi n],3),(b6,plA (oT l t ((bs st).take n)),229),(b4,#[.string st],9),(b3,#[pa bm],226)]:=h;refine h.new _ _ λb8 F8 h=> ?_;refine h.new _ _ λb9 F9 h=> ?_;rw [<- bM] at h;obtain ⟨hT,hM⟩:=hI n G hIn
 refine (tX (a:=⟨b6,0,none⟩) (P:=oT l t ((bs st).take n)) (k:=208) (cap:= #[pa b4,pa b7,pa b3,pa b8,pa b9])
  (Inv:=λm F'=>Lo G F' [(b9,plA (nxB l t ((bs st).take n) (cb st n) m),229),(b8,plA (reB l t ((bs st).take n) (cb st n) m),229),(b7,#[vi n],3),(b6,plA (oT l t ((bs st).take n)),229),(b4,#[.string st],9),(b3,#[pa bm],226)])
  MO rfl (λm F' hI'=>⟨hT.le hI'.le,hI'.row (b:=b6) (w:=plA (oT l t ((bs st).take n))) (e:=229) (by simp)⟩) ?_ ?_ ?_).mono ?_
 ·intro i F' hi hp hI';have hnp:¬lV l t ((bs st).take n) i:=λh=>by rw [lW.2 h] at hp;cases hp
  have e9:nxB l t ((bs st).take n) (cb st n) (i+1)=nxB l t ((bs st).take n) (cb st n) i:=by
   funext j;rw [U3,jT,jT];constructor
   ·rintro ⟨i',h1,h2,h3⟩;have:i'≠i:=λe=>hnp (e▸h2);exact ⟨i',by omega,h2,h3⟩
   ·rintro ⟨i',h1,h2,h3⟩;exact ⟨i',by omega,h2,h3⟩
  have e8:reB l t ((bs st).take n) (cb st n) (i+1)=reB l t ((bs st).take n) (cb st n) i:=by
   funext j;rw [U3,jS,jS];constructor
   ·rintro ⟨h1,h2,h3⟩;have:j≠i:=λe=>hnp (e▸h2);exact ⟨by omega,h2,h3⟩
   ·rintro ⟨h1,h2,h3⟩;exact ⟨by omega,h2,h3⟩
  rw [e9,e8];exact hI'
 ·intro i F' hi hp hI';have hnp:=lW.1 hp;have hil:=rb ht hnp;refine (C7 hM hl hI' hlt (by omega) hil).mono ?_;rintro _ F'' ⟨rfl,h2⟩;refine ⟨rfl,?_⟩;have e9:(λj=>nxB l t ((bs st).take n) (cb st n) i j || (vp l (cb st n) i && foB t i j))=nxB l t ((bs st).take n) (cb st n) (i+1):=by
   funext j;rw [U3,VL,VB,jT,jT,lX,jU];constructor
   ·rintro (⟨i',h1,h2⟩|⟨h1,h2⟩)
    ·exact ⟨i',by omega,h2⟩
    ·exact ⟨i,by omega,hnp,h1,h2⟩
   ·rintro ⟨i',h1,h2,h3⟩;by_cases e:i'=i
    ·subst e;exact .inr h3
    ·exact .inl ⟨i',by omega,h2,h3⟩
  have e8:(λj=>reB l t ((bs st).take n) (cb st n) i j || (decide (j=i) && vp l (cb st n) i))=reB l t ((bs st).take n) (cb st n) (i+1):=by
   funext j;rw [U3,VL,VB,jS,jS,decide_eq_true_eq,lX];constructor
   ·rintro (⟨h1,h2⟩|⟨h1,h2⟩)
    ·exact ⟨by omega,h2⟩
    ·subst h1;exact ⟨by omega,hnp,h2⟩
   ·rintro ⟨h1,h2,h3⟩;by_cases e:j=i
    ·subst e;exact .inr ⟨rfl,h3⟩
    ·exact .inl ⟨by omega,h2,h3⟩
  rw [e9,e8] at h2;exact h2
 ·have e9:nxB l t ((bs st).take n) (cb st n) 0=noP:=by funext j;show _=false;rw [<- Wq,jT];rintro ⟨i,h,_⟩;omega
  have e8:reB l t ((bs st).take n) (cb st n) 0=noP:=by funext j;show _=false;rw [<- Wq,jS];rintro ⟨h,_⟩;omega
  rw [e9,e8];exact h
 ·clear h;rintro _ F10 ⟨rfl,h⟩;generalize hre:reB l t ((bs st).take n) (cb st n) 512=re at h;generalize hnx:nxB l t ((bs st).take n) (cb st n) 512=nx at h;have hre':∀j,re j=true↔lV l t ((bs st).take n) j/\lU l j (cb st n):=λj=>by rw [<- hre,jS];exact ⟨λh=>h.2,λh=>⟨by have:=rb ht h.1;omega,h⟩⟩
  have hnx':nx=oT l t ((bs st).take (n+1)):=by
   rw [<- hnx];funext j;rw [U3,jT,lW,jR hltb,Fy,<- hcb];constructor
   ·rintro ⟨i',_,h2⟩;exact ⟨i',h2⟩
   ·rintro ⟨i',h2⟩;exact ⟨i',by have:=rb ht h2.1;omega,h2⟩
  refine ⟨rfl,plA re,rfl,h.row (b:=b8) (w:=plA re) (e:=229) (by simp),_,λF=>by have:=TE (F:=F) re noP;rw [bM] at this;exact this,λhz=> ?_,λhz=> ?_⟩
  ·have hz':=(C5 re).1 hz;refine ⟨rfl,n,G,hn,hIn,h.le,.inr λm hm hml=>Ft hfit hltb (λj hj=> ?_) hm (by rw [fU];exact hml)⟩;rw [<- hcb] at hj;have:=hz' j (by have:=rb ht hj.1;omega);rw [(hre' j).2 hj] at this;cases this
  ·obtain ⟨s,bf,qm,hs,qf⟩:=(hM.le h.le).ex;have c7:∀{F' G':PH},Lo G' F' [(b9,plA nx,229),(b8,plA re,229),(b7,#[vi n],3),(b6,plA (oT l t ((bs st).take n)),229),(b4,#[.string st],9),(b3,#[pa bm],226)]->F'.cell (Addr.mk b7 0 none)=some (vi n):=λh=>by rw [h.cell (b:=b7) (w:= #[vi n]) (e:=3) (by simp)];rfl
   have c3:∀{F' G':PH},Lo G' F' [(b9,plA nx,229),(b8,plA re,229),(b7,#[vi n],3),(b6,plA (oT l t ((bs st).take n)),229),(b4,#[.string st],9),(b3,#[pa bm],226)]->F'.cell (Addr.mk b3 0 none)=some (pa bm):=λh=>by rw [h.cell (b:=b3) (w:= #[pa bm]) (e:=226) (by simp)];rfl
   refine ⟨_,c7 h,_,c3 h,_,rfl,plA (lB t),rfl,(Fv qm).2,?_⟩;refine (xx (pre:=[]) (post:=[]) (Q:=lB t) (j8.own.2 (h.get (b:=b8) (w:=plA re) (e:=229) (by simp)))).mono ?_;rintro _ F11 ⟨⟨q,rfl,hq⟩,l11⟩;replace h:=h.le' l11;have hq':q=true↔Lg t.pat ((bs st).take (n+1)):=by
    rw [hq,jR hltb,Bz hfit,<- hcb];constructor
    ·rintro ⟨i,_,h2,h3⟩;obtain ⟨h4,h5⟩:=(hre' i).1 h2;exact ⟨i,h4,h5,dx.1 h3⟩
    ·rintro ⟨i,h4,h5,h3⟩;exact ⟨i,by have:=rb ht h4;omega,(hre' i).2 ⟨h4,h5⟩,dx.2 h3⟩
   refine ⟨q,rfl,c3 h,c7 h,h.row (b:=b8) (w:=plA re) (e:=229) (by simp),k,#[],cap,rfl,hk,?_⟩;have hcall:=h.call (h1 n G q hlt hq' hIn);rw [i6 (by omega)];refine ai.mono (R:=λr F'=>∃G',(r=.bool true/\Inv (n+1) G')/\Lo G' F' _) (by simpa using hcall) ?_;clear hcall h;rintro _ F12 ⟨G',⟨rfl,hIn'⟩,h⟩;refine ⟨true,rfl,c3 h,c7 h,h.row (b:=b8) (w:=plA re) (e:=229) (by simp),λhh=>by simp at hh,λ_=>⟨plA nx,rfl,h.row (b:=b9) (w:=plA nx) (e:=229) (by simp),?_⟩⟩;refine Lo.put [(b9,plA nx,229),(b8,plA re,229),(b7,#[vi n],3)] _ (n:=8) (b:=b6) (w0:=plA (oT l t ((bs st).take n))) (w:=plA nx) (e:=229) h rfl rfl (bD _) λF13 h=> ?_;replace h:Lo G' F13 [(b9,plA nx,229),(b8,plA re,229),(b7,#[vi n],3),(b6,plA nx,229),(b4,#[.string st],9),(b3,#[pa bm],226)]:=h;rw [hnx'] at h;exact ⟨st.size - (n+1),by omega,n+1,G',rfl,hlt,rfl,hIn',h.sub (.cons _ (.cons _ (.cons _ (List.Sublist.refl _))))⟩
end
end Go.Proofs.YtcemhghkipgdiaaGreatDoor
