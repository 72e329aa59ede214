/-
  The codec that writes: numbers, counts, strings, lists.
-/
import Derived.Test.YtenpmjhnhepfdaaGreatDoorHm
namespace Go.Proofs.YtenpmjhnhepfdaaGreatDoor
open Go Go.Proofs.Tryz Tr
set_option maxRecDepth 10000
instance (t:Tr):Decidable (t=leaf false):=match t with
 |leaf true=>isFalse (by simp)
 |leaf false=>isTrue rfl
 |node _ _ _=>isFalse (by simp)
noncomputable def dK:Nat→Tr→Nat→List Nat
 |0,t,a=>if t=leaf false then [] else [a]
 |n+1,t,a=>if t=leaf false then [] else dK n (fx n false t) a++dK n (fx n true t) (a+2 ^ n)
theorem dq (n a:Nat):dK n (leaf false) a=[]:=by cases n<;>simp [dK]
theorem bQ {n:Nat} {b:Bool}:∀(t:Tr),t.ok→bV (n+1) t→bV n (fx n b t)
 |leaf x,_,_=>by rw [gc];trivial
 |node v l h,hk,⟨b0,b1,b2⟩=>by
  have hf:=ml (w:=n) (b:=b) hk
  obtain ⟨h0,h1,h2,h3,h4,h5⟩:=hk
  rw [hf]
  split
  ·split
   ·exact bQ h h5 b2
   ·exact bQ l h4 b1
  ·exact oz (by omega) (bQ l h4 b1) (bQ h h5 b2)
theorem lO (c i:Nat):cfg (c:Int) i=c.testBit i:=by simp [cfg]
theorem CO {n c:Nat} (h:c<2 ^ n):(cfg (c:Int)).set n false=cfg (c:Int):=by
 funext i
 unfold Cf.set
 split
 ·rename_i e
  subst e
  rw [lO,Nat.testBit_lt_two_pow h]
 ·rfl
theorem Ae {n c:Nat} (h:c<2 ^ n):(cfg (c:Int)).set n true=cfg ((2 ^ n+c:Nat):Int):=by
 funext i
 unfold Cf.set
 split
 ·rename_i e
  subst e
  rw [lO,Nat.testBit_two_pow_add_eq,Nat.testBit_lt_two_pow h]
  rfl
 ·rename_i e
  rw [lO,lO]
  by_cases hi:i<n
  ·rw [Nat.testBit_two_pow_add_gt hi]
  ·have h1:2 ^ n+c<2 ^ i:=by
    have:2 ^ (n+1)≤2 ^ i:=Nat.pow_le_pow_right (by decide) (by omega)
    rw [Nat.pow_succ] at this
    omega
   rw [Nat.testBit_lt_two_pow h1,Nat.testBit_lt_two_pow (by omega)]
theorem js:∀(n:Nat) (t:Tr),t.ok→bV n t→∀a,dK n t a=((List.range (2 ^ n)).filter fun c=>t.ev (cfg (c:Nat))).map (a+ ·)
 |0,t,_,hb,a=>by
  cases t with
  |node v l h=>exact absurd hb.1 (by omega)
  |leaf x=>
   cases x
   ·rw [dq];simp [Tr.ev]
   ·simp [dK,Tr.ev,List.range_succ]
 |n+1,t,hk,hb,a=>by
  by_cases ht:t=leaf false
  ·subst ht
   rw [dq]
   simp [Tr.ev]
  ·rw [dK,if_neg ht]
   obtain ⟨k0,_,e0⟩:=cC n false hk
   obtain ⟨k1,_,e1⟩:=cC n true hk
   rw [js n _ k0 (bQ t hk hb),js n _ k1 (bQ t hk hb)]
   rw [show 2 ^ (n+1)=2 ^ n+2 ^ n by rw [Nat.pow_succ];omega,List.range_add,List.filter_append,List.map_append]
   congr 1
   ·congr 1
    apply List.filter_congr
    intro c hc
    rw [e0,CO (List.mem_range.1 hc)]
   ·rw [List.filter_map,List.map_map]
    have:((fun c=>t.ev (cfg (c:Nat)))∘fun x=>2 ^ n+x)=fun c=>t.ev (cfg ((2 ^ n+c:Nat):Int)):=rfl
    rw [this]
    have hf:(List.range (2 ^ n)).filter (fun c=>(fx n true t).ev (cfg (c:Nat)))=(List.range (2 ^ n)).filter fun c=>t.ev (cfg ((2 ^ n+c:Nat):Int)):=by
     apply List.filter_congr
     intro c hc
     rw [e1,Ae (List.mem_range.1 hc)]
    rw [hf]
    apply List.map_congr_left
    intro c _
    simp only [Function.comp_apply]
    omega
theorem qh (n:Nat) (t:Tr) (hk:t.ok) (hb:bV n t) (a:Nat):(dK n t a).length≤2 ^ n:=by
 rw [js n t hk hb,List.length_map]
 exact Nat.le_trans (List.length_filter_le _ _) (by simp)
theorem yI {d:Dia} {n:Nat} (h:fQ d n):∃t:Tr,t.ok∧d=dia t∧tre d=t∧(aG t).length≤4096∧bV n t:=by
 obtain ⟨h1,h2⟩:=h
 unfold chk at h1
 split at h1
 ·cases h1
 ·rename_i hl
  split at h1
  ·rename_i hv
   obtain ⟨t,ht,rfl⟩:=hv
   refine ⟨t,ht,rfl,rV ht,by simpa [dia,aN] using hl,?_⟩
   refine oF (co ht) (fun x hx=> ?_) t (bY ht)
   obtain ⟨_,v,l,r,rfl,_,_⟩:=(co ht).mem x hx
   have:=h2 (br (aG t) (node v l r)) (List.mem_map.2 ⟨_,hx,rfl⟩)
   simp only [br] at this
   simp only [top]
   omega
  ·cases h1
abbrev vC (c:Nat):Value:=.int .u64 (c:Int)
theorem uF:aB prog 91=true:=by kernel_rfl
theorem Af {t:Tr} (hk:t.ok) (hl:(aG t).length≤4096) {n:Nat} (hn:n<64) (b:Bool):pD (dia t) (n:Int) b=(dia (fx n b t),0):=by
 have h1:=xC hk hl
 have h2:=kI (w:=n) (b:=b) hk
 unfold pD
 rw [if_neg (fun h=>h h1),if_neg (by omega),rV hk,Int.toNat_natCast]
 unfold lim
 rw [if_neg (by simp only [dia,aN];omega)]
theorem yJ {G0:PH} {b3 b6 b7:Nat} {most:Int} (h3:G0.cell ⟨b3,0,none⟩=some (vi most)) (h7:G0.cell ⟨b7,0,none⟩=some (.func (.func 91) #[] #[.pointer (some ⟨b6,0,none⟩),.pointer (some ⟨b3,0,none⟩),.pointer (some ⟨b7,0,none⟩)])):
  ∀(n:Nat),n≤30→∀(t:Tr) (above:Nat) (out:List Nat) (G F:PH) (s:Sl) (v:Array Value),t.ok→(aG t).length≤4096→bV n t→above % 2 ^ n=0→above+2 ^ n≤2 ^ 63→G0.le G→DV G v (dia t)→(out.length:Int)≤most→out.length+2 ^ n≤2 ^ 31→
   St G F [own s 54 1 (out.map vC),pt b6 (.cells #[s.v] 57)]→
   ae prog 91 #[.agg v,vi n,.int .u64 above,.pointer (some ⟨b6,0,none⟩),.pointer (some ⟨b3,0,none⟩),.pointer (some ⟨b7,0,none⟩)] F
    fun r F'=>∃G' s',r=.bool (decide ((out.length+(dK n t above).length:Nat)≤most))∧G.le G'∧St G' F' [own s' 54 1 (((out++dK n t above).take most.toNat).map vC),pt b6 (.cells #[s'.v] 57)]:=by
 intro n
 induction n with
 |zero=>
  intro _ t above out G F s v hk hl hb ha ha2 l0 hd hm hlen h
  obtain ⟨sn,rfl,hn⟩:=hd
  refine KX ?_
  unfold Ih
  refine h.newG fun b F1 F2 l1 q1 _ h=>⟨_,ld (h.le _ _ q1) rfl,fun h0=> ?_,fun h0=>⟨fun _=> ?_,fun h=>absurd rfl h⟩⟩
  ·have e:t=leaf false:=ug.1 (Int.natCast_eq_zero.1 h0)
   subst e
   refine ⟨F1,s,?_,l1,?_⟩
   ·rw [dq,decide_eq_true (by simpa using hm)]
   ·rw [dq,List.append_nil,List.take_of_length_le (by omega)]
    exact h
  ·have e:t≠leaf false:=fun e=>h0 (by rw [e];rfl)
   have ee:dK 0 t above=[above]:=by rw [dK,if_neg e]
   have hsl:s.len=out.length:=by
    have:=(h.ownAt (i:=0) rfl).1.rd.len
    simp at this
    exact this.symm
   refine ⟨_,rfl,_,h.ld1 rfl,_,rfl,_,aq (aa l0 (aa l1 h.le)) h3,fun h1=> ?_,fun h1=>⟨_,h.ld1 rfl,?_⟩⟩
   ·refine ⟨F1,s,?_,l1,?_⟩
    ·rw [ee,decide_eq_false (by simp only [List.length_singleton];omega)]
    ·rw [ee,List.take_append_of_le_length (by omega),List.take_of_length_le (by omega)]
     exact h
   ·refine h.push0 MW (c:= #[vC above]) rfl (by simp [ai]) (by omega) fun s' G3 F3 l3 h hl'=> ?_
    refine h.set1 (w':= #[s'.v]) (by simp) rfl fun F4 h=>⟨G3,s',?_,aa l1 l3,?_⟩
    ·rw [ee,decide_eq_true (by simp only [List.length_singleton];omega)]
    ·rw [ee,List.take_of_length_le (by simp;omega),List.map_append]
     exact h
 |succ n ih=>
  intro hn30 t above out G F s v hk hl hb ha ha2 l0 hd hm hlen h
  have hd0:=hd
  obtain ⟨sn,rfl,hn⟩:=hd
  refine KX ?_
  unfold Ih
  refine h.newG fun b F1 F2 l1 q1 _ h=>⟨_,ld (h.le _ _ q1) rfl,fun h0=> ?_,fun h0=>⟨fun h=>by omega,fun _=>⟨_,rfl,aj (h.le _ _ q1),?_⟩⟩⟩
  ·have e:t=leaf false:=ug.1 (Int.natCast_eq_zero.1 h0)
   subst e
   refine ⟨F1,s,?_,l1,?_⟩
   ·rw [dq,decide_eq_true (by simpa using hm)]
   ·rw [dq,List.append_nil,List.take_of_length_le (by omega)]
    exact h
  ·have e:t≠leaf false:=fun e=>h0 (by rw [e];rfl)
   have ee:dK (n+1) t above=dK n (fx n false t) above++dK n (fx n true t) (above+2 ^ n):=by rw [dK,if_neg e]
   have ew:IntKind.i64.wrap (((n+1:Nat):Int) - 1)=(n:Int):=by rw [aM (by omega) (by omega)];omega
   rw [ew]
   have hp:2 ^ (n+1)=2 ^ n+2 ^ n:=by rw [Nat.pow_succ];omega
   have hm2:above % 2 ^ n=0:=by
    have:2 ^ n ∣ 2 ^ (n+1):=⟨2,by rw [Nat.pow_succ]⟩
    rw [← Nat.mod_mod_of_dvd above this,ha,Nat.zero_mod]
   have hor:above ||| 2 ^ n=above+2 ^ n:=by
    obtain ⟨q,hq⟩:2 ^ (n+1) ∣ above:=Nat.dvd_of_mod_eq_zero ha
    rw [hq,Nat.mul_comm,← Nat.shiftLeft_eq,← Nat.shiftLeft_add_eq_or_of_lt (by omega)]
   have rs:∀(x:Bool) {G:PH},F1.le G→ae prog 92 #[.agg #[sn.v,vi (dia t).2],vi n,.bool x] G fun r F'=>(∃w,r=.tuple #[.agg w,vi 0]∧DV F' w (dia (fx n x t)))∧G.le F':=fun x {G} l=>by
    have:=pE (hd0.le (aa l1 l)) (n:Int) x
    rw [Af hk hl (by omega)] at this
    exact this.mono fun r F' ⟨⟨w,h1,h2⟩,h3⟩=>⟨⟨w,h1,h2⟩,h3⟩
   refine h.run (rs false (le_refl' F1)) fun r G3 F3 hr l3 h=> ?_
   obtain ⟨w,rfl,hw⟩:=hr
   refine ⟨_,_,rfl,?_⟩
   refine h.var hw.st (fun b10 G4 F4 l4 q10 h=> ?_) (by rfl) hw.size
   refine ⟨_,rfl,aj (h.le _ _ (l4 _ _ (l3 _ _ q1))),?_⟩
   refine h.run (rs true (aa l3 l4)) fun r G5 F5 hr l5 h=> ?_
   obtain ⟨u,rfl,hu⟩:=hr
   refine ⟨_,_,rfl,?_⟩
   refine h.var hu.st (fun b12 G6 F6 l6 q12 h=> ?_) (by rfl) hu.size
   have l16:=aa l3 (aa l4 (aa l5 l6))
   obtain ⟨k0,_,_⟩:=cC n false hk
   obtain ⟨k1,_,_⟩:=cC n true hk
   have s0:=kI (w:=n) (b:=false) hk
   have s1:=kI (w:=n) (b:=true) hk
   have b0:=bQ (b:=false) t hk hb
   have b1:=bQ (b:=true) t hk hb
   have en0:=qh n _ k0 b0 above
   have en1:=qh n _ k1 b1 (above+2 ^ n)
   have l06:=aa l0 (aa l1 l16)
   refine ⟨_,rfl,_,aq (aa l06 h.le) h7,w,hw.size,aj (h.le _ _ (l6 _ _ (l5 _ _ q10))),_,_,_,rfl,uF,?_⟩
   refine (ih (by omega) (fx n false t) above out G6 F6 s w k0 (by omega) b0 hm2 (by omega) l06 (hw.le (aa l4 (aa l5 l6))) hm (by omega) h).mono ?_
   rintro _ F7 ⟨G7,s7,rfl,l7,h⟩
   refine ⟨_,rfl,fun ht=> ?_,fun ht=> ?_⟩
   ·have ht:=of_decide_eq_true ht
    rw [List.take_of_length_le (by rw [List.length_append];omega)] at h
    have hbit:=Ic (x:=above) (v:=n) (by omega) (by omega)
    refine ⟨_,aq (aa l06 (aa l7 h.le)) h7,u,hu.size,aj (h.le _ _ (l7 _ _ q12)),by omega,_,_,_,rfl,uF,?_⟩
    rw [hbit,hor]
    refine (ih (by omega) (fx n true t) (above+2 ^ n) (out++dK n (fx n false t) above) G7 F7 s7 u k1 (by omega) b1 (by rw [Nat.add_mod_right];exact hm2) (by omega) (aa l06 l7) (hu.le (aa l6 l7)) (by rw [List.length_append];exact ht) (by rw [List.length_append];omega) h).mono ?_
    rintro _ F8 ⟨G8,s8,rfl,l8,h⟩
    refine ⟨_,rfl,G8,s8,?_,aa l1 (aa l16 (aa l7 l8)),?_⟩
    ·congr 1
     rw [ee,List.length_append,List.length_append,Nat.add_assoc]
    ·rw [ee,← List.append_assoc]
     exact h
   ·have ht:=of_decide_eq_false ht
    refine ⟨G7,s7,?_,aa l1 (aa l16 l7),?_⟩
    ·rw [ee,decide_eq_false (by rw [List.length_append];omega)]
    ·rw [ee,← List.append_assoc,List.take_append_of_le_length (by rw [List.length_append];omega)]
     exact h
noncomputable def yK (g:Gr):List Nat:=(List.range (2 ^ g.conds.length)).filter fun c=>(tre g.fam).ev (cfg (c:Nat))
noncomputable def gh (g:Gr) (most:Int):List Nat×Bool:=if bC g≠0∨most<1 then ([],false) else ((yK g).take most.toNat,decide (((yK g).length:Int)≤most))
theorem fK {F:PH} {v:Array Value} {g:Gr} (hT:Tab F) (hg:GV F v g) (hz:Sz g) (hc:g.conds.length≤30) (most:Int):
  ae prog 23 #[.agg v,vi most] F fun r F'=>(∃s:Sl,r=.tuple #[s.v,.bool (gh g most).2]∧RdS F' s 1 ((gh g most).1.map vC))∧F.le F':=by
 have hg0:=hg
 obtain ⟨c,n,t,s,p,l,f,rfl,hs⟩:=hg
 have ec:=hs.c.len (by decide)
 refine NY ?_
 unfold KJ
 refine fresh fun b2 F1 l1 q2 _=> ?_
 refine fresh fun b3 F2 l2 q3 _=>⟨_,hg0.size,aj (l2 _ _ q2),?_⟩
 have l12:=aa l1 l2
 refine (dU (hT.le l12) (hg0.le l12) hz).mono ?_
 rintro _ F3 ⟨rfl,l3⟩
 have l13:=aa l12 l3
 have bad:bC g≠0∨most<1→(∃s:Sl,Value.tuple #[Sl.nil.v,.bool false]=.tuple #[s.v,.bool (gh g most).2]∧RdS F3 s 1 ((gh g most).1.map vC))∧F.le F3:=fun h=>by
  unfold gh
  rw [if_pos h]
  exact ⟨⟨Sl.nil,rfl,RdS.nil _ _⟩,l13⟩
 refine ⟨_,rfl,fun h=>bad (.inl h),fun h0=>⟨_,ld (l3 _ _ q3) rfl,fun h=>bad (.inr h),fun h1=> ?_⟩⟩
 have h0:bC g=0:=Classical.not_not.1 h0
 obtain ⟨tr,hk,hd,ht,hl,hb⟩:=yI (ie.1 h0).fam.2.2.1
 refine (St.start F3).new fun b6 F4 h=> ?_
 refine h.new fun b7 F5 h=> ?_
 refine h.set0 (by simp) rfl fun F6 h=> ?_
 refine h.pinb (K:=fun F6=>_) fun G6 l6 q7 h=> ?_
 replace h:=h.nilOwn 54 1
 have l36:=aa l3 l6
 refine ⟨_,ld (h.le _ _ q7) rfl,#[n.v,vi g.fam.2],rfl,lH (h.le _ _ (l6 _ _ (l3 _ _ (l2 _ _ q2)))) rfl,_,ld (h.le _ _ (l6 _ _ (l3 _ _ (l2 _ _ q2)))) rfl,_,_,_,rfl,uF,?_⟩
 rw [ec]
 have hp:2 ^ g.conds.length≤2 ^ 30:=Nat.pow_le_pow_right (by decide) hc
 refine (yJ (G0:=G6) (most:=most) (ld (l36 _ _ q3) rfl) (ld q7 rfl) g.conds.length hc tr 0 [] G6 F6 Sl.nil _ hk hl hb (Nat.zero_mod _) (by omega) (le_refl' _) (by rw [← hd];exact DV.mk (hs.n.le (aa l13 l6))) (by simp;omega) (by simp;omega) h).mono ?_
 rintro _ F7 ⟨G7,s7,rfl,l7,h⟩
 have en:dK g.conds.length tr 0=yK g:=by
  rw [js _ _ hk hb]
  unfold yK
  rw [ht]
  simp
 rw [en] at h ⊢
 refine ⟨_,rfl,s7,h.ld1 rfl,?_⟩
 unfold gh
 rw [if_neg (by omega)]
 refine ⟨⟨s7,by simp,?_⟩,aa l13 (aa l6 (aa l7 h.le))⟩
 have:=(h.ownAt (i:=0) rfl).1.rd
 simpa using this
abbrev vB (n:Nat):Value:=.int .u8 (n:Int)
theorem Ir (st:ByteArray):((bs st).map vB)=st.data.toList.map fun b=>Value.int .u8 (b.toNat:Int):=by simp [bs]
theorem Is (l:List Nat):∀v∈l.map vB,ai v:=by
 intro v hv
 obtain ⟨x,_,rfl⟩:=List.mem_map.1 hv
 exact ⟨fun _ h=>(by cases h),fun _ h=>(by cases h)⟩
abbrev iV (st:ByteArray):List Value:=(bs st).map vB
theorem ni (st:ByteArray):(iV st).length=st.size:=by rw [List.length_map,cS]
theorem CP (st:ByteArray):((st.extract 0 st.size).data.map fun b=>Value.int .u8 b.toNat)=(iV st).toArray:=by
 apply Array.ext'
 simp [iV,Ir]
theorem gi {P:Program} {F:PH} {s:Sl} {st:ByteArray} {t t2 e bytes ty:Nat} {z:Value} {olds:List Value} {Q:Value→PH→Prop} (ht:P.underlying t=some (.slice e)) (ht2:P.underlying t2=some .string) (hsz:tsz P e=some (1,bytes)) (hz:bk P e=some z) (hzs:z.cells.size=1)
  (ho:RdS F s 1 olds) (hfit:(s.len+st.size)*bytes≤140737488355328) (hlen:s.len+st.size≤9223372036854775807)
  (h0:st.size=0→s.len+st.size≤s.cap→Q (Sl.v ⟨s.base,s.len+st.size,s.cap⟩) F)
  (h1:0<st.size→s.len+st.size≤s.cap→∃b o c e',s.base=some ⟨b,o,none⟩∧F b=some (.cells c e' (0,0))∧o+s.len+st.size≤c.size∧
   Q (Sl.v ⟨s.base,s.len+st.size,s.cap⟩) (F.set b (.cells (wr c (o+s.len) (iV st)) e')))
  (h2:s.cap<s.len+st.size→∀cap b,s.len+st.size≤cap→F b=none→Q (Sl.v ⟨some ⟨b,0,none⟩,s.len+st.size,cap⟩) (F.set b (.cells (olds.toArray++(iV st).toArray++Builtin.zeroCells z.cells (cap - (s.len+st.size))) e))):
  aC P (Builtin.append_ #[t,t2] ty #[s.v,.string st]) F Q:=by
 have hnl:(iV st).length=st.size:=ni st
 have hst:∀v∈iV st,ai v:=Is _
 have hol:=ho.len
 have hfn:∀Q',Q' (iV st).toArray F→aC P (Builtin.firstCells 1 st.size (.string st)) F Q':=fun Q' hq=>by
  simp only [Builtin.firstCells,aJ]
  rw [CP]
  exact hq
 have hfo:∀Q',Q' olds.toArray F→aC P (Builtin.firstCells 1 s.len s.v) F Q':=fun Q' hq=>dY ho (Nat.le_refl _) (by rw [← hol,List.take_length];exact hq)
 obtain ⟨base,len,cap⟩:=s
 simp only [Builtin.append_,aA,Sl.v,List.getElem?_toArray,List.getElem?_cons_zero,List.getElem?_cons_succ,bD ht,bD ht2,Builtin.lenOf,aJ,du hsz,Bool.false_eq_true,if_false,Bool.not_false,if_true] at*
 obtain ⟨i,hib,hti⟩:=cW hsz
 by_cases hroom:len+st.size≤cap
 ·rw [if_pos hroom]
  simp only [aA]
  refine hfn _ ?_
  by_cases hz0:st.size=0
  ·have hnil:(iV st)=[]:=List.eq_nil_of_length_eq_zero (by rw [hnl,hz0])
   cases base with
   |none=>exact h0 hz0 hroom
   |some a=>simp only [hnil,storeCells,aA,aJ];exact h0 hz0 hroom
  ·obtain ⟨b,o,c,e',g1,g2,g3,g4⟩:=h1 (by omega) hroom
   cases g1
   simp only [aA]
   refine dh (iV st) 0 F _ c _ (by simp) (by simpa using g2) (by simp only [aI];rw [hnl];omega) hst (fun hnn=>hz0 (by rw [← hnl,hnn];rfl)) ?_
   simpa using g4
 ·rw [if_neg hroom]
  simp only [aA,hti]
  rw [if_neg (by
   rintro ⟨ha,hb⟩
   have:(IntKind.i64.max:Int)=9223372036854775807:=by decide
   rw [this] at ha
   omega)]
  have hg:=growslice_fits (need:=len+st.size) (old:=cap) (bytes:=bytes) (by omega) hfit
  simp only [aA,hti]
  rw [if_neg (by rw [hib];omega)]
  simp only [aA,choose]
  unfold aC
  rw [if_neg (by simp [Question.forced])]
  intro tt
  simp only [aC,hti]
  refine fV ?_
  refine hfo _ ?_
  refine hfn _ ?_
  simp only [cL hz,newRow,newObj,aA,aC,aJ]
  intro b hb
  exact h2 (by omega) _ b (by simp only [Question.cut];omega) hb
theorem nj {F:PH} {s:Sl} {st:ByteArray} {t t2 e bytes ty:Nat} {z:Value} {P:Program} {olds:List Value} {Q:Value→PH→Prop} (ht:P.underlying t=some (.slice e)) (ht2:P.underlying t2=some .string) (hsz:tsz P e=some (1,bytes)) (hz:bk P e=some z) (hzs:z.cells.size=1)
  (ho:bI F e 1 s olds) (hx:0<st.size) (hfit:(s.len+st.size)*bytes≤140737488355328) (hlen:s.len+st.size≤9223372036854775807)
  (h:∀s' F' b o,F'=F.set b o→bI F' e 1 s' (olds++(iV st))→s'.len=s.len+st.size→(∀a,s'.base=some a→a.block=b)→((∃a,s.base=some a∧a.block=b)∨F b=none)→Q s'.v F'):
  aC P (Builtin.append_ #[t,t2] ty #[s.v,.string st]) F Q:=by
 have hol:=ho.rd.len
 have hsl:=ni st
 refine gi ht ht2 hsz hz hzs ho.rd hfit hlen (fun h0=>by omega) ?_ ?_
 ·intro _ hroom
  rcases ho with ⟨rfl,rfl⟩|⟨b,cur,h1,h2,h3,h4,h5,h6⟩
  ·have e1:Sl.nil.cap=0:=rfl
   have e2:Sl.nil.len=0:=rfl
   omega
  ·refine ⟨b,0,cur,e,h1,h2,by omega,?_⟩
   refine h ⟨_,_,_⟩ _ b _ rfl (.inr ⟨b,_,h1,an _ _ _,by rw [dg,h3],hroom,by rw [List.length_append];simp only;omega,?_⟩) rfl (fun a ha=>by rw [h1] at ha;cases ha;rfl) (.inl ⟨_,h1,rfl⟩)
   simp only [Nat.zero_add]
   have hw:=ig (iV st) cur.toList s.len (by rw [hsl,Array.length_toList];omega)
   rw [show cur.toList.toArray=cur by simp] at hw
   rw [hw]
   rw [Nat.mul_one] at h6 ⊢
   simp only
   rw [h6]
   rw [List.take_append_of_le_length (by rw [List.length_append];omega),List.take_of_length_le (by rw [List.length_append];omega)]
 ·intro hgt cap b hc hb
  refine h ⟨_,_,_⟩ _ b _ rfl (.inr ⟨b,_,rfl,an _ _ _,?_,hc,by rw [List.length_append];simp only;omega,?_⟩) rfl (fun a ha=>by cases ha;rfl) (.inr hb)
  ·simp [Builtin.zeroCells,hzs]
   have e1:=cS st
   omega
  ·simp only [List.append_toArray,Array.toList_append]
   rw [List.take_append_of_le_length (by rw [List.length_append];omega),List.take_of_length_le (by rw [List.length_append];omega)]
theorem St.appStrAt {G F:PH} {As:List (PH→Prop)} {t t2 e bytes:Nat} {z:Value} (T:SlT t e 1 bytes z) (ht2:prog.underlying t2=some .string) {s:Sl} {st:ByteArray} {olds:List Value} {ty:TypeId} (h:St G F As) (i:Nat) (hi:As[i]? =some (own s e 1 olds))
  (hlen:s.len+st.size≤500000000000) {K:Sl→PH→Prop} (k:∀s' F',St G F' (As.set i (own s' e 1 (olds++iV st)))→s'.len=s.len+st.size→K s' F'):
  aC prog (Builtin.append_ #[t,t2] ty #[s.v,.string st]) F fun v F=>∃s':Sl,v=Sl.v s'∧K s' F:=by
 have ho:=(h.ownAt hi).1
 by_cases h0:st.size=0
 ·have hnil:iV st=[]:=List.eq_nil_of_length_eq_zero (by rw [ni,h0])
  have hs:(⟨s.base,s.len+st.size,s.cap⟩:Sl)=s:=by rw [h0];rfl
  obtain ⟨H,a1,a2,a3,a4⟩:=h.set (A':=own s e 1 olds) hi
  have hk:=k s F (by rw [hnil,List.append_nil];exact a4 H F a1 (fun b hb=> .inl hb) a3 (fun b o hb _=>hb)) (by omega)
  have:=ho.rd.cap
  exact gi T.ht ht2 T.hsz T.hz T.hzs ho.rd (tx T.hb hlen) (by omega) (fun _ _=>by rw [hs];exact ⟨s,rfl,hk⟩) (fun h1=>absurd h0 (by omega)) (fun h1=>by omega)
 ·refine nj T.ht ht2 T.hsz T.hz T.hzs ho (by omega) (tx T.hb hlen) (by omega) ?_
  rintro s' F' b ob rfl ho' hl' hbase hb
  obtain ⟨H,a1,a2,a3,a4⟩:=h.set (A':=own s' e 1 (olds++iV st)) hi
  have hb':H b≠none∨F b=none:=by
   rcases hb with ⟨a,ha,rfl⟩|hb
   ·obtain ⟨cur,hc⟩:=bI.elem a1 ha
    exact .inl (by rw [hc];simp)
   ·exact .inr hb
  refine ⟨s',rfl,k s' _ ?_ hl'⟩
  refine a4 (PH.set (fun _=>none) b ob) _ (ho'.keep fun a ha=>by rw [hbase a ha,an,an]) (fun x hx=> ?_) (fun x p hx=> ?_) (fun x p hx hn=> ?_)
  ·by_cases e:x=b
   ·rw [e];exact hb'
   ·rw [aw _ _ e] at hx;exact absurd rfl hx
  ·by_cases e:x=b
   ·rw [e,an] at hx ⊢;exact hx
   ·rw [aw _ _ e] at hx;cases hx
  ·have e:x≠b:=fun e=>by
    subst e
    rcases hb' with h|h
    ·exact h hn
    ·rw [h] at hx;cases hx
   rw [aw _ _ e];exact hx
theorem GK:SlT 22 5 1 1 (.int .u8 0):=⟨underlying22,sz5,zr5,rfl,by decide,by decide⟩
def fL (n:Nat):List Nat:=if n<128 then [n] else (n % 128+128)::fL (n / 128)
def eI (x:Int):List Nat:=fL x.toNat
def eS (s:ByteArray):List Nat:=fL s.size++bs s
def eB (b:Bool):List Nat:=[if b then 1 else 0]
def eL {α:Type} (f:α→List Nat) (l:List α):List Nat:=fL l.length++l.flatMap f
def eBr (b:Br):List Nat:=eI b.v++eI b.l++eI b.h
def eD (d:Dia):List Nat:=eL eBr d.1++eI d.2
def eNd (x:Nd):List Nat:=eI x.k++eI x.lo++eI x.hi++eI x.a++eI x.b
def eTk (t:Tk):List Nat:=eS t.name++eI t.cls++eS t.lit++eL eNd t.pat++eS t.smp++eD t.cond
def eSy (s:Sy):List Nat:=eB s.t++eI s.i
def eCn (x:Cn):List Nat:=eI x.k++eI x.a++eI x.b
def It (s:Sco):List Nat:=eB s.o++(eI s.d++eI s.k++eI s.u++eI s.a)
def ePr (p:Pr):List Nat:=eS p.name++eI p.left++eL eSy p.right++eD p.cond++eB p.brk++eI (p.rank+1)++eL eCn p.lay++It p.sco
def eLv (l:Lv):List Nat:=eL eI l.ps++eI l.assoc++eD l.cond
def eFi (f:Fi):List Nat:=eI f.k++eI f.par++eI f.pos++eI f.ch++eI f.left++eI f.tok++eL eI f.toks++eD f.cond
def eGr (g:Gr):List Nat:=eL eS g.conds++eD g.fam++eL eTk g.toks++eL eS g.nons++eL ePr g.prods++eI g.start++eL eLv g.lvs++eL eFi g.fils
structure NN (g:Gr):Prop where
 fam:(∀b∈g.fam.1,0≤b.v∧0≤b.l∧0≤b.h)∧0≤g.fam.2
 toks:∀t∈g.toks,0≤t.cls∧(∀x∈t.pat,0≤x.k∧0≤x.lo∧0≤x.hi∧0≤x.a∧0≤x.b)∧(∀b∈t.cond.1,0≤b.v∧0≤b.l∧0≤b.h)∧0≤t.cond.2
 prods:∀p∈g.prods,0≤p.left∧(∀s∈p.right,0≤s.i)∧((∀b∈p.cond.1,0≤b.v∧0≤b.l∧0≤b.h)∧0≤p.cond.2)∧-1≤p.rank∧p.rank≤1∧(∀x∈p.lay,0≤x.k∧0≤x.a∧0≤x.b)∧0≤p.sco.d∧0≤p.sco.k∧0≤p.sco.u∧0≤p.sco.a
 start:0≤g.start
 lvs:∀l∈g.lvs,(∀x∈l.ps,0≤x)∧0≤l.assoc∧(∀b∈l.cond.1,0≤b.v∧0≤b.l∧0≤b.h)∧0≤l.cond.2
 fils:∀f∈g.fils,0≤f.k∧0≤f.par∧0≤f.pos∧0≤f.ch∧0≤f.left∧0≤f.tok∧(∀x∈f.toks,0≤x)∧(∀b∈f.cond.1,0≤b.v∧0≤b.l∧0≤b.h)∧0≤f.cond.2
abbrev CQ (s:Sl):Array Value:= #[vi 0,s.v,vi 0,.bool false]
abbrev cod (bc:Nat) (s:Sl) (out:List Nat):List (PH→Prop):=[own s 5 1 (out.map vB),pt bc (.cells (CQ s) 116)]
def WrS (G:PH) (bc:Nat) (f:FuncId) (args:Array Value) (v:Value) (bx:List Nat):Prop:=
 ∀G1 F s out,G.le G1→out.length+bx.length≤100000000000→St G1 F (cod bc s out)→ae prog f args F fun r F'=>∃G' s',r=v∧G1.le G'∧St G' F' (cod bc s' (out++bx))
theorem WrS.le {G G':PH} {bc:Nat} {f:FuncId} {args:Array Value} {v:Value} {bx:List Nat} (h:WrS G bc f args v bx) (l:G.le G'):WrS G' bc f args v bx:=
 fun G1 F s out l1 hb hs=>h G1 F s out (aa l l1) hb hs
theorem WrS.go {G G1 F:PH} {bc:Nat} {f:FuncId} {args:Array Value} {v:Value} {bx:List Nat} {s:Sl} {out:List Nat} {Q:Value→PH→Prop} (hw:WrS G bc f args v bx) (l:G.le G1) (hb:out.length+bx.length≤100000000000) (h:St G1 F (cod bc s out))
  (k:∀G' F' s',G1.le G'→St G' F' (cod bc s' (out++bx))→Q v F'):ae prog f args F Q:=
 (hw G1 F s out l hb h).mono fun r F' ⟨G',s',e,l',h'⟩=>by rw [e];exact k G' F' s' l' h'
theorem wx {G F:PH} {As:List (PH→Prop)} {s:Sl} {out:List Nat} (h:St G F (own s 5 1 (out.map vB)::As)):s.len=out.length:=by
 have:=(h.ownAt (i:=0) rfl).1.rd.len
 simp at this
 exact this.symm
abbrev pc (bc:Nat):Value:=.pointer (some (Addr.mk bc 0 none))
theorem Ah {G F:PH} {s:Sl} {out:List Nat} {x:Nat} {As:List (PH→Prop)} (h:St G F (own s 5 1 (out.map vB++ #[vB x].toList)::As)):St G F (own s 5 1 ((out++[x]).map vB)::As):=by
 rw [List.map_append]
 exact h
theorem CR:∀n:Nat,IntKind.u8.wrap ((BitVec.ofInt (IntKind.u8).bits (IntKind.u8.wrap (n:Int)) ||| BitVec.ofInt (IntKind.u8).bits (128:Int)).toNat)=((n % 128+128:Nat):Int):=by
 intro n
 have e1:IntKind.u8.wrap (n:Int)=((n % 256:Nat):Int):=by simp [IntKind.wrap,IntKind.bits,IntKind.signed]
 rw [e1]
 have key:∀m:Fin 256,IntKind.u8.wrap ((BitVec.ofInt (IntKind.u8).bits ((m.val:Nat):Int) ||| BitVec.ofInt (IntKind.u8).bits (128:Int)).toNat)=((m.val % 128+128:Nat):Int):=by decide+kernel
 have:=key ⟨n % 256,Nat.mod_lt _ (by decide)⟩
 rw [this]
 simp only
 omega
theorem fM {n:Nat} (h:n<128):fL n=[n]:=by unfold fL;rw [if_pos h]
theorem tw {n:Nat} (h:¬n<128):fL n=(n % 128+128)::fL (n / 128):=by rw [fL,if_neg h]
theorem CS (n:Nat):0<(fL n).length:=by
 by_cases h:n<128
 ·rw [fM h];simp
 ·rw [tw h];simp
theorem CT (n:Nat):Int.fdiv (n:Int) (2 ^ (min (Int.toNat (7:Int)) (IntKind.i64).bits))=((n / 128:Nat):Int):=by
 show Int.fdiv (n:Int) (2 ^ 7)=_
 rw [Int.fdiv_eq_ediv_of_nonneg _ (by decide)]
 norm_cast
theorem jt {G:PH} {bc:Nat} {a:Addr} {n:Nat} (ha:G.cell a=some (vi n)):WrS G bc 125 #[pc bc,.pointer (some a)] (.tuple #[]) (fL n):=by
 intro G1 F s out l hb h
 refine Ll ?_
 unfold Fs
 refine ⟨_,rfl,_,h.ld1 rfl,fun _=>⟨_,rfl,_,aq (aa l h.le) ha,?_⟩,fun h=>absurd rfl h⟩
 refine ⟨fun m i F'=>∃(k:Nat) (G2:PH) (s2:Sl) (out2:List Nat),i=(k:Int)∧m=k∧G1.le G2∧St G2 F' (cod bc s2 out2)∧out++fL n=out2++fL k,n,⟨n,G1,s,out,rfl,rfl,le_refl' _,h,rfl⟩,?_⟩
 rintro m i F2 ⟨k,G2,s2,out2,rfl,hm,l2,h,he⟩
 have hlen:=congrArg List.length he
 rw [List.length_append,List.length_append] at hlen
 have hs2:=wx h
 have:=CS k
 unfold xI
 refine ⟨fun hk=> ?_,fun hk=> ?_⟩
 ·have hk':¬k<128:=by omega
  refine ⟨_,by rw [aI];exact h.ld1 rfl,?_⟩
  rw [CR,CT]
  refine h.push0 GK (c:= #[vB (k % 128+128)]) rfl (by simp [ai]) (by omega) fun s3 G3 F3 l3 h hl3=> ?_
  rw [aI]
  refine h.set1 (w':=CQ s3) (by simp) rfl fun F4 h=> ?_
  refine ⟨k / 128,by have:=Nat.div_lt_self (n:=k) (k:=128) (by omega) (by decide);omega,k / 128,G3,s3,out2++[k % 128+128],rfl,rfl,aa l2 l3,?_,?_⟩
  ·exact Ah h
  ·rw [he,tw hk',List.append_assoc]
   rfl
 ·have hk':k<128:=by omega
  unfold xH
  have ew:IntKind.u8.wrap (k:Int)=(k:Int):=by simp [IntKind.wrap,IntKind.bits,IntKind.signed];omega
  rw [ew]
  refine ⟨_,by rw [aI];exact h.ld1 rfl,?_⟩
  refine h.push0 GK (c:= #[vB k]) rfl (by simp [ai]) (by omega) fun s3 G3 F3 l3 h hl3=> ?_
  rw [aI]
  refine h.set1 (w':=CQ s3) (by simp) rfl fun F4 h=>⟨G3,s3,rfl,aa l2 l3,?_⟩
  rw [he,fM hk']
  exact Ah h
theorem wy (G:PH) {bc:Nat} (n:Nat):WrS G bc 178 #[pc bc,vi n] (vi n) (fL n):=by
 intro G1 F s out l hb h
 refine LO ?_
 unfold FG
 refine h.newG fun b3 G2 F2 l2 q3 _ h=> ?_
 refine (jt (ld q3 rfl)).go (le_refl' _) hb h fun G3 F3 s3 l3 h=>⟨rfl,_,rfl,_,h.ld1 rfl,fun h=>(by cases h),fun _=> ?_⟩
 unfold mz
 exact ⟨fun h=>(by cases h),fun _=>⟨_,ld (h.le _ _ (l3 _ _ q3)) rfl,G3,s3,rfl,aa l2 l3,h⟩⟩
theorem nk {G:PH} {bc:Nat} {a:Addr} {x:ByteArray} (ha:G.cell a=some (.string x)):WrS G bc 119 #[pc bc,.pointer (some a)] (.tuple #[]) (eS x):=by
 intro G1 F s out l hb h
 unfold eS at hb ⊢
 rw [List.length_append,cS] at hb
 refine K9 ?_
 unfold Fm
 refine ⟨_,rfl,_,aq (aa l h.le) ha,?_⟩
 refine (wy G1 x.size).go (le_refl' _) (by omega) h fun G3 F3 s3 l3 h=>⟨_,rfl,_,rfl,_,h.ld1 rfl,fun _=>⟨_,by rw [aI];exact h.ld1 rfl,_,aq (aa l (aa l3 h.le)) ha,?_⟩,fun h=>absurd rfl h⟩
 have hs3:=wx h
 rw [List.length_append] at hs3
 refine h.appStrAt GK underlying9 0 rfl (by omega) fun s4 F4 h hl4=> ?_
 rw [aI]
 refine St.set1 (w':=CQ s4) h (by simp) rfl fun F5 h=>⟨G3,s4,rfl,l3,?_⟩
 rw [← List.append_assoc]
 show St G3 F5 [own s4 5 1 ((out++fL x.size++bs x).map vB),_]
 rw [List.map_append (l₂:=bs x)]
 exact h
def gj (n:Nat) (X:Addr→Prop) (N1:Int→PH→Prop) (c_0:Option Addr) (l1a_:Addr) (one_2:Value) (v_14:Int) (R:VR) (i_7:Int) (F:PH):Prop:=
 ((i_7<v_14→
  ∃c0a_:Addr,c_0=some c0a_∧∃v_22:Bool,F.cell (Addr.add c0a_ 3)=some (.bool v_22)∧
  (((!v_22)=true→
   ∃v_30:Int,F.cell c0a_=some (.int .i64 v_30)∧
   ((v_30=(0:Int)→
    ∃v_35:Sl,F.cell l1a_=some (Sl.v v_35)∧
    ∃a37_:Addr,v_35.base=some a37_∧0≤i_7∧i_7<(v_35.len:Int)∧
    ∃(k38:Nat) (fst38 cap38:Array Value),one_2=.func (.func k38) fst38 cap38∧aB prog k38=true∧ae prog k38 (fst38++([(.pointer (some (Addr.add a37_ (Int.toNat i_7*n))))]).toArray++cap38) F fun v F=>v=(.tuple #[])∧
    N1 (IntKind.i64.wrap (i_7+(1:Int))) F)∧
   (¬(v_30=(0:Int))→
    X c0a_)))∧
  ((!v_22)=false→
   R (.tuple #[]) F)))∧
 (¬(i_7<v_14)→
  R (.tuple #[]) F))
def gA (L:(Int→PH→Prop)→Option Addr→Addr→Value→Int→VR→Int→PH→Prop) (c_0:Option Addr) (l_1:Option Addr) (one_2:Value) (R:VR) (F:PH):Prop:=
 ∃l1a_:Addr,l_1=some l1a_∧∃v_12:Sl,F.cell l1a_=some (Sl.v v_12)∧
 ae prog 178 #[(.pointer c_0),(.int .i64 (v_12.len:Int))] F fun v F=>∃v_14:Int,v=(.int .i64 v_14)∧
 (∃(I1:Nat→Int→PH→Prop) (m1:Nat),I1 m1 (0:Int) F∧∀m1 i_7 F,I1 m1 i_7 F→
  L (fun y1_0 F=>∃m',m'<m1∧I1 m' y1_0 F) c_0 l1a_ one_2 v_14 R i_7 F)
theorem iW {α β:Type} {l:List α} {k:Nat} {x:α} (f:α→List β) (h:l[k]? =some x):(l.take (k+1)).flatMap f=(l.take k).flatMap f++f x:=by
 rw [aV h,List.flatMap_append]
 simp
theorem fN {α:Type} (f:α→List Nat) (l:List α) (k:Nat):((l.take k).flatMap f).length≤(l.flatMap f).length:=by
 have:l.flatMap f=(l.take k).flatMap f++(l.drop k).flatMap f:=by rw [← List.flatMap_append,List.take_append_drop]
 rw [this,List.length_append]
 omega
theorem eT {α:Type} [Mem α] {G:PH} {bc:Nat} {la:Addr} {sl:Sl} {l:List α} (hl:RL G sl l) (hla:G.cell la=some sl.v) (hn:0<Mem.n α) (hll:l.length≤1000000000) {k:Nat} {fst cap:Array Value} (hk:aB prog k=true) (f:α→List Nat) (args:Value→Array Value) (ha:∀p,fst++([p]).toArray++cap=args p)
  (hone:∀x∈l,∀G1 a c,G.le G1→G1.row a c→Mem.rep G1 x c→WrS G1 bc k (args (.pointer (some a))) (.tuple #[]) (f x))
  {L:(Int→PH→Prop)→Option Addr→Addr→Value→Int→VR→Int→PH→Prop} (hL:∀N c0 l1 o v R i F,∃X,L N c0 l1 o v R i F=gj (Mem.n α) X N c0 l1 o v R i F)
  {G1 F:PH} {s:Sl} {out:List Nat} (l01:G.le G1) (hb:out.length+(eL f l).length≤100000000000) (h:St G1 F (cod bc s out)):
  gA L (some (Addr.mk bc 0 none)) (some la) (.func (.func k) fst cap) (fun r F'=>∃G' s',r=.tuple #[]∧G1.le G'∧St G' F' (cod bc s' (out++eL f l))) F:=by
 have el:=hl.len hn
 unfold eL at hb ⊢
 rw [List.length_append] at hb
 refine ⟨_,rfl,_,aq (aa l01 h.le) hla,?_⟩
 rw [el]
 refine (wy G1 l.length).go (le_refl' _) (by omega) h fun G2 F2 s2 l2 h=>⟨_,rfl,?_⟩
 refine cv (L · _ _ _ _ _) l.length (fun j F'=>∃G3 s3,G2.le G3∧St G3 F' (cod bc s3 (out++fL l.length++(l.take j).flatMap f))) ⟨G2,s2,le_refl' _,by simpa using h⟩ ?_
 rintro j F3 N hj ⟨G3,s3,l3,h⟩ next
 obtain ⟨X,hX⟩:=hL N (some (Addr.mk bc 0 none)) la (.func (.func k) fst cap) (l.length:Int) (fun r F'=>∃G' s',r=.tuple #[]∧G1.le G'∧St G' F' (cod bc s' (out++(fL l.length++l.flatMap f)))) (j:Int) F3
 rw [hX]
 unfold gj
 have l03:=aa l01 (aa l2 l3)
 refine ⟨fun hlt=> ?_,fun hge=> ?_⟩
 ·have hlt:j<l.length:=by omega
  refine ⟨_,rfl,_,by rw [aI];exact h.ld1 rfl,fun _=>⟨_,h.ld1 rfl,fun _=>⟨_,aq (aa l03 h.le) hla,?_⟩,fun h=>absurd rfl h⟩,fun h=>(by cases h)⟩
  refine ixc (hl.le l03) hn (by omega) (by omega) fun a c x hx hr hc=>⟨k,fst,cap,rfl,hk,?_⟩
  rw [Int.toNat_natCast] at hx
  have hxm:x∈l:=List.mem_of_getElem? hx
  have e:=iW f hx
  have hp:=fN f l (j+1)
  rw [e,List.length_append] at hp
  rw [ha]
  refine (hone x hxm G3 _ c l03 hr hc).go (le_refl' _) (by rw [List.length_append,List.length_append];omega) h fun G4 F4 s4 l4 h=>⟨rfl,?_⟩
  rw [aT hlt (by omega)]
  refine next _ hlt ⟨G4,s4,aa l3 l4,?_⟩
  rw [e,← List.append_assoc]
  exact h
 ·have e:j=l.length:=by omega
  subst e
  rw [List.take_length] at h
  exact ⟨G3,s3,rfl,aa l2 l3,by rw [← List.append_assoc];exact h⟩
end Go.Proofs.YtenpmjhnhepfdaaGreatDoor
