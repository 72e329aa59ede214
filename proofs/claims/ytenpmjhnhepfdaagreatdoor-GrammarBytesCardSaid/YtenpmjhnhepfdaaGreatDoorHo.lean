/-
  Bytes that are appended: strings; encodings in plain Lean.
-/
import Derived.Test.YtenpmjhnhepfdaaGreatDoorHj
namespace Go.Proofs.YtenpmjhnhepfdaaGreatDoor
open Go Go.Proofs.Tryz
set_option maxRecDepth 10000
structure SlT (t e:TypeId) (n bytes:Nat) (z:Value):Prop where
 ht:prog.underlying t=some (.slice e)
 hsz:tsz prog e=some (n,bytes)
 hz:bu prog e=some z
 hzs:z.cells.size=n
 hn:0<n
 hb:bytes≤250
theorem xy {n m b:Nat} (hb:b≤250) (h:n+m≤500000000000):(n+m)*b≤140737488355328:=
 Nat.le_trans (Nat.mul_le_mul h hb) (by decide)
theorem St.appAt {G F:PH} {As:List (PH→Prop)} {t e n bytes:Nat} {z:Value} (T:SlT t e n bytes z) {s x:Sl} {olds news:List Value} {ty:TypeId} (h:St G F As) (i:Nat) (hi:As[i]? =some (own s e n olds)) (hx:RdS F x n news) (hst:∀v∈news,aj v)
  (hlen:s.len+x.len≤500000000000) {K:Sl→PH→Prop} (k:∀s' F',St G F' (As.set i (own s' e n (olds++news)))→s'.len=s.len+x.len→K s' F'):
  aE prog (Builtin.append_ #[t,t] ty #[s.v,x.v]) F fun v F=>∃s':Sl,v=Sl.v s'∧K s' F:=by
 obtain ⟨H,a1,a2,a3,a4⟩:=h.set (A':=own s e n olds) hi
 have ho:=(h.ownAt hi).1
 by_cases h0:x.len=0
 ·have hnil:news=[]:=List.eq_nil_of_length_eq_zero (by rw [hx.len,h0,Nat.zero_mul])
  subst hnil
  refine mn T.ht T.hsz T.hz T.hzs ho hx h0 (by have:=xy (n:=s.len) (m:=0) T.hb (by omega);simpa using this) (by omega) ⟨s,rfl,k s F ?_ (by omega)⟩
  rw [List.append_nil]
  exact a4 H F a1 (fun b hb=> .inl hb) a3 (fun b o hb _=>hb)
 ·refine oJ T.ht T.hsz T.hz T.hzs T.hn ho hx (by omega) hst (xy T.hb hlen) (by omega) ?_
  rintro s' F' b ob rfl ho' hl' hbase hb
  obtain ⟨H,a1,a2,a3,a4⟩:=h.set (A':=own s' e n (olds++news)) hi
  have hb':H b≠none∨F b=none:=by
   rcases hb with ⟨a,ha,rfl⟩|hb
   ·obtain ⟨cur,hc⟩:=bM.elem a1 ha
    exact .inl (by rw [hc];simp)
   ·exact .inr hb
  refine ⟨s',rfl,k s' _ ?_ hl'⟩
  refine a4 (PH.set (fun _=>none) b ob) _ (ho'.keep fun a ha=>by rw [hbase a ha,an,an]) (fun x hx=> ?_) (fun x p hx=> ?_) (fun x p hx hn=> ?_)
  ·by_cases e:x=b
   ·rw [e];exact hb'
   ·rw [az _ _ e] at hx;exact absurd rfl hx
  ·by_cases e:x=b
   ·rw [e,an] at hx ⊢;exact hx
   ·rw [az _ _ e] at hx;cases hx
  ·have e:x≠b:=fun e=>by
    subst e
    rcases hb' with h|h
    ·exact h hn
    ·rw [h] at hx;cases hx
   rw [az _ _ e];exact hx
namespace St
section
variable {G F:PH} {As:List (PH→Prop)} {t e n bytes:Nat} {z:Value}
theorem pinOwn {s:Sl} {vs:List Value} (h:St G F (own s e n vs::As)) {K:PH→Prop} (k:∀G',G.le G'→RdS G' s n vs→St G' F As→K F):K F:=by
 obtain ⟨G',h1,⟨H,hA,hH⟩,h2⟩:=h.pin
 exact k G' h1 ((bM.rd hA).le hH) h2
theorem app0 (T:SlT t e n bytes z) {s x:Sl} {olds news:List Value} {ty:TypeId} (h:St G F (own s e n olds::As)) (hx:RdS F x n news) (hst:∀v∈news,aj v) (hlen:s.len+x.len≤500000000000) {K:Sl→PH→Prop}
  (k:∀s' F',St G F' (own s' e n (olds++news)::As)→s'.len=s.len+x.len→K s' F'):
  aE prog (Builtin.append_ #[t,t] ty #[s.v,x.v]) F fun v F=>∃s':Sl,v=Sl.v s'∧K s' F:=h.appAt T 0 rfl hx hst hlen k
theorem push0 (T:SlT t e n bytes z) {s:Sl} {olds:List Value} {c:Array Value} {ty:TypeId} (h:St G F (own s e n olds::As)) (hc:c.size=n) (hst:∀v∈c.toList,aj v) (hlen:s.len≤400000000000) {K:Sl→PH→Prop}
  (k:∀s' G' F',G.le G'→St G' F' (own s' e n (olds++c.toList)::As)→s'.len=s.len+1→K s' F'):
  ∀b,F b=none→atF (F.set b (.cells c e)) fun F=>aE prog (Builtin.append_ #[t,t] ty #[s.v,Sl.v (Sl.mk (some (Addr.mk b 0 none)) 1 1)]) F fun v F=>∃s':Sl,v=Sl.v s'∧K s' F:=by
 refine h.newG fun b G' F' l q _ h=> ?_
 have hx:RdS F' (Sl.mk (some (Addr.mk b 0 none)) 1 1) n c.toList:=RdS.new (h.le _ _ q) (List.take_of_length_le (by rw [Array.length_toList,hc,Nat.one_mul];exact Nat.le_refl _)) (by rw [Array.length_toList,hc,Nat.one_mul]) (Nat.le_refl _)
 exact h.app0 T hx hst (by show s.len+1≤_;omega) fun s' F'' h' hl'=>k s' G' F'' l h' hl'
theorem app1 {p0:PH→Prop} (T:SlT t e n bytes z) {s x:Sl} {olds news:List Value} {ty:TypeId} (h:St G F (p0::own s e n olds::As)) (hx:RdS F x n news) (hst:∀v∈news,aj v) (hlen:s.len+x.len≤500000000000) {K:Sl→PH→Prop}
  (k:∀s' F',St G F' (p0::own s' e n (olds++news)::As)→s'.len=s.len+x.len→K s' F'):
  aE prog (Builtin.append_ #[t,t] ty #[s.v,x.v]) F fun v F=>∃s':Sl,v=Sl.v s'∧K s' F:=h.appAt T 1 rfl hx hst hlen k
theorem push1 {p0:PH→Prop} (T:SlT t e n bytes z) {s:Sl} {olds:List Value} {c:Array Value} {ty:TypeId} (h:St G F (p0::own s e n olds::As)) (hc:c.size=n) (hst:∀v∈c.toList,aj v) (hlen:s.len≤400000000000) {K:Sl→PH→Prop}
  (k:∀s' G' F',G.le G'→St G' F' (p0::own s' e n (olds++c.toList)::As)→s'.len=s.len+1→K s' F'):
  ∀b,F b=none→atF (F.set b (.cells c e)) fun F=>aE prog (Builtin.append_ #[t,t] ty #[s.v,Sl.v (Sl.mk (some (Addr.mk b 0 none)) 1 1)]) F fun v F=>∃s':Sl,v=Sl.v s'∧K s' F:=by
 refine h.newG fun b G' F' l q _ h=> ?_
 have hx:RdS F' (Sl.mk (some (Addr.mk b 0 none)) 1 1) n c.toList:=RdS.new (h.le _ _ q) (List.take_of_length_le (by rw [Array.length_toList,hc,Nat.one_mul];exact Nat.le_refl _)) (by rw [Array.length_toList,hc,Nat.one_mul]) (Nat.le_refl _)
 exact h.app1 T hx hst (by show s.len+1≤_;omega) fun s' F'' h' hl'=>k s' G' F'' l h' hl'
theorem app2 {p0 p1:PH→Prop} (T:SlT t e n bytes z) {s x:Sl} {olds news:List Value} {ty:TypeId} (h:St G F (p0::p1::own s e n olds::As)) (hx:RdS F x n news) (hst:∀v∈news,aj v) (hlen:s.len+x.len≤500000000000) {K:Sl→PH→Prop}
  (k:∀s' F',St G F' (p0::p1::own s' e n (olds++news)::As)→s'.len=s.len+x.len→K s' F'):
  aE prog (Builtin.append_ #[t,t] ty #[s.v,x.v]) F fun v F=>∃s':Sl,v=Sl.v s'∧K s' F:=h.appAt T 2 rfl hx hst hlen k
theorem push2 {p0 p1:PH→Prop} (T:SlT t e n bytes z) {s:Sl} {olds:List Value} {c:Array Value} {ty:TypeId} (h:St G F (p0::p1::own s e n olds::As)) (hc:c.size=n) (hst:∀v∈c.toList,aj v) (hlen:s.len≤400000000000) {K:Sl→PH→Prop}
  (k:∀s' G' F',G.le G'→St G' F' (p0::p1::own s' e n (olds++c.toList)::As)→s'.len=s.len+1→K s' F'):
  ∀b,F b=none→atF (F.set b (.cells c e)) fun F=>aE prog (Builtin.append_ #[t,t] ty #[s.v,Sl.v (Sl.mk (some (Addr.mk b 0 none)) 1 1)]) F fun v F=>∃s':Sl,v=Sl.v s'∧K s' F:=by
 refine h.newG fun b G' F' l q _ h=> ?_
 have hx:RdS F' (Sl.mk (some (Addr.mk b 0 none)) 1 1) n c.toList:=RdS.new (h.le _ _ q) (List.take_of_length_le (by rw [Array.length_toList,hc,Nat.one_mul];exact Nat.le_refl _)) (by rw [Array.length_toList,hc,Nat.one_mul]) (Nat.le_refl _)
 exact h.app2 T hx hst (by show s.len+1≤_;omega) fun s' F'' h' hl'=>k s' G' F'' l h' hl'
end
end St
section
variable {α:Type} [Mem α] {F:PH}
end
theorem Kn:SlT 30 9 1 16 (.string ⟨#[]⟩):=⟨underlying30,sz9,zr9,rfl,by decide,by decide⟩
theorem FC:SlT 70 3 1 8 (.int .i64 0):=⟨underlying70,sz3,zr3,rfl,by decide,by decide⟩
theorem O7:∃b z,SlT 77 97 5 b z:=⟨_,_,underlying77,Pt,PA,rfl,by decide,by decide⟩
theorem Ko:∃b z,SlT 62 69 2 b z:=⟨_,_,underlying62,Pm,Pw,rfl,by decide,by decide⟩
theorem O8:∃b z,SlT 63 101 3 b z:=⟨_,_,underlying63,KW,KX,rfl,by decide,by decide⟩
theorem Io:∃b z,SlT 34 79 7 b z:=⟨_,_,underlying34,Pq,Pz,rfl,by decide,by decide⟩
theorem Ea:∃b z,SlT 35 67 13 b z:=⟨_,_,underlying35,Pk,Pv,rfl,by decide,by decide⟩
theorem Kp:∃b z,SlT 36 72 4 b z:=⟨_,_,underlying36,Po,Px,rfl,by decide,by decide⟩
theorem Kq:∃b z,SlT 37 74 9 b z:=⟨_,_,underlying37,Pp,Py,rfl,by decide,by decide⟩
theorem O9:SlT 57 54 1 8 (.int .u64 0):=⟨underlying57,Pj,Pu,rfl,by decide,by decide⟩
section
variable {F:PH} {s:Sl}
end
end Go.Proofs.YtenpmjhnhepfdaaGreatDoor
namespace Go.Proofs.YtenpmjhnhepfdaaGreatDoor
open Go Go.Proofs.Tryz Tr
set_option maxRecDepth 10000
def gr0:Gr:=⟨[],([],0),[],[],[],0,[],[]⟩
theorem GV.zero (F:PH):GV F #[.slice none 0 0,.slice none 0 0,.int .i64 0,.slice none 0 0,.slice none 0 0,.slice none 0 0,.int .i64 0,.slice none 0 0,.slice none 0 0] gr0:=
 ⟨Sl.nil,Sl.nil,Sl.nil,Sl.nil,Sl.nil,Sl.nil,Sl.nil,rfl,RL.nil F,RL.nil F,RL.nil F,RL.nil F,RL.nil F,RL.nil F,RL.nil F⟩
section
variable {F1:PH} {g:Gr} {c:Int} {b2 b3 b4 b8:Nat} {sc sn st' ss sp sl sf:Sl} {R:VR} (hz:Sm g) (hs:GS F1 g sc sn st' ss sp sl sf) (q2:F1 b2=some (.cells (g.arr sc sn st' ss sp sl sf) 39))
 (hc:F1.cell ⟨b3,0,none⟩=some (.int .u64 c)) (c0:0≤c) (c1:c<18446744073709551616)
include hz hs q2 hc c0 c1
end
instance (t:Tr):Decidable (t=leaf false):=match t with
 |leaf true=>isFalse (by simp)
 |leaf false=>isTrue rfl
 |node _ _ _=>isFalse (by simp)
noncomputable def dW:Nat→Tr→Nat→List Nat
 |0,t,a=>if t=leaf false then [] else [a]
 |n+1,t,a=>if t=leaf false then [] else dW n (fx n false t) a++dW n (fx n true t) (a+2 ^ n)
theorem dt (n a:Nat):dW n (leaf false) a=[]:=by cases n<;>simp [dW]
theorem bT {n:Nat} {b:Bool}:∀(t:Tr),t.ok→bX (n+1) t→bX n (fx n b t)
 |leaf x,_,_=>by rw [gx];trivial
 |node v l h,hk,⟨b0,b1,b2⟩=>by
  have hf:=mX (w:=n) (b:=b) hk
  obtain ⟨h0,h1,h2,h3,h4,h5⟩:=hk
  rw [hf]
  split
  ·split
   ·exact bT h h5 b2
   ·exact bT l h4 b1
  ·exact oz (by omega) (bT l h4 b1) (bT h h5 b2)
theorem mK (c i:Nat):cfg (c:Int) i=c.testBit i:=by simp [cfg]
theorem Eb {n c:Nat} (h:c<2 ^ n):(cfg (c:Int)).set n false=cfg (c:Int):=by
 funext i
 unfold Cf.set
 split
 ·rename_i e
  subst e
  rw [mK,Nat.testBit_lt_two_pow h]
 ·rfl
theorem Bl {n c:Nat} (h:c<2 ^ n):(cfg (c:Int)).set n true=cfg ((2 ^ n+c:Nat):Int):=by
 funext i
 unfold Cf.set
 split
 ·rename_i e
  subst e
  rw [mK,Nat.testBit_two_pow_add_eq,Nat.testBit_lt_two_pow h]
  rfl
 ·rename_i e
  rw [mK,mK]
  by_cases hi:i<n
  ·rw [Nat.testBit_two_pow_add_gt hi]
  ·have h1:2 ^ n+c<2 ^ i:=by
    have:2 ^ (n+1)≤2 ^ i:=Nat.pow_le_pow_right (by decide) (by omega)
    rw [Nat.pow_succ] at this
    omega
   rw [Nat.testBit_lt_two_pow h1,Nat.testBit_lt_two_pow (by omega)]
theorem jN:∀(n:Nat) (t:Tr),t.ok→bX n t→∀a,dW n t a=((List.range (2 ^ n)).filter fun c=>t.ev (cfg (c:Nat))).map (a+ ·)
 |0,t,_,hb,a=>by
  cases t with
  |node v l h=>exact absurd hb.1 (by omega)
  |leaf x=>
   cases x
   ·rw [dt];simp [Tr.ev]
   ·simp [dW,Tr.ev,List.range_succ]
 |n+1,t,hk,hb,a=>by
  by_cases ht:t=leaf false
  ·subst ht
   rw [dt]
   simp [Tr.ev]
  ·rw [dW,if_neg ht]
   obtain ⟨k0,_,e0⟩:=cE n false hk
   obtain ⟨k1,_,e1⟩:=cE n true hk
   rw [jN n _ k0 (bT t hk hb),jN n _ k1 (bT t hk hb)]
   rw [show 2 ^ (n+1)=2 ^ n+2 ^ n by rw [Nat.pow_succ];omega,List.range_add,List.filter_append,List.map_append]
   congr 1
   ·congr 1
    apply List.filter_congr
    intro c hc
    rw [e0,Eb (List.mem_range.1 hc)]
   ·rw [List.filter_map,List.map_map]
    have:((fun c=>t.ev (cfg (c:Nat)))∘fun x=>2 ^ n+x)=fun c=>t.ev (cfg ((2 ^ n+c:Nat):Int)):=rfl
    rw [this]
    have hf:(List.range (2 ^ n)).filter (fun c=>(fx n true t).ev (cfg (c:Nat)))=(List.range (2 ^ n)).filter fun c=>t.ev (cfg ((2 ^ n+c:Nat):Int)):=by
     apply List.filter_congr
     intro c hc
     rw [e1,Bl (List.mem_range.1 hc)]
    rw [hf]
    apply List.map_congr_left
    intro c _
    simp only [Function.comp_apply]
    omega
theorem qQ (n:Nat) (t:Tr) (hk:t.ok) (hb:bX n t) (a:Nat):(dW n t a).length≤2 ^ n:=by
 rw [jN n t hk hb,List.length_map]
 exact Nat.le_trans (List.length_filter_le _ _) (by simp)
theorem zO {d:Dia} {n:Nat} (h:gK d n):∃t:Tr,t.ok∧d=dia t∧tre d=t∧(aL t).length≤4096∧bX n t:=by
 obtain ⟨h1,h2⟩:=h
 unfold chk at h1
 split at h1
 ·cases h1
 ·rename_i hl
  split at h1
  ·rename_i hv
   obtain ⟨t,ht,rfl⟩:=hv
   refine ⟨t,ht,rfl,sQ ht,by simpa [dia,aO] using hl,?_⟩
   refine oZ (cu ht) (fun x hx=> ?_) t (ca ht)
   obtain ⟨_,v,l,r,rfl,_,_⟩:=(cu ht).mem x hx
   have:=h2 (br (aL t) (node v l r)) (List.mem_map.2 ⟨_,hx,rfl⟩)
   simp only [br] at this
   simp only [top]
   omega
  ·cases h1
abbrev vC (c:Nat):Value:=.int .u64 (c:Int)
theorem vz:au prog 91=true:=by kernel_rfl
theorem Bm {t:Tr} (hk:t.ok) (hl:(aL t).length≤4096) {n:Nat} (hn:n<64) (b:Bool):qq (dia t) (n:Int) b=(dia (fx n b t),0):=by
 have h1:=xY hk hl
 have h2:=lI (w:=n) (b:=b) hk
 unfold qq
 rw [if_neg (fun h=>h h1),if_neg (by omega),sQ hk,Int.toNat_natCast]
 unfold lim
 rw [if_neg (by simp only [dia,aO];omega)]
theorem zQ {G0:PH} {b3 b6 b7:Nat} {most:Int} (h3:G0.cell ⟨b3,0,none⟩=some (vi most)) (h7:G0.cell ⟨b7,0,none⟩=some (.func (.func 91) #[] #[.pointer (some ⟨b6,0,none⟩),.pointer (some ⟨b3,0,none⟩),.pointer (some ⟨b7,0,none⟩)])):
  ∀(n:Nat),n≤30→∀(t:Tr) (above:Nat) (out:List Nat) (G F:PH) (s:Sl) (v:Array Value),t.ok→(aL t).length≤4096→bX n t→above % 2 ^ n=0→above+2 ^ n≤2 ^ 63→G0.le G→DV G v (dia t)→(out.length:Int)≤most→out.length+2 ^ n≤2 ^ 31→
   St G F [own s 54 1 (out.map vC),pt b6 (.cells #[s.v] 57)]→
   ac prog 91 #[.agg v,vi n,.int .u64 above,.pointer (some ⟨b6,0,none⟩),.pointer (some ⟨b3,0,none⟩),.pointer (some ⟨b7,0,none⟩)] F
    fun r F'=>∃G' s',r=.bool (decide ((out.length+(dW n t above).length:Nat)≤most))∧G.le G'∧St G' F' [own s' 54 1 (((out++dW n t above).take most.toNat).map vC),pt b6 (.cells #[s'.v] 57)]:=by
 intro n
 induction n with
 |zero=>
  intro _ t above out G F s v hk hl hb ha ha2 l0 hd hm hlen h
  obtain ⟨sn,rfl,hn⟩:=hd
  refine Ng ?_
  unfold JX
  refine h.newG fun b F1 F2 l1 q1 _ h=>⟨_,ld (h.le _ _ q1) rfl,fun h0=> ?_,fun h0=>⟨fun _=> ?_,fun h=>absurd rfl h⟩⟩
  ·have e:t=leaf false:=uL.1 (Int.natCast_eq_zero.1 h0)
   subst e
   refine ⟨F1,s,?_,l1,?_⟩
   ·rw [dt,decide_eq_true (by simpa using hm)]
   ·rw [dt,List.append_nil,List.take_of_length_le (by omega)]
    exact h
  ·have e:t≠leaf false:=fun e=>h0 (by rw [e];rfl)
   have ee:dW 0 t above=[above]:=by rw [dW,if_neg e]
   have hsl:s.len=out.length:=by
    have:=(h.ownAt (i:=0) rfl).1.rd.len
    simp at this
    exact this.symm
   refine ⟨_,rfl,_,h.ld1 rfl,_,rfl,_,aq (aa l0 (aa l1 h.le)) h3,fun h1=> ?_,fun h1=>⟨_,h.ld1 rfl,?_⟩⟩
   ·refine ⟨F1,s,?_,l1,?_⟩
    ·rw [ee,decide_eq_false (by simp only [List.length_singleton];omega)]
    ·rw [ee,List.take_append_of_le_length (by omega),List.take_of_length_le (by omega)]
     exact h
   ·refine h.push0 O9 (c:= #[vC above]) rfl (by simp [aj]) (by omega) fun s' G3 F3 l3 h hl'=> ?_
    refine h.set1 (w':= #[s'.v]) (by simp) rfl fun F4 h=>⟨G3,s',?_,aa l1 l3,?_⟩
    ·rw [ee,decide_eq_true (by simp only [List.length_singleton];omega)]
    ·rw [ee,List.take_of_length_le (by simp;omega),List.map_append]
     exact h
 |succ n ih=>
  intro hn30 t above out G F s v hk hl hb ha ha2 l0 hd hm hlen h
  have hd0:=hd
  obtain ⟨sn,rfl,hn⟩:=hd
  refine Ng ?_
  unfold JX
  refine h.newG fun b F1 F2 l1 q1 _ h=>⟨_,ld (h.le _ _ q1) rfl,fun h0=> ?_,fun h0=>⟨fun h=>by omega,fun _=>⟨_,rfl,ak (h.le _ _ q1),?_⟩⟩⟩
  ·have e:t=leaf false:=uL.1 (Int.natCast_eq_zero.1 h0)
   subst e
   refine ⟨F1,s,?_,l1,?_⟩
   ·rw [dt,decide_eq_true (by simpa using hm)]
   ·rw [dt,List.append_nil,List.take_of_length_le (by omega)]
    exact h
  ·have e:t≠leaf false:=fun e=>h0 (by rw [e];rfl)
   have ee:dW (n+1) t above=dW n (fx n false t) above++dW n (fx n true t) (above+2 ^ n):=by rw [dW,if_neg e]
   have ew:IntKind.i64.wrap (((n+1:Nat):Int) - 1)=(n:Int):=by rw [aK (by omega) (by omega)];omega
   rw [ew]
   have hp:2 ^ (n+1)=2 ^ n+2 ^ n:=by rw [Nat.pow_succ];omega
   have hm2:above % 2 ^ n=0:=by
    have:2 ^ n ∣ 2 ^ (n+1):=⟨2,by rw [Nat.pow_succ]⟩
    rw [← Nat.mod_mod_of_dvd above this,ha,Nat.zero_mod]
   have hor:above ||| 2 ^ n=above+2 ^ n:=by
    obtain ⟨q,hq⟩:2 ^ (n+1) ∣ above:=Nat.dvd_of_mod_eq_zero ha
    rw [hq,Nat.mul_comm,← Nat.shiftLeft_eq,← Nat.shiftLeft_add_eq_or_of_lt (by omega)]
   have rs:∀(x:Bool) {G:PH},F1.le G→ac prog 92 #[.agg #[sn.v,vi (dia t).2],vi n,.bool x] G fun r F'=>(∃w,r=.tuple #[.agg w,vi 0]∧DV F' w (dia (fx n x t)))∧G.le F':=fun x {G} l=>by
    have:=qr (hd0.le (aa l1 l)) (n:Int) x
    rw [Bm hk hl (by omega)] at this
    exact this.mono fun r F' ⟨⟨w,h1,h2⟩,h3⟩=>⟨⟨w,h1,h2⟩,h3⟩
   refine h.run (rs false (le_refl' F1)) fun r G3 F3 hr l3 h=> ?_
   obtain ⟨w,rfl,hw⟩:=hr
   refine ⟨_,_,rfl,?_⟩
   refine h.var hw.st (fun b10 G4 F4 l4 q10 h=> ?_) (by rfl) hw.size
   refine ⟨_,rfl,ak (h.le _ _ (l4 _ _ (l3 _ _ q1))),?_⟩
   refine h.run (rs true (aa l3 l4)) fun r G5 F5 hr l5 h=> ?_
   obtain ⟨u,rfl,hu⟩:=hr
   refine ⟨_,_,rfl,?_⟩
   refine h.var hu.st (fun b12 G6 F6 l6 q12 h=> ?_) (by rfl) hu.size
   have l16:=aa l3 (aa l4 (aa l5 l6))
   obtain ⟨k0,_,_⟩:=cE n false hk
   obtain ⟨k1,_,_⟩:=cE n true hk
   have s0:=lI (w:=n) (b:=false) hk
   have s1:=lI (w:=n) (b:=true) hk
   have b0:=bT (b:=false) t hk hb
   have b1:=bT (b:=true) t hk hb
   have en0:=qQ n _ k0 b0 above
   have en1:=qQ n _ k1 b1 (above+2 ^ n)
   have l06:=aa l0 (aa l1 l16)
   refine ⟨_,rfl,_,aq (aa l06 h.le) h7,w,hw.size,ak (h.le _ _ (l6 _ _ (l5 _ _ q10))),_,_,_,rfl,vz,?_⟩
   refine (ih (by omega) (fx n false t) above out G6 F6 s w k0 (by omega) b0 hm2 (by omega) l06 (hw.le (aa l4 (aa l5 l6))) hm (by omega) h).mono ?_
   rintro _ F7 ⟨G7,s7,rfl,l7,h⟩
   refine ⟨_,rfl,fun ht=> ?_,fun ht=> ?_⟩
   ·have ht:=of_decide_eq_true ht
    rw [List.take_of_length_le (by rw [List.length_append];omega)] at h
    have hbit:=Jk (x:=above) (v:=n) (by omega) (by omega)
    refine ⟨_,aq (aa l06 (aa l7 h.le)) h7,u,hu.size,ak (h.le _ _ (l7 _ _ q12)),by omega,_,_,_,rfl,vz,?_⟩
    rw [hbit,hor]
    refine (ih (by omega) (fx n true t) (above+2 ^ n) (out++dW n (fx n false t) above) G7 F7 s7 u k1 (by omega) b1 (by rw [Nat.add_mod_right];exact hm2) (by omega) (aa l06 l7) (hu.le (aa l6 l7)) (by rw [List.length_append];exact ht) (by rw [List.length_append];omega) h).mono ?_
    rintro _ F8 ⟨G8,s8,rfl,l8,h⟩
    refine ⟨_,rfl,G8,s8,?_,aa l1 (aa l16 (aa l7 l8)),?_⟩
    ·congr 1
     rw [ee,List.length_append,List.length_append,Nat.add_assoc]
    ·rw [ee,← List.append_assoc]
     exact h
   ·have ht:=of_decide_eq_false ht
    refine ⟨G7,s7,?_,aa l1 (aa l16 l7),?_⟩
    ·rw [ee,decide_eq_false (by rw [List.length_append];omega)]
    ·rw [ee,← List.append_assoc,List.take_append_of_le_length (by rw [List.length_append];omega)]
     exact h
noncomputable def zR (g:Gr):List Nat:=(List.range (2 ^ g.conds.length)).filter fun c=>(tre g.fam).ev (cfg (c:Nat))
noncomputable def i8 (g:Gr) (most:Int):List Nat×Bool:=if cf g≠0∨most<1 then ([],false) else ((zR g).take most.toNat,decide (((zR g).length:Int)≤most))
theorem jO {F:PH} {v:Array Value} {g:Gr} (hT:Tab F) (hg:GV F v g) (hz:Sz g) (hc:g.conds.length≤30) (most:Int):
  ac prog 23 #[.agg v,vi most] F fun r F'=>(∃s:Sl,r=.tuple #[s.v,.bool (i8 g most).2]∧RdS F' s 1 ((i8 g most).1.map vC))∧F.le F':=by
 have hg0:=hg
 obtain ⟨c,n,t,s,p,l,f,rfl,hs⟩:=hg
 have ec:=hs.c.len (by decide)
 refine Qm ?_
 unfold M0
 refine fresh fun b2 F1 l1 q2 _=> ?_
 refine fresh fun b3 F2 l2 q3 _=>⟨_,hg0.size,ak (l2 _ _ q2),?_⟩
 have l12:=aa l1 l2
 refine (fa (hT.le l12) (hg0.le l12) hz).mono ?_
 rintro _ F3 ⟨rfl,l3⟩
 have l13:=aa l12 l3
 have bad:cf g≠0∨most<1→(∃s:Sl,Value.tuple #[Sl.nil.v,.bool false]=.tuple #[s.v,.bool (i8 g most).2]∧RdS F3 s 1 ((i8 g most).1.map vC))∧F.le F3:=fun h=>by
  unfold i8
  rw [if_pos h]
  exact ⟨⟨Sl.nil,rfl,RdS.nil _ _⟩,l13⟩
 refine ⟨_,rfl,fun h=>bad (.inl h),fun h0=>⟨_,ld (l3 _ _ q3) rfl,fun h=>bad (.inr h),fun h1=> ?_⟩⟩
 have h0:cf g=0:=Classical.not_not.1 h0
 obtain ⟨tr,hk,hd,ht,hl,hb⟩:=zO (eZ.1 h0).fam.2.2.1
 refine (St.start F3).new fun b6 F4 h=> ?_
 refine h.new fun b7 F5 h=> ?_
 refine h.set0 (by simp) rfl fun F6 h=> ?_
 refine h.pinb (K:=fun F6=>_) fun G6 l6 q7 h=> ?_
 replace h:=h.nilOwn 54 1
 have l36:=aa l3 l6
 refine ⟨_,ld (h.le _ _ q7) rfl,#[n.v,vi g.fam.2],rfl,ft (h.le _ _ (l6 _ _ (l3 _ _ (l2 _ _ q2)))) rfl,_,ld (h.le _ _ (l6 _ _ (l3 _ _ (l2 _ _ q2)))) rfl,_,_,_,rfl,vz,?_⟩
 rw [ec]
 have hp:2 ^ g.conds.length≤2 ^ 30:=Nat.pow_le_pow_right (by decide) hc
 refine (zQ (G0:=G6) (most:=most) (ld (l36 _ _ q3) rfl) (ld q7 rfl) g.conds.length hc tr 0 [] G6 F6 Sl.nil _ hk hl hb (Nat.zero_mod _) (by omega) (le_refl' _) (by rw [← hd];exact DV.mk (hs.n.le (aa l13 l6))) (by simp;omega) (by simp;omega) h).mono ?_
 rintro _ F7 ⟨G7,s7,rfl,l7,h⟩
 have en:dW g.conds.length tr 0=zR g:=by
  rw [jN _ _ hk hb]
  unfold zR
  rw [ht]
  simp
 rw [en] at h ⊢
 refine ⟨_,rfl,s7,h.ld1 rfl,?_⟩
 unfold i8
 rw [if_neg (by omega)]
 refine ⟨⟨s7,by simp,?_⟩,aa l13 (aa l6 (aa l7 h.le))⟩
 have:=(h.ownAt (i:=0) rfl).1.rd
 simpa using this
abbrev vB (n:Nat):Value:=.int .u8 (n:Int)
theorem Kr (st:ByteArray):((bs st).map vB)=st.data.toList.map fun b=>Value.int .u8 (b.toNat:Int):=by simp [bs]
theorem Kt (l:List Nat):∀v∈l.map vB,aj v:=by
 intro v hv
 obtain ⟨x,_,rfl⟩:=List.mem_map.1 hv
 exact ⟨fun _ h=>(by cases h),fun _ h=>(by cases h)⟩
abbrev jo (st:ByteArray):List Value:=(bs st).map vB
theorem oa (st:ByteArray):(jo st).length=st.size:=by rw [List.length_map,bE]
theorem Ec (st:ByteArray):((st.extract 0 st.size).data.map fun b=>Value.int .u8 b.toNat)=(jo st).toArray:=by
 apply Array.ext'
 simp [jo,Kr]
theorem gF {P:Program} {F:PH} {s:Sl} {st:ByteArray} {t t2 e bytes ty:Nat} {z:Value} {olds:List Value} {Q:Value→PH→Prop} (ht:P.underlying t=some (.slice e)) (ht2:P.underlying t2=some .string) (hsz:tsz P e=some (1,bytes)) (hz:bu P e=some z) (hzs:z.cells.size=1)
  (ho:RdS F s 1 olds) (hfit:(s.len+st.size)*bytes≤140737488355328) (hlen:s.len+st.size≤9223372036854775807)
  (h0:st.size=0→s.len+st.size≤s.cap→Q (Sl.v ⟨s.base,s.len+st.size,s.cap⟩) F)
  (h1:0<st.size→s.len+st.size≤s.cap→∃b o c e',s.base=some ⟨b,o,none⟩∧F b=some (.cells c e' (0,0))∧o+s.len+st.size≤c.size∧
   Q (Sl.v ⟨s.base,s.len+st.size,s.cap⟩) (F.set b (.cells (wr c (o+s.len) (jo st)) e')))
  (h2:s.cap<s.len+st.size→∀cap b,s.len+st.size≤cap→F b=none→Q (Sl.v ⟨some ⟨b,0,none⟩,s.len+st.size,cap⟩) (F.set b (.cells (olds.toArray++(jo st).toArray++Builtin.zeroCells z.cells (cap - (s.len+st.size))) e))):
  aE P (Builtin.append_ #[t,t2] ty #[s.v,.string st]) F Q:=by
 have hnl:(jo st).length=st.size:=oa st
 have hst:∀v∈jo st,aj v:=Kt _
 have hol:=ho.len
 have hfn:∀Q',Q' (jo st).toArray F→aE P (Builtin.firstCells 1 st.size (.string st)) F Q':=fun Q' hq=>by
  simp only [Builtin.firstCells,aM]
  rw [Ec]
  exact hq
 have hfo:∀Q',Q' olds.toArray F→aE P (Builtin.firstCells 1 s.len s.v) F Q':=fun Q' hq=>eC ho (Nat.le_refl _) (by rw [← hol,List.take_length];exact hq)
 obtain ⟨base,len,cap⟩:=s
 simp only [Builtin.append_,aB,Sl.v,List.getElem?_toArray,List.getElem?_cons_zero,List.getElem?_cons_succ,bG ht,bG ht2,Builtin.lenOf,aM,dw hsz,Bool.false_eq_true,if_false,Bool.not_false,if_true] at*
 obtain ⟨i,hib,hti⟩:=cY hsz
 by_cases hroom:len+st.size≤cap
 ·rw [if_pos hroom]
  simp only [aB]
  refine hfn _ ?_
  by_cases hz0:st.size=0
  ·have hnil:(jo st)=[]:=List.eq_nil_of_length_eq_zero (by rw [hnl,hz0])
   cases base with
   |none=>exact h0 hz0 hroom
   |some a=>simp only [hnil,storeCells,aB,aM];exact h0 hz0 hroom
  ·obtain ⟨b,o,c,e',g1,g2,g3,g4⟩:=h1 (by omega) hroom
   cases g1
   simp only [aB]
   refine di (jo st) 0 F _ c _ (by simp) (by simpa using g2) (by simp only [aD];rw [hnl];omega) hst (fun hnn=>hz0 (by rw [← hnl,hnn];rfl)) ?_
   simpa using g4
 ·rw [if_neg hroom]
  simp only [aB,hti]
  rw [if_neg (by
   rintro ⟨ha,hb⟩
   have:(IntKind.i64.max:Int)=9223372036854775807:=by decide
   rw [this] at ha
   omega)]
  have hg:=growslice_fits (need:=len+st.size) (old:=cap) (bytes:=bytes) (by omega) hfit
  simp only [aB,hti]
  rw [if_neg (by rw [hib];omega)]
  simp only [aB,choose]
  unfold aE
  rw [if_neg (by simp [Question.forced])]
  intro tt
  simp only [aE,hti]
  refine gp ?_
  refine hfo _ ?_
  refine hfn _ ?_
  simp only [cO hz,newRow,newObj,aB,aE,aM]
  intro b hb
  exact h2 (by omega) _ b (by simp only [Question.cut];omega) hb
theorem oc {F:PH} {s:Sl} {st:ByteArray} {t t2 e bytes ty:Nat} {z:Value} {P:Program} {olds:List Value} {Q:Value→PH→Prop} (ht:P.underlying t=some (.slice e)) (ht2:P.underlying t2=some .string) (hsz:tsz P e=some (1,bytes)) (hz:bu P e=some z) (hzs:z.cells.size=1)
  (ho:bM F e 1 s olds) (hx:0<st.size) (hfit:(s.len+st.size)*bytes≤140737488355328) (hlen:s.len+st.size≤9223372036854775807)
  (h:∀s' F' b o,F'=F.set b o→bM F' e 1 s' (olds++(jo st))→s'.len=s.len+st.size→(∀a,s'.base=some a→a.block=b)→((∃a,s.base=some a∧a.block=b)∨F b=none)→Q s'.v F'):
  aE P (Builtin.append_ #[t,t2] ty #[s.v,.string st]) F Q:=by
 have hol:=ho.rd.len
 have hsl:=oa st
 refine gF ht ht2 hsz hz hzs ho.rd hfit hlen (fun h0=>by omega) ?_ ?_
 ·intro _ hroom
  rcases ho with ⟨rfl,rfl⟩|⟨b,cur,h1,h2,h3,h4,h5,h6⟩
  ·have e1:Sl.nil.cap=0:=rfl
   have e2:Sl.nil.len=0:=rfl
   omega
  ·refine ⟨b,0,cur,e,h1,h2,by omega,?_⟩
   refine h ⟨_,_,_⟩ _ b _ rfl (.inr ⟨b,_,h1,an _ _ _,by rw [dh,h3],hroom,by rw [List.length_append];simp only;omega,?_⟩) rfl (fun a ha=>by rw [h1] at ha;cases ha;rfl) (.inl ⟨_,h1,rfl⟩)
   simp only [Nat.zero_add]
   have hw:=iL (jo st) cur.toList s.len (by rw [hsl,Array.length_toList];omega)
   rw [show cur.toList.toArray=cur by simp] at hw
   rw [hw]
   rw [Nat.mul_one] at h6 ⊢
   simp only
   rw [h6]
   rw [List.take_append_of_le_length (by rw [List.length_append];omega),List.take_of_length_le (by rw [List.length_append];omega)]
 ·intro hgt cap b hc hb
  refine h ⟨_,_,_⟩ _ b _ rfl (.inr ⟨b,_,rfl,an _ _ _,?_,hc,by rw [List.length_append];simp only;omega,?_⟩) rfl (fun a ha=>by cases ha;rfl) (.inr hb)
  ·simp [Builtin.zeroCells,hzs]
   have e1:=bE st
   omega
  ·simp only [List.append_toArray,Array.toList_append]
   rw [List.take_append_of_le_length (by rw [List.length_append];omega),List.take_of_length_le (by rw [List.length_append];omega)]
theorem St.appStrAt {G F:PH} {As:List (PH→Prop)} {t t2 e bytes:Nat} {z:Value} (T:SlT t e 1 bytes z) (ht2:prog.underlying t2=some .string) {s:Sl} {st:ByteArray} {olds:List Value} {ty:TypeId} (h:St G F As) (i:Nat) (hi:As[i]? =some (own s e 1 olds))
  (hlen:s.len+st.size≤500000000000) {K:Sl→PH→Prop} (k:∀s' F',St G F' (As.set i (own s' e 1 (olds++jo st)))→s'.len=s.len+st.size→K s' F'):
  aE prog (Builtin.append_ #[t,t2] ty #[s.v,.string st]) F fun v F=>∃s':Sl,v=Sl.v s'∧K s' F:=by
 have ho:=(h.ownAt hi).1
 by_cases h0:st.size=0
 ·have hnil:jo st=[]:=List.eq_nil_of_length_eq_zero (by rw [oa,h0])
  have hs:(⟨s.base,s.len+st.size,s.cap⟩:Sl)=s:=by rw [h0];rfl
  obtain ⟨H,a1,a2,a3,a4⟩:=h.set (A':=own s e 1 olds) hi
  have hk:=k s F (by rw [hnil,List.append_nil];exact a4 H F a1 (fun b hb=> .inl hb) a3 (fun b o hb _=>hb)) (by omega)
  have:=ho.rd.cap
  exact gF T.ht ht2 T.hsz T.hz T.hzs ho.rd (xy T.hb hlen) (by omega) (fun _ _=>by rw [hs];exact ⟨s,rfl,hk⟩) (fun h1=>absurd h0 (by omega)) (fun h1=>by omega)
 ·refine oc T.ht ht2 T.hsz T.hz T.hzs ho (by omega) (xy T.hb hlen) (by omega) ?_
  rintro s' F' b ob rfl ho' hl' hbase hb
  obtain ⟨H,a1,a2,a3,a4⟩:=h.set (A':=own s' e 1 (olds++jo st)) hi
  have hb':H b≠none∨F b=none:=by
   rcases hb with ⟨a,ha,rfl⟩|hb
   ·obtain ⟨cur,hc⟩:=bM.elem a1 ha
    exact .inl (by rw [hc];simp)
   ·exact .inr hb
  refine ⟨s',rfl,k s' _ ?_ hl'⟩
  refine a4 (PH.set (fun _=>none) b ob) _ (ho'.keep fun a ha=>by rw [hbase a ha,an,an]) (fun x hx=> ?_) (fun x p hx=> ?_) (fun x p hx hn=> ?_)
  ·by_cases e:x=b
   ·rw [e];exact hb'
   ·rw [az _ _ e] at hx;exact absurd rfl hx
  ·by_cases e:x=b
   ·rw [e,an] at hx ⊢;exact hx
   ·rw [az _ _ e] at hx;cases hx
  ·have e:x≠b:=fun e=>by
    subst e
    rcases hb' with h|h
    ·exact h hn
    ·rw [h] at hx;cases hx
   rw [az _ _ e];exact hx
theorem Bn:SlT 22 5 1 1 (.int .u8 0):=⟨underlying22,sz5,zr5,rfl,by decide,by decide⟩
def dZ (n:Nat):List Nat:=if n<128 then [n] else (n % 128+128)::dZ (n / 128)
def eI (x:Int):List Nat:=dZ x.toNat
def eS (s:ByteArray):List Nat:=dZ s.size++bs s
def eB (b:Bool):List Nat:=[if b then 1 else 0]
def eL {α:Type} (f:α→List Nat) (l:List α):List Nat:=dZ l.length++l.flatMap f
def eBr (b:Br):List Nat:=eI b.v++eI b.l++eI b.h
def eD (d:Dia):List Nat:=eL eBr d.1++eI d.2
def eNd (x:Nd):List Nat:=eI x.k++eI x.lo++eI x.hi++eI x.a++eI x.b
def eTk (t:Tk):List Nat:=eS t.name++eI t.cls++eS t.lit++eL eNd t.pat++eS t.smp++eD t.cond
def eSy (s:Sy):List Nat:=eB s.t++eI s.i
def eCn (x:Cn):List Nat:=eI x.k++eI x.a++eI x.b
def Bo (s:Sco):List Nat:=eB s.o++(eI s.d++eI s.k++eI s.u++eI s.a)
def ePr (p:Pr):List Nat:=eS p.name++eI p.left++eL eSy p.right++eD p.cond++eB p.brk++eI (p.rank+1)++eL eCn p.lay++Bo p.sco
def eLv (l:Lv):List Nat:=eL eI l.ps++eI l.assoc++eD l.cond
def eFi (f:Fi):List Nat:=eI f.k++eI f.par++eI f.pos++eI f.ch++eI f.left++eI f.tok++eL eI f.toks++eD f.cond
def eGr (g:Gr):List Nat:=eL eS g.conds++eD g.fam++eL eTk g.toks++eL eS g.nons++eL ePr g.prods++eI g.start++eL eLv g.lvs++eL eFi g.fils
structure NN (g:Gr):Prop where
 fam:(∀b∈g.fam.1,0≤b.v∧0≤b.l∧0≤b.h)∧0≤g.fam.2
 toks:∀t∈g.toks,0≤t.cls∧(∀x∈t.pat,0≤x.k∧0≤x.lo∧0≤x.hi∧0≤x.a∧0≤x.b)∧(∀b∈t.cond.1,0≤b.v∧0≤b.l∧0≤b.h)∧0≤t.cond.2
 prods:∀p∈g.prods,0≤p.left∧(∀s∈p.right,0≤s.i)∧((∀b∈p.cond.1,0≤b.v∧0≤b.l∧0≤b.h)∧0≤p.cond.2)∧-1≤p.rank∧p.rank≤1∧(∀x∈p.lay,0≤x.k∧0≤x.a∧0≤x.b)∧0≤p.sco.d∧0≤p.sco.k∧0≤p.sco.u∧0≤p.sco.a
 start:0≤g.start
 lvs:∀l∈g.lvs,(∀x∈l.ps,0≤x)∧0≤l.assoc∧(∀b∈l.cond.1,0≤b.v∧0≤b.l∧0≤b.h)∧0≤l.cond.2
 fils:∀f∈g.fils,0≤f.k∧0≤f.par∧0≤f.pos∧0≤f.ch∧0≤f.left∧0≤f.tok∧(∀x∈f.toks,0≤x)∧(∀b∈f.cond.1,0≤b.v∧0≤b.l∧0≤b.h)∧0≤f.cond.2
end Go.Proofs.YtenpmjhnhepfdaaGreatDoor
