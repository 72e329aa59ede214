/-
  Check of grammars: limits, conditions and family, nonterminals.
-/
import Derived.Test.YtenpmjhnhepfdaaGreatDoorHc
import Derived.Test.YtenpmjhnhepfdaaGreatDoorGgrammar
import Derived.Test.YtenpmjhnhepfdaaGreatDoorEa
namespace Go.Proofs.YtenpmjhnhepfdaaGreatDoor
open Go Go.Proofs.Tryz
set_option maxRecDepth 10000
theorem gK (a b:ByteArray):(a.toList==b.toList)=decide (a=b):=by
 rw [Bk,Bool.eq_iff_iff,decide_eq_true_eq,decide_eq_true_eq]
 exact ⟨vq,fun h=>by rw [h]⟩
theorem tO (a b:ByteArray):(a==b)=decide (a=b):=by
 show (a.data==b.data)=_
 rw [Bool.eq_iff_iff,beq_iff_eq,decide_eq_true_eq]
 exact ⟨fun h=>by cases a;cases b;cases h;rfl,fun h=>by rw [h]⟩
instance:LawfulBEq ByteArray where
 eq_of_beq {a b} h:=by rw [tO] at h;exact of_decide_eq_true h
 rfl {a}:=by rw [tO];exact decide_eq_true rfl
abbrev emp:ByteArray:=ByteArray.mk #[]
theorem N7:qr prog 9 Value.string:=by
 refine ⟨fun F a b=> ?_,fun F e a=> ?_,fun a=> ?_,_,underlying9,.inl fun a b=> ?_⟩
 ·unfold Op.equal Op.maxDepth
  show rdo prog (Op.equalIn (9999+1) 9 (.string a) (.string b)) F _
  unfold Op.equalIn
  simp only [ak]
  refine ⟨_,(au underlying9 _).2 rfl,?_⟩
  exact tO a b
 ·show rdo prog (Instr.checkKey e (9999+1) 9 (.string a)) F ()
  unfold Instr.checkKey
  simp only [ak]
  exact ⟨_,(au underlying9 _).2 rfl,rfl⟩
 ·show (a==a)=true
  rw [tO]
  simp
 ·show some (a==b)=_
  rw [tO]
theorem Jy:bk prog 4=some (.bool false):=by kernel_rfl
theorem Hy:jD prog 268 Value.string (.bool false):=⟨_,_,underlying268,Jy,N7⟩
def fz (l:List ByteArray) (s:ByteArray):Option Value:=if s=emp∨s∈l then some (.bool true) else none
def ce (m:Nat) (l:List ByteArray):PH→Prop:=fun H=>∃o,H m=some o∧fD Value.string (fz l) o
theorem St.mapAt {G F:PH} {As:List (PH→Prop)} {m:Nat} {l:List ByteArray} (h:St G F (ce m l::As)):∃o,F m=some o∧fD Value.string (fz l) o:=by
 obtain ⟨H,⟨o,h1,h2⟩,_,h3⟩:=h.get (i:=0) rfl
 exact ⟨o,h3 _ _ h1,h2⟩
theorem St.mapSet {G F:PH} {As:List (PH→Prop)} {m:Nat} {l l':List ByteArray} {o':Obj} (h:St G F (ce m l::As)) (ho:fD Value.string (fz l') o'):St G (F.set m o') (ce m l'::As):=by
 obtain ⟨H,⟨o,a1,_⟩,a2,a3,a4⟩:=h.set (i:=0) (A':=ce m l') rfl
 refine a4 (H.set m o') _ ⟨o',an _ _ _,ho⟩ (fun x hx=> ?_) (fun x p hx=> ?_) (fun x p hx hn=> ?_)
 ·by_cases e:x=m
  ·rw [e,a1];exact .inl (by simp)
  ·rw [az _ _ e] at hx;exact .inl hx
 ·by_cases e:x=m
  ·rw [e,an] at hx ⊢;exact hx
  ·rw [az _ _ e] at hx ⊢;exact a3 _ _ hx
 ·have e:x≠m:=fun e=>by rw [e,a1] at hn;cases hn
  rw [az _ _ e];exact hx
abbrev tP (b:Nat):Value:=.func (.func 198) #[] #[.pointer (some ⟨b,0,none⟩)]
theorem fU (F:PH):ac prog 147 #[] F fun r F'=>∃G' b m,r=tP b∧F.le G'∧G'.cell ⟨b,0,none⟩=some (.map (some m))∧St G' F' [ce m []]:=by
 refine MB ?_
 unfold FY
 intro m hm
 refine atI ?_
 refine bA Hy (an _ _ _) (fD.empty _) emp (.bool true) fun o' ho'=> ?_
 rw [aW]
 have hs:St F (F.set m o') [ce m []]:=by
  have ho2:fD Value.string (fz []) o':=by
   obtain ⟨es,c,L,h1,h2,h3⟩:=ho'
   refine ⟨es,c,L,h1,h2,fun k=> ?_⟩
   rw [← h3 k]
   unfold fz
   by_cases e:k=emp<;>simp [e]
  refine (St.start F).push (H:=PH.set (fun _=>none) m o') ⟨o',an _ _ _,ho2⟩ (fun x hx=> ?_) (fun x p hx=> ?_) (ae o' hm)
  ·by_cases e:x=m
   ·rw [e];exact hm
   ·rw [az _ _ e] at hx;exact absurd rfl hx
  ·by_cases e:x=m
   ·rw [e,an] at hx ⊢;exact hx
   ·rw [az _ _ e] at hx;cases hx
 refine hs.new fun b1 F1 h=> ?_
 refine h.set0 (by decide) rfl fun F2 h=> ?_
 refine h.pinb (K:=fun F2=>∃G' b m,_=tP b∧F.le G'∧G'.cell ⟨b,0,none⟩=some (.map (some m))∧St G' F2 [ce m []]) fun G' l q h=> ?_
 exact ⟨G',b1,m,rfl,l,ld q rfl,h⟩
theorem uZ {G F:PH} {b m:Nat} {l:List ByteArray} (h:St G F [ce m l]) (hc:G.cell ⟨b,0,none⟩=some (.map (some m))) (s:ByteArray):
  ac prog 198 #[.string s,.pointer (some ⟨b,0,none⟩)] F fun r F'=>∃G',r=.bool (decide (s≠emp∧s ∉ l))∧G.le G'∧St G' F' [ce m (s::l)]:=by
 refine M3 ?_
 unfold Gx
 obtain ⟨o,ho,hmo⟩:=h.mapAt
 have hc':=aq h.le hc
 have hlk:=dq (F:=F) Hy ho hmo s false
 have hin:∀k,fz (s::l) k=if k=s then some (.bool true) else fz l k:=fun k=>by
  unfold fz
  by_cases e:k=s
  ·simp [e]
  ·simp [e]
 by_cases hs:s=emp∨s∈l
 ·have e1:fz l s=some (.bool true):=if_pos hs
  rw [e1] at hlk
  refine ⟨_,rfl,some m,hc',true,hlk,fun _=> ?_,fun h=>(by cases h)⟩
  have hd:decide (s≠emp∧s ∉ l)=false:=by
   rw [decide_eq_false_iff_not]
   rintro ⟨h1,h2⟩
   rcases hs with h|h
   ·exact h1 h
   ·exact h2 h
  refine ⟨G,by rw [hd],le_refl' G,?_⟩
  have:ce m (s::l)=ce m l:=by
   unfold ce
   funext H
   rw [show fz (s::l)=fz l from funext fun k=>by
    rw [hin]
    by_cases e:k=s
    ·rw [if_pos e,e,e1]
    ·rw [if_neg e]]
  rw [this]
  exact h
 ·have e1:fz l s=none:=if_neg hs
  rw [e1] at hlk
  refine ⟨_,rfl,some m,hc',false,hlk,fun h=>(by cases h),fun _=>⟨some m,hc',?_⟩⟩
  refine bA Hy ho hmo s (.bool true) fun o' ho'=> ?_
  have hd:decide (s≠emp∧s ∉ l)=true:=by
   rw [decide_eq_true_eq]
   exact ⟨fun e=>hs (.inl e),fun e=>hs (.inr e)⟩
  refine ⟨G,by rw [hd],le_refl' G,h.mapSet ?_⟩
  rw [show fz (s::l)=_ from funext hin]
  exact ho'
theorem Jz:aB prog 198=true:=by kernel_rfl
def lK (b:Nat):Prop:=(97≤b∧b≤122)∨(65≤b∧b≤90)∨b=95
def ry (b:Nat):Prop:=48≤b∧b≤57
instance (b:Nat):Decidable (lK b):=inferInstanceAs (Decidable (_∨_))
instance (b:Nat):Decidable (ry b):=inferInstanceAs (Decidable (_∧_))
def u0 (l:List Nat):Bool:=(List.range l.length).all (fun i=>decide (lK (l.getD i 0)) || (i !=0 && decide (ry (l.getD i 0)))) && !l.isEmpty
def lh (s:ByteArray):Bool:=u0 (bs s)
theorem Hz (s:ByteArray) (i:Nat) (h:i<s.size):(s[i]'h).toNat=(bs s).getD i 0:=by
 rw [← EQ];unfold cb;rw [dif_pos h]
theorem lL {F:PH} (s:ByteArray) (hs:s.size≤1000000000):ac prog 148 #[.string s] F fun r F'=>r=.bool (lh s)∧F.le F':=by
 refine MC ?_
 unfold FZ
 have hlen:=cV s
 refine bH (so · s _) s.size (fun k F'=>F.le F'∧∀i,i<k→(lK ((bs s).getD i 0)∨(i≠0∧ry ((bs s).getD i 0)))) ⟨le_refl' F,fun i h=>by omega⟩ ?_
 rintro k F1 N hk ⟨hl,hi⟩ next
 unfold so
 refine ⟨fun hlt=> ?_,fun hge=> ?_⟩
 ·have hlt:k<s.size:=by omega
  refine ⟨by omega,by omega,by simpa using hlt,((bs s).getD k 0:Nat),?_,?_⟩
  ·rw [← Hz s k hlt]
   rfl
  generalize hc:(bs s).getD k 0=c
  have bad:¬(lK c∨(k≠0∧ry c))→Value.bool false=.bool (lh s)∧F.le F1:=fun hn=>by
   refine ⟨?_,hl⟩
   have:lh s=false:=by
    unfold lh u0
    rw [Bool.and_eq_false_iff]
    refine .inl ?_
    rw [List.all_eq_false]
    refine ⟨k,List.mem_range.2 (by omega),?_⟩
    rw [hc]
    simp only [Bool.or_eq_true,decide_eq_true_eq,Bool.and_eq_true,bne_iff_ne,ne_eq]
    exact hn
   rw [this]
  have good:(lK c∨(k≠0∧ry c))→mC N s (k:Int) (fun r F'=>r=.bool (lh s)∧F.le F') F1:=fun hg=>by
   unfold mC
   rw [aO hlt (by omega)]
   refine next _ hlt ⟨hl,fun i hi'=> ?_⟩
   by_cases e:i=k
   ·rw [e,hc];exact hg
   ·exact hi i (by omega)
  have j3:∀t:Bool,(t=true↔lK c)→eH N s (k:Int) (c:Int) t (fun r F'=>r=.bool (lh s)∧F.le F') F1:=fun t ht=>by
   unfold eH
   refine ⟨fun h=> ?_,fun h=>good (.inl (ht.1 (by simpa using h)))⟩
   have hnl:¬lK c:=fun hl'=>by rw [ht.2 hl'] at h;cases h
   refine ⟨fun h0=>bad ?_,fun h0=>⟨fun h1=>bad ?_,fun h1=>⟨fun h2=>bad ?_,fun h2=>good ?_⟩⟩⟩
   ·rintro (h|h)
    ·exact hnl h
    ·omega
   ·rintro (h|h)
    ·exact hnl h
    ·unfold ry at h;omega
   ·rintro (h|h)
    ·exact hnl h
    ·unfold ry at h;omega
   ·exact .inr ⟨by omega,by unfold ry;omega⟩
  refine ⟨fun h1=>⟨fun h2=>j3 _ ⟨fun _=>by unfold lK;omega,fun _=>rfl⟩,fun h2=>⟨fun h3=>⟨fun h4=>j3 _ ⟨fun _=>by unfold lK;omega,fun _=>rfl⟩,fun h4=>j3 _ ?_⟩,fun h3=>j3 _ ?_⟩⟩,
   fun h1=>⟨fun h3=>⟨fun h4=>j3 _ ⟨fun _=>by unfold lK;omega,fun _=>rfl⟩,fun h4=>j3 _ ?_⟩,fun h3=>j3 _ ?_⟩⟩
  all_goals (rw [decide_eq_true_eq];unfold lK;omega)
 ·have e:k=s.size:=by omega
  subst e
  unfold x7
  refine ⟨?_,hl⟩
  congr 1
  rw [gK]
  unfold lh u0
  have h1:(List.range (bs s).length).all (fun i=>decide (lK ((bs s).getD i 0)) || (i !=0 && decide (ry ((bs s).getD i 0))))=true:=by
   rw [List.all_eq_true]
   intro i hi'
   rw [hlen] at hi'
   have:=hi i (List.mem_range.1 hi')
   simp only [Bool.or_eq_true,decide_eq_true_eq,Bool.and_eq_true,bne_iff_ne,ne_eq]
   exact this
  rw [h1,Bool.true_and,Bool.eq_iff_iff]
  simp only [Bool.not_eq_true',decide_eq_false_iff_not,List.isEmpty_eq_false_iff]
  refine not_congr ⟨fun e=>by rw [e];rfl,fun e=>vq (e.trans rfl)⟩
section
variable {α:Type} [Mem α] {F:PH}
def HB (n:Nat) (N1:Int→PH→Prop) (s_0:Sl) (f_1:Value) (R:VR) (v_8:Int) (F:PH):Prop:=
  ((v_8<(s_0.len:Int)→
  ∃a14_:Addr,s_0.base=some a14_∧0≤v_8∧v_8<(s_0.len:Int)∧
  ∃v_15:Array Value,v_15.size=n∧F.row (Addr.add a14_ (Int.toNat v_8*n)) v_15∧
  ∃(k16:Nat) (fst16 cap16:Array Value),f_1=.func (.func k16) fst16 cap16∧aB prog k16=true∧ac prog k16 (fst16++([(.agg v_15)]).toArray++cap16) F fun v F=>∃v_16:Bool,v=(.bool v_16)∧
  ((v_16=true→
   R (.int .i64 v_8) F)∧
  (v_16=false→
   N1 (IntKind.i64.wrap (v_8+(1:Int))) F)))∧
 (¬(v_8<(s_0.len:Int))→
  R (.int .i64 (-1:Int)) F))
def N8 (n:Nat) (s_0:Sl) (f_1:Value) (R:VR) (F:PH):Prop:=
 (∃(I1:Nat→Int→PH→Prop) (m1:Nat),I1 m1 (0:Int) F∧∀m1 v_8 F,I1 m1 v_8 F→
  HB n (fun y1_0 F=>∃m',m'<m1∧I1 m' y1_0 F) s_0 f_1 R v_8 F)
theorem u6 {s:Sl} {l:List α} (hs:RL F s l) (hn:0<Mem.n α) (hl:l.length≤1000000000) {k:Nat} {fst cap:Array Value} (hk:aB prog k=true) (p:α→Bool)
  (hf:∀x∈l,∀c F1,F.le F1→Mem.rep F1 x c→ac prog k (fst++([Value.agg c]).toArray++cap) F1 fun r F'=>r=.bool (p x)∧F1.le F'):
  N8 (Mem.n α) s (.func (.func k) fst cap) (fun r F'=>∃i,r=vi i∧(0≤i↔l.any p=true)∧F.le F') F:=by
 have hlen:=hs.len hn
 refine bH (HB (Mem.n α) · s (.func (.func k) fst cap) _) l.length (fun k F'=>F.le F'∧(l.take k).any p=false) ⟨le_refl' F,by simp⟩ ?_
 rintro i F1 N hi ⟨hle,hany⟩ next
 unfold HB
 refine ⟨fun hlt=> ?_,fun hge=> ?_⟩
 ·have hlt:i<l.length:=by omega
  obtain ⟨a,c,ha,hr,hc⟩:=(hs.le hle).get hn (List.getElem?_eq_getElem hlt)
  refine ⟨a,ha,by omega,by omega,c,Mem.len hc,by rw [Int.toNat_natCast];exact hr,k,fst,cap,rfl,hk,?_⟩
  refine (hf _ (List.getElem_mem hlt) c F1 hle hc).mono ?_
  rintro _ F2 ⟨rfl,l2⟩
  refine ⟨_,rfl,fun h=> ?_,fun h=> ?_⟩
  ·exact ⟨_,rfl,⟨fun _=>List.any_eq_true.2 ⟨_,List.getElem_mem hlt,h⟩,fun _=>by omega⟩,aa hle l2⟩
  ·rw [aO hlt (by omega)]
   refine next _ hlt ⟨aa hle l2,?_⟩
   rw [List.take_succ_eq_append_getElem hlt,List.any_append,hany]
   simp [h]
 ·have e:i=l.length:=by omega
  subst e
  rw [List.take_length] at hany
  exact ⟨_,rfl,⟨fun h=>by omega,fun h=>by rw [hany] at h;cases h⟩,hle⟩
end
theorem ixc {α:Type} [Mem α] {F:PH} {s:Sl} {l:List α} (h:RL F s l) (hn:0<Mem.n α) {i:Int} (h0:0≤i) (h1:i<(s.len:Int)) {K:Addr→Prop}
  (k:∀a c x,l[i.toNat]? =some x→F.row (a.add (i.toNat*Mem.n α)) c→Mem.rep F x c→K a):∃a,s.base=some a∧0≤i∧i<(s.len:Int)∧K a:=by
 have hlen:=h.len hn
 have hlt:i.toNat<l.length:=by omega
 obtain ⟨a,c,ha,hr,hc⟩:=h.get hn (List.getElem?_eq_getElem hlt)
 exact ⟨a,ha,h0,h1,k a c _ (List.getElem?_eq_getElem hlt) hr hc⟩
def fV (d:Dia) (n:Nat):Prop:=chk d=0∧∀b∈d.1,b.v<n
open Classical in
noncomputable def nK (d:Dia) (n:Nat):Bool:=decide (fV d n)
theorem bW {d:Dia} {n:Nat}:nK d n=true↔fV d n:=by unfold nK;simp
theorem rz {d:Dia} {n:Nat}:nK d n=false↔¬fV d n:=by unfold nK;simp
theorem JA:aB prog 200=true:=by kernel_rfl
theorem fC {F:PH} {v:Array Value} {d:Dia} {n:Nat} (hd:DV F v d):ac prog 149 #[.agg v,vi n] F fun r F'=>r=.bool (nK d n)∧F.le F':=by
 obtain ⟨s,rfl,hr⟩:=hd
 refine MD ?_
 unfold Gg
 refine fresh fun b2 F1 l1 q1 _=> ?_
 refine fresh fun b3 F2 l2 q2 _=> ?_
 replace q1:=l2 _ _ q1
 replace hr:=hr.le (aa l1 l2)
 replace l1:=aa l1 l2
 refine ⟨_,rfl,ai q1,?_⟩
 refine (je (d:=d) ⟨s,rfl,hr⟩).mono ?_
 rintro _ F3 ⟨rfl,l3⟩
 refine ⟨_,rfl,fun h=>⟨?_,aa l1 l3⟩,fun h=> ?_⟩
 ·have:nK d n=false:=rz.2 fun hg=>h hg.1
  rw [this]
 ·have h:chk d=0:=Classical.not_not.1 h
  have hle:d.1.length≤4096:=by
   apply Classical.byContradiction
   intro hb
   unfold chk at h
   rw [if_pos (by omega)] at h
   omega
  refine ⟨_,ld (l3 _ _ q1) rfl,?_⟩
  refine Kk ?_
  unfold E3
  have hs:RL F3 s d.1:=(RL.brs.2 hr).le l3
  refine (show ac prog 221 #[s.v,.func (.func 200) #[] #[.pointer (some ⟨b3,0,none⟩)]] F3 (fun r F'=>∃i,r=vi i∧(0≤i↔d.1.any (fun b=>decide ((n:Int)≤b.v))=true)∧F3.le F')
   from Ko (u6 hs (by decide) (by omega) JA (fun b=>decide ((n:Int)≤b.v)) fun x hx c F4 l4 hc=> ?_)).mono ?_
  ·rw [show c=aP x from hc]
   refine M4 ?_
   unfold Gy
   refine fresh fun b F5 l5 q5 _=> ?_
   exact ⟨_,ld q5 rfl,_,rfl,_,ld (l5 _ _ (l4 _ _ (l3 _ _ q2))) rfl,rfl,l5⟩
  ·rintro _ F4 ⟨i,rfl,hi,l4⟩
   refine ⟨_,rfl,_,rfl,?_,aa l1 (aa l3 l4)⟩
   congr 1
   rw [Bool.eq_iff_iff,bW]
   simp only [Bool.not_eq_true',decide_eq_false_iff_not]
   rw [hi,List.any_eq_true]
   constructor
   ·intro hn
    refine ⟨h,fun b hb=>Int.not_le.1 fun hb'=>hn ⟨b,hb,by simpa using hb'⟩⟩
   ·rintro ⟨_,hb⟩ ⟨b,hb1,hb2⟩
    have:=hb b hb1
    simp at hb2
    omega
def bX (g:Gr):Bool:=decide (64<g.conds.length∨256<g.toks.length∨4096<g.fils.length∨2000<g.nons.length∨2000<g.prods.length∨2000<g.lvs.length) || g.prods.any fun p=>decide (16<p.right.length∨16<p.lay.length)
theorem Dn:aB prog 146=true:=by kernel_rfl
theorem u7 {F:PH} {v:Array Value} {g:Gr} (hg:GV F v g):ac prog 74 #[.agg v] F fun r F'=>r=.bool (bX g)∧F.le F':=by
 obtain ⟨c,n,t,s,p,l,f,rfl,hs⟩:=hg
 refine Pq ?_
 unfold L9
 refine fresh fun b1 F1 l1 q1 _=> ?_
 have e1:=hs.c.len (by decide)
 have e2:=hs.t.len (by decide)
 have e3:=hs.s.len (by decide)
 have e4:=hs.p.len (by decide)
 have e5:=hs.l.len (by decide)
 have e6:=hs.f.len (by decide)
 have bad:(64<g.conds.length∨256<g.toks.length∨4096<g.fils.length∨2000<g.nons.length∨2000<g.prods.length∨2000<g.lvs.length)→(Value.bool true=.bool (bX g)∧F.le F1):=fun h=>by
  refine ⟨?_,l1⟩
  unfold bX
  rw [decide_eq_true h,Bool.true_or]
 refine ⟨_,ld q1 rfl,fun h=>bad (by omega),fun h1=>⟨_,ld q1 rfl,fun h=>bad (by omega),fun h2=>⟨_,ld q1 rfl,fun h=>bad (by omega),fun h3=>⟨_,ld q1 rfl,_,ld q1 rfl,_,ld q1 rfl,fun h=>bad (by omega),fun h4=>⟨_,ld q1 rfl,?_⟩⟩⟩⟩⟩
 refine Kg ?_
 unfold EZ
 refine (show ac prog 197 #[p.v,.func (.func 146) #[] #[]] F1 (fun r F'=>∃i,r=vi i∧(0≤i↔g.prods.any (fun p=>decide (16<p.right.length∨16<p.lay.length))=true)∧F1.le F')
  from Kj (u6 (hs.p.le l1) (by decide) (by omega) Dn (fun p=>decide (16<p.right.length∨16<p.lay.length)) fun x hx c F4 l4 hc=> ?_)).mono ?_
 ·obtain ⟨r,n',l',rfl,h1,h2,h3⟩:=hc
  refine MA ?_
  unfold FX
  refine fresh fun b F5 l5 q5 _=> ?_
  have e1:=h1.len (by decide)
  have e2:=h3.len (by decide)
  refine ⟨_,ld q5 rfl,_,ld q5 rfl,?_,l5⟩
  congr 1
  rw [Bool.eq_iff_iff]
  simp only [decide_eq_true_eq]
  omega
 ·rintro _ F4 ⟨i,rfl,hi,l4⟩
  refine ⟨_,rfl,_,rfl,?_,aa l1 l4⟩
  congr 1
  unfold bX
  have hno:¬(64<g.conds.length∨256<g.toks.length∨4096<g.fils.length∨2000<g.nons.length∨2000<g.prods.length∨2000<g.lvs.length):=by omega
  rw [decide_eq_false hno,Bool.false_or,Bool.eq_iff_iff,decide_eq_true_eq]
  exact hi
structure Sz (g:Gr):Prop where
 c:∀s∈g.conds,s.size≤1000000000
 t:∀t∈g.toks,t.smp.size≤100000
 l:∀l∈g.lvs,l.ps.length≤1000000000
 f:∀f∈g.fils,f.toks.length≤1000000000
def bh (l:List ByteArray):Prop:=l.Nodup∧emp ∉ l
theorem eu {l:List ByteArray} {s:ByteArray}:bh (l++[s])↔bh l∧s≠emp∧s ∉ l:=by
 unfold bh
 rw [List.nodup_append]
 simp only [List.mem_append,List.mem_singleton,not_or]
 constructor
 ·rintro ⟨⟨h1,_,h2⟩,h3,h4⟩
  exact ⟨⟨h1,h3⟩,fun e=>h4 e.symm,fun hm=>h2 s hm s rfl rfl⟩
 ·rintro ⟨⟨h1,h2⟩,h3,h4⟩
  exact ⟨⟨h1,by simp,fun a ha b hb e=>h4 (by rw [← hb,← e];exact ha)⟩,h2,fun e=>h3 e.symm⟩
theorem jB {l:List ByteArray} (h:bh l) (k:Nat):bh (l.take k):=⟨h.1.sublist (List.take_sublist k l),fun hm=>h.2 (List.mem_of_mem_take hm)⟩
theorem aV {α:Type} {l:List α} {k:Nat} {x:α} (h:l[k]? =some x):l.take (k+1)=l.take k++[x]:=by
 obtain ⟨hk,rfl⟩:=List.getElem?_eq_some_iff.1 h
 exact List.take_succ_eq_append_getElem hk
theorem lU {G F:PH} {As:List (PH→Prop)} {b m:Nat} {l:List ByteArray} (h:St G F (ce m l.reverse::As)) (hc:G.cell ⟨b,0,none⟩=some (.map (some m))) (s:ByteArray) {R:VR}
  (k:∀G' F',G.le G'→St G' F' (ce m (l++[s]).reverse::As)→R (.bool (decide (s≠emp∧s ∉ l))) F'):
  ∃(k28:Nat) (fst28 cap28:Array Value),tP b=.func (.func k28) fst28 cap28∧aB prog k28=true∧ac prog k28 (fst28++([(.string s)]).toArray++cap28) F R:=by
 refine ⟨_,_,_,rfl,Jz,?_⟩
 have sp:=St.callL (Bs:=[ce m l.reverse]) (Cs:=As) (Bs':=fun _ _=>[ce m (s::l.reverse)]) (P:=fun r _=>r=.bool (decide (s≠emp∧s ∉ l.reverse))) h fun F1 h1=>(uZ h1 hc s).mono fun r F' ⟨G',hr,hl,hst⟩=>⟨G',hr,hl,hst⟩
 refine sp.mono ?_
 rintro r F' ⟨G',rfl,hl,hst⟩
 have:=k G' F' hl (by rw [List.reverse_append];exact hst)
 rw [show decide (s≠emp∧s ∉ l.reverse)=decide (s≠emp∧s ∉ l) by simp]
 exact this
def JB:ByteArray:=ByteArray.mk #[116,114,117,101]
def HD:ByteArray:=ByteArray.mk #[102,97,108,115,101]
def nL (s:ByteArray):Prop:=lh s=true∧s≠JB∧s≠HD
def eO (g:Gr):Prop:=(∀s∈g.conds,nL s)∧bh g.conds∧fV g.fam g.conds.length∧g.fam.2≠0
open Classical in
theorem kG {F:PH} {v:Array Value} {g:Gr} (hg:GV F v g) (hz:Sz g) (hl:g.conds.length≤64):ac prog 75 #[.agg v] F fun r F'=>r=vi (if eO g then 0 else 54)∧F.le F':=by
 obtain ⟨c,n,t,s,p,l,f,rfl,hs⟩:=hg
 have ec:=hs.c.len (by decide)
 refine Ps ?_
 unfold Ma
 refine fresh fun b1 F1 l1 q1 _=> ?_
 replace hs:=hs.le l1
 refine (fU F1).mono ?_
 rintro _ F2 ⟨G2,bn,m,rfl,l2,hcn,h⟩
 refine ⟨_,rfl,_,ld (h.le _ _ (l2 _ _ q1)) rfl,?_⟩
 have bad:∀{F'},F1.le F'→¬eO g→(vi 54=vi (if eO g then 0 else 54)∧F.le F'):=fun {F'} l hn=>⟨by rw [if_neg hn],aa l1 l⟩
 refine bH (wc · b1 (tP bn) c _) g.conds.length (fun k F'=>∃G,G2.le G∧St G F' [ce m (g.conds.take k).reverse]∧(∀s∈g.conds.take k,nL s)∧bh (g.conds.take k))
  ⟨G2,le_refl' _,h,by simp,by simp [bh]⟩ ?_
 rintro k F3 N hk ⟨G3,l3,h,hi,hi2⟩ next
 have l13:=aa l2 l3
 unfold wc
 refine ⟨fun hlt=> ?_,fun hge=> ?_⟩
 ·have hlt:k<g.conds.length:=by omega
  refine ixc ((hs.c.le l13).le h.le) (by decide) (by omega) (by omega) fun a cc x hx hr hc=> ?_
  rw [Int.toNat_natCast] at hx hr
  rw [show cc= #[.string x] from hc] at hr
  have hxm:x∈g.conds:=List.mem_of_getElem? hx
  refine ⟨_,aI hr rfl,?_⟩
  refine h.runv (lL x (hz.c x hxm)) fun G4 F4 l4 h=>⟨_,rfl,fun hb=> ?_,fun hb=>⟨fun hb2=> ?_,fun hb2=>⟨fun hb3=> ?_,fun hb3=> ?_⟩⟩⟩
  ·exact bad (aa l13 (aa l4 h.le)) fun hn=>by
    rw [(hn.1 x hxm).1] at hb;cases hb
  ·exact bad (aa l13 (aa l4 h.le)) fun hn=>(hn.1 x hxm).2.1 (by rw [gK] at hb2;exact of_decide_eq_true hb2)
  ·exact bad (aa l13 (aa l4 h.le)) fun hn=>(hn.1 x hxm).2.2 (by rw [gK] at hb3;exact of_decide_eq_true hb3)
  ·refine lU h (aq (aa l3 l4) hcn) x fun G5 F5 l5 h=> ?_
   have l15:=aa l13 (aa l4 l5)
   refine ⟨_,rfl,fun hb4=> ?_,fun hb4=> ?_⟩
   ·refine bad (aa l15 h.le) fun hn=> ?_
    have:=jB hn.2.1 (k+1)
    rw [aV hx,eu] at this
    rw [decide_eq_true this.2] at hb4
    cases hb4
   ·rw [aO hlt (by omega)]
    have hb4:x≠emp∧x ∉ g.conds.take k:=by simpa using hb4
    rw [← aV hx] at h
    refine next _ hlt ⟨G5,aa l3 (aa l4 l5),h,fun s hs=> ?_,?_⟩
    ·rw [aV hx] at hs
     rcases List.mem_append.1 hs with hs|hs
     ·exact hi s hs
     ·rw [List.mem_singleton.1 hs]
      rw [gK] at hb2 hb3
      exact ⟨by simpa using hb,of_decide_eq_false hb2,of_decide_eq_false hb3⟩
    ·rw [aV hx,eu]
     exact ⟨hi2,hb4⟩
 ·have e:k=g.conds.length:=by omega
  subst e
  rw [List.take_length] at hi hi2
  unfold CE
  refine ⟨#[n.v,vi g.fam.2],rfl,eA (h.le _ _ (l13 _ _ q1)) rfl,_,ld (h.le _ _ (l13 _ _ q1)) rfl,?_⟩
  dsimp only
  rw [ec]
  refine h.runv (fC (d:=g.fam) (DV.mk (hs.n.le l13))) fun G4 F4 l4 h=>⟨_,rfl,fun hb=> ?_,fun hb=> ?_⟩
  ·refine bad (aa l13 (aa l4 h.le)) fun hn=> ?_
   have:nK g.fam g.conds.length=true:=bW.2 hn.2.2.1
   rw [this] at hb
   cases hb
  ·refine ⟨_,ld (h.le _ _ (l4 _ _ (l13 _ _ q1))) rfl,fun h0=> ?_,fun h0=> ?_⟩
   ·exact bad (aa l13 (aa l4 h.le)) fun hn=>hn.2.2.2 h0
   ·refine ⟨?_,aa l1 (aa l13 (aa l4 h.le))⟩
    rw [if_pos ⟨hi,hi2,bW.1 (by simpa using hb),h0⟩]
def dQ (g:Gr):Prop:=bh g.nons∧0≤g.start∧g.start<g.nons.length
open Classical in
theorem nN {F:PH} {v:Array Value} {g:Gr} (hg:GV F v g) (hl:g.nons.length≤2000):ac prog 77 #[.agg v] F fun r F'=>r=vi (if dQ g then 0 else 50)∧F.le F':=by
 obtain ⟨c,n,t,s,p,l,f,rfl,hs⟩:=hg
 have es:=hs.s.len (by decide)
 refine Pu ?_
 unfold Mc
 refine fresh fun b1 F1 l1 q1 _=> ?_
 replace hs:=hs.le l1
 refine (fU F1).mono ?_
 rintro _ F2 ⟨G2,bn,m,rfl,l2,hcn,h⟩
 refine ⟨_,rfl,_,ld (h.le _ _ (l2 _ _ q1)) rfl,?_⟩
 have bad:∀{F'},F1.le F'→¬dQ g→(vi 50=vi (if dQ g then 0 else 50)∧F.le F'):=fun {F'} l hn=>⟨by rw [if_neg hn],aa l1 l⟩
 refine bH (wg · b1 (tP bn) s _) g.nons.length (fun k F'=>∃G,G2.le G∧St G F' [ce m (g.nons.take k).reverse]∧bh (g.nons.take k))
  ⟨G2,le_refl' _,h,by simp [bh]⟩ ?_
 rintro k F3 N hk ⟨G3,l3,h,hi2⟩ next
 have l13:=aa l2 l3
 unfold wg
 refine ⟨fun hlt=> ?_,fun hge=> ?_⟩
 ·have hlt:k<g.nons.length:=by omega
  refine ixc ((hs.s.le l13).le h.le) (by decide) (by omega) (by omega) fun a cc x hx hr hc=> ?_
  rw [Int.toNat_natCast] at hx hr
  rw [show cc= #[.string x] from hc] at hr
  refine ⟨_,aI hr rfl,?_⟩
  refine lU h (aq l3 hcn) x fun G5 F5 l5 h=> ?_
  have l15:=aa l13 l5
  refine ⟨_,rfl,fun hb4=> ?_,fun hb4=> ?_⟩
  ·refine bad (aa l15 h.le) fun hn=> ?_
   have:=jB hn.1 (k+1)
   rw [aV hx,eu] at this
   rw [decide_eq_true this.2] at hb4
   cases hb4
  ·rw [aO hlt (by omega)]
   have hb4:x≠emp∧x ∉ g.nons.take k:=by simpa using hb4
   rw [← aV hx] at h
   refine next _ hlt ⟨G5,aa l3 l5,h,?_⟩
   rw [aV hx,eu]
   exact ⟨hi2,hb4⟩
 ·have e:k=g.nons.length:=by omega
  subst e
  rw [List.take_length] at hi2
  unfold CG
  have q:=h.le _ _ (l13 _ _ q1)
  refine ⟨_,ld q rfl,fun h0=>bad (aa l13 h.le) fun hn=>by have:=hn.2.1;omega,fun h0=>⟨_,ld q rfl,_,ld q rfl,fun h1=>bad (aa l13 h.le) fun hn=>by have:=hn.2.2;omega,fun h1=>⟨?_,aa l1 (aa l13 h.le)⟩⟩⟩
  rw [if_pos ⟨hi2,by omega,by omega⟩]
end Go.Proofs.YtenpmjhnhepfdaaGreatDoor
