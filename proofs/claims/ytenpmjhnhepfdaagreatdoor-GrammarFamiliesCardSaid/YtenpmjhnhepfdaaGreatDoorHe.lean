/-
  Check of grammars: limits, conditions and family, nonterminals.
-/
import Derived.Test.YtenpmjhnhepfdaaGreatDoorHc
import Derived.Test.YtenpmjhnhepfdaaGreatDoorGgrammar
import Derived.Test.YtenpmjhnhepfdaaGreatDoorEa
namespace Go.Proofs.YtenpmjhnhepfdaaGreatDoor
open Go Go.Proofs.Tryz
set_option maxRecDepth 10000
theorem nT (a b:ByteArray):(a.toList==b.toList)=decide (a=b):=by
 rw [Bg,Bool.eq_iff_iff,decide_eq_true_eq,decide_eq_true_eq]
 exact ⟨vz,fun h=>by rw [h]⟩
theorem tR (a b:ByteArray):(a==b)=decide (a=b):=by
 show (a.data==b.data)=_
 rw [Bool.eq_iff_iff,beq_iff_eq,decide_eq_true_eq]
 exact ⟨fun h=>by cases a;cases b;cases h;rfl,fun h=>by rw [h]⟩
instance:LawfulBEq ByteArray where
 eq_of_beq {a b} h:=by rw [tR] at h;exact of_decide_eq_true h
 rfl {a}:=by rw [tR];exact decide_eq_true rfl
abbrev emp:ByteArray:=ByteArray.mk #[]
theorem NP:qy prog 9 Value.string:=by
 refine ⟨fun F a b=> ?_,fun F e a=> ?_,fun a=> ?_,_,underlying9,.inl fun a b=> ?_⟩
 ·unfold Op.equal Op.maxDepth
  show rdo prog (Op.equalIn (9999+1) 9 (.string a) (.string b)) F _
  unfold Op.equalIn
  simp only [ai]
  refine ⟨_,(av underlying9 _).2 rfl,?_⟩
  exact tR a b
 ·show rdo prog (Instr.checkKey e (9999+1) 9 (.string a)) F ()
  unfold Instr.checkKey
  simp only [ai]
  exact ⟨_,(av underlying9 _).2 rfl,rfl⟩
 ·show (a==a)=true
  rw [tR]
  simp
 ·show some (a==b)=_
  rw [tR]
theorem Jp:bv prog 4=some (.bool false):=by kernel_rfl
theorem HE:jL prog 268 Value.string (.bool false):=⟨_,_,underlying268,Jp,NP⟩
def fK (l:List ByteArray) (s:ByteArray):Option Value:=if s=emp∨s∈l then some (.bool true) else none
def cg (m:Nat) (l:List ByteArray):PH→Prop:=fun H=>∃o,H m=some o∧fM Value.string (fK l) o
theorem St.mapAt {G F:PH} {As:List (PH→Prop)} {m:Nat} {l:List ByteArray} (h:St G F (cg m l::As)):∃o,F m=some o∧fM Value.string (fK l) o:=by
 obtain ⟨H,⟨o,h1,h2⟩,_,h3⟩:=h.get (i:=0) rfl
 exact ⟨o,h3 _ _ h1,h2⟩
theorem St.mapSet {G F:PH} {As:List (PH→Prop)} {m:Nat} {l l':List ByteArray} {o':Obj} (h:St G F (cg m l::As)) (ho:fM Value.string (fK l') o'):St G (F.set m o') (cg m l'::As):=by
 obtain ⟨H,⟨o,a1,_⟩,a2,a3,a4⟩:=h.set (i:=0) (A':=cg m l') rfl
 refine a4 (H.set m o') _ ⟨o',an _ _ _,ho⟩ (fun x hx=> ?_) (fun x p hx=> ?_) (fun x p hx hn=> ?_)
 ·by_cases e:x=m
  ·rw [e,a1];exact .inl (by simp)
  ·rw [aw _ _ e] at hx;exact .inl hx
 ·by_cases e:x=m
  ·rw [e,an] at hx ⊢;exact hx
  ·rw [aw _ _ e] at hx ⊢;exact a3 _ _ hx
 ·have e:x≠m:=fun e=>by rw [e,a1] at hn;cases hn
  rw [aw _ _ e];exact hx
abbrev tS (b:Nat):Value:=.func (.func 198) #[] #[.pointer (some ⟨b,0,none⟩)]
theorem gb (F:PH):ae prog 147 #[] F fun r F'=>∃G' b m,r=tS b∧F.le G'∧G'.cell ⟨b,0,none⟩=some (.map (some m))∧St G' F' [cg m []]:=by
 refine Mu ?_
 unfold Gq
 intro m hm
 refine atI ?_
 refine bD HE (an _ _ _) (fM.empty _) emp (.bool true) fun o' ho'=> ?_
 rw [aP]
 have hs:St F (F.set m o') [cg m []]:=by
  have ho2:fM Value.string (fK []) o':=by
   obtain ⟨es,c,L,h1,h2,h3⟩:=ho'
   refine ⟨es,c,L,h1,h2,fun k=> ?_⟩
   rw [← h3 k]
   unfold fK
   by_cases e:k=emp<;>simp [e]
  refine (St.start F).push (H:=PH.set (fun _=>none) m o') ⟨o',an _ _ _,ho2⟩ (fun x hx=> ?_) (fun x p hx=> ?_) (ac o' hm)
  ·by_cases e:x=m
   ·rw [e];exact hm
   ·rw [aw _ _ e] at hx;exact absurd rfl hx
  ·by_cases e:x=m
   ·rw [e,an] at hx ⊢;exact hx
   ·rw [aw _ _ e] at hx;cases hx
 refine hs.new fun b1 F1 h=> ?_
 refine h.set0 (by decide) rfl fun F2 h=> ?_
 refine h.pinb (K:=fun F2=>∃G' b m,_=tS b∧F.le G'∧G'.cell ⟨b,0,none⟩=some (.map (some m))∧St G' F2 [cg m []]) fun G' l q h=> ?_
 exact ⟨G',b1,m,rfl,l,ld q rfl,h⟩
theorem u9 {G F:PH} {b m:Nat} {l:List ByteArray} (h:St G F [cg m l]) (hc:G.cell ⟨b,0,none⟩=some (.map (some m))) (s:ByteArray):
  ae prog 198 #[.string s,.pointer (some ⟨b,0,none⟩)] F fun r F'=>∃G',r=.bool (decide (s≠emp∧s ∉ l))∧G.le G'∧St G' F' [cg m (s::l)]:=by
 refine MW ?_
 unfold GI
 obtain ⟨o,ho,hmo⟩:=h.mapAt
 have hc':=aq h.le hc
 have hlk:=dr (F:=F) HE ho hmo s false
 have hin:∀k,fK (s::l) k=if k=s then some (.bool true) else fK l k:=fun k=>by
  unfold fK
  by_cases e:k=s
  ·simp [e]
  ·simp [e]
 by_cases hs:s=emp∨s∈l
 ·have e1:fK l s=some (.bool true):=if_pos hs
  rw [e1] at hlk
  refine ⟨_,rfl,some m,hc',true,hlk,fun _=> ?_,fun h=>(by cases h)⟩
  have hd:decide (s≠emp∧s ∉ l)=false:=by
   rw [decide_eq_false_iff_not]
   rintro ⟨h1,h2⟩
   rcases hs with h|h
   ·exact h1 h
   ·exact h2 h
  refine ⟨G,by rw [hd],le_refl' G,?_⟩
  have:cg m (s::l)=cg m l:=by
   unfold cg
   funext H
   rw [show fK (s::l)=fK l from funext fun k=>by
    rw [hin]
    by_cases e:k=s
    ·rw [if_pos e,e,e1]
    ·rw [if_neg e]]
  rw [this]
  exact h
 ·have e1:fK l s=none:=if_neg hs
  rw [e1] at hlk
  refine ⟨_,rfl,some m,hc',false,hlk,fun h=>(by cases h),fun _=>⟨some m,hc',?_⟩⟩
  refine bD HE ho hmo s (.bool true) fun o' ho'=> ?_
  have hd:decide (s≠emp∧s ∉ l)=true:=by
   rw [decide_eq_true_eq]
   exact ⟨fun e=>hs (.inl e),fun e=>hs (.inr e)⟩
  refine ⟨G,by rw [hd],le_refl' G,h.mapSet ?_⟩
  rw [show fK (s::l)=_ from funext hin]
  exact ho'
theorem Jq:aC prog 198=true:=by kernel_rfl
def lS (b:Nat):Prop:=(97≤b∧b≤122)∨(65≤b∧b≤90)∨b=95
def rF (b:Nat):Prop:=48≤b∧b≤57
instance (b:Nat):Decidable (lS b):=inferInstanceAs (Decidable (_∨_))
instance (b:Nat):Decidable (rF b):=inferInstanceAs (Decidable (_∧_))
def va (l:List Nat):Bool:=(List.range l.length).all (fun i=>decide (lS (l.getD i 0)) || (i !=0 && decide (rF (l.getD i 0)))) && !l.isEmpty
def lz (s:ByteArray):Bool:=va (bs s)
theorem HF (s:ByteArray) (i:Nat) (h:i<s.size):(s[i]'h).toNat=(bs s).getD i 0:=by
 rw [← ES];unfold cb;rw [dif_pos h]
theorem lT {F:PH} (s:ByteArray) (hs:s.size≤1000000000):ae prog 148 #[.string s] F fun r F'=>r=.bool (lz s)∧F.le F':=by
 refine Mv ?_
 unfold Gs
 have hlen:=cT s
 refine cZ (sE · s _) s.size (fun k F'=>F.le F'∧∀i,i<k→(lS ((bs s).getD i 0)∨(i≠0∧rF ((bs s).getD i 0)))) ⟨le_refl' F,fun i h=>by omega⟩ ?_
 rintro k F1 N hk ⟨hl,hi⟩ next
 unfold sE
 refine ⟨fun hlt=> ?_,fun hge=> ?_⟩
 ·have hlt:k<s.size:=by omega
  refine ⟨by omega,by omega,by simpa using hlt,((bs s).getD k 0:Nat),?_,?_⟩
  ·rw [← HF s k hlt]
   rfl
  generalize hc:(bs s).getD k 0=c
  have bad:¬(lS c∨(k≠0∧rF c))→Value.bool false=.bool (lz s)∧F.le F1:=fun hn=>by
   refine ⟨?_,hl⟩
   have:lz s=false:=by
    unfold lz va
    rw [Bool.and_eq_false_iff]
    refine .inl ?_
    rw [List.all_eq_false]
    refine ⟨k,List.mem_range.2 (by omega),?_⟩
    rw [hc]
    simp only [Bool.or_eq_true,decide_eq_true_eq,Bool.and_eq_true,bne_iff_ne,ne_eq]
    exact hn
   rw [this]
  have good:(lS c∨(k≠0∧rF c))→mN N s (k:Int) (fun r F'=>r=.bool (lz s)∧F.le F') F1:=fun hg=>by
   unfold mN
   rw [aV hlt (by omega)]
   refine next _ hlt ⟨hl,fun i hi'=> ?_⟩
   by_cases e:i=k
   ·rw [e,hc];exact hg
   ·exact hi i (by omega)
  have j3:∀t:Bool,(t=true↔lS c)→eK N s (k:Int) (c:Int) t (fun r F'=>r=.bool (lz s)∧F.le F') F1:=fun t ht=>by
   unfold eK
   refine ⟨fun h=> ?_,fun h=>good (.inl (ht.1 (by simpa using h)))⟩
   have hnl:¬lS c:=fun hl'=>by rw [ht.2 hl'] at h;cases h
   refine ⟨fun h0=>bad ?_,fun h0=>⟨fun h1=>bad ?_,fun h1=>⟨fun h2=>bad ?_,fun h2=>good ?_⟩⟩⟩
   ·rintro (h|h)
    ·exact hnl h
    ·omega
   ·rintro (h|h)
    ·exact hnl h
    ·unfold rF at h;omega
   ·rintro (h|h)
    ·exact hnl h
    ·unfold rF at h;omega
   ·exact .inr ⟨by omega,by unfold rF;omega⟩
  refine ⟨fun h1=>⟨fun h2=>j3 _ ⟨fun _=>by unfold lS;omega,fun _=>rfl⟩,fun h2=>⟨fun h3=>⟨fun h4=>j3 _ ⟨fun _=>by unfold lS;omega,fun _=>rfl⟩,fun h4=>j3 _ ?_⟩,fun h3=>j3 _ ?_⟩⟩,
   fun h1=>⟨fun h3=>⟨fun h4=>j3 _ ⟨fun _=>by unfold lS;omega,fun _=>rfl⟩,fun h4=>j3 _ ?_⟩,fun h3=>j3 _ ?_⟩⟩
  all_goals (rw [decide_eq_true_eq];unfold lS;omega)
 ·have e:k=s.size:=by omega
  subst e
  unfold yd
  refine ⟨?_,hl⟩
  congr 1
  rw [nT]
  unfold lz va
  have h1:(List.range (bs s).length).all (fun i=>decide (lS ((bs s).getD i 0)) || (i !=0 && decide (rF ((bs s).getD i 0))))=true:=by
   rw [List.all_eq_true]
   intro i hi'
   rw [hlen] at hi'
   have:=hi i (List.mem_range.1 hi')
   simp only [Bool.or_eq_true,decide_eq_true_eq,Bool.and_eq_true,bne_iff_ne,ne_eq]
   exact this
  rw [h1,Bool.true_and,Bool.eq_iff_iff]
  simp only [Bool.not_eq_true',decide_eq_false_iff_not,List.isEmpty_eq_false_iff]
  refine not_congr ⟨fun e=>by rw [e];rfl,fun e=>vz (e.trans rfl)⟩
section
variable {α:Type} [Mem α] {F:PH}
def HG (n:Nat) (N1:Int→PH→Prop) (s_0:Sl) (f_1:Value) (R:VR) (v_8:Int) (F:PH):Prop:=
  ((v_8<(s_0.len:Int)→
  ∃a14_:Addr,s_0.base=some a14_∧0≤v_8∧v_8<(s_0.len:Int)∧
  ∃v_15:Array Value,v_15.size=n∧F.row (Addr.add a14_ (Int.toNat v_8*n)) v_15∧
  ∃(k16:Nat) (fst16 cap16:Array Value),f_1=.func (.func k16) fst16 cap16∧aC prog k16=true∧ae prog k16 (fst16++([(.agg v_15)]).toArray++cap16) F fun v F=>∃v_16:Bool,v=(.bool v_16)∧
  ((v_16=true→
   R (.int .i64 v_8) F)∧
  (v_16=false→
   N1 (IntKind.i64.wrap (v_8+(1:Int))) F)))∧
 (¬(v_8<(s_0.len:Int))→
  R (.int .i64 (-1:Int)) F))
def NQ (n:Nat) (s_0:Sl) (f_1:Value) (R:VR) (F:PH):Prop:=
 (∃(I1:Nat→Int→PH→Prop) (m1:Nat),I1 m1 (0:Int) F∧∀m1 v_8 F,I1 m1 v_8 F→
  HG n (fun y1_0 F=>∃m',m'<m1∧I1 m' y1_0 F) s_0 f_1 R v_8 F)
theorem vb {s:Sl} {l:List α} (hs:RL F s l) (hn:0<Mem.n α) (hl:l.length≤1000000000) {k:Nat} {fst cap:Array Value} (hk:aC prog k=true) (p:α→Bool)
  (hf:∀x∈l,∀c F1,F.le F1→Mem.rep F1 x c→ae prog k (fst++([Value.agg c]).toArray++cap) F1 fun r F'=>r=.bool (p x)∧F1.le F'):
  NQ (Mem.n α) s (.func (.func k) fst cap) (fun r F'=>∃i,r=vi i∧(0≤i↔l.any p=true)∧F.le F') F:=by
 have hlen:=hs.len hn
 refine cZ (HG (Mem.n α) · s (.func (.func k) fst cap) _) l.length (fun k F'=>F.le F'∧(l.take k).any p=false) ⟨le_refl' F,by simp⟩ ?_
 rintro i F1 N hi ⟨hle,hany⟩ next
 unfold HG
 refine ⟨fun hlt=> ?_,fun hge=> ?_⟩
 ·have hlt:i<l.length:=by omega
  obtain ⟨a,c,ha,hr,hc⟩:=(hs.le hle).get hn (List.getElem?_eq_getElem hlt)
  refine ⟨a,ha,by omega,by omega,c,Mem.len hc,by rw [Int.toNat_natCast];exact hr,k,fst,cap,rfl,hk,?_⟩
  refine (hf _ (List.getElem_mem hlt) c F1 hle hc).mono ?_
  rintro _ F2 ⟨rfl,l2⟩
  refine ⟨_,rfl,fun h=> ?_,fun h=> ?_⟩
  ·exact ⟨_,rfl,⟨fun _=>List.any_eq_true.2 ⟨_,List.getElem_mem hlt,h⟩,fun _=>by omega⟩,aa hle l2⟩
  ·rw [aV hlt (by omega)]
   refine next _ hlt ⟨aa hle l2,?_⟩
   rw [List.take_succ_eq_append_getElem hlt,List.any_append,hany]
   simp [h]
 ·have e:i=l.length:=by omega
  subst e
  rw [List.take_length] at hany
  exact ⟨_,rfl,⟨fun h=>by omega,fun h=>by rw [hany] at h;cases h⟩,hle⟩
end
theorem ixc {α:Type} [Mem α] {F:PH} {s:Sl} {l:List α} (h:RL F s l) (hn:0<Mem.n α) {i:Int} (h0:0≤i) (h1:i<(s.len:Int)) {K:Addr→Prop}
  (k:∀a c x,l[i.toNat]? =some x→F.row (a.add (i.toNat*Mem.n α)) c→Mem.rep F x c→K a):∃a,s.base=some a∧0≤i∧i<(s.len:Int)∧K a:=by
 have hlen:=h.len hn
 have hlt:i.toNat<l.length:=by omega
 obtain ⟨a,c,ha,hr,hc⟩:=h.get hn (List.getElem?_eq_getElem hlt)
 exact ⟨a,ha,h0,h1,k a c _ (List.getElem?_eq_getElem hlt) hr hc⟩
def gD (d:Dia) (n:Nat):Prop:=chk d=0∧∀b∈d.1,b.v<n
open Classical in
noncomputable def nU (d:Dia) (n:Nat):Bool:=decide (gD d n)
theorem cd {d:Dia} {n:Nat}:nU d n=true↔gD d n:=by unfold nU;simp
theorem rG {d:Dia} {n:Nat}:nU d n=false↔¬gD d n:=by unfold nU;simp
theorem Jr:aC prog 200=true:=by kernel_rfl
theorem fL {F:PH} {v:Array Value} {d:Dia} {n:Nat} (hd:DV F v d):ae prog 149 #[.agg v,vi n] F fun r F'=>r=.bool (nU d n)∧F.le F':=by
 obtain ⟨s,rfl,hr⟩:=hd
 refine Mw ?_
 unfold Gt
 refine fresh fun b2 F1 l1 q1 _=> ?_
 refine fresh fun b3 F2 l2 q2 _=> ?_
 replace q1:=l2 _ _ q1
 replace hr:=hr.le (aa l1 l2)
 replace l1:=aa l1 l2
 refine ⟨_,rfl,aj q1,?_⟩
 refine (gy (d:=d) ⟨s,rfl,hr⟩).mono ?_
 rintro _ F3 ⟨rfl,l3⟩
 refine ⟨_,rfl,fun h=>⟨?_,aa l1 l3⟩,fun h=> ?_⟩
 ·have:nU d n=false:=rG.2 fun hg=>h hg.1
  rw [this]
 ·have h:chk d=0:=Classical.not_not.1 h
  have hle:d.1.length≤4096:=by
   apply Classical.byContradiction
   intro hb
   unfold chk at h
   rw [if_pos (by omega)] at h
   omega
  refine ⟨_,ld (l3 _ _ q1) rfl,?_⟩
  refine Kb ?_
  unfold E7
  have hs:RL F3 s d.1:=(RL.brs.2 hr).le l3
  refine (show ae prog 221 #[s.v,.func (.func 200) #[] #[.pointer (some ⟨b3,0,none⟩)]] F3 (fun r F'=>∃i,r=vi i∧(0≤i↔d.1.any (fun b=>decide ((n:Int)≤b.v))=true)∧F3.le F')
   from Kg (vb hs (by decide) (by omega) Jr (fun b=>decide ((n:Int)≤b.v)) fun x hx c F4 l4 hc=> ?_)).mono ?_
  ·rw [show c=aO x from hc]
   refine MX ?_
   unfold GJ
   refine fresh fun b F5 l5 q5 _=> ?_
   exact ⟨_,ld q5 rfl,_,rfl,_,ld (l5 _ _ (l4 _ _ (l3 _ _ q2))) rfl,rfl,l5⟩
  ·rintro _ F4 ⟨i,rfl,hi,l4⟩
   refine ⟨_,rfl,_,rfl,?_,aa l1 (aa l3 l4)⟩
   congr 1
   rw [Bool.eq_iff_iff,cd]
   simp only [Bool.not_eq_true',decide_eq_false_iff_not]
   rw [hi,List.any_eq_true]
   constructor
   ·intro hn
    refine ⟨h,fun b hb=>Int.not_le.1 fun hb'=>hn ⟨b,hb,by simpa using hb'⟩⟩
   ·rintro ⟨_,hb⟩ ⟨b,hb1,hb2⟩
    have:=hb b hb1
    simp at hb2
    omega
def co (g:Gr):Bool:=decide (64<g.conds.length∨256<g.toks.length∨4096<g.fils.length∨2000<g.nons.length∨2000<g.prods.length∨2000<g.lvs.length) || g.prods.any fun p=>decide (16<p.right.length∨16<p.lay.length)
theorem Dp:aC prog 146=true:=by kernel_rfl
theorem vc {F:PH} {v:Array Value} {g:Gr} (hg:GV F v g):ae prog 74 #[.agg v] F fun r F'=>r=.bool (co g)∧F.le F':=by
 obtain ⟨c,n,t,s,p,l,f,rfl,hs⟩:=hg
 refine OE ?_
 unfold L3
 refine fresh fun b1 F1 l1 q1 _=> ?_
 have e1:=hs.c.len (by decide)
 have e2:=hs.t.len (by decide)
 have e3:=hs.s.len (by decide)
 have e4:=hs.p.len (by decide)
 have e5:=hs.l.len (by decide)
 have e6:=hs.f.len (by decide)
 have bad:(64<g.conds.length∨256<g.toks.length∨4096<g.fils.length∨2000<g.nons.length∨2000<g.prods.length∨2000<g.lvs.length)→(Value.bool true=.bool (co g)∧F.le F1):=fun h=>by
  refine ⟨?_,l1⟩
  unfold co
  rw [decide_eq_true h,Bool.true_or]
 refine ⟨_,ld q1 rfl,fun h=>bad (by omega),fun h1=>⟨_,ld q1 rfl,fun h=>bad (by omega),fun h2=>⟨_,ld q1 rfl,fun h=>bad (by omega),fun h3=>⟨_,ld q1 rfl,_,ld q1 rfl,_,ld q1 rfl,fun h=>bad (by omega),fun h4=>⟨_,ld q1 rfl,?_⟩⟩⟩⟩⟩
 refine J7 ?_
 unfold E5
 refine (show ae prog 197 #[p.v,.func (.func 146) #[] #[]] F1 (fun r F'=>∃i,r=vi i∧(0≤i↔g.prods.any (fun p=>decide (16<p.right.length∨16<p.lay.length))=true)∧F1.le F')
  from Ka (vb (hs.p.le l1) (by decide) (by omega) Dp (fun p=>decide (16<p.right.length∨16<p.lay.length)) fun x hx c F4 l4 hc=> ?_)).mono ?_
 ·obtain ⟨r,n',l',rfl,h1,h2,h3⟩:=hc
  refine Mt ?_
  unfold Gp
  refine fresh fun b F5 l5 q5 _=> ?_
  have e1:=h1.len (by decide)
  have e2:=h3.len (by decide)
  refine ⟨_,ld q5 rfl,_,ld q5 rfl,?_,l5⟩
  congr 1
  rw [Bool.eq_iff_iff]
  simp only [decide_eq_true_eq]
  omega
 ·rintro _ F4 ⟨i,rfl,hi,l4⟩
  refine ⟨_,rfl,_,rfl,?_,aa l1 l4⟩
  congr 1
  unfold co
  have hno:¬(64<g.conds.length∨256<g.toks.length∨4096<g.fils.length∨2000<g.nons.length∨2000<g.prods.length∨2000<g.lvs.length):=by omega
  rw [decide_eq_false hno,Bool.false_or,Bool.eq_iff_iff,decide_eq_true_eq]
  exact hi
structure Sz (g:Gr):Prop where
 c:∀s∈g.conds,s.size≤1000000000
 t:∀t∈g.toks,t.smp.size≤100000
 l:∀l∈g.lvs,l.ps.length≤1000000000
 f:∀f∈g.fils,f.toks.length≤1000000000
def bg (l:List ByteArray):Prop:=l.Nodup∧emp ∉ l
theorem eC {l:List ByteArray} {s:ByteArray}:bg (l++[s])↔bg l∧s≠emp∧s ∉ l:=by
 unfold bg
 rw [List.nodup_append]
 simp only [List.mem_append,List.mem_singleton,not_or]
 constructor
 ·rintro ⟨⟨h1,_,h2⟩,h3,h4⟩
  exact ⟨⟨h1,h3⟩,fun e=>h4 e.symm,fun hm=>h2 s hm s rfl rfl⟩
 ·rintro ⟨⟨h1,h2⟩,h3,h4⟩
  exact ⟨⟨h1,by simp,fun a ha b hb e=>h4 (by rw [← hb,← e];exact ha)⟩,h2,fun e=>h3 e.symm⟩
theorem jJ {l:List ByteArray} (h:bg l) (k:Nat):bg (l.take k):=⟨h.1.sublist (List.take_sublist k l),fun hm=>h.2 (List.mem_of_mem_take hm)⟩
theorem bh {α:Type} {l:List α} {k:Nat} {x:α} (h:l[k]? =some x):l.take (k+1)=l.take k++[x]:=by
 obtain ⟨hk,rfl⟩:=List.getElem?_eq_some_iff.1 h
 exact List.take_succ_eq_append_getElem hk
theorem me {G F:PH} {As:List (PH→Prop)} {b m:Nat} {l:List ByteArray} (h:St G F (cg m l.reverse::As)) (hc:G.cell ⟨b,0,none⟩=some (.map (some m))) (s:ByteArray) {R:VR}
  (k:∀G' F',G.le G'→St G' F' (cg m (l++[s]).reverse::As)→R (.bool (decide (s≠emp∧s ∉ l))) F'):
  ∃(k28:Nat) (fst28 cap28:Array Value),tS b=.func (.func k28) fst28 cap28∧aC prog k28=true∧ae prog k28 (fst28++([(.string s)]).toArray++cap28) F R:=by
 refine ⟨_,_,_,rfl,Jq,?_⟩
 have sp:=St.callL (Bs:=[cg m l.reverse]) (Cs:=As) (Bs':=fun _ _=>[cg m (s::l.reverse)]) (P:=fun r _=>r=.bool (decide (s≠emp∧s ∉ l.reverse))) h fun F1 h1=>(u9 h1 hc s).mono fun r F' ⟨G',hr,hl,hst⟩=>⟨G',hr,hl,hst⟩
 refine sp.mono ?_
 rintro r F' ⟨G',rfl,hl,hst⟩
 have:=k G' F' hl (by rw [List.reverse_append];exact hst)
 rw [show decide (s≠emp∧s ∉ l.reverse)=decide (s≠emp∧s ∉ l) by simp]
 exact this
def Js:ByteArray:=ByteArray.mk #[116,114,117,101]
def HH:ByteArray:=ByteArray.mk #[102,97,108,115,101]
def nV (s:ByteArray):Prop:=lz s=true∧s≠Js∧s≠HH
def eR (g:Gr):Prop:=(∀s∈g.conds,nV s)∧bg g.conds∧gD g.fam g.conds.length∧g.fam.2≠0
open Classical in
theorem kQ {F:PH} {v:Array Value} {g:Gr} (hg:GV F v g) (hz:Sz g) (hl:g.conds.length≤64):ae prog 75 #[.agg v] F fun r F'=>r=vi (if eR g then 0 else 54)∧F.le F':=by
 obtain ⟨c,n,t,s,p,l,f,rfl,hs⟩:=hg
 have ec:=hs.c.len (by decide)
 refine OF ?_
 unfold L4
 refine fresh fun b1 F1 l1 q1 _=> ?_
 replace hs:=hs.le l1
 refine (gb F1).mono ?_
 rintro _ F2 ⟨G2,bn,m,rfl,l2,hcn,h⟩
 refine ⟨_,rfl,_,ld (h.le _ _ (l2 _ _ q1)) rfl,?_⟩
 have bad:∀{F'},F1.le F'→¬eR g→(vi 54=vi (if eR g then 0 else 54)∧F.le F'):=fun {F'} l hn=>⟨by rw [if_neg hn],aa l1 l⟩
 refine cZ (wb · b1 (tS bn) c _) g.conds.length (fun k F'=>∃G,G2.le G∧St G F' [cg m (g.conds.take k).reverse]∧(∀s∈g.conds.take k,nV s)∧bg (g.conds.take k))
  ⟨G2,le_refl' _,h,by simp,by simp [bg]⟩ ?_
 rintro k F3 N hk ⟨G3,l3,h,hi,hi2⟩ next
 have l13:=aa l2 l3
 unfold wb
 refine ⟨fun hlt=> ?_,fun hge=> ?_⟩
 ·have hlt:k<g.conds.length:=by omega
  refine ixc ((hs.c.le l13).le h.le) (by decide) (by omega) (by omega) fun a cc x hx hr hc=> ?_
  rw [Int.toNat_natCast] at hx hr
  rw [show cc= #[.string x] from hc] at hr
  have hxm:x∈g.conds:=List.mem_of_getElem? hx
  refine ⟨_,aM hr rfl,?_⟩
  refine h.runv (lT x (hz.c x hxm)) fun G4 F4 l4 h=>⟨_,rfl,fun hb=> ?_,fun hb=>⟨fun hb2=> ?_,fun hb2=>⟨fun hb3=> ?_,fun hb3=> ?_⟩⟩⟩
  ·exact bad (aa l13 (aa l4 h.le)) fun hn=>by
    rw [(hn.1 x hxm).1] at hb;cases hb
  ·exact bad (aa l13 (aa l4 h.le)) fun hn=>(hn.1 x hxm).2.1 (by rw [nT] at hb2;exact of_decide_eq_true hb2)
  ·exact bad (aa l13 (aa l4 h.le)) fun hn=>(hn.1 x hxm).2.2 (by rw [nT] at hb3;exact of_decide_eq_true hb3)
  ·refine me h (aq (aa l3 l4) hcn) x fun G5 F5 l5 h=> ?_
   have l15:=aa l13 (aa l4 l5)
   refine ⟨_,rfl,fun hb4=> ?_,fun hb4=> ?_⟩
   ·refine bad (aa l15 h.le) fun hn=> ?_
    have:=jJ hn.2.1 (k+1)
    rw [bh hx,eC] at this
    rw [decide_eq_true this.2] at hb4
    cases hb4
   ·rw [aV hlt (by omega)]
    have hb4:x≠emp∧x ∉ g.conds.take k:=by simpa using hb4
    rw [← bh hx] at h
    refine next _ hlt ⟨G5,aa l3 (aa l4 l5),h,fun s hs=> ?_,?_⟩
    ·rw [bh hx] at hs
     rcases List.mem_append.1 hs with hs|hs
     ·exact hi s hs
     ·rw [List.mem_singleton.1 hs]
      rw [nT] at hb2 hb3
      exact ⟨by simpa using hb,of_decide_eq_false hb2,of_decide_eq_false hb3⟩
    ·rw [bh hx,eC]
     exact ⟨hi2,hb4⟩
 ·have e:k=g.conds.length:=by omega
  subst e
  rw [List.take_length] at hi hi2
  unfold CH
  refine ⟨#[n.v,vi g.fam.2],rfl,nX (h.le _ _ (l13 _ _ q1)) rfl,_,ld (h.le _ _ (l13 _ _ q1)) rfl,?_⟩
  dsimp only
  rw [ec]
  refine h.runv (fL (d:=g.fam) (DV.mk (hs.n.le l13))) fun G4 F4 l4 h=>⟨_,rfl,fun hb=> ?_,fun hb=> ?_⟩
  ·refine bad (aa l13 (aa l4 h.le)) fun hn=> ?_
   have:nU g.fam g.conds.length=true:=cd.2 hn.2.2.1
   rw [this] at hb
   cases hb
  ·refine ⟨_,ld (h.le _ _ (l4 _ _ (l13 _ _ q1))) rfl,fun h0=> ?_,fun h0=> ?_⟩
   ·exact bad (aa l13 (aa l4 h.le)) fun hn=>hn.2.2.2 h0
   ·refine ⟨?_,aa l1 (aa l13 (aa l4 h.le))⟩
    rw [if_pos ⟨hi,hi2,cd.1 (by simpa using hb),h0⟩]
def dQ (g:Gr):Prop:=bg g.nons∧0≤g.start∧g.start<g.nons.length
open Classical in
theorem nW {F:PH} {v:Array Value} {g:Gr} (hg:GV F v g) (hl:g.nons.length≤2000):ae prog 77 #[.agg v] F fun r F'=>r=vi (if dQ g then 0 else 50)∧F.le F':=by
 obtain ⟨c,n,t,s,p,l,f,rfl,hs⟩:=hg
 have es:=hs.s.len (by decide)
 refine OH ?_
 unfold L6
 refine fresh fun b1 F1 l1 q1 _=> ?_
 replace hs:=hs.le l1
 refine (gb F1).mono ?_
 rintro _ F2 ⟨G2,bn,m,rfl,l2,hcn,h⟩
 refine ⟨_,rfl,_,ld (h.le _ _ (l2 _ _ q1)) rfl,?_⟩
 have bad:∀{F'},F1.le F'→¬dQ g→(vi 50=vi (if dQ g then 0 else 50)∧F.le F'):=fun {F'} l hn=>⟨by rw [if_neg hn],aa l1 l⟩
 refine cZ (we · b1 (tS bn) s _) g.nons.length (fun k F'=>∃G,G2.le G∧St G F' [cg m (g.nons.take k).reverse]∧bg (g.nons.take k))
  ⟨G2,le_refl' _,h,by simp [bg]⟩ ?_
 rintro k F3 N hk ⟨G3,l3,h,hi2⟩ next
 have l13:=aa l2 l3
 unfold we
 refine ⟨fun hlt=> ?_,fun hge=> ?_⟩
 ·have hlt:k<g.nons.length:=by omega
  refine ixc ((hs.s.le l13).le h.le) (by decide) (by omega) (by omega) fun a cc x hx hr hc=> ?_
  rw [Int.toNat_natCast] at hx hr
  rw [show cc= #[.string x] from hc] at hr
  refine ⟨_,aM hr rfl,?_⟩
  refine me h (aq l3 hcn) x fun G5 F5 l5 h=> ?_
  have l15:=aa l13 l5
  refine ⟨_,rfl,fun hb4=> ?_,fun hb4=> ?_⟩
  ·refine bad (aa l15 h.le) fun hn=> ?_
   have:=jJ hn.1 (k+1)
   rw [bh hx,eC] at this
   rw [decide_eq_true this.2] at hb4
   cases hb4
  ·rw [aV hlt (by omega)]
   have hb4:x≠emp∧x ∉ g.nons.take k:=by simpa using hb4
   rw [← bh hx] at h
   refine next _ hlt ⟨G5,aa l3 l5,h,?_⟩
   rw [bh hx,eC]
   exact ⟨hi2,hb4⟩
 ·have e:k=g.nons.length:=by omega
  subst e
  rw [List.take_length] at hi2
  unfold CJ
  have q:=h.le _ _ (l13 _ _ q1)
  refine ⟨_,ld q rfl,fun h0=>bad (aa l13 h.le) fun hn=>by have:=hn.2.1;omega,fun h0=>⟨_,ld q rfl,_,ld q rfl,fun h1=>bad (aa l13 h.le) fun hn=>by have:=hn.2.2;omega,fun h1=>⟨?_,aa l1 (aa l13 h.le)⟩⟩⟩
  rw [if_pos ⟨hi2,by omega,by omega⟩]
end Go.Proofs.YtenpmjhnhepfdaaGreatDoor
