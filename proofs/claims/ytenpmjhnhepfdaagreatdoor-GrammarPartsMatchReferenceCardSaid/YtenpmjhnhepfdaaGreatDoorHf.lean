/-
  Equality of structs of scalars; symbols; details of productions.
-/
import Derived.Test.YtenpmjhnhepfdaaGreatDoorHc
import Derived.Test.YtenpmjhnhepfdaaGreatDoorGgrammar
import Derived.Test.YtenpmjhnhepfdaaGreatDoorEa
namespace Go.Proofs.YtenpmjhnhepfdaaGreatDoor
open Go Go.Proofs.Tryz
set_option maxRecDepth 10000
theorem gz (a b:ByteArray):(a.toList==b.toList)=decide (a=b):=by
 rw [Gv,Bool.eq_iff_iff,decide_eq_true_eq,decide_eq_true_eq]
 exact ⟨uL,fun h=>by rw [h]⟩
theorem wW (a b:ByteArray):(a==b)=decide (a=b):=by
 show (a.data==b.data)=_
 rw [Bool.eq_iff_iff,beq_iff_eq,decide_eq_true_eq]
 exact ⟨fun h=>by cases a;cases b;cases h;rfl,fun h=>by rw [h]⟩
instance:LawfulBEq ByteArray where
 eq_of_beq {a b} h:=by rw [wW] at h;exact of_decide_eq_true h
 rfl {a}:=by rw [wW];exact decide_eq_true rfl
abbrev emp:ByteArray:=ByteArray.mk #[]
theorem Ui:rV prog 9 Value.string:=by
 refine ⟨fun F a b=> ?_,fun F e a=> ?_,fun a=> ?_,_,underlying9,.inl fun a b=> ?_⟩
 ·unfold Op.equal Op.maxDepth
  show rdo prog (Op.equalIn (9999+1) 9 (.string a) (.string b)) F _
  unfold Op.equalIn
  simp only [ak]
  refine ⟨_,(av underlying9 _).2 rfl,?_⟩
  exact wW a b
 ·show rdo prog (Instr.checkKey e (9999+1) 9 (.string a)) F ()
  unfold Instr.checkKey
  simp only [ak]
  exact ⟨_,(av underlying9 _).2 rfl,rfl⟩
 ·show (a==a)=true
  rw [wW]
  simp
 ·show some (a==b)=_
  rw [wW]
theorem Pm:bk prog 4=some (.bool false):=by kernel_rfl
theorem Nl:kj prog 268 Value.string (.bool false):=⟨_,_,underlying268,Pm,Ui⟩
def gA (l:List ByteArray) (s:ByteArray):Option Value:=if s=emp\/s∈l then some (.bool true) else none
def cK (m:Nat) (l:List ByteArray):PH->Prop:=fun H=>∃o,H m=some o/\gm Value.string (gA l) o
theorem St.mapAt {G F:PH} {As:List (PH->Prop)} {m:Nat} {l:List ByteArray} (h:St G F (cK m l::As)):∃o,F m=some o/\gm Value.string (gA l) o:=by
 obtain ⟨H,⟨o,h1,h2⟩,_,h3⟩:=h.get (i:=0) rfl
 exact ⟨o,h3 _ _ h1,h2⟩
theorem St.mapSet {G F:PH} {As:List (PH->Prop)} {m:Nat} {l l':List ByteArray} {o':Obj} (h:St G F (cK m l::As)) (ho:gm Value.string (gA l') o'):St G (F.set m o') (cK m l'::As):=by
 obtain ⟨H,⟨o,a1,_⟩,a2,a3,a4⟩:=h.set (i:=0) (A':=cK m l') rfl
 refine a4 (H.set m o') _ ⟨o',an _ _ _,ho⟩ (fun x hx=> ?_) (fun x p hx=> ?_) (fun x p hx hn=> ?_)
 ·by_cases e:x=m
  ·rw [e,a1];exact .inl (by simp)
  ·rw [az _ _ e] at hx;exact .inl hx
 ·by_cases e:x=m
  ·rw [e,an] at hx ⊢;exact hx
  ·rw [az _ _ e] at hx ⊢;exact a3 _ _ hx
 ·have e:x≠m:=fun e=>by rw [e,a1] at hn;cases hn
  rw [az _ _ e];exact hx
abbrev wX (b:Nat):Value:=.func (.func 198) #[] #[.pointer (some ⟨b,0,none⟩)]
theorem g0 (F:PH):ae prog 147 #[] F fun r F'=>∃G' b m,r=wX b/\F.le G'/\G'.cell ⟨b,0,none⟩=some (.map (some m))/\St G' F' [cK m []]:=by
 refine Rj ?_
 unfold KV
 intro m hm
 refine atI ?_
 refine bI Nl (an _ _ _) (gm.empty _) emp (.bool true) fun o' ho'=> ?_
 rw [aR]
 have hs:St F (F.set m o') [cK m []]:=by
  have ho2:gm Value.string (gA []) o':=by
   obtain ⟨es,c,L,h1,h2,h3⟩:=ho'
   refine ⟨es,c,L,h1,h2,fun k=> ?_⟩
   rw [<- h3 k]
   unfold gA
   by_cases e:k=emp<;>simp [e]
  refine (St.start F).push (H:=PH.set (fun _=>none) m o') ⟨o',an _ _ _,ho2⟩ (fun x hx=> ?_) (fun x p hx=> ?_) (ac o' hm)
  ·by_cases e:x=m
   ·rw [e];exact hm
   ·rw [az _ _ e] at hx;exact absurd rfl hx
  ·by_cases e:x=m
   ·rw [e,an] at hx ⊢;exact hx
   ·rw [az _ _ e] at hx;cases hx
 refine hs.new fun b1 F1 h=> ?_
 refine h.set0 (by decide) rfl fun F2 h=> ?_
 refine h.pinb (K:=fun F2=>∃G' b m,_=wX b/\F.le G'/\G'.cell ⟨b,0,none⟩=some (.map (some m))/\St G' F2 [cK m []]) fun G' l q h=> ?_
 exact ⟨G',b1,m,rfl,l,ld q rfl,h⟩
theorem yr {G F:PH} {b m:Nat} {l:List ByteArray} (h:St G F [cK m l]) (hc:G.cell ⟨b,0,none⟩=some (.map (some m))) (s:ByteArray):
  ae prog 198 #[.string s,.pointer (some ⟨b,0,none⟩)] F fun r F'=>∃G',r=.bool (decide (s≠emp/\s ∉ l))/\G.le G'/\St G' F' [cK m (s::l)]:=by
 refine RZ ?_
 unfold Ly
 obtain ⟨o,ho,hmo⟩:=h.mapAt
 have hc':=aq h.le hc
 have hlk:=dL (F:=F) Nl ho hmo s false
 have hin:∀k,gA (s::l) k=if k=s then some (.bool true) else gA l k:=fun k=>by
  unfold gA
  by_cases e:k=s
  ·simp [e]
  ·simp [e]
 by_cases hs:s=emp\/s∈l
 ·have e1:gA l s=some (.bool true):=if_pos hs
  rw [e1] at hlk
  refine ⟨_,rfl,some m,hc',true,hlk,fun _=> ?_,fun h=>(by cases h)⟩
  have hd:decide (s≠emp/\s ∉ l)=false:=by
   rw [decide_eq_false_iff_not]
   rintro ⟨h1,h2⟩
   rcases hs with h|h
   ·exact h1 h
   ·exact h2 h
  refine ⟨G,by rw [hd],le_refl' G,?_⟩
  have:cK m (s::l)=cK m l:=by
   unfold cK
   funext H
   rw [show gA (s::l)=gA l from funext fun k=>by
    rw [hin]
    by_cases e:k=s
    ·rw [if_pos e,e,e1]
    ·rw [if_neg e]]
  rw [this]
  exact h
 ·have e1:gA l s=none:=if_neg hs
  rw [e1] at hlk
  refine ⟨_,rfl,some m,hc',false,hlk,fun h=>(by cases h),fun _=>⟨some m,hc',?_⟩⟩
  refine bI Nl ho hmo s (.bool true) fun o' ho'=> ?_
  have hd:decide (s≠emp/\s ∉ l)=true:=by
   rw [decide_eq_true_eq]
   exact ⟨fun e=>hs (.inl e),fun e=>hs (.inr e)⟩
  refine ⟨G,by rw [hd],le_refl' G,h.mapSet ?_⟩
  rw [show gA (s::l)=_ from funext hin]
  exact ho'
theorem Po:aC prog 198=true:=by kernel_rfl
def fO (b:Nat):Prop:=(97<=b/\b<=122)\/(65<=b/\b<=90)\/b=95
def hY (b:Nat):Prop:=48<=b/\b<=57
instance (b:Nat):Decidable (fO b):=inferInstanceAs (Decidable (_\/_))
instance (b:Nat):Decidable (hY b):=inferInstanceAs (Decidable (_/\_))
def uw (l:List Nat):Bool:=(List.range l.length).all (fun i=>decide (fO (l.getD i 0)) || (i !=0 && decide (hY (l.getD i 0)))) && !l.isEmpty
def iY (s:ByteArray):Bool:=uw (bs s)
theorem Fs (s:ByteArray) (i:Nat) (h:i<s.size):(s[i]'h).toNat=(bs s).getD i 0:=by
 rw [<- Gu];unfold cb;rw [dif_pos h]
theorem nc {F:PH} (s:ByteArray) (hs:s.size<=1000000000):ae prog 148 #[.string s] F fun r F'=>r=.bool (iY s)/\F.le F':=by
 refine Rk ?_
 unfold KW
 have hlen:=bL s
 refine bj (uS · s _) s.size (fun k F'=>F.le F'/\∀i,i<k->(fO ((bs s).getD i 0)\/(i≠0/\hY ((bs s).getD i 0)))) ⟨le_refl' F,fun i h=>by omega⟩ ?_
 rintro k F1 N hk ⟨hl,hi⟩ next
 unfold uS
 refine ⟨fun hlt=> ?_,fun hge=> ?_⟩
 ·have hlt:k<s.size:=by omega
  refine ⟨by omega,by omega,by simpa using hlt,((bs s).getD k 0:Nat),?_,?_⟩
  ·rw [<- Fs s k hlt]
   rfl
  generalize hc:(bs s).getD k 0=c
  have bad:¬(fO c\/(k≠0/\hY c))->Value.bool false=.bool (iY s)/\F.le F1:=fun hn=>by
   refine ⟨?_,hl⟩
   have:iY s=false:=by
    unfold iY uw
    rw [Bool.and_eq_false_iff]
    refine .inl ?_
    rw [List.all_eq_false]
    refine ⟨k,List.mem_range.2 (by omega),?_⟩
    rw [hc]
    simp only [Bool.or_eq_true,decide_eq_true_eq,Bool.and_eq_true,bne_iff_ne,ne_eq]
    exact hn
   rw [this]
  have good:(fO c\/(k≠0/\hY c))->oo N s (k:Int) (fun r F'=>r=.bool (iY s)/\F.le F') F1:=fun hg=>by
   unfold oo
   rw [aB hlt (by omega)]
   refine next _ hlt ⟨hl,fun i hi'=> ?_⟩
   by_cases e:i=k
   ·rw [e,hc];exact hg
   ·exact hi i (by omega)
  have j3:∀t:Bool,(t=true↔fO c)->fD N s (k:Int) (c:Int) t (fun r F'=>r=.bool (iY s)/\F.le F') F1:=fun t ht=>by
   unfold fD
   refine ⟨fun h=> ?_,fun h=>good (.inl (ht.1 (by simpa using h)))⟩
   have hnl:¬fO c:=fun hl'=>by rw [ht.2 hl'] at h;cases h
   refine ⟨fun h0=>bad ?_,fun h0=>⟨fun h1=>bad ?_,fun h1=>⟨fun h2=>bad ?_,fun h2=>good ?_⟩⟩⟩
   ·rintro (h|h)
    ·exact hnl h
    ·omega
   ·rintro (h|h)
    ·exact hnl h
    ·unfold hY at h;omega
   ·rintro (h|h)
    ·exact hnl h
    ·unfold hY at h;omega
   ·exact .inr ⟨by omega,by unfold hY;omega⟩
  refine ⟨fun h1=>⟨fun h2=>j3 _ ⟨fun _=>by unfold fO;omega,fun _=>rfl⟩,fun h2=>⟨fun h3=>⟨fun h4=>j3 _ ⟨fun _=>by unfold fO;omega,fun _=>rfl⟩,fun h4=>j3 _ ?_⟩,fun h3=>j3 _ ?_⟩⟩,
   fun h1=>⟨fun h3=>⟨fun h4=>j3 _ ⟨fun _=>by unfold fO;omega,fun _=>rfl⟩,fun h4=>j3 _ ?_⟩,fun h3=>j3 _ ?_⟩⟩
  all_goals (rw [decide_eq_true_eq];unfold fO;omega)
 ·have e:k=s.size:=by omega
  subst e
  unfold Bw
  refine ⟨?_,hl⟩
  congr 1
  rw [gz]
  unfold iY uw
  have h1:(List.range (bs s).length).all (fun i=>decide (fO ((bs s).getD i 0)) || (i !=0 && decide (hY ((bs s).getD i 0))))=true:=by
   rw [List.all_eq_true]
   intro i hi'
   rw [hlen] at hi'
   have:=hi i (List.mem_range.1 hi')
   simp only [Bool.or_eq_true,decide_eq_true_eq,Bool.and_eq_true,bne_iff_ne,ne_eq]
   exact this
  rw [h1,Bool.true_and,Bool.eq_iff_iff]
  simp only [Bool.not_eq_true',decide_eq_false_iff_not,List.isEmpty_eq_false_iff]
  refine not_congr ⟨fun e=>by rw [e];rfl,fun e=>uL (e.trans rfl)⟩
section
variable {α:Type} [Mem α] {F:PH}
def Nm (n:Nat) (j:Int->PH->Prop) (f:Sl) (i:Value) (R:VR) (a:Int) (F:PH):Prop:=((a<(f.len:Int)-> ∃g:Addr,f.base=some g/\0<=a/\a<(f.len:Int)/\∃b:Array Value,b.size=n/\F.row (Addr.add g (Int.toNat a*n)) b/\∃(h:Nat) (c d:Array Value),i=.func (.func h) c d/\aC prog h=true/\ae prog h (c++([.agg b]).toArray++d) F fun v F=>∃e:Bool,v=(.bool e)/\((e=true-> R (.int .i64 a) F)/\(e=false-> j (IntKind.i64.wrap (a+(1:Int))) F)))/\(¬(a<(f.len:Int))-> R (.int .i64 (-1:Int)) F))
def Uj (n:Nat) (d:Sl) (e:Value) (R:VR) (F:PH):Prop:=(∃(f:Nat->Int->PH->Prop) (c:Nat),f c (0:Int) F/\∀c a F,f c a F-> Nm n (fun b F=>∃g,g<c/\f g b F) d e R a F)
theorem yt {s:Sl} {l:List α} (hs:RL F s l) (hn:0<Mem.n α) (hl:l.length<=1000000000) {k:Nat} {fst cap:Array Value} (hk:aC prog k=true) (p:α->Bool)
  (hf:∀x∈l,∀c F1,F.le F1->Mem.rep F1 x c->ae prog k (fst++([Value.agg c]).toArray++cap) F1 fun r F'=>r=.bool (p x)/\F1.le F'):
  Uj (Mem.n α) s (.func (.func k) fst cap) (fun r F'=>∃i,r=vi i/\(0<=i↔l.any p=true)/\F.le F') F:=by
 have hlen:=hs.len hn
 refine bj (Nm (Mem.n α) · s (.func (.func k) fst cap) _) l.length (fun k F'=>F.le F'/\(l.take k).any p=false) ⟨le_refl' F,by simp⟩ ?_
 rintro i F1 N hi ⟨hle,hany⟩ next
 unfold Nm
 refine ⟨fun hlt=> ?_,fun hge=> ?_⟩
 ·have hlt:i<l.length:=by omega
  obtain ⟨a,c,ha,hr,hc⟩:=(hs.le hle).get hn (List.getElem?_eq_getElem hlt)
  refine ⟨a,ha,by omega,by omega,c,Mem.len hc,by rw [Int.toNat_natCast];exact hr,k,fst,cap,rfl,hk,?_⟩
  refine (hf _ (List.getElem_mem hlt) c F1 hle hc).mono ?_
  rintro _ F2 ⟨rfl,l2⟩
  refine ⟨_,rfl,fun h=> ?_,fun h=> ?_⟩
  ·exact ⟨_,rfl,⟨fun _=>List.any_eq_true.2 ⟨_,List.getElem_mem hlt,h⟩,fun _=>by omega⟩,aa hle l2⟩
  ·rw [aB hlt (by omega)]
   refine next _ hlt ⟨aa hle l2,?_⟩
   rw [List.take_succ_eq_append_getElem hlt,List.any_append,hany]
   simp [h]
 ·have e:i=l.length:=by omega
  subst e
  rw [List.take_length] at hany
  exact ⟨_,rfl,⟨fun h=>by omega,fun h=>by rw [hany] at h;cases h⟩,hle⟩
end
theorem ixc {α:Type} [Mem α] {F:PH} {s:Sl} {l:List α} (h:RL F s l) (hn:0<Mem.n α) {i:Int} (h0:0<=i) (h1:i<(s.len:Int)) {K:Addr->Prop}
  (k:∀a c x,l[i.toNat]? =some x->F.row (a.add (i.toNat*Mem.n α)) c->Mem.rep F x c->K a):∃a,s.base=some a/\0<=i/\i<(s.len:Int)/\K a:=by
 have hlen:=h.len hn
 have hlt:i.toNat<l.length:=by omega
 obtain ⟨a,c,ha,hr,hc⟩:=h.get hn (List.getElem?_eq_getElem hlt)
 exact ⟨a,ha,h0,h1,k a c _ (List.getElem?_eq_getElem hlt) hr hc⟩
def fg (d:Dia) (n:Nat):Prop:=chk d=0/\∀b∈d.1,b.v<n
open Classical in
noncomputable def ql (d:Dia) (n:Nat):Bool:=decide (fg d n)
theorem bh {d:Dia} {n:Nat}:ql d n=true↔fg d n:=by unfold ql;simp
theorem ux {d:Dia} {n:Nat}:ql d n=false↔¬fg d n:=by unfold ql;simp
theorem Pp:aC prog 200=true:=by kernel_rfl
theorem gB {F:PH} {v:Array Value} {d:Dia} {n:Nat} (hd:DV F v d):ae prog 149 #[.agg v,vi n] F fun r F'=>r=.bool (ql d n)/\F.le F':=by
 obtain ⟨s,rfl,hr⟩:=hd
 refine Rl ?_
 unfold KX
 refine fresh fun b2 F1 l1 q1 _=> ?_
 refine fresh fun b3 F2 l2 q2 _=> ?_
 replace q1:=l2 _ _ q1
 replace hr:=hr.le (aa l1 l2)
 replace l1:=aa l1 l2
 refine ⟨_,rfl,aj q1,?_⟩
 refine (ke (d:=d) ⟨s,rfl,hr⟩).mono ?_
 rintro _ F3 ⟨rfl,l3⟩
 refine ⟨_,rfl,fun h=>⟨?_,aa l1 l3⟩,fun h=> ?_⟩
 ·have:ql d n=false:=ux.2 fun hg=>h hg.1
  rw [this]
 ·have h:chk d=0:=Classical.not_not.1 h
  have hle:d.1.length<=4096:=by
   apply Classical.byContradiction
   intro hb
   unfold chk at h
   rw [if_pos (by omega)] at h
   omega
  refine ⟨_,ld (l3 _ _ q1) rfl,?_⟩
  refine OZ ?_
  unfold JT
  have hs:RL F3 s d.1:=(RL.brs.2 hr).le l3
  refine (show ae prog 221 #[s.v,.func (.func 200) #[] #[.pointer (some ⟨b3,0,none⟩)]] F3 (fun r F'=>∃i,r=vi i/\(0<=i↔d.1.any (fun b=>decide ((n:Int)<=b.v))=true)/\F3.le F')
   from O3 (yt hs (by decide) (by omega) Pp (fun b=>decide ((n:Int)<=b.v)) fun x hx c F4 l4 hc=> ?_)).mono ?_
  ·rw [show c=aQ x from hc]
   refine R0 ?_
   unfold Lz
   refine fresh fun b F5 l5 q5 _=> ?_
   exact ⟨_,ld q5 rfl,_,rfl,_,ld (l5 _ _ (l4 _ _ (l3 _ _ q2))) rfl,rfl,l5⟩
  ·rintro _ F4 ⟨i,rfl,hi,l4⟩
   refine ⟨_,rfl,_,rfl,?_,aa l1 (aa l3 l4)⟩
   congr 1
   rw [Bool.eq_iff_iff,bh]
   simp only [Bool.not_eq_true',decide_eq_false_iff_not]
   rw [hi,List.any_eq_true]
   constructor
   ·intro hn
    refine ⟨h,fun b hb=>Int.not_le.1 fun hb'=>hn ⟨b,hb,by simpa using hb'⟩⟩
   ·rintro ⟨_,hb⟩ ⟨b,hb1,hb2⟩
    have:=hb b hb1
    simp at hb2
    omega
def bE (g:Gr):Bool:=decide (64<g.conds.length\/256<g.toks.length\/4096<g.fils.length\/2000<g.nons.length\/2000<g.prods.length\/2000<g.lvs.length) || g.prods.any fun p=>decide (16<p.right.length\/16<p.lay.length)
theorem IJ:aC prog 146=true:=by kernel_rfl
theorem yu {F:PH} {v:Array Value} {g:Gr} (hg:GV F v g):ae prog 74 #[.agg v] F fun r F'=>r=.bool (bE g)/\F.le F':=by
 obtain ⟨c,n,t,s,p,l,f,rfl,hs⟩:=hg
 refine UB ?_
 unfold QR
 refine fresh fun b1 F1 l1 q1 _=> ?_
 have e1:=hs.c.len (by decide)
 have e2:=hs.t.len (by decide)
 have e3:=hs.s.len (by decide)
 have e4:=hs.p.len (by decide)
 have e5:=hs.l.len (by decide)
 have e6:=hs.f.len (by decide)
 have bad:(64<g.conds.length\/256<g.toks.length\/4096<g.fils.length\/2000<g.nons.length\/2000<g.prods.length\/2000<g.lvs.length)->(Value.bool true=.bool (bE g)/\F.le F1):=fun h=>by
  refine ⟨?_,l1⟩
  unfold bE
  rw [decide_eq_true h,Bool.true_or]
 refine ⟨_,ld q1 rfl,fun h=>bad (by omega),fun h1=>⟨_,ld q1 rfl,fun h=>bad (by omega),fun h2=>⟨_,ld q1 rfl,fun h=>bad (by omega),fun h3=>⟨_,ld q1 rfl,_,ld q1 rfl,_,ld q1 rfl,fun h=>bad (by omega),fun h4=>⟨_,ld q1 rfl,?_⟩⟩⟩⟩⟩
 refine OV ?_
 unfold JR
 refine (show ae prog 197 #[p.v,.func (.func 146) #[] #[]] F1 (fun r F'=>∃i,r=vi i/\(0<=i↔g.prods.any (fun p=>decide (16<p.right.length\/16<p.lay.length))=true)/\F1.le F')
  from OY (yt (hs.p.le l1) (by decide) (by omega) IJ (fun p=>decide (16<p.right.length\/16<p.lay.length)) fun x hx c F4 l4 hc=> ?_)).mono ?_
 ·obtain ⟨r,n',l',rfl,h1,h2,h3⟩:=hc
  refine Ri ?_
  unfold KU
  refine fresh fun b F5 l5 q5 _=> ?_
  have e1:=h1.len (by decide)
  have e2:=h3.len (by decide)
  refine ⟨_,ld q5 rfl,_,ld q5 rfl,?_,l5⟩
  congr 1
  rw [Bool.eq_iff_iff]
  simp only [decide_eq_true_eq]
  omega
 ·rintro _ F4 ⟨i,rfl,hi,l4⟩
  refine ⟨_,rfl,_,rfl,?_,aa l1 l4⟩
  congr 1
  unfold bE
  have hno:¬(64<g.conds.length\/256<g.toks.length\/4096<g.fils.length\/2000<g.nons.length\/2000<g.prods.length\/2000<g.lvs.length):=by omega
  rw [decide_eq_false hno,Bool.false_or,Bool.eq_iff_iff,decide_eq_true_eq]
  exact hi
structure Sz (g:Gr):Prop where
 c:∀s∈g.conds,s.size<=1000000000
 t:∀t∈g.toks,t.smp.size<=100000
 l:∀l∈g.lvs,l.ps.length<=1000000000
 f:∀f∈g.fils,f.toks.length<=1000000000
def aX (l:List ByteArray):Prop:=l.Nodup/\emp ∉ l
theorem cq {l:List ByteArray} {s:ByteArray}:aX (l++[s])↔aX l/\s≠emp/\s ∉ l:=by
 unfold aX
 rw [List.nodup_append]
 simp only [List.mem_append,List.mem_singleton,not_or]
 constructor
 ·rintro ⟨⟨h1,_,h2⟩,h3,h4⟩
  exact ⟨⟨h1,h3⟩,fun e=>h4 e.symm,fun hm=>h2 s hm s rfl rfl⟩
 ·rintro ⟨⟨h1,h2⟩,h3,h4⟩
  exact ⟨⟨h1,by simp,fun a ha b hb e=>h4 (by rw [<- hb,<- e];exact ha)⟩,h2,fun e=>h3 e.symm⟩
theorem fw {l:List ByteArray} (h:aX l) (k:Nat):aX (l.take k):=⟨h.1.sublist (List.take_sublist k l),fun hm=>h.2 (List.mem_of_mem_take hm)⟩
theorem aI {α:Type} {l:List α} {k:Nat} {x:α} (h:l[k]? =some x):l.take (k+1)=l.take k++[x]:=by
 obtain ⟨hk,rfl⟩:=List.getElem?_eq_some_iff.1 h
 exact List.take_succ_eq_append_getElem hk
theorem nK {G F:PH} {As:List (PH->Prop)} {b m:Nat} {l:List ByteArray} (h:St G F (cK m l.reverse::As)) (hc:G.cell ⟨b,0,none⟩=some (.map (some m))) (s:ByteArray) {R:VR}
  (k:∀G' F',G.le G'->St G' F' (cK m (l++[s]).reverse::As)->R (.bool (decide (s≠emp/\s ∉ l))) F'):
  ∃(k28:Nat) (fst28 cap28:Array Value),wX b=.func (.func k28) fst28 cap28/\aC prog k28=true/\ae prog k28 (fst28++([(.string s)]).toArray++cap28) F R:=by
 refine ⟨_,_,_,rfl,Po,?_⟩
 have sp:=St.callL (Bs:=[cK m l.reverse]) (Cs:=As) (Bs':=fun _ _=>[cK m (s::l.reverse)]) (P:=fun r _=>r=.bool (decide (s≠emp/\s ∉ l.reverse))) h fun F1 h1=>(yr h1 hc s).mono fun r F' ⟨G',hr,hl,hst⟩=>⟨G',hr,hl,hst⟩
 refine sp.mono ?_
 rintro r F' ⟨G',rfl,hl,hst⟩
 have:=k G' F' hl (by rw [List.reverse_append];exact hst)
 rw [show decide (s≠emp/\s ∉ l.reverse)=decide (s≠emp/\s ∉ l) by simp]
 exact this
def Pq:ByteArray:=ByteArray.mk #[116,114,117,101]
def Nn:ByteArray:=ByteArray.mk #[102,97,108,115,101]
def mj (s:ByteArray):Prop:=iY s=true/\s≠Pq/\s≠Nn
def fa (g:Gr):Prop:=(∀s∈g.conds,mj s)/\aX g.conds/\fg g.fam g.conds.length/\g.fam.2≠0
open Classical in
theorem ml {F:PH} {v:Array Value} {g:Gr} (hg:GV F v g) (hz:Sz g) (hl:g.conds.length<=64):ae prog 75 #[.agg v] F fun r F'=>r=vi (if fa g then 0 else 54)/\F.le F':=by
 obtain ⟨c,n,t,s,p,l,f,rfl,hs⟩:=hg
 have ec:=hs.c.len (by decide)
 refine UC ?_
 unfold QS
 refine fresh fun b1 F1 l1 q1 _=> ?_
 replace hs:=hs.le l1
 refine (g0 F1).mono ?_
 rintro _ F2 ⟨G2,bn,m,rfl,l2,hcn,h⟩
 refine ⟨_,rfl,_,ld (h.le _ _ (l2 _ _ q1)) rfl,?_⟩
 have bad:∀{F'},F1.le F'->¬fa g->(vi 54=vi (if fa g then 0 else 54)/\F.le F'):=fun {F'} l hn=>⟨by rw [if_neg hn],aa l1 l⟩
 refine bj (yU · b1 (wX bn) c _) g.conds.length (fun k F'=>∃G,G2.le G/\St G F' [cK m (g.conds.take k).reverse]/\(∀s∈g.conds.take k,mj s)/\aX (g.conds.take k))
  ⟨G2,le_refl' _,h,by simp,by simp [aX]⟩ ?_
 rintro k F3 N hk ⟨G3,l3,h,hi,hi2⟩ next
 have l13:=aa l2 l3
 unfold yU
 refine ⟨fun hlt=> ?_,fun hge=> ?_⟩
 ·have hlt:k<g.conds.length:=by omega
  refine ixc ((hs.c.le l13).le h.le) (by decide) (by omega) (by omega) fun a cc x hx hr hc=> ?_
  rw [Int.toNat_natCast] at hx hr
  rw [show cc= #[.string x] from hc] at hr
  have hxm:x∈g.conds:=List.mem_of_getElem? hx
  refine ⟨_,aF hr rfl,?_⟩
  refine h.runv (nc x (hz.c x hxm)) fun G4 F4 l4 h=>⟨_,rfl,fun hb=> ?_,fun hb=>⟨fun hb2=> ?_,fun hb2=>⟨fun hb3=> ?_,fun hb3=> ?_⟩⟩⟩
  ·exact bad (aa l13 (aa l4 h.le)) fun hn=>by
    rw [(hn.1 x hxm).1] at hb;cases hb
  ·exact bad (aa l13 (aa l4 h.le)) fun hn=>(hn.1 x hxm).2.1 (by rw [gz] at hb2;exact of_decide_eq_true hb2)
  ·exact bad (aa l13 (aa l4 h.le)) fun hn=>(hn.1 x hxm).2.2 (by rw [gz] at hb3;exact of_decide_eq_true hb3)
  ·refine nK h (aq (aa l3 l4) hcn) x fun G5 F5 l5 h=> ?_
   have l15:=aa l13 (aa l4 l5)
   refine ⟨_,rfl,fun hb4=> ?_,fun hb4=> ?_⟩
   ·refine bad (aa l15 h.le) fun hn=> ?_
    have:=fw hn.2.1 (k+1)
    rw [aI hx,cq] at this
    rw [decide_eq_true this.2] at hb4
    cases hb4
   ·rw [aB hlt (by omega)]
    have hb4:x≠emp/\x ∉ g.conds.take k:=by simpa using hb4
    rw [<- aI hx] at h
    refine next _ hlt ⟨G5,aa l3 (aa l4 l5),h,fun s hs=> ?_,?_⟩
    ·rw [aI hx] at hs
     rcases List.mem_append.1 hs with hs|hs
     ·exact hi s hs
     ·rw [List.mem_singleton.1 hs]
      rw [gz] at hb2 hb3
      exact ⟨by simpa using hb,of_decide_eq_false hb2,of_decide_eq_false hb3⟩
    ·rw [aI hx,cq]
     exact ⟨hi2,hb4⟩
 ·have e:k=g.conds.length:=by omega
  subst e
  rw [List.take_length] at hi hi2
  unfold GD
  refine ⟨#[n.v,vi g.fam.2],rfl,dP (h.le _ _ (l13 _ _ q1)) rfl,_,ld (h.le _ _ (l13 _ _ q1)) rfl,?_⟩
  dsimp only
  rw [ec]
  refine h.runv (gB (d:=g.fam) (DV.mk (hs.n.le l13))) fun G4 F4 l4 h=>⟨_,rfl,fun hb=> ?_,fun hb=> ?_⟩
  ·refine bad (aa l13 (aa l4 h.le)) fun hn=> ?_
   have:ql g.fam g.conds.length=true:=bh.2 hn.2.2.1
   rw [this] at hb
   cases hb
  ·refine ⟨_,ld (h.le _ _ (l4 _ _ (l13 _ _ q1))) rfl,fun h0=> ?_,fun h0=> ?_⟩
   ·exact bad (aa l13 (aa l4 h.le)) fun hn=>hn.2.2.2 h0
   ·refine ⟨?_,aa l1 (aa l13 (aa l4 h.le))⟩
    rw [if_pos ⟨hi,hi2,bh.1 (by simpa using hb),h0⟩]
def dO (g:Gr):Prop:=aX g.nons/\0<=g.start/\g.start<g.nons.length
open Classical in
theorem qn {F:PH} {v:Array Value} {g:Gr} (hg:GV F v g) (hl:g.nons.length<=2000):ae prog 77 #[.agg v] F fun r F'=>r=vi (if dO g then 0 else 50)/\F.le F':=by
 obtain ⟨c,n,t,s,p,l,f,rfl,hs⟩:=hg
 have es:=hs.s.len (by decide)
 refine UE ?_
 unfold QU
 refine fresh fun b1 F1 l1 q1 _=> ?_
 replace hs:=hs.le l1
 refine (g0 F1).mono ?_
 rintro _ F2 ⟨G2,bn,m,rfl,l2,hcn,h⟩
 refine ⟨_,rfl,_,ld (h.le _ _ (l2 _ _ q1)) rfl,?_⟩
 have bad:∀{F'},F1.le F'->¬dO g->(vi 50=vi (if dO g then 0 else 50)/\F.le F'):=fun {F'} l hn=>⟨by rw [if_neg hn],aa l1 l⟩
 refine bj (yW · b1 (wX bn) s _) g.nons.length (fun k F'=>∃G,G2.le G/\St G F' [cK m (g.nons.take k).reverse]/\aX (g.nons.take k))
  ⟨G2,le_refl' _,h,by simp [aX]⟩ ?_
 rintro k F3 N hk ⟨G3,l3,h,hi2⟩ next
 have l13:=aa l2 l3
 unfold yW
 refine ⟨fun hlt=> ?_,fun hge=> ?_⟩
 ·have hlt:k<g.nons.length:=by omega
  refine ixc ((hs.s.le l13).le h.le) (by decide) (by omega) (by omega) fun a cc x hx hr hc=> ?_
  rw [Int.toNat_natCast] at hx hr
  rw [show cc= #[.string x] from hc] at hr
  refine ⟨_,aF hr rfl,?_⟩
  refine nK h (aq l3 hcn) x fun G5 F5 l5 h=> ?_
  have l15:=aa l13 l5
  refine ⟨_,rfl,fun hb4=> ?_,fun hb4=> ?_⟩
  ·refine bad (aa l15 h.le) fun hn=> ?_
   have:=fw hn.1 (k+1)
   rw [aI hx,cq] at this
   rw [decide_eq_true this.2] at hb4
   cases hb4
  ·rw [aB hlt (by omega)]
   have hb4:x≠emp/\x ∉ g.nons.take k:=by simpa using hb4
   rw [<- aI hx] at h
   refine next _ hlt ⟨G5,aa l3 l5,h,?_⟩
   rw [aI hx,cq]
   exact ⟨hi2,hb4⟩
 ·have e:k=g.nons.length:=by omega
  subst e
  rw [List.take_length] at hi2
  unfold GF
  have q:=h.le _ _ (l13 _ _ q1)
  refine ⟨_,ld q rfl,fun h0=>bad (aa l13 h.le) fun hn=>by have:=hn.2.1;omega,fun h0=>⟨_,ld q rfl,_,ld q rfl,fun h1=>bad (aa l13 h.le) fun hn=>by have:=hn.2.2;omega,fun h1=>⟨?_,aa l1 (aa l13 h.le)⟩⟩⟩
  rw [if_pos ⟨hi2,by omega,by omega⟩]
inductive Scl:TypeId->Value->Value->Bool->Prop
 |int {t:TypeId} {k:IntKind} {a b:Int}:prog.underlying t=some (.int k)->Scl t (.int k a) (.int k b) (decide (a=b))
 |bool {t:TypeId} {a b:Bool}:prog.underlying t=some .bool->Scl t (.bool a) (.bool b) (decide (a=b))
theorem Scl.eq {t:TypeId} {v w:Value} {r:Bool} (h:Scl t v w r) (d:Nat) (F:PH):rdo prog (Op.equalIn (d+1) t v w) F r:=by
 cases h with
 | @int k a b ht=>exact AI t k ht d a b
 | @bool a b ht=>
  simp only [Op.equalIn,ak]
  refine ⟨_,(av ht _).2 rfl,?_⟩
  show (a==b)=decide (a=b)
  cases a<;>cases b<;>rfl
theorem Scl.part {t:TypeId} {v w:Value} {r:Bool} (h:Scl t v w r) {cs:Array Value} {off:Nat} {x:Value} (hx:cs[off]? =some x) (F:PH):rdo prog (part t cs off) F x:=by
 have ha:∀d,prog.underlying t=some d->((∃k,d=.int k)\/d=.bool)->rdo prog (Go.part t cs off) F x:=fun d hd hk=>by
  unfold Go.part
  simp only [ak]
  refine ⟨false,(dm hd _).2 (by rcases hk with ⟨k,rfl⟩|rfl<;>rfl),?_⟩
  simp only [Bool.false_eq_true,if_false,hx]
  rfl
 cases h with
 | @int k a b ht=>exact ha _ ht (.inl ⟨k,rfl⟩)
 | @bool a b ht=>exact ha _ ht (.inr rfl)
theorem wY {t:TypeId} {fs:Array Field} (ht:prog.underlying t=some (.struct fs)) (hsi:prog.stoodInHeld t=false) {cs ds:Array Value} (e:Field->Bool)
  (hall:∀f∈fs.toList,f.name≠ "_"/\∃v w,cs[f.offset]? =some v/\ds[f.offset]? =some w/\Scl f.type v w (e f)) (F:PH):
  rdo prog (Op.equal t (.agg cs) (.agg ds)) F (fs.toList.all e):=by
 unfold Op.equal Op.maxDepth
 show rdo prog (Op.equalIn (9998+1+1) t _ _) _ _
 unfold Op.equalIn
 simp only [ak]
 refine ⟨_,(av ht _).2 rfl,?_⟩
 dsimp only
 rw [ak]
 refine ⟨prog,rfl,?_⟩
 rw [hsi]
 simp only [Bool.false_eq_true,if_false]
 rw [<- Array.forIn_toList,ak]
 refine ⟨_,yM _ e _ fun f hf=> ?_,?_⟩
 ·obtain ⟨h1,v,w,h2,h3,h4⟩:=hall f hf
  rw [if_pos h1]
  simp only [ak]
  refine ⟨_,h4.part h2 F,_,h4.part h3 F,_,h4.eq 9998 F,?_⟩
  cases e f<;>rfl
 ·cases fs.toList.all e<;>rfl
theorem Pt (x y:Sy) (F:PH):rdo prog (Op.equal 69 (.agg x.arr) (.agg y.arr)) F (decide (x=y)):=by
 have h:=wY (t:=69) underlying69 (by kernel_rfl) (cs:=x.arr) (ds:=y.arr) (fun f=>if f.offset=0 then decide (x.t=y.t) else decide (x.i=y.i)) (fun f hf=>by
  simp only [List.mem_cons,List.not_mem_nil,or_false] at hf
  rcases hf with rfl|rfl
  ·exact ⟨by decide,_,_,rfl,rfl,.bool underlying4⟩
  ·exact ⟨by decide,_,_,rfl,rfl,.int underlying3⟩) F
 refine cast ?_ h
 congr 1
 cases x;cases y
 rw [Bool.eq_iff_iff]
 simp [Sy.mk.injEq]
abbrev Sco.arr (s:Sco):Array Value:= #[.bool s.o,vi s.d,vi s.k,vi s.u,vi s.a]
theorem J1 (x y:Sco) (F:PH):rdo prog (Op.equal 65 (.agg x.arr) (.agg y.arr)) F (decide (x=y)):=by
 have h:=wY (t:=65) underlying65 (by kernel_rfl) (cs:=x.arr) (ds:=y.arr)
  (fun f=>if f.offset=0 then decide (x.o=y.o) else if f.offset=1 then decide (x.d=y.d) else if f.offset=2 then decide (x.k=y.k) else if f.offset=3 then decide (x.u=y.u) else decide (x.a=y.a)) (fun f hf=>by
  simp only [List.mem_cons,List.not_mem_nil,or_false] at hf
  rcases hf with rfl|rfl|rfl|rfl|rfl
  ·exact ⟨by decide,_,_,rfl,rfl,.bool underlying4⟩
  all_goals exact ⟨by decide,_,_,rfl,rfl,.int underlying3⟩) F
 refine cast ?_ h
 congr 1
 cases x;cases y
 rw [Bool.eq_iff_iff]
 simp [Sco.mk.injEq]
def iv (g:Gr) (s:Sy):Prop:=0<=s.i/\(s.t=false->s.i<g.nons.length)/\(s.t=true->∃t,g.toks[s.i.toNat]? =some t/\t.cls=0)
instance (g:Gr) (s:Sy):Decidable (iv g s):=by
 have:Decidable (∃t,g.toks[s.i.toNat]? =some t/\t.cls=0):=by
  cases h:g.toks[s.i.toNat]? with
  |none=>exact isFalse fun ⟨t,h1,_⟩=>by cases h1
  |some t=>exact decidable_of_iff (t.cls=0) ⟨fun e=>⟨t,rfl,e⟩,fun ⟨u,h1,h2⟩=>by cases h1;exact h2⟩
 unfold iv
 exact inferInstance
theorem wZ {F:PH} {v:Array Value} {g:Gr} (hg:GV F v g) (x:Sy):ae prog 153 #[.agg v,.agg x.arr] F fun r F'=>r=.bool (decide (iv g x))/\F.le F':=by
 obtain ⟨c,n,t,s,p,l,f,rfl,hs⟩:=hg
 refine Rn ?_
 unfold KZ
 refine fresh fun b2 F1 l1 q1 _=> ?_
 refine fresh fun b3 F2 l2 q2 _=> ?_
 replace q1:=l2 _ _ q1
 replace l1:=aa l1 l2
 have es:=hs.s.len (by decide)
 have et:=hs.t.len (by decide)
 obtain ⟨xt,xi⟩:=x
 have no:¬iv g ⟨xt,xi⟩->(Value.bool false=.bool (decide (iv g ⟨xt,xi⟩))/\F.le F2):=fun h=>⟨by rw [decide_eq_false h],l1⟩
 refine ⟨_,ld q2 rfl,fun h=>⟨_,ld q2 rfl,fun h0=>⟨_,ld q2 rfl,_,ld q1 rfl,?_,l1⟩,fun h0=>no fun hp=>h0 hp.1⟩,fun h=>⟨_,ld q2 rfl,fun h0=>⟨_,ld q2 rfl,_,ld q1 rfl,fun h1=>⟨_,ld q1 rfl,_,ld q2 rfl,?_⟩,fun h1=>no fun hp=> ?_⟩,fun h0=>no fun hp=>h0 hp.1⟩⟩
 ·have h:xt=false:=by simpa using h
  subst h
  congr 1
  rw [Bool.eq_iff_iff,decide_eq_true_eq,decide_eq_true_eq]
  exact ⟨fun h1=>⟨h0,fun _=>by dsimp only at h1 ⊢;omega,fun h=>(by cases h)⟩,fun hp=>by have:=hp.2.1 rfl;dsimp only at this ⊢;omega⟩
 ·have h:xt=true:=by simpa using h
  subst h
  refine ixc (hs.t.le l1) (by decide) h0 h1 fun a cc y hy hr hc=> ?_
  obtain ⟨pp,nn,rfl,_,_⟩:=hc
  refine ⟨_,aD hr rfl,?_,l1⟩
  congr 1
  rw [Bool.eq_iff_iff,decide_eq_true_eq,decide_eq_true_eq]
  exact ⟨fun h1=>⟨h0,fun h=>(by cases h),fun _=>⟨y,hy,h1⟩⟩,fun hp=>by
   obtain ⟨z,hz,h2⟩:=hp.2.2 rfl
   rw [hy] at hz
   cases hz
   exact h2⟩
 ·have h:xt=true:=by simpa using h
  subst h
  obtain ⟨z,hz,_⟩:=hp.2.2 rfl
  have:=(List.getElem?_eq_some_iff.1 hz).1
  dsimp only at this h1
  omega
def cD (r:List Sy) (k v lo hi:Int):Prop:=(k=0/\v=0)\/(0<k/\k<=r.length/\(∃s,r[(k - 1).toNat]? =some s/\s.t=true)/\lo<=v/\v<=hi)
def kR (r:List Sy) (x:Cn):Prop:=1<=x.k/\x.k<=4/\0<=x.a/\x.a<r.length/\0<=x.b/\x.b<r.length/\(x.k=1->x.b=0)
def qo:Sco:=⟨false,0,0,0,0⟩
def w7 (p:Pr):Prop:=p.right.length=3/\p.rank=0/\p.lay=[]/\p.sco=qo/\(∃s,p.right[0]? =some s/\s.t=true)/\p.right[1]? =some ⟨false,p.left⟩/\(∃s,p.right[2]? =some s/\s.t=true)
def kS (p:Pr):Prop:=(∀x∈p.lay,kR p.right x)/\cD p.right p.sco.d p.sco.k 1 7/\cD p.right p.sco.u p.sco.a 0 255/\(p.brk=true->w7 p)
open Classical in
theorem qp {F:PH} {b:Nat} {x:Pr} {r n l:Sl} (hr:RL F r x.right) (q:F b=some (.cells (x.arr r n l) 67)) (k v lo hi:Int) (hk:x.right.length<=16):
  ae prog 208 #[vi k,vi v,vi lo,vi hi,.pointer (some ⟨b,0,none⟩)] F fun res F'=>res=.bool (decide (cD x.right k v lo hi))/\F.le F':=by
 refine R2 ?_
 unfold LB
 have er:=hr.len (by decide)
 have no:¬cD x.right k v lo hi->(Value.bool false=.bool (decide (cD x.right k v lo hi))/\F.le F):=fun h=>⟨by rw [decide_eq_false h],le_refl' F⟩
 have hcell:F.cell (Addr.add (Addr.mk b 0 none) 2)=some r.v:=by rw [aK];exact ld q rfl
 refine ⟨fun h0=>⟨?_,le_refl' F⟩,fun h0=>⟨fun h1=>⟨_,rfl,_,hcell,fun h2=>⟨_,hcell,?_⟩,fun h2=>no ?_⟩,fun h1=>no ?_⟩⟩
 ·congr 1
  rw [Bool.eq_iff_iff,decide_eq_true_eq,decide_eq_true_eq]
  exact ⟨fun h=> .inl ⟨h0,h⟩,fun h=>h.elim (fun h=>h.2) fun h=>by omega⟩
 ·have ew:IntKind.i64.wrap (k - 1)=k - 1:=aN (by omega) (by omega)
  rw [ew]
  refine ixc hr (by decide) (by omega) (by omega) fun a c s hs hrow hc=> ?_
  rw [show c=s.arr from hc] at hrow
  refine ⟨_,aF hrow rfl,fun ht=>⟨fun h3=>⟨?_,le_refl' F⟩,fun h3=>no ?_⟩,fun ht=>no ?_⟩
  ·congr 1
   rw [Bool.eq_iff_iff,decide_eq_true_eq,decide_eq_true_eq]
   exact ⟨fun h=> .inr ⟨h1,by omega,⟨s,hs,ht⟩,h3,h⟩,fun h=>h.elim (fun h=>by omega) fun h=>h.2.2.2.2⟩
  ·rintro (h|h)
   ·omega
   ·exact h3 h.2.2.2.1
  ·rintro (h|h)
   ·omega
   ·obtain ⟨s',hs',ht'⟩:=h.2.2.1
    rw [hs] at hs'
    cases hs'
    rw [ht] at ht'
    cases ht'
 ·rintro (h|h)
  ·omega
  ·omega
 ·rintro (h|h)
  ·omega
  ·omega
theorem qq {F:PH} {b:Nat} {x:Pr} {r n l:Sl} (hr:RL F r x.right) (q:F b=some (.cells (x.arr r n l) 67)) (i:Int):
  ae prog 207 #[vi i,.pointer (some ⟨b,0,none⟩)] F fun res F'=>res=.bool (decide (0<=i/\i<x.right.length))/\F.le F':=by
 refine R1 ?_
 unfold LA
 have er:=hr.len (by decide)
 have hcell:F.cell (Addr.add (Addr.mk b 0 none) 2)=some r.v:=by rw [aK];exact ld q rfl
 refine ⟨fun h=>⟨_,rfl,_,hcell,?_,le_refl' F⟩,fun h=>⟨?_,le_refl' F⟩⟩
 ·congr 1
  rw [Bool.eq_iff_iff,decide_eq_true_eq,decide_eq_true_eq]
  omega
 ·rw [decide_eq_false (fun hn=>h hn.1)]
open Classical in
theorem uy {F:PH} {v:Array Value} {x:Pr} (hp:Mem.rep F x v) (h1:x.right.length<=16) (h2:x.lay.length<=16):ae prog 155 #[.agg v] F fun r F'=>r=.bool (decide (kS x))/\F.le F':=by
 obtain ⟨r,n,l,rfl,hr,hn,hl⟩:=hp
 have er:=hr.len (by decide)
 have el:=hl.len (by decide)
 refine Ro ?_
 unfold K9
 refine fresh fun b1 F1 l1 q1 _=>⟨_,ld q1 rfl,?_⟩
 replace hr:=hr.le l1
 replace hl:=hl.le l1
 have no:∀{F':PH},F1.le F'->¬kS x->(Value.bool false=.bool (decide (kS x))/\F.le F'):=fun {F'} l h=>⟨by rw [decide_eq_false h],aa l1 l⟩
 refine bj (uT · b1 l _) x.lay.length (fun k F'=>F1.le F'/\∀y∈x.lay.take k,kR x.right y) ⟨le_refl' _,by simp⟩ ?_
 rintro k F2 N hk ⟨l2,hi⟩ next
 unfold uT
 refine ⟨fun hlt=> ?_,fun hge=> ?_⟩
 ·have hlt:k<x.lay.length:=by omega
  refine ixc (hl.le l2) (by decide) (by omega) (by omega) fun a c y hy hrow hc=> ?_
  rw [show c=y.arr from hc] at hrow
  rw [Int.toNat_natCast] at hy hrow
  have hym:y∈x.lay:=List.mem_of_getElem? hy
  refine ⟨_,rfl,hrow,?_⟩
  refine (St.start F2).new fun b4 F3 h=> ?_
  refine h.put0 (w':=y.arr) rfl rfl (by simp [ai]) fun F4 h=> ?_
  obtain ⟨_,_,q4,h⟩:∃G',F2.le G'/\G' b4=some (.cells y.arr 101)/\G'.le F4:=h.pinb (K:=fun F4=>∃G',F2.le G'/\G' b4=some (.cells y.arr 101)/\G'.le F4) fun G' l q h=>⟨G',l,q,h.le⟩
  have l4:F2.le F4:=aa ‹F2.le _› h
  replace q4:=h _ _ q4
  replace l4:=aa l2 l4
  have good:kR x.right y->∀F5,F1.le F5->oq N b1 l (k:Int) (fun r F'=>r=.bool (decide (kS x))/\F.le F') F5:=fun hg F5 l5=>by
   unfold oq
   rw [aB hlt (by omega)]
   refine next _ hlt ⟨l5,fun z hz=> ?_⟩
   rw [aI hy] at hz
   rcases List.mem_append.1 hz with hz|hz
   ·exact hi z hz
   ·rw [List.mem_singleton.1 hz];exact hg
  have bad:∀{F':PH},F1.le F'->¬kR x.right y->(Value.bool false=.bool (decide (kS x))/\F.le F'):=fun {F'} l h=>no l fun hd=>h (hd.1 y hym)
  refine ⟨_,ld q4 rfl,fun h=>bad l4 fun hp=>by have:=hp.1;omega,fun k1=>⟨_,ld q4 rfl,fun h=>bad l4 fun hp=>by have:=hp.2.1;omega,fun k2=>⟨_,ld q4 rfl,?_⟩⟩⟩
  refine (qq (hr.le l4) (l4 _ _ q1) y.a).mono ?_
  rintro _ F5 ⟨rfl,l5⟩
  refine ⟨_,rfl,fun h=>bad (aa l4 l5) fun hp=> ?_,fun k3=>⟨_,ld (l5 _ _ q4) rfl,?_⟩⟩
  ·rw [decide_eq_true ⟨hp.2.2.1,hp.2.2.2.1⟩] at h;cases h
  refine (qq (hr.le (aa l4 l5)) (l5 _ _ (l4 _ _ q1)) y.b).mono ?_
  rintro _ F6 ⟨rfl,l6⟩
  have l46:=aa l4 (aa l5 l6)
  have q6:=l6 _ _ (l5 _ _ q4)
  refine ⟨_,rfl,fun h=>bad l46 fun hp=> ?_,fun k4=>⟨_,ld q6 rfl,fun k5=>⟨_,ld q6 rfl,fun k6=>bad l46 fun hp=>k6 (hp.2.2.2.2.2.2 k5),fun k6=>good ?_ _ l46⟩,fun k5=>good ?_ _ l46⟩⟩
  ·rw [decide_eq_true ⟨hp.2.2.2.2.1,hp.2.2.2.2.2.1⟩] at h;cases h
  ·simp at k3 k4
   exact ⟨by omega,by omega,k3.1,k3.2,k4.1,k4.2,fun _=>by omega⟩
  ·simp at k3 k4
   exact ⟨by omega,by omega,k3.1,k3.2,k4.1,k4.2,fun h=>absurd h k5⟩
 ·have e:k=x.lay.length:=by omega
  subst e
  rw [List.take_length] at hi
  unfold Bx
  refine ⟨x.sco.arr,rfl,dP (l2 _ _ q1) rfl,?_⟩
  refine (St.start F2).new fun b7 F3 h=> ?_
  refine h.put0 (w':=x.sco.arr) rfl rfl (by simp [ai]) fun F4 h=> ?_
  obtain ⟨_,_,q4,h⟩:∃G',F2.le G'/\G' b7=some (.cells x.sco.arr 65)/\G'.le F4:=h.pinb (K:=fun F4=>∃G',F2.le G'/\G' b7=some (.cells x.sco.arr 65)/\G'.le F4) fun G' l q h=>⟨G',l,q,h.le⟩
  have l4:F2.le F4:=aa ‹F2.le _› h
  replace q4:=h _ _ q4
  replace l4:=aa l2 l4
  refine ⟨_,ld q4 rfl,_,ld q4 rfl,?_⟩
  refine (qp (hr.le l4) (l4 _ _ q1) x.sco.d x.sco.k 1 7 h1).mono ?_
  rintro _ F5 ⟨rfl,l5⟩
  refine ⟨_,rfl,fun h=>no (aa l4 l5) fun hp=> ?_,fun k3=>⟨_,ld (l5 _ _ q4) rfl,_,ld (l5 _ _ q4) rfl,?_⟩⟩
  ·rw [decide_eq_true hp.2.1] at h;cases h
  refine (qp (hr.le (aa l4 l5)) (l5 _ _ (l4 _ _ q1)) x.sco.u x.sco.a 0 255 h1).mono ?_
  rintro _ F6 ⟨rfl,l6⟩
  have l46:=aa l4 (aa l5 l6)
  have q6:=l6 _ _ (l5 _ _ q4)
  have p1:=l46 _ _ q1
  refine ⟨_,rfl,fun h=>no l46 fun hp=> ?_,fun k4=> ?_⟩
  ·rw [decide_eq_true hp.2.2.1] at h;cases h
  have k3:cD x.right x.sco.d x.sco.k 1 7:=by simpa using k3
  have k4:cD x.right x.sco.u x.sco.a 0 255:=by simpa using k4
  refine ⟨_,ld p1 rfl,fun hb=>⟨?_,aa l1 l46⟩,fun hb=> ?_⟩
  ·rw [decide_eq_true ⟨hi,k3,k4,fun h=>by rw [h] at hb;cases hb⟩]
  have hb:x.brk=true:=by simpa using hb
  have nob:¬w7 x->(Value.bool false=.bool (decide (kS x))/\F.le F6):=fun h=>no l46 fun hp=>h (hp.2.2.2 hb)
  refine ⟨_,ld p1 rfl,fun h=>nob fun hp=>h (by have:=hp.1;omega),fun k5=>⟨_,ld p1 rfl,fun h=>nob fun hp=>h hp.2.1,fun k6=>⟨_,ld p1 rfl,fun h=>nob fun hp=> ?_,fun k7=>⟨_,rfl,aj q6,_,fun F=>J1 x.sco qo F,fun h=>nob fun hp=> ?_,fun k8=> ?_⟩⟩⟩⟩
  ·have:=hp.2.2.1
   rw [this] at el
   simp at el
   omega
  ·rw [decide_eq_true hp.2.2.2.1] at h;cases h
  have k8:x.sco=qo:=by simpa using k8
  have hr6:=hr.le l46
  refine ⟨_,ld p1 rfl,ixc hr6 (by decide) (by omega) (by omega) fun a c y hy hrow hc=> ?_⟩
  rw [show c=y.arr from hc] at hrow
  refine ⟨_,aF hrow rfl,fun k9=>⟨_,ld p1 rfl,ixc hr6 (by decide) (by omega) (by omega) fun a c z hz hrow hc=> ?_⟩,fun k9=>nob fun hp=> ?_⟩
  ·rw [show c=z.arr from hc] at hrow
   refine ⟨_,rfl,hrow,_,ld p1 rfl,_,fun F=>Pt z ⟨false,x.left⟩ F,fun k10=>⟨_,ld p1 rfl,ixc hr6 (by decide) (by omega) (by omega) fun a c w hw hrow hc=> ?_⟩,fun k10=>nob fun hp=> ?_⟩
   ·rw [show c=w.arr from hc] at hrow
    refine ⟨_,aF hrow rfl,?_,aa l1 l46⟩
    have k10:z=⟨false,x.left⟩:=by simpa using k10
    subst k10
    congr 1
    cases hwt:w.t with
    |true=>
     refine (decide_eq_true ⟨hi,k3,k4,fun _=>⟨by omega,Classical.not_not.1 k6,?_,k8,⟨y,hy,k9⟩,hz,⟨w,hw,hwt⟩⟩⟩).symm
     exact List.eq_nil_of_length_eq_zero (by omega)
    |false=>
     refine (decide_eq_false fun hp=> ?_).symm
     obtain ⟨s,hs,hst⟩:=(hp.2.2.2 hb).2.2.2.2.2.2
     rw [show x.right[2]? =some w from hw] at hs
     cases hs
     rw [hwt] at hst
     cases hst
   ·have e:some z=_:=hz.symm.trans hp.2.2.2.2.2.1
    cases e
    simp at k10
  ·obtain ⟨s,hs,hst⟩:=hp.2.2.2.2.1
   have e:some y=_:=hy.symm.trans hs
   cases e
   rw [k9] at hst
   cases hst
end Go.Proofs.YtenpmjhnhepfdaaGreatDoor
