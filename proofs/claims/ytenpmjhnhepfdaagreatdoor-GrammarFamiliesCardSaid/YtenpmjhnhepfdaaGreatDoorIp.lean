/-
  Made grammars as plain data; their sizes.
-/
import Derived.Test.YtenpmjhnhepfdaaGreatDoorIm
namespace Go.Proofs.YtenpmjhnhepfdaaGreatDoor
open Go Go.Proofs.Tryz Tr
set_option maxRecDepth 10000
structure Ru where
 kind:Nat
 a:Nat
 b:Nat
 c:Nat
 cond:Nat
instance:Mem Ru where
 n:=5
 rep _ x c:=c= #[vB x.kind,vB x.a,vB x.b,vB x.c,vB x.cond]∧x.kind<256∧x.a<256∧x.b<256∧x.c<256∧x.cond<256
 len h:=by obtain ⟨rfl,_⟩:=h;rfl
 le _ h:=h
 st h:=by obtain ⟨rfl,_⟩:=h;simp [ak]
noncomputable abbrev ruD (g:Gr) (x:Ru):Dia:=dia (gN x.cond g.conds.length)
open Classical in
noncomputable def jb (g:Gr) (x:Fi):Gr:=if bK g x then {g with fils:=g.fils++[x]} else g
noncomputable def lP (g:Gr) (x:Ru):Gr:=
 if ((x.a % g.prods.length:Nat):Int)∈g.lvs.flatMap Lv.ps then g
 else {g with lvs:=g.lvs++[⟨((x.a % g.prods.length:Nat):Int)::(if x.b % g.prods.length≠x.a % g.prods.length∧((x.b % g.prods.length:Nat):Int) ∉ g.lvs.flatMap Lv.ps then [((x.b % g.prods.length:Nat):Int)] else []),((x.c % 4:Nat):Int),ruD g x⟩]}
noncomputable def tokG (g:Gr) (x:Ru):Gr:={g with toks:=g.toks.modify (x.a % 9) fun t=>{t with cond:=ruD g x}}
noncomputable def ruleG (g:Gr) (x:Ru):Gr:=
 if x.kind % 8<2 then lP g x
 else if x.kind % 8<4 then jb g ⟨((x.kind % 8 - 1:Nat):Int),((x.a % g.prods.length:Nat):Int),((x.c % 16:Nat):Int),((x.b % g.prods.length:Nat):Int),0,0,[],ruD g x⟩
 else if x.kind % 8<6 then jb g ⟨((x.kind % 8 - 1:Nat):Int),0,0,0,((x.a % g.nons.length:Nat):Int),0,[((x.b % 9:Nat):Int)],ruD g x⟩
 else if x.kind % 8=6 then jb g ⟨5,0,0,0,0,0,[5],ruD g x⟩
 else tokG g x
theorem dh.sz {α:Type} [Mem α] {F:PH} {l:List α} {vs:List (Array Value)} (h:dh F l vs):∀d∈vs,d.size=Mem.n α:=by
 induction h with
 |nil=>intro d hd;cases hd
 |cons h _ ih=>
  intro d hd
  rcases List.mem_cons.1 hd with rfl|hd
  ·exact Mem.len h
  ·exact ih d hd
structure RK (F G:PH) (b3 b5:Nat) (g:Gr) (x:Ru) (c n t s p l f m:Sl):Prop where
 lF:F.le G
 q3:G b3=some (.cells #[vB x.kind,vB x.a,vB x.b,vB x.c,vB x.cond] 113)
 q5:G b5=some (.cells #[m.v,vi (ruD g x).2] 33)
 gs:GS G g c n t s p l f
 m:RL G m (ruD g x).1
theorem RK.le {F G G':PH} {b3 b5:Nat} {g:Gr} {x:Ru} {c n t s p l f m:Sl} (h:RK F G b3 b5 g x c n t s p l f m) (hl:G.le G'):RK F G' b3 b5 g x c n t s p l f m:=
 ⟨aa h.lF hl,hl _ _ h.q3,hl _ _ h.q5,h.gs.le hl,h.m.le hl⟩
theorem RK.gv {F G:PH} {b3 b5:Nat} {g:Gr} {x:Ru} {c n t s p l f m:Sl} (h:RK F G b3 b5 g x c n t s p l f m):GV G (g.arr c n t s p l f) g:=⟨c,n,t,s,p,l,f,rfl,h.gs⟩
section
variable {F G F1:PH} {b2 b3 b4 b5 b7 b8:Nat} {g g':Gr} {x:Ru} {c n t s p l f m:Sl}
theorem gL {w:Array Value} (hF:F.le G) (hg:GV G w g') (st:St G F1 [pt b4 (.cells zG 39),pt b2 (.cells w 39)]):
  ∃v:Array Value,v.size=9∧F1.row (Addr.mk b2 0 none) v∧aB F1 (Addr.mk b4 0 none) 9 v fun F2=>∃v:Array Value,v.size=9∧F2.row (Addr.mk b4 0 none) v∧LR F g' (.agg v) F2:=by
 refine ⟨_,hg.size,st.whole1,?_⟩
 refine st.put0 (w':=w) hg.size rfl hg.st fun F3 h=> ?_
 exact ⟨_,hg.size,h.whole0,⟨_,rfl,hg.le h.le⟩,aa hF h.le⟩
theorem ro {y:Fi} {ty my:Sl} (K:RK F G b3 b5 g x c n t s p l f m) (hf:g.fils.length≤1000000) (h1:y.cond.1.length≤1000000) (h2:y.toks.length≤1000) (ht:RL G ty y.toks) (hm:RL G my y.cond.1)
  (st:St G F1 [pt b7 (.cells (y.arr ty my) 74),pt b4 (.cells zG 39),pt b2 (.cells (g.arr c n t s p l f) 39)]):
  ph b2 b4 b7 (LR F (jb g y)) F1:=by
 obtain ⟨_,_,T⟩:=NM
 unfold ph
 refine ⟨_,rfl,st.whole2,_,rfl,st.whole0,?_⟩
 refine st.runv (uT K.gv ⟨ty,my,rfl,ht,hm⟩ h1 (by omega)) fun G2 F2 l2 st=> ?_
 replace K:=K.le l2
 refine ⟨_,rfl,fun hc=> ?_,fun hc=> ?_⟩
 ·have e:jb g y={g with fils:=g.fils++[y]}:=by unfold jb;rw [if_pos (show bK g y by simpa using hc)]
  rw [e]
  refine ⟨_,st.ld2 rfl,_,rfl,st.whole0,?_⟩
  refine St.grow T st K.gs.f (y:=y) ⟨ty,my,rfl,ht.le l2,hm.le l2⟩ hf rfl (fun G' F' st=>st.whole0) fun s' G' F' l' hs' st=> ?_
  replace K:=K.le l'
  refine st.set2 (w':=Gr.arr {g with fils:=g.fils++[y]} c n t s p l s') (by show 8<9;decide) rfl fun F6 st=> ?_
  unfold lh
  exact gL K.lF ⟨c,n,t,s,p,l,s',rfl,K.gs.c,K.gs.n,K.gs.t,K.gs.s,K.gs.p,K.gs.l,hs'⟩ st.tail
 ·have e:jb g y=g:=by unfold jb;rw [if_neg (show ¬bK g y by simpa using hc)]
  rw [e]
  unfold lh
  exact gL K.lF K.gv st.tail
theorem wD {y:Lv} {sy my:Sl} (K:RK F G b3 b5 g x c n t s p l f m) (hl:g.lvs.length≤1000000) (hy:RL G sy y.ps) (hm:RL G my y.cond.1)
  (st:St G F1 [pt b8 (.cells (y.arr sy my) 72),pt b4 (.cells zG 39),pt b2 (.cells (g.arr c n t s p l f) 39)]):
  sL b2 b4 b8 (LR F {g with lvs:=g.lvs++[y]}) F1:=by
 obtain ⟨_,_,T⟩:=NL
 unfold sL
 refine ⟨_,st.ld2 rfl,_,rfl,st.whole0,?_⟩
 refine St.grow T st K.gs.l (y:=y) ⟨sy,my,rfl,hy,hm⟩ hl rfl (fun G' F' st=>st.whole0) fun s' G' F' l' hs' st=> ?_
 replace K:=K.le l'
 refine st.set2 (w':=Gr.arr {g with lvs:=g.lvs++[y]} c n t s p s' f) (by show 7<9;decide) rfl fun F6 st=> ?_
 unfold lj
 exact gL K.lF ⟨c,n,t,s,p,s',f,rfl,K.gs.c,K.gs.n,K.gs.t,K.gs.s,K.gs.p,hs',K.gs.f⟩ st.tail
end
theorem yF {α:Type} (l:List α) (i:Nat) (f:α→α) {x:α} (hx:l[i]? =some x):l.modify i f=l.set i (f x):=by
 apply List.ext_getElem?
 intro j
 rw [List.getElem?_modify,List.getElem?_set]
 by_cases e:i=j
 ·subst e
  obtain ⟨hlt,rfl⟩:=List.getElem?_eq_some_iff.1 hx
  simp [hlt]
 ·simp [e]
structure RH (g:Gr) (x:Ru):Prop where
 ka:x.kind<256
 a:x.a<256
 b:x.b<256
 c:x.c<256
 pl:g.prods.length≤1000000
 p0:g.prods.length≠0
 nl:g.nons.length≤1000000
 n0:g.nons.length≠0
 tl:g.toks.length≤1000000
 t9:9≤g.toks.length
 ll:g.lvs.length≤1000000
 lp:∀y∈g.lvs,y.ps.length≤1000000
 fl:g.fils.length≤1000000
 dl:(ruD g x).1.length≤1000000
section
variable {F G F1:PH} {b2 b3 b4 b5 b7 b8:Nat} {g g':Gr} {x:Ru} {c n t s p l f m:Sl}
noncomputable abbrev f0 (g:Gr) (x:Ru):Fi:=⟨0,0,0,0,0,0,[],ruD g x⟩
theorem wN {a b:Nat} (ha:a<256):Int.tmod (IntKind.i64.wrap (a:Int)) (b:Int)=((a % b:Nat):Int):=by rw [aJ (by omega) (by omega),fC]
theorem wE (K:RK F G b3 b5 g x c n t s p l f m) (H:RH g x) {q:Bool} (hk:4≤x.kind % 8) (hq:q=true↔(x.kind % 8=4∨x.kind % 8=5))
  (st:St G F1 [pt b7 (.cells ((f0 g x).arr Sl.nil m) 74),pt b4 (.cells zG 39),pt b2 (.cells (g.arr c n t s p l f) 39)]):
  sN b2 b3 b4 b5 b7 (x.kind:Int) q (LR F (ruleG g x)) F1:=by
 have es:=K.gs.s.len (by decide)
 have et:=K.gs.t.len (by decide)
 have e8:Int.tmod (x.kind:Int) 8=((x.kind % 8:Nat):Int):=fC x.kind 8
 have ka:=H.ka
 unfold sN
 refine ⟨fun h1=> ?_,fun h1=> ?_⟩
 ·have hk45:=hq.1 h1
  have e:ruleG g x=jb g ⟨((x.kind % 8 - 1:Nat):Int),0,0,0,((x.a % g.nons.length:Nat):Int),0,[((x.b % 9:Nat):Int)],ruD g x⟩:=by unfold ruleG;rw [if_neg (by omega),if_neg (by omega),if_pos (by omega)]
  rw [e]
  refine ⟨_,ld (st.le _ _ K.q3) rfl,?_⟩
  dsimp only
  rw [e8,show IntKind.i64.wrap ((x.kind % 8:Nat):Int)=((x.kind % 8:Nat):Int) from aJ (by omega) (by omega),show IntKind.i64.wrap ((3:Int)+((x.kind % 8:Nat):Int))=(3:Int)+((x.kind % 8:Nat):Int) from aJ (by omega) (by omega),show IntKind.i64.wrap ((3:Int)+((x.kind % 8:Nat):Int) - 4)=((x.kind % 8 - 1:Nat):Int) by rw [aJ (by omega) (by omega)];omega]
  refine st.set0 (w':=Fi.arr ⟨((x.kind % 8 - 1:Nat):Int),0,0,0,0,0,[],ruD g x⟩ Sl.nil m) (by show 0<9;decide) rfl fun F2 st=> ?_
  refine ⟨_,ld (st.le _ _ K.q3) rfl,_,st.ld2 rfl,by have:=H.n0;omega,?_⟩
  rw [es,wN H.a]
  refine st.set0 (w':=Fi.arr ⟨((x.kind % 8 - 1:Nat):Int),0,0,0,((x.a % g.nons.length:Nat):Int),0,[],ruD g x⟩ Sl.nil m) (by show 4<9;decide) rfl fun F3 st=> ?_
  refine ⟨_,ld (st.le _ _ K.q3) rfl,?_⟩
  dsimp only
  rw [show Int.tmod (IntKind.i64.wrap (x.b:Int)) (9:Int)=((x.b % 9:Nat):Int) from wN (b:=9) H.b]
  refine st.newG fun b137 G2 F4 l2 q _ st=> ?_
  refine st.set0 (w':=Fi.arr ⟨((x.kind % 8 - 1:Nat):Int),0,0,0,((x.a % g.nons.length:Nat):Int),0,[((x.b % 9:Nat):Int)],ruD g x⟩ (Sl.mk (some (Addr.mk b137 0 none)) 1 1) m) (by show 6<9;decide) rfl fun F5 st=> ?_
  exact ro (y:=⟨((x.kind % 8 - 1:Nat):Int),0,0,0,((x.a % g.nons.length:Nat):Int),0,[((x.b % 9:Nat):Int)],ruD g x⟩) (K.le l2) H.fl H.dl (by simp) (dq q) (K.m.le l2) st
 ·have hn45:¬(x.kind % 8=4∨x.kind % 8=5):=fun h=>by rw [hq.2 h] at h1;cases h1
  rw [e8]
  refine ⟨fun h6=> ?_,fun h6=> ?_⟩
  ·have e:ruleG g x=jb g ⟨5,0,0,0,0,0,[5],ruD g x⟩:=by unfold ruleG;rw [if_neg (by omega),if_neg (by omega),if_neg (by omega),if_pos (by omega)]
   rw [e]
   refine st.set0 (w':=Fi.arr ⟨5,0,0,0,0,0,[],ruD g x⟩ Sl.nil m) (by show 0<9;decide) rfl fun F2 st=> ?_
   refine st.newG fun b142 G2 F4 l2 q _ st=> ?_
   refine st.set0 (w':=Fi.arr ⟨5,0,0,0,0,0,[5],ruD g x⟩ (Sl.mk (some (Addr.mk b142 0 none)) 1 1) m) (by show 6<9;decide) rfl fun F5 st=> ?_
   exact ro (y:=⟨5,0,0,0,0,0,[5],ruD g x⟩) (K.le l2) H.fl H.dl (by simp) (dq q) (K.m.le l2) st
  ·have e:ruleG g x=tokG g x:=by unfold ruleG;rw [if_neg (by omega),if_neg (by omega),if_neg (by omega),if_neg (by omega)]
   rw [e]
   obtain ⟨_,_,T⟩:=Jg
   have ht9:=H.t9
   have htl:=H.tl
   have h9:x.a % 9<9:=Nat.mod_lt _ (by decide)
   obtain ⟨vs,hr,hrd⟩:=K.gs.t
   have hx:=List.getElem?_eq_getElem (show x.a % 9<g.toks.length by omega)
   generalize g.toks[x.a % 9]=y at hx
   obtain ⟨w,hw1,hw2,_⟩:=hr.get hx
   refine st.new fun b29 F2 st=> ?_
   have st:=st.imp (A':=own (Sl.mk (some (Addr.mk b29 0 none)) 0 0) 79 7 []) 0 rfl fun H _ hH=>kL hH
   refine ⟨_,st.ld3 rfl,?_⟩
   refine St.app0 T st (hrd.le st.le) hr.st (by show 0+t.len≤_;omega) fun s1 F3 st hl1=> ?_
   rw [List.nil_append] at st
   refine ⟨_,ld (st.le _ _ K.q3) rfl,_,rfl,aj (st.le _ _ K.q5),?_⟩
   rw [show Int.tmod (IntKind.i64.wrap (x.a:Int)) (9:Int)=((x.a % 9:Nat):Int) from wN (b:=9) H.a]
   refine st.elN 0 rfl hr.sz hw1 (by decide) rfl (by show 5+2≤7;decide) (by simp [ak,Sl.v]) fun F4 st=> ?_
   obtain ⟨pp,nn,rfl,hp1,hp2⟩:=hw2
   have hy':Mem.rep G {y with cond:=ruD g x} (wr (y.arr pp nn) 5 (#[m.v,vi (ruD g x).2]:Array Value).toList):=⟨pp,m,rfl,hp1,K.m⟩
   refine st.pinOwn (K:=fun F4=>sto F4 (Addr.mk b2 3 none) (Sl.v s1) _) fun G5 l5 hrd5 st=> ?_
   replace K:=K.le l5
   have hs1:RL G5 s1 (tokG g x).toks:=by
    show RL G5 s1 (g.toks.modify (x.a % 9) fun t=>{t with cond:=ruD g x})
    rw [yF _ _ _ hx]
    exact ⟨_,(hr.set hy').le l5,hrd5⟩
   refine st.set2 (w':=Gr.arr (tokG g x) c n s1 s p l f) (by show 3<9;decide) rfl fun F6 st=> ?_
   exact gL (g':=tokG g x) K.lF ⟨c,n,s1,s,p,l,f,rfl,K.gs.c,K.gs.n,hs1,K.gs.s,K.gs.p,K.gs.l,K.gs.f⟩ st.tail
theorem wF (K:RK F G b3 b5 g x c n t s p l f m) (H:RH g x) {q:Bool} (hk:2≤x.kind % 8) (hq:q=true↔(x.kind % 8=2∨x.kind % 8=3))
  (st:St G F1 [pt b7 (.cells ((f0 g x).arr Sl.nil m) 74),pt b4 (.cells zG 39),pt b2 (.cells (g.arr c n t s p l f) 39)]):
  sO b2 b3 b4 b5 (x.a:Int) p b7 (x.kind:Int) q (LR F (ruleG g x)) F1:=by
 have ep:=K.gs.p.len (by decide)
 have e8:Int.tmod (x.kind:Int) 8=((x.kind % 8:Nat):Int):=fC x.kind 8
 have ka:=H.ka
 unfold sO
 refine ⟨fun h1=> ?_,fun h1=> ?_⟩
 ·have hk23:=hq.1 h1
  have e:ruleG g x=jb g ⟨((x.kind % 8 - 1:Nat):Int),((x.a % g.prods.length:Nat):Int),((x.c % 16:Nat):Int),((x.b % g.prods.length:Nat):Int),0,0,[],ruD g x⟩:=by unfold ruleG;rw [if_neg (by omega),if_pos (by omega)]
  rw [e]
  refine ⟨_,ld (st.le _ _ K.q3) rfl,?_⟩
  dsimp only
  rw [e8,show IntKind.i64.wrap ((x.kind % 8:Nat):Int)=((x.kind % 8:Nat):Int) from aJ (by omega) (by omega),show IntKind.i64.wrap ((1:Int)+((x.kind % 8:Nat):Int))=(1:Int)+((x.kind % 8:Nat):Int) from aJ (by omega) (by omega),show IntKind.i64.wrap ((1:Int)+((x.kind % 8:Nat):Int) - 2)=((x.kind % 8 - 1:Nat):Int) by rw [aJ (by omega) (by omega)];omega]
  refine st.set0 (w':=Fi.arr ⟨((x.kind % 8 - 1:Nat):Int),0,0,0,0,0,[],ruD g x⟩ Sl.nil m) (by show 0<9;decide) rfl fun F2 st=> ?_
  rw [ep,wN H.a]
  refine st.set0 (w':=Fi.arr ⟨((x.kind % 8 - 1:Nat):Int),((x.a % g.prods.length:Nat):Int),0,0,0,0,[],ruD g x⟩ Sl.nil m) (by show 1<9;decide) rfl fun F3 st=> ?_
  refine ⟨_,ld (st.le _ _ K.q3) rfl,?_⟩
  dsimp only
  rw [show Int.tmod (IntKind.i64.wrap (x.c:Int)) (16:Int)=((x.c % 16:Nat):Int) from wN (b:=16) H.c]
  refine st.set0 (w':=Fi.arr ⟨((x.kind % 8 - 1:Nat):Int),((x.a % g.prods.length:Nat):Int),((x.c % 16:Nat):Int),0,0,0,[],ruD g x⟩ Sl.nil m) (by show 2<9;decide) rfl fun F4 st=> ?_
  refine ⟨_,ld (st.le _ _ K.q3) rfl,_,st.ld2 rfl,by have:=H.p0;omega,?_⟩
  rw [ep,wN H.b]
  refine st.set0 (w':=Fi.arr ⟨((x.kind % 8 - 1:Nat):Int),((x.a % g.prods.length:Nat):Int),((x.c % 16:Nat):Int),((x.b % g.prods.length:Nat):Int),0,0,[],ruD g x⟩ Sl.nil m) (by show 3<9;decide) rfl fun F5 st=> ?_
  exact ro (y:=⟨((x.kind % 8 - 1:Nat):Int),((x.a % g.prods.length:Nat):Int),((x.c % 16:Nat):Int),((x.b % g.prods.length:Nat):Int),0,0,[],ruD g x⟩) K H.fl H.dl (by simp) (.nil _) K.m st
 ·have hn23:¬(x.kind % 8=2∨x.kind % 8=3):=fun h=>by rw [hq.2 h] at h1;cases h1
  rw [e8]
  refine ⟨fun h4=>wE K H (by omega) ?_ st,fun h4=>wE K H (by omega) ?_ st⟩
  ·rw [decide_eq_true_eq];omega
  ·rw [decide_eq_true_eq];omega
theorem wG (K:RK F G b3 b5 g x c n t s p l f m) (H:RH g x) {q:Bool} (hq:q=true↔(x.kind % 8=0∨x.kind % 8=1))
  (st:St G F1 [pt b7 (.cells ((f0 g x).arr Sl.nil m) 74),pt b4 (.cells zG 39),pt b2 (.cells (g.arr c n t s p l f) 39)]):
  sP b2 b3 b4 b5 (x.a:Int) p b7 (x.kind:Int) q (LR F (ruleG g x)) F1:=by
 have ep:=K.gs.p.len (by decide)
 have e8:Int.tmod (x.kind:Int) 8=((x.kind % 8:Nat):Int):=fC x.kind 8
 unfold sP
 refine ⟨fun h1=> ?_,fun h1=> ?_⟩
 ·have hk01:=hq.1 h1
  have e:ruleG g x=lP g x:=by unfold ruleG;rw [if_pos (by omega)]
  rw [e,ep,wN H.a]
  refine ⟨_,rfl,st.whole2,?_⟩
  refine st.runv (lq K.gv _ H.ll H.lp) fun G2 F2 l2 st=> ?_
  replace K:=K.le l2
  refine ⟨_,rfl,fun hc=> ?_,fun hc=> ?_⟩
  ·have hna:((x.a % g.prods.length:Nat):Int) ∉ g.lvs.flatMap Lv.ps:=by simpa using hc
   refine st.new fun b52 F3 st=> ?_
   have st:=st.imp (A':=own (Sl.mk (some (Addr.mk b52 0 none)) 1 1) 3 1 [vi ((x.a % g.prods.length:Nat):Int)]) 0 rfl fun H _ hH=> .inr ⟨b52,_,rfl,hH,rfl,Nat.le_refl _,rfl,rfl⟩
   refine ⟨_,ld (st.le _ _ K.q3) rfl,_,rfl,aj (st.le _ _ K.q5),rfl,?_⟩
   rw [show Int.tmod (x.c:Int) (4:Int)=((x.c % 4:Nat):Int) from fC x.c 4,show IntKind.i64.wrap ((x.c % 4:Nat):Int)=((x.c % 4:Nat):Int) from aJ (by omega) (by omega)]
   refine st.new fun b8 F4 st=> ?_
   refine st.put0 (w':=Lv.arr ⟨[((x.a % g.prods.length:Nat):Int)],((x.c % 4:Nat):Int),ruD g x⟩ (Sl.mk (some (Addr.mk b52 0 none)) 1 1) m) rfl rfl (by simp [ak,Sl.v]) fun F5 st=> ?_
   refine ⟨_,ld (st.le _ _ K.q3) rfl,_,st.ld4 rfl,by have:=H.p0;omega,?_⟩
   have j6:∀{G F':PH} {q6:Bool},RK F G b3 b5 g x c n t s p l f m→(q6=true↔(x.b % g.prods.length≠x.a % g.prods.length∧((x.b % g.prods.length:Nat):Int) ∉ g.lvs.flatMap Lv.ps))→
     St G F' [pt b8 (.cells (Lv.arr ⟨[((x.a % g.prods.length:Nat):Int)],((x.c % 4:Nat):Int),ruD g x⟩ (Sl.mk (some (Addr.mk b52 0 none)) 1 1) m) 72),own (Sl.mk (some (Addr.mk b52 0 none)) 1 1) 3 1 [vi ((x.a % g.prods.length:Nat):Int)],pt b7 (.cells ((f0 g x).arr Sl.nil m) 74),pt b4 (.cells zG 39),pt b2 (.cells (g.arr c n t s p l f) 39)]→
     sM b2 b4 b8 (x.b:Int) p q6 (LR F (lP g x)) F':=fun {G F' q6} K hq6 st=>by
    unfold sM
    refine ⟨fun h6=> ?_,fun h6=> ?_⟩
    ·have e2:lP g x={g with lvs:=g.lvs++[⟨[((x.a % g.prods.length:Nat):Int),((x.b % g.prods.length:Nat):Int)],((x.c % 4:Nat):Int),ruD g x⟩]}:=by unfold lP;rw [if_neg hna,if_pos (hq6.1 h6)]
     rw [e2]
     refine ⟨_,st.ld0 rfl,?_⟩
     rw [ep,wN H.b]
     refine st.push1 Jf (c:= #[vi ((x.b % g.prods.length:Nat):Int)]) rfl (by simp [ak]) (by show 1≤400000000000;decide) fun s' G7 F7 l7 st hl7=> ?_
     refine st.set0 (w':=Lv.arr ⟨[((x.a % g.prods.length:Nat):Int),((x.b % g.prods.length:Nat):Int)],((x.c % 4:Nat):Int),ruD g x⟩ s' m) (by show 0<4;decide) rfl fun F8 st=> ?_
     obtain ⟨G9,l9,⟨H9,hA,hH⟩,st⟩:=st.front1.pin
     have hps:RL G9 s' [((x.a % g.prods.length:Nat):Int),((x.b % g.prods.length:Nat):Int)]:=RL.ints.2 ((bR.rd hA).le hH)
     replace K:=K.le (aa l7 l9)
     have st:=st.front1.tail
     exact wD (y:=⟨[((x.a % g.prods.length:Nat):Int),((x.b % g.prods.length:Nat):Int)],((x.c % 4:Nat):Int),ruD g x⟩) K H.ll hps K.m st
    ·have hn6:¬(x.b % g.prods.length≠x.a % g.prods.length∧((x.b % g.prods.length:Nat):Int) ∉ g.lvs.flatMap Lv.ps):=fun h=>by rw [hq6.2 h] at h6;cases h6
     have e2:lP g x={g with lvs:=g.lvs++[⟨[((x.a % g.prods.length:Nat):Int)],((x.c % 4:Nat):Int),ruD g x⟩]}:=by unfold lP;rw [if_neg hna,if_neg hn6]
     rw [e2]
     obtain ⟨G9,l9,⟨H9,hA,hH⟩,st⟩:=st.front1.pin
     have hps:RL G9 (Sl.mk (some (Addr.mk b52 0 none)) 1 1) [((x.a % g.prods.length:Nat):Int)]:=RL.ints.2 ((bR.rd hA).le hH)
     replace K:=K.le l9
     have st:=st.front1.tail
     exact wD (y:=⟨[((x.a % g.prods.length:Nat):Int)],((x.c % 4:Nat):Int),ruD g x⟩) K H.ll hps K.m st
   rw [ep,wN H.b]
   refine ⟨fun hne=>⟨_,rfl,st.whole4,?_⟩,fun heq=>j6 K ?_ st⟩
   ·refine st.runv (lq K.gv _ H.ll H.lp) fun G6 F6 l6 st=> ?_
    refine ⟨_,rfl,j6 (K.le l6) ?_ st⟩
    simp only [Bool.not_eq_true',decide_eq_false_iff_not]
    exact ⟨fun h=>⟨fun e=>hne (by rw [e]),h⟩,fun h=>h.2⟩
   ·have heq:x.b % g.prods.length=x.a % g.prods.length:=by omega
    exact ⟨fun h=>(by cases h),fun h=>absurd heq h.1⟩
  ·have e2:lP g x=g:=by unfold lP;rw [if_pos (by simpa using hc)]
   rw [e2]
   unfold lj
   exact gL K.lF K.gv st.tail
 ·have hn01:¬(x.kind % 8=0∨x.kind % 8=1):=fun h=>by rw [hq.2 h] at h1;cases h1
  rw [e8]
  refine ⟨fun h4=>wF K H (by omega) ?_ st,fun h4=>wF K H (by omega) ?_ st⟩
  ·rw [decide_eq_true_eq];omega
  ·rw [decide_eq_true_eq];omega
end
theorem uR {F:PH} {w v:Array Value} {g:Gr} {x:Ru} (hg:GV F w g) (hx:Mem.rep F x v) (H:RH g x) (hn:g.conds.length≤6):
  ae prog 42 #[.agg w,.agg v] F (LR F (ruleG g x)):=by
 obtain ⟨c,n,t,s,p,l,f,rfl,hs⟩:=hg
 obtain ⟨rfl,hx0,hx1,hx2,hx3,hx4⟩:=hx
 have ec:=hs.c.len (by decide)
 have ep:=hs.p.len (by decide)
 refine OS ?_
 unfold M7
 refine (St.start F).new fun b2 F1 st=> ?_
 refine st.newG fun b3 G1 F2 l1 q3 _ st=> ?_
 refine st.new fun b4 F3 st=> ?_
 refine ⟨_,ld (st.le _ _ q3) rfl,_,st.ld1 rfl,?_⟩
 dsimp only
 rw [ec]
 refine st.run (tG x.cond g.conds.length hx4 hn _) fun _ G2 F4 hr l2 st=> ?_
 obtain ⟨⟨_,rfl,hw⟩,-⟩:=hr
 obtain ⟨m,rfl,hm⟩:=hw.out
 refine ⟨_,rfl,?_⟩
 refine st.var (w:= #[m.v,vi (ruD g x).2]) (by simp [ak,Sl.v]) (fun b5 G3 F5 l3 q5 st=> ?_) rfl rfl
 have l23:=aa l2 l3
 have l13:=aa l1 l23
 have K:RK F G3 b3 b5 g x c n t s p l f m:=⟨l13,l23 _ _ q3,q5,hs.le l13,hm.le l3⟩
 refine ⟨_,ld (st.le _ _ K.q3) rfl,_,st.ld1 rfl,by have:=H.p0;omega,_,rfl,aj (st.le _ _ K.q5),rfl,?_⟩
 refine st.new fun b7 F6 st=> ?_
 refine st.put0 (w':=(f0 g x).arr Sl.nil m) rfl rfl (by simp [ak,Sl.v]) fun F7 st=> ?_
 have e8:Int.tmod (x.kind:Int) 8=((x.kind % 8:Nat):Int):=fC x.kind 8
 refine ⟨_,ld (st.le _ _ K.q3) rfl,?_⟩
 dsimp only
 rw [e8]
 refine ⟨fun h4=>wG K H ?_ st,fun h4=>wG K H ?_ st⟩
 ·rw [decide_eq_true_eq];omega
 ·rw [decide_eq_true_eq];omega
theorem jc (l:List Int) {n:Nat} (hn:n≤6):∀(m v k:Nat),v+m=n→Sx n (dT l m v k)
 |0,v,k,_=>Sx.leaf n _
 |m+1,v,k,h=>by
  unfold dT
  have hv:Sx n (tv v):=Sx.tv (by omega) hn
  exact (hv.ap2 (jc l hn m (v+1) _ (by omega))).ap2 ((jc l hn m (v+1) k (by omega)).ap2 (hv.ap2 (Sx.leaf n true)))
theorem jv {b n:Nat} (hn:n≤6):Sx n (gN b n):=by
 unfold gN
 split
 ·exact Sx.leaf n true
 ·rename_i h
  have hv:b / 6 % n<n:=Nat.mod_lt _ (by omega)
  split
  ·exact Sx.tv hv hn
  ·split
   ·exact (Sx.tv hv hn).ap2 (Sx.leaf n true)
   ·exact jc _ hn n 0 0 (by omega)
theorem Sx.brl {n:Nat} {t:Tr} (h:Sx n t) (hn:n≤6):(dia t).1.length≤63:=by
 have:(dia t).1.length=(aA t).length:=aK _
 rw [this];exact h.len hn
structure Rw where
 base:Nat
 n:Nat
 fam:List Nat
 lines:List Ln
 rules:List Ru
structure yG (F:PH) (v:Array Value) (x:Rw):Prop where
 ex:∃sf sl sr:Sl,v= #[vB x.base,vB x.n,sf.v,sl.v,sr.v]∧RdS F sf 1 (x.fam.map vB)∧RL F sl x.lines∧RL F sr x.rules
 b:x.base<256
 n:x.n<256
theorem yG.le {F G:PH} {v:Array Value} {x:Rw} (h:yG F v x) (hl:F.le G):yG G v x:=by
 obtain ⟨⟨sf,sl,sr,h1,h2,h3,h4⟩,h5,h6⟩:=h
 exact ⟨⟨sf,sl,sr,h1,h2.le hl,h3.le hl,h4.le hl⟩,h5,h6⟩
def cJ (x:Rw):Bool:=decide (x.base % 8<6)
def eg (x:Rw):List ByteArray:=([⟨#[83]⟩,⟨#[80]⟩,⟨#[81]⟩]:List ByteArray).take (1+x.n / 4 % 3)
def gM (x:Rw):List ByteArray:=([⟨#[65]⟩,⟨#[66]⟩,⟨#[67]⟩]:List ByteArray).take (x.n % 4)
noncomputable def fY (x:Rw):Gr:=if cJ x=true then bS (x.base % 8) else {dz (eg x) with conds:=gM x,prods:=[aX ⟨#[102,105,114,115,116]⟩ 0 [⟨true,0⟩]]}
noncomputable def tE (x:Rw) (n:Nat):Tr:=dT (x.fam.map fun k:Nat=>(k:Int)) n 0 0
noncomputable def famG (x:Rw) (g:Gr):Gr:=if x.fam≠[]∧(dia (tE x g.conds.length)).2≠0 then {g with fam:=dia (tE x g.conds.length)} else g
def cx (x:Rw):Nat:=if cJ x=true then 6 else 10
noncomputable def eO (x:Rw) (l:List Ln) (g:Gr):Gr:=l.foldl (fun g y=>lineG g y (cJ x)) g
noncomputable def dP (l:List Ru) (g:Gr):Gr:=l.foldl ruleG g
noncomputable def ln (x:Rw):Gr:=dP (x.rules.take 6) (eO x (x.lines.take (cx x)) (famG x (fY x)))
structure Bd (g:Gr) (np nl:Nat):Prop where
 c:g.conds.length≤3
 n0:g.nons.length≠0
 n:g.nons.length≤3
 p0:g.prods.length≠0
 p:g.prods.length≤np
 t:g.toks.length=11
 l:g.lvs.length≤nl
 lp:∀y∈g.lvs,y.ps.length≤2
 f:g.fils.length≤nl
theorem Al {k:Nat} (hk:k<6):Bd (bS k) 8 4:=by
  have h:k=0∨k=1∨k=2∨k=3∨k=4∨k=5:=by omega
  rcases h with rfl|rfl|rfl|rfl|rfl|rfl
  all_goals
    refine ⟨by decide,by decide,by decide,by decide,by decide,rfl,by decide,fun y hy=> ?_,by decide⟩
    first
      |(have:=hy;cases this;done)
      | (rcases List.mem_cons.1 hy with rfl|hy
         · decide
         rcases List.mem_cons.1 hy with rfl|hy
         · decide
         rcases List.mem_cons.1 hy with rfl|hy
         · decide
         cases hy)
theorem nF (x:Rw):Bd (fY x) 8 4:=by
 unfold fY
 split
 ·rename_i h
  exact Al (of_decide_eq_true h)
 ·have h1:(eg x).length=1+x.n / 4 % 3:=by unfold eg;rw [List.length_take];simp;omega
  have h2:(gM x).length≤3:=by unfold gM;rw [List.length_take];simp;omega
  exact ⟨h2,by show (eg x).length≠0;omega,by show (eg x).length≤3;omega,by show (1:Nat)≠0;decide,by show 1≤8;decide,rfl,by show 0≤4;decide,fun y hy=>(by cases hy),by show 0≤4;decide⟩
theorem An {x:Rw} {g:Gr} {a b:Nat} (h:Bd g a b):Bd (famG x g) a b:=by
 unfold famG
 split
 ·exact ⟨h.c,h.n0,h.n,h.p0,h.p,h.t,h.l,h.lp,h.f⟩
 ·exact h
theorem wH {g:Gr} {a b:Nat} (h:Bd g a b) (y:Ln) (kn:Bool):Bd (lineG g y kn) (a+1) b:=by
 have hp:=h.p
 unfold lineG
 split
 ·exact ⟨h.c,h.n0,h.n,h.p0,by omega,h.t,h.l,h.lp,h.f⟩
 ·exact ⟨h.c,h.n0,h.n,by show (g.prods++_).length≠0;rw [List.length_append];have:=h.p0;omega,by show (g.prods++[_]).length≤_;rw [List.length_append,List.length_singleton];omega,h.t,h.l,h.lp,h.f⟩
theorem uS {g:Gr} {a b:Nat} (h:Bd g a b) (y:Fi):Bd (jb g y) a (b+1):=by
 have hf:=h.f
 have hl:=h.l
 unfold jb
 split
 ·exact ⟨h.c,h.n0,h.n,h.p0,h.p,h.t,by show g.lvs.length≤_;omega,h.lp,by show (g.fils++[_]).length≤_;rw [List.length_append,List.length_singleton];omega⟩
 ·exact ⟨h.c,h.n0,h.n,h.p0,h.p,h.t,by omega,h.lp,by omega⟩
theorem wI {g:Gr} {a b:Nat} (h:Bd g a b) (y:Ru):Bd (ruleG g y) a (b+1):=by
 have hf:=h.f
 have hl:=h.l
 unfold ruleG
 split
 ·unfold lP
  split
  ·exact ⟨h.c,h.n0,h.n,h.p0,h.p,h.t,by omega,h.lp,by omega⟩
  ·refine ⟨h.c,h.n0,h.n,h.p0,h.p,h.t,by show (g.lvs++[_]).length≤_;rw [List.length_append,List.length_singleton];omega,fun z hz=> ?_,by show g.fils.length≤_;omega⟩
   rcases List.mem_append.1 hz with hz|hz
   ·exact h.lp z hz
   ·rw [List.mem_singleton.1 hz]
    simp only [List.length_cons]
    split<;>simp
 ·split
  ·exact uS h _
  ·split
   ·exact uS h _
   ·split
    ·exact uS h _
    ·unfold tokG
     exact ⟨h.c,h.n0,h.n,h.p0,h.p,by show (g.toks.modify _ _).length=11;rw [List.length_modify];exact h.t,by show g.lvs.length≤_;omega,h.lp,by show g.fils.length≤_;omega⟩
theorem nG {x:Rw}:∀(l:List Ln) {g:Gr} {a b:Nat},Bd g a b→Bd (eO x l g) (a+l.length) b
 |[],g,a,b,h=>h
 |y::l,g,a,b,h=>by
  have:=nG (x:=x) l (wH h y (cJ x))
  rw [List.length_cons,show a+(l.length+1)=a+1+l.length by omega]
  exact this
theorem nH:∀(l:List Ru) {g:Gr} {a b:Nat},Bd g a b→Bd (dP l g) a (b+l.length)
 |[],g,a,b,h=>h
 |y::l,g,a,b,h=>by
  have:=nH l (wI h y)
  rw [List.length_cons,show b+(l.length+1)=b+1+l.length by omega]
  exact this
theorem Bd.rh {g:Gr} {a b:Nat} (h:Bd g a b) (ha:a≤1000) (hb:b≤1000) {F:PH} {y:Ru} {v:Array Value} (hy:Mem.rep F y v):RH g y:=by
 obtain ⟨-,h1,h2,h3,h4,h5⟩:=hy
 have h6:=h.c
 have h7:=h.n
 have h8:=h.p
 have h9:=h.t
 have h10:=h.l
 have h11:=h.f
 exact ⟨h1,h2,h3,h4,by omega,h.p0,by omega,h.n0,by omega,by omega,by omega,fun z hz=>by have:=h.lp z hz;omega,by omega,by have:=(jv (b:=y.cond) (n:=g.conds.length) (by omega)).brl (by omega);show (dia (gN y.cond g.conds.length)).1.length≤_;omega⟩
end Go.Proofs.YtenpmjhnhepfdaaGreatDoor
