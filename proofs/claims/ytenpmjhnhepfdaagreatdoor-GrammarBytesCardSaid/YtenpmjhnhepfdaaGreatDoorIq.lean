/-
  Made: the walk.
-/
import Derived.Test.YtenpmjhnhepfdaaGreatDoorIn
namespace Go.Proofs.YtenpmjhnhepfdaaGreatDoor
open Go Go.Proofs.Tryz Tr
set_option maxRecDepth 10000
theorem zi {α:Type} (l:List α) (i:Nat) (f:α→α) {x:α} (hx:l[i]? =some x):l.modify i f=l.set i (f x):=by
 apply List.ext_getElem?
 intro j
 rw [List.getElem?_modify,List.getElem?_set]
 by_cases e:i=j
 ·subst e
  obtain ⟨hlt,rfl⟩:=List.getElem?_eq_some_iff.1 hx
  simp [hlt]
 ·simp [e]
structure RH (g:Gr) (x:Ru):Prop where
 ka:x.kind<256
 a:x.a<256
 b:x.b<256
 c:x.c<256
 pl:g.prods.length≤1000000
 p0:g.prods.length≠0
 nl:g.nons.length≤1000000
 n0:g.nons.length≠0
 tl:g.toks.length≤1000000
 t9:9≤g.toks.length
 ll:g.lvs.length≤1000000
 lp:∀y∈g.lvs,y.ps.length≤1000000
 fl:g.fils.length≤1000000
 dl:(ruD g x).1.length≤1000000
section
variable {F G F1:PH} {b2 b3 b4 b5 b7 b8:Nat} {g g':Gr} {x:Ru} {c n t s p l f m:Sl}
noncomputable abbrev f0 (g:Gr) (x:Ru):Fi:=⟨0,0,0,0,0,0,[],ruD g x⟩
theorem wN {a b:Nat} (ha:a<256):Int.tmod (IntKind.i64.wrap (a:Int)) (b:Int)=((a % b:Nat):Int):=by rw [aK (by omega) (by omega),fH]
theorem xj (K:RK F G b3 b5 g x c n t s p l f m) (H:RH g x) {q:Bool} (hk:4≤x.kind % 8) (hq:q=true↔(x.kind % 8=4∨x.kind % 8=5))
  (st:St G F1 [pt b7 (.cells ((f0 g x).arr Sl.nil m) 74),pt b4 (.cells zG 39),pt b2 (.cells (g.arr c n t s p l f) 39)]):
  tw b2 b3 b4 b5 b7 (x.kind:Int) q (LR F (ruleG g x)) F1:=by
 have es:=K.gs.s.len (by decide)
 have et:=K.gs.t.len (by decide)
 have e8:Int.tmod (x.kind:Int) 8=((x.kind % 8:Nat):Int):=fH x.kind 8
 have ka:=H.ka
 unfold tw
 refine ⟨fun h1=> ?_,fun h1=> ?_⟩
 ·have hk45:=hq.1 h1
  have e:ruleG g x=jk g ⟨((x.kind % 8 - 1:Nat):Int),0,0,0,((x.a % g.nons.length:Nat):Int),0,[((x.b % 9:Nat):Int)],ruD g x⟩:=by unfold ruleG;rw [if_neg (by omega),if_neg (by omega),if_pos (by omega)]
  rw [e]
  refine ⟨_,ld (st.le _ _ K.q3) rfl,?_⟩
  dsimp only
  rw [e8,show IntKind.i64.wrap ((x.kind % 8:Nat):Int)=((x.kind % 8:Nat):Int) from aK (by omega) (by omega),show IntKind.i64.wrap ((3:Int)+((x.kind % 8:Nat):Int))=(3:Int)+((x.kind % 8:Nat):Int) from aK (by omega) (by omega),show IntKind.i64.wrap ((3:Int)+((x.kind % 8:Nat):Int) - 4)=((x.kind % 8 - 1:Nat):Int) by rw [aK (by omega) (by omega)];omega]
  refine st.set0 (w':=Fi.arr ⟨((x.kind % 8 - 1:Nat):Int),0,0,0,0,0,[],ruD g x⟩ Sl.nil m) (by show 0<9;decide) rfl fun F2 st=> ?_
  refine ⟨_,ld (st.le _ _ K.q3) rfl,_,st.ld2 rfl,by have:=H.n0;omega,?_⟩
  rw [es,wN H.a]
  refine st.set0 (w':=Fi.arr ⟨((x.kind % 8 - 1:Nat):Int),0,0,0,((x.a % g.nons.length:Nat):Int),0,[],ruD g x⟩ Sl.nil m) (by show 4<9;decide) rfl fun F3 st=> ?_
  refine ⟨_,ld (st.le _ _ K.q3) rfl,?_⟩
  dsimp only
  rw [show Int.tmod (IntKind.i64.wrap (x.b:Int)) (9:Int)=((x.b % 9:Nat):Int) from wN (b:=9) H.b]
  refine st.newG fun b137 G2 F4 l2 q _ st=> ?_
  refine st.set0 (w':=Fi.arr ⟨((x.kind % 8 - 1:Nat):Int),0,0,0,((x.a % g.nons.length:Nat):Int),0,[((x.b % 9:Nat):Int)],ruD g x⟩ (Sl.mk (some (Addr.mk b137 0 none)) 1 1) m) (by show 6<9;decide) rfl fun F5 st=> ?_
  exact rQ (y:=⟨((x.kind % 8 - 1:Nat):Int),0,0,0,((x.a % g.nons.length:Nat):Int),0,[((x.b % 9:Nat):Int)],ruD g x⟩) (K.le l2) H.fl H.dl (by simp) (dk q) (K.m.le l2) st
 ·have hn45:¬(x.kind % 8=4∨x.kind % 8=5):=fun h=>by rw [hq.2 h] at h1;cases h1
  rw [e8]
  refine ⟨fun h6=> ?_,fun h6=> ?_⟩
  ·have e:ruleG g x=jk g ⟨5,0,0,0,0,0,[5],ruD g x⟩:=by unfold ruleG;rw [if_neg (by omega),if_neg (by omega),if_neg (by omega),if_pos (by omega)]
   rw [e]
   refine st.set0 (w':=Fi.arr ⟨5,0,0,0,0,0,[],ruD g x⟩ Sl.nil m) (by show 0<9;decide) rfl fun F2 st=> ?_
   refine st.newG fun b142 G2 F4 l2 q _ st=> ?_
   refine st.set0 (w':=Fi.arr ⟨5,0,0,0,0,0,[5],ruD g x⟩ (Sl.mk (some (Addr.mk b142 0 none)) 1 1) m) (by show 6<9;decide) rfl fun F5 st=> ?_
   exact rQ (y:=⟨5,0,0,0,0,0,[5],ruD g x⟩) (K.le l2) H.fl H.dl (by simp) (dk q) (K.m.le l2) st
  ·have e:ruleG g x=tokG g x:=by unfold ruleG;rw [if_neg (by omega),if_neg (by omega),if_neg (by omega),if_neg (by omega)]
   rw [e]
   obtain ⟨_,_,T⟩:=Io
   have ht9:=H.t9
   have htl:=H.tl
   have h9:x.a % 9<9:=Nat.mod_lt _ (by decide)
   obtain ⟨vs,hr,hrd⟩:=K.gs.t
   have hx:=List.getElem?_eq_getElem (show x.a % 9<g.toks.length by omega)
   generalize g.toks[x.a % 9]=y at hx
   obtain ⟨w,hw1,hw2,_⟩:=hr.get hx
   refine st.new fun b29 F2 st=> ?_
   have st:=st.imp (A':=own (Sl.mk (some (Addr.mk b29 0 none)) 0 0) 79 7 []) 0 rfl fun H _ hH=>iz hH
   refine ⟨_,st.ld3 rfl,?_⟩
   refine St.app0 T st (hrd.le st.le) hr.st (by show 0+t.len≤_;omega) fun s1 F3 st hl1=> ?_
   rw [List.nil_append] at st
   refine ⟨_,ld (st.le _ _ K.q3) rfl,_,rfl,ak (st.le _ _ K.q5),?_⟩
   rw [show Int.tmod (IntKind.i64.wrap (x.a:Int)) (9:Int)=((x.a % 9:Nat):Int) from wN (b:=9) H.a]
   refine st.elN 0 rfl hr.sz hw1 (by decide) rfl (by show 5+2≤7;decide) (by simp [aj,Sl.v]) fun F4 st=> ?_
   obtain ⟨pp,nn,rfl,hp1,hp2⟩:=hw2
   have hy':Mem.rep G {y with cond:=ruD g x} (wr (y.arr pp nn) 5 (#[m.v,vi (ruD g x).2]:Array Value).toList):=⟨pp,m,rfl,hp1,K.m⟩
   refine st.pinOwn (K:=fun F4=>sto F4 (Addr.mk b2 3 none) (Sl.v s1) _) fun G5 l5 hrd5 st=> ?_
   replace K:=K.le l5
   have hs1:RL G5 s1 (tokG g x).toks:=by
    show RL G5 s1 (g.toks.modify (x.a % 9) fun t=>{t with cond:=ruD g x})
    rw [zi _ _ _ hx]
    exact ⟨_,(hr.set hy').le l5,hrd5⟩
   refine st.set2 (w':=Gr.arr (tokG g x) c n s1 s p l f) (by show 3<9;decide) rfl fun F6 st=> ?_
   exact gQ (g':=tokG g x) K.lF ⟨c,n,s1,s,p,l,f,rfl,K.gs.c,K.gs.n,hs1,K.gs.s,K.gs.p,K.gs.l,K.gs.f⟩ st.tail
theorem xk (K:RK F G b3 b5 g x c n t s p l f m) (H:RH g x) {q:Bool} (hk:2≤x.kind % 8) (hq:q=true↔(x.kind % 8=2∨x.kind % 8=3))
  (st:St G F1 [pt b7 (.cells ((f0 g x).arr Sl.nil m) 74),pt b4 (.cells zG 39),pt b2 (.cells (g.arr c n t s p l f) 39)]):
  tx b2 b3 b4 b5 (x.a:Int) p b7 (x.kind:Int) q (LR F (ruleG g x)) F1:=by
 have ep:=K.gs.p.len (by decide)
 have e8:Int.tmod (x.kind:Int) 8=((x.kind % 8:Nat):Int):=fH x.kind 8
 have ka:=H.ka
 unfold tx
 refine ⟨fun h1=> ?_,fun h1=> ?_⟩
 ·have hk23:=hq.1 h1
  have e:ruleG g x=jk g ⟨((x.kind % 8 - 1:Nat):Int),((x.a % g.prods.length:Nat):Int),((x.c % 16:Nat):Int),((x.b % g.prods.length:Nat):Int),0,0,[],ruD g x⟩:=by unfold ruleG;rw [if_neg (by omega),if_pos (by omega)]
  rw [e]
  refine ⟨_,ld (st.le _ _ K.q3) rfl,?_⟩
  dsimp only
  rw [e8,show IntKind.i64.wrap ((x.kind % 8:Nat):Int)=((x.kind % 8:Nat):Int) from aK (by omega) (by omega),show IntKind.i64.wrap ((1:Int)+((x.kind % 8:Nat):Int))=(1:Int)+((x.kind % 8:Nat):Int) from aK (by omega) (by omega),show IntKind.i64.wrap ((1:Int)+((x.kind % 8:Nat):Int) - 2)=((x.kind % 8 - 1:Nat):Int) by rw [aK (by omega) (by omega)];omega]
  refine st.set0 (w':=Fi.arr ⟨((x.kind % 8 - 1:Nat):Int),0,0,0,0,0,[],ruD g x⟩ Sl.nil m) (by show 0<9;decide) rfl fun F2 st=> ?_
  rw [ep,wN H.a]
  refine st.set0 (w':=Fi.arr ⟨((x.kind % 8 - 1:Nat):Int),((x.a % g.prods.length:Nat):Int),0,0,0,0,[],ruD g x⟩ Sl.nil m) (by show 1<9;decide) rfl fun F3 st=> ?_
  refine ⟨_,ld (st.le _ _ K.q3) rfl,?_⟩
  dsimp only
  rw [show Int.tmod (IntKind.i64.wrap (x.c:Int)) (16:Int)=((x.c % 16:Nat):Int) from wN (b:=16) H.c]
  refine st.set0 (w':=Fi.arr ⟨((x.kind % 8 - 1:Nat):Int),((x.a % g.prods.length:Nat):Int),((x.c % 16:Nat):Int),0,0,0,[],ruD g x⟩ Sl.nil m) (by show 2<9;decide) rfl fun F4 st=> ?_
  refine ⟨_,ld (st.le _ _ K.q3) rfl,_,st.ld2 rfl,by have:=H.p0;omega,?_⟩
  rw [ep,wN H.b]
  refine st.set0 (w':=Fi.arr ⟨((x.kind % 8 - 1:Nat):Int),((x.a % g.prods.length:Nat):Int),((x.c % 16:Nat):Int),((x.b % g.prods.length:Nat):Int),0,0,[],ruD g x⟩ Sl.nil m) (by show 3<9;decide) rfl fun F5 st=> ?_
  exact rQ (y:=⟨((x.kind % 8 - 1:Nat):Int),((x.a % g.prods.length:Nat):Int),((x.c % 16:Nat):Int),((x.b % g.prods.length:Nat):Int),0,0,[],ruD g x⟩) K H.fl H.dl (by simp) (.nil _) K.m st
 ·have hn23:¬(x.kind % 8=2∨x.kind % 8=3):=fun h=>by rw [hq.2 h] at h1;cases h1
  rw [e8]
  refine ⟨fun h4=>xj K H (by omega) ?_ st,fun h4=>xj K H (by omega) ?_ st⟩
  ·rw [decide_eq_true_eq];omega
  ·rw [decide_eq_true_eq];omega
theorem xm (K:RK F G b3 b5 g x c n t s p l f m) (H:RH g x) {q:Bool} (hq:q=true↔(x.kind % 8=0∨x.kind % 8=1))
  (st:St G F1 [pt b7 (.cells ((f0 g x).arr Sl.nil m) 74),pt b4 (.cells zG 39),pt b2 (.cells (g.arr c n t s p l f) 39)]):
  tz b2 b3 b4 b5 (x.a:Int) p b7 (x.kind:Int) q (LR F (ruleG g x)) F1:=by
 have ep:=K.gs.p.len (by decide)
 have e8:Int.tmod (x.kind:Int) 8=((x.kind % 8:Nat):Int):=fH x.kind 8
 unfold tz
 refine ⟨fun h1=> ?_,fun h1=> ?_⟩
 ·have hk01:=hq.1 h1
  have e:ruleG g x=mv g x:=by unfold ruleG;rw [if_pos (by omega)]
  rw [e,ep,wN H.a]
  refine ⟨_,rfl,st.whole2,?_⟩
  refine st.runv (lW K.gv _ H.ll H.lp) fun G2 F2 l2 st=> ?_
  replace K:=K.le l2
  refine ⟨_,rfl,fun hc=> ?_,fun hc=> ?_⟩
  ·have hna:((x.a % g.prods.length:Nat):Int) ∉ g.lvs.flatMap Lv.ps:=by simpa using hc
   refine st.new fun b52 F3 st=> ?_
   have st:=st.imp (A':=own (Sl.mk (some (Addr.mk b52 0 none)) 1 1) 3 1 [vi ((x.a % g.prods.length:Nat):Int)]) 0 rfl fun H _ hH=> .inr ⟨b52,_,rfl,hH,rfl,Nat.le_refl _,rfl,rfl⟩
   refine ⟨_,ld (st.le _ _ K.q3) rfl,_,rfl,ak (st.le _ _ K.q5),rfl,?_⟩
   rw [show Int.tmod (x.c:Int) (4:Int)=((x.c % 4:Nat):Int) from fH x.c 4,show IntKind.i64.wrap ((x.c % 4:Nat):Int)=((x.c % 4:Nat):Int) from aK (by omega) (by omega)]
   refine st.new fun b8 F4 st=> ?_
   refine st.put0 (w':=Lv.arr ⟨[((x.a % g.prods.length:Nat):Int)],((x.c % 4:Nat):Int),ruD g x⟩ (Sl.mk (some (Addr.mk b52 0 none)) 1 1) m) rfl rfl (by simp [aj,Sl.v]) fun F5 st=> ?_
   refine ⟨_,ld (st.le _ _ K.q3) rfl,_,st.ld4 rfl,by have:=H.p0;omega,?_⟩
   have j6:∀{G F':PH} {q6:Bool},RK F G b3 b5 g x c n t s p l f m→(q6=true↔(x.b % g.prods.length≠x.a % g.prods.length∧((x.b % g.prods.length:Nat):Int) ∉ g.lvs.flatMap Lv.ps))→
     St G F' [pt b8 (.cells (Lv.arr ⟨[((x.a % g.prods.length:Nat):Int)],((x.c % 4:Nat):Int),ruD g x⟩ (Sl.mk (some (Addr.mk b52 0 none)) 1 1) m) 72),own (Sl.mk (some (Addr.mk b52 0 none)) 1 1) 3 1 [vi ((x.a % g.prods.length:Nat):Int)],pt b7 (.cells ((f0 g x).arr Sl.nil m) 74),pt b4 (.cells zG 39),pt b2 (.cells (g.arr c n t s p l f) 39)]→
     tu b2 b4 b8 (x.b:Int) p q6 (LR F (mv g x)) F':=fun {G F' q6} K hq6 st=>by
    unfold tu
    refine ⟨fun h6=> ?_,fun h6=> ?_⟩
    ·have e2:mv g x={g with lvs:=g.lvs++[⟨[((x.a % g.prods.length:Nat):Int),((x.b % g.prods.length:Nat):Int)],((x.c % 4:Nat):Int),ruD g x⟩]}:=by unfold mv;rw [if_neg hna,if_pos (hq6.1 h6)]
     rw [e2]
     refine ⟨_,st.ld0 rfl,?_⟩
     rw [ep,wN H.b]
     refine st.push1 FC (c:= #[vi ((x.b % g.prods.length:Nat):Int)]) rfl (by simp [aj]) (by show 1≤400000000000;decide) fun s' G7 F7 l7 st hl7=> ?_
     refine st.set0 (w':=Lv.arr ⟨[((x.a % g.prods.length:Nat):Int),((x.b % g.prods.length:Nat):Int)],((x.c % 4:Nat):Int),ruD g x⟩ s' m) (by show 0<4;decide) rfl fun F8 st=> ?_
     obtain ⟨G9,l9,⟨H9,hA,hH⟩,st⟩:=st.front1.pin
     have hps:RL G9 s' [((x.a % g.prods.length:Nat):Int),((x.b % g.prods.length:Nat):Int)]:=RL.ints.2 ((bM.rd hA).le hH)
     replace K:=K.le (aa l7 l9)
     have st:=st.front1.tail
     exact xr (y:=⟨[((x.a % g.prods.length:Nat):Int),((x.b % g.prods.length:Nat):Int)],((x.c % 4:Nat):Int),ruD g x⟩) K H.ll hps K.m st
    ·have hn6:¬(x.b % g.prods.length≠x.a % g.prods.length∧((x.b % g.prods.length:Nat):Int) ∉ g.lvs.flatMap Lv.ps):=fun h=>by rw [hq6.2 h] at h6;cases h6
     have e2:mv g x={g with lvs:=g.lvs++[⟨[((x.a % g.prods.length:Nat):Int)],((x.c % 4:Nat):Int),ruD g x⟩]}:=by unfold mv;rw [if_neg hna,if_neg hn6]
     rw [e2]
     obtain ⟨G9,l9,⟨H9,hA,hH⟩,st⟩:=st.front1.pin
     have hps:RL G9 (Sl.mk (some (Addr.mk b52 0 none)) 1 1) [((x.a % g.prods.length:Nat):Int)]:=RL.ints.2 ((bM.rd hA).le hH)
     replace K:=K.le l9
     have st:=st.front1.tail
     exact xr (y:=⟨[((x.a % g.prods.length:Nat):Int)],((x.c % 4:Nat):Int),ruD g x⟩) K H.ll hps K.m st
   rw [ep,wN H.b]
   refine ⟨fun hne=>⟨_,rfl,st.whole4,?_⟩,fun heq=>j6 K ?_ st⟩
   ·refine st.runv (lW K.gv _ H.ll H.lp) fun G6 F6 l6 st=> ?_
    refine ⟨_,rfl,j6 (K.le l6) ?_ st⟩
    simp only [Bool.not_eq_true',decide_eq_false_iff_not]
    exact ⟨fun h=>⟨fun e=>hne (by rw [e]),h⟩,fun h=>h.2⟩
   ·have heq:x.b % g.prods.length=x.a % g.prods.length:=by omega
    exact ⟨fun h=>(by cases h),fun h=>absurd heq h.1⟩
  ·have e2:mv g x=g:=by unfold mv;rw [if_pos (by simpa using hc)]
   rw [e2]
   unfold lS
   exact gQ K.lF K.gv st.tail
 ·have hn01:¬(x.kind % 8=0∨x.kind % 8=1):=fun h=>by rw [hq.2 h] at h1;cases h1
  rw [e8]
  refine ⟨fun h4=>xk K H (by omega) ?_ st,fun h4=>xk K H (by omega) ?_ st⟩
  ·rw [decide_eq_true_eq];omega
  ·rw [decide_eq_true_eq];omega
end
theorem vm {F:PH} {w v:Array Value} {g:Gr} {x:Ru} (hg:GV F w g) (hx:Mem.rep F x v) (H:RH g x) (hn:g.conds.length≤6):
  ac prog 42 #[.agg w,.agg v] F (LR F (ruleG g x)):=by
 obtain ⟨c,n,t,s,p,l,f,rfl,hs⟩:=hg
 obtain ⟨rfl,hx0,hx1,hx2,hx3,hx4⟩:=hx
 have ec:=hs.c.len (by decide)
 have ep:=hs.p.len (by decide)
 refine QE ?_
 unfold N0
 refine (St.start F).new fun b2 F1 st=> ?_
 refine st.newG fun b3 G1 F2 l1 q3 _ st=> ?_
 refine st.new fun b4 F3 st=> ?_
 refine ⟨_,ld (st.le _ _ q3) rfl,_,st.ld1 rfl,?_⟩
 dsimp only
 rw [ec]
 refine st.run (tZ x.cond g.conds.length hx4 hn _) fun _ G2 F4 hr l2 st=> ?_
 obtain ⟨⟨_,rfl,hw⟩,-⟩:=hr
 obtain ⟨m,rfl,hm⟩:=hw.out
 refine ⟨_,rfl,?_⟩
 refine st.var (w:= #[m.v,vi (ruD g x).2]) (by simp [aj,Sl.v]) (fun b5 G3 F5 l3 q5 st=> ?_) rfl rfl
 have l23:=aa l2 l3
 have l13:=aa l1 l23
 have K:RK F G3 b3 b5 g x c n t s p l f m:=⟨l13,l23 _ _ q3,q5,hs.le l13,hm.le l3⟩
 refine ⟨_,ld (st.le _ _ K.q3) rfl,_,st.ld1 rfl,by have:=H.p0;omega,_,rfl,ak (st.le _ _ K.q5),rfl,?_⟩
 refine st.new fun b7 F6 st=> ?_
 refine st.put0 (w':=(f0 g x).arr Sl.nil m) rfl rfl (by simp [aj,Sl.v]) fun F7 st=> ?_
 have e8:Int.tmod (x.kind:Int) 8=((x.kind % 8:Nat):Int):=fH x.kind 8
 refine ⟨_,ld (st.le _ _ K.q3) rfl,?_⟩
 dsimp only
 rw [e8]
 refine ⟨fun h4=>xm K H ?_ st,fun h4=>xm K H ?_ st⟩
 ·rw [decide_eq_true_eq];omega
 ·rw [decide_eq_true_eq];omega
theorem jj (l:List Int) {n:Nat} (hn:n≤6):∀(m v k:Nat),v+m=n→Sx n (d5 l m v k)
 |0,v,k,_=>Sx.leaf n _
 |m+1,v,k,h=>by
  unfold d5
  have hv:Sx n (tv v):=Sx.tv (by omega) hn
  exact (hv.ap2 (jj l hn m (v+1) _ (by omega))).ap2 ((jj l hn m (v+1) k (by omega)).ap2 (hv.ap2 (Sx.leaf n true)))
theorem jC {b n:Nat} (hn:n≤6):Sx n (gR b n):=by
 unfold gR
 split
 ·exact Sx.leaf n true
 ·rename_i h
  have hv:b / 6 % n<n:=Nat.mod_lt _ (by omega)
  split
  ·exact Sx.tv hv hn
  ·split
   ·exact (Sx.tv hv hn).ap2 (Sx.leaf n true)
   ·exact jj _ hn n 0 0 (by omega)
theorem Sx.brl {n:Nat} {t:Tr} (h:Sx n t) (hn:n≤6):(dia t).1.length≤63:=by
 have:(dia t).1.length=(aL t).length:=aO _
 rw [this];exact h.len hn
structure Rw where
 base:Nat
 n:Nat
 fam:List Nat
 lines:List Ln
 rules:List Ru
structure vn (F:PH) (v:Array Value) (x:Rw):Prop where
 ex:∃sf sl sr:Sl,v= #[vB x.base,vB x.n,sf.v,sl.v,sr.v]∧RdS F sf 1 (x.fam.map vB)∧RL F sl x.lines∧RL F sr x.rules
 b:x.base<256
 n:x.n<256
theorem vn.le {F G:PH} {v:Array Value} {x:Rw} (h:vn F v x) (hl:F.le G):vn G v x:=by
 obtain ⟨⟨sf,sl,sr,h1,h2,h3,h4⟩,h5,h6⟩:=h
 exact ⟨⟨sf,sl,sr,h1,h2.le hl,h3.le hl,h4.le hl⟩,h5,h6⟩
def cK (x:Rw):Bool:=decide (x.base % 8<6)
def eH (x:Rw):List ByteArray:=([⟨#[83]⟩,⟨#[80]⟩,⟨#[81]⟩]:List ByteArray).take (1+x.n / 4 % 3)
def gP (x:Rw):List ByteArray:=([⟨#[65]⟩,⟨#[66]⟩,⟨#[67]⟩]:List ByteArray).take (x.n % 4)
noncomputable def gg (x:Rw):Gr:=if cK x=true then bS (x.base % 8) else {dG (eH x) with conds:=gP x,prods:=[aY ⟨#[102,105,114,115,116]⟩ 0 [⟨true,0⟩]]}
noncomputable def tV (x:Rw) (n:Nat):Tr:=d5 (x.fam.map fun k:Nat=>(k:Int)) n 0 0
noncomputable def famG (x:Rw) (g:Gr):Gr:=if x.fam≠[]∧(dia (tV x g.conds.length)).2≠0 then {g with fam:=dia (tV x g.conds.length)} else g
def cz (x:Rw):Nat:=if cK x=true then 6 else 10
noncomputable def eU (x:Rw) (l:List Ln) (g:Gr):Gr:=l.foldl (fun g y=>lineG g y (cK x)) g
noncomputable def dY (l:List Ru) (g:Gr):Gr:=l.foldl ruleG g
noncomputable def gD (x:Rw):Gr:=dY (x.rules.take 6) (eU x (x.lines.take (cz x)) (famG x (gg x)))
structure Bd (g:Gr) (np nl:Nat):Prop where
 c:g.conds.length≤3
 n0:g.nons.length≠0
 n:g.nons.length≤3
 p0:g.prods.length≠0
 p:g.prods.length≤np
 t:g.toks.length=11
 l:g.lvs.length≤nl
 lp:∀y∈g.lvs,y.ps.length≤2
 f:g.fils.length≤nl
theorem AV {k:Nat} (hk:k<6):Bd (bS k) 8 4:=by
  have h:k=0∨k=1∨k=2∨k=3∨k=4∨k=5:=by omega
  rcases h with rfl|rfl|rfl|rfl|rfl|rfl
  all_goals
    refine ⟨by decide,by decide,by decide,by decide,by decide,rfl,by decide,fun y hy=> ?_,by decide⟩
    first
      |(have:=hy;cases this;done)
      | (rcases List.mem_cons.1 hy with rfl|hy
         · decide
         rcases List.mem_cons.1 hy with rfl|hy
         · decide
         rcases List.mem_cons.1 hy with rfl|hy
         · decide
         cases hy)
theorem nU (x:Rw):Bd (gg x) 8 4:=by
 unfold gg
 split
 ·rename_i h
  exact AV (of_decide_eq_true h)
 ·have h1:(eH x).length=1+x.n / 4 % 3:=by unfold eH;rw [List.length_take];simp;omega
  have h2:(gP x).length≤3:=by unfold gP;rw [List.length_take];simp;omega
  exact ⟨h2,by show (eH x).length≠0;omega,by show (eH x).length≤3;omega,by show (1:Nat)≠0;decide,by show 1≤8;decide,rfl,by show 0≤4;decide,fun y hy=>(by cases hy),by show 0≤4;decide⟩
theorem AW {x:Rw} {g:Gr} {a b:Nat} (h:Bd g a b):Bd (famG x g) a b:=by
 unfold famG
 split
 ·exact ⟨h.c,h.n0,h.n,h.p0,h.p,h.t,h.l,h.lp,h.f⟩
 ·exact h
theorem xn {g:Gr} {a b:Nat} (h:Bd g a b) (y:Ln) (kn:Bool):Bd (lineG g y kn) (a+1) b:=by
 have hp:=h.p
 unfold lineG
 split
 ·exact ⟨h.c,h.n0,h.n,h.p0,by omega,h.t,h.l,h.lp,h.f⟩
 ·exact ⟨h.c,h.n0,h.n,by show (g.prods++_).length≠0;rw [List.length_append];have:=h.p0;omega,by show (g.prods++[_]).length≤_;rw [List.length_append,List.length_singleton];omega,h.t,h.l,h.lp,h.f⟩
theorem vo {g:Gr} {a b:Nat} (h:Bd g a b) (y:Fi):Bd (jk g y) a (b+1):=by
 have hf:=h.f
 have hl:=h.l
 unfold jk
 split
 ·exact ⟨h.c,h.n0,h.n,h.p0,h.p,h.t,by show g.lvs.length≤_;omega,h.lp,by show (g.fils++[_]).length≤_;rw [List.length_append,List.length_singleton];omega⟩
 ·exact ⟨h.c,h.n0,h.n,h.p0,h.p,h.t,by omega,h.lp,by omega⟩
theorem xo {g:Gr} {a b:Nat} (h:Bd g a b) (y:Ru):Bd (ruleG g y) a (b+1):=by
 have hf:=h.f
 have hl:=h.l
 unfold ruleG
 split
 ·unfold mv
  split
  ·exact ⟨h.c,h.n0,h.n,h.p0,h.p,h.t,by omega,h.lp,by omega⟩
  ·refine ⟨h.c,h.n0,h.n,h.p0,h.p,h.t,by show (g.lvs++[_]).length≤_;rw [List.length_append,List.length_singleton];omega,fun z hz=> ?_,by show g.fils.length≤_;omega⟩
   rcases List.mem_append.1 hz with hz|hz
   ·exact h.lp z hz
   ·rw [List.mem_singleton.1 hz]
    simp only [List.length_cons]
    split<;>simp
 ·split
  ·exact vo h _
  ·split
   ·exact vo h _
   ·split
    ·exact vo h _
    ·unfold tokG
     exact ⟨h.c,h.n0,h.n,h.p0,h.p,by show (g.toks.modify _ _).length=11;rw [List.length_modify];exact h.t,by show g.lvs.length≤_;omega,h.lp,by show g.fils.length≤_;omega⟩
theorem nV {x:Rw}:∀(l:List Ln) {g:Gr} {a b:Nat},Bd g a b→Bd (eU x l g) (a+l.length) b
 |[],g,a,b,h=>h
 |y::l,g,a,b,h=>by
  have:=nV (x:=x) l (xn h y (cK x))
  rw [List.length_cons,show a+(l.length+1)=a+1+l.length by omega]
  exact this
theorem nW:∀(l:List Ru) {g:Gr} {a b:Nat},Bd g a b→Bd (dY l g) a (b+l.length)
 |[],g,a,b,h=>h
 |y::l,g,a,b,h=>by
  have:=nW l (xo h y)
  rw [List.length_cons,show b+(l.length+1)=b+1+l.length by omega]
  exact this
theorem Bd.rh {g:Gr} {a b:Nat} (h:Bd g a b) (ha:a≤1000) (hb:b≤1000) {F:PH} {y:Ru} {v:Array Value} (hy:Mem.rep F y v):RH g y:=by
 obtain ⟨-,h1,h2,h3,h4,h5⟩:=hy
 have h6:=h.c
 have h7:=h.n
 have h8:=h.p
 have h9:=h.t
 have h10:=h.l
 have h11:=h.f
 exact ⟨h1,h2,h3,h4,by omega,h.p0,by omega,h.n0,by omega,by omega,by omega,fun z hz=>by have:=h.lp z hz;omega,by omega,by have:=(jC (b:=y.cond) (n:=g.conds.length) (by omega)).brl (by omega);show (dia (gR y.cond g.conds.length)).1.length≤_;omega⟩
section
variable {F G F1:PH} {b1 b2 b4:Nat} {x:Rw} {g:Gr} {w:Array Value} {sf sl sr:Sl}
structure WK (F G:PH) (b1:Nat) (x:Rw) (sf sl sr:Sl):Prop where
 lF:F.le G
 q1:G b1=some (.cells #[vB x.base,vB x.n,sf.v,sl.v,sr.v] 26)
 rf:RdS G sf 1 (x.fam.map vB)
 rl:RL G sl x.lines
 rr:RL G sr x.rules
theorem WK.le {G':PH} (h:WK F G b1 x sf sl sr) (hl:G.le G'):WK F G' b1 x sf sl sr:=⟨aa h.lF hl,hl _ _ h.q1,h.rf.le hl,h.rl.le hl,h.rr.le hl⟩
theorem DY (K:WK F G b1 x sf sl sr) (hg:GV G w g) (st:St G F1 [pt b4 (.cells w 39),pt b2 (.cells zG 39)]):pv b2 b4 (LR F g) F1:=by
 unfold pv
 refine ⟨_,hg.size,st.whole0,?_⟩
 refine st.put1 (w':=w) hg.size rfl hg.st fun F3 h=> ?_
 exact ⟨_,hg.size,h.whole1,⟨_,rfl,hg.le h.le⟩,aa K.lF h.le⟩
theorem tW (l:List Ln) (y:Ln):eU x (l++[y]) g=lineG (eU x l g) y (cK x):=by simp [eU]
theorem tX (l:List Ru) (y:Ru):dY (l++[y]) g=ruleG (dY l g) y:=by simp [dY]
theorem DZ {a:Nat} (K:WK F G b1 x sf sl sr) (hg:GV G w g) (hb:Bd g a 4) (ha:a≤100) (st:St G F1 [pt b4 (.cells w 39),pt b2 (.cells zG 39)]):
  px b1 b2 b4 (LR F (dY (x.rules.take 6) g)) F1:=by
 have er:=K.rr.len (by decide)
 unfold px
 refine bW (wU · b1 b2 b4 _) (min 6 x.rules.length) (fun k F'=>∃G' w,WK F G' b1 x sf sl sr∧GV G' w (dY (x.rules.take k) g)∧St G' F' [pt b4 (.cells w 39),pt b2 (.cells zG 39)]) ⟨G,w,K,hg,st⟩ ?_
 rintro k F' N hk ⟨G',w,K,hg,st⟩ next
 unfold wU
 have done:k=min 6 x.rules.length→pv b2 b4 (LR F (dY (x.rules.take 6) g)) F':=fun e=>by
  have e2:x.rules.take k=x.rules.take 6:=by
   rw [e]
   by_cases h6:6≤x.rules.length
   ·rw [Nat.min_eq_left h6]
   ·rw [Nat.min_eq_right (by omega),List.take_length,List.take_of_length_le (by omega)]
  rw [← e2]
  exact DY K hg st
 refine ⟨_,ld (st.le _ _ K.q1) rfl,fun h1=>⟨fun h2=> ?_,fun h2=>done (by omega)⟩,fun h1=>done (by omega)⟩
 have hkl:k<x.rules.length:=by omega
 have hx:=List.getElem?_eq_getElem hkl
 generalize x.rules[k]=y at hx
 obtain ⟨ad,cc,had,hrow,hc⟩:=K.rr.get (by decide) hx
 have hb2:=nW (x.rules.take k) hb
 rw [List.length_take] at hb2
 refine ⟨_,hg.size,st.whole0,_,ld (st.le _ _ K.q1) rfl,_,had,by omega,by omega,cc,Mem.len hc,by rw [Int.toNat_natCast];exact lK st.le hrow,?_⟩
 refine st.run (vm hg hc (hb2.rh (by omega) (by omega) hc) (by have:=hb2.c;omega)) fun _ G2 F2 hr l2 st=> ?_
 obtain ⟨w2,rfl,hw2⟩:=hr
 replace K:=K.le l2
 refine ⟨_,rfl,ld (st.le _ _ K.q1) rfl,?_⟩
 refine st.put0 (w':=w2) hw2.size hg.size hw2.st fun F3 st=> ?_
 rw [aQ (n:=min 6 x.rules.length) (by omega) (by omega)]
 refine next _ (by omega) ⟨G2,w2,K,?_,st⟩
 rw [be hx,tX]
 exact hw2
theorem xp (K:WK F G b1 x sf sl sr) (hg:GV G w g) (hb:Bd g 8 4) (st:St G F1 [pt b4 (.cells w 39),pt b2 (.cells zG 39)]):
  tj b1 b2 (x.base:Int) b4 ((cz x:Nat):Int) (LR F (dY (x.rules.take 6) (eU x (x.lines.take (cz x)) g))) F1:=by
 have el:=K.rl.len (by decide)
 have hm:cz x≤10:=by unfold cz;split<;>decide
 unfold tj
 refine bW (wV · b1 b2 (x.base:Int) b4 ((cz x:Nat):Int) _) (min (cz x) x.lines.length) (fun k F'=>∃G' w,WK F G' b1 x sf sl sr∧GV G' w (eU x (x.lines.take k) g)∧St G' F' [pt b4 (.cells w 39),pt b2 (.cells zG 39)]) ⟨G,w,K,hg,st⟩ ?_
 rintro k F' N hk ⟨G',w,K,hg,st⟩ next
 unfold wV
 have hb2:=nV (x:=x) (x.lines.take k) hb
 rw [List.length_take] at hb2
 have done:k=min (cz x) x.lines.length→px b1 b2 b4 (LR F (dY (x.rules.take 6) (eU x (x.lines.take (cz x)) g))) F':=fun e=>by
  have e2:x.lines.take k=x.lines.take (cz x):=by
   rw [e]
   by_cases h6:cz x≤x.lines.length
   ·rw [Nat.min_eq_left h6]
   ·rw [Nat.min_eq_right (by omega),List.take_length,List.take_of_length_le (by omega)]
  rw [← e2]
  exact DZ K hg hb2 (by omega) st
 refine ⟨_,ld (st.le _ _ K.q1) rfl,fun h1=>⟨fun h2=> ?_,fun h2=>done (by omega)⟩,fun h1=>done (by omega)⟩
 have hkl:k<x.lines.length:=by omega
 have hx:=List.getElem?_eq_getElem hkl
 generalize x.lines[k]=y at hx
 obtain ⟨ad,cc,had,hrow,hc⟩:=K.rl.get (by decide) hx
 refine ⟨_,hg.size,st.whole0,_,ld (st.le _ _ K.q1) rfl,_,had,by omega,by omega,cc,Mem.len hc,by rw [Int.toNat_natCast];exact lK st.le hrow,?_⟩
 have ek:decide (Int.tmod (x.base:Int) (8:Int)<6)=cK x:=by
  unfold cK
  rw [show Int.tmod (x.base:Int) (8:Int)=((x.base % 8:Nat):Int) from fH x.base 8]
  exact decide_eq_decide.2 (by omega)
 rw [ek]
 refine st.run (zl (bS:=cK x) hg hc (by have:=hb2.c;omega) (by have:=hb2.p;omega) hb2.n0 (by have:=hb2.n;omega)) fun _ G2 F2 hr l2 st=> ?_
 obtain ⟨w2,rfl,hw2⟩:=hr
 replace K:=K.le l2
 refine ⟨_,rfl,ld (st.le _ _ K.q1) rfl,?_⟩
 refine st.put0 (w':=w2) hw2.size hg.size hw2.st fun F3 st=> ?_
 rw [aQ (n:=min (cz x) x.lines.length) (by omega) (by omega)]
 refine next _ (by omega) ⟨G2,w2,K,?_,st⟩
 rw [be hx,tW]
 exact hw2
theorem xq (K:WK F G b1 x sf sl sr) (hg:GV G w g) (hb:Bd g 8 4) (st:St G F1 [pt b4 (.cells w 39),pt b2 (.cells zG 39)]):
  tn b1 b2 (x.base:Int) b4 ((cz x:Nat):Int) (LR F (dY (x.rules.take 6) (eU x (x.lines.take (cz x)) (famG x g)))) F1:=by
 have hg0:=hg
 obtain ⟨c,n,t,s,p,l,f,rfl,hs⟩:=hg
 have ec:=hs.c.len (by decide)
 have ef:=K.rf.len
 rw [List.length_map,Nat.mul_one] at ef
 have hn:g.conds.length≤6:=by have:=hb.c;omega
 unfold tn
 refine ⟨_,ld (st.le _ _ K.q1) rfl,_,st.ld0 rfl,?_⟩
 dsimp only
 rw [ec]
 have hr1:RdS G sf 1 ((x.fam.map fun k:Nat=>(k:Int)).map (Value.int .u8)):=by rw [List.map_map];exact K.rf
 refine st.run (P:=fun r G=>rY (dia (tV x g.conds.length)) r G) ((gW hn hr1).mono fun r F' ⟨u,t,h1,⟨h2,h3⟩,h4,h5⟩=>⟨⟨u,h1,by subst h3;exact h4⟩,h5⟩) fun _ G2 F2 hr l2 st=> ?_
 obtain ⟨_,rfl,hw⟩:=hr
 obtain ⟨m,rfl,hm⟩:=hw.out
 replace K:=K.le l2
 refine ⟨_,rfl,?_⟩
 refine st.var (w:= #[m.v,vi (dia (tV x g.conds.length)).2]) (by simp [aj,Sl.v]) (fun b6 G3 F3 l3 q6 st=> ?_) rfl rfl
 replace K:=K.le l3
 have l23:=aa l2 l3
 have no:famG x g=g→py b1 b2 (x.base:Int) b4 ((cz x:Nat):Int) b6 false (LR F (dY (x.rules.take 6) (eU x (x.lines.take (cz x)) (famG x g)))) F3:=fun e=>by
  rw [e]
  unfold py
  exact ⟨fun h=>(by cases h),fun _=>xp K (hg0.le l23) hb st⟩
 refine ⟨_,ld (st.le _ _ K.q1) rfl,fun h1=>⟨_,ld (st.le _ _ q6) rfl,?_⟩,fun h1=>no ?_⟩
 ·by_cases h2:(dia (tV x g.conds.length)).2≠0
  ·dsimp only
   rw [decide_eq_true h2]
   have e:famG x g={g with fam:=dia (tV x g.conds.length)}:=by
    unfold famG
    rw [if_pos ⟨fun e=>by rw [e] at ef;simp at ef;omega,h2⟩]
   have hb2:=AW (x:=x) hb
   rw [e] at hb2 ⊢
   unfold py
   refine ⟨fun _=>⟨_,rfl,ak (st.le _ _ q6),?_⟩,fun h=>(by cases h)⟩
   refine st.putR0 (o:=1) (w':=Gr.arr {g with fam:=dia (tV x g.conds.length)} c m t s p l f) rfl (by simp [aj,Sl.v]) (by show 1+2≤9;decide) rfl fun F4 st=> ?_
   exact xp K ⟨c,m,t,s,p,l,f,rfl,hs.c.le l23,hm.le l3,hs.t.le l23,hs.s.le l23,hs.p.le l23,hs.l.le l23,hs.f.le l23⟩ hb2 st
  ·dsimp only
   rw [decide_eq_false h2]
   exact no (by unfold famG;rw [if_neg (fun h=>h2 h.2)])
 ·unfold famG
  rw [if_neg]
  rintro ⟨h,_⟩
  exact h (List.eq_nil_of_length_eq_zero (by omega))
theorem tY {v:Array Value} (hx:vn F v x):ac prog 13 #[.agg v] F (LR F (gD x)):=by
 obtain ⟨⟨sf,sl,sr,rfl,h1,h2,h3⟩,hbase,hn⟩:=hx
 refine Qy ?_
 unfold NS
 refine (St.start F).newG fun b1 G1 F1 l1 q1 _ st=> ?_
 have K:WK F G1 b1 x sf sl sr:=⟨l1,q1,h1.le l1,h2.le l1,h3.le l1⟩
 clear q1
 refine st.new fun b2 F2 st=> ?_
 have e8:Int.tmod (x.base:Int) (8:Int)=((x.base % 8:Nat):Int):=fH x.base 8
 refine ⟨_,ld (st.le _ _ K.q1) rfl,_,ld (st.le _ _ K.q1) rfl,?_⟩
 rw [e8]
 refine st.run (vr (x.base % 8) _) fun _ G2 F3 hr l2 st=> ?_
 obtain ⟨w,rfl,hw⟩:=hr
 replace K:=K.le l2
 refine ⟨_,rfl,?_⟩
 refine st.new fun b4 F4 st=> ?_
 refine st.put0 (w':=w) hw.size rfl hw.st fun F5 st=> ?_
 have hbs:=nU x
 unfold gD
 refine ⟨fun hk=> ?_,fun hk=> ?_⟩
 ·have hkn:cK x=false:=by unfold cK;exact decide_eq_false (by omega)
  have e:gg x={dG (eH x) with conds:=gP x,prods:=[aY ⟨#[102,105,114,115,116]⟩ 0 [⟨true,0⟩]]}:=by unfold gg;rw [hkn,if_neg (by decide)]
  rw [e] at hbs ⊢
  have hm:cz x=10:=by unfold cz;rw [hkn,if_neg (by decide)]
  refine st.newG fun b19 G3 F6 l3 q19 _ st=> ?_
  replace K:=K.le l3
  have ei:IntKind.i64.wrap ((1:Int)+(Int.tmod (IntKind.i64.wrap (IntKind.u8.wrap (Int.tdiv (x.n:Int) (4:Int)))) (3:Int)))=((1+x.n / 4 % 3:Nat):Int):=by
   rw [Int.tdiv_eq_ediv_of_nonneg (by omega),show (x.n:Int) / 4=((x.n / 4:Nat):Int) by omega,xu (by omega),show Int.tmod (IntKind.i64.wrap ((x.n / 4:Nat):Int)) (3:Int)=((x.n / 4 % 3:Nat):Int) from wN (b:=3) (by omega),aK (by omega) (by omega)]
   omega
  have ej:IntKind.i64.wrap (Int.tmod (x.n:Int) (4:Int))=((x.n % 4:Nat):Int):=by
   rw [show Int.tmod (x.n:Int) (4:Int)=((x.n % 4:Nat):Int) from fH x.n 4,aK (by omega) (by omega)]
  refine ⟨_,ld (st.le _ _ K.q1) rfl,?_⟩
  dsimp only
  rw [ei,Int.toNat_natCast]
  refine ⟨by omega,by omega,by show _≤3;omega,?_⟩
  have hr19:RdS G3 (Sl.mk (some (Addr.mk b19 0 none)) 3 3) 1 (([⟨#[83]⟩,⟨#[80]⟩,⟨#[81]⟩]:List ByteArray).map Value.string):=RdS.new q19 rfl rfl (Nat.le_refl _)
  have hs19:RL G3 (Sl.cut (Sl.mk (some (Addr.mk b19 0 none)) 3 3) 1 0 (1+x.n / 4 % 3) 3) (eH x):=by
   refine RL.strs.2 ?_
   have:=hr19.cut (l:=0) (r:=1+x.n / 4 % 3) (m:=3) (by omega) (by show _≤3;omega) (by omega)
   rw [Nat.zero_mul,List.drop_zero,Nat.mul_one,Nat.sub_zero,← List.map_take] at this
   exact this
  refine st.run (qO hs19) fun _ G4 F7 hr l4 st=> ?_
  obtain ⟨c,n,t,rfl,k1,k2,k3,k4⟩:=hr
  replace K:=K.le l4
  refine ⟨_,rfl,?_⟩
  refine st.put0 (w':=(dG (eH x)).arr c n t (Sl.cut (Sl.mk (some (Addr.mk b19 0 none)) 3 3) 1 0 (1+x.n / 4 % 3) 3) Sl.nil Sl.nil Sl.nil) rfl hw.size (by simp [aj,Sl.v]) fun F8 st=> ?_
  refine st.newG fun b28 G5 F9 l5 q28 _ st=> ?_
  replace K:=K.le l5
  refine ⟨_,ld (st.le _ _ K.q1) rfl,?_⟩
  dsimp only
  rw [ej,Int.toNat_natCast]
  refine ⟨by omega,by omega,by show _≤3;omega,?_⟩
  have hr28:RdS G5 (Sl.mk (some (Addr.mk b28 0 none)) 3 3) 1 (([⟨#[65]⟩,⟨#[66]⟩,⟨#[67]⟩]:List ByteArray).map Value.string):=RdS.new q28 rfl rfl (Nat.le_refl _)
  have hs28:RL G5 (Sl.cut (Sl.mk (some (Addr.mk b28 0 none)) 3 3) 1 0 (x.n % 4) 3) (gP x):=by
   refine RL.strs.2 ?_
   have:=hr28.cut (l:=0) (r:=x.n % 4) (m:=3) (by omega) (by show _≤3;omega) (by omega)
   rw [Nat.zero_mul,List.drop_zero,Nat.mul_one,Nat.sub_zero,← List.map_take] at this
   exact this
  generalize Sl.cut (Sl.mk (some (Addr.mk b19 0 none)) 3 3) 1 0 (1+x.n / 4 % 3) 3=s at*
  generalize Sl.cut (Sl.mk (some (Addr.mk b28 0 none)) 3 3) 1 0 (x.n % 4) 3=c' at*
  refine st.set0 (w':=Gr.arr {dG (eH x) with conds:=gP x} c' n t s Sl.nil Sl.nil Sl.nil) (by show 0<9;decide) rfl fun F10 st=> ?_
  refine ⟨Sl.nil,st.ld0 rfl,?_⟩
  refine st.runv (vu 0 _) fun G6 F11 l6 st=> ?_
  refine ⟨_,rfl,st.ld0 rfl,rfl,?_⟩
  refine st.newG fun b38 G7 F12 l7 q38 _ st=> ?_
  have hsy:RL G7 (Sl.mk (some (Addr.mk b38 0 none)) 1 1) [(⟨true,0⟩:Sy)]:=⟨[_],.cons rfl .nil,RdS.new q38 rfl rfl (Nat.le_refl _)⟩
  refine st.run (qP ⟨#[102,105,114,115,116]⟩ 0 hsy) fun _ G8 F13 hr l8 st=> ?_
  obtain ⟨w2,rfl,hw2⟩:=hr
  refine ⟨_,rfl,st.ld0 rfl,Mem.len hw2,?_⟩
  obtain ⟨_,_,T⟩:=Ea
  refine (st.nilOwn 67 13).push0 T (c:=w2) (Mem.len hw2) (Mem.st hw2) (by decide) fun s' G9 F14 l9 st hl'=> ?_
  obtain ⟨G10,l10,⟨H,hA,hH⟩,st⟩:=st.pin
  have hps:RL G10 s' [aY ⟨#[102,105,114,115,116]⟩ 0 [(⟨true,0⟩:Sy)]]:=⟨[w2],.cons (Mem.le (aa l9 l10) hw2) .nil,by rw [dU];exact (bM.rd hA).le hH⟩
  refine st.set0 (w':=Gr.arr {dG (eH x) with conds:=gP x,prods:=[aY ⟨#[102,105,114,115,116]⟩ 0 [⟨true,0⟩]]} c' n t s s' Sl.nil Sl.nil) (by show 5<9;decide) rfl fun F15 st=> ?_
  have l5e:G5.le G10:=aa l6 (aa l7 (aa l8 (aa l9 l10)))
  have l4e:=aa l5 l5e
  have:=xq (K.le l5e) (g:={dG (eH x) with conds:=gP x,prods:=[aY ⟨#[102,105,114,115,116]⟩ 0 [⟨true,0⟩]]}) ⟨c',n,t,s,s',Sl.nil,Sl.nil,rfl,hs28.le l5e,k2.le l4e,k3.le l4e,k4.le l4e,hps,.nil _,.nil _⟩ hbs st
  rw [hm] at this ⊢
  exact this
 ·have hkn:cK x=true:=by unfold cK;exact decide_eq_true (by omega)
  have e:gg x=bS (x.base % 8):=by unfold gg;rw [hkn,if_pos rfl]
  rw [e] at hbs ⊢
  have hm:cz x=6:=by unfold cz;rw [hkn,if_pos rfl]
  have h6:x.base % 8 % 6=x.base % 8:=Nat.mod_eq_of_lt (by omega)
  rw [h6] at hw
  have:=xq K hw hbs st
  rw [hm] at this ⊢
  exact this
end
end Go.Proofs.YtenpmjhnhepfdaaGreatDoor
