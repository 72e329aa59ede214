/-
  What holds of made grammars is kept by lines and rules.
-/
import Derived.Test.YtenpmjhnhepfdaaGreatDoorIo
namespace Go.Proofs.YtenpmjhnhepfdaaGreatDoor
open Go Go.Proofs.Tryz Tr
set_option maxRecDepth 10000
theorem jY (l:List Int) {n:Nat} (hn:n<=6):∀(m v k:Nat),v+m=n->Sx n (eP l m v k)
 |0,v,k,_=>Sx.leaf n _
 |m+1,v,k,h=>by
  unfold eP
  have hv:Sx n (tv v):=Sx.tv (by omega) hn
  exact (hv.ap2 (jY l hn m (v+1) _ (by omega))).ap2 ((jY l hn m (v+1) k (by omega)).ap2 (hv.ap2 (Sx.leaf n true)))
theorem kB {b n:Nat} (hn:n<=6):Sx n (iT b n):=by
 unfold iT
 split
 ·exact Sx.leaf n true
 ·rename_i h
  have hv:b / 6 % n<n:=Nat.mod_lt _ (by omega)
  split
  ·exact Sx.tv hv hn
  ·split
   ·exact (Sx.tv hv hn).ap2 (Sx.leaf n true)
   ·exact jY _ hn n 0 0 (by omega)
theorem Sx.brl {n:Nat} {t:Tr} (h:Sx n t) (hn:n<=6):(dia t).1.length<=63:=by
 have:(dia t).1.length=(aH t).length:=aO _
 rw [this];exact h.len hn
structure Rw where
 base:Nat
 n:Nat
 fam:List Nat
 lines:List Ln
 rules:List Ru
structure CC (F:PH) (v:Array Value) (x:Rw):Prop where
 ex:∃sf sl sr:Sl,v= #[vB x.base,vB x.n,sf.v,sl.v,sr.v]/\RdS F sf 1 (x.fam.map vB)/\RL F sl x.lines/\RL F sr x.rules
 b:x.base<256
 n:x.n<256
theorem CC.le {F G:PH} {v:Array Value} {x:Rw} (h:CC F v x) (hl:F.le G):CC G v x:=by
 obtain ⟨⟨sf,sl,sr,h1,h2,h3,h4⟩,h5,h6⟩:=h
 exact ⟨⟨sf,sl,sr,h1,h2.le hl,h3.le hl,h4.le hl⟩,h5,h6⟩
def dg (x:Rw):Bool:=decide (x.base % 8<6)
def fm (x:Rw):List ByteArray:=([⟨#[83]⟩,⟨#[80]⟩,⟨#[81]⟩]:List ByteArray).take (1+x.n / 4 % 3)
def iQ (x:Rw):List ByteArray:=([⟨#[65]⟩,⟨#[66]⟩,⟨#[67]⟩]:List ByteArray).take (x.n % 4)
noncomputable def gT (x:Rw):Gr:=if dg x=true then cj (x.base % 8) else {eE (fm x) with conds:=iQ x,prods:=[ba ⟨#[102,105,114,115,116]⟩ 0 [⟨true,0⟩]]}
noncomputable def wC (x:Rw) (n:Nat):Tr:=eP (x.fam.map fun k:Nat=>(k:Int)) n 0 0
noncomputable def famG (x:Rw) (g:Gr):Gr:=if x.fam≠[]/\(dia (wC x g.conds.length)).2≠0 then {g with fam:=dia (wC x g.conds.length)} else g
def cT (x:Rw):Nat:=if dg x=true then 6 else 10
noncomputable def fL (x:Rw) (l:List Ln) (g:Gr):Gr:=l.foldl (fun g y=>lineG g y (dg x)) g
noncomputable def eN (l:List Ru) (g:Gr):Gr:=l.foldl ruleG g
noncomputable def mI (x:Rw):Gr:=eN (x.rules.take 6) (fL x (x.lines.take (cT x)) (famG x (gT x)))
structure Bd (g:Gr) (np nl:Nat):Prop where
 c:g.conds.length<=3
 n0:g.nons.length≠0
 n:g.nons.length<=3
 p0:g.prods.length≠0
 p:g.prods.length<=np
 t:g.toks.length=11
 l:g.lvs.length<=nl
 lp:∀y∈g.lvs,y.ps.length<=2
 f:g.fils.length<=nl
theorem EP {k:Nat} (hk:k<6):Bd (cj k) 8 4:=by
  have h:k=0\/k=1\/k=2\/k=3\/k=4\/k=5:=by omega
  rcases h with rfl|rfl|rfl|rfl|rfl|rfl
  all_goals
    refine ⟨by decide,by decide,by decide,by decide,by decide,rfl,by decide,fun y hy=> ?_,by decide⟩
    first
      |(have:=hy;cases this;done)
      | (rcases List.mem_cons.1 hy with rfl|hy
         · decide
         rcases List.mem_cons.1 hy with rfl|hy
         · decide
         rcases List.mem_cons.1 hy with rfl|hy
         · decide
         cases hy)
theorem pO (x:Rw):Bd (gT x) 8 4:=by
 unfold gT
 split
 ·rename_i h
  exact EP (of_decide_eq_true h)
 ·have h1:(fm x).length=1+x.n / 4 % 3:=by unfold fm;rw [List.length_take];simp;omega
  have h2:(iQ x).length<=3:=by unfold iQ;rw [List.length_take];simp;omega
  exact ⟨h2,by show (fm x).length≠0;omega,by show (fm x).length<=3;omega,by show (1:Nat)≠0;decide,by show 1<=8;decide,rfl,by show 0<=4;decide,fun y hy=>(by cases hy),by show 0<=4;decide⟩
theorem EQ {x:Rw} {g:Gr} {a b:Nat} (h:Bd g a b):Bd (famG x g) a b:=by
 unfold famG
 split
 ·exact ⟨h.c,h.n0,h.n,h.p0,h.p,h.t,h.l,h.lp,h.f⟩
 ·exact h
theorem Ad {g:Gr} {a b:Nat} (h:Bd g a b) (y:Ln) (kn:Bool):Bd (lineG g y kn) (a+1) b:=by
 have hp:=h.p
 unfold lineG
 split
 ·exact ⟨h.c,h.n0,h.n,h.p0,by omega,h.t,h.l,h.lp,h.f⟩
 ·exact ⟨h.c,h.n0,h.n,by show (g.prods++_).length≠0;rw [List.length_append];have:=h.p0;omega,by show (g.prods++[_]).length<=_;rw [List.length_append,List.length_singleton];omega,h.t,h.l,h.lp,h.f⟩
theorem ye {g:Gr} {a b:Nat} (h:Bd g a b) (y:Fi):Bd (jZ g y) a (b+1):=by
 have hf:=h.f
 have hl:=h.l
 unfold jZ
 split
 ·exact ⟨h.c,h.n0,h.n,h.p0,h.p,h.t,by show g.lvs.length<=_;omega,h.lp,by show (g.fils++[_]).length<=_;rw [List.length_append,List.length_singleton];omega⟩
 ·exact ⟨h.c,h.n0,h.n,h.p0,h.p,h.t,by omega,h.lp,by omega⟩
theorem Ae {g:Gr} {a b:Nat} (h:Bd g a b) (y:Ru):Bd (ruleG g y) a (b+1):=by
 have hf:=h.f
 have hl:=h.l
 unfold ruleG
 split
 ·unfold mW
  split
  ·exact ⟨h.c,h.n0,h.n,h.p0,h.p,h.t,by omega,h.lp,by omega⟩
  ·refine ⟨h.c,h.n0,h.n,h.p0,h.p,h.t,by show (g.lvs++[_]).length<=_;rw [List.length_append,List.length_singleton];omega,fun z hz=> ?_,by show g.fils.length<=_;omega⟩
   rcases List.mem_append.1 hz with hz|hz
   ·exact h.lp z hz
   ·rw [List.mem_singleton.1 hz]
    simp only [List.length_cons]
    split<;>simp
 ·split
  ·exact ye h _
  ·split
   ·exact ye h _
   ·split
    ·exact ye h _
    ·unfold tokG
     exact ⟨h.c,h.n0,h.n,h.p0,h.p,by show (g.toks.modify _ _).length=11;rw [List.length_modify];exact h.t,by show g.lvs.length<=_;omega,h.lp,by show g.fils.length<=_;omega⟩
theorem pP {x:Rw}:∀(l:List Ln) {g:Gr} {a b:Nat},Bd g a b->Bd (fL x l g) (a+l.length) b
 |[],g,a,b,h=>h
 |y::l,g,a,b,h=>by
  have:=pP (x:=x) l (Ad h y (dg x))
  rw [List.length_cons,show a+(l.length+1)=a+1+l.length by omega]
  exact this
theorem pQ:∀(l:List Ru) {g:Gr} {a b:Nat},Bd g a b->Bd (eN l g) a (b+l.length)
 |[],g,a,b,h=>h
 |y::l,g,a,b,h=>by
  have:=pQ l (Ae h y)
  rw [List.length_cons,show b+(l.length+1)=b+1+l.length by omega]
  exact this
theorem Bd.rh {g:Gr} {a b:Nat} (h:Bd g a b) (ha:a<=1000) (hb:b<=1000) {F:PH} {y:Ru} {v:Array Value} (hy:Mem.rep F y v):RH g y:=by
 obtain ⟨-,h1,h2,h3,h4,h5⟩:=hy
 have h6:=h.c
 have h7:=h.n
 have h8:=h.p
 have h9:=h.t
 have h10:=h.l
 have h11:=h.f
 exact ⟨h1,h2,h3,h4,by omega,h.p0,by omega,h.n0,by omega,by omega,by omega,fun z hz=>by have:=h.lp z hz;omega,by omega,by have:=(kB (b:=y.cond) (n:=g.conds.length) (by omega)).brl (by omega);show (dia (iT y.cond g.conds.length)).1.length<=_;omega⟩
section
variable {F G F1:PH} {b1 b2 b4:Nat} {x:Rw} {g:Gr} {w:Array Value} {sf sl sr:Sl}
structure WK (F G:PH) (b1:Nat) (x:Rw) (sf sl sr:Sl):Prop where
 lF:F.le G
 q1:G b1=some (.cells #[vB x.base,vB x.n,sf.v,sl.v,sr.v] 26)
 rf:RdS G sf 1 (x.fam.map vB)
 rl:RL G sl x.lines
 rr:RL G sr x.rules
theorem WK.le {G':PH} (h:WK F G b1 x sf sl sr) (hl:G.le G'):WK F G' b1 x sf sl sr:=⟨aa h.lF hl,hl _ _ h.q1,h.rf.le hl,h.rl.le hl,h.rr.le hl⟩
theorem Im (K:WK F G b1 x sf sl sr) (hg:GV G w g) (st:St G F1 [pt b4 (.cells w 39),pt b2 (.cells zG 39)]):qN b2 b4 (LR F g) F1:=by
 unfold qN
 refine ⟨_,hg.size,st.whole0,?_⟩
 refine st.put1 (w':=w) hg.size rfl hg.st fun F3 h=> ?_
 exact ⟨_,hg.size,h.whole1,⟨_,rfl,hg.le h.le⟩,aa K.lF h.le⟩
theorem wD (l:List Ln) (y:Ln):fL x (l++[y]) g=lineG (fL x l g) y (dg x):=by simp [fL]
theorem wE (l:List Ru) (y:Ru):eN (l++[y]) g=ruleG (eN l g) y:=by simp [eN]
theorem In {a:Nat} (K:WK F G b1 x sf sl sr) (hg:GV G w g) (hb:Bd g a 4) (ha:a<=100) (st:St G F1 [pt b4 (.cells w 39),pt b2 (.cells zG 39)]):
  qO b1 b2 b4 (LR F (eN (x.rules.take 6) g)) F1:=by
 have er:=K.rr.len (by decide)
 unfold qO
 refine bj (y6 · b1 b2 b4 _) (min 6 x.rules.length) (fun k F'=>∃G' w,WK F G' b1 x sf sl sr/\GV G' w (eN (x.rules.take k) g)/\St G' F' [pt b4 (.cells w 39),pt b2 (.cells zG 39)]) ⟨G,w,K,hg,st⟩ ?_
 rintro k F' N hk ⟨G',w,K,hg,st⟩ next
 unfold y6
 have done:k=min 6 x.rules.length->qN b2 b4 (LR F (eN (x.rules.take 6) g)) F':=fun e=>by
  have e2:x.rules.take k=x.rules.take 6:=by
   rw [e]
   by_cases h6:6<=x.rules.length
   ·rw [Nat.min_eq_left h6]
   ·rw [Nat.min_eq_right (by omega),List.take_length,List.take_of_length_le (by omega)]
  rw [<- e2]
  exact Im K hg st
 refine ⟨_,ld (st.le _ _ K.q1) rfl,fun h1=>⟨fun h2=> ?_,fun h2=>done (by omega)⟩,fun h1=>done (by omega)⟩
 have hkl:k<x.rules.length:=by omega
 have hx:=List.getElem?_eq_getElem hkl
 generalize x.rules[k]=y at hx
 obtain ⟨ad,cc,had,hrow,hc⟩:=K.rr.get (by decide) hx
 have hb2:=pQ (x.rules.take k) hb
 rw [List.length_take] at hb2
 refine ⟨_,hg.size,st.whole0,_,ld (st.le _ _ K.q1) rfl,_,had,by omega,by omega,cc,Mem.len hc,by rw [Int.toNat_natCast];exact kf st.le hrow,?_⟩
 refine st.run (yi hg hc (hb2.rh (by omega) (by omega) hc) (by have:=hb2.c;omega)) fun _ G2 F2 hr l2 st=> ?_
 obtain ⟨w2,rfl,hw2⟩:=hr
 replace K:=K.le l2
 refine ⟨_,rfl,ld (st.le _ _ K.q1) rfl,?_⟩
 refine st.put0 (w':=w2) hw2.size hg.size hw2.st fun F3 st=> ?_
 rw [aB (n:=min 6 x.rules.length) (by omega) (by omega)]
 refine next _ (by omega) ⟨G2,w2,K,?_,st⟩
 rw [aI hx,wE]
 exact hw2
theorem Af (K:WK F G b1 x sf sl sr) (hg:GV G w g) (hb:Bd g 8 4) (st:St G F1 [pt b4 (.cells w 39),pt b2 (.cells zG 39)]):
  uW b1 b2 (x.base:Int) b4 ((cT x:Nat):Int) (LR F (eN (x.rules.take 6) (fL x (x.lines.take (cT x)) g))) F1:=by
 have el:=K.rl.len (by decide)
 have hm:cT x<=10:=by unfold cT;split<;>decide
 unfold uW
 refine bj (y7 · b1 b2 (x.base:Int) b4 ((cT x:Nat):Int) _) (min (cT x) x.lines.length) (fun k F'=>∃G' w,WK F G' b1 x sf sl sr/\GV G' w (fL x (x.lines.take k) g)/\St G' F' [pt b4 (.cells w 39),pt b2 (.cells zG 39)]) ⟨G,w,K,hg,st⟩ ?_
 rintro k F' N hk ⟨G',w,K,hg,st⟩ next
 unfold y7
 have hb2:=pP (x:=x) (x.lines.take k) hb
 rw [List.length_take] at hb2
 have done:k=min (cT x) x.lines.length->qO b1 b2 b4 (LR F (eN (x.rules.take 6) (fL x (x.lines.take (cT x)) g))) F':=fun e=>by
  have e2:x.lines.take k=x.lines.take (cT x):=by
   rw [e]
   by_cases h6:cT x<=x.lines.length
   ·rw [Nat.min_eq_left h6]
   ·rw [Nat.min_eq_right (by omega),List.take_length,List.take_of_length_le (by omega)]
  rw [<- e2]
  exact In K hg hb2 (by omega) st
 refine ⟨_,ld (st.le _ _ K.q1) rfl,fun h1=>⟨fun h2=> ?_,fun h2=>done (by omega)⟩,fun h1=>done (by omega)⟩
 have hkl:k<x.lines.length:=by omega
 have hx:=List.getElem?_eq_getElem hkl
 generalize x.lines[k]=y at hx
 obtain ⟨ad,cc,had,hrow,hc⟩:=K.rl.get (by decide) hx
 refine ⟨_,hg.size,st.whole0,_,ld (st.le _ _ K.q1) rfl,_,had,by omega,by omega,cc,Mem.len hc,by rw [Int.toNat_natCast];exact kf st.le hrow,?_⟩
 have ek:decide (Int.tmod (x.base:Int) (8:Int)<6)=dg x:=by
  unfold dg
  rw [show Int.tmod (x.base:Int) (8:Int)=((x.base % 8:Nat):Int) from gn x.base 8]
  exact decide_eq_decide.2 (by omega)
 rw [ek]
 refine st.run (CH (cj:=dg x) hg hc (by have:=hb2.c;omega) (by have:=hb2.p;omega) hb2.n0 (by have:=hb2.n;omega)) fun _ G2 F2 hr l2 st=> ?_
 obtain ⟨w2,rfl,hw2⟩:=hr
 replace K:=K.le l2
 refine ⟨_,rfl,ld (st.le _ _ K.q1) rfl,?_⟩
 refine st.put0 (w':=w2) hw2.size hg.size hw2.st fun F3 st=> ?_
 rw [aB (n:=min (cT x) x.lines.length) (by omega) (by omega)]
 refine next _ (by omega) ⟨G2,w2,K,?_,st⟩
 rw [aI hx,wD]
 exact hw2
theorem Ah (K:WK F G b1 x sf sl sr) (hg:GV G w g) (hb:Bd g 8 4) (st:St G F1 [pt b4 (.cells w 39),pt b2 (.cells zG 39)]):
  uX b1 b2 (x.base:Int) b4 ((cT x:Nat):Int) (LR F (eN (x.rules.take 6) (fL x (x.lines.take (cT x)) (famG x g)))) F1:=by
 have hg0:=hg
 obtain ⟨c,n,t,s,p,l,f,rfl,hs⟩:=hg
 have ec:=hs.c.len (by decide)
 have ef:=K.rf.len
 rw [List.length_map,Nat.mul_one] at ef
 have hn:g.conds.length<=6:=by have:=hb.c;omega
 unfold uX
 refine ⟨_,ld (st.le _ _ K.q1) rfl,_,st.ld0 rfl,?_⟩
 dsimp only
 rw [ec]
 have hr1:RdS G sf 1 ((x.fam.map fun k:Nat=>(k:Int)).map (Value.int .u8)):=by rw [List.map_map];exact K.rf
 refine st.run (P:=fun r G=>ur (dia (wC x g.conds.length)) r G) ((i6 hn hr1).mono fun r F' ⟨u,t,h1,⟨h2,h3⟩,h4,h5⟩=>⟨⟨u,h1,by subst h3;exact h4⟩,h5⟩) fun _ G2 F2 hr l2 st=> ?_
 obtain ⟨_,rfl,hw⟩:=hr
 obtain ⟨m,rfl,hm⟩:=hw.out
 replace K:=K.le l2
 refine ⟨_,rfl,?_⟩
 refine st.var (w:= #[m.v,vi (dia (wC x g.conds.length)).2]) (by simp [ai,Sl.v]) (fun b6 G3 F3 l3 q6 st=> ?_) rfl rfl
 replace K:=K.le l3
 have l23:=aa l2 l3
 have no:famG x g=g->qP b1 b2 (x.base:Int) b4 ((cT x:Nat):Int) b6 false (LR F (eN (x.rules.take 6) (fL x (x.lines.take (cT x)) (famG x g)))) F3:=fun e=>by
  rw [e]
  unfold qP
  exact ⟨fun h=>(by cases h),fun _=>Af K (hg0.le l23) hb st⟩
 refine ⟨_,ld (st.le _ _ K.q1) rfl,fun h1=>⟨_,ld (st.le _ _ q6) rfl,?_⟩,fun h1=>no ?_⟩
 ·by_cases h2:(dia (wC x g.conds.length)).2≠0
  ·dsimp only
   rw [decide_eq_true h2]
   have e:famG x g={g with fam:=dia (wC x g.conds.length)}:=by
    unfold famG
    rw [if_pos ⟨fun e=>by rw [e] at ef;simp at ef;omega,h2⟩]
   have hb2:=EQ (x:=x) hb
   rw [e] at hb2 ⊢
   unfold qP
   refine ⟨fun _=>⟨_,rfl,aj (st.le _ _ q6),?_⟩,fun h=>(by cases h)⟩
   refine st.putR0 (o:=1) (w':=Gr.arr {g with fam:=dia (wC x g.conds.length)} c m t s p l f) rfl (by simp [ai,Sl.v]) (by show 1+2<=9;decide) rfl fun F4 st=> ?_
   exact Af K ⟨c,m,t,s,p,l,f,rfl,hs.c.le l23,hm.le l3,hs.t.le l23,hs.s.le l23,hs.p.le l23,hs.l.le l23,hs.f.le l23⟩ hb2 st
  ·dsimp only
   rw [decide_eq_false h2]
   exact no (by unfold famG;rw [if_neg (fun h=>h2 h.2)])
 ·unfold famG
  rw [if_neg]
  rintro ⟨h,_⟩
  exact h (List.eq_nil_of_length_eq_zero (by omega))
theorem mJ {v:Array Value} (hx:CC F v x):ae prog 13 #[.agg v] F (LR F (mI x)):=by
 obtain ⟨⟨sf,sl,sr,rfl,h1,h2,h3⟩,hbase,hn⟩:=hx
 refine UK ?_
 unfold R3
 refine (St.start F).newG fun b1 G1 F1 l1 q1 _ st=> ?_
 have K:WK F G1 b1 x sf sl sr:=⟨l1,q1,h1.le l1,h2.le l1,h3.le l1⟩
 clear q1
 refine st.new fun b2 F2 st=> ?_
 have e8:Int.tmod (x.base:Int) (8:Int)=((x.base % 8:Nat):Int):=gn x.base 8
 refine ⟨_,ld (st.le _ _ K.q1) rfl,_,ld (st.le _ _ K.q1) rfl,?_⟩
 rw [e8]
 refine st.run (yk (x.base % 8) _) fun _ G2 F3 hr l2 st=> ?_
 obtain ⟨w,rfl,hw⟩:=hr
 replace K:=K.le l2
 refine ⟨_,rfl,?_⟩
 refine st.new fun b4 F4 st=> ?_
 refine st.put0 (w':=w) hw.size rfl hw.st fun F5 st=> ?_
 have hbs:=pO x
 unfold mI
 refine ⟨fun hk=> ?_,fun hk=> ?_⟩
 ·have hkn:dg x=false:=by unfold dg;exact decide_eq_false (by omega)
  have e:gT x={eE (fm x) with conds:=iQ x,prods:=[ba ⟨#[102,105,114,115,116]⟩ 0 [⟨true,0⟩]]}:=by unfold gT;rw [hkn,if_neg (by decide)]
  rw [e] at hbs ⊢
  have hm:cT x=10:=by unfold cT;rw [hkn,if_neg (by decide)]
  refine st.newG fun b19 G3 F6 l3 q19 _ st=> ?_
  replace K:=K.le l3
  have ei:IntKind.i64.wrap ((1:Int)+(Int.tmod (IntKind.i64.wrap (IntKind.u8.wrap (Int.tdiv (x.n:Int) (4:Int)))) (3:Int)))=((1+x.n / 4 % 3:Nat):Int):=by
   rw [Int.tdiv_eq_ediv_of_nonneg (by omega),show (x.n:Int) / 4=((x.n / 4:Nat):Int) by omega,Ao (by omega),show Int.tmod (IntKind.i64.wrap ((x.n / 4:Nat):Int)) (3:Int)=((x.n / 4 % 3:Nat):Int) from wN (b:=3) (by omega),aN (by omega) (by omega)]
   omega
  have ej:IntKind.i64.wrap (Int.tmod (x.n:Int) (4:Int))=((x.n % 4:Nat):Int):=by
   rw [show Int.tmod (x.n:Int) (4:Int)=((x.n % 4:Nat):Int) from gn x.n 4,aN (by omega) (by omega)]
  refine ⟨_,ld (st.le _ _ K.q1) rfl,?_⟩
  dsimp only
  rw [ei,Int.toNat_natCast]
  refine ⟨by omega,by omega,by show _<=3;omega,?_⟩
  have hr19:RdS G3 (Sl.mk (some (Addr.mk b19 0 none)) 3 3) 1 (([⟨#[83]⟩,⟨#[80]⟩,⟨#[81]⟩]:List ByteArray).map Value.string):=RdS.new q19 rfl rfl (Nat.le_refl _)
  have hs19:RL G3 (Sl.cut (Sl.mk (some (Addr.mk b19 0 none)) 3 3) 1 0 (1+x.n / 4 % 3) 3) (fm x):=by
   refine RL.strs.2 ?_
   have:=hr19.cut (l:=0) (r:=1+x.n / 4 % 3) (m:=3) (by omega) (by show _<=3;omega) (by omega)
   rw [Nat.zero_mul,List.drop_zero,Nat.mul_one,Nat.sub_zero,<- List.map_take] at this
   exact this
  refine st.run (sR hs19) fun _ G4 F7 hr l4 st=> ?_
  obtain ⟨c,n,t,rfl,k1,k2,k3,k4⟩:=hr
  replace K:=K.le l4
  refine ⟨_,rfl,?_⟩
  refine st.put0 (w':=(eE (fm x)).arr c n t (Sl.cut (Sl.mk (some (Addr.mk b19 0 none)) 3 3) 1 0 (1+x.n / 4 % 3) 3) Sl.nil Sl.nil Sl.nil) rfl hw.size (by simp [ai,Sl.v]) fun F8 st=> ?_
  refine st.newG fun b28 G5 F9 l5 q28 _ st=> ?_
  replace K:=K.le l5
  refine ⟨_,ld (st.le _ _ K.q1) rfl,?_⟩
  dsimp only
  rw [ej,Int.toNat_natCast]
  refine ⟨by omega,by omega,by show _<=3;omega,?_⟩
  have hr28:RdS G5 (Sl.mk (some (Addr.mk b28 0 none)) 3 3) 1 (([⟨#[65]⟩,⟨#[66]⟩,⟨#[67]⟩]:List ByteArray).map Value.string):=RdS.new q28 rfl rfl (Nat.le_refl _)
  have hs28:RL G5 (Sl.cut (Sl.mk (some (Addr.mk b28 0 none)) 3 3) 1 0 (x.n % 4) 3) (iQ x):=by
   refine RL.strs.2 ?_
   have:=hr28.cut (l:=0) (r:=x.n % 4) (m:=3) (by omega) (by show _<=3;omega) (by omega)
   rw [Nat.zero_mul,List.drop_zero,Nat.mul_one,Nat.sub_zero,<- List.map_take] at this
   exact this
  generalize Sl.cut (Sl.mk (some (Addr.mk b19 0 none)) 3 3) 1 0 (1+x.n / 4 % 3) 3=s at*
  generalize Sl.cut (Sl.mk (some (Addr.mk b28 0 none)) 3 3) 1 0 (x.n % 4) 3=c' at*
  refine st.set0 (w':=Gr.arr {eE (fm x) with conds:=iQ x} c' n t s Sl.nil Sl.nil Sl.nil) (by show 0<9;decide) rfl fun F10 st=> ?_
  refine ⟨Sl.nil,st.ld0 rfl,?_⟩
  refine st.runv (yl 0 _) fun G6 F11 l6 st=> ?_
  refine ⟨_,rfl,st.ld0 rfl,rfl,?_⟩
  refine st.newG fun b38 G7 F12 l7 q38 _ st=> ?_
  have hsy:RL G7 (Sl.mk (some (Addr.mk b38 0 none)) 1 1) [(⟨true,0⟩:Sy)]:=⟨[_],.cons rfl .nil,RdS.new q38 rfl rfl (Nat.le_refl _)⟩
  refine st.run (sS ⟨#[102,105,114,115,116]⟩ 0 hsy) fun _ G8 F13 hr l8 st=> ?_
  obtain ⟨w2,rfl,hw2⟩:=hr
  refine ⟨_,rfl,st.ld0 rfl,Mem.len hw2,?_⟩
  obtain ⟨_,_,T⟩:=C5
  refine (st.nilOwn 67 13).push0 T (c:=w2) (Mem.len hw2) (Mem.st hw2) (by decide) fun s' G9 F14 l9 st hl'=> ?_
  obtain ⟨G10,l10,⟨H,hA,hH⟩,st⟩:=st.pin
  have hps:RL G10 s' [ba ⟨#[102,105,114,115,116]⟩ 0 [(⟨true,0⟩:Sy)]]:=⟨[w2],.cons (Mem.le (aa l9 l10) hw2) .nil,by rw [bG];exact (bA.rd hA).le hH⟩
  refine st.set0 (w':=Gr.arr {eE (fm x) with conds:=iQ x,prods:=[ba ⟨#[102,105,114,115,116]⟩ 0 [⟨true,0⟩]]} c' n t s s' Sl.nil Sl.nil) (by show 5<9;decide) rfl fun F15 st=> ?_
  have l5e:G5.le G10:=aa l6 (aa l7 (aa l8 (aa l9 l10)))
  have l4e:=aa l5 l5e
  have:=Ah (K.le l5e) (g:={eE (fm x) with conds:=iQ x,prods:=[ba ⟨#[102,105,114,115,116]⟩ 0 [⟨true,0⟩]]}) ⟨c',n,t,s,s',Sl.nil,Sl.nil,rfl,hs28.le l5e,k2.le l4e,k3.le l4e,k4.le l4e,hps,.nil _,.nil _⟩ hbs st
  rw [hm] at this ⊢
  exact this
 ·have hkn:dg x=true:=by unfold dg;exact decide_eq_true (by omega)
  have e:gT x=cj (x.base % 8):=by unfold gT;rw [hkn,if_pos rfl]
  rw [e] at hbs ⊢
  have hm:cT x=6:=by unfold cT;rw [hkn,if_pos rfl]
  have h6:x.base % 8 % 6=x.base % 8:=Nat.mod_eq_of_lt (by omega)
  rw [h6] at hw
  have:=Ah K hw hbs st
  rw [hm] at this ⊢
  exact this
end
theorem lZ {n:Nat}:∀(t:Tr) (S:List Tr),(∀x∈S,∃v l h,x=node v l h/\v<n)->cv n t->∀x∈vis t S,∃v l h,x=node v l h/\v<n
 |leaf _,S,hS,_=>hS
 |node v l h,S,hS,⟨h1,h2,h3⟩=>by
  unfold vis
  split
  ·exact hS
  ·intro x hx
   rcases List.mem_append.1 hx with hx|hx
   ·exact lZ h _ (lZ l S hS h2) h3 x hx
   ·rw [List.mem_singleton.1 hx];exact ⟨v,l,h,rfl,h1⟩
theorem Sx.fit {n:Nat} {t:Tr} (h:Sx n t) (hn:n<=6):fg (dia t) n:=by
 refine ⟨uD h.1 (by have:=h.len hn;omega),fun b hb=> ?_⟩
 obtain ⟨x,hx,rfl⟩:=List.mem_map.1 (show b∈(aH t).map (br (aH t)) from hb)
 obtain ⟨v,l,r,rfl,hv⟩:=lZ t [] (fun x hx=>(by cases hx)) h.2 x hx
 show (v:Int)<n
 omega
theorem Io (t:Tr):(∀b∈(dia t).1,0<=b.v/\0<=b.l/\0<=b.h)/\0<=(dia t).2:=by
 refine ⟨fun b hb=> ?_,by show (0:Int)<=(num (aH t) t:Nat);omega⟩
 obtain ⟨x,hx,rfl⟩:=List.mem_map.1 (show b∈(aH t).map (br (aH t)) from hb)
 cases x with
 |leaf b=>exact ⟨Int.le_refl 0,Int.le_refl 0,Int.le_refl 0⟩
 |node v l h=>exact ⟨by show (0:Int)<=(v:Nat);omega,by show (0:Int)<=(num _ l:Nat);omega,by show (0:Int)<=(num _ h:Nat);omega⟩
theorem wG {t:Tr} (h:(dia t).2=0):t=leaf false:=by
 cases t with
 |leaf b=>cases b with
  |false=>rfl
  |true=>cases h
 |node v l r=>
  have:((num (aH (node v l r)) (node v l r):Nat):Int)=0:=h
  simp only [num] at this
  omega
def SxD (n:Nat) (d:Dia):Prop:=∃t,Sx n t/\d=dia t
theorem SxD.fit {n:Nat} {d:Dia} (h:SxD n d) (hn:n<=6):fg d n:=by obtain ⟨t,h,rfl⟩:=h;exact h.fit hn
theorem SxD.pos {n:Nat} {d:Dia} (h:SxD n d):(∀b∈d.1,0<=b.v/\0<=b.l/\0<=b.h)/\0<=d.2:=by obtain ⟨t,h,rfl⟩:=h;exact Io t
theorem SxD.len {n:Nat} {d:Dia} (h:SxD n d) (hn:n<=6):d.1.length<=63:=by obtain ⟨t,h,rfl⟩:=h;exact h.brl hn
theorem aT (n:Nat):SxD n aJ:=⟨_,Sx.leaf n true,rfl⟩
instance (i:Nat) (x:Nd):Decidable (okN i x):=by unfold okN;infer_instance
theorem nG {l:List Nd} (h1:l≠[]) (h2:∀i:Fin l.length,okN i.1 (l[i.1]'i.2)) (h3:(usL l).Nodup) (h4:∀i:Fin (l.length - 1),(i.1:Int)∈usL l):GoodL l:=
 ⟨h1,fun i x hx=>by obtain ⟨hi,rfl⟩:=List.getElem?_eq_some_iff.1 hx;exact h2 ⟨i,hi⟩,h3,fun i hi=>h4 ⟨i,by omega⟩⟩
theorem ui {l:List Nd} (h:GoodL l) (hl:l.length<=512):fh l=0:=by
 unfold fh
 rw [if_neg (by omega),if_pos h]
theorem Ai:GoodL kK.pat:=nG (by decide) (by decide) (by decide) (by decide)
theorem yf:GoodL jq.pat:=nG (by decide) (by decide) (by decide) (by decide)
theorem wH:GoodL gx.pat:=nG (by decide) (by decide) (by decide) (by decide)
theorem Ip:LgL kK.pat (bs kK.smp):=by
 obtain ⟨ns,h⟩:=fN Ai
 unfold LgL
 generalize bz kK.pat=t at h
 have e3:kK.pat[kK.pat.length - 1]? =some ⟨2,0,0,0,2⟩:=rfl
 have e0:kK.pat[0]? =some ⟨1,97,122,0,0⟩:=rfl
 have e2:kK.pat[2]? =some ⟨4,0,0,1,0⟩:=rfl
 cases h with
 |emp hx hk=>rw [e3] at hx;cases hx;cases hk
 |rng hx hk=>rw [e3] at hx;cases hx;cases hk
 |alt hx hk=>rw [e3] at hx;cases hx;cases hk
 |rep hx hk=>rw [e3] at hx;cases hx;cases hk
 | @seq _ a b x t u na nb hx hk ha hb h1 h2=>
  rw [e3] at hx
  cases hx
  obtain rfl:a=0:=by have:(0:Int)=a:=ha;omega
  obtain rfl:b=2:=by have:(2:Int)=b:=hb;omega
  refine ⟨[120],[],rfl,?_,?_⟩
  ·cases h1 with
   |emp hx hk=>rw [e0] at hx;cases hx;cases hk
   |seq hx hk=>rw [e0] at hx;cases hx;cases hk
   |alt hx hk=>rw [e0] at hx;cases hx;cases hk
   |rep hx hk=>rw [e0] at hx;cases hx;cases hk
   | @rng _ lo hi x hx hk hlo hhi _ _=>
    rw [e0] at hx
    cases hx
    refine ⟨120,rfl,?_,?_⟩
    ·have:(97:Int)=lo:=hlo;omega
    ·have:(122:Int)=hi:=hhi;omega
  ·cases h2 with
   |emp hx hk=>rw [e2] at hx;cases hx;cases hk
   |seq hx hk=>rw [e2] at hx;cases hx;cases hk
   |alt hx hk=>rw [e2] at hx;cases hx;cases hk
   |rng hx hk=>rw [e2] at hx;cases hx;cases hk
   |rep hx hk ha h=>exact .nil
abbrev pR (t:Tk):Tk:={t with cond:=aJ}
def Pb (done:List ByteArray) (t:Tk):Prop:=t.name≠emp/\t.name ∉ done/\0<=t.cls/\t.cls<=2/\(t.lit≠emp->t.smp=emp/\t.pat=[])/\(t.lit=emp->fh t.pat=0/\(t.cls=0->t.smp≠emp/\LgL t.pat (bs t.smp))/\(t.cls≠0->t.smp=emp))
def ER (done:List ByteArray):List Tk->Prop
 |[]=>True
 |t::r=>Pb done t/\ER (done++[t.name]) r
theorem pT {n:Nat}:∀(l:List Tk) (done:List ByteArray),ER done (l.map pR)->(∀t∈l,fg t.cond n)->cN n done l
 |[],_,_,_=>trivial
 |t::l,done,⟨⟨h1,h2,h3,h4,h5,h6⟩,h⟩,hf=>⟨⟨h1,h2,h3,h4,hf t (by simp),h5,h6⟩,pT l _ h fun x hx=>hf x (by simp [hx])⟩
theorem gb {done:List ByteArray} {x:ByteArray} (h1:x≠emp) (h2:x ∉ done):Pb done (tkL x):=⟨h1,h2,Int.le_refl 0,by show (0:Int)<=2;decide,fun _=>⟨rfl,rfl⟩,fun h=>absurd h h1⟩
theorem ES:ER [] eF:=by
 refine ⟨⟨by decide,by decide,by decide,by decide,fun h=>absurd rfl h,fun _=>⟨ui Ai (by decide),fun _=>⟨by decide,Ip⟩,fun h=>absurd rfl h⟩⟩,gb (by decide) (by decide),gb (by decide) (by decide),gb (by decide) (by decide),gb (by decide) (by decide),gb (by decide) (by decide),gb (by decide) (by decide),gb (by decide) (by decide),gb (by decide) (by decide),?_,?_,trivial⟩
 ·exact ⟨by decide,by decide,by decide,by decide,fun h=>absurd rfl h,fun _=>⟨ui yf (by decide),fun h=>(by cases h),fun _=>rfl⟩⟩
 ·exact ⟨by decide,by decide,by decide,by decide,fun h=>absurd rfl h,fun _=>⟨ui wH (by decide),fun h=>(by cases h),fun _=>rfl⟩⟩
def abc:List ByteArray:=[⟨#[65]⟩,⟨#[66]⟩,⟨#[67]⟩]
structure PrI (n nn:Nat) (p:Pr):Prop where
 cond:SxD n p.cond
 left:0<=p.left/\p.left<nn
 rl:p.right.length<=5
 right:∀s∈p.right,0<=s.i/\(s.t=true->s.i<9)/\(s.t=false->s.i<nn)
 rank: -1<=p.rank/\p.rank<=1
 lay:p.lay.length<=2
 det:kS p
 nm:p.name≠emp/\p.name.size<=13
structure MG (g:Gr):Prop where
 cs:∃n,n<=3/\g.conds=abc.take n
 fam:∃t,Sx g.conds.length t/\t≠leaf false/\g.fam=dia t
 nons:aX g.nons/\∀s∈g.nons,s.size<=10
 start:g.start=0
 toks:g.toks.map pR=eF/\∀t∈g.toks,SxD g.conds.length t.cond
 names:(g.prods.map Pr.name).Nodup/\∀p∈g.prods,∀k,g.prods.length<=k->k<100->p.name≠bg k
 prods:∀p∈g.prods,PrI g.conds.length g.nons.length p
 lvs:cC g [] g.lvs/\∀l∈g.lvs,SxD g.conds.length l.cond
 fils:∀x∈g.fils,bO g x/\SxD g.conds.length x.cond/\x.toks.length<=2
theorem MG.tok {g:Gr} (h:MG g) {i:Nat} (hi:i<9):∃t,g.toks[i]? =some t/\t.cls=0:=by
 have hl:g.toks.length=11:=by have:=congrArg List.length h.toks.1;rw [List.length_map] at this;exact this
 have hx:=List.getElem?_eq_getElem (show i<g.toks.length by omega)
 refine ⟨_,hx,?_⟩
 have h1:=congrArg (fun l=>l[i]?) h.toks.1
 simp only [List.getElem?_map,hx,Option.map_some] at h1
 have h2:∀j:Fin 9,∀t,eF[j.1]? =some t->t.cls=0:=by
  intro j t ht
  have:∀j:Fin 9,(eF[j.1]?).map Tk.cls=some 0:=by decide
  have:=this j
  rw [ht] at this
  exact Option.some.inj this
 exact h2 ⟨i,hi⟩ (pR _) h1.symm
theorem MG.sym {g:Gr} (h:MG g) {s:Sy} (h1:0<=s.i/\(s.t=true->s.i<9)/\(s.t=false->s.i<g.nons.length)):iv g s:=by
 refine ⟨h1.1,h1.2.2,fun ht=>h.tok (by have:=h1.2.1 ht;omega)⟩
theorem wI {g:Gr}:∀(l:List Pr) (done:List ByteArray),(∀p∈l,cz g p/\p.name≠emp/\fg p.cond g.conds.length/\-1<=p.rank/\p.rank<=1/\kS p)->(done++l.map Pr.name).Nodup->bJ g done l=0
 |[],_,_,_=>rfl
 |p::l,done,h,hn=>by
  obtain ⟨h1,h2,h3,h4,h5,h6⟩:=h p (by simp)
  have hnd:p.name ∉ done:=fun hm=>by
   rw [List.map_cons,List.nodup_append] at hn
   exact hn.2.2 _ hm _ (by simp) rfl
  unfold bJ
  rw [if_neg (not_not_intro h1),if_neg (not_not_intro ⟨h2,hnd,h3,h4,h5,h6⟩)]
  refine wI l _ (fun q hq=>h q (by simp [hq])) ?_
  rw [List.append_assoc]
  exact hn
theorem ET {n:Nat} (hn:n<=3):(∀s∈abc.take n,mj s)/\aX (abc.take n)/\(abc.take n).length<=3:=by
 have h:n=0\/n=1\/n=2\/n=3:=by omega
 have ok:∀s∈abc,mj s:=by
  intro s hs
  unfold mj
  rcases List.mem_cons.1 hs with rfl|hs
  ·decide+kernel
  rcases List.mem_cons.1 hs with rfl|hs
  ·decide+kernel
  rcases List.mem_cons.1 hs with rfl|hs
  ·decide+kernel
  cases hs
 refine ⟨fun s hs=>ok s (List.mem_of_mem_take hs),?_,by rw [List.length_take];omega⟩
 unfold aX
 rcases h with rfl|rfl|rfl|rfl<;>decide
theorem MG.ok {g:Gr} {a b:Nat} (h:MG g) (hb:Bd g a b) (ha:a<=2000) (hb':b<=2000):OkG g:=by
 obtain ⟨n,hn,hc⟩:=h.cs
 have hcl:=hb.c
 have hpl:=hb.p
 have hnl:=hb.n
 have htl:=hb.t
 have hll:=hb.l
 have hfl:=hb.f
 obtain ⟨t,ht,ht0,hf⟩:=h.fam
 obtain ⟨o1,o2,o3⟩:=ET hn
 refine ⟨?_,⟨by rw [hc];exact o1,by rw [hc];exact o2,by rw [hf];exact ht.fit (by omega),fun e=>ht0 (wG (by rw [<- hf];exact e))⟩,?_,⟨h.nons.1,by rw [h.start];exact Int.le_refl 0,by rw [h.start];have:=hb.n0;omega⟩,?_,h.lvs.1,fun x hx=>(h.fils x hx).1⟩
 ·unfold bE
  rw [Bool.or_eq_false_iff]
  refine ⟨decide_eq_false (by omega),?_⟩
  rw [List.any_eq_false]
  intro p hp
  have h1:=(h.prods p hp).rl
  have h2:=(h.prods p hp).lay
  rw [decide_eq_true_eq]
  omega
 ·refine pT _ _ ?_ fun t ht=>(h.toks.2 t ht).fit (by omega)
  rw [h.toks.1]
  exact ES
 ·refine wI _ _ (fun p hp=> ?_) (by rw [List.nil_append];exact h.names.1)
  have hI:=h.prods p hp
  exact ⟨⟨h.sym ⟨hI.left.1,fun h=>(by cases h),fun _=>hI.left.2⟩,fun s hs=>h.sym (hI.right s hs)⟩,hI.nm.1,hI.cond.fit (by omega),hI.rank.1,hI.rank.2,hI.det⟩
theorem MG.sz {g:Gr} {a b:Nat} (h:MG g) (hb:Bd g a b):Sz g:=by
 refine ⟨fun s hs=> ?_,fun t ht=> ?_,fun l hl=> ?_,fun f hf=> ?_⟩
 ·obtain ⟨n,hn,hc⟩:=h.cs
  rw [hc] at hs
  have:∀s∈abc,s.size<=1000000000:=by decide
  exact this s (List.mem_of_mem_take hs)
 ·have:pR t∈eF:=by rw [<- h.toks.1];exact List.mem_map_of_mem ht
  have h2:∀u∈eF.map Tk.smp,u.size<=100000:=by decide
  exact h2 _ (List.mem_map.2 ⟨_,this,rfl⟩)
 ·have:=hb.lp l hl;omega
 ·have:=(h.fils f hf).2.2;omega
theorem MG.sm {g:Gr} {a b:Nat} (h:MG g) (hb:Bd g a b) (ha:a<=2000) (hb':b<=2000):Sm g:=by
 have hcl:=hb.c
 have hpl:=hb.p
 have hnl:=hb.n
 have htl:=hb.t
 have hll:=hb.l
 have hfl:=hb.f
 obtain ⟨t,ht,ht0,hf⟩:=h.fam
 refine ⟨by omega,by have:=ht.brl (by omega);rw [hf];omega,by omega,by omega,by omega,by omega,by omega,fun x hx=>⟨?_,?_⟩,fun x hx=>⟨?_,?_,?_⟩,fun x hx=>⟨?_,?_⟩,fun x hx=>⟨?_,?_⟩⟩
 ·have:pR x∈eF:=by rw [<- h.toks.1];exact List.mem_map_of_mem hx
  have h2:∀u∈eF.map Tk.pat,u.length<=1000000000:=by decide
  exact h2 _ (List.mem_map.2 ⟨_,this,rfl⟩)
 ·have:=(h.toks.2 x hx).len (by omega);omega
 ·have:=(h.prods x hx).rl;omega
 ·have:=(h.prods x hx).cond.len (by omega);omega
 ·have:=(h.prods x hx).lay;omega
 ·have:=hb.lp x hx;omega
 ·have:=(h.lvs.2 x hx).len (by omega);omega
 ·have:=(h.fils x hx).2.2;omega
 ·have:=(h.fils x hx).2.1.len (by omega);omega
theorem eO {g g':Gr} (hc:g'.conds.length=g.conds.length) (hp:g.prods.length<=g'.prods.length):∀(l:List Lv) (done:List Int),cC g done l->cC g' done l
 |[],_,_=>trivial
 |x::l,done,⟨⟨h1,h2,h3,h4,h5⟩,h⟩=>⟨⟨h1,h2,by rw [hc];exact h3,fun p hp'=>⟨(h4 p hp').1,by have:=(h4 p hp').2;omega⟩,h5⟩,eO hc hp l _ h⟩
theorem yg {g:Gr} {ps:List Pr} {x:Fi} (h:bO g x):bO {g with prods:=g.prods++ps} x:=by
 refine ⟨h.1,?_⟩
 rcases h.2 with ⟨k,⟨a,b,c,p,q,hp,hq,hr⟩,r⟩|h|h
 ·exact .inl ⟨k,⟨a,b,c,p,q,by rw [List.getElem?_append_left (List.getElem?_eq_some_iff.1 hp).1];exact hp,by rw [List.getElem?_append_left (List.getElem?_eq_some_iff.1 hq).1];exact hq,hr⟩,r⟩
 ·exact .inr (.inl h)
 ·exact .inr (.inr h)
theorem uj {i k:Nat} (hi:i<100) (hk:k<100) (h:bg i=bg k):i=k:=by
 have h1:(#[112,UInt8.ofNat (97+i)]:Array UInt8)= #[112,UInt8.ofNat (97+k)]:=congrArg ByteArray.data h
 have h2:=congrArg (fun a=>a[1]?) h1
 have h3:UInt8.ofNat (97+i)=UInt8.ofNat (97+k):=by simpa using h2
 have h4:=congrArg UInt8.toNat h3
 simp at h4
 omega
theorem MG.line {g:Gr} (h:MG g) {p:Pr} (hn:p.name=bg g.prods.length) (hp:PrI g.conds.length g.nons.length p) (hl:g.prods.length<100):MG {g with prods:=g.prods++[p]}:=by
 refine ⟨h.cs,h.fam,h.nons,h.start,h.toks,⟨?_,fun q hq k hk hk2=> ?_⟩,fun q hq=> ?_,⟨eO (g:=g) (g':={g with prods:=g.prods++[p]}) rfl (by show _<=(g.prods++[p]).length;rw [List.length_append];omega) _ _ h.lvs.1,h.lvs.2⟩,fun x hx=>⟨yg (h.fils x hx).1,(h.fils x hx).2⟩⟩
 ·show ((g.prods++[p]).map Pr.name).Nodup
  rw [List.map_append,List.nodup_append]
  refine ⟨h.names.1,by simp,fun x hx y hy=> ?_⟩
  rw [List.map_cons,List.map_nil,List.mem_singleton] at hy
  obtain ⟨q,hq,rfl⟩:=List.mem_map.1 hx
  rw [hy,hn]
  exact h.names.2 q hq _ (Nat.le_refl _) hl
 ·replace hk:(g.prods++[p]).length<=k:=hk
  rw [List.length_append,List.length_singleton] at hk
  rcases List.mem_append.1 hq with hq|hq
  ·exact h.names.2 q hq k (by omega) hk2
  ·rw [List.mem_singleton.1 hq,hn]
   intro e
   have:=uj hl hk2 e
   omega
 ·rcases List.mem_append.1 hq with hq|hq
  ·exact h.prods q hq
  ·rw [List.mem_singleton.1 hq];exact hp
theorem ma (r:List Sy) (lo hi:Int):cD r 0 0 lo hi:=.inl ⟨rfl,rfl⟩
theorem EU {g:Gr} (x:Ln) (hc:g.conds.length<=3) (hn:g.nons.length≠0):PrI g.conds.length g.nons.length (kF g x):=by
 have hlen:(aP g.nons.length x).length<=4:=by unfold aP;rw [List.length_map,List.length_take];omega
 refine ⟨⟨_,kB (by omega),rfl⟩,⟨by show (0:Int)<=((x.left % g.nons.length:Nat):Int);omega,?_⟩,by show (aP _ _).length<=5;omega,fun s hs=> ?_,⟨by show (-1:Int)<=0;decide,by show (0:Int)<=1;decide⟩,by show 0<=2;decide,⟨fun y hy=>(by cases hy),ma _ _ _,ma _ _ _,fun h=>(by cases h)⟩,?_,?_⟩
 ·show ((x.left % g.nons.length:Nat):Int)<_
  have:=Nat.mod_lt x.left (Nat.pos_of_ne_zero hn)
  omega
 ·obtain ⟨b,hb,rfl⟩:=List.mem_map.1 (show s∈(x.right.take 4).map (kE g.nons.length) from hs)
  unfold kE
  split
  ·exact ⟨by show (0:Int)<=((b % 14:Nat):Int);omega,fun _=>by show ((b % 14:Nat):Int)<9;omega,fun h=>(by cases h)⟩
  ·refine ⟨by show (0:Int)<=(((b % 14 - 9) % g.nons.length:Nat):Int);omega,fun h=>(by cases h),fun _=> ?_⟩
   show (((b % 14 - 9) % g.nons.length:Nat):Int)<_
   have:=Nat.mod_lt (b % 14 - 9) (Nat.pos_of_ne_zero hn)
   omega
 ·intro e
  have h2:(2:Nat)=0:=congrArg ByteArray.size (show bg g.prods.length=emp from e)
  cases h2
 ·show (bg g.prods.length).size<=13
  show 2<=13
  decide
theorem Iq {n nn:Nat} {p:Pr} (h:PrI n nn p) (h1:p.rank=0) (h2:p.lay=[]) (h3:p.sco=qo) (h4:p.brk=false) (m:Nat):PrI n nn (cL p m):=by
 obtain ⟨a1,a2,a3,a4,a5,a6,a7,a8⟩:=h
 have e1:∀r,cD r qo.d qo.k 1 7:=fun r=>ma r _ _
 have e2:∀r,cD r qo.u qo.a 0 255:=fun r=>ma r _ _
 have hl:∀{q:Pr},q.lay=[]->∀x∈q.lay,kR q.right x:=fun e x hx=>by rw [e] at hx;cases hx
 unfold cL
 split
 ·exact ⟨a1,a2,a3,a4,a5,a6,a7,a8⟩
 rename_i hn0
 split
 ·exact ⟨a1,a2,a3,a4,⟨by show (-1:Int)<=1;decide,by show (1:Int)<=1;decide⟩,a6,⟨a7.1,a7.2.1,a7.2.2.1,fun h=>by rw [show (p.brk=true)=(false=true) by rw [h4]] at h;cases h⟩,a8⟩
 split
 ·exact ⟨a1,a2,a3,a4,⟨by show (-1:Int)<=-1;decide,by show (-1:Int)<=1;decide⟩,a6,⟨a7.1,a7.2.1,a7.2.2.1,fun h=>by rw [show (p.brk=true)=(false=true) by rw [h4]] at h;cases h⟩,a8⟩
 split
 ·refine ⟨a1,a2,a3,a4,a5,a6,⟨a7.1,a7.2.1,a7.2.2.1,fun h=> ?_⟩,a8⟩
  have:w7 p:=by
   have:pW p=true:=h
   unfold pW at this
   simpa using this
  exact this
 have hp:0<p.right.length:=Nat.pos_of_ne_zero hn0
 split
 ·have hm:=Nat.mod_lt (m / 8 / 4) hp
  refine ⟨a1,a2,a3,a4,a5,by show 1<=2;decide,⟨fun x hx=> ?_,a7.2.1,a7.2.2.1,fun h=>by rw [show (p.brk=true)=(false=true) by rw [h4]] at h;cases h⟩,a8⟩
  rw [List.mem_singleton.1 hx]
  refine ⟨by show (1:Int)<=((1+m / 8 % 4:Nat):Int);omega,by show ((1+m / 8 % 4:Nat):Int)<=4;omega,by show (0:Int)<=((m / 8 / 4 % p.right.length:Nat):Int);omega,by show ((m / 8 / 4 % p.right.length:Nat):Int)<p.right.length;omega,?_,?_,fun h=> ?_⟩
  ·show (0:Int)<=if m / 8 % 4=0 then 0 else ((p.right.length - 1:Nat):Int)
   split<;>omega
  ·show (if m / 8 % 4=0 then (0:Int) else ((p.right.length - 1:Nat):Int))<p.right.length
   split<;>omega
  ·have h:((1+m / 8 % 4:Nat):Int)=1:=h
   show (if m / 8 % 4=0 then (0:Int) else ((p.right.length - 1:Nat):Int))=0
   rw [if_pos (by omega)]
 split
 ·exact ⟨a1,a2,a3,a4,a5,a6,⟨a7.1,by show cD p.right p.sco.d p.sco.k 1 7;rw [h3];exact e1 _,by show cD p.right p.sco.u p.sco.a 0 255;rw [h3];exact e2 _,fun h=>by rw [show (p.brk=true)=(false=true) by rw [h4]] at h;cases h⟩,a8⟩
 have hlt:=Nat.mod_lt (m / 8) hp
 have ex:(p.right.getD (m / 8 % p.right.length) ⟨false,0⟩).t=true->∃s,p.right[(((m / 8 % p.right.length+1:Nat):Int) - 1).toNat]? =some s/\s.t=true:=fun ht=>by
  rw [show (((m / 8 % p.right.length+1:Nat):Int) - 1).toNat=m / 8 % p.right.length by omega]
  refine ⟨_,List.getElem?_eq_getElem hlt,?_⟩
  rw [List.getD_eq_getElem?_getD,List.getElem?_eq_getElem hlt] at ht
  exact ht
 split
 ·split
  ·rename_i ht
   exact ⟨a1,a2,a3,a4,a5,a6,⟨a7.1,.inr ⟨by show (0:Int)<((m / 8 % p.right.length+1:Nat):Int);omega,by show ((m / 8 % p.right.length+1:Nat):Int)<=p.right.length;omega,ex ht,by show (1:Int)<=((1+m / 8 % 2:Nat):Int);omega,by show ((1+m / 8 % 2:Nat):Int)<=7;omega⟩,ma _ _ _,fun h=>by rw [show (p.brk=true)=(false=true) by rw [h4]] at h;cases h⟩,a8⟩
  ·exact ⟨a1,a2,a3,a4,a5,a6,a7,a8⟩
 split
 ·split
  ·rename_i ht
   exact ⟨a1,a2,a3,a4,a5,a6,⟨a7.1,ma _ _ _,.inr ⟨by show (0:Int)<((m / 8 % p.right.length+1:Nat):Int);omega,by show ((m / 8 % p.right.length+1:Nat):Int)<=p.right.length;omega,ex ht,by show (0:Int)<=((1+m / 8 % 7:Nat):Int);omega,by show ((1+m / 8 % 7:Nat):Int)<=255;omega⟩,fun h=>by rw [show (p.brk=true)=(false=true) by rw [h4]] at h;cases h⟩,a8⟩
  ·exact ⟨a1,a2,a3,a4,a5,a6,a7,a8⟩
 ·exact ⟨a1,a2,a3,a4,a5,a6,a7,a8⟩
theorem yh (p:Pr) (m:Nat):(cL p m).name=p.name:=by
 unfold cL
 repeat' split
 all_goals rfl
theorem MG.lineG {g:Gr} (h:MG g) {a b:Nat} (hb:Bd g a b) (ha:a<100) (x:Ln) (kn:Bool):MG (lineG g x kn):=by
 have hp:=hb.p
 unfold Go.Proofs.YtenpmjhnhepfdaaGreatDoor.lineG
 split
 ·exact h
 ·exact h.line (by rw [yh];rfl) (Iq (EU x hb.c hb.n0) rfl rfl rfl rfl _) (by omega)
theorem pU {g:Gr} {y:Lv}:∀(l:List Lv) (done:List Int),cC g done l->C7 g (done++l.flatMap Lv.ps) y->cC g done (l++[y])
 |[],done,_,h=>by
  simp only [List.flatMap_nil,List.append_nil] at h
  exact ⟨h,trivial⟩
 |x::l,done,⟨h1,h2⟩,h=>⟨h1,pU l _ h2 (by rw [List.append_assoc];exact h)⟩
theorem MG.fil {g:Gr} (h:MG g) {y:Fi} (hd:SxD g.conds.length y.cond) (ht:y.toks.length<=2):MG (jZ g y):=by
 unfold jZ
 split
 ·rename_i hy
  refine ⟨h.cs,h.fam,h.nons,h.start,h.toks,h.names,h.prods,⟨eO (g:=g) (by rfl) (by exact Nat.le_refl _) _ _ h.lvs.1,h.lvs.2⟩,fun x hx=> ?_⟩
  rcases List.mem_append.1 hx with hx|hx
  ·exact h.fils x hx
  ·rw [List.mem_singleton.1 hx];exact ⟨hy,hd,ht⟩
 ·exact h
theorem MG.lvl {g:Gr} (h:MG g) {a b:Nat} (hb:Bd g a b) (x:Ru):MG (mW g x):=by
 have hp0:0<g.prods.length:=Nat.pos_of_ne_zero hb.p0
 have hd:SxD g.conds.length (ruD g x):=⟨_,kB (by have:=hb.c;omega),rfl⟩
 have ha:=Nat.mod_lt x.a hp0
 have hbb:=Nat.mod_lt x.b hp0
 unfold mW
 split
 ·exact h
 ·rename_i hna
  refine ⟨h.cs,h.fam,h.nons,h.start,h.toks,h.names,h.prods,⟨eO (g:=g) (by rfl) (by exact Nat.le_refl _) _ _ (pU _ _ h.lvs.1 ?_),fun y hy=> ?_⟩,h.fils⟩
  ·rw [List.nil_append]
   refine ⟨by show (0:Int)<=((x.c % 4:Nat):Int);omega,by show ((x.c % 4:Nat):Int)<=3;omega,hd.fit (by have:=hb.c;omega),fun p hp=> ?_,?_,fun p hp=> ?_⟩
   ·rcases List.mem_cons.1 hp with rfl|hp
    ·omega
    ·split at hp
     ·rw [List.mem_singleton.1 hp];omega
     ·cases hp
   ·show (_::_).Nodup
    rw [List.nodup_cons]
    split
    ·rename_i hq
     refine ⟨?_,by simp⟩
     rw [List.mem_singleton]
     omega
    ·exact ⟨by simp,.nil⟩
   ·rcases List.mem_cons.1 hp with rfl|hp
    ·exact hna
    ·split at hp
     ·rename_i hq
      rw [List.mem_singleton.1 hp];exact hq.2
     ·cases hp
  ·rcases List.mem_append.1 hy with hy|hy
   ·exact h.lvs.2 y hy
   ·rw [List.mem_singleton.1 hy];exact hd
theorem CD {g g':Gr} (h1:g'.conds=g.conds) (h2:g'.prods=g.prods) (h3:g'.nons=g.nons) (ht:∀(i:Nat) (t:Tk),g.toks[i]? =some t->∃t':Tk,g'.toks[i]? =some t'/\t'.cls=t.cls/\t'.lit=t.lit) {x:Fi} (h:bO g x):bO g' x:=by
 unfold bO at h ⊢
 unfold mN at h ⊢
 rw [h1,h2,h3]
 refine ⟨h.1,?_⟩
 rcases h.2 with h|⟨k,⟨a,b,c1,c2,c3⟩,r⟩|⟨k,⟨⟨c1,c2,c3⟩,a,t,t1,t2,t3⟩,r⟩
 ·exact .inl h
 ·refine .inr (.inl ⟨k,⟨a,b,c1,fun n hn=> ?_,c3⟩,r⟩)
  obtain ⟨n0,t,t1,t2⟩:=c2 n hn
  obtain ⟨t',u1,u2,u3⟩:=ht _ _ t1
  exact ⟨n0,t',u1,by show decide (t'.cls=0)=true;rw [u2];exact t2⟩
 ·obtain ⟨t',u1,u2,u3⟩:=ht _ _ t1
  refine .inr (.inr ⟨k,⟨⟨c1,fun n hn=> ?_,c3⟩,a,t',u1,by rw [u2];exact t2,by rw [u3];exact t3⟩,r⟩)
  obtain ⟨n0,t,t1,t2⟩:=c2 n hn
  obtain ⟨t',u1,u2,u3⟩:=ht _ _ t1
  exact ⟨n0,t',u1,by show (!decide (t'.lit=emp))=true;rw [u3];exact t2⟩
theorem MG.tokG {g:Gr} (h:MG g) {a b:Nat} (hb:Bd g a b) (x:Ru):MG (tokG g x):=by
 have hd:SxD g.conds.length (ruD g x):=⟨_,kB (by have:=hb.c;omega),rfl⟩
 unfold Go.Proofs.YtenpmjhnhepfdaaGreatDoor.tokG
 refine ⟨h.cs,h.fam,h.nons,h.start,⟨?_,fun t ht=> ?_⟩,h.names,h.prods,⟨eO (g:=g) (by rfl) (by exact Nat.le_refl _) _ _ h.lvs.1,h.lvs.2⟩,fun y hy=>⟨CD (g:=g) (by rfl) (by rfl) (by rfl) (fun i t ht=> ?_) (h.fils y hy).1,(h.fils y hy).2⟩⟩
 ·rw [<- h.toks.1]
  apply List.ext_getElem?
  intro i
  simp only [List.getElem?_map,List.getElem?_modify]
  cases g.toks[i]? with
  |none=>rfl
  |some t=>
   simp only [Option.map_some]
   split<;>rfl
 ·obtain ⟨i,hi⟩:=List.mem_iff_getElem?.1 ht
  rw [List.getElem?_modify] at hi
  cases ht':g.toks[i]? with
  |none=>rw [ht'] at hi;simp at hi
  |some u=>
   rw [ht'] at hi
   simp only [Option.map_eq_map,Option.map_some,Option.some.injEq] at hi
   subst hi
   split
   ·exact hd
   ·exact h.toks.2 u (List.mem_of_getElem? ht')
 ·show ∃t',(g.toks.modify (x.a % 9) _)[i]? =some t'/\_
  rw [List.getElem?_modify,ht]
  refine ⟨_,rfl,?_⟩
  simp only [id]
  split<;>exact ⟨rfl,rfl⟩
theorem MG.ruleG {g:Gr} (h:MG g) {a b:Nat} (hb:Bd g a b) (x:Ru):MG (ruleG g x):=by
 have hd:SxD g.conds.length (ruD g x):=⟨_,kB (by have:=hb.c;omega),rfl⟩
 unfold Go.Proofs.YtenpmjhnhepfdaaGreatDoor.ruleG
 split
 ·exact h.lvl hb x
 split
 ·exact h.fil hd (by show 0<=2;decide)
 split
 ·exact h.fil hd (by show 1<=2;decide)
 split
 ·exact h.fil hd (by show 1<=2;decide)
 ·exact h.tokG hb x
theorem MG.lines {x:Rw}:∀(l:List Ln) {g:Gr} {a b:Nat},MG g->Bd g a b->a+l.length<100->MG (fL x l g)
 |[],g,a,b,h,_,_=>h
 |y::l,g,a,b,h,hb,hl=>by
  rw [List.length_cons] at hl
  exact MG.lines (x:=x) l (h.lineG hb (by omega) y (dg x)) (Ad hb y (dg x)) (by omega)
theorem MG.rules:∀(l:List Ru) {g:Gr} {a b:Nat},MG g->Bd g a b->MG (eN l g)
 |[],g,a,b,h,_=>h
 |y::l,g,a,b,h,hb=>MG.rules l (h.ruleG hb y) (Ae hb y)
theorem MG.famG {g:Gr} (h:MG g) {a b:Nat} (hb:Bd g a b) (x:Rw):MG (famG x g):=by
 unfold Go.Proofs.YtenpmjhnhepfdaaGreatDoor.famG
 split
 ·rename_i hc
  refine ⟨h.cs,⟨wC x g.conds.length,jY (n:=g.conds.length) _ (by have:=hb.c;omega) g.conds.length 0 0 (by omega),fun e=>hc.2 (by rw [e];rfl),rfl⟩,h.nons,h.start,h.toks,h.names,h.prods,⟨eO (g:=g) (by rfl) (by exact Nat.le_refl _) _ _ h.lvs.1,h.lvs.2⟩,h.fils⟩
 ·exact h
end Go.Proofs.YtenpmjhnhepfdaaGreatDoor
