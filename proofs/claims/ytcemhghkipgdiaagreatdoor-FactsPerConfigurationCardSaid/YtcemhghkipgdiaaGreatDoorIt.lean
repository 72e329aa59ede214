/-
  What holds of made grammars is kept by lines and rules.
-/
import Derived.Test.YtcemhghkipgdiaaGreatDoorIo
namespace Go.Proofs.YtcemhghkipgdiaaGreatDoor
open Go Go.Proofs.Tryz Tr
set_option maxRecDepth 10000
theorem uC (l:Φ) {n:Nat} (hn:n<=6):∀(m v k:Nat),v+m=n->Sx n (i9 l m v k)
 |0,v,k,_=>Sx.leaf n _
 |m+1,v,k,h=>by unfold i9;have hv:Sx n (tv v):=Sx.tv (by omega) hn;exact (hv.ap2 (uC l hn m (v+1) _ (by omega))).ap2 ((uC l hn m (v+1) k (by omega)).ap2 (hv.ap2 (Sx.leaf n true)))
theorem jA {b n:Nat} (hn:n<=6):Sx n (iY b n):=by
 unfold iY;split
 ·exact Sx.leaf n true
 ·rename_i h;have hv:b / 6 % n<n:=VU _ (by omega);split
  ·exact Sx.tv hv hn
  ·split
   ·exact (Sx.tv hv hn).ap2 (Sx.leaf n true)
   ·exact uC _ hn n 0 0 (by omega)
theorem Sx.brl {n:Nat} {t:Tr} (h:Sx n t) (hn:n<=6):(dia t).1.length<=63:=by have:(dia t).1.length=(aL t).length:=aO _;rw [this];exact h.len hn
structure Rw where
 base:Nat
 n:Nat
 fam:Δ
 lines:List Ln
 rules:List Ru
structure yo (F:PH) (v:Γ) (x:Rw):Prop where
 ex:∃sf sl sr:Sl,v= #[vB x.base,vB x.n,sf.v,sl.v,sr.v]/\RdS F sf 1 (x.fam.map vB)/\RL F sl x.lines/\RL F sr x.rules
 b:x.base<256
 n:x.n<256
theorem yo.le {F G:PH} {v:Γ} {x:Rw} (h:yo F v x) (hl:F.le G):yo G v x:=by obtain ⟨⟨sf,sl,sr,h1,h2,h3,h4⟩,h5,h6⟩:=h;exact ⟨⟨sf,sl,sr,h1,h2.le hl,h3.le hl,h4.le hl⟩,h5,h6⟩
def bQ (x:Rw):Bool:=decide (x.base % 8<6)
def fH (x:Rw):List ByteArray:=([⟨#[83]⟩,⟨#[80]⟩,⟨#[81]⟩]:List ByteArray).take (1+x.n / 4 % 3)
def jc (x:Rw):List ByteArray:=([⟨#[65]⟩,⟨#[66]⟩,⟨#[67]⟩]:List ByteArray).take (x.n % 4)
noncomputable def dr (x:Rw):Gr:=if bQ x=true then cg (x.base % 8) else {cI (fH x) with conds:=jc x,prods:=[bH ⟨#[102,105,114,115,116]⟩ 0 [⟨true,0⟩]]}
noncomputable def wL (x:Rw) (n:Nat):Tr:=i9 (x.fam.map λk:Nat=>(k:Int)) n 0 0
noncomputable def famG (x:Rw) (g:Gr):Gr:=if x.fam≠[]/\(dia (wL x g.conds.length)).2≠0 then {g with fam:=dia (wL x g.conds.length)} else g
def cK (x:Rw):Nat:=if bQ x=true then 6 else 10
noncomputable def dN (x:Rw) (l:List Ln) (g:Gr):Gr:=l.foldl (λg y=>lineG g y (bQ x)) g
noncomputable def d6 (l:List Ru) (g:Gr):Gr:=l.foldl ruleG g
noncomputable def dp (x:Rw):Gr:=d6 (x.rules.take 6) (dN x (x.lines.take (cK x)) (famG x (dr x)))
structure Bd (g:Gr) (np nl:Nat):Prop where
 c:g.conds.length<=3
 n0:g.nons.length≠0
 n:g.nons.length<=3
 p0:g.prods.length≠0
 p:g.prods.length<=np
 t:g.toks.length=11
 l:g.lvs.length<=nl
 lp:∀y∈g.lvs,y.ps.length<=2
 f:g.fils.length<=nl
theorem DB {k:Nat} (hk:k<6):Bd (cg k) 8 4:=by
  have h:k=0\/k=1\/k=2\/k=3\/k=4\/k=5:=by omega
  rcases h with rfl|rfl|rfl|rfl|rfl|rfl
  all_goals
    refine ⟨by decide,by decide,by decide,by decide,by decide,rfl,by decide,λy hy=> ?_,by decide⟩;first
      |(have:=hy;cases this;done)
      | (rcases UT.1 hy with rfl|hy
         · decide
         rcases UT.1 hy with rfl|hy
         · decide
         rcases UT.1 hy with rfl|hy
         · decide
         cases hy)
theorem p7 (x:Rw):Bd (dr x) 8 4:=by
 unfold dr;split
 ·rename_i h;exact DB (of_decide_eq_true h)
 ·have h1:(fH x).length=1+x.n / 4 % 3:=by unfold fH;rw [Vb];simp;omega
  have h2:(jc x).length<=3:=by unfold jc;rw [Vb];simp;omega
  exact ⟨h2,by show (fH x).length≠0;omega,by show (fH x).length<=3;omega,by show (1:Nat)≠0;decide,by show 1<=8;decide,rfl,by show 0<=4;decide,λy hy=>(by cases hy),by show 0<=4;decide⟩
theorem DC {x:Rw} {g:Gr} {a b:Nat} (h:Bd g a b):Bd (famG x g) a b:=by
 unfold famG;split
 ·exact ⟨h.c,h.n0,h.n,h.p0,h.p,h.t,h.l,h.lp,h.f⟩
 ·exact h
theorem AG {g:Gr} {a b:Nat} (h:Bd g a b) (y:Ln) (kn:Bool):Bd (lineG g y kn) (a+1) b:=by
 have hp:=h.p;unfold lineG;split
 ·exact ⟨h.c,h.n0,h.n,h.p0,by omega,h.t,h.l,h.lp,h.f⟩
 ·exact ⟨h.c,h.n0,h.n,by show (g.prods++_).length≠0;rw [UV];have:=h.p0;omega,by show (g.prods++[_]).length<=_;rw [UV,Va];omega,h.t,h.l,h.lp,h.f⟩
theorem yp {g:Gr} {a b:Nat} (h:Bd g a b) (y:Fi):Bd (j7 g y) a (b+1):=by
 have hf:=h.f;have hl:=h.l;unfold j7;split
 ·exact ⟨h.c,h.n0,h.n,h.p0,h.p,h.t,by show g.lvs.length<=_;omega,h.lp,by show (g.fils++[_]).length<=_;rw [UV,Va];omega⟩
 ·exact ⟨h.c,h.n0,h.n,h.p0,h.p,h.t,by omega,h.lp,by omega⟩
theorem AH {g:Gr} {a b:Nat} (h:Bd g a b) (y:Ru):Bd (ruleG g y) a (b+1):=by
 have hf:=h.f;have hl:=h.l;unfold ruleG;split
 ·unfold mW;split
  ·exact ⟨h.c,h.n0,h.n,h.p0,h.p,h.t,by omega,h.lp,by omega⟩
  ·refine ⟨h.c,h.n0,h.n,h.p0,h.p,h.t,by show (g.lvs++[_]).length<=_;rw [UV,Va];omega,λz hz=> ?_,by show g.fils.length<=_;omega⟩;rcases UX.1 hz with hz|hz
   ·exact h.lp z hz
   ·rw [UU.1 hz];simp only [Vf];split<;>simp
 ·split
  ·exact yp h _
  ·split
   ·exact yp h _
   ·split
    ·exact yp h _
    ·unfold tokG;exact ⟨h.c,h.n0,h.n,h.p0,h.p,by show (g.toks.modify _ _).length=11;rw [List.length_modify];exact h.t,by show g.lvs.length<=_;omega,h.lp,by show g.fils.length<=_;omega⟩
theorem p9 {x:Rw}:∀(l:List Ln) {g:Gr} {a b:Nat},Bd g a b->Bd (dN x l g) (a+l.length) b
 |[],g,a,b,h=>h
 |y::l,g,a,b,h=>by have:=p9 (x:=x) l (AG h y (bQ x));rw [Vf,show a+(l.length+1)=a+1+l.length by omega];exact this
theorem qe:∀(l:List Ru) {g:Gr} {a b:Nat},Bd g a b->Bd (d6 l g) a (b+l.length)
 |[],g,a,b,h=>h
 |y::l,g,a,b,h=>by have:=qe l (AH h y);rw [Vf,show b+(l.length+1)=b+1+l.length by omega];exact this
theorem Bd.rh {g:Gr} {a b:Nat} (h:Bd g a b) (ha:a<=1000) (hb:b<=1000) {F:PH} {y:Ru} {v:Γ} (hy:Mem.rep F y v):RH g y:=by obtain ⟨-,h1,h2,h3,h4,h5⟩:=hy;have h6:=h.c;have h7:=h.n;have h8:=h.p;have h9:=h.t;have h10:=h.l;have h11:=h.f;exact ⟨h1,h2,h3,h4,by omega,h.p0,by omega,h.n0,by omega,by omega,by omega,λz hz=>by have:=h.lp z hz;omega,by omega,by have:=(jA (b:=y.cond) (n:=g.conds.length) (by omega)).brl (by omega);show (dia (iY y.cond g.conds.length)).1.length<=_;omega⟩
section
variable {F G F1:PH} {b1 b2 b4:Nat} {x:Rw} {g:Gr} {w:Γ} {sf sl sr:Sl}
structure WK (F G:PH) (b1:Nat) (x:Rw) (sf sl sr:Sl):Prop where
 lF:F.le G
 q1:G b1=some (.cells #[vB x.base,vB x.n,sf.v,sl.v,sr.v] 26)
 rf:RdS G sf 1 (x.fam.map vB)
 rl:RL G sl x.lines
 rr:RL G sr x.rules
theorem WK.le {G':PH} (h:WK F G b1 x sf sl sr) (hl:G.le G'):WK F G' b1 x sf sl sr:=⟨aa h.lF hl,hl _ _ h.q1,h.rf.le hl,h.rl.le hl,h.rr.le hl⟩
theorem Hu (K:WK F G b1 x sf sl sr) (hg:GV G w g) (st:St G F1 [pt b4 (.cells w 37),pt b2 (.cells zG 37)]):ru b2 b4 (LR F g) F1:=by unfold ru;refine ⟨_,hg.size,st.whole0,?_⟩;refine st.put1 (w':=w) hg.size rfl hg.st λF3 h=> ?_;exact ⟨_,hg.size,h.whole1,⟨_,rfl,hg.le h.le⟩,aa K.lF h.le⟩
theorem wM (l:List Ln) (y:Ln):dN x (l++[y]) g=lineG (dN x l g) y (bQ x):=by simp [dN]
theorem wO (l:List Ru) (y:Ru):d6 (l++[y]) g=ruleG (d6 l g) y:=by simp [d6]
theorem Hv {a:Nat} (K:WK F G b1 x sf sl sr) (hg:GV G w g) (hb:Bd g a 4) (ha:a<=100) (st:St G F1 [pt b4 (.cells w 37),pt b2 (.cells zG 37)]):
  rz b1 b2 b4 (LR F (d6 (x.rules.take 6) g)) F1:=by
 have er:=K.rr.len (by decide);unfold rz;refine bz (zO · b1 b2 b4 _) (min 6 x.rules.length) (λk F'=>∃G' w,WK F G' b1 x sf sl sr/\GV G' w (d6 (x.rules.take k) g)/\St G' F' [pt b4 (.cells w 37),pt b2 (.cells zG 37)]) ⟨G,w,K,hg,st⟩ ?_;rintro k F' N hk ⟨G',w,K,hg,st⟩ next;unfold zO;have done:k=min 6 x.rules.length->ru b2 b4 (LR F (d6 (x.rules.take 6) g)) F':=λe=>by
  have e2:x.rules.take k=x.rules.take 6:=by
   rw [e];by_cases h6:6<=x.rules.length
   ·rw [Nat.min_eq_left h6]
   ·rw [Nat.min_eq_right (by omega),U7,UZ (by omega)]
  rw [<- e2];exact Hu K hg st
 refine ⟨_,ld (st.le _ _ K.q1) rfl,λh1=>⟨λh2=> ?_,λh2=>done (by omega)⟩,λh1=>done (by omega)⟩;have hkl:k<x.rules.length:=by omega
 have hx:=N5 hkl;generalize x.rules[k]=y at hx;obtain ⟨ad,cc,had,hrow,hc⟩:=K.rr.get (by decide) hx;have hb2:=qe (x.rules.take k) hb;rw [Vb] at hb2;refine ⟨_,hg.size,st.whole0,_,ld (st.le _ _ K.q1) rfl,_,had,by omega,by omega,cc,Mem.len hc,by rw [N4];exact bJ st.le hrow,?_⟩;refine st.run (yt hg hc (hb2.rh (by omega) (by omega) hc) (by have:=hb2.c;omega)) λ_ G2 F2 hr l2 st=> ?_;obtain ⟨w2,rfl,hw2⟩:=hr;replace K:=K.le l2;refine ⟨_,rfl,ld (st.le _ _ K.q1) rfl,?_⟩;refine st.put0 (w':=w2) hw2.size hg.size hw2.st λF3 st=> ?_;rw [aI (n:=min 6 x.rules.length) (by omega) (by omega)];refine next _ (by omega) ⟨G2,w2,K,?_,st⟩;rw [bu hx,wO];exact hw2
theorem AI (K:WK F G b1 x sf sl sr) (hg:GV G w g) (hb:Bd g 8 4) (st:St G F1 [pt b4 (.cells w 37),pt b2 (.cells zG 37)]):
  vK b1 b2 (x.base:Int) b4 ((cK x:Nat):Int) (LR F (d6 (x.rules.take 6) (dN x (x.lines.take (cK x)) g))) F1:=by
 have el:=K.rl.len (by decide);have hm:cK x<=10:=by unfold cK;split<;>decide
 unfold vK;refine bz (zQ · b1 b2 (x.base:Int) b4 ((cK x:Nat):Int) _) (min (cK x) x.lines.length) (λk F'=>∃G' w,WK F G' b1 x sf sl sr/\GV G' w (dN x (x.lines.take k) g)/\St G' F' [pt b4 (.cells w 37),pt b2 (.cells zG 37)]) ⟨G,w,K,hg,st⟩ ?_;rintro k F' N hk ⟨G',w,K,hg,st⟩ next;unfold zQ;have hb2:=p9 (x:=x) (x.lines.take k) hb;rw [Vb] at hb2;have done:k=min (cK x) x.lines.length->rz b1 b2 b4 (LR F (d6 (x.rules.take 6) (dN x (x.lines.take (cK x)) g))) F':=λe=>by
  have e2:x.lines.take k=x.lines.take (cK x):=by
   rw [e];by_cases h6:cK x<=x.lines.length
   ·rw [Nat.min_eq_left h6]
   ·rw [Nat.min_eq_right (by omega),U7,UZ (by omega)]
  rw [<- e2];exact Hv K hg hb2 (by omega) st
 refine ⟨_,ld (st.le _ _ K.q1) rfl,λh1=>⟨λh2=> ?_,λh2=>done (by omega)⟩,λh1=>done (by omega)⟩;have hkl:k<x.lines.length:=by omega
 have hx:=N5 hkl;generalize x.lines[k]=y at hx;obtain ⟨ad,cc,had,hrow,hc⟩:=K.rl.get (by decide) hx;refine ⟨_,hg.size,st.whole0,_,ld (st.le _ _ K.q1) rfl,_,had,by omega,by omega,cc,Mem.len hc,by rw [N4];exact bJ st.le hrow,?_⟩;have ek:decide (Int.tmod (x.base:Int) (8:Int)<6)=bQ x:=by unfold bQ;rw [show Int.tmod (x.base:Int) (8:Int)=((x.base % 8:Nat):Int) from fV x.base 8];exact decide_eq_decide.2 (by omega)
 rw [ek];refine st.run (Cm (cg:=bQ x) hg hc (by have:=hb2.c;omega) (by have:=hb2.p;omega) hb2.n0 (by have:=hb2.n;omega)) λ_ G2 F2 hr l2 st=> ?_;obtain ⟨w2,rfl,hw2⟩:=hr;replace K:=K.le l2;refine ⟨_,rfl,ld (st.le _ _ K.q1) rfl,?_⟩;refine st.put0 (w':=w2) hw2.size hg.size hw2.st λF3 st=> ?_;rw [aI (n:=min (cK x) x.lines.length) (by omega) (by omega)];refine next _ (by omega) ⟨G2,w2,K,?_,st⟩;rw [bu hx,wM];exact hw2
theorem AJ (K:WK F G b1 x sf sl sr) (hg:GV G w g) (hb:Bd g 8 4) (st:St G F1 [pt b4 (.cells w 37),pt b2 (.cells zG 37)]):
  vL b1 b2 (x.base:Int) b4 ((cK x:Nat):Int) (LR F (d6 (x.rules.take 6) (dN x (x.lines.take (cK x)) (famG x g)))) F1:=by
 have hg0:=hg;obtain ⟨c,n,t,s,p,l,f,rfl,hs⟩:=hg;have ec:=hs.c.len (by decide);have ef:=K.rf.len;rw [U6,Vs] at ef;have hn:g.conds.length<=6:=by have:=hb.c;omega
 unfold vL;refine ⟨_,ld (st.le _ _ K.q1) rfl,_,st.ld0 rfl,?_⟩;dsimp only;rw [ec];have hr1:RdS G sf 1 ((x.fam.map λk:Nat=>(k:Int)).map (Value.int .u8)):=by rw [List.map_map];exact K.rf
 refine st.run (P:=λr G=>wZ (dia (wL x g.conds.length)) r G) ((oD hn hr1).mono λr F' ⟨u,t,h1,⟨h2,h3⟩,h4,h5⟩=>⟨⟨u,h1,by subst h3;exact h4⟩,h5⟩) λ_ G2 F2 hr l2 st=> ?_;obtain ⟨_,rfl,hw⟩:=hr;obtain ⟨m,rfl,hm⟩:=hw.out;replace K:=K.le l2;refine ⟨_,rfl,?_⟩;refine st.var (w:= #[m.v,vi (dia (wL x g.conds.length)).2]) (by simp [ak,Sl.v]) (λb6 G3 F3 l3 q6 st=> ?_) rfl rfl;replace K:=K.le l3;have l23:=aa l2 l3;have no:famG x g=g->rA b1 b2 (x.base:Int) b4 ((cK x:Nat):Int) b6 false (LR F (d6 (x.rules.take 6) (dN x (x.lines.take (cK x)) (famG x g)))) F3:=λe=>by rw [e];unfold rA;exact ⟨λh=>(by cases h),λ_=>AI K (hg0.le l23) hb st⟩
 refine ⟨_,ld (st.le _ _ K.q1) rfl,λh1=>⟨_,ld (st.le _ _ q6) rfl,?_⟩,λh1=>no ?_⟩
 ·by_cases h2:(dia (wL x g.conds.length)).2≠0
  ·dsimp only;rw [decide_eq_true h2];have e:famG x g={g with fam:=dia (wL x g.conds.length)}:=by unfold famG;rw [if_pos ⟨λe=>by rw [e] at ef;simp at ef;omega,h2⟩]
   have hb2:=DC (x:=x) hb;rw [e] at hb2 ⊢;unfold rA;refine ⟨λ_=>⟨_,rfl,ac (st.le _ _ q6),?_⟩,λh=>(by cases h)⟩;refine st.putR0 (o:=1) (w':=Gr.arr {g with fam:=dia (wL x g.conds.length)} c m t s p l f) rfl (by simp [ak,Sl.v]) (by show 1+2<=9;decide) rfl λF4 st=> ?_;exact AI K ⟨c,m,t,s,p,l,f,rfl,hs.c.le l23,hm.le l3,hs.t.le l23,hs.s.le l23,hs.p.le l23,hs.l.le l23,hs.f.le l23⟩ hb2 st
  ·dsimp only;rw [decide_eq_false h2];exact no (by unfold famG;rw [if_neg (λh=>h2 h.2)])
 ·unfold famG;rw [if_neg];rintro ⟨h,_⟩;exact h (Vc (by omega))
theorem wP {v:Γ} (hx:yo F v x):ai prog 32 #[.agg v] F (LR F (dp x)):=by
 obtain ⟨⟨sf,sl,sr,rfl,h1,h2,h3⟩,hbase,hn⟩:=hx;refine T4 ?_;unfold Q1;refine (St.start F).newG λb1 G1 F1 l1 q1 _ st=> ?_;have K:WK F G1 b1 x sf sl sr:=⟨l1,q1,h1.le l1,h2.le l1,h3.le l1⟩;clear q1;refine st.new λb2 F2 st=> ?_;have e8:Int.tmod (x.base:Int) (8:Int)=((x.base % 8:Nat):Int):=fV x.base 8;refine ⟨_,ld (st.le _ _ K.q1) rfl,_,ld (st.le _ _ K.q1) rfl,?_⟩;rw [e8];refine st.run (yv (x.base % 8) _) λ_ G2 F3 hr l2 st=> ?_;obtain ⟨w,rfl,hw⟩:=hr;replace K:=K.le l2;refine ⟨_,rfl,?_⟩;refine st.new λb4 F4 st=> ?_;refine st.put0 (w':=w) hw.size rfl hw.st λF5 st=> ?_;have hbs:=p7 x;unfold dp;refine ⟨λhk=> ?_,λhk=> ?_⟩
 ·have hkn:bQ x=false:=by unfold bQ;exact decide_eq_false (by omega)
  have e:dr x={cI (fH x) with conds:=jc x,prods:=[bH ⟨#[102,105,114,115,116]⟩ 0 [⟨true,0⟩]]}:=by unfold dr;rw [hkn,if_neg (by decide)]
  rw [e] at hbs ⊢;have hm:cK x=10:=by unfold cK;rw [hkn,if_neg (by decide)]
  refine st.newG λb19 G3 F6 l3 q19 _ st=> ?_;replace K:=K.le l3;have ei:IntKind.i64.wrap ((1:Int)+(Int.tmod (IntKind.i64.wrap (IntKind.u8.wrap (Int.tdiv (x.n:Int) (4:Int)))) (3:Int)))=((1+x.n / 4 % 3:Nat):Int):=by rw [V8 (by omega),show (x.n:Int) / 4=((x.n / 4:Nat):Int) by omega,wT (by omega),show Int.tmod (IntKind.i64.wrap ((x.n / 4:Nat):Int)) (3:Int)=((x.n / 4 % 3:Nat):Int) from wN (b:=3) (by omega),aS (by omega) (by omega)];omega
  have ej:IntKind.i64.wrap (Int.tmod (x.n:Int) (4:Int))=((x.n % 4:Nat):Int):=by rw [show Int.tmod (x.n:Int) (4:Int)=((x.n % 4:Nat):Int) from fV x.n 4,aS (by omega) (by omega)]
  refine ⟨_,ld (st.le _ _ K.q1) rfl,?_⟩;dsimp only;rw [ei,N4];refine ⟨by omega,by omega,by show _<=3;omega,?_⟩;have hr19:RdS G3 (Sl.mk (some (Addr.mk b19 0 none)) 3 3) 1 (([⟨#[83]⟩,⟨#[80]⟩,⟨#[81]⟩]:List ByteArray).map Value.string):=RdS.new q19 rfl rfl (UW _);have hs19:RL G3 (Sl.cut (Sl.mk (some (Addr.mk b19 0 none)) 3 3) 1 0 (1+x.n / 4 % 3) 3) (fH x):=by refine RL.strs.2 ?_;have:=hr19.cut (l:=0) (r:=1+x.n / 4 % 3) (m:=3) (by omega) (by show _<=3;omega) (by omega);rw [V5,Vz,Vs,We,<- List.map_take] at this;exact this
  refine st.run (mY hs19) λ_ G4 F7 hr l4 st=> ?_;obtain ⟨c,n,t,rfl,k1,k2,k3,k4⟩:=hr;replace K:=K.le l4;refine ⟨_,rfl,?_⟩;refine st.put0 (w':=(cI (fH x)).arr c n t (Sl.cut (Sl.mk (some (Addr.mk b19 0 none)) 3 3) 1 0 (1+x.n / 4 % 3) 3) Sl.nil Sl.nil Sl.nil) rfl hw.size (by simp [ak,Sl.v]) λF8 st=> ?_;refine st.newG λb28 G5 F9 l5 q28 _ st=> ?_;replace K:=K.le l5;refine ⟨_,ld (st.le _ _ K.q1) rfl,?_⟩;dsimp only;rw [ej,N4];refine ⟨by omega,by omega,by show _<=3;omega,?_⟩;have hr28:RdS G5 (Sl.mk (some (Addr.mk b28 0 none)) 3 3) 1 (([⟨#[65]⟩,⟨#[66]⟩,⟨#[67]⟩]:List ByteArray).map Value.string):=RdS.new q28 rfl rfl (UW _);have hs28:RL G5 (Sl.cut (Sl.mk (some (Addr.mk b28 0 none)) 3 3) 1 0 (x.n % 4) 3) (jc x):=by refine RL.strs.2 ?_;have:=hr28.cut (l:=0) (r:=x.n % 4) (m:=3) (by omega) (by show _<=3;omega) (by omega);rw [V5,Vz,Vs,We,<- List.map_take] at this;exact this
  generalize Sl.cut (Sl.mk (some (Addr.mk b19 0 none)) 3 3) 1 0 (1+x.n / 4 % 3) 3=s at*;generalize Sl.cut (Sl.mk (some (Addr.mk b28 0 none)) 3 3) 1 0 (x.n % 4) 3=c' at*;refine st.set0 (w':=Gr.arr {cI (fH x) with conds:=jc x} c' n t s Sl.nil Sl.nil Sl.nil) (by show 0<9;decide) rfl λF10 st=> ?_;refine ⟨Sl.nil,st.ld0 rfl,?_⟩;refine st.runv (kB 0 _) λG6 F11 l6 st=> ?_;refine ⟨_,rfl,st.ld0 rfl,rfl,?_⟩;refine st.newG λb38 G7 F12 l7 q38 _ st=> ?_;have hsy:RL G7 (Sl.mk (some (Addr.mk b38 0 none)) 1 1) [(⟨true,0⟩:Sy)]:=⟨[_],.cons rfl .nil,RdS.new q38 rfl rfl (UW _)⟩;refine st.run (tI ⟨#[102,105,114,115,116]⟩ 0 hsy) λ_ G8 F13 hr l8 st=> ?_;obtain ⟨w2,rfl,hw2⟩:=hr;refine ⟨_,rfl,st.ld0 rfl,Mem.len hw2,?_⟩;obtain ⟨_,_,T⟩:=HG;refine (st.nilOwn 55 13).push0 T (c:=w2) (Mem.len hw2) (Mem.st hw2) (by decide) λs' G9 F14 l9 st hl'=> ?_;obtain ⟨G10,l10,⟨H,hA,hH⟩,st⟩:=st.pin;have hps:RL G10 s' [bH ⟨#[102,105,114,115,116]⟩ 0 [(⟨true,0⟩:Sy)]]:=⟨[w2],.cons (Mem.le (aa l9 l10) hw2) .nil,by rw [bV];exact (cf.rd hA).le hH⟩;refine st.set0 (w':=Gr.arr {cI (fH x) with conds:=jc x,prods:=[bH ⟨#[102,105,114,115,116]⟩ 0 [⟨true,0⟩]]} c' n t s s' Sl.nil Sl.nil) (by show 5<9;decide) rfl λF15 st=> ?_;have l5e:G5.le G10:=aa l6 (aa l7 (aa l8 (aa l9 l10)));have l4e:=aa l5 l5e;have:=AJ (K.le l5e) (g:={cI (fH x) with conds:=jc x,prods:=[bH ⟨#[102,105,114,115,116]⟩ 0 [⟨true,0⟩]]}) ⟨c',n,t,s,s',Sl.nil,Sl.nil,rfl,hs28.le l5e,k2.le l4e,k3.le l4e,k4.le l4e,hps,.nil _,.nil _⟩ hbs st;rw [hm] at this ⊢;exact this
 ·have hkn:bQ x=true:=by unfold bQ;exact decide_eq_true (by omega)
  have e:dr x=cg (x.base % 8):=by unfold dr;rw [hkn,if_pos rfl]
  rw [e] at hbs ⊢;have hm:cK x=6:=by unfold cK;rw [hkn,if_pos rfl]
  have h6:x.base % 8 % 6=x.base % 8:=Nat.mod_eq_of_lt (by omega);rw [h6] at hw;have:=AJ K hw hbs st;rw [hm] at this ⊢;exact this
end
theorem mV {n:Nat}:∀(t:Tr) (S:List Tr),(∀x∈S,∃v l h,x=node v l h/\v<n)->df n t->∀x∈vis t S,∃v l h,x=node v l h/\v<n
 |leaf _,S,hS,_=>hS
 |node v l h,S,hS,⟨h1,h2,h3⟩=>by
  unfold vis;split
  ·exact hS
  ·intro x hx;rcases UX.1 hx with hx|hx
   ·exact mV h _ (mV l S hS h2) h3 x hx
   ·rw [UU.1 hx];exact ⟨v,l,h,rfl,h1⟩
theorem Sx.fit {n:Nat} {t:Tr} (h:Sx n t) (hn:n<=6):ij (dia t) n:=by refine ⟨pG h.1 (by have:=h.len hn;omega),λb hb=> ?_⟩;obtain ⟨x,hx,rfl⟩:=U8.1 (show b∈(aL t).map (br (aL t)) from hb);obtain ⟨v,l,r,rfl,hv⟩:=mV t [] (λx hx=>(by cases hx)) h.2 x hx;show (v:Int)<n;omega
theorem DD {t:Tr} (h:(dia t).2=0):t=leaf false:=by
 cases t with
 |leaf b=>cases b with
  |false=>rfl
  |true=>cases h
 |node v l r=>have:((num (aL (node v l r)) (node v l r):Nat):Int)=0:=h;simp only [num] at this;omega
def SxD (n:Nat) (d:Dia):Prop:=∃t,Sx n t/\d=dia t
theorem SxD.fit {n:Nat} {d:Dia} (h:SxD n d) (hn:n<=6):ij d n:=by obtain ⟨t,h,rfl⟩:=h;exact h.fit hn
theorem SxD.len {n:Nat} {d:Dia} (h:SxD n d) (hn:n<=6):d.1.length<=63:=by obtain ⟨t,h,rfl⟩:=h;exact h.brl hn
theorem aW (n:Nat):SxD n aP:=⟨_,Sx.leaf n true,rfl⟩
instance (i:Nat) (x:Nd):Decidable (okN i x):=by unfold okN;infer_instance
theorem uD {l:List Nd} (h1:l≠[]) (h2:∀i:Fin l.length,okN i.1 (l[i.1]'i.2)) (h3:(usL l).Nodup) (h4:∀i:Fin (l.length - 1),(i.1:Int)∈usL l):GoodL l:=
 ⟨h1,λi x hx=>by obtain ⟨hi,rfl⟩:=N6.1 hx;exact h2 ⟨i,hi⟩,h3,λi hi=>h4 ⟨i,by omega⟩⟩
theorem uE {l:List Nd} (h:GoodL l) (hl:l.length<=512):iZ l=0:=by unfold iZ;rw [if_neg (by omega),if_pos h]
theorem AK:GoodL lq.pat:=uD (by decide) (by decide) (by decide) (by decide)
theorem yq:GoodL jH.pat:=uD (by decide) (by decide) (by decide) (by decide)
theorem wQ:GoodL gP.pat:=uD (by decide) (by decide) (by decide) (by decide)
theorem Hw:LgL lq.pat (bs lq.smp):=by
 obtain ⟨ns,h⟩:=kN AK;unfold LgL;generalize bT lq.pat=t at h;have e3:lq.pat[lq.pat.length - 1]? =some ⟨2,0,0,0,2⟩:=rfl;have e0:lq.pat[0]? =some ⟨1,97,122,0,0⟩:=rfl;have e2:lq.pat[2]? =some ⟨4,0,0,1,0⟩:=rfl;cases h with
 |emp hx hk=>rw [e3] at hx;cases hx;cases hk
 |rng hx hk=>rw [e3] at hx;cases hx;cases hk
 |alt hx hk=>rw [e3] at hx;cases hx;cases hk
 |rep hx hk=>rw [e3] at hx;cases hx;cases hk
 | @seq _ a b x t u na nb hx hk ha hb h1 h2=>
  rw [e3] at hx;cases hx;obtain rfl:a=0:=by have:(0:Int)=a:=ha;omega
  obtain rfl:b=2:=by have:(2:Int)=b:=hb;omega
  refine ⟨[120],[],rfl,?_,?_⟩
  ·cases h1 with
   |emp hx hk=>rw [e0] at hx;cases hx;cases hk
   |seq hx hk=>rw [e0] at hx;cases hx;cases hk
   |alt hx hk=>rw [e0] at hx;cases hx;cases hk
   |rep hx hk=>rw [e0] at hx;cases hx;cases hk
   | @rng _ lo hi x hx hk hlo hhi _ _=>
    rw [e0] at hx;cases hx;refine ⟨120,rfl,?_,?_⟩
    ·have:(97:Int)=lo:=hlo;omega
    ·have:(122:Int)=hi:=hhi;omega
  ·cases h2 with
   |emp hx hk=>rw [e2] at hx;cases hx;cases hk
   |seq hx hk=>rw [e2] at hx;cases hx;cases hk
   |alt hx hk=>rw [e2] at hx;cases hx;cases hk
   |rng hx hk=>rw [e2] at hx;cases hx;cases hk
   |rep hx hk ha h=>exact .nil
abbrev qh (t:Tk):Tk:={t with cond:=aP}
def NG (done:List ByteArray) (t:Tk):Prop:=t.name≠emp/\t.name ∉ done/\0<=t.cls/\t.cls<=2/\(t.lit≠emp->t.smp=emp/\t.pat=[])/\(t.lit=emp->iZ t.pat=0/\(t.cls=0->t.smp≠emp/\LgL t.pat (bs t.smp))/\(t.cls≠0->t.smp=emp))
def DE (done:List ByteArray):List Tk->Prop
 |[]=>True
 |t::r=>NG done t/\DE (done++[t.name]) r
theorem wR {n:Nat}:∀(l:List Tk) (done:List ByteArray),DE done (l.map qh)->(∀t∈l,ij t.cond n)->fk n done l
 |[],_,_,_=>trivial
 |t::l,done,⟨⟨h1,h2,h3,h4,h5,h6⟩,h⟩,hf=>⟨⟨h1,h2,h3,h4,hf t (by simp),h5,h6⟩,wR l _ h λx hx=>hf x (by simp [hx])⟩
theorem jd {done:List ByteArray} {x:ByteArray} (h1:x≠emp) (h2:x ∉ done):NG done (tkL x):=⟨h1,h2,WO 0,by show (0:Int)<=2;decide,λ_=>⟨rfl,rfl⟩,λh=>absurd h h1⟩
theorem DF:DE [] dL:=by
 refine ⟨⟨by decide,by decide,by decide,by decide,λh=>absurd rfl h,λ_=>⟨uE AK (by decide),λ_=>⟨by decide,Hw⟩,λh=>absurd rfl h⟩⟩,jd (by decide) (by decide),jd (by decide) (by decide),jd (by decide) (by decide),jd (by decide) (by decide),jd (by decide) (by decide),jd (by decide) (by decide),jd (by decide) (by decide),jd (by decide) (by decide),?_,?_,trivial⟩
 ·exact ⟨by decide,by decide,by decide,by decide,λh=>absurd rfl h,λ_=>⟨uE yq (by decide),λh=>(by cases h),λ_=>rfl⟩⟩
 ·exact ⟨by decide,by decide,by decide,by decide,λh=>absurd rfl h,λ_=>⟨uE wQ (by decide),λh=>(by cases h),λ_=>rfl⟩⟩
def abc:List ByteArray:=[⟨#[65]⟩,⟨#[66]⟩,⟨#[67]⟩]
structure PrI (n nn:Nat) (p:Pr):Prop where
 cond:SxD n p.cond
 left:0<=p.left/\p.left<nn
 rl:p.right.length<=5
 right:∀s∈p.right,0<=s.i/\(s.t=true->s.i<9)/\(s.t=false->s.i<nn)
 rank: -1<=p.rank/\p.rank<=1
 lay:p.lay.length<=2
 det:nq p
 nm:p.name≠emp/\p.name.size<=13
structure MG (g:Gr):Prop where
 cs:∃n,n<=3/\g.conds=abc.take n
 fam:∃t,Sx g.conds.length t/\t≠leaf false/\g.fam=dia t
 nons:bE g.nons/\∀s∈g.nons,s.size<=10
 start:g.start=0
 toks:g.toks.map qh=dL/\∀t∈g.toks,SxD g.conds.length t.cond
 names:(g.prods.map Pr.name).Nodup/\∀p∈g.prods,∀k,g.prods.length<=k->k<100->p.name≠bi k
 prods:∀p∈g.prods,PrI g.conds.length g.nons.length p
 lvs:eB g [] g.lvs/\∀l∈g.lvs,SxD g.conds.length l.cond
 fils:∀x∈g.fils,bZ g x/\SxD g.conds.length x.cond/\x.toks.length<=2
theorem MG.tok {g:Gr} (h:MG g) {i:Nat} (hi:i<9):∃t,g.toks[i]? =some t/\t.cls=0:=by
 have hl:g.toks.length=11:=by have:=congrArg List.length h.toks.1;rw [U6] at this;exact this
 have hx:=N5 (show i<g.toks.length by omega);refine ⟨_,hx,?_⟩;have h1:=congrArg (λl=>l[i]?) h.toks.1;simp only [U5,hx,VD] at h1;have h2:∀j:Fin 9,∀t,dL[j.1]? =some t->t.cls=0:=by
  intro j t ht;have:∀j:Fin 9,(dL[j.1]?).map Tk.cls=some 0:=by decide
  have:=this j;rw [ht] at this;exact Vl this
 exact h2 ⟨i,hi⟩ (qh _) h1.symm
theorem MG.sym {g:Gr} (h:MG g) {s:Sy} (h1:0<=s.i/\(s.t=true->s.i<9)/\(s.t=false->s.i<g.nons.length)):kC g s:=by refine ⟨h1.1,h1.2.2,λht=>h.tok (by have:=h1.2.1 ht;omega)⟩
theorem wS {g:Gr}:∀(l:List Pr) (done:List ByteArray),(∀p∈l,ig g p/\p.name≠emp/\ij p.cond g.conds.length/\-1<=p.rank/\p.rank<=1/\nq p)->(done++l.map Pr.name).Nodup->dM g done l=0
 |[],_,_,_=>rfl
 |p::l,done,h,hn=>by
  obtain ⟨h1,h2,h3,h4,h5,h6⟩:=h p (by simp);have hnd:p.name ∉ done:=λhm=>by rw [Vi,Vp] at hn;exact hn.2.2 _ hm _ (by simp) rfl
  unfold dM;rw [if_neg (not_not_intro h1),if_neg (not_not_intro ⟨h2,hnd,h3,h4,h5,h6⟩)];refine wS l _ (λq hq=>h q (by simp [hq])) ?_;rw [Vo];exact hn
theorem LO {n:Nat} (hn:n<=3):(∀s∈abc.take n,qx s)/\bE (abc.take n)/\(abc.take n).length<=3:=by
 have h:n=0\/n=1\/n=2\/n=3:=by omega
 have ok:∀s∈abc,qx s:=by
  intro s hs;unfold qx;rcases UT.1 hs with rfl|hs
  ·decide+kernel
  rcases UT.1 hs with rfl|hs
  ·decide+kernel
  rcases UT.1 hs with rfl|hs
  ·decide+kernel
  cases hs
 refine ⟨λs hs=>ok s (Wh hs),?_,by rw [Vb];omega⟩;unfold bE;rcases h with rfl|rfl|rfl|rfl<;>decide
theorem MG.ok {g:Gr} {a b:Nat} (h:MG g) (hb:Bd g a b) (ha:a<=2000) (hb':b<=2000):OkG g:=by
 obtain ⟨n,hn,hc⟩:=h.cs;have hcl:=hb.c;have hpl:=hb.p;have hnl:=hb.n;have htl:=hb.t;have hll:=hb.l;have hfl:=hb.f;obtain ⟨t,ht,ht0,hf⟩:=h.fam;obtain ⟨o1,o2,o3⟩:=LO hn;refine ⟨?_,⟨by rw [hc];exact o1,by rw [hc];exact o2,by rw [hf];exact ht.fit (by omega),λe=>ht0 (DD (by rw [<- hf];exact e))⟩,?_,⟨h.nons.1,by rw [h.start];exact WO 0,by rw [h.start];have:=hb.n0;omega⟩,?_,h.lvs.1,λx hx=>(h.fils x hx).1⟩
 ·unfold dP;rw [Bool.or_eq_false_iff];refine ⟨decide_eq_false (by omega),?_⟩;rw [List.any_eq_false];intro p hp;have h1:=(h.prods p hp).rl;have h2:=(h.prods p hp).lay;rw [decide_eq_true_eq];omega
 ·refine wR _ _ ?_ λt ht=>(h.toks.2 t ht).fit (by omega);rw [h.toks.1];exact DF
 ·refine wS _ _ (λp hp=> ?_) (by rw [Vt];exact h.names.1);have hI:=h.prods p hp;exact ⟨⟨h.sym ⟨hI.left.1,λh=>(by cases h),λ_=>hI.left.2⟩,λs hs=>h.sym (hI.right s hs)⟩,hI.nm.1,hI.cond.fit (by omega),hI.rank.1,hI.rank.2,hI.det⟩
theorem MG.sz {g:Gr} {a b:Nat} (h:MG g) (hb:Bd g a b):Sz g:=by
 refine ⟨λs hs=> ?_,λt ht=> ?_,λl hl=> ?_,λf hf=> ?_⟩
 ·obtain ⟨n,hn,hc⟩:=h.cs;rw [hc] at hs;have:∀s∈abc,s.size<=1000000000:=by decide
  exact this s (Wh hs)
 ·have:qh t∈dL:=by rw [<- h.toks.1];exact WH ht
  have h2:∀u∈dL.map Tk.smp,u.size<=100000:=by decide
  exact h2 _ (U8.2 ⟨_,this,rfl⟩)
 ·have:=hb.lp l hl;omega
 ·have:=(h.fils f hf).2.2;omega
theorem d7 {g g':Gr} (hc:g'.conds.length=g.conds.length) (hp:g.prods.length<=g'.prods.length):∀(l:List Lv) (done:Φ),eB g done l->eB g' done l
 |[],_,_=>trivial
 |x::l,done,⟨⟨h1,h2,h3,h4,h5⟩,h⟩=>⟨⟨h1,h2,by rw [hc];exact h3,λp hp'=>⟨(h4 p hp').1,by have:=(h4 p hp').2;omega⟩,h5⟩,d7 hc hp l _ h⟩
theorem qi {g:Gr} {ps:List Pr} {x:Fi} (h:bZ g x):bZ {g with prods:=g.prods++ps} x:=by
 refine ⟨h.1,?_⟩;rcases h.2 with ⟨k,⟨a,b,c,p,q,hp,hq,hr⟩,r⟩|h|h
 ·exact .inl ⟨k,⟨a,b,c,p,q,by rw [U9 (N6.1 hp).1];exact hp,by rw [U9 (N6.1 hq).1];exact hq,hr⟩,r⟩
 ·exact .inr (.inl h)
 ·exact .inr (.inr h)
theorem uF {i k:Nat} (hi:i<100) (hk:k<100) (h:bi i=bi k):i=k:=by
 have h1:(#[112,UInt8.ofNat (97+i)]:Array UInt8)= #[112,UInt8.ofNat (97+k)]:=congrArg ByteArray.data h;have h2:=congrArg (λa=>a[1]?) h1;have h3:UInt8.ofNat (97+i)=UInt8.ofNat (97+k):=by simpa using h2
 have h4:=congrArg UInt8.toNat h3;simp at h4;omega
theorem MG.line {g:Gr} (h:MG g) {p:Pr} (hn:p.name=bi g.prods.length) (hp:PrI g.conds.length g.nons.length p) (hl:g.prods.length<100):MG {g with prods:=g.prods++[p]}:=by
 refine ⟨h.cs,h.fam,h.nons,h.start,h.toks,⟨?_,λq hq k hk hk2=> ?_⟩,λq hq=> ?_,⟨d7 (g:=g) (g':={g with prods:=g.prods++[p]}) rfl (by show _<=(g.prods++[p]).length;rw [UV];omega) _ _ h.lvs.1,h.lvs.2⟩,λx hx=>⟨qi (h.fils x hx).1,(h.fils x hx).2⟩⟩
 ·show ((g.prods++[p]).map Pr.name).Nodup;rw [Vm,Vp];refine ⟨h.names.1,by simp,λx hx y hy=> ?_⟩;rw [Vi,List.map_nil,UU] at hy;obtain ⟨q,hq,rfl⟩:=U8.1 hx;rw [hy,hn];exact h.names.2 q hq _ (UW _) hl
 ·replace hk:(g.prods++[p]).length<=k:=hk;rw [UV,Va] at hk;rcases UX.1 hq with hq|hq
  ·exact h.names.2 q hq k (by omega) hk2
  ·rw [UU.1 hq,hn];intro e;have:=uF hl hk2 e;omega
 ·rcases UX.1 hq with hq|hq
  ·exact h.prods q hq
  ·rw [UU.1 hq];exact hp
theorem je (r:List Sy) (lo hi:Int):eJ r 0 0 lo hi:=.inl ⟨rfl,rfl⟩
theorem DG {g:Gr} (x:Ln) (hc:g.conds.length<=3) (hn:g.nons.length≠0):PrI g.conds.length g.nons.length (jg g x):=by
 have hlen:(aR g.nons.length x).length<=4:=by unfold aR;rw [U6,Vb];omega
 refine ⟨⟨_,jA (by omega),rfl⟩,⟨by show (0:Int)<=((x.left % g.nons.length:Nat):Int);omega,?_⟩,by show (aR _ _).length<=5;omega,λs hs=> ?_,⟨by show (-1:Int)<=0;decide,by show (0:Int)<=1;decide⟩,by show 0<=2;decide,⟨λy hy=>(by cases hy),je _ _ _,je _ _ _,λh=>(by cases h)⟩,?_,?_⟩
 ·show ((x.left % g.nons.length:Nat):Int)<_;have:=VU x.left (Ws hn);omega
 ·obtain ⟨b,hb,rfl⟩:=U8.1 (show s∈(x.right.take 4).map (lh g.nons.length) from hs);unfold lh;split
  ·exact ⟨by show (0:Int)<=((b % 14:Nat):Int);omega,λ_=>by show ((b % 14:Nat):Int)<9;omega,λh=>(by cases h)⟩
  ·refine ⟨by show (0:Int)<=(((b % 14 - 9) % g.nons.length:Nat):Int);omega,λh=>(by cases h),λ_=> ?_⟩;show (((b % 14 - 9) % g.nons.length:Nat):Int)<_;have:=VU (b % 14 - 9) (Ws hn);omega
 ·intro e;have h2:(2:Nat)=0:=congrArg ByteArray.size (show bi g.prods.length=emp from e);cases h2
 ·show (bi g.prods.length).size<=13;show 2<=13;decide
theorem Hx {n nn:Nat} {p:Pr} (h:PrI n nn p) (_:p.rank=0) (_:p.lay=[]) (h3:p.sco=qz) (h4:p.brk=false) (m:Nat):PrI n nn (cz p m):=by
 obtain ⟨a1,a2,a3,a4,a5,a6,a7,a8⟩:=h;have e1:∀r,eJ r qz.d qz.k 1 7:=λr=>je r _ _;have e2:∀r,eJ r qz.u qz.a 0 255:=λr=>je r _ _;have hl:∀{q:Pr},q.lay=[]->∀x∈q.lay,yD q.right x:=λe x hx=>by rw [e] at hx;cases hx
 unfold cz;split
 ·exact ⟨a1,a2,a3,a4,a5,a6,a7,a8⟩
 rename_i hn0;split
 ·exact ⟨a1,a2,a3,a4,⟨by show (-1:Int)<=1;decide,by show (1:Int)<=1;decide⟩,a6,⟨a7.1,a7.2.1,a7.2.2.1,λh=>by rw [show (p.brk=true)=(false=true) by rw [h4]] at h;cases h⟩,a8⟩
 split
 ·exact ⟨a1,a2,a3,a4,⟨by show (-1:Int)<=-1;decide,by show (-1:Int)<=1;decide⟩,a6,⟨a7.1,a7.2.1,a7.2.2.1,λh=>by rw [show (p.brk=true)=(false=true) by rw [h4]] at h;cases h⟩,a8⟩
 split
 ·refine ⟨a1,a2,a3,a4,a5,a6,⟨a7.1,a7.2.1,a7.2.2.1,λh=> ?_⟩,a8⟩;have:yF p:=by have:uI p=true:=h;unfold uI at this;simpa using this
  exact this
 have hp:0<p.right.length:=Ws hn0;split
 ·have hm:=VU (m / 8 / 4) hp;refine ⟨a1,a2,a3,a4,a5,by show 1<=2;decide,⟨λx hx=> ?_,a7.2.1,a7.2.2.1,λh=>by rw [show (p.brk=true)=(false=true) by rw [h4]] at h;cases h⟩,a8⟩;rw [UU.1 hx];refine ⟨by show (1:Int)<=((1+m / 8 % 4:Nat):Int);omega,by show ((1+m / 8 % 4:Nat):Int)<=4;omega,by show (0:Int)<=((m / 8 / 4 % p.right.length:Nat):Int);omega,by show ((m / 8 / 4 % p.right.length:Nat):Int)<p.right.length;omega,?_,?_,λh=> ?_⟩
  ·show (0:Int)<=if m / 8 % 4=0 then 0 else ((p.right.length - 1:Nat):Int)
   split<;>omega
  ·show (if m / 8 % 4=0 then (0:Int) else ((p.right.length - 1:Nat):Int))<p.right.length;split<;>omega
  ·have h:((1+m / 8 % 4:Nat):Int)=1:=h;show (if m / 8 % 4=0 then (0:Int) else ((p.right.length - 1:Nat):Int))=0;rw [if_pos (by omega)]
 split
 ·exact ⟨a1,a2,a3,a4,a5,a6,⟨a7.1,by show eJ p.right p.sco.d p.sco.k 1 7;rw [h3];exact e1 _,by show eJ p.right p.sco.u p.sco.a 0 255;rw [h3];exact e2 _,λh=>by rw [show (p.brk=true)=(false=true) by rw [h4]] at h;cases h⟩,a8⟩
 have hlt:=VU (m / 8) hp;have ex:(p.right.getD (m / 8 % p.right.length) ⟨false,0⟩).t=true->∃s,p.right[(((m / 8 % p.right.length+1:Nat):Int) - 1).toNat]? =some s/\s.t=true:=λht=>by rw [show (((m / 8 % p.right.length+1:Nat):Int) - 1).toNat=m / 8 % p.right.length by omega];refine ⟨_,N5 hlt,?_⟩;rw [Vr,N5 hlt] at ht;exact ht
 split
 ·split
  ·rename_i ht;exact ⟨a1,a2,a3,a4,a5,a6,⟨a7.1,.inr ⟨by show (0:Int)<((m / 8 % p.right.length+1:Nat):Int);omega,by show ((m / 8 % p.right.length+1:Nat):Int)<=p.right.length;omega,ex ht,by show (1:Int)<=((1+m / 8 % 2:Nat):Int);omega,by show ((1+m / 8 % 2:Nat):Int)<=7;omega⟩,je _ _ _,λh=>by rw [show (p.brk=true)=(false=true) by rw [h4]] at h;cases h⟩,a8⟩
  ·exact ⟨a1,a2,a3,a4,a5,a6,a7,a8⟩
 split
 ·split
  ·rename_i ht;exact ⟨a1,a2,a3,a4,a5,a6,⟨a7.1,je _ _ _,.inr ⟨by show (0:Int)<((m / 8 % p.right.length+1:Nat):Int);omega,by show ((m / 8 % p.right.length+1:Nat):Int)<=p.right.length;omega,ex ht,by show (0:Int)<=((1+m / 8 % 7:Nat):Int);omega,by show ((1+m / 8 % 7:Nat):Int)<=255;omega⟩,λh=>by rw [show (p.brk=true)=(false=true) by rw [h4]] at h;cases h⟩,a8⟩
  ·exact ⟨a1,a2,a3,a4,a5,a6,a7,a8⟩
 ·exact ⟨a1,a2,a3,a4,a5,a6,a7,a8⟩
theorem qj (p:Pr) (m:Nat):(cz p m).name=p.name:=by
 unfold cz
 repeat' split
 all_goals rfl
theorem MG.lineG {g:Gr} (h:MG g) {a b:Nat} (hb:Bd g a b) (ha:a<100) (x:Ln) (kn:Bool):MG (lineG g x kn):=by
 have hp:=hb.p;unfold Go.Proofs.YtcemhghkipgdiaaGreatDoor.lineG;split
 ·exact h
 ·exact h.line (by rw [qj];rfl) (Hx (DG x hb.c hb.n0) rfl rfl rfl rfl _) (by omega)
theorem ql {g:Gr} {y:Lv}:∀(l:List Lv) (done:Φ),eB g done l->LW g (done++l.flatMap Lv.ps) y->eB g done (l++[y])
 |[],done,_,h=>by simp only [List.flatMap_nil,Vx] at h;exact ⟨h,trivial⟩
 |x::l,done,⟨h1,h2⟩,h=>⟨h1,ql l _ h2 (by rw [Vo];exact h)⟩
theorem MG.fil {g:Gr} (h:MG g) {y:Fi} (hd:SxD g.conds.length y.cond) (ht:y.toks.length<=2):MG (j7 g y):=by
 unfold j7;split
 ·rename_i hy;refine ⟨h.cs,h.fam,h.nons,h.start,h.toks,h.names,h.prods,⟨d7 (g:=g) (by rfl) (by exact UW _) _ _ h.lvs.1,h.lvs.2⟩,λx hx=> ?_⟩;rcases UX.1 hx with hx|hx
  ·exact h.fils x hx
  ·rw [UU.1 hx];exact ⟨hy,hd,ht⟩
 ·exact h
theorem MG.lvl {g:Gr} (h:MG g) {a b:Nat} (hb:Bd g a b) (x:Ru):MG (mW g x):=by
 have hp0:0<g.prods.length:=Ws hb.p0;have hd:SxD g.conds.length (ruD g x):=⟨_,jA (by have:=hb.c;omega),rfl⟩;have ha:=VU x.a hp0;have hbb:=VU x.b hp0;unfold mW;split
 ·exact h
 ·rename_i hna;refine ⟨h.cs,h.fam,h.nons,h.start,h.toks,h.names,h.prods,⟨d7 (g:=g) (by rfl) (by exact UW _) _ _ (ql _ _ h.lvs.1 ?_),λy hy=> ?_⟩,h.fils⟩
  ·rw [Vt];refine ⟨by show (0:Int)<=((x.c % 4:Nat):Int);omega,by show ((x.c % 4:Nat):Int)<=3;omega,hd.fit (by have:=hb.c;omega),λp hp=> ?_,?_,λp hp=> ?_⟩
   ·rcases UT.1 hp with rfl|hp
    ·omega
    ·split at hp
     ·rw [UU.1 hp];omega
     ·cases hp
   ·show (_::_).Nodup;rw [VM];split
    ·rename_i hq;refine ⟨?_,by simp⟩;rw [UU];omega
    ·exact ⟨by simp,.nil⟩
   ·rcases UT.1 hp with rfl|hp
    ·exact hna
    ·split at hp
     ·rename_i hq;rw [UU.1 hp];exact hq.2
     ·cases hp
  ·rcases UX.1 hy with hy|hy
   ·exact h.lvs.2 y hy
   ·rw [UU.1 hy];exact hd
theorem Cg {g g':Gr} (h1:g'.conds=g.conds) (h2:g'.prods=g.prods) (h3:g'.nons=g.nons) (ht:∀(i:Nat) (t:Tk),g.toks[i]? =some t->∃t':Tk,g'.toks[i]? =some t'/\t'.cls=t.cls/\t'.lit=t.lit) {x:Fi} (h:bZ g x):bZ g' x:=by
 unfold bZ at h ⊢;unfold od at h ⊢;rw [h1,h2,h3];refine ⟨h.1,?_⟩;rcases h.2 with h|⟨k,⟨a,b,c1,c2,c3⟩,r⟩|⟨k,⟨⟨c1,c2,c3⟩,a,t,t1,t2,t3⟩,r⟩
 ·exact .inl h
 ·refine .inr (.inl ⟨k,⟨a,b,c1,λn hn=> ?_,c3⟩,r⟩);obtain ⟨n0,t,t1,t2⟩:=c2 n hn;obtain ⟨t',u1,u2,u3⟩:=ht _ _ t1;exact ⟨n0,t',u1,by show decide (t'.cls=0)=true;rw [u2];exact t2⟩
 ·obtain ⟨t',u1,u2,u3⟩:=ht _ _ t1;refine .inr (.inr ⟨k,⟨⟨c1,λn hn=> ?_,c3⟩,a,t',u1,by rw [u2];exact t2,by rw [u3];exact t3⟩,r⟩);obtain ⟨n0,t,t1,t2⟩:=c2 n hn;obtain ⟨t',u1,u2,u3⟩:=ht _ _ t1;exact ⟨n0,t',u1,by show (!decide (t'.lit=emp))=true;rw [u3];exact t2⟩
theorem MG.tokG {g:Gr} (h:MG g) {a b:Nat} (hb:Bd g a b) (x:Ru):MG (tokG g x):=by
 have hd:SxD g.conds.length (ruD g x):=⟨_,jA (by have:=hb.c;omega),rfl⟩;unfold Go.Proofs.YtcemhghkipgdiaaGreatDoor.tokG;refine ⟨h.cs,h.fam,h.nons,h.start,⟨?_,λt ht=> ?_⟩,h.names,h.prods,⟨d7 (g:=g) (by rfl) (by exact UW _) _ _ h.lvs.1,h.lvs.2⟩,λy hy=>⟨Cg (g:=g) (by rfl) (by rfl) (by rfl) (λi t ht=> ?_) (h.fils y hy).1,(h.fils y hy).2⟩⟩
 ·rw [<- h.toks.1];apply VI;intro i;simp only [U5,Wg];cases g.toks[i]? with
  |none=>rfl
  |some t=>simp only [VD];split<;>rfl
 ·obtain ⟨i,hi⟩:=List.mem_iff_getElem?.1 ht;rw [Wg] at hi;cases ht':g.toks[i]? with
  |none=>rw [ht'] at hi;simp at hi
  |some u=>
   rw [ht'] at hi;simp only [Option.map_eq_map,VD,Option.some.injEq] at hi;subst hi;split
   ·exact hd
   ·exact h.toks.2 u (UY ht')
 ·show ∃t',(g.toks.modify (x.a % 9) _)[i]? =some t'/\_;rw [Wg,ht];refine ⟨_,rfl,?_⟩;simp only [];split<;>exact ⟨rfl,rfl⟩
theorem MG.ruleG {g:Gr} (h:MG g) {a b:Nat} (hb:Bd g a b) (x:Ru):MG (ruleG g x):=by
 have hd:SxD g.conds.length (ruD g x):=⟨_,jA (by have:=hb.c;omega),rfl⟩;unfold Go.Proofs.YtcemhghkipgdiaaGreatDoor.ruleG;split
 ·exact h.lvl hb x
 split
 ·exact h.fil hd (by show 0<=2;decide)
 split
 ·exact h.fil hd (by show 1<=2;decide)
 split
 ·exact h.fil hd (by show 1<=2;decide)
 ·exact h.tokG hb x
theorem MG.lines {x:Rw}:∀(l:List Ln) {g:Gr} {a b:Nat},MG g->Bd g a b->a+l.length<100->MG (dN x l g)
 |[],g,a,b,h,_,_=>h
 |y::l,g,a,b,h,hb,hl=>by rw [Vf] at hl;exact MG.lines (x:=x) l (h.lineG hb (by omega) y (bQ x)) (AG hb y (bQ x)) (by omega)
theorem MG.rules:∀(l:List Ru) {g:Gr} {a b:Nat},MG g->Bd g a b->MG (d6 l g)
 |[],g,a,b,h,_=>h
 |y::l,g,a,b,h,hb=>MG.rules l (h.ruleG hb y) (AH hb y)
theorem MG.famG {g:Gr} (h:MG g) {a b:Nat} (hb:Bd g a b) (x:Rw):MG (famG x g):=by
 unfold Go.Proofs.YtcemhghkipgdiaaGreatDoor.famG;split
 ·rename_i hc;refine ⟨h.cs,⟨wL x g.conds.length,uC (n:=g.conds.length) _ (by have:=hb.c;omega) g.conds.length 0 0 (by omega),λe=>hc.2 (by rw [e];rfl),rfl⟩,h.nons,h.start,h.toks,h.names,h.prods,⟨d7 (g:=g) (by rfl) (by exact UW _) _ _ h.lvs.1,h.lvs.2⟩,h.fils⟩
 ·exact h
end Go.Proofs.YtcemhghkipgdiaaGreatDoor
