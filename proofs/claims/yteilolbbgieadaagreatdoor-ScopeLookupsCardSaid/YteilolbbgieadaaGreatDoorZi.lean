/-
  The reference's terms: heights.
-/
import Derived.Test.YteilolbbgieadaaGreatDoorCc
import Derived.Maps.AppendAt
set_option maxRecDepth 10000
open Option renaming some->V,none->I
open Go.Obj renaming cells->Y
open Bool renaming false->mz,true->mY
open Go.Value renaming agg->nL,bool->nS,int->ru,pointer->ph,string->pe,tuple->pk,slice->tS
open Go.Addr renaming add->nR,mk->ou
open Int renaming toNat->nT,tmod->sq
open Array renaming setIfInBounds->rV
noncomputable section
namespace Go.Proofs.YteilolbbgieadaaGreatDoor
open Go.IntKind (i64 u8 u64)
open Sl renaming v->nE,nil->pi,mk->ua
open Go Go.Proofs.Tryz
structure GdG (g:Gr) (k:Nat):Prop where
 ok:OkK g k
 sz:Sz g
 nc:¬kU g
section
variable {F G:PH} {g:Gr} {k:Nat} {T:Dtr} {c:Int}
theorem uh {v:Γ} (D:Tab F) (E:GV F v g) (w:GdG g k):ν 47 #[nL v] F λr B=>r=U 0/\F.le B:=
 (By D E w.sz w.ok).mono λ_ _ ⟨C,A⟩=>⟨C.elim (λh=>absurd h.1 w.nc) λh=>h.2,A⟩
theorem FI {t cs n tk s p l f:Sl} {b2 b3:Nat} (hf:dU g T) (hN:szN T<=2000000) (q3:F b3=V (Y #[t.v] 43)) (q2:F b2=V (Y (g.arr cs n tk s p l f) 39)) (hs:GS F g cs n tk s p l f) (ht:RL F t (vD T)):
  ν 82 #[nL #[cs.v,n.v,U g.fam.2,tk.v,s.v,p.v,U g.start,l.v,f.v,U ((szN T:Nat):Int),.func (.func 81) #[] #[Pp b3,Pp b2]]] F λr W=>(∃s',r=nE s'/\RL W s' (U5 T))/\F.le W:=by
 have b9:=gb T;refine qgD ?_;unfold Vv;refine (St.start F).newG λb1 G1 F1 l1 q1 _ h=> ?_;refine ⟨_,ld (h.le _ _ q1) rfl,λP=>absurd P (by omega),λ_=>⟨_,ld (h.le _ _ q1) rfl,λP=>absurd P (by omega),λ_=>⟨_,ld (h.le _ _ q1) rfl,?_⟩⟩⟩;refine bT underlying76 X5 X7 rfl (by omega) (Va _) (by omega) (by omega) ?_;intro J a8;have h:=Ya (h.new (K:=λb W=>St G1 W [pt b (Y (Builtin.zeroCells (Value.int .i64 0).cells (nT ((szN T:Nat):Int))) 3)]) (λ_ _ h=>h) J a8);refine ⟨_,rfl,_,ld (h.le _ _ q1) rfl,?_⟩;have h:=h.imp (A':=own (ua (V (ou J 0 I)) (nT ((szN T:Nat):Int)) (nT ((szN T:Nat):Int))) 3 1 ((List.replicate (szN T) (0:Int)).map U)) 0 rfl λH _ hH=>by
  refine .inr ⟨J,_,rfl,hH,?_,qX _,?_,?_⟩
  ·simp [Builtin.zeroCells,Value.cells]
  ·simp
  ·simp [Builtin.zeroCells,Value.cells,Nat.mod_one];rw [show (λ_:Nat=>ru .i64 0)=Function.const Nat (ru .i64 0) from rfl,List.map_const,V4,List.take_replicate,Nat.min_self]
 generalize c2:ua (V (ou J 0 I)) (nT ((szN T:Nat):Int)) (nT ((szN T:Nat):Int))=D at*;have h:=h.push (A:=own pi 223 2 []) (H:=λ_=>I) (.inl ⟨rfl,rfl⟩) (λb hb=>absurd rfl hb) (λb o hb=>by cases hb) (au _);have X:(VI 0 T).length=szN T:=jE 0 T;refine gx (λN x v F=>BP N b1 D ((szN T:Nat):Int) _ x v F) (szN T) (X8 g (vD T) (VI 0 T) (szN T) D G1 mY) pi ⟨G1,[],[],List.replicate (szN T) 0,au _,h,.nil,⟨rfl,yv _⟩,Xx,λq v hq=>by omega,by rw [Χ rfl],λ_ x B r he=>by cases he⟩ ?_;rintro j st F3 Nx hj hI next;obtain ⟨G',fs,vs,E,lG,L,hr,⟨hl,a9⟩,hE,hq,w,O⟩:=id hI;unfold BP;have C:=aa l1 lG;have a6:=hs.le C;have a7:=lG _ _ q1;refine ⟨λQ=> ?_,λc3=> ?_⟩
 ·have Q:j<szN T:=by omega
  obtain ⟨c,M,b7,a4,a0,b5⟩:∃(c:Dtr) (M:List (Nat×List Dtr)),(vD T)[j]? =V c.root/\dU g c/\((fs=[]/\M=[])\/∃x B rest,fs=(x,c::B)::rest/\M=(x,B)::rest)/\WX g (vD T) (VI 0 T) (szN T) (j+1) ((j,c.kids)::M):=by
   by_cases h0:j=0
   ·subst h0;rw [Χ rfl] at w;exact ⟨T,[],by rw [kX];rfl,hf,.inl ⟨w,rfl⟩,Jg hf⟩
   ·rw [Υ h0] at w;cases fs with
    |nil=>exact absurd w (by show ¬j=szN T;omega)
    |cons y rest=>
     obtain ⟨x,B⟩:=y;cases B with
     |nil=>exact absurd rfl (O rfl x [] rest rfl)
     |cons c B=>obtain ⟨a1,a2,a3⟩:=Jf w;exact ⟨c,(x,B)::rest,a1,a2,.inr ⟨x,B,rest,rfl,rfl⟩,a3⟩
  refine ⟨_,ld (L.le _ _ a7) rfl,81,#[],#[Pp b3,Pp b2],rfl,qgs,?_⟩;refine L.runv (IC (i:=j) (C _ _ q3) (C _ _ q2) a6 (ht.le C) b7 a4.here) λG4 F4 l4 h4=>⟨_,_,_,rfl,⟨λP=>(by cases P),λ_=> ?_⟩⟩;have go:∀R:VR,se Nx b1 D st (j:Int) c.root.pr c.root.tk ((szN T:Nat):Int) R F4:=λR=>Mw hN Q X (l4 _ _ a7) (a6.le l4) a4 (aa lG l4) h4 (hr.le l4) hl a9 hE hq a0 b5 λb0 W b4=>next b0 W Q b4;refine ⟨λc4=>⟨λhz=> ?_,λ_=>go _⟩,λ_=>go _⟩;rcases a0 with ⟨rfl,_⟩|⟨x,B,rest,rfl,_⟩
  ·rw [Υ (by omega)] at w;exact absurd w (by show ¬j=szN T;omega)
  ·rw [wc] at hl;omega
 ·obtain rfl:j=szN T:=by omega
  unfold Jj;rw [Υ (by omega)] at w;have a5:fs=[]:=by
   cases fs with
   |nil=>rfl
   |cons y rest=>
    obtain ⟨x,B⟩:=y;cases B with
    |nil=>exact absurd rfl (O rfl x [] rest rfl)
    |cons c B=>have:=BM w.2.2.2.2;rw [dc] at this;have:=gb c;omega
  subst a5;refine ⟨λP=>by rw [hl] at P;exact absurd P (by decide),λ_=> ?_⟩;have b6:E=U5 T:=by
   refine WJ λq=> ?_;unfold U5;rw [yc];cases e:(VI 0 T)[q]? with
   |some v=>have b8:=(N6.1 e).1;exact hq q v (by omega) (λx hx=>by cases hx) e
   |none=>have:=List.getElem?_eq_none_iff.1 e;rw [Option.map_none,List.getElem?_eq_none_iff];omega
  subst b6;obtain ⟨H,a1,a2,a3⟩:=L.get (i:=1) rfl;exact ⟨⟨D,rfl,RL.ints.2 ((bP.rd a1).le a3)⟩,aa C L.le⟩
theorem qfn {C H B w D h E r A u v:ξ}:rV (rV (wr (#[tS I 0 0,.slice I 0 0,U 0,.slice I 0 0,.slice I 0 0,.slice I 0 0,U 0,.slice I 0 0,.slice I 0 0,U 0,.nilFunc]:Γ) 0 (#[C,H,B,w,D,h,E,r,A]:Γ).toList) 9 u) 10 v= #[C,H,B,w,D,h,E,r,A,u,v]:=by kernel_rfl
theorem ko {v:Γ} {t:Sl} (Q:GV F v g) (M:dU g T) (H:szN T<=2000000) (E:RL F t (vD T)):ν 48 #[nL v,t.v] F λr B=>(∃w,r=nE w/\RL B w (U5 T))/\F.le B:=by obtain ⟨cs,n,R,s,p,l,f,rfl,N⟩:=Q;refine qgA ?_;unfold Vs;refine (St.start F).newG λb2 G1 X J q2 _ h=> ?_;refine h.newG λW G2 F2 C q3 _ h=> ?_;have A:=aa J C;refine ⟨_,rfl,ai (h.le _ _ (C _ _ q2)),t,ld (h.le _ _ q3) rfl,rfl,?_⟩;have K:t.len=szN T:=E.len;rw [K,qfn];refine h.run (P:=λr B=>∃w,r=nE w/\RL B w (U5 T)) (FI M H q3 (C _ _ q2) (N.le A) (E.le A)) λ_ G3 F3 L O h=> ?_;obtain ⟨w,rfl,D⟩:=L;exact ⟨w,rfl,⟨w,rfl,D.le h.le⟩,aa A (aa O h.le)⟩
end
open Go.RowKit Go.Shelf
attribute [local go_sem] Oper.semAt_some
theorem L8:(prog.info? 3).map (λi=>(i.zero,i.size,i.bytes))=V (V (ru .i64 0),1,8):=by kernel_rfl
section
variable {e:Ev} {F:PH} {T m:Dtr} {i b2 b3:Nat} {s:Sl}
set_option maxRecDepth 100000 in
set_option maxHeartbeats 4000000 in
theorem qhH (w:World) (J:Sat e w F) (hm:bK T i=V m) (hT:szN T<=2000000) (q2:F b2=V (Y #[s.v] 76)) (q3:F b3=V (Y #[U (i:Int)] 3)) (hs:RL F s (U5 T)):
  CallsIn Fence.wide 3 prog 83 #[tS I 0 0,.func (.func 84) #[] #[ph (V ⟨b3,0,I⟩),ph (V ⟨b2,0,I⟩)]] w λen w'=>∃v,en=.returned v/\Sat e w' F/\w'.ownsRow w.heap.size 3 1 v m.kids.length ((gH (bV i m.kids) m.kids.length).map λx=>U ((x:Nat):Int)):=by
 refine callsIn_of_wp_marks func83 rfl trivial ?_ rfl;simp only [ntmps83,XB,wc,W7,Nat.reduceAdd,Nat.reduceSub,Array.replicate_succ,Array.replicate_zero,List.push_toArray,Yf,zE,zK];obtain ⟨i0,hi,P,Q,N⟩:=info_parts L8;have a2:m.kids.length<=2000000:=by
  have h1:=sub_le hm;rw [cL] at h1;have h2:∀l:List Dtr,l.length<=xv l:=λl=>by
   induction l with
   |nil=>exact yv _
   |cons n l ih=>rw [dc,wc];have:=gb n;omega
  have:=h2 m.kids;omega
 gi_wp2
 refine wpIn_rangeFunc_ownF (α:=Nat) rfl (by decide) (gf:=84) (lb:= #[ph (V ⟨b3,0,I⟩),ph (V ⟨b2,0,I⟩)]) rfl trivial (enters_of func84 (by kernel_rfl) rfl)
  (rE w J hm hT q2 q3 hs (λx=>x) (bV i m.kids) (λk hk=>rfl) (by decide))
  (λh k s=>k (h s)) (λW r o o' hr ho h1 h2 hS=>eH hS (gI J) (grownBy_putObj' W r o') λr' X=>by cases X;simp at hr;omega) ((Below.refl _ w).alloc (qX _) _) (λ_=>rfl)
  (λg W=>(∃v,Boxed W w.heap.size 76 v/\W.ownsRow w.heap.size 3 1 v g.length (g.map λx=>U ((x:Nat):Int))/\True)/\Below w.heap.size w W)
  (λ_ _ _=>False)
  (OwnFrom.and (Own.from (holdsRow_own w.heap.size w.heap.size 76 3 1 (λg:Δ=>g.length) (λg=>g.map λx=>U ((x:Nat):Int)) (λ_ _=>True)) _) (ownFrom_below (qX _) (by simp)))
  (λ_ _ _ _ _ hs _ _=>hs)
  ⟨⟨_,Boxed.new w _ _,World.ownsRow_nil _ _ _ _,trivial⟩,(Below.refl _ w).alloc (qX _) _⟩
  (λx=>{tmps:= #[tS I 0 0,.func (.func 84) #[] #[ph (V ⟨b3,0,I⟩),ph (V ⟨b2,0,I⟩)],ph (V ⟨w.heap.size,0,I⟩),undef,tS I 0 0,U (x:Int),.func (.func 84) #[] #[ph (V ⟨b3,0,I⟩),ph (V ⟨b2,0,I⟩)],U (x:Int),undef,undef,undef,undef,undef],defers:=[]}) ?assign ?body ?done ?stop
 case assign=>
  intro l x W K L
  gi_wp2
  exact L
 case body=>
  rintro l g x W ⟨⟨v,M,A,_⟩,E⟩ a5;have a0:=M.cell;have a7:w.heap.size<=W.heap.size:=E.size;have p1:g.length+1<=maxLen:=by unfold maxLen;omega
  have p2:(g.length+1)*8<=140737488355328:=by omega
  have p3:w.heap.size<=(W.alloc (Y #[U (x:Int)] 3)).heap.size:=by rw [World.size_alloc];omega
  gi_wp2_with (gi_at_builtin;refine wpListIn_append_own _ rfl _ _ 76 rfl w.heap.size 3 i0 (.int .i64 0) 1 8 underlying76 hi P Q N rfl (by decide) _ _ _ rfl (A.alloc _) ⟨W.heap.size,0,I⟩ 1 1 [U (x:Int)] rfl rfl (cell_one_new _ _ _) (by simp [Value.oneCell']) p1 p2 p3 ?_;intro v' w1 B C _;obtain ⟨g',a3,rfl⟩:=ownsRow_succ B;obtain ⟨G,a1,O,R,H⟩:=M.appended (by decide) A E.size (qX _) B C;have a6:=G.cell;have a4:=G.frozen)
  refine ⟨R,λ_=>rD J (E.trans H),⟨_,a1,?_,trivial⟩,E.trans H⟩;rw [tT,yT];exact O
 case done=>
  rintro D ys W hD rfl ⟨⟨v,M,A,_⟩,E⟩ L;have a0:=M.cell
  gi_wp2
  refine ⟨by simp,.inl ⟨_,_,rfl,run_takeDeferred L,?_⟩⟩;refine ⟨_,results_tmp rfl _ _ _,v,rfl,?_,?_⟩
  ·exact eH (rD J E) (gI J) (grownBy_putObj' W D _) λr X=>by cases X;simp at hD;omega
  ·have:=ownsRow_putObj A (.deferred I) L rfl;rwa [lP] at this
 case stop=>
  rintro D c g W hD _ h _;exact h.elim
theorem L9 {W:World} {B:Nat} {v:ξ} {vs:Ξ} (w:Sat e W F) (K:∀b o,F b=V o->b<B) (N:∀b o,e.fr b=V o->b<B) (h:W.ownsRow B 3 1 v vs.length vs):∃(G:PH) (H:Sl),Sat e W G/\F.le G/\v=H.v/\RdS G H 1 vs:=by
 rcases h.2 with ⟨rfl,J⟩|⟨g,cap,C,rfl,P,E,L,_,_,M⟩
 ·exact ⟨F,pi,w,au F,rfl,by
   have:vs=[]:=V5 J;rw [this]
   exact RdS.nil F _⟩
 ·have A:∀b,b<B->b≠g:=λb r D=>by omega
  have O:F.le (F.set g (Y C 3 (0,0))):=λb o r=>by rw [aw _ _ (A b (K b o r))];exact r
  refine ⟨F.set g (Y C 3 (0,0)),⟨V ⟨g,0,I⟩,vs.length,cap⟩,⟨w.os,w.tape,w.output,λb o r=> ?_,λb o r=> ?_⟩,O,rfl,RdS.new (aq _ _ _) M (by omega) L⟩
  ·by_cases D:b=g
   ·rw [D,aq] at r;rw [D,E,<- r]
   ·rw [aw _ _ D] at r;exact w.heap b o r
  ·rw [aw _ _ (A b (N b o r))];exact w.frame b o r
theorem yi:∀l:Φ,bS F l (l.map λx=> #[U x])
 |[]=> .nil
 |_::l=> .cons rfl (yi l)
theorem qhl (K:bK T i=V m) (P:szN T<=2000000) (q2:F b2=V (Y #[s.v] 76)) (q3:F b3=V (Y #[U (i:Int)] 3)) (M:RL F s (U5 T)):
  ν 83 #[nE pi,.func (.func 84) #[] #[ph (V ⟨b3,0,I⟩),ph (V ⟨b2,0,I⟩)]] F λr C=>(∃g,r=nE g/\RL C g ((gH (bV i m.kids) m.kids.length).map Int.ofNat))/\F.le C:=λe w h=>by
 refine ((callsIn_wide (n:=3)).1 (qhH w h K P q2 q3 M)).mono ?_;rintro X W ⟨v,O,E,Q⟩;have R:((gH (bV i m.kids) m.kids.length).map λx=>U ((x:Nat):Int)).length=m.kids.length:=by rw [ub,lP]
 obtain ⟨G,g,N,D,L,J⟩:=L9 (B:=w.heap.size) E (λb o A=>h.lt A) (λb o A=>gI h b o (.inr A)) (by rw [R];exact Q);refine ⟨v,G,O,N,⟨g,L,_,yi _,?_⟩,D⟩;have H:tZ (((gH (bV i m.kids) m.kids.length).map Int.ofNat).map λx=> #[U x])=(gH (bV i m.kids) m.kids.length).map λx=>U ((x:Nat):Int):=by unfold tZ;rw [X3,List.flatMap_map];exact Ku (λx:Nat=>U ((x:Nat):Int)) _
 rw [H];exact J
end
open Tr
set_option maxHeartbeats 4000000
theorem kK {F:PH} {a:Addr} {y:Int} {K:Int->Prop} (h:F.cell a=V (U y)):(∃v:Int,F.cell a=V (ru .i64 v)/\K v)↔K y:=
 ⟨λ⟨v,g,k⟩=>by rw [h] at g;cases g;exact k,λk=>⟨y,h,k⟩⟩
theorem C8 {k:Int} (h:0<=k/\k<=4):mR k=ar k/\0<=ar k:=by
 unfold mR ar;split
 ·exact ⟨rfl,by omega⟩
 ·split
  ·exact ⟨rfl,by omega⟩
  ·rw [Χ (by omega)];exact ⟨rfl,by omega⟩
theorem yj {k:Int} (h:0<=ar k):0<=k/\k<=4:=by have:=ti h;omega
section
variable {F:PH}
theorem AJ {s:Sl} {l:List Nd} (hs:RdS F s 5 (dE l)) {i:Nat} {x:Nd} (hx:l[i]? =V x) (a2:(i:Int)<9223372036854775807):ν 188 #[s.v,U i] F λr O=>(∃b:Bool,r=nS b/\(b=mY↔yY i x))/\F.le O:=by
 obtain ⟨a,ha,N⟩:=Xl hs hx;have a1:=hs.nlen;have hi:=(N6.1 hx).1;refine qeh ?_;unfold QG;refine ⟨a,ha,by omega,by omega,x.arr,rfl,N,λE a0=> ?_⟩;refine tR ?_;refine Ud (aq _ _ _) rfl rfl (gm x) ?_;rw [aR];have l5:F.le (F.set E (Y x.arr 225)):=ae _ a0;have q5:=aq F E (Y x.arr 225);generalize F.set E (Y x.arr 225)=H at*;have c0:H.cell (ou E 0 I)=V (U x.k):=by rw [av q5];rfl
 have c1:H.cell (ou E 1 I)=V (U x.lo):=by rw [av q5];rfl
 have c2:H.cell (ou E 2 I)=V (U x.hi):=by rw [av q5];rfl
 have c3:H.cell (ou E 3 I)=V (U x.a):=by rw [av q5];rfl
 have c4:H.cell (ou E 4 I)=V (U x.b):=by rw [av q5];rfl
 refine ⟨x.k,c0,?_⟩;refine (kF H x.k).mono ?_;rintro _ F2 ⟨rfl,e⟩;obtain rfl:=e.symm;have K:∀b:Bool,(b=mY↔yY i x)->(∃J:Bool,nS b=nS J/\(J=mY↔yY i x))/\F.le H:=λb hb=>⟨⟨b,rfl,hb⟩,l5⟩;refine ⟨_,_,rfl,λR=>K _ ?_,λR=> ?_⟩
 ·have L:¬(0<=x.k/\x.k<=4):=by
   have:decide (0<=x.k/\x.k<=4)=mz:=by simpa only [ee,Bool.not_eq_true'] using R
   exact ι this
  exact ⟨λh=>by (cases h),λh=>absurd (yj h.1) L⟩
 have L:0<=x.k/\x.k<=4:=by simpa [ee] using R
 obtain ⟨hn,X⟩:=C8 L;rw [hn];clear R hn;have B:∀(P:Prop),¬P->(mz=mY↔P):=λP h=>⟨λh=>by (cases h),λQ=>absurd Q h⟩;have t1:∀(P:Prop),P->(mY=mY↔P):=λP h=>⟨λ_=>h,λ_=>rfl⟩;have j2:(ar x.k<1->x.a=0)->(ar x.k<2->x.b=0)->(x.k=1->0<=x.lo/\x.lo<=x.hi/\x.hi<=255)->(x.k≠1->x.lo=0/\x.hi=0)->jJ i E (ar x.k) (λr O=>(∃J:Bool,r=nS J/\(J=mY↔yY i x))/\F.le O) H:=λha hb G C=>by have e:yY i x↔(1<=ar x.k->0<=x.a/\x.a<i)/\(2<=ar x.k->0<=x.b/\x.b<i):=⟨λh=>⟨h.2.2.2.2.2.1,h.2.2.2.2.2.2⟩,λh=>⟨X,G,C,ha,hb,h.1,h.2⟩⟩;unfold jJ;simp only [kK c3,kK c4];refine ⟨λh=>⟨λQ=>K _ (t1 _ (e.2 ⟨by omega,by omega⟩)),λQ=>absurd Q (by omega)⟩,λh=>⟨λA=>⟨λw=>⟨λD=>K _ (t1 _ (e.2 ⟨λ_=>⟨A,w⟩,by omega⟩)),λD=>⟨λM=>K _ ?_,λM=>K _ (B _ λg=>M ((e.1 g).2 (by omega)).1)⟩⟩,λw=>K _ (B _ λg=>w ((e.1 g).1 (by omega)).2)⟩,λA=>K _ (B _ λg=>A ((e.1 g).1 (by omega)).1)⟩⟩;rw [δ,e];exact ⟨λW=>⟨λ_=>⟨A,w⟩,λ_=>⟨M,W⟩⟩,λW=>(W.2 (by omega)).2⟩
 have j1:(x.k=1->0<=x.lo/\x.lo<=x.hi/\x.hi<=255)->(x.k≠1->x.lo=0/\x.hi=0)->qD i E (ar x.k) (λr O=>(∃J:Bool,r=nS J/\(J=mY↔yY i x))/\F.le O) H:=λG C=>by unfold qD;simp only [kK c3,kK c4];refine ⟨λh=>⟨λA=>K _ (B _ λg=>A (g.2.2.2.1 h)),λA=>⟨λw=>⟨λD=>K _ (B _ λg=>D (g.2.2.2.2.1 w)),λD=>j2 (λ_=>by omega) (λ_=>by omega) G C⟩,λw=>absurd w (by omega)⟩⟩,λh=>⟨λw=>⟨λD=>K _ (B _ λg=>D (g.2.2.2.2.1 w)),λD=>j2 (λh=>by omega) (λ_=>by omega) G C⟩,λw=>j2 (λh=>by omega) (λh=>by omega) G C⟩⟩
 simp only [kK c0,kK c1,kK c2]
 refine ⟨λh=>⟨λG=>K _ (B _ λg=>G (g.2.2.1 h).1),λG=>⟨λC=>K _ (B _ λg=>C (g.2.2.1 h).2),λC=>⟨λA=>absurd A (by omega),λA=>⟨λw=>absurd w (by omega),λw=>⟨λD=>absurd D (by omega),λD=>j1 (λM=>absurd M h) (λ_=>⟨by omega,by omega⟩)⟩⟩⟩⟩⟩,
  λh=>⟨λG=>K _ (B _ λg=>by have:=g.2.1 (by omega);omega),λG=>⟨λC=>K _ (B _ λg=>by have:=g.2.1 (by omega);omega),λC=>⟨λA=>K _ (B _ λg=>by have:=g.2.1 (by omega);omega),λA=>j1 (λ_=>⟨by omega,by omega,by omega⟩) (λM=>absurd (by omega) M)⟩⟩⟩⟩
def pd (n:Nat) (W:Φ):Ξ:=(List.range n).map λ(i:Nat)=>U (W.count (i:Int):Nat)
theorem HI {n:Nat} {W:Φ} {i:Nat} (hi:i<n):(pd n W).toArray[i]? =V (U (W.count (i:Int):Nat)):=by simp [pd,hi]
theorem HJ (n:Nat) (W:Φ) (i:Nat) (hi:i<n):(pd n W).toArray.setIfInBounds i (U ((W.count (i:Int)+1:Nat):Int))=(pd n ((i:Int)::W)).toArray:=by
 apply Array.ext';rw [Array.toList_setIfInBounds];apply WJ;intro j;rw [Yj];simp only [pd,ub,V4,yc];by_cases h:i=j
 ·subst h;rw [Χ rfl,Χ hi,Xz hi];simp
 ·rw [Υ h];by_cases g:j<n
  ·rw [Xz g];simp only [Vz];rw [List.count_cons_of_ne (by omega)]
  ·rw [VM (by simp;omega)];rfl
structure Cnt (F0 F:PH) (u n:Nat) (W:Φ):Prop where
 zu:F0 u=I
 le:F0.le F
 qu:F u=V (Y (pd n W).toArray 3)
theorem Cnt.cell {F0 F:PH} {u n:Nat} {W:Φ} (h:Cnt F0 F u n W) {k:Int} (g:0<=k) (r:k<n):F.cell ((ou u 0 I).add (nT k*1))=V (U (W.count k:Nat)):=by obtain ⟨i,rfl⟩:=Xw g;rw [N4,xB,show (ou u 0 I).add i=⟨u,i,I⟩ by simp [nR];omega,av h.qu];exact HI (by omega)
theorem Cnt.inc {F0 F:PH} {u n:Nat} {W:Φ} (h:Cnt F0 F u n W) {k:Int} (w:0<=k) (B:k<n) (C:W.length<=100000) {K:Ψ} (r:∀g,Cnt F0 g u n (k::W)->K g):
  ∃c e,F (nR (ou u 0 I) (nT k*1)).block=V (Y c e (0,0))/\(nR (ou u 0 I) (nT k*1)).spot=I/\(nR (ou u 0 I) (nT k*1)).off<c.size/\
   xG (F.set (nR (ou u 0 I) (nT k*1)).block (Y (c.setIfInBounds (nR (ou u 0 I) (nT k*1)).off (ru .i64 (i64.wrap ((W.count k:Nat)+(1:Int))))) e)) K:=by
 obtain ⟨i,rfl⟩:=Xw w;have A:W.count (i:Int)<=W.length:=List.count_le_length;rw [ff (by omega)];refine tG (b:=u) (o:=i) (by rw [N4,xB];simp [nR];omega) h.qu (by simp [pd];omega) ?_;rw [HJ n W i (by omega)];exact r _ ⟨h.zu,aB h.le h.zu,aq _ _ _⟩
theorem C9:∀(l:List Nd),(w7 l).length<=2*l.length
 |[]=>qX _
 |x::l=>by
  have:=C9 l;have:(us x).length<=2:=by unfold us;split<;>(try split)<;>simp
  simp only [w7,tT,wc];omega
def HK (l:List Nd) (j:Nat):Prop:=∀i x,i<j->l[i]? =V x->yY i x
theorem FJ {l:List Nd} {j:Nat} (h:HK l j):∀k∈w7 (l.take j),0<=k/\k+1<j:=by
 induction j with
 |zero=>intro k g;simp [w7] at g
 |succ j ih=>
  intro k g;by_cases C:j<l.length
  ·have w:=N5 C;have B:=h j _ (by omega) w;rw [Wv,w] at g;simp only [Option.toList_some,jp,vd] at g;rcases g with g|g
   ·unfold us at g;obtain ⟨J,K,H,G,L,r,D⟩:=B;split at g
    ·rename_i E;have:=r (by omega);have:=D (by omega);simp at g;rcases g with rfl|rfl<;>omega
    ·split at g
     ·rename_i A;have:=r (by omega);simp at g;subst g;omega
     ·simp at g
   ·have:=ih (λi x hi=>h i x (by omega)) k g;omega
  ·rw [zc (by omega)] at g;have:=ih (λi x hi=>h i x (by omega)) k (by rw [zc (by omega)];exact g);omega
theorem HM {l:List Nd} (h:HK l l.length):GoodL l↔l≠[]/\∀i:Nat,i+1<l.length->(w7 l).count (i:Int)=1:=by
 have A:=FJ h;rw [wy] at A;constructor
 ·rintro ⟨r,g,D,E⟩;refine ⟨r,λi hi=> ?_⟩;have:=List.nodup_iff_count.1 D (i:Int);have:=List.count_pos_iff.2 (E i hi);omega
 ·rintro ⟨r,g⟩;refine ⟨r,λi x w=>h i x (N6.1 w).1 w,List.nodup_iff_count.2 λa=> ?_,λi hi=>List.count_pos_iff.1 (by rw [g i hi];decide)⟩;by_cases B:a∈w7 l
  ·obtain ⟨C,G⟩:=A a B;obtain ⟨k,rfl⟩:=Xw C;rw [g k (by omega)];exact qX _
  ·rw [List.count_eq_zero.2 B];omega
theorem Ma:vA prog 3=V (1,8):=by kernel_rfl
theorem Mb:bu prog 3=V (ru .i64 0):=by kernel_rfl
theorem Mc:prog.underlying 76=V (.slice 3):=by kernel_rfl
theorem qhs {s:Sl} {l:List Nd} (hs:RdS F s 5 (dE l)):ν 154 #[s.v] F λr g=>r=U (fE l)/\F.le g:=by
 have A:=hs.nlen;refine qeP ?_;unfold QE;refine ⟨λh=>⟨?_,au F⟩,λh=> ?_⟩
 ·have e:fE l=2:=by unfold fE;rw [Χ (by omega)]
  rw [e]
 have hl:l.length<=512:=by omega
 refine bT Mc Ma Mb rfl (by omega) (Va _) (by omega) (by omega) ?_;intro u hu;rw [ZR _ rfl,N4,A];have em:(List.replicate l.length (U 0)).toArray=(pd l.length []).toArray:=by
  congr 1;apply WJ;intro j;by_cases hj:j<l.length
  ·simp [pd,hj]
  ·rw [VM (by simp;omega),VM (by simp [pd];omega)]
 rw [em];refine ⟨_,rfl,?_⟩;have hU:Cnt F (F.set u (Y (pd l.length []).toArray 3)) u l.length []:=⟨hu,ae _ hu,aq _ _ _⟩;generalize F.set u (Y (pd l.length []).toArray 3)=F1 at*;have bad:∀{g:PH},¬GoodL l->F.le g->U 40=U (fE l)/\F.le g:=λh a7=>⟨by rw [zW hl h],a7⟩;refine ⟨λm i g=>∃j:Nat,i=j/\j<=l.length/\m=l.length - j/\HK l j/\Cnt F g u l.length (w7 (l.take j)),l.length,⟨0,rfl,by omega,rfl,λi x hi=>by omega,by simpa [w7] using hU⟩,?_⟩;clear hU;rintro _ _ F2 ⟨j,rfl,hj,rfl,hg,B⟩;unfold E6;refine ⟨λa5=> ?_,λa2=> ?_⟩
 ·have N:j<l.length:=by omega
  have K:l[j]? =V l[j]:=N5 N;generalize l[j]=x at K;refine (AJ (hs.le B.le) K (by omega)).mono ?_;rintro _ F3 ⟨⟨b,rfl,hb⟩,l3⟩;have w:Cnt F F3 u l.length (w7 (l.take j)):=⟨B.zu,aa B.le l3,l3 _ _ B.qu⟩;refine ⟨b,rfl,λQ=>bad (λL=> ?_) w.le,λb3=> ?_⟩
  ·have:=hb.2 (L.ok j x K);rw [this] at Q;cases Q
  have C:yY j x:=hb.1 (by simpa using b3);have R:HK l (j+1):=λi y hi P=>by
   by_cases J:i=j
   ·subst J;rw [K] at P;cases P;exact C
   ·exact hg i y (by omega) P
  obtain ⟨a,ha,b4⟩:=Xl (hs.le w.le) K;have a4:=yj C.1;obtain ⟨hn,b5⟩:=C8 a4;have cl:∀{g:PH},F.le g->∀(o:Nat) (y:ξ),o<5->x.arr[o]? =V y->g.cell ((a.add (j*5)).add o)=V y:=λa8 o y ho P=>by obtain ⟨a',M,H⟩:=Xl (hs.le a8) K;rw [ha] at M;cases M;have:=H o (by show o<5;exact ho);rw [this];rw [<- P];exact (Wt (xs:=x.arr) (i:=o) _).symm
  refine ⟨a,ha,by omega,by omega,x.k,by have:=cl w.le 0 (U x.k) (by omega) rfl;exact this,?_⟩;refine (kF F3 x.k).mono ?_;rintro _ F4 ⟨rfl,e⟩;obtain rfl:=e.symm;refine ⟨_,_,rfl,?_⟩;rw [hn];have a9:(w7 (l.take j)).length<=1024:=by have:=C9 (l.take j);rw [zZ] at this;omega
  have fin:∀g,Cnt F g u l.length (us x++w7 (l.take j))->qA (λW b2=>∃m',m'<l.length - j/\∃j:Nat,W=j/\j<=l.length/\m'=l.length - j/\HK l j/\Cnt F b2 u l.length (w7 (l.take j))) s ⟨V ⟨u,0,I⟩,l.length,l.length⟩ j (λr g=>r=U (fE l)/\F.le g) g:=λg a3=>by unfold qA;refine ⟨l.length - (j+1),by omega,j+1,ff (by omega),N,rfl,R,?_⟩;rw [Wv,K];show Cnt F g u l.length (w7 (l.take j++[x]));rw [jp];exact a3
  refine ⟨λh1=> ?_,λh1=> ?_⟩
  ·obtain ⟨a0,a1⟩:=C.2.2.2.2.2.1 h1;refine ⟨a,ha,by omega,by omega,x.a,cl w.le 3 (U x.a) (by omega) rfl,_,rfl,a0,by simp only;omega,_,w.cell a0 (by omega),_,rfl,a0,by simp only;omega,?_⟩;refine w.inc a0 (by omega) (by omega) λF5 D=> ?_;unfold qB;refine ⟨λE=> ?_,λE=> ?_⟩
   ·obtain ⟨X,b1⟩:=C.2.2.2.2.2.2 E;refine ⟨a,ha,by omega,by omega,x.b,cl D.le 4 (U x.b) (by omega) rfl,_,rfl,X,by simp only;omega,_,D.cell X (by omega),_,rfl,X,by simp only;omega,?_⟩;refine D.inc X (by omega) (by simp only [wc];omega) λF6 a6=>fin F6 ?_;have:us x=[x.b,x.a]:=by unfold us;rw [Χ E]
    rw [this];exact a6
   ·refine fin F5 ?_;have:us x=[x.a]:=by unfold us;rw [Υ E,Χ h1]
    rw [this];exact D
  ·unfold qB;refine ⟨λE=>absurd E (by omega),λE=>fin F3 ?_⟩;have:us x=[]:=by unfold us;rw [Υ E,Υ h1]
   rw [this];exact w
 ·obtain rfl:j=l.length:=by omega
  rw [wy] at B;have O:=HM hg;unfold EZ;have ew:i64.wrap ((s.len:Int) - 1)=(l.length:Int) - 1:=by rw [A,aJ (by omega)]
  refine ⟨λm i g=>∃j:Nat,i=j/\j<=l.length/\m=l.length - j/\g=F2/\∀i:Nat,i<j->(w7 l).count (i:Int)=1,l.length,⟨0,rfl,by omega,rfl,rfl,λi hi=>by omega⟩,?_⟩;rintro _ _ F3 ⟨j,rfl,b6,rfl,e3,G⟩;obtain rfl:=e3.symm;unfold EY;rw [ew];refine ⟨λa5=> ?_,λa2=> ?_⟩
  ·refine ⟨_,rfl,by omega,by simp only;omega,_,B.cell (k:=(j:Int)) (by omega) (by omega),λhm=>bad (λL=> ?_) B.le,λhm=>⟨l.length - (j+1),by omega,j+1,ff (by omega),by omega,rfl,rfl,λi hi=> ?_⟩⟩
   ·have:=(O.1 L).2 j (by omega);rw [this] at hm;exact hm rfl
   ·by_cases J:i=j
    ·subst J;omega
    ·exact G i (by omega)
  ·unfold EX;refine ⟨λh0=>bad (λL=>L.ne (XY.1 (by omega))) B.le,λh0=>⟨?_,B.le⟩⟩;rw [uR hl (O.2 ⟨λe=>by rw [e] at A;simp at A;omega,λi hi=>G i (by omega)⟩)]
end
abbrev YQ:=Nat×Nat
structure Two where
 acc:YQ->Nat->Prop
 lnk:YQ->YQ->Prop
 ini:YQ->Prop
 fin:YQ->Prop
namespace Two
end Two
structure Ov (e:TypeId) (G F:PH) (s:Sl) (vs:Ξ):Prop where
 le:G.le F
 own:bP F e 1 s vs
 oz:∀a,s.qa5=V a->G a.block=I
section
variable {e:TypeId} {G F:PH} {s:Sl} {vs:Ξ}
theorem Ov.fresh (h:Ov e G F s vs) {x:Nat} (g:F x=I) (o:Obj):Ov e G (F.set x o) s vs:=
 ⟨aa h.le (ae o g),h.own.keep λa w=>by
  obtain ⟨A,r⟩:=h.own.som w
  exact aw _ _ (aH g r),h.oz⟩
theorem Ov.len (h:Ov e G F s vs):s.len=vs.length:=by have:=h.own.rd.len;omega
theorem Ov.push {t bytes:Nat} {z:ξ} (O:prog.underlying t=V (.slice e)) (E:vA prog e=V (1,bytes)) (P:bu prog e=V z) (J:z.cells.size=1) (C:bytes<=64) (h:Ov e G F s vs) {v:ξ} (D:ak v) (hl:s.len<=1000000) {K:Sl->Ψ} (k:∀g N,Ov e G N g (vs++[v])->K g N):
  ∀x,F x=I->xG (F.set x (Y #[v] e)) λF=>
   aG prog (Builtin.append_ #[t,t] t #[(nE s),(nE (ua (V (ou x 0 I)) 1 1))]) F λv F=>∃g:Sl,v=(nE g)/\K g F:=by
 intro x Q;refine tR ?_;have L:=h.fresh Q (Y #[v] e);have q1:=aq F x (Y #[v] e);generalize F.set x (Y #[v] e)=W at*;have X:(s.len+1)*bytes<=1000001*64:=Yo (by omega) C;refine iM (F0:=G) (x:=⟨V ⟨x,0,I⟩,1,1⟩) (news:=[v]) O E P J (by decide) L.le L.own L.oz (RdS.new q1 rfl rfl (qX _)) (λw M=>by rw [vy] at M;subst M;exact D) (by simp only;omega) (by simp only;omega) ?_;intro g F2 A B R r keep H;exact ⟨g,rfl,k g F2 ⟨A,B,r⟩⟩
end
def VF (w:Δ) (f e:Nat):Δ:=(w.drop f).take (e - f)
theorem gZ {w:Δ} {f e:Nat} (h:f<=e) (g:e<=w.length):(VF w f e).length=e - f:=by unfold VF;rw [zZ,W6];omega
theorem qY {w:Δ} {f m e:Nat} (g:f<=m) (h:m<=e):VF w f m++VF w m e=VF w f e:=by unfold VF;obtain ⟨a,rfl⟩:=Nat.exists_eq_add_of_le g;obtain ⟨b,rfl⟩:=Nat.exists_eq_add_of_le h;rw [show f+a - f=a by omega,show f+a+b - (f+a)=b by omega,show f+a+b - f=a+b by omega,<- XJ,List.take_add]
theorem ui {w:Δ} {f e:Nat} (h:f<=e) (C:e<=w.length) {u v:Δ} (A:VF w f e=u++v):∃m,f<=m/\m<=e/\VF w f m=u/\VF w m e=v:=by
 have D:=gZ h C;rw [A,tT] at D;have g:f<=f+u.length:=by omega
 have r:f+u.length<=e:=by omega
 have B:=qY (w:=w) g r;rw [A] at B;have:=List.append_inj B (by rw [gZ g (by omega)];omega);exact ⟨f+u.length,g,r,this.1,this.2⟩
theorem Da {w:Δ} {f e:Nat} (h:f<=e) (g:e<=w.length) (r:VF w f e=[]):f=e:=by have:=gZ h g;rw [r] at this;simp at this;omega
theorem yk (w:Δ) (f:Nat):VF w f f=[]:=by simp [VF]
theorem Db {w:Δ} {f:Nat} (h:f<w.length):VF w f (f+1)=[w[f]]:=by unfold VF;rw [show f+1 - f=1 by omega,Xi h];rfl
def Bh (P:Δ->Prop) (w fr:Δ) (e:Nat):Prop:=∃f∈fr,f<=e/\e<=w.length/\P (VF w f e)
theorem RA {w fr:Δ} (A:∀f∈fr,f<=w.length) (e:Nat):Bh (Lg .emp) w fr e↔e∈fr:=by
 constructor
 ·rintro ⟨f,r,B,g,C⟩;have:f=e:=Da B g C;subst this;exact r
 ·intro h;exact ⟨e,h,qX _,A e h,yk _ _⟩
theorem RB {x y:Pat} {w fr o:Δ} (A:∀e,e∈o↔Bh (Lg x) w fr e) (e:Nat):Bh (Lg y) w o e↔Bh (Lg (.seq x y)) w fr e:=by
 constructor
 ·rintro ⟨m,C,r,g,J⟩;obtain ⟨f,h,D,L,E⟩:=(A m).1 C;exact ⟨f,h,by omega,g,_,_,(qY D r).symm,E,J⟩
 ·rintro ⟨f,h,r,g,u,v,H,K,F⟩;obtain ⟨m,G,B,rfl,rfl⟩:=ui r g H;exact ⟨m,(A m).2 ⟨f,h,G,by omega,K⟩,B,g,F⟩
theorem RC {x y:Pat} {w fr:Δ} (e:Nat):Bh (Lg (.alt x y)) w fr e↔Bh (Lg x) w fr e\/Bh (Lg y) w fr e:=by
 constructor
 ·rintro ⟨f,h,A,r,g|g⟩
  ·exact .inl ⟨f,h,A,r,g⟩
  ·exact .inr ⟨f,h,A,r,g⟩
 ·rintro (⟨f,h,A,r,g⟩|⟨f,h,A,r,g⟩)
  ·exact ⟨f,h,A,r,.inl g⟩
  ·exact ⟨f,h,A,r,.inr g⟩
theorem ki.append {P:Δ->Prop} {u v:Δ} (g:ki P u) (r:P v):ki P (u++v):=by
 induction g with
 |nil=>have:=ki.cons r .nil;rw [yn] at this;exact this
 |cons h _ ih=>rw [xK];exact .cons h ih
theorem Md {x:Pat} {w fr o:Δ} (B:∀e∈o,Bh (Lg (.rep x)) w fr e) {e:Nat} (h:Bh (Lg x) w o e):Bh (Lg (.rep x)) w fr e:=by obtain ⟨m,r,D,g,F⟩:=h;obtain ⟨f,E,A,G,C⟩:=B m r;refine ⟨f,E,by omega,g,?_⟩;rw [<- qY A D];exact ki.append C F
theorem RI {x:Pat} {w fr o:Δ} (hi:∀f∈fr,f∈o) (E:∀e∈o,Bh (Lg (.rep x)) w fr e) (H:∀e,Bh (Lg x) w o e->e∈o) (e:Nat):e∈o↔Bh (Lg (.rep x)) w fr e:=by
 refine ⟨E e,?_⟩;rintro ⟨f,g,h,B,G⟩;have key:∀u,ki (Lg x) u->∀f,f∈o->f<=e->VF w f e=u->e∈o:=by
  intro u r;induction r with
  |nil=>intro f g h A;have:=Da h B A;subst this;exact g
  |cons r _ ih=>intro f g h A;obtain ⟨m,F,D,rfl,C⟩:=ui h B A;exact ih m (H m ⟨f,g,F,by omega,r⟩) D C
 exact key _ G f (hi f g) h rfl
def zO:Δ->Δ->Δ
 |o,[]=>o
 |o,m::ms=>zO (if m∈o then o else o++[m]) ms
theorem yl (m:Nat):∀(ms o:Δ),zO o (ms++[m])=if m∈zO o ms then zO o ms else zO o ms++[m]
 |[],_=>rfl
 |_::ms,_=>yl m ms _
theorem g0 (e:Nat):∀(ms o:Δ),e∈zO o ms↔e∈o\/e∈ms
 |[],o=>by simp [zO]
 |m::ms,o=>by
  rw [zO,g0 e ms];split
  ·rename_i h;simp only [tD];constructor
   ·rintro (g|g)
    ·exact .inl g
    ·exact .inr (.inr g)
   ·rintro (g|rfl|g)
    ·exact .inl g
    ·exact .inl h
    ·exact .inr g
  ·simp only [vd,tD,Wx,or_false,or_assoc]
theorem nu:∀(ms o:Δ),o.Nodup->(zO o ms).Nodup
 |[],o,h=>h
 |m::ms,o,h=>by
  rw [zO];refine nu ms _ ?_;split
  ·exact h
  ·rename_i w;exact Vw.2 ⟨h,by simp,λa r b g e=>w (by simp at g;subst g;subst e;exact r)⟩
theorem vo:∀(ms o:Δ),∃k,zO o ms=o++k
 |[],o=>⟨[],by simp [zO]⟩
 |m::ms,o=>by
  rw [zO];obtain ⟨k,g⟩:=vo ms (if m∈o then o else o++[m]);rw [g];split
  ·exact ⟨k,rfl⟩
  ·exact ⟨[m]++k,by simp⟩
theorem Me (ms o:Δ):(zO o ms).length<=o.length+ms.length:=by
 induction ms generalizing o with
 |nil=>simp [zO]
 |cons m ms ih=>rw [zO];refine Wz (ih _) ?_;split<;>simp<;>omega
theorem HN {ms o:Δ} (h:(zO o ms).length<=o.length):∀m∈ms,m∈o:=by obtain ⟨k,g⟩:=vo ms o;rw [g,tT] at h;have:k=[]:=XY.1 (by omega);subst this;intro m r;have:=(g0 m ms o).2 (.inr r);rw [g] at this;simpa using this
theorem ia {o:Δ} {n:Nat} (h:o.Nodup) (r:∀e∈o,e<=n):o.length<=n+1:=nodup_bound' (n+1) o h λe g=>by have:=r e g;omega
where nodup_bound':∀(n:Nat) (ns:Δ),ns.Nodup->(∀j∈ns,j<n)->ns.length<=n
 |0,[],_,_=>qX _
 |0,j::ns,_,h=>absurd (h j (by simp)) (by omega)
 |n+1,ns,hn,h=>by
  by_cases hm:n∈ns
  ·have:=nodup_bound' n (ns.erase n) (hn.erase n) λj hj=>by
    have h1:=h j (List.mem_of_mem_erase hj);have h2:j≠n:=λe=>by rw [e] at hj;exact (hn.not_mem_erase hj)
    omega
   rw [List.length_erase_of_mem hm] at this;omega
  ·have:=nodup_bound' n ns hn λj hj=>by have h1:=h j hj;have h2:j≠n:=λe=>hm (e▸hj);omega
   omega
def il (ns:Δ):Ξ:=ns.map λ(n:Nat)=>U n
theorem HO (a b:Δ):il (a++b)=il a++il b:=by simp [il]
theorem qcX (a:Δ):∀v∈il a,ak v:=λv g=>by obtain ⟨n,_,rfl⟩:=w9.1 g;exact ⟨λ_ h=>(by cases h),λ_ h=>(by cases h)⟩
section
variable {F:PH}
theorem ny {s:Sl} {ns:Δ} (h:RdS F s 1 (il ns)):s.len=ns.length:=by have:=h.len;simp [il] at this;omega
theorem vq {s:Sl} {ns:Δ} (h:RdS F s 1 (il ns)) {i:Nat} (hi:i<ns.length):∃a,s.qa5=V a/\F.cell (a.add (nT (i:Int)*1))=V (U (ns[i]:Nat)):=by have r:=ny h;obtain ⟨b,o,g,_⟩:=h.cells (by omega);refine ⟨_,g,?_⟩;rw [N4,xB];have:=h.cell g (i:=i) (by simp [il];exact hi);rw [this];simp [il]
theorem Dc {s:Sl} {ns:Δ} (h:RdS F s 1 (il ns)) (J:ns.length<=1000000) (n:Nat):ν 155 #[s.v,U n] F λr A=>r=nS (decide (n∈ns))/\A=F:=by
 have L:=ny h;refine qeQ ?_;unfold QF;refine ⟨λm i A=>∃j:Nat,i=j/\j<=ns.length/\m=ns.length - j/\A=F/\n ∉ ns.take j,ns.length,⟨0,rfl,by omega,rfl,rfl,by simp⟩,?_⟩;rintro _ _ A ⟨j,rfl,K,rfl,e,w⟩;obtain rfl:=e.symm;unfold E9;refine ⟨λD=> ?_,λE=> ?_⟩
 ·have g:j<ns.length:=by omega
  obtain ⟨a,H,G⟩:=vq h g;refine ⟨a,H,by omega,by omega,_,G,λB=>⟨?_,rfl⟩,λB=>⟨ns.length - (j+1),by omega,j+1,ff (by omega),by omega,rfl,rfl,?_⟩⟩
  ·have:n=ns[j]:=by omega
   rw [ε (by rw [this];exact U9 g)]
  ·rw [Wv,N5 g];simp only [Option.toList_some,vd,vy];rintro (C|C)
   ·exact w C
   ·exact B (by omega)
 ·unfold E8;obtain rfl:j=ns.length:=by omega
  rw [wy] at w;exact ⟨by rw [η w],rfl⟩
def IlV (F:PH) (v:ξ) (o:Δ):Prop:=∃s:Sl,v=s.v/\RdS F s 1 (il o)
theorem lI {s s2:Sl} {ns ms:Δ} (h:RdS F s 1 (il ns)) (P:RdS F s2 1 (il ms)) (hn:ns.length<=200000) (hm:ms.length<=200000):ν 190 #[s.v,s2.v] F λr J=>IlV J r (zO ns ms)/\F.le J:=by
 have hl:=ny h;have a3:=ny P;refine qej ?_;unfold QI;intro L B;refine tR ?_;have N:=ae (Y #[] 3) B;have q4:=aq F L (Y #[] 3);generalize F.set L (Y #[] 3)=F4 at*;have W:bP F4 3 1 ⟨V ⟨L,0,I⟩,0,0⟩ (il []):=.inr ⟨L,#[],rfl,q4,rfl,qX _,rfl,rfl⟩;refine iM (F0:=F) Mc Ma Mb rfl (by decide) N W (λa K=>by cases K;exact B) (h.le N) (qcX ns) (by simp only;omega) (by simp only;omega) ?_;intro Q F5 D C a2 g _ _;rw [show il []++il ns=il ns from rfl] at C;refine ⟨Q,rfl,λm o i J=>∃j:Nat,i=j/\j<=ms.length/\m=ms.length - j/\Ov 3 F J o (il (zO ns (ms.take j))),ms.length,⟨0,rfl,by omega,rfl,⟨D,by simpa [zO] using C,g⟩⟩,?_⟩;clear g C D N q4 B W;rintro _ o _ F6 ⟨j,rfl,hj,rfl,A⟩;unfold Fj;refine ⟨λa1=> ?_,λa0=> ?_⟩
 ·have E:j<ms.length:=by omega
  have R:(zO ns (ms.take j)).length<=400000:=by have:=Me (ms.take j) ns;rw [zZ] at this;omega
  have hx:ms[j]? =V ms[j]:=N5 E;obtain ⟨a,K,X⟩:=vq (P.le A.le) E;refine ⟨a,K,by omega,by omega,_,X,?_⟩;refine (Dc A.own.rd (by omega) _).mono ?_;rintro _ F7 ⟨rfl,e⟩;obtain rfl:=e.symm;have w:zO ns (ms.take (j+1))=if ms[j]∈zO ns (ms.take j) then zO ns (ms.take j) else zO ns (ms.take j)++[ms[j]]:=by rw [Wv,hx];exact yl _ _ _
  refine ⟨_,rfl,λO=>⟨a,K,by omega,by omega,_,X,?_⟩,λM=> ?_⟩
  ·have H:ms[j] ∉ zO ns (ms.take j):=by simpa using O
   rw [Υ H] at w;refine A.push (t:=76) Mc Ma Mb rfl (by decide) ⟨λ_ h=>(by cases h),λ_ h=>(by cases h)⟩ (by rw [A.len];simp [il];omega) λQ J h'=> ?_;unfold qF;refine ⟨ms.length - (j+1),by omega,j+1,ff (by omega),by omega,rfl,?_⟩;rw [w,HO];exact h'
  ·have G:ms[j]∈zO ns (ms.take j):=by simpa using M
   rw [Χ G] at w;unfold qF;refine ⟨ms.length - (j+1),by omega,j+1,ff (by omega),by omega,rfl,?_⟩;rw [w];exact A
 ·unfold Fh;obtain rfl:j=ms.length:=by omega
  rw [wy] at A;exact ⟨⟨_,rfl,A.own.rd⟩,A.le⟩
end
def fm (w:Δ) (lo hi:Nat) (fr:Δ):Δ:=(fr.filter λf=>decide (f<w.length/\lo<=w.getD f 0/\w.getD f 0<=hi)).map (· +1)
theorem AK (w:Δ) (lo hi:Nat) (fr:Δ) (f:Nat):fm w lo hi (fr++[f])=if f<w.length/\lo<=w.getD f 0/\w.getD f 0<=hi then fm w lo hi fr++[f+1] else fm w lo hi fr:=by
 unfold fm;rw [List.filter_append,yT,List.filter_cons];split
 ·rename_i h;rw [Χ (by simpa using h)];rfl
 ·rename_i h;rw [Υ (by simpa using h)];simp
theorem qid {w:Δ} {lo hi:Nat} {fr:Δ} (h:fr.Nodup):(fm w lo hi fr).Nodup:=by unfold fm;refine List.Pairwise.map (R:=(·≠·)) _ (λa b g=>by omega) ?_;exact List.Pairwise.sublist List.filter_sublist h
theorem FK {w:Δ} {lo hi:Nat} {fr:Δ} (e:Nat):e∈fm w lo hi fr↔Bh (Lg (.rng lo hi)) w fr e:=by
 unfold fm;simp only [w9,X1,δ];constructor
 ·rintro ⟨f,⟨A,g,h,C⟩,rfl⟩;refine ⟨f,A,by omega,by omega,w.getD f 0,?_,h,C⟩;rw [Db g,Q0,N5 g];rfl
 ·rintro ⟨f,A,g,h,b,r,C,D⟩;have B:=gZ g h;rw [r] at B;simp at B;obtain rfl:e=f+1:=by omega
  rw [Db (by omega)] at r;simp at r;refine ⟨f,⟨A,by omega,?_⟩,rfl⟩;rw [Q0,N5 (by omega)];simp only [Option.getD_some];omega
section
variable {F:PH}
def Z8 (F:PH) (v:ξ) (P:Δ->Prop) (w fr:Δ):Prop:=∃o:Δ,IlV F v o/\o.Nodup/\∀e,e∈o↔Bh P w fr e
theorem IlV.le {F G:PH} {v:ξ} {o:Δ} (h:IlV F v o) (g:F.le G):IlV G v o:=by obtain ⟨s,e,h⟩:=h;exact ⟨s,e,h.le g⟩
theorem yo {P:Δ->Prop} {w fr o:Δ} (h:∀e,e∈o↔Bh P w fr e):∀e∈o,e<=w.length:=λe g=>by obtain ⟨f,_,_,r,_⟩:=(h e).1 g;exact r
theorem AL {s2:Sl} {fr:Δ} {st:ο} {lo hi P B:Nat} {J:PH} {x:Nd} {R:ξ->Ψ} (h2:RdS J s2 1 (il fr)) (b0:fr.length<=100001) (a1:∀f∈fr,f<=st.size) (b2:st.size<=100000) (q9:J P=V (Y x.arr 225)) (a3:x.lo=lo) (a0:x.hi=hi) (G:J B=I)
  (hR:∀v M,J.le M->IlV M v (fm (bs st) lo hi fr)->R v M):
  ∃(I2:Nat->Sl->Ω) (W:Nat),I2 W (ua (V (ou B 0 I)) 0 0) (0:Int) (J.set B (Y #[] 3))/\∀W g E F,I2 W g E F->
   xC (λA r F=>∃Q,Q<W/\I2 Q A r F) st s2 P R g E F:=by
 have b3:=ny h2;have b4:=df st;refine ⟨λm o k M=>∃j:Nat,k=j/\j<=fr.length/\m=fr.length - j/\Ov 3 J M o (il (fm (bs st) lo hi (fr.take j))),fr.length,⟨0,rfl,by omega,rfl,⟨ae _ G,.inr ⟨B,#[],rfl,aq _ _ _,rfl,qX _,rfl,rfl⟩,λa L=>by cases L;exact G⟩⟩,?_⟩;rintro _ o _ F6 ⟨j,rfl,hj,rfl,C⟩;unfold xC;refine ⟨λa9=> ?_,λa8=> ?_⟩
 ·have H:j<fr.length:=by omega
  have a4:(fm (bs st) lo hi (fr.take j)).length<=100001:=by unfold fm;rw [ub];refine Wz (Zf _ _) ?_;rw [zZ];omega
  have K:fr[j]? =V fr[j]:=N5 H;obtain ⟨a,L,X⟩:=vq (h2.le C.le) H;have b1:=a1 _ (U9 H);have D:fm (bs st) lo hi (fr.take (j+1))=if fr[j]<(bs st).length/\lo<=(bs st).getD fr[j] 0/\(bs st).getD fr[j] 0<=hi then fm (bs st) lo hi (fr.take j)++[fr[j]+1] else fm (bs st) lo hi (fr.take j):=by rw [Wv,K];exact AK _ _ _ _ _
  generalize fr[j]=f at*;have j5:∀bb:Bool,(bb=mY↔f<(bs st).length/\lo<=(bs st).getD f 0/\(bs st).getD f 0<=hi)->mQ (λA r F=>∃Q,Q<fr.length - j/\∃j:Nat,r=j/\j<=fr.length/\Q=fr.length - j/\Ov 3 J F A (il (fm (bs st) lo hi (fr.take j)))) st s2 P o j bb R F6:=λbb O=>by
   unfold mQ;refine ⟨λht=>⟨a,L,by omega,by omega,_,X,?_⟩,λhf=> ?_⟩
   ·rw [Χ (O.1 ht)] at D;rw [ff (by omega)];refine C.push (t:=76) Mc Ma Mb rfl (by decide) jt (by rw [C.len];simp [il];omega) λs' M h'=> ?_;unfold qC;refine ⟨fr.length - (j+1),by omega,j+1,ff (by omega),by omega,rfl,?_⟩;rw [D,HO];exact h'
   ·rw [Υ (λh=>by rw [O.2 h] at hf;cases hf)] at D;unfold qC;refine ⟨fr.length - (j+1),by omega,j+1,ff (by omega),by omega,rfl,?_⟩;rw [D];exact C
  have c1:F6.cell (ou P 1 I)=V (U lo):=by rw [av (C.le _ _ q9),<- a3];rfl
  have c2:F6.cell (ou P 2 I)=V (U hi):=by rw [av (C.le _ _ q9),<- a0];rfl
  refine ⟨a,L,by omega,by omega,_,X,λa6=> ?_,λa7=>j5 mz ⟨λh=>(by cases h),λh=>absurd h.1 (by omega)⟩⟩;have N:f<st.size:=by omega
  have w:∀K:nT (f:Int)<st.size,i64.wrap ((st[nT (f:Int)]' K).toNat:Int)=(((bs st).getD f 0:Nat):Int):=λK=>by
   have e:(st[nT (f:Int)]' K).toNat=(bs st).getD f 0:=by rw [<- Kl];unfold cb;simp only [N4] at K;rw [dif_pos K];rfl
   have a5:(bs st).getD f 0<256:=by rw [Q0,N5 (by omega:f<(bs st).length)];exact qew st _ (U9 _)
   rw [e,aJ (by omega)]
  refine ⟨a,L,by omega,by omega,_,X,by omega,by omega,by rw [N4];exact N,_,rfl,_,c1,λa2=>⟨a,L,by omega,by omega,_,X,by omega,by omega,by rw [N4];exact N,_,rfl,_,c2,j5 _ ?_⟩,λhgt=>j5 mz ⟨λh=>(by cases h),λh=> ?_⟩⟩
  ·rw [w] at a2;rw [w,δ];omega
  ·rw [w] at hgt;omega
 ·unfold Ff;obtain rfl:j=fr.length:=by omega
  rw [wy] at C;exact hR _ _ C.le ⟨_,rfl,C.own.rd⟩
theorem AM {l:List Nd} {p:Sl} {st:ο} (b3:st.size<=100000) {i:Nat} {t:Lt} {ns:Δ} (h:cQ l i t ns):∀{F:PH} {s2:Sl} {fr:Δ},RdS F p 5 (dE l)->RdS F s2 1 (il fr)->fr.Nodup->(∀f∈fr,f<=st.size)->
  ν 156 #[p.v,U i,pe st,s2.v] F λr F'=>Z8 F' r (Lg t.pat) (bs st) fr/\F.le F':=by
 have a2:=df st;have a3:∀{o:Δ},o.Nodup->(∀e∈o,e<=(bs st).length)->o.length<=100001:=λh1 R=>by have:=ia h1 R;omega
 induction h with
 | @emp i x P hk=>intro F s2 fr L R D C;have O:=L.nlen;have hi:=(N6.1 P).1;obtain ⟨a,ha,A⟩:=Xl L P;refine zU ?_;unfold uP;refine ⟨a,ha,by omega,by omega,x.arr,rfl,A,λH K=> ?_⟩;refine tR ?_;refine Ud (aq _ _ _) rfl rfl (gm x) ?_;rw [aR];intro M w;refine tR ?_;have J:F.le (F.set H (Y x.arr 225)):=ae _ K;have N:=aq F H (Y x.arr 225);generalize F.set H (Y x.arr 225)=F1 at*;refine ⟨x.k,by rw [av (ae _ w _ _ N)];rfl,λ_=>⟨⟨fr,⟨_,rfl,R.le (aa J (ae _ w))⟩,D,λe=> ?_⟩,aa J (ae _ w)⟩,λh=>absurd hk h⟩;exact (RA (λf X=>by rw [a2];exact C f X) e).symm
 | @rng i lo hi x P hk b4 a9 c4 b7=>intro F s2 fr L R D C;have O:=L.nlen;have a4:=(N6.1 P).1;obtain ⟨a,ha,A⟩:=Xl L P;refine zU ?_;unfold uP;refine ⟨a,ha,by omega,by omega,x.arr,rfl,A,λH K=> ?_⟩;refine tR ?_;refine Ud (aq _ _ _) rfl rfl (gm x) ?_;rw [aR];intro M w;refine tR ?_;have J:F.le (F.set H (Y x.arr 225)):=ae _ K;have N:=aq F H (Y x.arr 225);generalize F.set H (Y x.arr 225)=F1 at*;refine ⟨x.k,by rw [av (ae _ w _ _ N)];rfl,λh=>absurd h (by omega),λ_=>⟨λ_=> ?_,λh=>absurd hk h⟩⟩;refine AL (R.le J) (a3 D λf X=>by rw [a2];exact C f X) C b3 N b4 a9 w λv F' b2 hv=> ?_;exact ⟨⟨_,hv,qid D,λe=>FK e⟩,aa J b2⟩
 | @seq i a b x t u na nb P hk a1 a5 ht hu it iu=>
  intro F s2 fr L R D C;have O:=L.nlen;have a4:=(N6.1 P).1;obtain ⟨ad,a0,A⟩:=Xl L P;refine zU ?_;unfold uP;refine ⟨ad,a0,by omega,by omega,x.arr,rfl,A,λH K=> ?_⟩;refine tR ?_;refine Ud (aq _ _ _) rfl rfl (gm x) ?_;rw [aR];intro M w;refine tR ?_;have N:=ae (Y #[] 3) w _ _ (aq F H (Y x.arr 225));have J:=aa (ae (Y x.arr 225) K) (ae (Y #[] 3) w);generalize (F.set H (Y x.arr 225)).set M (Y #[] 3)=F1 at*;have c1:∀{G:PH},F1.le G->G.cell (ou H 3 I)=V (U a):=λh=>by rw [av (h _ _ N),<- a1];rfl
  have c2:∀{G:PH},F1.le G->G.cell (ou H 4 I)=V (U b):=λh=>by rw [av (h _ _ N),<- a5];rfl
  refine ⟨x.k,by rw [av N];rfl,λh=>absurd h (by omega),λ_=>⟨λh=>absurd h (by omega),λ_=>⟨λ_=> ?_,λh=>absurd hk h⟩⟩⟩;refine ⟨_,c2 (au _),_,c1 (au _),?_⟩;refine (it (L.le J) (R.le J) D C).mono ?_;rintro _ F2 ⟨⟨o,⟨s3,rfl,h3⟩,ho,E⟩,Q⟩;refine ⟨s3,rfl,c2 Q,?_⟩;refine (iu (L.le (aa J Q)) h3 ho λf X=>by rw [<- a2];exact yo E f X).mono ?_;rintro _ F3 ⟨⟨o2,⟨s4,rfl,h4⟩,W,B⟩,l3⟩;refine ⟨s4,rfl,⟨o2,⟨s4,rfl,h4⟩,W,λe=> ?_⟩,aa J (aa Q l3)⟩;rw [B e];exact RB E e
 | @alt i a b x t u na nb P hk a1 a5 ht hu it iu=>
  intro F s2 fr L R D C;have O:=L.nlen;have a4:=(N6.1 P).1;obtain ⟨ad,a0,A⟩:=Xl L P;refine zU ?_;unfold uP;refine ⟨ad,a0,by omega,by omega,x.arr,rfl,A,λH K=> ?_⟩;refine tR ?_;refine Ud (aq _ _ _) rfl rfl (gm x) ?_;rw [aR];intro M w;refine tR ?_;have N:=ae (Y #[] 3) w _ _ (aq F H (Y x.arr 225));have J:=aa (ae (Y x.arr 225) K) (ae (Y #[] 3) w);generalize (F.set H (Y x.arr 225)).set M (Y #[] 3)=F1 at*;have c1:∀{G:PH},F1.le G->G.cell (ou H 3 I)=V (U a):=λh=>by rw [av (h _ _ N),<- a1];rfl
  have c2:∀{G:PH},F1.le G->G.cell (ou H 4 I)=V (U b):=λh=>by rw [av (h _ _ N),<- a5];rfl
  refine ⟨x.k,by rw [av N];rfl,λh=>absurd h (by omega),λ_=>⟨λh=>absurd h (by omega),λ_=>⟨λh=>absurd h (by omega),λ_=>⟨λ_=> ?_,λh=>absurd hk h⟩⟩⟩⟩;refine ⟨_,c1 (au _),_,c2 (au _),?_⟩;refine (it (L.le J) (R.le J) D C).mono ?_;rintro _ F2 ⟨⟨o,⟨s3,rfl,h3⟩,ho,E⟩,Q⟩;refine ⟨s3,rfl,c2 Q,?_⟩;refine (iu (L.le (aa J Q)) (R.le (aa J Q)) D C).mono ?_;rintro _ F3 ⟨⟨o2,⟨s4,rfl,h4⟩,W,B⟩,l3⟩;refine ⟨s4,rfl,?_⟩;have n1:=a3 ho (yo E);have n2:=a3 W (yo B);refine (lI (h3.le l3) h4 (by omega) (by omega)).mono ?_;rintro _ F4 ⟨⟨s5,rfl,h5⟩,l4⟩;refine ⟨s5,rfl,⟨_,⟨s5,rfl,h5⟩,nu _ _ ho,λe=> ?_⟩,aa J (aa Q (aa l3 l4))⟩;rw [g0,E,B];exact (RC e).symm
 | @rep i a x t na P hk a1 ht it=>
  intro F s2 fr L R D C;have O:=L.nlen;have a4:=(N6.1 P).1;obtain ⟨ad,a0,A⟩:=Xl L P;refine zU ?_;unfold uP;refine ⟨ad,a0,by omega,by omega,x.arr,rfl,A,λH K=> ?_⟩;refine tR ?_;refine Ud (aq _ _ _) rfl rfl (gm x) ?_;rw [aR];intro M w;refine tR ?_;have N:=ae (Y #[] 3) w _ _ (aq F H (Y x.arr 225));have J:=aa (ae (Y x.arr 225) K) (ae (Y #[] 3) w);generalize (F.set H (Y x.arr 225)).set M (Y #[] 3)=F1 at*;have c1:∀{G:PH},F1.le G->G.cell (ou H 3 I)=V (U a):=λh=>by rw [av (h _ _ N),<- a1];rfl
  refine ⟨x.k,by rw [av N];rfl,λh=>absurd h (by omega),λ_=>⟨λh=>absurd h (by omega),λ_=>⟨λh=>absurd h (by omega),λ_=>⟨λh=>absurd h (by omega),λ_=> ?_⟩⟩⟩⟩;unfold Fd
  refine ⟨λm os n F'=>∃(o:Δ) (k:Nat),n=(k:Int) - 1/\k<=o.length+1/\m=st.size+3 - k/\F1.le F'/\RdS F' os 1 (il o)/\o.Nodup/\(∀f∈fr,f∈o)/\(∀e∈o,Bh (Lg (.rep t.pat)) (bs st) fr e)/\(k=o.length+1->∀e,Bh (Lg t.pat) (bs st) o e->e∈o),st.size+3,
   ⟨fr,0,by omega,by omega,by omega,au _,R.le J,D,λ_ h=>h,λe he=>⟨e,he,qX _,by rw [a2];exact C e he,by rw [yk];exact .nil⟩,λh=>by omega⟩,?_⟩
  rintro _ os _ F2 ⟨o,k,rfl,c5,rfl,Q,h3,ho,a7,E,b5⟩;unfold Fc;have c6:=ny h3;have a8:∀e∈o,e<=(bs st).length:=λe he=>by obtain ⟨f,_,_,g,_⟩:=E e he;exact g
  have b6:=ia ho a8;refine ⟨λc3=> ?_,λb8=> ?_⟩
  ·refine ⟨_,c1 Q,?_⟩;refine (it (L.le (aa J Q)) h3 ho λf X=>by rw [<- a2];exact a8 f X).mono ?_;rintro _ F3 ⟨⟨o2,⟨s4,rfl,h4⟩,W,B⟩,l3⟩;refine ⟨s4,rfl,?_⟩;have n2:=a3 W (yo B);refine (lI (h3.le l3) h4 (by omega) (by omega)).mono ?_;rintro _ F4 ⟨⟨s5,rfl,h5⟩,l4⟩;obtain ⟨kk,b1⟩:=vo o2 o;refine ⟨s5,rfl,st.size+3 - (o.length+1),by omega,zO o o2,o.length+1,by omega,by rw [b1,tT];omega,rfl,aa Q (aa l3 l4),h5,nu _ _ ho,λf X=>(g0 f o2 o).2 (.inl (a7 f X)),λe he=> ?_,λb0 e he=> ?_⟩
   ·rcases (g0 e o2 o).1 he with h|h
    ·exact E e h
    ·exact Md E ((B e).1 h)
   ·have a6:=HN (o:=o) (ms:=o2) (by omega);refine (g0 e o2 o).2 (.inr ((B e).2 ?_));obtain ⟨f,X,g⟩:=he;refine ⟨f,?_,g⟩;rcases (g0 f o2 o).1 X with h|h
    ·exact h
    ·exact a6 f h
  ·unfold Fb;exact ⟨⟨o,⟨os,rfl,h3⟩,ho,RI a7 E (b5 (by omega))⟩,aa J Q⟩
theorem HP {P:Δ->Prop} {w:Δ}:Bh P w [0] w.length↔P w:=by
 constructor
 ·rintro ⟨f,g,_,_,h⟩;simp at g;subst g;simpa [VF] using h
 ·intro h;exact ⟨0,by simp,by omega,qX _,by simpa [VF] using h⟩
theorem qhd {s:Sl} {l:List Nd} (H:RdS F s 5 (dE l)) (st:ο) (G:st.size<=100000):ν 121 #[s.v,pe st] F λr Q=>(∃q:Bool,r=nS q/\(q=mY↔fE l=0/\Xn l (bs st)))/\F.le Q:=by
 refine qeO ?_;unfold QD;refine (qhs H).mono ?_;rintro _ F2 ⟨rfl,E⟩;refine ⟨_,rfl,λD=> ?_,λD=>⟨⟨mz,rfl,λh=>(by cases h),λh=>absurd h.1 D⟩,E⟩⟩;obtain ⟨K,hl⟩:=uS D;obtain ⟨ns,N⟩:=iF K;have w:=H.nlen;have L:=Yg.2 K.ne;have W:i64.wrap ((s.len:Int) - 1)=((l.length - 1:Nat):Int):=by rw [w,aJ (by omega)];omega
 rw [W];intro g A;refine tR ?_;have C:F2.le (F2.set g (Y #[ru .i64 0] 3)):=ae _ A;have J:=aq F2 g (Y #[ru .i64 0] 3);generalize F2.set g (Y #[ru .i64 0] 3)=F3 at*;refine (AM G N (s2:=⟨V ⟨g,0,I⟩,1,1⟩) (fr:=[0]) (H.le (aa E C)) (RdS.new J rfl rfl (qX _)) (by simp) (by simp)).mono ?_;rintro _ F4 ⟨⟨o,⟨M,rfl,O⟩,R,B⟩,P⟩;refine ⟨M,rfl,?_⟩;have n2:=ia R (yo B);rw [df] at n2;refine (Dc O (by omega) st.size).mono ?_;rintro _ X ⟨rfl,e⟩;obtain rfl:=e.symm;refine ⟨_,rfl,⟨_,rfl,?_⟩,aa (aa E C) P⟩;rw [δ,B,<- df,HP];exact ⟨λh=>⟨D,h⟩,λh=>h.2⟩
end
section
theorem St.up {G F r:PH} {As:List (Ψ)} (h:St G F As) (l:F.le r):St G r As:=by obtain ⟨B,g,w⟩:=h.ex;exact ⟨aa h.le l,B,λi A hi=>⟨(g i A hi).1,(g i A hi).2.1,aa (g i A hi).2.2 l⟩,w⟩
section
variable {F:PH} {v:Γ}
theorem px {t:Tr} (ha:DV F v (pg t)) (N:t.ok) (hf:(aU t).length<=4096) {c:Int} (P:0<=c) (R:c<18446744073709551616):ν 132 #[nL v,ru .u64 c] F λr M=>r=nS (t.ev (wo c))/\F.le M:=by
 obtain ⟨s,rfl,hr⟩:=ha;have W:=bv N;have E:RdS F s 3 (aV (brs (aU t))):=hr;have C:=E.blen;rw [aO] at C;refine qdX ?_;unfold Pz;intro X J;refine tR ?_;have O:=ae (Y #[s.v,U (pg t).2] 33) J;have q2:=aq F X (Y #[s.v,U (pg t).2] 33);generalize F.set X (Y #[s.v,U (pg t).2] 33)=F3 at*;refine ⟨(num (aU t) t:Int),by rw [av q2];rfl,?_⟩;refine ⟨λm i M=>∃h,i=(num (aU t) h:Int)/\inn (aU t) h/\m=h.sz/\F3.le M/\h.ev (wo c)=t.ev (wo c),t.sz,⟨t,rfl,bH N,rfl,PH.le_rfl,rfl⟩,?_⟩;rintro m i F4 ⟨h,rfl,g,rfl,G,B⟩;unfold Er;refine ⟨λa1=> ?_,λa0=> ?_⟩
 ·cases h with
  |qa6 x=>have:=cK (aU t) x;omega
  |qa7 w l r=>
   obtain ⟨il,ir⟩:=W.inn_kids g;obtain ⟨Q,_⟩:=W.inn_ok g;have hg:=cY (S:=aU t) (t:=qa7 w l r) rfl;have a2:=dQ g;have L:=oQ (n:=num (aU t) (qa7 w l r)) (by omega) hg;obtain ⟨p,hp,D,_⟩:=VQ (E.le (O.trans G)) (jT (eA (cC g rfl) rfl));refine ⟨s,by rw [av (G _ _ q2)];rfl,p,hp,by rw [L];omega,by rw [L];omega,aW (br (aU t) (qa7 w l r)),rfl,by rw [L];exact D,?_⟩;intro b6 K;refine tR ?_;refine Ud (aq _ _ _) rfl rfl (iC _) ?_;rw [aR];have l6:=G.trans (ae (Y (aW (br (aU t) (qa7 w l r))) 201) K);refine ⟨(w:Int),by rw [av (aq _ _ _)];rfl,by rw [iB (by omega) (by omega)];omega,λH=> ?_,λH=> ?_⟩
   ·rw [iB (x:=(w:Int)) (by omega) (by omega)] at H;have A:=(mN P R Q).1 H;refine ⟨_,by rw [av (aq _ _ _)];rfl,r.sz,by simp only [sz];omega,r,rfl,ir,rfl,l6,?_⟩;rw [<- B];simp [Tr.ev,A]
   ·have A:¬wo c w=mY:=λhc=>H (by rw [iB (x:=(w:Int)) (by omega) (by omega)];exact (mN P R Q).2 hc);refine ⟨_,by rw [av (aq _ _ _)];rfl,l.sz,by simp only [sz];omega,l,rfl,il,rfl,l6,?_⟩;rw [<- B];simp [Tr.ev,A]
 ·unfold Ep;refine ⟨?_,O.trans G⟩;rw [<- B];cases h with
  |qa6 x=>cases x<;>simp [num,Tr.ev]
  |qa7 w l r=>have:=cY (S:=aU t) (t:=qa7 w l r) rfl;omega
end
abbrev Ps (α:Type):=Δ->Option (α×Δ)
section
variable {F G:PH} {g:Gr} {c:Int}
theorem Dd {v:Γ} {d:vE} {n:Nat} (hd:DV F v d) (B:iz d n) (c0:0<=c) (c1:c<18446744073709551616):ν 132 #[nL v,ru .u64 c] F λr A=>r=nS (jk d c)/\F.le A:=by obtain ⟨t,w,rfl,_,h,_⟩:=uE B;rw [mP ⟨w,h⟩];exact px hd w h c0 c1
theorem FL {v:Γ} (M:GV F v g) (E:OkG g) (c0:0<=c) (c1:c<18446744073709551616):ν 96 #[nL v,ru .u64 c] F λr J=>r=nS (Uh g c)/\F.le J:=by
 obtain ⟨N,_⟩:=fH E.large;have H:=E.fam.2.2.1;obtain ⟨C,n,t,s,p,l,f,rfl,D⟩:=M;have L:=D.c.len;refine aag ?_;unfold Wn;refine fresh λP Q h q2 _=>⟨_,ld q2 rfl,λw=> ?_,λw=> ?_⟩
 ·refine ⟨#[n.v,U g.fam.2],rfl,fX q2 rfl,?_⟩;refine (Dd (DV.mk (D.n.le h)) H c0 c1).mono ?_;rintro _ F2 ⟨rfl,A⟩;refine ⟨_,rfl,?_,aa h A⟩;unfold Uh;rw [show min g.qa4.length 64=64 by omega,ε,Wy];rw [YB _ (by decide)];exact Int.ediv_eq_zero_of_lt c0 c1
 ·have K:u64.wrap (C.len:Int)=(C.len:Int):=by
   have O:C.len<=64:=by omega
   rw [iB (by omega) (by omega)]
  rw [K,N4,L];refine ⟨by omega,λB=> ?_,λB=> ?_⟩
  ·refine ⟨#[n.v,U g.fam.2],rfl,fX q2 rfl,?_⟩;refine (Dd (DV.mk (D.n.le h)) H c0 c1).mono ?_;rintro _ F2 ⟨rfl,A⟩;refine ⟨_,rfl,?_,aa h A⟩;unfold Uh;rw [ε (show Int.fdiv c (2 ^ min g.qa4.length 64)=0 from B),Wy]
  ·refine ⟨?_,h⟩;unfold Uh;rw [η (show ¬Int.fdiv c (2 ^ min g.qa4.length 64)=0 from B),W5]
end
theorem qie (g:Gr) (y:Ru):(ruleG g y).qa0=g.qa0/\(ruleG g y).qa1=g.qa1:=by
 unfold ruleG nN jY tokG
 repeat' split
 all_goals exact ⟨rfl,rfl⟩
theorem lJ:∀(l:List Ru) (g:Gr),(dM l g).qa0=g.qa0/\(dM l g).qa1=g.qa1
 |[],g=>⟨rfl,rfl⟩
 |y::l,g=>by have:=lJ l (ruleG g y);have h:=qie g y;exact ⟨this.1.trans h.1,this.2.trans h.2⟩
theorem AN (x:Rw) (g:Gr):(famG x g).qa0=g.qa0/\(famG x g).qa1=g.qa1:=by unfold famG;split<;>exact ⟨rfl,rfl⟩
def lK (p:Pr):Prop:=∃s∈p.right,s.t=mY
def pf (p:Pr):Prop:=∀s∈p.right,s.t=mz->p.left<s.i
theorem HQ (p:Pr) (m:Nat):(cD p m).left=p.left/\(cD p m).right=p.right:=by
 unfold cD
 repeat' split
 all_goals exact ⟨rfl,rfl⟩
theorem AO {l:List Sy} (h:du l≠0):∃s∈l,s.t=mY:=by have:(l.filter (·.t))≠[]:=λe=>h (by unfold du;rw [e];rfl);obtain ⟨s,g⟩:=List.exists_mem_of_ne_nil _ this;exact ⟨s,(X1.1 g).1,(X1.1 g).2⟩
theorem lL {x:Rw}:∀(l:List Ln) (g:Gr),(dv x l g).qa1=g.qa1/\∀p∈(dv x l g).qa0,p∈g.qa0\/((∃k,p.name=bg k)/\(lK p\/(bE x=mz/\pf p)))
 |[],g=>⟨rfl,λp B=> .inl B⟩
 |y::l,g=>by
  obtain ⟨e,ih⟩:=lL l (lineG g y (bE x));have F:(dv x (y::l) g)=dv x l (lineG g y (bE x)):=rfl;rw [F];by_cases w:du (aP g.qa1.length y)=0/\(bE x=mY\/cU (y.left % g.qa1.length) (aP g.qa1.length y)=mz)
  ·have A:lineG g y (bE x)=g:=by unfold lineG;rw [Χ w]
   rw [A] at e ih ⊢;exact ⟨e,ih⟩
  ·have A:lineG g y (bE x)={g with qa0:=g.qa0++[cD (jb g y) y.mark]}:=by unfold lineG;rw [Υ w]
   rw [A] at e ih ⊢;refine ⟨e,λp B=> ?_⟩;rcases ih p B with h|h
   ·rcases vd.1 h with h|h
    ·exact .inl h
    ·refine .inr ?_;rw [vy.1 h];obtain ⟨G,E⟩:=HQ (jb g y) y.mark;refine ⟨⟨g.qa0.length,by rw [rS];rfl⟩,?_⟩;unfold lK pf;rw [G,E];by_cases D:du (aP g.qa1.length y)=0
     ·refine .inr ⟨?_,λs H C=> ?_⟩
      ·cases hk:bE x with
       |false=>rfl
       |true=>exact absurd ⟨D,.inl hk⟩ w
      ·have r:cU (y.left % g.qa1.length) (aP g.qa1.length y)=mY:=by
        cases r:cU (y.left % g.qa1.length) (aP g.qa1.length y) with
        |true=>rfl
        |false=>exact absurd ⟨D,.inr r⟩ w
       unfold cU at r;rw [Vn] at r;have:=r s H;rw [C,Bool.false_or] at this;exact ζ this
     ·exact .inl (AO D)
   ·exact .inr h
theorem AQ (x:Rw):(aS x).qa1=(cV x).qa1/\∀p∈(aS x).qa0,p∈(cV x).qa0\/((∃k,p.name=bg k)/\(lK p\/(bE x=mz/\pf p))):=by unfold aS;obtain ⟨B,h⟩:=lJ (x.rules.take 6) (dv x (x.lines.take (cO x)) (famG x (cV x)));obtain ⟨w,A⟩:=lL (x:=x) (x.lines.take (cO x)) (famG x (cV x));obtain ⟨c1,g⟩:=AN x (cV x);rw [B,h,w,g];refine ⟨rfl,λp r=> ?_⟩;have:=A p r;rwa [c1] at this
def Mf:ο:=⟨#[99,121,99,108,101]⟩
def FM:ο:=⟨#[110,111,116,104,105,110,103]⟩
def Ug (s:ο):Prop:=(s.size≠2\/s.data[0]?≠V 113)/\s≠Mf/\s≠FM
instance (s:ο):Decidable (Ug s):=by unfold Ug;infer_instance
theorem HR {F:PH} {a:Addr} {x:Pr} {r n l:Sl} (h:F.row a (x.arr r n l)):F.row (a.add 3) #[n.v,U x.cond.2]:=pZ h rfl
theorem uj {F:PH} {a:Addr} {x:Tk} {p n:Sl} (h:F.row a (x.arr p n)):F.row (a.add 5) #[n.v,U x.cond.2]:=pZ h rfl
def AR (g:Gr) (cf:Cf):Dtr->Bool
 | .lf tk _ _=>(eG g tk).ev cf
 | .nd pr _ _ _=>match VD g pr with
  |some x=>(uc x.cond).ev cf
  |none=>mz
def HS:Dtr->Bool
 | .lf _ _ _=>mY
 | .nd _ fr to ks=>dY fr mY (ks.map Dtr.root) to
def Zl (g:Gr):Dtr->Bool
 | .lf _ _ _=>mz
 | .nd pr _ _ _=>decide (((VD g pr).map Pr.left).getD 0=g.start)
def vr (g:Gr) (cf:Cf) (T:Dtr):Bool:=Zl g T && (xy T).all λm=>AR g cf m && HS m
section
variable {F G:PH} {g:Gr} {k:Nat} {T:Dtr} {c:Int}
theorem qZ {v:Γ} {t:Tr} (A:k<=6) (w:Sx k t) (hd:DV F v (pg t)) (c0:0<=c) (c1:c<18446744073709551616):ν 76 #[nL v,ru .u64 c] F λr h=>r=nS (t.ev (wo c))/\F.le h:=by rw [<- mP (w.small A) c];exact sS hd c0 c1
theorem yq {α:Type} {p:α->Bool} {l:List α} {j:Nat} {x:α} (h:l[j]? =V x):(l.take (j+1)).all p=((l.take j).all p && p x):=by rw [Wv,h,List.all_append];simp
theorem HT {α:Type} {p:α->Bool} {l:List α} {j:Nat} {x:α} (r:l[j]? =V x) (h:p x=mz):l.all p=mz:=by rw [List.all_eq_false];exact ⟨x,vQ r,by rw [h];decide⟩
theorem AT {v:Γ} {t:Sl} (hg:GV F v g) (hk:OkK g k) (hf:dU g T) (hN:szN T<=2000000) (ht:RL F t (vD T)) (c0:0<=c) (c1:c<18446744073709551616):
  ν 46 #[nL v,ru .u64 c,t.v] F λr D=>(∃s:Sl,r=nE s/\s.qa5.isNone= !vr g (wo c) T)/\F.le D:=by
 have f3:=gb T;have c7:=hg;obtain ⟨cs,n,tk,s,p,l,f,rfl,hs⟩:=hg;have et:t.len=szN T:=ht.len;have f7:=hs.t.len;have ep:=hs.p.len;refine qgz ?_;unfold Vr;refine fresh λb3 F1 l1 q3 _=>⟨_,rfl,ai q3,?_⟩;refine (ko (c7.le l1) hf hN (ht.le l1)).mono ?_;rintro r F2 ⟨⟨es,rfl,a9⟩,l2⟩;have C:=aa l1 l2;refine ⟨es,rfl,?_⟩;have f4:es.len=szN T:=by have:=a9.len;rw [this,ub,jE]
 have J:es.qa5.isNone=mz:=by obtain ⟨b,o,h1,_⟩:=lQ a9 (we (fF T));rw [h1];rfl
 refine ⟨λE=>(by rw [J] at E;cases E),λ_=> ?_⟩;have no:∀D,F2.le D->vr g (wo c) T=mz->(∃s:Sl,nE pi=nE s/\s.qa5.isNone= !vr g (wo c) T)/\F.le D:=λD lF h=>⟨⟨pi,rfl,by rw [h];rfl⟩,aa C lF⟩;have h0:(vD T)[0]? =V T.root:=by rw [kX];rfl
 refine t6 (ht.le C) (by decide) (Va _) (by omega) λa cc x hx X hc=> ?_;rw [show (nT 0)=0 from rfl] at hx X;obtain rfl:=yC (h0.symm.trans hx);obtain rfl:cc=T.root.arr:=hc;refine ⟨_,aE X rfl,λa0=>no _ (au _) ?_,λK=> ?_⟩
 ·cases A:T with
  |lf=>rfl
  |nd pr fr to ks=>rw [A] at a0 hf;obtain ⟨_,_,x,hx,_⟩:=hf.here;exact absurd (bA hx).1 (Int.not_le.2 a0)
 obtain ⟨pr,fr,to,ks,A⟩:∃pr fr to ks,T=.nd pr fr to ks:=by
  cases T with
  |lf=>exact absurd (by show (-1:Int)<0;decide) K
  |nd pr fr to ks=>exact ⟨pr,fr,to,ks,rfl⟩
 have c4:=hf.here;rw [A] at c4;obtain ⟨_,_,x,a7,_⟩:=c4;obtain ⟨x0,x1,x2⟩:=bA a7;have d1:T.root.pr=pr:=by rw [A];rfl
 have a8:=l2 _ _ q3;have e7:=hs.le C;refine ⟨p,ld a8 rfl,?_⟩;refine t6 (ht.le C) (by decide) (Va _) (by omega) λa' e8 x' b6 H c9=> ?_;rw [show (nT 0)=0 from rfl] at b6 H;obtain rfl:=yC (h0.symm.trans b6);obtain rfl:e8=T.root.arr:=c9;refine ⟨pr,by rw [<- d1];exact aE H rfl,?_⟩;refine t6 e7.p (by decide) x0 (by omega) λa2 c2 y N b2 e5=> ?_;obtain rfl:y=x:=yC (N.symm.trans x2);obtain ⟨r2,n2,l3,rfl,_⟩:=e5;refine ⟨_,aM b2 (i:=1) rfl,_,ld a8 rfl,λe4=>no _ (au _) ?_,λe3=> ?_⟩
 ·unfold vr Zl;rw [A];dsimp only;rw [a7,Vz,Option.getD_some,decide_eq_false e4,W5]
 have d0:Zl g T=mY:=by unfold Zl;rw [A];dsimp only;rw [a7,Vz,Option.getD_some];exact decide_eq_true (Decidable.not_not.1 e3)
 refine bC (BN · c t b3 es _) (szN T) (λj D=>F2.le D/\((xy T).take j).all (λm=>AR g (wo c) m && HS m)=mY) ⟨au _,rfl⟩ ?_;rintro j F3 Nx hj ⟨l3,M⟩ next;have b1:=aa C l3;unfold BN;refine ⟨λW=> ?_,λf5=> ?_⟩
 ·have W:j<szN T:=by omega
  obtain ⟨m,hm⟩:=gO W;have d4:=gN hm;have P:=hf m (dn hm);have b7:(xy T)[j]? =V m:=hm;have L:(AR g (wo c) m && HS m)=mz->vr g (wo c) T=mz:=λh=>by unfold vr;rw [HT b7 h,Bool.and_false]
  have go:(AR g (wo c) m && HS m)=mY->∀(R:VR) D,F3.le D->wI Nx c t b3 es (j:Int) R D:=λh R D lF=>by unfold wI;rw [aC W];exact next D W ⟨aa l3 lF,by rw [yq b7,M,h];rfl⟩
  refine t6 (ht.le b1) (by decide) (by omega) (by omega) λa5 c5 x5 b8 a4 c8=> ?_;rw [N4,d4] at b8;obtain rfl:=yC b8;obtain rfl:c5=m.root.arr:=c8;refine ⟨_,rfl,a4,?_⟩;refine (St.start F3).var (by simp [ak]) (λb9 G4 F4 l4 q9 h=> ?_);have a3:=h.le _ _ q9;have B:=aa l4 h.le;have e0:=aa b1 B;have b4:=aa l3 B _ _ a8;have b5:=hs.le e0;refine ⟨_,ld a3 rfl,?_⟩;cases hmm:m with
  |lf O e9 d2=>
   rw [hmm] at P;obtain ⟨f1,f2,_⟩:=P;have N:∃y,g.qa2[O.toNat]? =V y:=⟨_,N5 (by omega)⟩;obtain ⟨y,N⟩:=N;have ed:eG g O=uc y.cond:=by unfold eG;rw [N]
   obtain ⟨sx,sd⟩:=hk.tok (vQ N);refine ⟨λ_=>⟨tk,ld b4 rfl,O,ld a3 (by rw [hmm];rfl),?_⟩,λE=>absurd (by show (-1:Int)<0;decide) E⟩;refine t6 b5.t (by decide) f1 (by omega) λa6 c6 y6 b0 w a1=> ?_;obtain rfl:y6=y:=yC (b0.symm.trans N);obtain ⟨pp,nn,rfl,_,K⟩:=a1;refine ⟨#[nn.v,U y6.cond.2],rfl,uj w,?_⟩;refine (qZ hk.le sx (by rw [<- sd];exact DV.mk K) c0 c1).mono ?_;rintro r F5 ⟨rfl,l5⟩;refine ⟨_,rfl,λE=> ?_,λN=> ?_⟩
   ·refine no F5 (aa l3 (aa B l5)) (L ?_);rw [hmm];show ((eG g O).ev (wo c) && mY)=mz;rw [ed];simpa using E
   ·refine go ?_ _ F5 (aa B l5);rw [hmm];show ((eG g O).ev (wo c) && mY)=mY;rw [ed];simpa using N
  |nd d3 e9 d2 f6=>
   rw [hmm] at P;obtain ⟨_,_,y,c3,_⟩:=P;obtain ⟨y0,y1,y2⟩:=bA c3;obtain ⟨sx,sd,_⟩:=hk.prod (vQ y2);refine ⟨λE=>absurd y0 (Int.not_le.2 E),λ_=>⟨p,ld b4 rfl,d3,ld a3 (by rw [hmm];rfl),?_⟩⟩;refine t6 b5.p (by decide) y0 (by omega) λa6 c6 y6 b0 w a1=> ?_;obtain rfl:y6=y:=yC (b0.symm.trans y2);obtain ⟨rr,nn,ll,rfl,_,K,_⟩:=a1;refine ⟨#[nn.v,U y6.cond.2],rfl,HR w,?_⟩;refine (qZ hk.le sx (by rw [<- sd];exact DV.mk K) c0 c1).mono ?_;rintro r F5 ⟨rfl,l5⟩;have e1:AR g (wo c) m=(uc y6.cond).ev (wo c):=by rw [hmm];unfold AR;dsimp only;rw [c3]
   have Q:=aa l3 (aa B l5);refine ⟨_,rfl,λE=> ?_,λN=> ?_⟩
   ·refine no F5 Q (L ?_);rw [e1];rw [show (uc y6.cond).ev (wo c)=mz by simpa using E,W5]
   ·refine (qhe hm hN (a9.le Q) (ht.le (aa C Q))).mono ?_;rintro r F6 ⟨rfl,rfl⟩;have e2:HS m=dY m.root.fr mY (m.kids.map Dtr.root) m.root.to:=by rw [hmm];rfl
    refine ⟨_,rfl,λE=> ?_,λe6=> ?_⟩
    ·refine no _ Q (L ?_);rw [e2,show dY m.root.fr mY (m.kids.map Dtr.root) m.root.to=mz by simpa using E,Bool.and_false]
    ·refine go ?_ _ _ (aa B l5);rw [e1,e2,show (uc y6.cond).ev (wo c)=mY by simpa using N,show dY m.root.fr mY (m.kids.map Dtr.root) m.root.to=mY by simpa using e6];rfl
 ·unfold Ji;obtain rfl:j=szN T:=by omega
  rw [zc (by rw [dI];exact qX _)] at M;refine ⟨⟨es,rfl,?_⟩,b1⟩;unfold vr;rw [J,d0,M];rfl
end
section
variable {F G:PH} {g:Gr} {k:Nat} {T m:Dtr} {c:Int}
def X4 (g:Gr) (c:Int) (T:Dtr):Int:=if Xr g c=mY then (if vr g (wo c) T=mY then 0 else 90) else 1
theorem qif {v:Γ} (H:Tab F) (A:GV F v g) (D:GdG g k) (c0:0<=c) (c1:c<18446744073709551616):ν 45 #[nL v,ru .u64 c] F λr K=>r=U (if Xr g c=mY then 0 else 1)/\F.le K:=by
 refine qgy ?_;unfold Vq;refine fresh λN O C q2 _=>⟨v,A.size,ai q2,?_⟩;refine (uh (H.le C) (A.le C) D).mono ?_;rintro r F2 ⟨rfl,E⟩;have h:=aa C E;refine ⟨_,rfl,λB=>absurd rfl B,λ_=>⟨v,A.size,ai (E _ _ q2),?_⟩⟩;refine (Jo (H.le h) (A.le h) D.sz c0 c1).mono ?_;rintro r M ⟨rfl,J⟩;have w:=aa h J;refine ⟨_,rfl,λB=>⟨?_,w⟩,λL=>⟨?_,w⟩⟩
 ·rw [Υ (by simpa using B)]
 ·rw [Χ (by simpa using L)]
theorem AU {v:Γ} {t:Sl} (O:Tab F) (C:GV F v g) (E:GdG g k) (N:dU g T) (M:szN T<=2000000) (P:RL F t (vD T)) (c0:0<=c) (c1:c<18446744073709551616):
  ν 22 #[nL v,ru .u64 c,t.v] F λr L=>r=U (X4 g c T)/\F.le L:=by
 refine qgw ?_;unfold Vo;refine fresh λR W D q3 _=>⟨v,C.size,ai q3,?_⟩;refine (qif (O.le D) (C.le D) E c0 c1).mono ?_;rintro r F2 ⟨rfl,H⟩;have h:=aa D H;unfold X4;refine ⟨_,rfl,λw=>⟨?_,h⟩,λB=>⟨v,C.size,ai (H _ _ q3),?_⟩⟩
 ·by_cases e:Xr g c=mY
  ·rw [Χ e] at w;exact absurd rfl w
  ·rw [Υ e,Υ e]
 ·have e:Xr g c=mY:=by
   by_cases e:Xr g c=mY
   ·exact e
   ·rw [Υ e] at B;exact absurd B (by decide)
  refine (AT (C.le h) E.ok N M (P.le h) c0 c1).mono ?_;rintro r Q ⟨⟨s,rfl,J⟩,K⟩;have A:=aa h K;rw [Χ e];refine ⟨s,rfl,λw=>⟨?_,A⟩,λB=>⟨?_,A⟩⟩
  ·rw [J] at w;rw [Υ (by simpa using w)]
  ·rw [J] at B;rw [Χ (by simpa using B)]
theorem FN {v:Γ} {t:Sl} {i:Nat} (hT:Tab F) (C:GV F v g) (Q:GdG g k) (hf:dU g T) (L:szN T<=2000000) (R:RL F t (vD T)) (O:bK T i=V m):
  ν 25 #[nL v,t.v,U (i:Int)] F λr P=>(∃s,r=pk #[nE s,nS mY]/\RL P s ((gH (bV i m.kids) m.kids.length).map Int.ofNat))/\F.le P:=by
 have X:=d5 O;refine qgx ?_;unfold Vp;refine fresh λb3 F1 E q3 _=>⟨v,C.size,ai q3,?_⟩;refine (uh (hT.le E) (C.le E) Q).mono ?_;rintro r F2 ⟨rfl,N⟩;have h:=aa E N;refine ⟨_,rfl,λB=>absurd rfl B,λ_=>⟨v,C.size,ai (N _ _ q3),?_⟩⟩;refine (ko (C.le h) hf L (R.le h)).mono ?_;rintro r F3 ⟨⟨M,rfl,A⟩,l3⟩;have H:=aa h l3;have a0:M.len=szN T:=by rw [A.len,ub,jE]
 refine ⟨M,rfl,λB=>absurd B (by omega),λ_=>⟨λB=>absurd B (by omega),λ_=> ?_⟩⟩;refine qgB ?_;unfold Vt;refine fresh λb4 F4 W q4 _=>fresh λb5 F5 K q5 _=>⟨_,rfl,?_⟩;have w:=aa W K;refine aaw ?_;unfold Xt;refine (qhl O L (K _ _ q4) q5 (A.le w)).mono ?_;rintro r F6 ⟨⟨D,rfl,J⟩,l6⟩;exact ⟨D,rfl,D,rfl,⟨D,rfl,J⟩,aa H (aa w l6)⟩
theorem qcY:∃b z,SlT 43 47 4 b z:=⟨_,_,underlying43,aaK,aaQ,rfl,by decide,by decide⟩
end
variable {R:VR} {F:PH}
set_option maxHeartbeats 4000000
def Ui (n:Γ) (o:Int) (c:ο) (f:Sl) (p:Int) (R:VR) (F:PH):Prop:=Nb F (Y n 39) λr F=>Nb F (Y #[(U p)] 3) λq F=>Lr F 9 (Z r 0) λg=>ν 31 #[nL g,ru .u64 o,pe c,nE f] F λv F=>∃e,∃a,v=(pk #[ph e,(U a)])/\Nb F (Y (#[ph I]) 98) λd F=>qW F (Z d 0) (ph e) λF=>Bc (a≠0) (R (pk #[nE pi,(U a)]) F) (Li F (Z q 0) λh=>Bc (h<0) (R (pk #[nE pi,(U 1)]) F) (Li F (Z q 0) λi=>Bc ((f.len:Int)<=i) (R (pk #[nE pi,(U 1)]) F) (Nb F (Y (#[tS I 0 0]) 48) λj F=>Lq F (Z d 0) λk=>∃b,k=V b/\qW F (nR b 14) (.func (.func 32) #[] #[(Pp q),(Pp j),(Pp d)]) λF=>Lq F (Z d 0) λl=>Cu 33 #[ph l] F λF=>Ls F (Z j 0) λm=>R (pk #[nE m,(U 0)]) F)))
theorem qfo {b:Γ} {c:Int} {a:ο} {d:Sl} {e:Int} (h:Ui b c a d e R F):ν 11 #[nL b,ru .u64 c,pe a,nE d,(U e)] F R:=Rx.Λ .N h
def Uj (n:Γ) (o:Int) (c:ο) (f:Sl) (p:Int) (R:VR) (F:PH):Prop:=Nb F (Y n 39) λr F=>Nb F (Y #[(U p)] 3) λq F=>Lr F 9 (Z r 0) λg=>ν 31 #[nL g,ru .u64 o,pe c,nE f] F λv F=>∃e,∃a,v=(pk #[ph e,(U a)])/\Nb F (Y (#[ph I]) 98) λd F=>qW F (Z d 0) (ph e) λF=>Bc (a≠0) (R (pk #[nE pi,(U a)]) F) (Li F (Z q 0) λh=>Bc (h<0) (R (pk #[nE pi,(U 1)]) F) (Li F (Z q 0) λi=>Bc ((f.len:Int)<=i) (R (pk #[nE pi,(U 1)]) F) (Nb F (Y (#[tS I 0 0]) 48) λj F=>Lq F (Z d 0) λk=>∃b,k=V b/\qW F (nR b 13) (.func (.func 36) #[] #[(Pp q),(Pp j),(Pp d)]) λF=>Lq F (Z d 0) λl=>Cu 33 #[ph l] F λF=>Ls F (Z j 0) λm=>R (pk #[nE m,(U 0)]) F)))
theorem qgF {b:Γ} {c:Int} {a:ο} {d:Sl} {e:Int} (h:Uj b c a d e R F):ν 13 #[nL b,ru .u64 c,pe a,nE d,(U e)] F R:=Rx.Λ .N h
def Uk (k:Γ) (l:Int) (c:ο) (m:Sl) (R:VR) (F:PH):Prop:=Nb F (Y k 39) λn F=>Lr F 9 (Z n 0) λf=>ν 31 #[nL f,ru .u64 l,pe c,nE m] F λv F=>∃e,∃a,v=(pk #[ph e,(U a)])/\Nb F (Y (#[ph I]) 98) λd F=>qW F (Z d 0) (ph e) λF=>Bc (a≠0) (R (pk #[nE pi,(U a)]) F) (Nb F (Y (#[tS I 0 0]) 52) λg F=>Lq F (Z d 0) λh=>∃b,h=V b/\qW F (nR b 13) (.func (.func 38) #[] #[(Pp d),(Pp g)]) λF=>Lq F (Z d 0) λi=>Cu 33 #[ph i] F λF=>Ls F (Z g 0) λj=>R (pk #[nE j,(U 0)]) F)
theorem qgG {b:Γ} {c:Int} {a:ο} {d:Sl} (h:Uk b c a d R F):ν 15 #[nL b,ru .u64 c,pe a,nE d] F R:=Rx.Λ .N h
def Ul (e:Γ) (f:Int) (b:ο) (g:Sl) (R:VR) (F:PH):Prop:=Nb F (Y e 39) λh F=>Lr F 9 (Z h 0) λd=>ν 15 #[nL d,ru .u64 f,pe b,nE g] F λv F=>∃c,∃a,v=(pk #[nE c,(U a)])/\Bc (a=0) (R (nS (decide ((c.len:Int)=0))) F) (R (nS mz) F)
theorem qgH {b:Γ} {c:Int} {a:ο} {d:Sl} (h:Ul b c a d R F):ν 19 #[nL b,ru .u64 c,pe a,nE d] F R:=Rx.Λ .N h
def HU (a:ο) (d:Sl) (f:Nat) (R:VR) (F:PH):Prop:=Lr F 9 (Z f 0) λb=>aG prog (Instr.makeSlice 76 (U (d.len:Int)) (U (d.len:Int))) F λv F=>∃c,v=(nE c)/\F.row (Z f 0) b/\b.size=9/\(rV (rV (rV (wr (#[tS I 0 0,.slice I 0 0,U 0,.slice I 0 0,.slice I 0 0,.slice I 0 0,U 0,.slice I 0 0,.slice I 0 0,.string ⟨#[]⟩,tS I 0 0,.slice I 0 0]:Γ) 0 b.toList) 9 (pe a)) 10 (nE d)) 11 (nE c)).size=12/\Nb F (Y (wr (#[tS I 0 0,.slice I 0 0,U 0,.slice I 0 0,.slice I 0 0,.slice I 0 0,U 0,.slice I 0 0,.slice I 0 0,.string ⟨#[]⟩,tS I 0 0,.slice I 0 0,.slice I 0 0,.nilFunc,.nilFunc]:Γ) 0 (rV (rV (rV (wr (#[tS I 0 0,.slice I 0 0,U 0,.slice I 0 0,.slice I 0 0,.slice I 0 0,U 0,.slice I 0 0,.slice I 0 0,.string ⟨#[]⟩,tS I 0 0,.slice I 0 0]:Γ) 0 b.toList) 9 (pe a)) 10 (nE d)) 11 (nE c)).toList) 108) λe F=>Ci 66 #[(Pp e),(U 0)] F λ_ F=>R (pk #[(Pp e),(U 0)]) F
def vu (c:Ω) (_:ο) (_:Sl) (_:Nat) (a:Int) (_:VR) (F:PH):Prop:=c (i64.wrap (a+1)) F
def AV (j:Ω) (a:ο) (c:Sl) (i:Nat) (R:VR) (b:Int) (F:PH):Prop:=Bc (b<(c.len:Int)) (Ix c b λe=>Lr F 4 (nR e (nT b*4)) λf=>Nb F (Y (#[U 0,U 0,U 0,U 0]) 47) λd F=>aA F (Z d 0) 4 f λF=>Li F (Z d 0) λg=>Bc (g<0) (Li F (Z d 3) λh=>Bc ((a.size:Int)<h) (R (pk #[ph I,(U 90)]) F) (vu j a c i b R F)) (vu j a c i b R F)) (HU a c i R F)
def Um (f:Γ) (g:Int) (a:ο) (c:Sl) (R:VR) (F:PH):Prop:=Nb F (Y f 39) λh F=>Lr F 9 (Z h 0) λd=>Ci 22 #[nL d,ru .u64 g,nE c] F λb F=>Bc (b≠0) (R (pk #[ph I,(U b)]) F) (Lp 0 F λN e F=>AV N a c h R e F)
theorem qgI {b:Γ} {c:Int} {a:ο} {d:Sl} (h:Um b c a d R F):ν 31 #[nL b,ru .u64 c,pe a,nE d] F R:=Rx.Λ (.qa8 (.qa8 (.J mz [] (.qa8 (.L [(23,.int .i64)] (.qa8 (.qa8 (.J mz [] .N .N))))) .N))) h
def Un (j a:Int) (k l m:Θ) (R:VR) (F:PH):Prop:=∃f,k=V f/\Li F f λn=>Bc (j=n) (∃d,l=V d/\Ls F d λh=>∃e,m=V e/\Lq F e λg=>∃c,g=V c/\Ls F (nR c 12) λb=>0<=a/\(nT a)<=b.len/\b.len<=b.cap/\Ap 48 #[nE h,nE (Sl.cut b 2 (nT a) b.len b.cap)] F λi F=>F.cell (nR c 12)=V (nE b)/\F.cell e=V (ph g)/\qW F d (nE i) λF=>R (pk #[]) F) (R (pk #[]) F)
theorem qgJ {b:Int} {a:Int} {c:Θ} {d:Θ} {e:Θ} (h:Un b a c d e R F):ν 32 #[(U b),(U a),ph c,ph d,ph e] F R:=Rx.Λ .N h
def Uo (d:Θ) (R:VR) (F:PH):Prop:=Nb F (Y #[ph d] 98) λg F=>Nb F (Y (#[.nilFunc]) 149) λe F=>qW F (Z e 0) (.func (.func 67) #[] #[(Pp g),(Pp e)]) λF=>∃a:ξ,F.cell (Z e 0)=V a/\Fn a λh b c=>aj prog h (b++([(U 0)]).toArray++c) F λv F=>∃f,v=(U f)/\R (pk #[]) F
theorem qgK {a:Θ} (h:Uo a R F):ν 33 #[ph a] F R:=Rx.Λ .N h
def Uq (h:Int) (i j k:Θ) (R:VR) (F:PH):Prop:=∃c,i=V c/\Li F c λl=>Bc (h=l) (∃a,j=V a/\Ls F a λm=>∃b,k=V b/\Lq F b λe=>∃d,e=V d/\Ls F (nR d 12) λf=>Ap 48 #[nE m,nE f] F λg F=>F.cell b=V (ph e)/\qW F a (nE g) λF=>R (pk #[]) F) (R (pk #[]) F)
theorem qgL {a:Int} {b:Θ} {c:Θ} {d:Θ} (h:Uq a b c d R F):ν 36 #[(U a),ph b,ph c,ph d] F R:=Rx.Λ .N h
def Ur (l:Int) (t u:Θ) (R:VR) (F:PH):Prop:=∃a,t=V a/\Lq F a λv=>∃m,v=V m/\Ca 39 #[ph (V m),(U l)] F λw F=>Nb F (Y (#[nS mz,U 0,U 0,U 0,U 0]) 60) λk F=>aA F (Z k 0) 5 w λF=>Li F (Z k 3) λo=>Bc (o=0) (R (pk #[]) F) (Li F (Z k 4) λb=>Lq F a λc=>∃g,c=V g/\Lq F a λd=>∃h,d=V h/\Lq F a λe=>∃i,e=V i/\Li F (Z k 3) λf=>Ci 42 #[ph (V i),(U l),(U (i64.wrap (f - 1)))] F λp F=>F.cell (Z k 3)=V (U f)/\F.cell a=V (ph e)/\F.cell a=V (ph d)/\F.cell a=V (ph c)/\F.cell (Z k 4)=V (U b)/\Cx 41 #[ph (V h),(U p)] F λq F=>F.cell (Z k 3)=V (U f)/\F.cell a=V (ph e)/\F.cell a=V (ph d)/\F.cell a=V (ph c)/\F.cell (Z k 4)=V (U b)/\Ci 40 #[ph (V (nR g 12)),pe q] F λn F=>F.cell (Z k 3)=V (U f)/\F.cell a=V (ph e)/\F.cell a=V (ph d)/\F.cell a=V (ph c)/\F.cell (Z k 4)=V (U b)/\0<=n/\Bc ((i64.wrap ((BitVec.ofInt (i64).bits (Int.fdiv b (2 ^ (min (nT n) (i64).bits))) &&& BitVec.ofInt (i64).bits 1).toNat))=0) (∃j,u=V j/\Ls F j λr=>(#[(U 6),(U l),U 0]:Γ).size=3/\Nb F (Y (#[(U 6),(U l),U 0]:Γ) 66) λx F=>Ap 52 #[nE r,nE (Sb x 1)] F λs F=>qW F j (nE s) λF=>R (pk #[]) F) (R (pk #[]) F))
theorem qgM {a:Int} {b:Θ} {c:Θ} (h:Ur a b c R F):ν 38 #[(U a),ph b,ph c] F R:=Rx.Λ .N h
def Us (l:Θ) (b:Int) (R:VR) (F:PH):Prop:=Nb F (Y (#[nS mz,U 0,U 0,U 0,U 0]) 60) λk F=>∃a,l=V a/\Ls F (nR a 10) λm=>Ix m b λd=>Li F (nR d (nT b*4)) λe=>Bc (e<0) (aA F (Z k 0) 5 (#[nS mz,U 0,U 0,U 0,U 0]:Γ) λF=>Rr 5 (Z k 0) R F) (Ls F (nR a 5) λf=>Ls F (nR a 10) λg=>Ix g b λh=>Li F (nR h (nT b*4)) λc=>Ix f c λi=>Lr F 5 (nR (nR i (nT c*13)) 8) λj=>aA F (Z k 0) 5 j λF=>Rr 5 (Z k 0) R F)
theorem qgN {a:Θ} {b:Int} (h:Us a b R F):ν 39 #[ph a,(U b)] F R:=Rx.Λ .N h
def HV (R:VR) (F:PH):Prop:=R (U 0) F
def HW (j:Ω) (c:Addr) (b:ο) (R:VR) (a:Int) (F:PH):Prop:=Bc (0<=a) (Ls F c λd=>Ix d a λe=>Lx F (nR e (nT a*2)) λf=>Bb ((f.toList==b.toList)) (Ls F c λg=>Ix g a λh=>Li F (nR (nR h (nT a*2)) 1) λi=>R (U i) F) (j (i64.wrap (a - 1)) F)) (HV R F)
def Ut (c:Θ) (b:ο) (R:VR) (F:PH):Prop:=∃a,c=V a/\Ls F a λd=>Lp (i64.wrap ((d.len:Int) - 1)) F λN e F=>HW N a b R e F
theorem qgO {b:Θ} {a:ο} (h:Ut b a R F):ν 40 #[ph b,pe a] F R:=Rx.Λ (.qa8 (.J mz [] (.qa8 (.L [(5,.int .i64)] .N)) .N)) h
def Uu (j:Θ) (d:Int) (R:VR) (F:PH):Prop:=∃a,j=V a/\Lx F (nR a 9) λe=>Ls F (nR a 10) λf=>Ix f d λg=>Li F (nR (nR g (nT d*4)) 2) λc=>Ls F (nR a 10) λh=>Ix h d λi=>Li F (nR (nR i (nT d*4)) 3) λb=>0<=c/\0<=b/\(nT c)<=(nT b)/\(nT b)<=e.size/\R (pe (e.extract (nT c) (nT b))) F
theorem qgP {a:Θ} {b:Int} (h:Uu a b R F):ν 41 #[ph a,(U b)] F R:=Rx.Λ .N h
def HX (a:Int) (R:VR) (F:PH):Prop:=R (U a) F
def AW (i:Int->Ω) (g:Θ) (h:Int) (R:VR) (a b:Int) (F:PH):Prop:=Bc (b<h) (∃c,g=V c/\Ls F (nR c 11) λd=>Ix d a λe=>Li F (nR e (nT a*1)) λf=>i f (i64.wrap (b+1)) F) (HX a R F)
def Uv (d:Θ) (e f:Int) (R:VR) (F:PH):Prop:=(∃(g:Nat->Int->Ω) (c:Nat),g c (i64.wrap (e+1)) 0 F/\∀c a b F,g c a b F-> AW (VL g c) d f R a b F)
theorem qgQ {a:Θ} {b:Int} {c:Int} (h:Uv a b c R F):ν 42 #[ph a,(U b),(U c)] F R:=Rx.Λ (.qa8 (.qa8 (.J mz [(7,.int .i64)] (.qa8 (.L [(7,.int .i64),(11,.int .i64)] .N)) .N))) h
def vv (f:Θ) (c a:Int) (R:VR) (F:PH):Prop:=∃b,f=V b/\Ls F (nR b 11) λd=>Ix d c λe=>qW F (nR e (nT c*1)) (U a) λF=>R (U a) F
def AX (g:Int->Ω) (b:Addr) (f:Int) (d:Sl) (R:VR) (a c:Int) (F:PH):Prop:=Bc (c<(d.len:Int)) (Ci 66 #[ph (V b),(U a)] F λe F=>g e (i64.wrap (c+1)) F) (vv (V b) f a R F)
def RJ (l:Θ) (c:Int) (R:VR) (F:PH):Prop:=∃a,l=V a/\Ls F (nR a 10) λf=>Ix f c λg=>Li F (nR g (nT c*4)) λd=>Bc (0<=d) (Ls F (nR a 5) λh=>Ix h d λi=>Ls F (nR (nR i (nT d*13)) 2) λj=>(∃(m:Nat->Int->Ω) (k:Nat),m k (i64.wrap (c+1)) 0 F/\∀k b e F,m k b e F-> AX (VL m k) a c j R b e F)) (vv (V a) c (i64.wrap (c+1)) R F)
theorem Uw {a:Θ} {b:Int} (h:RJ a b R F):ν 66 #[ph a,(U b)] F R:=Rx.Λ (.qa8 (.qa8 (.J mz [(0,.ptr),(5,.int .i64)] (.qa8 (.qa8 (.T (.qa8 (.L [(5,.int .i64),(29,.int .i64)] .N)) .N))) .N))) h
def nz (n:Int) (i:Addr) (k:Sl) (a:Int) (R:VR) (F:PH):Prop:=Lq F i λl=>∃c,l=V c/\∃d:ξ,F.cell (nR c 14)=V d/\∃e,xU d e/\Bb ((!e)) (Lq F i λj=>∃b,j=V b/\∃f:ξ,F.cell (nR b 14)=V f/\Fn f λm g h=>aj prog m (g++([(U n),(U (k.len:Int))]).toArray++h) F λv F=>v=(pk #[])/\R (U a) F) (R (U a) F)
def ra (m:Int) (a:Addr) (l:Sl) (b:Int) (k:Nat) (R:VR) (F:PH):Prop:=Li F (Z k 1) λn=>Bc (0<n) (Lq F a λc=>∃h,c=V h/\Lq F a λd=>∃i,d=V i/\Lq F a λe=>∃j,e=V j/\Li F (Z k 1) λf=>Li F (Z k 2) λg=>Ci 42 #[ph (V j),(U m),(U (i64.wrap (f - 1)))] F λo F=>F.cell (Z k 2)=V (U g)/\F.cell (Z k 1)=V (U f)/\F.cell a=V (ph e)/\F.cell a=V (ph d)/\F.cell a=V (ph c)/\Cx 41 #[ph (V i),(U o)] F λp F=>F.cell (Z k 2)=V (U g)/\F.cell (Z k 1)=V (U f)/\F.cell a=V (ph e)/\F.cell a=V (ph d)/\F.cell a=V (ph c)/\Cu 68 #[ph (V (nR h 12)),nL (#[pe p,(U g)]:Γ)] F λF=>F.cell (Z k 2)=V (U g)/\F.cell (Z k 1)=V (U f)/\F.cell a=V (ph e)/\F.cell a=V (ph d)/\F.cell a=V (ph c)/\nz m a l b R F) (nz m a l b R F)
def HY (g:Int) (c:Addr) (a:Sl) (k:Nat) (b:Int) (R:VR) (F:PH):Prop:=Lb F (Z k 0) λh=>Bb (h) (Lq F c λi=>Lq F c λj=>∃d,j=V d/\Ls F (nR d 12) λf=>0<=(a.len:Int)/\0<=(a.len:Int)/\0<=nT (a.len:Int)/\(a.len:Int)<=(a.len:Int)/\(a.len:Int)<=(f.cap:Int)/\∃e,i=V e/\qW F (nR e 12) (nE (Sl.cut f 2 0 (nT (a.len:Int)) (nT (a.len:Int)))) λF=>ra g c a b k R F) (ra g c a b k R F)
def AY (n:Int->Ω) (k:Int) (h:Addr) (l:Θ) (i:Sl) (o:Nat) (j:Sl) (R:VR) (a b:Int) (F:PH):Prop:=Bc (b<(j.len:Int)) (∃c,l=V c/\∃d:ξ,F.cell c=V d/\Fn d λm f g=>aj prog m (f++([(U a)]).toArray++g) F λv F=>∃e,v=(U e)/\n e (i64.wrap (b+1)) F) (HY k h i o a R F)
def rb (c:Int) (b:Addr) (t:Θ) (h:Sl) (R:VR) (F:PH):Prop:=Lq F b λj=>∃d,j=V d/\Ls F (nR d 10) λk=>Ix k c λl=>Li F (nR l (nT c*4)) λe=>Bc (0<=e) (Lq F b λm=>∃f,m=V f/\Ca 39 #[ph (V f),(U c)] F λn F=>Nb F (Y (#[nS mz,U 0,U 0,U 0,U 0]) 60) λv F=>aA F (Z v 0) 5 n λF=>Lq F b λo=>∃g,o=V g/\Ls F (nR g 5) λp=>Ix p e λq=>Ls F (nR (nR q (nT e*13)) 2) λr=>(∃(u:Nat->Int->Ω) (s:Nat),u s (i64.wrap (c+1)) 0 F/\∀s a i F,u s a i F-> AY (VL u s) c b t h v r R a i F)) (nz c b h (i64.wrap (c+1)) R F)
def Ux (i:Int) (o l:Θ) (R:VR) (F:PH):Prop:=∃a,o=V a/\Lq F a λp=>∃d,p=V d/\Ls F (nR d 12) λe=>Lq F a λm=>∃b,m=V b/\∃f:ξ,F.cell (nR b 13)=V f/\∃g,xU f g/\Bb ((!g)) (Lq F a λn=>∃c,n=V c/\∃h:ξ,F.cell (nR c 13)=V h/\Fn h λq j k=>aj prog q (j++([(U i)]).toArray++k) F λv F=>v=(pk #[])/\rb i a l e R F) (rb i a l e R F)
theorem qgR {a:Int} {b:Θ} {c:Θ} (h:Ux a b c R F):ν 67 #[(U a),ph b,ph c] F R:=Rx.Λ (.qa8 (.qa8 (.J mz [] .N (.qa8 (.J mz [(6,.int .i64)] (.qa8 (.qa8 (.T (.qa8 (.J mz [(6,.int .i64)] (.qa8 (.L [(6,.int .i64),(55,.int .i64)] .N)) (.J mz [] .N .N))) .N))) .N))))) h
def Uy (d:Θ) (e:Γ) (R:VR) (F:PH):Prop:=Nb F (Y e 80) λh F=>∃a,d=V a/\Ls F a λf=>Lr F 2 (Z h 0) λb=>b.size=2/\Nb F (Y b 80) λg F=>Ap 48 #[nE f,nE (Sb g 1)] F λc F=>qW F a (nE c) λF=>R (pk #[]) F
theorem qgS {a:Θ} {b:Γ} (h:Uy a b R F):ν 68 #[ph a,nL b] F R:=Rx.Λ .N h
theorem ib:∀l:List Dtr,l.length<=xv l
 |[]=>yv _
 |n::l=>by have:=ib l;have:=gb n;rw [dc,wc];omega
structure Wc where
 g:Gr
 cs:Sl
 n:Sl
 tk:Sl
 s:Sl
 p:Sl
 l:Sl
 f:Sl
 tx:ο
 t:Sl
 es:Sl
 en:ξ
 lv:ξ
abbrev Wc.arr (w:Wc) (seen:Sl):Γ:= #[w.cs.v,w.n.v,U w.g.fam.2,w.tk.v,w.s.v,w.p.v,U w.g.start,w.l.v,w.f.v,pe w.tx,w.t.v,w.es.v,seen.v,w.en,w.lv]
def ci (g:Gr):Dtr->Sco
 | .lf _ _ _=>kg
 | .nd pr _ _ _=>((VD g pr).map Pr.sco).getD kg
def vi (g:Gr) (pr:Int):Spc:=let x:=((VD g pr).map Pr.sco).getD kg;⟨x.o,x.d.toNat,x.k,x.u.toNat,x.a.toNat⟩
def vl (tx:ο) (a b:Int):ο:=tx.extract a.toNat b.toNat
structure ScT (g:Gr) (tx:ByteArray) (T:Dtr):Prop where
 lf:∀m∈xy T,Bw m->m.root.to<=tx.size
 nd:∀m∈xy T,0<=(ci g m).d/\0<=(ci g m).u/\0<=(ci g m).a/\(ci g m).a<=255/\0<=(ci g m).k/\(ci g m).k<=7/\(0<(ci g m).d->∃c,m.kids[(ci g m).d.toNat - 1]? =V c/\Bw c)/\(0<(ci g m).u->∃c,m.kids[(ci g m).u.toNat - 1]? =V c/\Bw c)
section
variable {F G:PH} {w:Wc} {seen:Sl} {T m:Dtr} {bw i:Nat} {As:List (Ψ)}
theorem yt (K:F bw=V (Y (w.arr seen) 108)) (E:RL F w.es (U5 T)) (P:szN T<=2000000) (C:bK T i=V m) {q:Nat} (W:q<=m.kids.length):
  ν 42 #[Pp bw,U (i:Int),U (q:Int)] F λr D=>r=U ((bV i m.kids q:Nat):Int)/\D=F:=by
 have H:=d5 C;have B:=sub_le C;rw [cL] at B;have M:w.es.len=szN T:=by rw [E.len,ub,jE]
 refine qgQ ?_;unfold Uv;have L:=ib m.kids;rw [aC (n:=3000000) (by omega) (by omega)];refine gx (λN x v F=>AW N (V (Z bw 0)) (q:Int) _ x v F) q (λj x D=>x=((bV i m.kids j:Nat):Int)/\D=F) _ ⟨by unfold bV;rw [Am,dH],rfl⟩ ?_;rintro j x Q Nx X ⟨rfl,rfl⟩ next;unfold AW;refine ⟨λg=> ?_,λg=> ?_⟩
 ·have g:j<q:=by omega
  have hk:=pL (i:=i) (show j<m.kids.length by omega);refine ⟨_,rfl,_,ld K rfl,?_⟩;refine t6 E (by decide) (by omega) (by omega) λa J y A h O=> ?_;rw [N4] at A h ⊢;unfold U5 at A;rw [yc,Dq C (N5 (show j<m.kids.length by omega))] at A;obtain rfl:=yC A;obtain rfl:J=_:=O;refine ⟨_,aE h rfl,?_⟩;rw [aC g];exact next _ _ g ⟨rfl,rfl⟩
 ·obtain rfl:j=q:=by omega
  unfold HX;exact ⟨rfl,rfl⟩
theorem fZ (r:RL F w.t (vD T)) (h:bK T i=V m) {K:Addr->Prop} (k:∀a,F.row (a.add (i*4)) m.root.arr->K a):∃a,w.t.qa5=V a/\0<=(i:Int)/\(i:Int)<(w.t.len:Int)/\K a:=by have B:=d5 h;have E:w.t.len=szN T:=r.len;refine t6 r (by decide) (by omega) (by omega) λa D y A g C=> ?_;rw [N4] at A g;obtain rfl:=yC ((gN h).symm.trans A);obtain rfl:D=m.root.arr:=C;exact k a g
theorem rc (hb:F bw=V (Y (w.arr seen) 108)) (N:RL F w.t (vD T)) (O:RL F w.p w.g.qa0) (hf:dU w.g T) (J:bK T i=V m):
  ν 39 #[Pp bw,U (i:Int)] F λr F'=>r=nL (ci w.g m).arr/\F.le F':=by
 have E:=hf m (dn J);refine qgN ?_;unfold Us;refine (St.start F).new λb4 X h=> ?_;have A:=h.le _ _ hb;refine ⟨_,rfl,_,ld A rfl,?_⟩;refine fZ (N.le h.le) J λa D=> ?_;rw [N4];refine ⟨_,aE D rfl,?_⟩;cases m with
 |lf tk fr to=>refine ⟨λ_=> ?_,λK=>absurd (by show (-1:Int)<0;decide) K⟩;refine h.put0 (w':=kg.arr) rfl rfl (by simp [ak]) λF2 h=>⟨_,rfl,ai (h.ptAt (i:=0) rfl),rfl,h.le⟩
 |nd M fr to ks=>obtain ⟨_,_,x,Q,_⟩:=E;obtain ⟨P,x1,W⟩:=bA Q;have ep:=O.len;refine ⟨λK=>absurd P (Int.not_le.2 K),λ_=>⟨_,ld A rfl,_,ld A rfl,?_⟩⟩;refine fZ (N.le h.le) J λa2 B=> ?_;refine ⟨M,aE B rfl,?_⟩;refine t6 (O.le h.le) (by decide) P (by omega) λa3 c3 y hy C L=> ?_;obtain rfl:y=x:=yC (hy.symm.trans W);obtain ⟨r2,n2,l2,rfl,_⟩:=L;have H:X.row ((a3.add (M.toNat*Mem.n Pr)).add 8) y.sco.arr:=pZ C rfl;refine ⟨_,rfl,H,?_⟩;refine h.put0 (w':=y.sco.arr) rfl rfl (by simp [ak]) λF2 h=>⟨_,rfl,ai (h.ptAt (i:=0) rfl),?_,h.le⟩;unfold ci;dsimp only;rw [Q];rfl
theorem rg (A:F bw=V (Y (w.arr seen) 108)) (C:RL F w.t (vD T)) (B:bK T i=V m) (D:0<=m.root.fr) (K:m.root.fr<=m.root.to) (H:m.root.to<=w.tx.size):
  ν 41 #[Pp bw,U (i:Int)] F λr E=>r=pe (vl w.tx m.root.fr m.root.to)/\E=F:=by
 refine qgP ?_;unfold Uu;refine ⟨_,rfl,_,ld A rfl,_,ld A rfl,?_⟩;refine fZ C B λa h=> ?_;rw [N4];refine ⟨_,aM h (i:=2) rfl,_,ld A rfl,?_⟩;refine fZ C B λJ g=> ?_;exact ⟨_,aM g (i:=3) rfl,D,by omega,by omega,by omega,rfl,rfl⟩
end
theorem Ou:∃b z,SlT 48 80 2 b z:=⟨_,_,underlying48,aaN,aaT,rfl,by decide,by decide⟩
theorem py (a b:ο):(a.toList==b.toList)=decide (a=b):=by
 rw [wi,beq_iff_eq,δ]
 exact ⟨λh=>by
  have r:=jo a;have g:=jo b;rw [r,g] at h;cases a;cases b;simp at h
  rw [h],λh=>by rw [h]⟩
section
variable {F G:PH} {w:Wc} {seen:Sl} {T m:Dtr} {bw i:Nat} {l:List tU}
theorem AZ {s:ο} {l:List tU} {j:Nat} {x:tU} (A:l[j]? =V x) (h:Yd s (l.drop (j+1))):(x.1=s->bF s l=x.2)/\(x.1≠s->Yd s (l.drop j)):=by
 have r:=(N6.1 A).1;have hd:l.drop j=x::l.drop (j+1):=by rw [Xi r,(N6.1 A).2]
 refine ⟨λe=> ?_,λe y g=> ?_⟩
 ·have:=Gs (l:=l.take j) h e;rwa [<- hd,WI] at this
 ·rw [hd] at g;rcases tD.1 g with rfl|g
  ·exact e
  ·exact h y g
theorem FO {s:ο} (J:F.cell (Z bw 12)=V seen.v) (K:RL F seen l) (hn:l.length<=4000000):ν 40 #[ph (V (Z bw 12)),pe s] F λr B=>r=U (bF s l)/\B=F:=by
 have X:=K.len;refine qgO ?_;unfold Ut;refine ⟨_,rfl,seen,J,?_⟩;dsimp only;rw [aJ (by omega)];refine ⟨λn j B=>B=F/\-1<=j/\j<(l.length:Int)/\n=(j+1).toNat/\Yd s (l.drop (j+1).toNat),_,⟨rfl,by omega,by omega,rfl,?_⟩,?_⟩
 ·rw [Ye (by omega)];exact λx A=>by cases A
 rintro n j B ⟨rfl,h1,W,rfl,C⟩;unfold HW;refine ⟨λE=>⟨seen,J,?_⟩,λE=> ?_⟩
 ·refine t6 K (by decide) E (by omega) λa N x A h Q=> ?_;obtain rfl:N=jZ x:=Q;rw [show (j+1).toNat=j.toNat+1 by omega] at C;obtain ⟨M,L⟩:=AZ A C;refine ⟨x.1,aE h rfl,?_⟩;dsimp only;rw [py];refine ⟨λH=>⟨seen,J,?_⟩,λH=> ?_⟩
  ·refine t6 K (by decide) E (by omega) λa2 O y P g D=> ?_;obtain rfl:=yC (A.symm.trans P);obtain rfl:O=jZ x:=D;exact ⟨x.2,aM g (i:=1) rfl,by rw [M (ζ H)],rfl⟩
  ·rw [aJ (by omega)];refine ⟨_,?_,rfl,by omega,by omega,rfl,?_⟩
   ·omega
   ·rw [show (j - 1+1).toNat=j.toNat by omega];exact L (ι H)
 ·unfold HV;rw [show (j+1).toNat=0 by omega,Vf] at C;exact ⟨by rw [y9 C],rfl⟩
theorem qhI {As:List (Ψ)} {x:tU} (h:St G F (pt bw (Y (w.arr seen) 108)::gP seen 80 2 (bB l)::As)) (K:seen.len<=400000000):
  ν 68 #[ph (V (Z bw 12)),nL (jZ x)] F λr D=>r=pk #[]/\∃(A:PH) (g:Sl),G.le A/\St A D (pt bw (Y (w.arr g) 108)::gP g 80 2 (bB (l++[x]))::As)/\g.len=seen.len+1:=by
 obtain ⟨_,_,H⟩:=Ou;refine qgS ?_;unfold Uy;refine h.newG λM N O E q3 _ h=> ?_;refine ⟨_,rfl,seen,ld (h.ptAt (i:=0) rfl) rfl,_,rfl,ai (h.le _ _ q3),rfl,?_⟩;refine h.spushAt H (c:=jZ x) 1 rfl rfl (by simp [ak]) (by omega) λg B F2 C h J=> ?_;refine h.set0 (w':=w.arr g) (vx rfl) rfl λL h=>⟨rfl,B,g,aa E C,?_,J⟩;rw [kv];rw [show bB [x]=(jZ x).toList by simp [bB]];exact h
def MsP (T:Dtr) (E E':Φ) (a b:Nat):Prop:=E'.length=E.length/\∀q,(a<=q/\q<b->E'[q]? =(U5 T)[q]?)/\(¬(a<=q/\q<b)->E'[q]? =E[q]?)
theorem MsP.refl (T:Dtr) (E:Φ) (a:Nat):MsP T E E a a:=⟨rfl,λq=>⟨λh=>by omega,λ_=>rfl⟩⟩
theorem MsP.trans {T:Dtr} {E r A:Φ} {a b c:Nat} (h:MsP T E r a b) (k:MsP T r A b c) (B:a<=b) (C:b<=c):MsP T E A a c:=by
 refine ⟨k.1.trans h.1,λq=>⟨λg=> ?_,λg=> ?_⟩⟩
 ·by_cases e:b<=q
  ·exact (k.2 q).1 ⟨e,g.2⟩
  ·rw [(k.2 q).2 (by omega)];exact (h.2 q).1 ⟨g.1,by omega⟩
 ·rw [(k.2 q).2 (by omega),(h.2 q).2 (by omega)]
theorem MsP.put {T:Dtr} {E r:Φ} {i b:Nat} {v:Int} (h:MsP T E r (i+1) b) (B:(U5 T)[i]? =V v) (hi:i<E.length) (C:i+1<=b):MsP T E (r.set i v) i b:=by
 refine ⟨by rw [Yn];exact h.1,λq=> ?_⟩;by_cases e:q=i
 ·subst e;rw [X0 (by rw [h.1];exact hi)];exact ⟨λ_=>B.symm,λA=>absurd ⟨qX _,by omega⟩ A⟩
 ·rw [Zh (Ne.symm e)];exact ⟨λg=>(h.2 q).1 ⟨by omega,g.2⟩,λg=>(h.2 q).2 (by omega)⟩
theorem qhJ (hN:szN T<=2000000) (ht:RL G w.t (vD T)) (hp:RL G w.p w.g.qa0) (hf:dU w.g T):∀(m:Dtr) (i:Nat) (E:Φ) (F:PH),bK T i=V m->E.length=szN T->St G F [pt bw (Y (w.arr seen) 108),own w.es 3 1 (E.map U)]->
  ν 66 #[Pp bw,U (i:Int)] F λr W=>r=U ((i+szN m:Nat):Int)/\∃M:Φ,MsP T E M i (i+szN m)/\St G W [pt bw (Y (w.arr seen) 108),own w.es 3 1 (M.map U)]:=by
 have fin:∀(m:Dtr) (i:Nat) (E D:Φ) (F1:PH),bK T i=V m->E.length=szN T->MsP T E D (i+1) (i+szN m)->St G F1 [pt bw (Y (w.arr seen) 108),own w.es 3 1 (D.map U)]->
   vv (V (Z bw 0)) (i:Int) ((i+szN m:Nat):Int) (λr W=>r=U ((i+szN m:Nat):Int)/\∃M:Φ,MsP T E M i (i+szN m)/\St G W [pt bw (Y (w.arr seen) 108),own w.es 3 1 (M.map U)]) F1:=λm i E D F1 B J H h=>by
  have K:=d5 B;have a7:=gb m;unfold vv;have P:RdS F1 w.es 1 (D.map U):=(h.ownAt (i:=1) rfl).1.rd;have a5:=P.len;rw [ub,H.1,J,xB] at a5;obtain ⟨b,o,hb,_⟩:=P.cells (by omega);refine ⟨_,rfl,_,ld (h.ptAt (i:=0) rfl) rfl,_,hb,by omega,by omega,?_⟩;rw [N4,xB];refine h.ownPut 1 rfl hb (by rw [ub,H.1,J];exact K) λF2 h=>⟨rfl,D.set i ((i+szN m:Nat):Int),H.put ?_ (by omega) (by omega),?_⟩
  ·unfold U5;rw [yc,Je B,ye];rfl
  ·rw [List.map_set];exact h
 refine Dtr.ind (λtk X to i E F B J h=> ?_) λpr X to ks ih i E F B J h=> ?_
 ·have K:=d5 B;have e1:szN (.lf tk X to)=1:=by rw [cL];show 1+xv []=1;rw [dH]
  refine Uw ?_;unfold RJ;refine ⟨_,rfl,_,ld (h.ptAt (i:=0) rfl) rfl,?_⟩;refine fZ (ht.le h.le) B λa C=> ?_;rw [N4];refine ⟨_,aE C rfl,λhn=>absurd hn (by show ¬(0:Int)<=-1;decide),λ_=> ?_⟩;rw [aC (n:=3000000) (by omega) (by omega)];have:=fin _ i E E F B J (by rw [e1];exact MsP.refl T E _) h;rw [e1] at this ⊢;exact this
 ·have K:=d5 B;have a8:=sub_le B;have a9:szN (.nd pr X to ks)=1+xv ks:=cL _;have a1:=hf _ (dn B);obtain ⟨_,_,x,hx,hr⟩:=a1;obtain ⟨x0,x1,x2⟩:=bA hx;have ep:=hp.len;have a2:=ib ks;refine Uw ?_;unfold RJ;refine ⟨_,rfl,_,ld (h.ptAt (i:=0) rfl) rfl,?_⟩;refine fZ (ht.le h.le) B λa C=> ?_;rw [N4];refine ⟨pr,aE C rfl,λ_=>⟨_,ld (h.ptAt (i:=0) rfl) rfl,?_⟩,λhn=>absurd x0 hn⟩;refine t6 (hp.le h.le) (by decide) x0 (by omega) λa3 c3 y hy L a4=> ?_;obtain rfl:y=x:=yC (hy.symm.trans x2);obtain ⟨rr,nn,ll,rfl,a0,_⟩:=a4;have a6:=a0.len;rw [hr,ub] at a6;refine ⟨rr,aM L (i:=2) rfl,?_⟩;rw [aC (n:=3000000) (by omega) (by omega)];refine gx (λN x v F=>AX N (Z bw 0) (i:Int) rr _ x v F) ks.length (λj x W=>x=((bV i ks j:Nat):Int)/\∃D:Φ,MsP T E D (i+1) (bV i ks j)/\St G W [pt bw (Y (w.arr seen) 108),own w.es 3 1 (D.map U)]) _ ⟨by unfold bV;rw [Am,dH],E,by unfold bV;rw [Am,dH];exact MsP.refl T E _,h⟩ ?_;rintro j x F3 Nx hj ⟨rfl,D,H,h3⟩ next;unfold AX;refine ⟨λA=> ?_,λA=> ?_⟩
  ·have A:j<ks.length:=by omega
   have hk:=N5 A;have O:=ip (m:=.nd pr X to ks) B hk;have hs:=gM (i:=i) hk;have a2:=pK (i:=i) (ks:=ks) j;refine (ih ks[j] (U9 A) (bV i ks j) D F3 O (H.1.trans J) h3).mono ?_;rintro r F4 ⟨rfl,E2,Q,h4⟩;rw [<- hs] at Q ⊢;refine ⟨_,rfl,?_⟩;rw [aC A];refine next _ _ A ⟨rfl,E2,H.trans Q ?_ (by omega),h4⟩;unfold bV;omega
  ·obtain rfl:j=ks.length:=by omega
   rw [jy,show i+1+xv ks=i+szN (.nd pr X to ks) by omega] at H ⊢;exact fin _ i E D F3 B J H h3
end
section
variable {β:Type} {sp:Int->Spc} {tx:Int->Int->ο} {E:Nat->List tU->List β} {Lh:Nat->Nat->List tU->List β}
theorem kL:∀(l m:List Dtr) (i:Nat) (seen:List tU),UY sp tx E Lh i seen (l++m)=UY sp tx E Lh i seen l++UY sp tx E Lh (i+xv l) (seen++Uf sp tx l) m
 |[],m,i,seen=>by rw [zE,UY,dH,Uf,yn,zE,Nat.add_zero]
 |n::l,m,i,seen=>by rw [zK,UY,UY,kL l m,dc,Uf,xK,xK,V8]
theorem vz:∀(l:List Dtr),(∀k∈l,(yP sp tx k).length<=szN k)->(Uf sp tx l).length<=xv l
 |[],_=>by unfold Uf;exact yv _
 |n::l,h=>by have r:=h n (by simp);have w:=vz l λk g=>h k (by simp [g]);rw [Uf,tT,dc];omega
theorem A0:∀n:Dtr,(yP sp tx n).length<=szN n:=Dtr.ind (λ_ _ _=>by unfold yP;exact yv _) λh w to g ih=>by
 have A:=vz (sp:=sp) (tx:=tx) g ih;have r:(t5 sp tx h g).length<=1:=by unfold t5;split<;>simp
 rw [yP,tT,cL];show _<=1+xv g;split
 ·simp only [W7];omega
 ·omega
theorem Mg (l:List Dtr):(Uf sp tx l).length<=xv l:=vz l λk _=>A0 k
end
section
variable {β σ:Type}
def K7 (k:Int):Prop:=0<=k/\k<=7
abbrev WB (bw:Nat) (w:Wc) (seen:Sl) (l:List tU) (Os:List (Ψ)):List (Ψ):=pt bw (Y (w.arr seen) 108)::gP seen 80 2 (bB l)::Os
def HkE (G0:PH) (bw:Nat) (w:Wc) (T:Dtr) (O:σ->List (Ψ)) (out:σ->List β) (E:Nat->List tU->List β):Prop:=
 (w.en=.nilFunc/\∀i l,E i l=[])\/∃k fst cap,w.en=.func (.func k) fst cap/\aF prog k=mY/\∀(i:Nat) (seen:Sl) (l:List tU) (G F:PH) (x:σ),i<szN T->l.length<=i->UT K7 l->(out x).length+(E i l).length<=5000000->G0.le G->St G F (WB bw w seen l (O x))->
  aj prog k (fst++ #[U (i:Int)]++cap) F λr F'=>r=pk #[]/\∃G' x',G.le G'/\St G' F' (WB bw w seen l (O x'))/\out x'=out x++E i l
def HkL (G0:PH) (bw:Nat) (w:Wc) (T:Dtr) (O:σ->List (Ψ)) (out:σ->List β) (Lh:Nat->Nat->List tU->List β):Prop:=
 (w.lv=.nilFunc/\∀i b l,Lh i b l=[])\/∃k fst cap,w.lv=.func (.func k) fst cap/\aF prog k=mY/\∀(i b:Nat) (seen:Sl) (l:List tU) (G F:PH) (x:σ),i<szN T->b<=l.length->l.length<=szN T->(out x).length+(Lh i b l).length<=5000000->G0.le G->St G F (WB bw w seen l (O x))->
  aj prog k (fst++ #[U (i:Int),U (b:Int)]++cap) F λr F'=>r=pk #[]/\∃G' x',G.le G'/\St G' F' (WB bw w seen l (O x'))/\out x'=out x++Lh i b l
variable {F G G0:PH} {w:Wc} {seen:Sl} {T:Dtr} {bw b1 b2:Nat} {O:σ->List (Ψ)} {out:σ->List β} {E:Nat->List tU->List β} {Lh:Nat->Nat->List tU->List β}
structure WcG (G0:PH) (bw b1 b2:Nat) (w:Wc) (T:Dtr):Prop where
 q1:G0 b1=V (Y #[Pp bw] 98)
 q2:G0 b2=V (Y #[.func (.func 67) #[] #[Pp b1,Pp b2]] 149)
 t:RL G0 w.t (vD T)
 p:RL G0 w.p w.g.qa0
 e:RL G0 w.es (U5 T)
 n:szN T<=2000000
 f:dU w.g T
 s:ScT w.g w.tx T
 k:∀p,0<(vi w.g p).decl->K7 (vi w.g p).kind
theorem HZ:aF prog 67=mY:=by kernel_rfl
theorem fI {l:List tU} {g:List (Ψ)} (h:St G F (WB bw w seen l g)):seen.len=l.length:=by have:=(h.sownRd (i:=1) rfl).len;rw [iq] at this;omega
theorem yu:xU .nilFunc mY:=.inl ⟨rfl,rfl⟩
theorem De {f:Go.Fn} {x y:Γ}:xU (.func f x y) mz:=.inr ⟨⟨f,x,y,rfl⟩,rfl⟩
theorem Df {R:VR} {i b:Nat} {l:List tU} {x:σ} {g:Sl} {K:Int} (N:WcG G0 bw b1 b2 w T) (M:HkL G0 bw w T O out Lh) (hv:g.len=b) (hi:i<szN T) (W:b<=l.length) (hl:l.length<=szN T) (hB:(out x).length+(Lh i b l).length<=5000000) (L:G0.le G) (h:St G F (WB bw w seen l (O x)))
  (k:∀A C B,G.le A->St A C (WB bw w seen l (O B))->out B=out x++Lh i b l->R (U K) C):nz (i:Int) (Z b1 0) g K R F:=by
 have q1:F.cell (Z b1 0)=V (Pp bw):=ld (h.le _ _ (L _ _ N.q1)) rfl;unfold nz;refine ⟨_,q1,_,rfl,w.lv,ld (h.ptAt (i:=0) rfl) rfl,?_⟩;rcases M with ⟨D,H⟩|⟨kf,fst,cap,D,H,h3⟩
 ·rw [D];exact ⟨mY,yu,λJ=>(by cases J),λ_=>k G F x (au _) h (by rw [H,yn])⟩
 ·refine ⟨mz,by rw [D];exact De,λ_=>⟨_,q1,_,rfl,w.lv,ld (h.ptAt (i:=0) rfl) rfl,kf,fst,cap,D,H,?_⟩,λJ=>(by cases J)⟩;rw [hv];refine (h3 i b seen l G F x hi W hl hB L h).mono ?_;rintro r C ⟨rfl,A,B,Q,P,X⟩;exact ⟨rfl,k A C B Q P X⟩
theorem Mh {R:VR} {i b8:Nat} {l:List tU} {x:σ} {W:Sl} {nx:Int} {pr fr to:Int} {ks:List Dtr} (B:WcG G0 bw b1 b2 w T) (hm:bK T i=V (.nd pr fr to ks)) (hl:l.length+1<=szN T) (lG:G0.le G) (q8:G b8=V (Y (ci w.g (.nd pr fr to ks)).arr 60)) (h:St G F (WB bw w seen l (O x)))
  (k:∀X F' H,G.le X->St X F' (WB bw w H (l++t5 (vi w.g) (vl w.tx) pr ks) (O x))->nz (i:Int) (Z b1 0) W nx R F'):ra (i:Int) (Z b1 0) W nx b8 R F:=by
 obtain ⟨s0,s1,_,_,_,_,s2,_⟩:=B.s.nd _ (dn hm);have eo:t5 (vi w.g) (vl w.tx) pr ks=if 0<(ci w.g (.nd pr fr to ks)).d then [(WD (vl w.tx) ks (ci w.g (.nd pr fr to ks)).d.toNat,(ci w.g (.nd pr fr to ks)).k)] else []:=by
  show (if 0<(ci w.g (.nd pr fr to ks)).d.toNat then [(WD (vl w.tx) ks (ci w.g (.nd pr fr to ks)).d.toNat,(ci w.g (.nd pr fr to ks)).k)] else [])=_;by_cases e:0<(ci w.g (.nd pr fr to ks)).d
  ·rw [Χ e,Χ (by omega)]
  ·rw [Υ e,Υ (by omega)]
 rw [eo] at k;have A:F b8=_:=h.le _ _ q8;have q1:F.cell (Z b1 0)=V (Pp bw):=ld (h.le _ _ (lG _ _ B.q1)) rfl;have a4:=fI h;unfold ra;generalize ci w.g (.nd pr fr to ks)=L at*;refine ⟨_,ld A rfl,λhd=> ?_,λhd=> ?_⟩
 ·rw [Χ hd] at k;obtain ⟨c,D,M⟩:=s2 hd;have a1:L.d.toNat - 1<ks.length:=(N6.1 D).1;have C:=ip hm D;have a2:=B.s.lf c (dn C) M;have N:=B.f c (dn C);obtain ⟨f0,f1⟩:0<=c.root.fr/\c.root.fr<=c.root.to:=by
   cases c with
   |lf tk fr to=>exact ⟨N.2.2.1,Int.le_of_lt N.2.2.2⟩
   |nd=>cases M
  have a0:WD (vl w.tx) ks L.d.toNat=vl w.tx c.root.fr c.root.to:=by unfold WD;have:ks[L.d.toNat - 1]? =V c:=D;rw [this]
  have a7:=ib ks;have a3:=sub_le hm;have a6:szN (.nd pr fr to ks)=1+xv ks:=cL _;have hN:=B.n;refine ⟨_,q1,_,rfl,_,q1,_,rfl,_,q1,_,rfl,_,ld A rfl,_,ld A rfl,?_⟩;rw [show i64.wrap (L.d - 1)=((L.d.toNat - 1:Nat):Int) by rw [aJ (by omega)];omega];have Q:=h.ptAt (i:=0) rfl;have lF:=aa lG h.le;refine (yt Q (B.e.le lF) B.n hm (Nat.le_of_lt a1)).mono ?_;rintro r F' ⟨rfl,rfl⟩;refine ⟨_,rfl,ld A rfl,ld A rfl,q1,q1,q1,?_⟩;refine (rg Q (B.t.le lF) C f0 f1 a2).mono ?_;rintro r F' ⟨rfl,rfl⟩;refine ⟨_,rfl,ld A rfl,ld A rfl,q1,q1,q1,?_⟩;refine (qhI (x:=(vl w.tx c.root.fr c.root.to,L.k)) h (by omega)).mono ?_;rintro r F2 ⟨rfl,X,s',J,h',a5⟩;have P:F2 b8=_:=h'.le _ _ (J _ _ q8);have K:F2.cell (Z b1 0)=V (Pp bw):=ld (h'.le _ _ (J _ _ (lG _ _ B.q1))) rfl;refine ⟨rfl,ld P rfl,ld P rfl,K,K,K,k X F2 s' J ?_⟩;rw [a0];exact h'
 ·rw [Υ hd,yn] at k;exact k G F seen (au _) h
end
theorem RM {K:Int->Prop} {l m:List tU} (h:UT K l) (k:UT K m):UT K (l++m):=λx g=>(vd.1 g).elim (h x) (k x)
section
variable {β σ:Type} {G0:PH} {w:Wc} {T:Dtr} {bw b1 b2:Nat} {O:σ->List (Ψ)} {out:σ->List β} {E:Nat->List tU->List β} {Lh:Nat->Nat->List tU->List β}
def Zt (_:PH) (bw:Nat) (w:Wc) (O:σ->List (Ψ)) (out:σ->List β) (E:Nat->List tU->List β) (Lh:Nat->Nat->List tU->List β) (m:Dtr) (i:Nat) (l:List tU) (x:σ) (G:PH) (r:ξ) (F':PH):Prop:=
 r=U ((i+szN m:Nat):Int)/\∃G' seen' x',G.le G'/\St G' F' (WB bw w seen' (l++yP (vi w.g) (vl w.tx) m) (O x'))/\out x'=out x++UZ (vi w.g) (vl w.tx) E Lh i l m
theorem qig (C:WcG G0 bw b1 b2 w T) (hE:HkE G0 bw w T O out E) (hL:HkL G0 bw w T O out Lh):∀(m:Dtr) (i:Nat) (l:List tU) (seen:Sl) (x:σ) (G F:PH),bK T i=V m->l.length<=i->UT K7 l->(out x).length+(UZ (vi w.g) (vl w.tx) E Lh i l m).length<=5000000->G0.le G->St G F (WB bw w seen l (O x))->
  ν 67 #[U (i:Int),Pp b1,Pp b2] F (Zt G0 bw w O out E Lh m i l x G):=by
 have hN:=C.n;have start:∀(m:Dtr) (i:Nat) (l:List tU) (seen:Sl) (x:σ) (G F:PH),bK T i=V m->l.length<=i->UT K7 l->(out x).length+(E i l).length<=5000000->G0.le G->St G F (WB bw w seen l (O x))->
   (∀G1 F1 x1,G.le G1->St G1 F1 (WB bw w seen l (O x1))->out x1=out x++E i l->rb (i:Int) (Z b1 0) (V (Z b2 0)) seen (Zt G0 bw w O out E Lh m i l x G) F1)->
   ν 67 #[U (i:Int),Pp b1,Pp b2] F (Zt G0 bw w O out E Lh m i l x G):=λm i l seen x G F K hl hK hB lG h k=>by
  have q1:F.cell (Z b1 0)=V (Pp bw):=ld (h.le _ _ (lG _ _ C.q1)) rfl;refine qgR ?_;unfold Ux;refine ⟨_,rfl,_,q1,_,rfl,seen,ld (h.ptAt (i:=0) rfl) rfl,_,q1,_,rfl,w.en,ld (h.ptAt (i:=0) rfl) rfl,?_⟩;rcases hE with ⟨D,h2⟩|⟨kf,fst,cap,D,h2,h3⟩
  ·rw [D];exact ⟨mY,yu,λhn=>(by cases hn),λ_=>k G F x (au _) h (by rw [h2,yn])⟩
  ·refine ⟨mz,by rw [D];exact De,λ_=>⟨_,q1,_,rfl,w.en,ld (h.ptAt (i:=0) rfl) rfl,kf,fst,cap,D,h2,?_⟩,λhn=>(by cases hn)⟩;refine (h3 i seen l G F x (d5 K) hl hK hB lG h).mono ?_;rintro r F' ⟨rfl,G',x',l',h',e'⟩;exact ⟨rfl,k G' F' x' l' h' e'⟩
 refine Dtr.ind (λtk fr to i l seen x G F K hl hK hB lG h=> ?_) λX fr to A ih i l seen x G F K hl hK hB lG h=> ?_
 ·have a7:=d5 K;have e1:szN (.lf tk fr to)=1:=by rw [cL];show 1+xv []=1;rw [dH]
  rw [UZ,tT] at hB;refine start _ i l seen x G F K hl hK (by omega) lG h λG1 F1 x1 l1 D ex=> ?_;have J:=aa lG l1;have M:=fI D;unfold rb;refine ⟨_,ld (D.le _ _ (J _ _ C.q1)) rfl,_,rfl,_,ld (D.ptAt (i:=0) rfl) rfl,?_⟩;refine fZ (C.t.le (aa J D.le)) K λa P=> ?_;rw [N4];refine ⟨_,aE P rfl,λhn=>absurd hn (by show ¬(0:Int)<=-1;decide),λ_=> ?_⟩;rw [aC (n:=3000000) (by omega) (by omega)];refine Df C hL M a7 (qX _) (by omega) (by rw [ex,tT];omega) J D λG2 F2 x2 l2 h2 c7=>⟨by rw [e1],G2,seen,x2,aa l1 l2,?_,?_⟩
  ·unfold yP;rw [yn];exact h2
  ·unfold UZ;rw [c7,ex,xK]
 ·have a7:=d5 K;have e0:=sub_le K;have d2:szN (.nd X fr to A)=1+xv A:=cL _;have c6:=C.f _ (dn K);obtain ⟨_,_,y,hy,hr⟩:=c6;obtain ⟨y0,y1,y2⟩:=bA hy;have ep:=C.p.len;have e2:=ib A;rw [UZ,tT,tT] at hB;refine start _ i l seen x G F K hl hK (by omega) lG h λG1 F1 x1 l1 D ex=> ?_;have J:=aa lG l1;have M:=fI D;have q1:F1.cell (Z b1 0)=V (Pp bw):=ld (D.le _ _ (J _ _ C.q1)) rfl;unfold rb;refine ⟨_,q1,_,rfl,_,ld (D.ptAt (i:=0) rfl) rfl,?_⟩;have a2:=aa J D.le;refine fZ (C.t.le a2) K λa P=> ?_;rw [N4];refine ⟨X,aE P rfl,λ_=>⟨_,q1,_,rfl,?_⟩,λhn=>absurd y0 hn⟩;refine (rc (D.ptAt (i:=0) rfl) (C.t.le a2) (C.p.le a2) C.f K).mono ?_;rintro r F2 ⟨rfl,c9⟩;have h2:=D.up c9;refine ⟨_,rfl,?_⟩;refine h2.var (by simp [ak]) (λb8 G3 F3 l3 q8 h3=> ?_);have a5:=aa J l3;have d0:F3.cell (Z b1 0)=V (Pp bw):=ld (h3.le _ _ (a5 _ _ C.q1)) rfl;refine ⟨_,d0,_,rfl,_,ld (h3.ptAt (i:=0) rfl) rfl,?_⟩;refine t6 (C.p.le (aa a5 h3.le)) (by decide) y0 (by omega) λa3 c3 z hz a4 c8=> ?_;obtain rfl:z=y:=yC (hz.symm.trans y2);obtain ⟨rr,nn,ll,rfl,c5,_⟩:=c8;have c2:=c5.len;rw [hr,ub] at c2;refine ⟨rr,aM a4 (i:=2) rfl,?_⟩;rw [aC (n:=3000000) (by omega) (by omega)];refine gx (λN x v F=>AY N (i:Int) (Z b1 0) (V (Z b2 0)) seen b8 rr _ x v F) A.length (λj nx F'=>nx=((bV i A j:Nat):Int)/\∃G' a8 x',G3.le G'/\St G' F' (WB bw w a8 (l++Uf (vi w.g) (vl w.tx) (A.take j)) (O x'))/\out x'=out x++E i l++UY (vi w.g) (vl w.tx) E Lh (i+1) l (A.take j)) _ ⟨by unfold bV;rw [Am,dH],G3,seen,x1,au _,?_,?_⟩ ?_
  ·rw [Am,Uf,yn];exact h3
  ·rw [Am,UY,yn];exact ex
  rintro j nx F4 Nx hj ⟨rfl,G4,B,x4,l4,W,Q⟩ next;have a0:=aa a5 l4;have a1:=fI W;have b9:=Mg (sp:=vi w.g) (tx:=vl w.tx) (A.take j);rw [tT] at a1;unfold AY;refine ⟨λL=> ?_,λL=> ?_⟩
  ·have L:j<A.length:=by omega
   have hk:=N5 L;have b4:=ip (m:=.nd X fr to A) K hk;have hs:=gM (i:=i) hk;have b5:bV i A j=i+1+xv (A.take j):=rfl;have b7:=congrArg (λz=>(UY (vi w.g) (vl w.tx) E Lh (i+1) l z).length) (Gp hk);rw [kL,UY,tT,tT] at b7;refine ⟨_,rfl,_,ld (W.le _ _ (a0 _ _ C.q2)) rfl,67,#[],#[Pp b1,Pp b2],rfl,HZ,?_⟩;refine (ih A[j] (U9 L) (bV i A j) _ B x4 G4 F4 b4 (by rw [tT];omega) (RM hK (BL _ λk _=>OJ C.k k)) (by rw [Q,tT,tT,b5];omega) a0 W).mono ?_;rintro r F5 ⟨rfl,G5,a6,x5,l5,h5,b6⟩;rw [<- hs];refine ⟨_,rfl,?_⟩;rw [aC L];have et:A.take (j+1)=A.take j++[A[j]]:=by rw [Wv,hk];rfl
   refine next _ _ L ⟨rfl,G5,a6,x5,aa l4 l5,?_,?_⟩
   ·rw [et,rY,Uf,Uf,yn,<- xK];exact h5
   ·rw [et,kL,UY,UY,yn,b6,Q,<- b5,<- xK]
  ·obtain rfl:j=A.length:=by omega
   rw [wy] at W Q a1 b9;have b3:F4.cell (Z b1 0)=V (Pp bw):=ld (W.le _ _ (a0 _ _ C.q1)) rfl;have a9:=l4 _ _ q8;have fin:∀(l':List tU) (s':Sl) (G6 F6:PH),G4.le G6->St G6 F6 (WB bw w s' l' (O x4))->l.length<=l'.length->l'.length<=l.length+xv A->(l'++t5 (vi w.g) (vl w.tx) X A=l++yP (vi w.g) (vl w.tx) (.nd X fr to A))->
     ra (i:Int) (Z b1 0) seen ((bV i A A.length:Nat):Int) b8 (Zt G0 bw w O out E Lh (.nd X fr to A) i l x G) F6:=λl' s' G6 F6 l6 h6 d4 e3 he=>by
    have b0:=aa a0 l6;refine Mh C K (by omega) b0 (l6 _ _ a9) h6 λG7 F7 s7 l7 h7=> ?_;rw [he] at h7;have d3:(t5 (vi w.g) (vl w.tx) X A).length<=1:=by unfold t5;split<;>simp
    have c4:=congrArg List.length he;rw [tT] at c4;refine Df C hL M a7 (by rw [tT];omega) (by omega) (by rw [Q,tT,tT];omega) (aa b0 l7) h7 λG8 F8 x8 l8 h8 d1=>⟨?_,G8,s7,x8,aa l1 (aa l3 (aa l4 (aa l6 (aa l7 l8)))),h8,?_⟩
    ·rw [jy];congr 1;omega
    ·rw [d1,Q];rw [UZ];simp only [xK]
   unfold HY;refine ⟨_,ld (W.le _ _ a9) rfl,λho=> ?_,λho=> ?_⟩
   ·refine ⟨_,b3,_,b3,_,rfl,_,ld (W.ptAt (i:=0) rfl) rfl,by omega,by omega,by omega,by omega,?_,_,rfl,?_⟩
    ·have:=(W.sownRd (i:=1) rfl).cap;omega
    rw [N4];have h5:=W.imp (A':=gP (Sl.cut B 2 0 seen.len seen.len) 80 2 (bB l)) 1 rfl λH _ hH=>by have:=gP.cut hH (k:=seen.len) (by omega);rw [qiq,M,List.take_left' rfl] at this;rw [M];exact this
    refine h5.set0 (w':=w.arr (Sl.cut B 2 0 seen.len seen.len)) (vx rfl) rfl λF5 h6=> ?_;refine fin l _ G4 F5 (au _) h6 (qX _) (by omega) ?_;rw [yP,Χ (show (vi w.g X).opens=mY from ho),zE]
   ·refine fin _ B G4 F4 (au _) W (by rw [tT];omega) (by rw [tT];omega) ?_;rw [yP,Υ (by rw [show (vi w.g X).opens=mz from ho];decide),xK]
end
def ZM (n:Int):Dtr->Bool
 | .lf _ _ to=>decide (to<=n)
 | .nd _ _ _ _=>mY
def Yc (tx:ο) (T:Dtr):Bool:=(xy T).all (ZM tx.size)
theorem A1 {g:Gr} {tx:ο} {T:Dtr} (hg:OkG g) (X:dU g T) (hl:Yc tx T=mY):ScT g tx T:=by
 refine ⟨λm K G=> ?_,λm K=> ?_⟩
 ·have:=Vn.1 hl m K;cases m with
  |lf M D to=>exact ζ this
  |nd=>cases G
 ·have H:=X m K;cases m with
  |lf M D to=>rw [show ci g (.lf M D to)=kg from rfl];exact ⟨Va _,Va _,Va _,by decide,Va _,by decide,λh=>absurd h (by decide),λh=>absurd h (by decide)⟩
  |nd L D to J=>
   obtain ⟨_,_,x,N,W⟩:=H;obtain ⟨_,_,O⟩:=bA N;obtain ⟨_,d,hd⟩:=ie g.qa0 [] hg.qa0 x (vQ O);have C:lh x:=by obtain ⟨_,_,_,_,_,h⟩:=hd;exact h
   obtain ⟨_,A,w,_⟩:=C;have P:ci g (.nd L D to J)=x.sco:=by unfold ci;dsimp only;rw [N];rfl
   have key:∀q:Int,(0<q/\q<=x.right.length/\(∃s,x.right[(q - 1).toNat]? =V s/\s.t=mY))->∃c,(Dtr.nd L D to J).kids[q.toNat - 1]? =V c/\Bw c:=λq ⟨r,E,s,B,Q⟩=>by
    rw [W,yc,show (q - 1).toNat=q.toNat - 1 by omega] at B;cases e:J[q.toNat - 1]? with
    |none=>rw [e] at B;cases B
    |some c=>
     rw [e] at B;obtain rfl:=yC B;refine ⟨c,e,?_⟩;cases c with
     |lf=>trivial
     |nd=>cases Q
   rw [P];refine ⟨?_,?_,?_,?_,?_,?_,λh=> ?_,λh=> ?_⟩
   ·rcases A with ⟨r,_⟩|⟨r,_⟩<;>omega
   ·rcases w with ⟨r,_⟩|⟨r,_⟩<;>omega
   ·rcases w with ⟨_,r⟩|⟨_,_,_,r,_⟩<;>omega
   ·rcases w with ⟨_,r⟩|⟨_,_,_,_,r⟩<;>omega
   ·rcases A with ⟨_,r⟩|⟨_,_,_,r,_⟩<;>omega
   ·rcases A with ⟨_,r⟩|⟨_,_,_,_,r⟩<;>omega
   ·rcases A with ⟨r,_⟩|⟨r,E,B,_⟩
    ·omega
    ·exact key _ ⟨r,E,B⟩
   ·rcases w with ⟨r,_⟩|⟨r,E,B,_⟩
    ·omega
    ·exact key _ ⟨r,E,B⟩
theorem H0 {g:Gr} (w:OkG g) {x:Pr} (r:x∈g.qa0):lh x:=by obtain ⟨_,d,hd⟩:=ie g.qa0 [] w.qa0 x r;obtain ⟨_,_,_,_,_,h⟩:=hd;exact h
theorem RN {g:Gr} (C:OkG g) (p:Int) (h:0<(vi g p).decl):K7 (vi g p).kind:=by
 unfold vi at h ⊢;dsimp only at h ⊢;cases hx:VD g p with
 |none=>rw [hx] at h;exact absurd h (by decide)
 |some x=>
  rw [hx] at h;obtain ⟨_,_,A⟩:=bA hx;obtain ⟨_,r,_⟩:=H0 C (vQ A);show K7 x.sco.k;have h:0<x.sco.d.toNat:=h;rcases r with ⟨B,_⟩|⟨_,_,_,B,w⟩
  ·omega
  ·exact ⟨by omega,w⟩
section
variable {β σ:Type} {G0 F:PH} {w:Wc} {seen:Sl} {T:Dtr} {bw:Nat} {O:σ->List (Ψ)} {out:σ->List β} {E:Nat->List tU->List β} {Lh:Nat->Nat->List tU->List β}
structure WcO (G0:PH) (w:Wc) (T:Dtr):Prop where
 t:RL G0 w.t (vD T)
 p:RL G0 w.p w.g.qa0
 e:RL G0 w.es (U5 T)
 n:szN T<=2000000
 f:dU w.g T
 s:ScT w.g w.tx T
 k:∀p,0<(vi w.g p).decl->K7 (vi w.g p).kind
theorem WcO.le {G1:PH} (h:WcO G0 w T) (l:G0.le G1):WcO G1 w T:=⟨h.t.le l,h.p.le l,h.e.le l,h.n,h.f,h.s,h.k⟩
theorem HkE.up {G1:PH} (h:HkE G0 bw w T O out E) (l:G0.le G1):HkE G1 bw w T O out E:=h.elim .inl λ⟨k,f,c,A,r,C⟩=> .inr ⟨k,f,c,A,r,λi seen g G F x a b D B d=>C i seen g G F x a b D B (aa l d)⟩
theorem HkL.up {G1:PH} (h:HkL G0 bw w T O out Lh) (l:G0.le G1):HkL G1 bw w T O out Lh:=h.elim .inl λ⟨k,f,c,B,r,H⟩=> .inr ⟨k,f,c,B,r,λi b seen g G F x a C A D d=>H i b seen g G F x a C A D (aa l d)⟩
theorem kM {x:σ} (W:WcO G0 w T) (N:HkE G0 bw w T O out E) (L:HkL G0 bw w T O out Lh) (hB:(out x).length+(UZ (vi w.g) (vl w.tx) E Lh 0 [] T).length<=5000000) (h:St G0 F (WB bw w seen [] (O x))):
  ν 33 #[Pp bw] F λr F'=>r=pk #[]/\∃D A G,G0.le D/\St D F' (WB bw w A (yP (vi w.g) (vl w.tx) T) (O G))/\out G=out x++UZ (vi w.g) (vl w.tx) E Lh 0 [] T:=by
 refine qgK ?_;unfold Uo;refine h.newG λJ G1 F1 M q1 _ h=> ?_;refine h.new λK F2 h=> ?_;refine h.set0 (w':= #[.func (.func 67) #[] #[Pp J,Pp K]]) (by decide) rfl λP h=> ?_;obtain ⟨G2,H,⟨H2,a2,a3⟩,h⟩:=h.pin;have q2:=a3 _ _ a2;have C:=aa M H;refine ⟨_,ld (h.le _ _ q2) rfl,67,#[],#[Pp J,Pp K],rfl,HZ,?_⟩;have B:=W.le C;refine (qig ⟨H _ _ q1,q2,B.t,B.p,B.e,B.n,B.f,B.s,B.k⟩ (N.up C) (L.up C) T 0 [] seen x G2 P (fF T) (qX _) (λ_ hx=>by cases hx) hB (au _) h).mono ?_;rintro r F4 ⟨rfl,D,A,G,X,Q,e'⟩;exact ⟨_,rfl,rfl,D,A,G,aa C X,Q,e'⟩
end
section
variable {F G:PH} {g:Gr} {k:Nat} {T:Dtr} {c:Int}
def Ws (g:Gr) (c:Int) (tx:ο) (T:Dtr):Int:=if X4 g c T≠0 then X4 g c T else if Yc tx T=mY then 0 else 90
theorem qgT {C H B w D h E r A u v x:ξ}:rV (rV (rV (wr (#[tS I 0 0,.slice I 0 0,U 0,.slice I 0 0,.slice I 0 0,.slice I 0 0,U 0,.slice I 0 0,.slice I 0 0,.string ⟨#[]⟩,tS I 0 0,.slice I 0 0]:Γ) 0 (#[C,H,B,w,D,h,E,r,A]:Γ).toList) 9 u) 10 v) 11 x= #[C,H,B,w,D,h,E,r,A,u,v,x]:=by kernel_rfl
theorem qgU {C H B w D h E r A u v x:ξ}:wr (#[tS I 0 0,.slice I 0 0,U 0,.slice I 0 0,.slice I 0 0,.slice I 0 0,U 0,.slice I 0 0,.slice I 0 0,.string ⟨#[]⟩,tS I 0 0,.slice I 0 0,.slice I 0 0,.nilFunc,.nilFunc]:Γ) 0 (#[C,H,B,w,D,h,E,r,A,u,v,x]:Γ).toList= #[C,H,B,w,D,h,E,r,A,u,v,x,tS I 0 0,.nilFunc,.nilFunc]:=by kernel_rfl
theorem nA {v:Γ} {t:Sl} {tx:ο} (hT:Tab F) (hg:GV F v g) (hG:GdG g k) (hf:dU g T) (hN:szN T<=2000000) (ht:RL F t (vD T)) (c0:0<=c) (c1:c<18446744073709551616):
  ν 31 #[nL v,ru .u64 c,pe tx,t.v] F λr M=>(Ws g c tx T≠0/\r=pk #[ph I,U (Ws g c tx T)]/\F.le M)\/
   (Ws g c tx T=0/\∃(b:Nat) (w:Wc) (G':PH),r=pk #[Pp b,U 0]/\F.le G'/\w.g=g/\w.tx=tx/\w.en=.nilFunc/\w.lv=.nilFunc/\WcO G' w T/\St G' M (WB b w pi [] [])):=by
 have et:t.len=szN T:=ht.len;have b2:=hg;obtain ⟨cs,n,tk,s,p,l,f,rfl,hs⟩:=hg;refine qgI ?_;unfold Um;refine fresh λb4 F1 l1 q4 _=>⟨_,rfl,ai q4,?_⟩;refine (AU (hT.le l1) (b2.le l1) hG hf hN (ht.le l1) c0 c1).mono ?_;rintro r F2 ⟨rfl,l2⟩;have b0:=aa l1 l2;refine ⟨_,rfl,λa9=> .inl ?_,λhe=> ?_⟩
 ·have:Ws g c tx T=X4 g c T:=by unfold Ws;rw [Χ a9]
  rw [this];exact ⟨a9,rfl,b0⟩
 have he:X4 g c T=0:=Decidable.not_not.1 he;have eo:Ws g c tx T=if Yc tx T=mY then 0 else 90:=by unfold Ws;rw [Υ (μ he)]
 refine bC (AV · tx t b4 _) (szN T) (λj M=>F2.le M/\((xy T).take j).all (ZM tx.size)=mY) ⟨au _,rfl⟩ ?_;rintro j L Nx hj ⟨l3,B⟩ next;have C:=aa b0 l3;unfold AV;refine ⟨λE=> ?_,λc6=> ?_⟩
 ·have E:j<szN T:=by omega
  obtain ⟨m,hm⟩:=gO E;have b5:=gN hm;have a0:(xy T)[j]? =V m:=hm;refine t6 (ht.le C) (by decide) (by omega) (by omega) λa5 c5 x5 a6 J b3=> ?_;rw [N4,b5] at a6;obtain rfl:=yC a6;obtain rfl:c5=m.root.arr:=b3;refine ⟨_,rfl,J,?_⟩;refine (St.start L).var (by simp [ak]) (λb9 G4 F4 l4 q9 h=> ?_);have O:=h.le _ _ q9;have a4:=aa l4 h.le;have go:ZM tx.size m=mY->∀R:VR,vu Nx tx t b4 (j:Int) R F4:=λh R=>by unfold vu;rw [aC E];exact next F4 E ⟨aa l3 a4,by rw [yq a0,B,h];rfl⟩
  refine ⟨_,ld O rfl,?_⟩;cases hmm:m with
  |lf c9 c4 W=>refine ⟨λ_=>⟨W,ld O (by rw [hmm];rfl),λhb=> .inl ?_,λhb=>go (by rw [hmm];exact ε (by omega)) _⟩,λhn=>absurd (by show (-1:Int)<0;decide) hn⟩;have:Yc tx T=mz:=HT a0 (by rw [hmm];exact η (by omega));rw [eo,Υ (by rw [this];decide)];exact ⟨by decide,rfl,aa C a4⟩
  |nd c8 c4 W c7=>have a1:=hf m (dn hm);rw [hmm] at a1;obtain ⟨_,_,y,b8,_⟩:=a1;exact ⟨λhn=>absurd (bA b8).1 (Int.not_le.2 hn),λ_=>go (by rw [hmm];rfl) _⟩
 ·obtain rfl:j=szN T:=by omega
  rw [zc (by rw [dI];exact qX _)] at B;have P:Yc tx T=mY:=B;unfold HU;have Q:=aa l2 l3 _ _ q4;refine ⟨_,rfl,ai Q,?_⟩;rw [et];refine bT underlying76 X5 X7 rfl (by omega) (Va _) (by omega) (by omega) ?_;intro D b1;have h:=Ya ((St.start L).new (K:=λb M=>St L M [pt b (Y (Builtin.zeroCells (Value.int .i64 0).cells (nT ((szN T:Nat):Int))) 3)]) (λ_ _ h=>h) D b1);have h:=h.imp (A':=own (ua (V (ou D 0 I)) (nT ((szN T:Nat):Int)) (nT ((szN T:Nat):Int))) 3 1 ((List.replicate (szN T) (0:Int)).map U)) 0 rfl λH _ hH=>by
   refine .inr ⟨D,_,rfl,hH,?_,qX _,?_,?_⟩
   ·simp [Builtin.zeroCells,Value.cells]
   ·simp
   ·simp [Builtin.zeroCells,Value.cells,Nat.mod_one];rw [show (λ_:Nat=>ru .i64 0)=Function.const Nat (ru .i64 0) from rfl,List.map_const,V4,List.take_replicate,Nat.min_self]
  refine ⟨_,rfl,ai (h.le _ _ Q),rfl,?_⟩;rw [qgT,qgU];refine ⟨rfl,?_⟩;generalize ua (V (ou D 0 I)) (nT ((szN T:Nat):Int)) (nT ((szN T:Nat):Int))=es at*;refine h.new λX F5 h=> ?_;have b6:=hs.le C;obtain ⟨w,hw⟩:∃w:Wc,w=⟨g,cs,n,tk,s,p,l,f,tx,t,es,.nilFunc,.nilFunc⟩:=⟨_,rfl⟩;have h:St L F5 [pt X (Y (w.arr pi) 108),own w.es 3 1 ((List.replicate (szN T) (0:Int)).map U)]:=by rw [hw];exact h
  have ew:w.g=g/\w.tx=tx/\w.t=t/\w.p=p/\w.en=.nilFunc/\w.lv=.nilFunc:=by rw [hw];exact ⟨rfl,rfl,rfl,rfl,rfl,rfl⟩
  clear hw;obtain ⟨N,e2,e3,e4,e5,e6⟩:=ew;have a3:RL L w.p w.g.qa0:=by rw [N,e4];exact b6.p
  have a2:RL L w.t (vD T):=by rw [e3];exact ht.le C
  have a8:dU w.g T:=by rw [N];exact hf
  refine (qhJ hN a2 a3 a8 T 0 _ F5 (fF T) Xx h).mono ?_;rintro r F6 ⟨rfl,E',hM,h6⟩;refine ⟨_,rfl,.inr ⟨by rw [eo,Χ P],X,w,?_⟩⟩;have c3:E'=U5 T:=by
   refine WJ λq=> ?_;by_cases e:q<szN T
   ·exact (hM.2 q).1 ⟨yv _,by omega⟩
   ·rw [VM (by rw [hM.1,Xx];omega),VM (by unfold U5;rw [ub,jE];omega)]
  rw [c3] at h6;have h6:=h6.swap;obtain ⟨G7,l7,⟨H7,a7,b7⟩,h7⟩:=h6.pin;have c2:=(bP.rd a7).le b7;have h8:=h7.push (A:=gP pi 80 2 (bB [])) (H:=λ_=>I) gP.nil (λb hb=>absurd rfl hb) (λb o hb=>(by cases hb)) (au _);exact ⟨G7,rfl,aa C l7,N,e2,e5,e6,⟨a2.le l7,a3.le l7,RL.ints.2 c2,hN,a8,by rw [N,e2];exact A1 hG.ok.ok hf P,by rw [N];exact RN hG.ok.ok⟩,h8.swap⟩
end
theorem qgV:aF prog 32=mY:=by kernel_rfl
theorem qgW:aF prog 36=mY:=by kernel_rfl
section
variable {F G G0:PH} {g:Gr} {k:Nat} {T:Dtr} {c:Int} {w:Wc} {bw b9 b12 b14:Nat}
theorem A2 {e n:Nat} {l:List tU} {seen:Sl} {o:Obj} (h:St G F [pt b14 o,pt bw (Y (w.arr seen) 108),gP seen 80 2 (bB l)]):St G F (WB bw w seen l [pt b14 o,own pi e n []]):=by
 have h:=h.push (A:=own pi e n []) (H:=λ_=>I) (.inl ⟨rfl,rfl⟩) (λb r=>absurd rfl r) (λb o r=>(by cases r)) (au _)
 exact h.pick (λj=>match j with|0=>2|1=>3|2=>1|_=>0) (by
  intro a b B r
  match a,b,(show a<4 from B),(show b<4 from r) with
  |0,0,_,_|1,1,_,_|2,2,_,_|3,3,_,_=>intro _;rfl
  |0,1,_,_|0,2,_,_|0,3,_,_|1,0,_,_|1,2,_,_|1,3,_,_|2,0,_,_|2,1,_,_|2,3,_,_|3,0,_,_|3,1,_,_|3,2,_,_=>intro h;exact absurd h (by decide)) (by
  intro a B
  match a,(show a<4 from B) with
  |0,_|1,_|2,_|3,_=>rfl)
abbrev FP (b14:Nat) (x:Sl×List tU):List (Ψ):=[pt b14 (Y #[x.1.v] 48),own x.1 80 2 (bB x.2)]
theorem uk {x:Sl×List tU} {sx seen:Sl} {l m:List tU} {K:Sl->Ψ} (h:St G F (WB bw w seen l (FP b14 x))) (B:RdS F sx 2 (bB m)) (E:x.1.len+sx.len<=500000000) (k:∀r A,St G A (WB bw w seen l [pt b14 (Y #[x.1.v] 48),own r 80 2 (bB (x.2++m))])->K r A):
  aG prog (Builtin.append_ #[48,48] 48 #[x.1.v,sx.v]) F λv F=>∃r:Sl,v=nE r/\K r F:=by
 obtain ⟨_,_,C⟩:=Ou;refine h.appAt C 3 rfl B (Gu _) (by omega) λr A D _=>k r A ?_;rw [kv];exact D
theorem Dg {x:Sl×List tU} {seen:Sl} {l:List tU} (h:St G F (WB bw w seen l (FP b14 x))):x.1.len=x.2.length:=by have:=(h.ownAt (i:=3) rfl).1.rd.len;rw [iq] at this;omega
theorem Mi {i:Nat} (hN:szN T<=2000000) (W:w.lv=.func (.func 32) #[] #[Pp b9,Pp b14,Pp b12]) (P:G0 b9=V (Y #[U (i:Int)] 3)) (D:G0 b12=V (Y #[Pp bw] 98)):
  HkL G0 bw w T (FP b14) (λx=>x.2) (WE i):=by
 refine .inr ⟨_,_,_,W,qgV,λj b seen l G F x hj hb hl E L h=> ?_⟩;have K:F b9=_:=h.le _ _ (L _ _ P);have C:F b12=_:=h.le _ _ (L _ _ D);have Q:=Dg h;have H:=fI h;have A:=h.sownRd (i:=1) rfl;show aj prog _ #[U (j:Int),U (b:Int),Pp b9,Pp b14,Pp b12] F _;refine qgJ ?_;unfold Un;unfold WE at E ⊢;dsimp only at E ⊢;refine ⟨_,rfl,_,ld K rfl,λN=> ?_,λO=> ?_⟩
 ·have N:j=i:=by omega
  rw [Χ N] at E ⊢;rw [W6] at E;refine ⟨_,rfl,_,ld (h.ptAt (i:=2) rfl) rfl,_,rfl,_,ld C rfl,_,rfl,seen,ld (h.ptAt (i:=0) rfl) rfl,by omega,by omega,A.cap,?_⟩;rw [N4];have B:=A.cut (l:=b) (r:=seen.len) (m:=seen.cap) (by omega) (qX _) A.cap;have B:RdS F (Sl.cut seen 2 b seen.len seen.cap) 2 (bB (l.drop b)):=by rw [qir] at B;rw [H] at B ⊢;rw [show (bB (l.drop b)).take ((l.length - b)*2)=bB (l.drop b) from zc (by rw [iq,W6];exact qX _)] at B;exact B
  refine uk h B (by show x.1.len+(seen.len - b)<=_;omega) λM F' J=> ?_;refine ⟨ld (J.ptAt (i:=0) rfl) rfl,ld (J.le _ _ (L _ _ D)) rfl,?_⟩;refine J.set2 (w':= #[M.v]) (vx rfl) rfl λF3 X=>⟨rfl,G,(M,x.2++l.drop b),au _,X,rfl⟩
 ·rw [Υ (by omega)];exact ⟨rfl,G,x,au _,h,(yn _).symm⟩
def Zu (i:Nat):Nat->List tU->List tU:=λj s=>if j=i then s else []
theorem Mj {i:Nat} (_:szN T<=2000000) (P:w.en=.func (.func 36) #[] #[Pp b9,Pp b14,Pp b12]) (N:G0 b9=V (Y #[U (i:Int)] 3)) (A:G0 b12=V (Y #[Pp bw] 98)):
  HkE G0 bw w T (FP b14) (λx=>x.2) (Zu i):=by
 refine .inr ⟨_,_,_,P,qgW,λj seen l G F x hj hl _ C E h=> ?_⟩;have D:F b9=_:=h.le _ _ (E _ _ N);have r:F b12=_:=h.le _ _ (E _ _ A);have O:=Dg h;have M:=fI h;have B:=h.sownRd (i:=1) rfl;show aj prog _ #[U (j:Int),Pp b9,Pp b14,Pp b12] F _;refine qgL ?_;unfold Uq;unfold Zu at C ⊢;dsimp only at C ⊢;refine ⟨_,rfl,_,ld D rfl,λK=> ?_,λL=> ?_⟩
 ·have K:j=i:=by omega
  rw [Χ K] at C ⊢;refine ⟨_,rfl,_,ld (h.ptAt (i:=2) rfl) rfl,_,rfl,_,ld r rfl,_,rfl,seen,ld (h.ptAt (i:=0) rfl) rfl,?_⟩;refine uk h B (by omega) λH F' J=> ?_;refine ⟨ld (J.le _ _ (E _ _ A)) rfl,?_⟩;refine J.set2 (w':= #[H.v]) (vx rfl) rfl λX Q=>⟨rfl,G,(H,x.2++l),au _,Q,rfl⟩
 ·rw [Υ (by omega)];exact ⟨rfl,G,x,au _,h,(yn _).symm⟩
def exA (g:Gr) (c:Int) (tx:ο) (T:Dtr) (i:Int):List tU×Int:=if Ws g c tx T≠0 then ([],Ws g c tx T) else match (if 0<=i then bK T i.toNat else I) with
 |some m=>(yP (vi g) (vl tx) m,0)
 |none=>([],1)
def vsA (g:Gr) (c:Int) (tx:ο) (T:Dtr) (i:Int):List tU×Int:=if Ws g c tx T≠0 then ([],Ws g c tx T) else match (if 0<=i then (yp (vi g) (vl tx) [] T)[i.toNat]? else I) with
 |some l=>(l,0)
 |none=>([],1)
def Zq (a:List tU×Int) (r:ξ) (F':PH):Prop:=∃s:Sl,r=pk #[s.v,U a.2]/\RL F' s a.1
theorem qhB {v:Γ} {t:Sl} {tx:ο} {i:Int} (hT:Tab F) (hg:GV F v g) (hG:GdG g k) (hf:dU g T) (hN:szN T<=2000000) (ht:RL F t (vD T)) (c0:0<=c) (c1:c<18446744073709551616):
  ν 11 #[nL v,ru .u64 c,pe tx,t.v,U i] F λr L=>Zq (exA g c tx T i) r L/\F.le L:=by
 have et:t.len=szN T:=ht.len;refine qfo ?_;unfold Ui;refine fresh λb5 F1 l1 q5 _=>fresh λb9 F2 l2 q9 _=> ?_;have C:=aa l1 l2;refine ⟨v,hg.size,ai (l2 _ _ q5),?_⟩;refine (nA (hT.le C) (hg.le C) hG hf hN (ht.le C) c0 c1).mono ?_;rintro r F3 (⟨K,rfl,l3⟩|⟨K,bw,w,G3,rfl,l3,e1,e2,e3,e4,hW,h⟩)
 ·have D:=aa C l3;refine ⟨_,_,rfl,?_⟩;refine (St.start F3).new λb12 F4 h=>h.set0 (w':= #[ph I]) (by decide) rfl λF5 h=>⟨λ_=>⟨⟨pi,?_,?_⟩,aa D h.le⟩,λhn=>absurd K hn⟩
  ·unfold exA;rw [Χ K]
  ·unfold exA;rw [Χ K];exact RL.nil _
 ·have D:=aa C l3;refine ⟨_,_,rfl,?_⟩;refine h.new λb12 F4 h=>h.set0 (w':= #[Pp bw]) (by decide) rfl λF5 h=> ?_;obtain ⟨G4,l4,⟨H4,a4,a5⟩,h⟩:=h.pin;have J:=a5 _ _ a4;have M:=aa D l4;have Q:=aa l3 l4 _ _ q9;have X:F5 b9=_:=h.le _ _ Q;have no:(if 0<=i then bK T i.toNat else I)=I->∀L,F.le L->Zq (exA g c tx T i) (pk #[nE pi,U 1]) L/\F.le L:=λP L lF=>⟨⟨pi,by unfold exA;rw [Υ (μ K),P],by unfold exA;rw [Υ (μ K),P];exact RL.nil _⟩,lF⟩;refine ⟨λhn=>absurd rfl hn,λ_=>⟨i,ld X rfl,λa3=>no (by rw [Υ (by omega)]) _ (aa M h.le),λa2=>⟨i,ld X rfl,λa6=>no ?_ _ (aa M h.le),λa7=> ?_⟩⟩⟩
  ·rw [Χ (by omega)];unfold bK;rw [VM (by rw [dI];omega)]
  obtain ⟨m,hm⟩:=gO (n:=T) (j:=i.toNat) (by omega);have hx:exA g c tx T i=(yP (vi g) (vl tx) m,0):=by unfold exA;rw [Υ (μ K),Χ (by omega),hm]
  refine h.new λb14 F6 h=> ?_;have O:F6 b12=_:=h.le _ _ J;refine ⟨_,ld O rfl,_,rfl,?_⟩;refine h.set1 (w':={w with lv:=.func (.func 32) #[] #[Pp b9,Pp b14,Pp b12]}.arr pi) (vx rfl) rfl λF7 h=> ?_;have h:=A2 (e:=80) (n:=2) h;have A:=hW.le l4;have h:St G4 F7 (WB bw {w with lv:=.func (.func 32) #[] #[Pp b9,Pp b14,Pp b12]} pi [] (FP b14 (pi,[]))):=h;generalize a0:({w with lv:=.func (.func 32) #[] #[Pp b9,Pp b14,Pp b12]}:Wc)=B at h ⊢;have f1:B.g=g/\B.tx=tx/\B.en=.nilFunc/\B.lv=.func (.func 32) #[] #[Pp b9,Pp b14,Pp b12]/\WcO G4 B T:=by rw [<- a0];exact ⟨e1,e2,e3,rfl,⟨A.t,A.p,A.e,A.n,A.f,A.s,A.k⟩⟩
  obtain ⟨f1,f2,f3,f4,a1⟩:=f1;have hi:((i.toNat:Nat):Int)=i:=by omega
  have H:=Jh (sp:=vi B.g) (tx:=vl B.tx) T i.toNat 0 m [] hm;rw [ye] at H;have a9:=A0 (sp:=vi B.g) (tx:=vl B.tx) m;have a8:=sub_le hm;have W:F7.cell (Z b12 0)=V (Pp bw):=ld (h.le _ _ J) rfl;refine ⟨_,W,?_⟩;refine (kM (E:=λ_ _=>[]) (Lh:=WE i.toNat) a1 (.inl ⟨f3,λ_ _=>rfl⟩) (Mi (b14:=b14) hN f4 (by rw [hi];exact Q) J) (x:=(pi,[])) (by rw [H];show 0+_<=_;omega) h).mono ?_;rintro r F8 ⟨rfl,G5,s5,x5,l5,h5,N⟩;rw [H] at N;refine ⟨rfl,x5.1,ld (h5.ptAt (i:=2) rfl) rfl,⟨x5.1,by rw [hx],?_⟩,aa M (aa l5 h5.le)⟩;rw [hx];have hr:=(h5.ownAt (i:=3) rfl).1.rd;rw [show x5.2=yP (vi B.g) (vl B.tx) m from N,f1,f2] at hr;exact RL.nams.2 hr
end
section
variable {sp:Int->Spc} {tx:Int->Int->ο}
theorem Dh:∀(l:List Dtr),(∀k∈l,∀(s:List tU) (i:Nat) (x:List tU),(yp sp tx s k)[i]? =V x->x.length<=s.length+szN k)->∀(s:List tU) (i:Nat) (x:List tU),(US sp tx s l)[i]? =V x->x.length<=s.length+xv l
 |[],_,s,i,x,h=>by unfold US at h;simp at h
 |n::l,hk,s,i,x,h=>by
  rw [US] at h;rw [dc];by_cases hi:i<(yp sp tx s n).length
  ·rw [zR hi] at h;have:=hk n (by simp) s i x h;omega
  ·rw [UR (by omega)] at h;have:=Dh l (λk h=>hk k (by simp [h])) _ _ x h;have g:=A0 (sp:=sp) (tx:=tx) n;rw [tT] at this;omega
theorem Ia:∀(n:Dtr) (s:List tU) (i:Nat) (x:List tU),(yp sp tx s n)[i]? =V x->x.length<=s.length+szN n:=Dtr.ind (λ_ _ _ s i x h=>by
  unfold yp at h;cases i with
  |zero=>cases h;omega
  |succ i=>simp at h) λr w to g ih s i x h=>by
 rw [nQ] at h;rw [cL];cases i with
 |zero=>cases h;omega
 |succ i=>rw [V3] at h;have:=Dh g ih s i x h;show _<=s.length+(1+xv g);omega
end
section
variable {F G G0:PH} {g:Gr} {k:Nat} {T:Dtr} {c:Int} {w:Wc} {bw b9 b12 b14:Nat}
theorem qhC {v:Γ} {t:Sl} {tx:ο} {i:Int} (hT:Tab F) (hg:GV F v g) (hG:GdG g k) (hf:dU g T) (hN:szN T<=2000000) (ht:RL F t (vD T)) (c0:0<=c) (c1:c<18446744073709551616):
  ν 13 #[nL v,ru .u64 c,pe tx,t.v,U i] F λr K=>Zq (vsA g c tx T i) r K/\F.le K:=by
 have et:t.len=szN T:=ht.len;refine qgF ?_;unfold Uj;refine fresh λb5 F1 l1 q5 _=>fresh λb9 F2 l2 q9 _=> ?_;have B:=aa l1 l2;refine ⟨v,hg.size,ai (l2 _ _ q5),?_⟩;refine (nA (hT.le B) (hg.le B) hG hf hN (ht.le B) c0 c1).mono ?_;rintro r F3 (⟨J,rfl,l3⟩|⟨J,bw,w,G3,rfl,l3,e1,e2,e3,e4,hW,h⟩)
 ·have C:=aa B l3;refine ⟨_,_,rfl,?_⟩;refine (St.start F3).new λb12 F4 h=>h.set0 (w':= #[ph I]) (by decide) rfl λF5 h=>⟨λ_=>⟨⟨pi,?_,?_⟩,aa C h.le⟩,λhn=>absurd J hn⟩
  ·unfold vsA;rw [Χ J]
  ·unfold vsA;rw [Χ J];exact RL.nil _
 ·have C:=aa B l3;refine ⟨_,_,rfl,?_⟩;refine h.new λb12 F4 h=>h.set0 (w':= #[Pp bw]) (by decide) rfl λF5 h=> ?_;obtain ⟨G4,l4,⟨H4,a4,a5⟩,h⟩:=h.pin;have H:=a5 _ _ a4;have L:=aa C l4;have P:=aa l3 l4 _ _ q9;have X:F5 b9=_:=h.le _ _ P;have no:(if 0<=i then (yp (vi g) (vl tx) [] T)[i.toNat]? else I)=I->∀K,F.le K->Zq (vsA g c tx T i) (pk #[nE pi,U 1]) K/\F.le K:=λO K lF=>⟨⟨pi,by unfold vsA;rw [Υ (μ J),O],by unfold vsA;rw [Υ (μ J),O];exact RL.nil _⟩,lF⟩;refine ⟨λhn=>absurd rfl hn,λ_=>⟨i,ld X rfl,λa6=>no (by rw [Υ (by omega)]) _ (aa L h.le),λa3=>⟨i,ld X rfl,λa7=>no ?_ _ (aa L h.le),λa8=> ?_⟩⟩⟩
  ·rw [Χ (by omega)];rw [VM (by rw [gc];omega)]
  have a1:i.toNat<(yp (vi g) (vl tx) [] T).length:=by rw [gc];omega
  obtain ⟨m,hm⟩:∃m,(yp (vi g) (vl tx) [] T)[i.toNat]? =V m:=⟨_,N5 a1⟩;have hx:vsA g c tx T i=(m,0):=by unfold vsA;rw [Υ (μ J),Χ (by omega),hm]
  refine h.new λb14 F6 h=> ?_;have N:F6 b12=_:=h.le _ _ H;refine ⟨_,ld N rfl,_,rfl,?_⟩;refine h.set1 (w':={w with en:=.func (.func 36) #[] #[Pp b9,Pp b14,Pp b12]}.arr pi) (vx rfl) rfl λF7 h=> ?_;have h:=A2 (e:=80) (n:=2) h;have A:=hW.le l4;have h:St G4 F7 (WB bw {w with en:=.func (.func 36) #[] #[Pp b9,Pp b14,Pp b12]} pi [] (FP b14 (pi,[]))):=h;generalize a0:({w with en:=.func (.func 36) #[] #[Pp b9,Pp b14,Pp b12]}:Wc)=D at h ⊢;have f1:D.g=g/\D.tx=tx/\D.lv=.nilFunc/\D.en=.func (.func 36) #[] #[Pp b9,Pp b14,Pp b12]/\WcO G4 D T:=by rw [<- a0];exact ⟨e1,e2,e4,rfl,⟨A.t,A.p,A.e,A.n,A.f,A.s,A.k⟩⟩
  obtain ⟨f1,f2,f3,f4,a2⟩:=f1;have hi:((i.toNat:Nat):Int)=i:=by omega
  have Q:=(za (sp:=vi D.g) (tx:=vl D.tx) (E:=Zu i.toNat) T 0 []).trans (Sg _ i.toNat (by rw [f1,f2];exact hm));have a9:m.length<=2000000:=by have:=Ia (sp:=vi g) (tx:=vl tx) T [] i.toNat m hm;rw [W7] at this;omega
  have W:F7.cell (Z b12 0)=V (Pp bw):=ld (h.le _ _ H) rfl;refine ⟨_,W,?_⟩;refine (kM (E:=Zu i.toNat) (Lh:=λ_ _ _=>[]) a2 (Mj (b14:=b14) hN f4 (by rw [hi];exact P) H) (.inl ⟨f3,λ_ _ _=>rfl⟩) (x:=(pi,[])) (by rw [Q];show 0+_<=_;omega) h).mono ?_;rintro r F8 ⟨rfl,G5,s5,x5,l5,h5,M⟩;rw [Q] at M;refine ⟨rfl,x5.1,ld (h5.ptAt (i:=2) rfl) rfl,⟨x5.1,by rw [hx],?_⟩,aa L (aa l5 h5.le)⟩;rw [hx];have hr:=(h5.ownAt (i:=3) rfl).1.rd;rw [show x5.2=m from M] at hr;exact RL.nams.2 hr
end
theorem qgX:aF prog 38=mY:=by kernel_rfl
theorem qcZ:∃b z,SlT 52 66 3 b z:=⟨_,_,underlying52,aaM,aaS,rfl,by decide,by decide⟩
abbrev kq (l:Δ):Ξ:=l.flatMap λ(i:Nat)=>(#[U 6,U (i:Int),U 0]:Γ).toList
theorem qhD (l m:Δ):kq (l++m)=kq l++kq m:=by simp [kq]
theorem ul:∀l:Δ,(kq l).length=l.length*3
 |[]=>rfl
 |x::l=>by have:=ul l;simp only [kq,Vx,tT,wc] at this ⊢;rw [this];show 3+_=_;omega
theorem RL.vios {F:PH} {s:Sl} {l:Δ}:RL F s (l.map Vio.mk)↔RdS F s 3 (kq l):=by rw [RL.flat (f:=Vio.arr) (λ_ _ _=>Iff.rfl),List.flatMap_map];exact Iff.rfl
theorem Mk {a k:Int} (w:0<=a) (D:a<=255) (A:0<=k) (E:k<=7):(i64.wrap ((BitVec.ofInt (i64).bits (Int.fdiv a (2 ^ (min (nT k) (i64).bits))) &&& BitVec.ofInt (i64).bits (1:Int)).toNat))=if WF a.toNat k=mY then 1 else 0:=by
 obtain ⟨n,rfl⟩:=Xw w;obtain ⟨j,rfl⟩:=Xw A;have r:n<256:=by omega
 have C:j<8:=by omega
 rw [show (i64).bits=64 from rfl,N4,X2 (by omega)];have B:Int.fdiv (n:Int) (2 ^ j)=((n / 2 ^ j:Nat):Int):=by rw [YB _ (by exact Int.le_of_lt (Int.pow_pos (by decide)))];simp
 have hd:n / 2 ^ j<256:=Nat.lt_of_le_of_lt (Nat.div_le_self _ _) r;rw [B];have h:(BitVec.ofInt 64 ((n / 2 ^ j:Nat):Int) &&& BitVec.ofInt 64 (1:Int)).toNat=n / 2 ^ j % 2:=by rw [BitVec.toNat_and,BitVec.ofInt_natCast,BitVec.toNat_ofNat,show (BitVec.ofInt 64 (1:Int)).toNat=1 from rfl,Nat.mod_eq_of_lt (by omega),Nat.and_one_is_mod]
 rw [h];unfold WF;rw [N4,N4];have g:=Nat.mod_two_eq_zero_or_one (n / 2 ^ j);rcases g with g|g
 ·rw [g];rfl
 ·rw [g];rfl
theorem yw {s:ο} {l:List tU} (h:UT K7 l):K7 (bF s l):=by
 unfold bF;cases e:l.reverse.find? λx=>decide (x.1=s) with
 |none=>exact ⟨Va _,by decide⟩
 |some x=>exact h x (List.mem_reverse.1 (List.mem_of_find?_eq_some e))
section
variable {F G G0:PH} {g:Gr} {k:Nat} {T:Dtr} {c:Int} {w:Wc} {bw b10 b12:Nat}
abbrev UA (b12:Nat) (x:Sl×Δ):List (Ψ):=[pt b12 (Y #[x.1.v] 52),own x.1 66 3 (kq x.2)]
theorem Ml (D:WcO G0 w T) (h1:w.en=.func (.func 38) #[] #[Pp b10,Pp b12]) (W:G0 b10=V (Y #[Pp bw] 98)):
  HkE G0 bw w T (UA b12) (λx=>x.2) (Yu (vi w.g) (vl w.tx) T):=by
 refine .inr ⟨_,_,_,h1,qgX,λj seen l G F x hj hl hK H lG h=> ?_⟩;obtain ⟨m,N⟩:=gO hj;obtain ⟨s0,s1,s2,s3,s4,s5,s6,s7⟩:=D.s.nd m (dn N);have lF:=aa lG h.le;have a1:F.cell (Z b10 0)=V (Pp bw):=ld (h.le _ _ (lG _ _ W)) rfl;have b1:=fI h;have hN:=D.n;have b2:x.1.len=x.2.length:=by have:=(h.ownAt (i:=3) rfl).1.rd.len;rw [ul] at this;omega
 have eE:Yu (vi w.g) (vl w.tx) T j l=if WA (vi w.g) (vl w.tx) l m=mY then [] else [j]:=by unfold Yu;rw [N]
 dsimp only at H ⊢;rw [eE] at H ⊢;have eU:WA (vi w.g) (vl w.tx) l m=if (ci w.g m).u.toNat=0 then mY else WF (ci w.g m).a.toNat (bF (WD (vl w.tx) m.kids (ci w.g m).u.toNat) l):=by
  cases m with
  |lf=>rfl
  |nd=>rfl
 rw [eU] at H ⊢;show aj prog _ #[U (j:Int),Pp b10,Pp b12] F _;refine qgM ?_;unfold Ur;refine ⟨_,rfl,_,a1,_,rfl,?_⟩;refine (rc (h.ptAt (i:=0) rfl) (D.t.le lF) (D.p.le lF) D.f N).mono ?_;rintro r F1 ⟨rfl,l1⟩;have a7:=h.up l1;refine ⟨_,rfl,?_⟩;generalize b0:ci w.g m=C at*;refine a7.var (by simp [ak]) (λb4 G2 F2 l2 q4 E=> ?_);have a0:=aa lG l2;have B:F2 b4=_:=E.le _ _ q4;have A:F2.cell (Z b10 0)=V (Pp bw):=ld (E.le _ _ (a0 _ _ W)) rfl;refine ⟨_,ld B rfl,λQ=> ?_,λQ=> ?_⟩
 ·have Q:C.u=0:=Q;rw [Χ (show C.u.toNat=0 by omega),Χ rfl];exact ⟨rfl,G2,x,l2,E,(yn _).symm⟩
 ·have Q:¬C.u=0:=Q;rw [Υ (show ¬C.u.toNat=0 by omega)] at H ⊢;obtain ⟨c0,K,O⟩:=s7 (by omega);have a8:C.u.toNat - 1<m.kids.length:=(N6.1 K).1;have J:=ip N K;have a9:=D.s.lf c0 (dn J) O;have X:=D.f c0 (dn J);obtain ⟨f0,f1⟩:0<=c0.root.fr/\c0.root.fr<=c0.root.to:=by
   cases c0 with
   |lf tk fr to=>exact ⟨X.2.2.1,Int.le_of_lt X.2.2.2⟩
   |nd=>cases O
  have a3:WD (vl w.tx) m.kids C.u.toNat=vl w.tx c0.root.fr c0.root.to:=by unfold WD;rw [K]
  rw [a3] at H ⊢;have b3:=ib m.kids;have a5:=sub_le N;rw [cL] at a5;have L:=E.ptAt (i:=0) rfl;have P:=aa a0 E.le;have a4:=RL.nams.2 (E.sownRd (i:=1) rfl);refine ⟨_,ld B rfl,_,A,_,rfl,_,A,_,rfl,_,A,_,rfl,_,ld B rfl,?_⟩;dsimp only;rw [show i64.wrap (C.u - 1)=((C.u.toNat - 1:Nat):Int) by rw [aJ (by omega)];omega];refine (yt L (D.e.le P) D.n N (Nat.le_of_lt a8)).mono ?_;rintro r F' ⟨rfl,rfl⟩;refine ⟨_,rfl,ld B rfl,A,A,A,ld B rfl,?_⟩;refine (rg L (D.t.le P) J f0 f1 a9).mono ?_;rintro r F' ⟨rfl,rfl⟩;refine ⟨_,rfl,ld B rfl,A,A,A,ld B rfl,?_⟩;refine (FO (s:=vl w.tx c0.root.fr c0.root.to) (ld L rfl) a4 (by omega)).mono ?_;rintro r F' ⟨rfl,rfl⟩;have M:=yw (s:=vl w.tx c0.root.fr c0.root.to) hK;generalize bF (vl w.tx c0.root.fr c0.root.to) l=kk at*;refine ⟨_,rfl,ld B rfl,A,A,A,ld B rfl,M.1,?_⟩;rw [Mk s2 s3 M.1 M.2];refine ⟨λhz=> ?_,λhz=> ?_⟩
  ·have a6:WF C.a.toNat kk=mz:=by
    cases e:WF C.a.toNat kk with
    |false=>rfl
    |true=>rw [e] at hz;exact absurd hz (by decide)
   rw [a6] at H ⊢;obtain ⟨_,_,TV⟩:=qcZ;refine ⟨_,rfl,_,ld (E.ptAt (i:=2) rfl) rfl,rfl,?_⟩;have H:x.2.length+1<=5000000:=H;refine E.push3 TV (c:= #[U 6,U (j:Int),U 0]) rfl (by simp [ak]) (by omega) λs' G3 F3 l3 h3 _=> ?_;refine h3.set2 (w':= #[s'.v]) (vx rfl) rfl λF4 h4=>⟨rfl,G3,(s',x.2++[j]),aa l2 l3,?_,rfl⟩;rw [show kq x.2++(#[U 6,U (j:Int),U 0]:Γ).toList=kq (x.2++[j]) by rw [qhD];rfl] at h4;exact h4
  ·have a2:WF C.a.toNat kk=mY:=by
    cases e:WF C.a.toNat kk with
    |true=>rfl
    |false=>rw [e] at hz;exact absurd rfl hz
   rw [a2];exact ⟨rfl,G2,x,l2,E,(yn _).symm⟩
def voA (g:Gr) (c:Int) (tx:ο) (T:Dtr):Δ×Int:=if Ws g c tx T≠0 then ([],Ws g c tx T) else (VV (vi g) (vl tx) T,0)
def Z9 (a:Δ×Int) (r:ξ) (F':PH):Prop:=∃s:Sl,r=pk #[s.v,U a.2]/\RL F' s (a.1.map Vio.mk)
theorem RO {sp:Int->Spc} {tx:Int->Int->ο}:(VV sp tx T).length<=szN T:=by
 unfold VV
 have:=Zf (λi=>match (yp sp tx [] T)[i]?,bK T i with
 |some s,V m=> !WA sp tx s m
 |_,_=>mz) (List.range (szN T))
 rw [V4] at this;exact this
theorem iP {v:Γ} {t:Sl} {tx:ο} (hT:Tab F) (hg:GV F v g) (hG:GdG g k) (hf:dU g T) (hN:szN T<=2000000) (ht:RL F t (vD T)) (c0:0<=c) (c1:c<18446744073709551616):
  ν 15 #[nL v,ru .u64 c,pe tx,t.v] F λr F'=>Z9 (voA g c tx T) r F'/\F.le F':=by
 refine qgG ?_;unfold Uk;refine fresh λb4 F2 C q5 _=> ?_;refine ⟨v,hg.size,ai q5,?_⟩;refine (nA (hT.le C) (hg.le C) hG hf hN (ht.le C) c0 c1).mono ?_;rintro r F3 (⟨M,rfl,W⟩|⟨M,bw,w,G3,rfl,W,e1,e2,e3,e4,hW,h⟩)
 ·have H:=aa C W;refine ⟨_,_,rfl,?_⟩;refine (St.start F3).new λb12 F4 h=>h.set0 (w':= #[ph I]) (by decide) rfl λF5 h=>⟨λ_=>⟨⟨pi,?_,?_⟩,aa H h.le⟩,λX=>absurd M X⟩
  ·unfold voA;rw [Χ M]
  ·unfold voA;rw [Χ M];exact RL.nil _
 ·have H:=aa C W;refine ⟨_,_,rfl,?_⟩;refine h.new λb10 F4 h=>h.set0 (w':= #[Pp bw]) (by decide) rfl λF5 h=> ?_;obtain ⟨G4,l4,⟨H4,a4,a5⟩,h⟩:=h.pin;have D:=a5 _ _ a4;have a0:=aa H l4;have hx:voA g c tx T=(VV (vi g) (vl tx) T,0):=by unfold voA;rw [Υ (μ M)]
  refine ⟨λX=>absurd rfl X,λ_=> ?_⟩;refine h.new λb12 F6 h=> ?_;refine ⟨_,ld (h.le _ _ D) rfl,_,rfl,?_⟩;refine h.set1 (w':={w with en:=.func (.func 38) #[] #[Pp b10,Pp b12]}.arr pi) (vx rfl) rfl λF7 h=> ?_;have h:=A2 (e:=66) (n:=3) h;have A:=hW.le l4;have h:St G4 F7 (WB bw {w with en:=.func (.func 38) #[] #[Pp b10,Pp b12]} pi [] (UA b12 (pi,[]))):=h;generalize P:({w with en:=.func (.func 38) #[] #[Pp b10,Pp b12]}:Wc)=B at h ⊢;have Q:B.g=g/\B.tx=tx/\B.lv=.nilFunc/\B.en=.func (.func 38) #[] #[Pp b10,Pp b12]/\WcO G4 B T:=by rw [<- P];exact ⟨e1,e2,e4,rfl,⟨A.t,A.p,A.e,A.n,A.f,A.s,A.k⟩⟩
  obtain ⟨Q,f2,f3,f4,K⟩:=Q;have L:=qdB (sp:=vi B.g) (tx:=vl B.tx) T;have a1:=RO (T:=T) (sp:=vi B.g) (tx:=vl B.tx);refine ⟨_,ld (h.le _ _ D) rfl,?_⟩;refine (kM (E:=Yu (vi B.g) (vl B.tx) T) (Lh:=λ_ _ _=>[]) K (Ml (b12:=b12) K f4 D) (.inl ⟨f3,λ_ _ _=>rfl⟩) (x:=(pi,[])) (by rw [L];show 0+_<=_;omega) h).mono ?_;rintro r F8 ⟨rfl,G5,s5,N,l5,O,J⟩;rw [L] at J;refine ⟨rfl,N.1,ld (O.ptAt (i:=2) rfl) rfl,⟨N.1,by rw [hx],?_⟩,aa a0 (aa l5 O.le)⟩;rw [hx];have hr:=(O.ownAt (i:=3) rfl).1.rd;rw [show N.2=VV (vi B.g) (vl B.tx) T from J,Q,f2] at hr;exact RL.vios.2 hr
theorem ku {v:Γ} {t:Sl} {tx:ο} (N:Tab F) (D:GV F v g) (J:GdG g k) (M:dU g T) (L:szN T<=2000000) (O:RL F t (vD T)) (c0:0<=c) (c1:c<18446744073709551616):
  ν 19 #[nL v,ru .u64 c,pe tx,t.v] F λr K=>r=nS (decide ((voA g c tx T).2=0) && (voA g c tx T).1.isEmpty)/\F.le K:=by
 refine qgH ?_;unfold Ul;refine fresh λW F2 h q5 _=>⟨v,D.size,ai q5,?_⟩;refine (iP (N.le h) (D.le h) J M L (O.le h) c0 c1).mono ?_;rintro r Q ⟨⟨s,rfl,P⟩,H⟩;have A:=aa h H;have C:=P.len;rw [ub] at C;refine ⟨s,_,rfl,λE=>⟨?_,A⟩,λB=>⟨?_,A⟩⟩
 ·rw [ε E,Wy,C];congr 1;cases (voA g c tx T).1 with
  |nil=>rfl
  |cons=>rw [η (by simp only [wc];omega)];rfl
 ·rw [η B,W5]
end
def Vi (l:Δ):Nat->List Sy->Nat
 |n,[]=>n
 |n,s::r=>Vi l (if s.t=mY then n else max n (l.getD s.i.toNat 0)) r
theorem yx (l:Δ) (s:Sy):∀(r:List Sy) (n:Nat),Vi l n (r++[s])=if s.t=mY then Vi l n r else max (Vi l n r) (l.getD s.i.toNat 0)
 |[],n=>rfl
 |x::r,n=>by rw [zK,Vi,yx l s r,Vi]
theorem nB (l:Δ) {m:Nat}:∀(r:List Sy) (n:Nat),Vi l n r<=m↔n<=m/\∀s∈r,s.t=mz->l.getD s.i.toNat 0<=m
 |[],n=>by simp [Vi]
 |s::r,n=>by
  rw [Vi,nB l r];cases h:s.t with
  |true=>simp [h]
  |false=>simp only [VN,if_false,tD,forall_eq_or_imp,h,true_implies,Nat.max_le,and_assoc]
section
variable (P N:Nat) (pr:Nat->Bool) (lf:Nat->Nat) (rt:Nat->List Sy)
def hgt (l:Δ) (p:Nat):Nat:=if pr p=mY then min (Vi l 0 (rt p)+1) 1000 else 1000
def VG:Nat->Nat->Prop
 |0,_=>False
 |k+1,n=>∃p,p<P/\pr p=mY/\lf p=n/\∀s∈rt p,s.t=mz->VG k s.i.toNat
theorem ri:∀(k n:Nat),VG P pr lf rt k n->VG P pr lf rt (k+1) n
 |0,_,h=>h.elim
 |k+1,_,⟨p,h1,h2,h3,h4⟩=>⟨p,h1,h2,h3,λs r g=>ri k _ (h4 s r g)⟩
theorem yy {k j n:Nat} (h:VG P pr lf rt k n) (g:k<=j):VG P pr lf rt j n:=by
 induction g with
 |refl=>exact h
 |step _ ih=>exact ri P pr lf rt _ n ih
structure HIp (r p:Nat) (l:Δ):Prop where
 len:l.length=N
 cap:∀n,n<N->l.getD n 0<=1000
 sd:∀n,n<N->l.getD n 0<1000->VG P pr lf rt (l.getD n 0) n
 lo:∀k,k<=r->∀n,n<N->VG P pr lf rt k n->l.getD n 0<=k
 nx:∀q,q<p->pr q=mY->(∀s∈rt q,s.t=mz->VG P pr lf rt r s.i.toNat)->l.getD (lf q) 0<=r+1
variable {P N pr lf rt}
theorem lM {l:Δ} {i j v:Nat} (hi:i<l.length):(l.set i v).getD j 0=if j=i then v else l.getD j 0:=by
 rw [Q0,Q0];by_cases h:j=i
 ·subst h;rw [Χ rfl,X0 hi];rfl
 ·rw [Υ h,Zh (Ne.symm h)]
theorem HIp.hgt_sd {r p q:Nat} {l:Δ} (h:HIp P N pr lf rt r p l) (D:q<P) (E:∀s∈rt q,s.t=mz->s.i.toNat<N) (w:hgt pr rt l q<1000):VG P pr lf rt (hgt pr rt l q) (lf q):=by
 unfold hgt at w ⊢;split at w
 ·rename_i A;rw [Χ A] at ⊢;have e:min (Vi l 0 (rt q)+1) 1000=Vi l 0 (rt q)+1:=by omega
  rw [e];refine ⟨q,D,A,rfl,λs C B=> ?_⟩;have g:=((nB l (m:=Vi l 0 (rt q)) (rt q) 0).1 (qX _)).2 s C B;exact yy P pr lf rt (h.sd _ (E s C B) (by omega)) g
 ·omega
theorem HIp.step {r p:Nat} {l:Δ} (h:HIp P N pr lf rt r p l) (M:p<P) (G:lf p<N) (H:∀s∈rt p,s.t=mz->s.i.toNat<N) (J:r<900):HIp P N pr lf rt r (p+1) (l.set (lf p) (min (l.getD (lf p) 0) (hgt pr rt l p))):=by
 have hi:lf p<l.length:=by rw [h.len];exact G
 have E:=h.hgt_sd M H;have Q:=h.cap _ G;refine ⟨by rw [Yn];exact h.len,λn C=> ?_,λn C=> ?_,λk K n C D=> ?_,λq O w B=> ?_⟩
 ·rw [lM hi];split
  ·omega
  ·exact h.cap n C
 ·rw [lM hi];split
  ·rename_i e;subst e;intro g;by_cases L:l.getD (lf p) 0<=hgt pr rt l p
   ·rw [X2 L] at g ⊢;exact h.sd _ G g
   ·rw [Nat.min_eq_right (by omega)] at g ⊢;exact E g
  ·exact h.sd n C
 ·rw [lM hi];have:=h.lo k K n C D;split
  ·rename_i e;subst e;omega
  ·exact this
 ·rw [lM hi];by_cases e:lf q=lf p
  ·rw [Χ e];by_cases A:q<p
   ·have:=h.nx q A w B;rw [e] at this;omega
   ·have:q=p:=by omega
    subst this;have:hgt pr rt l q<=r+1:=by unfold hgt;rw [Χ w];have:=(nB l (m:=r) (rt q) 0).2 ⟨yv _,λs E D=>h.lo r (qX _) _ (H s E D) (B s E D)⟩;omega
    omega
  ·rw [Υ e];refine h.nx q ?_ w B;by_cases A:q=p
   ·subst A;exact absurd rfl e
   ·omega
theorem HIp.next {r:Nat} {l:Δ} (h:HIp P N pr lf rt r P l):HIp P N pr lf rt (r+1) 0 l:=by
 refine ⟨h.len,h.cap,h.sd,λk E n w g=> ?_,λq G=>by omega⟩;by_cases e:k<=r
 ·exact h.lo k e n w g
 ·have:k=r+1:=by omega
  subst this;obtain ⟨p,B,A,C,D⟩:=g;subst C;exact h.nx p B A D
theorem HIp.init:HIp P N pr lf rt 0 0 (List.replicate N 1000):=by
 have r:∀n,n<N->(List.replicate N 1000).getD n 0=1000:=λn g=>by rw [Q0,List.getElem?_replicate,Χ g];rfl
 refine ⟨Xx,λn g=>by rw [r n g];exact qX _,λn g h=>by rw [r n g] at h;omega,λk A n g w=> ?_,λq B=>by omega⟩;have:k=0:=by omega
 subst this;exact w.elim
theorem um:∀(k n:Nat),VG P pr lf rt (k+1) n->¬VG P pr lf rt k n->(∀p,p<P->∀s∈rt p,s.t=mz->s.i.toNat<N)->n<N->∃l:Δ,l.length=k+1/\(∀x∈l,x<N)/\l.Nodup/\(∀x∈l,VG P pr lf rt (k+1) x)/\∀x∈l,x=n\/VG P pr lf rt k x
 |0,n,h,hn,hr,hN=>⟨[n],rfl,by simpa using hN,by simp,by simpa using h,by simp⟩
 |k+1,n,h,hn,hr,hN=>by
  obtain ⟨p,D,H,L,O⟩:=id h;have C:∃s∈rt p,s.t=mz/\¬VG P pr lf rt k s.i.toNat:=by refine Classical.byContradiction λM=>hn ⟨p,D,H,L,λs r w=>Classical.byContradiction λB=>M ⟨s,r,w,B⟩⟩
  obtain ⟨s,r,w,B⟩:=C;obtain ⟨l,K,G,E,A,Q⟩:=um k s.i.toNat (O s r w) B hr (hr p D s r w);refine ⟨n::l,by rw [wc,K],λx g=> ?_,WT.2 ⟨λJ=>hn (A n J),E⟩,λx g=> ?_,λx g=> ?_⟩
  ·rcases tD.1 g with rfl|g
   ·exact hN
   ·exact G x g
  ·rcases tD.1 g with rfl|g
   ·exact h
   ·exact ri P pr lf rt _ x (A x g)
  ·rcases tD.1 g with rfl|g
   ·exact .inl rfl
   ·exact .inr (A x g)
theorem Di (g:∀p,p<P->∀s∈rt p,s.t=mz->s.i.toNat<N):∀(k n:Nat),n<N->VG P pr lf rt k n->VG P pr lf rt N n
 |0,n,_,h=>h.elim
 |k+1,n,hn,h=>by
  by_cases e:VG P pr lf rt k n
  ·exact Di g k n hn e
  ·obtain ⟨l,A,w,r,_,_⟩:=um k n h e g hn;have:=cW l (List.range N) r λx B=>WU.2 (w x B);rw [A,V4] at this;exact yy P pr lf rt h this
structure HF (P N:Nat) (pr:Nat->Bool) (lf:Nat->Nat) (rt:Nat->List Sy) (l:Δ):Prop where
 len:l.length=N
 le:∀n,n<N->l.getD n 0<1000->l.getD n 0<=N
 best:∀n,n<N->l.getD n 0<1000->∃p,p<P/\lf p=n/\hgt pr rt l p=l.getD n 0
theorem Mm {l:Δ} {p:Nat} (h:hgt pr rt l p<1000) {s:Sy} (w:s∈rt p) (r:s.t=mz):pr p=mY/\l.getD s.i.toNat 0<hgt pr rt l p:=by
 unfold hgt at h ⊢;by_cases g:pr p=mY
 ·rw [Χ g] at h ⊢;have:=((nB l (m:=Vi l 0 (rt p)) (rt p) 0).1 (qX _)).2 s w r;exact ⟨g,by omega⟩
 ·rw [Υ g] at h;omega
theorem RQ {l:Δ} {p:Nat} (h:hgt pr rt l p<1000):pr p=mY:=by
 unfold hgt at h;by_cases g:pr p=mY
 ·exact g
 ·rw [Υ g] at h;omega
theorem HIp.final {l:Δ} (h:HIp P N pr lf rt (N+1) 0 l) (L:N<900) (C:∀p,p<P->∀s∈rt p,s.t=mz->s.i.toNat<N):HF P N pr lf rt l:=by
 have r:∀n,n<N->l.getD n 0<1000->l.getD n 0<=N:=λn g A=>h.lo N (by omega) n g (Di C _ n g (h.sd n g A));refine ⟨h.len,r,λn g A=> ?_⟩;have M:=r n g A;have w:=h.sd n g A;generalize ev:l.getD n 0=v at*;cases v with
 |zero=>exact w.elim
 |succ v=>
  obtain ⟨p,B,H,D,K⟩:=w;have J:hgt pr rt l p<=v+1:=by unfold hgt;rw [Χ H];have:=(nB l (m:=v) (rt p) 0).2 ⟨yv _,λs w E=>h.lo v (by omega) _ (C p B s w E) (K s w E)⟩;omega
  have G:=h.lo (hgt pr rt l p) (by omega) n g (by
   have:=h.hgt_sd B (C p B) (by omega)
   rwa [D] at this)
  exact ⟨p,B,D,by omega⟩
end
structure GrR (nf:Prop) (hs o:Nat) (m:Ttr):Prop where
 nfb:nf->yR m<=6 ^ hs
 fb:∃f,yR m<=1081*f+216/\f<=yR m/\(f=0\/o+f<=41)
structure GrL (nf:Prop) (h o:Nat) (ks:List Ttr):Prop where
 nfb:nf->yX ks<=ks.length*6 ^ h
 fb:∃f,yX ks<=1081*f+216*ks.length/\f<=yX ks/\(f=0\/o+f<=41)
theorem GrL.nil {g:Prop} {h o:Nat}:GrL g h o []:=⟨λ_=>by rw [fw];exact yv _,0,by rw [fw];exact yv _,yv _,.inl rfl⟩
theorem GrL.snoc {r g:Prop} {h A o:Nat} {ks:List Ttr} {m:Ttr} (D:GrL r h o ks) (B:GrR g A (o+yX ks) m) (G:r->g) (E:r->A<=h):GrL r h o (ks++[m]):=by
 have e:yX (ks++[m])=yX ks+yR m:=by rw [kS,i9,fw];omega
 have C:(ks++[m]).length=ks.length+1:=by simp
 refine ⟨λn=> ?_,?_⟩
 ·have L:=D.nfb n;have J:=B.nfb (G n);have O:6 ^ A<=6 ^ h:=Wu (by decide) (E n);rw [e,C,Wo];omega
 ·obtain ⟨f,P,K,H⟩:=D.fb;obtain ⟨q,M,N,w⟩:=B.fb;refine ⟨f+q,?_,?_,?_⟩
  ·rw [e,C,Nat.mul_add];omega
  ·rw [e];omega
  ·rcases w with w|w
   ·subst w;rw [Nat.add_zero];exact H
   ·exact .inr (by omega)
theorem GrR.qa6 {h:Prop} {r o:Nat} {g:Int}:GrR h r o (.lf g):=by
 have e:yR (.lf g)=1:=by rw [kR];show 1+yX []=1;rw [fw]
 exact ⟨λ_=>by rw [e];exact Nat.one_le_pow _ _ (by decide),0,by rw [e];decide,by omega,.inl rfl⟩
theorem GrR.nd {g r:Prop} {h o:Nat} {pr:Int} {ks:List Ttr} (A:GrL r (h - 1) (o+1) ks) (C:ks.length<=5) (H:1<=h) (B:g->r) (D:g->h<=3) (w:g\/o<=40):GrR g h o (.nd pr ks):=by
 have e:yR (.nd pr ks)=1+yX ks:=kR _;have key:g->yR (.nd pr ks)<=6 ^ h:=λn=>by
  have a:=A.nfb (B n);have b:ks.length*6 ^ (h - 1)<=5*6 ^ (h - 1):=Xj _ C;have c:6 ^ h=6 ^ (h - 1)*6:=by rw [<- Nat.pow_succ];congr 1;omega
  have d:1<=6 ^ (h - 1):=Nat.one_le_pow _ _ (by decide);rw [e,c];omega
 refine ⟨key,?_⟩;rcases w with n|w
 ·have a:=key n;have b:6 ^ h<=6 ^ 3:=Wu (by decide) (D n);have c:(6:Nat) ^ 3=216:=by decide
  exact ⟨0,by omega,yv _,.inl rfl⟩
 ·obtain ⟨f,J,G,E⟩:=A.fb;refine ⟨f+1,?_,?_,.inr ?_⟩
  ·rw [e,Nat.mul_add];omega
  ·rw [e];omega
  ·omega
theorem GrR.bound {g:Prop} {r:Nat} {m:Ttr} (h:GrR g r 0 m):yR m<=44537:=by obtain ⟨f,B,A,w⟩:=h.fb;omega
section
variable {F G:PH} {g:Gr} {k:Nat} {c:Int}
theorem qht {v:Γ} (hg:GV F v g) (W:OkK g k) (hf:(uc g.fam).ev (wo c)=mY) (c0:0<=c) (c1:c<18446744073709551616) {i:Nat} {x:Pr} (hx:g.qa0[i]? =V x):
  ν 138 #[nL v,ru .u64 c,U i] F λr F'=>r=nS ((bI g i).ev (wo c))/\F.le F':=by
 obtain ⟨o1,o2,o3,o4⟩:=dm W.ok;obtain ⟨cs,n,t,s,p,l,f,rfl,hs⟩:=hg;have hi:i<g.qa0.length:=(N6.1 hx).1;have ep:=hs.p.len;have et:=hs.t.len;have a6:=vQ hx;obtain ⟨b2,b4,_,b1⟩:=W.prod a6;have c3:=o4 x a6;have Q:=W.prs_ev hx (wo c);rw [hf,Wy] at Q;refine qeg ?_;unfold Pq;refine (St.start F).newG λb3 G1 F1 l1 q3 _ h=> ?_;have a2:=hs.le l1;refine ⟨p,ld (h.le _ _ q3) rfl,?_⟩;refine t6 a2.p (by decide) (by omega) (by omega) λc2 b0 x' a3 a0 hc=> ?_;rw [N4,hx] at a3;cases a3;refine ⟨b0,Mem.len hc,aN h.le a0,?_⟩;refine h.var (Mem.st hc) (λb7 G2 F2 l2 q7 h=> ?_) rfl (Mem.len hc);obtain ⟨r,n8,l8,rfl,hr,b5,_⟩:=hc;have er:=hr.len;refine bC (xo · c b3 b7 _) x.right.length (λj F'=>∃G':PH,G2.le G'/\St G' F' []/\((x.right.take j).all λs=> !s.t || (eG g s.i).ev (wo c))=mY) ⟨G2,au _,h,by rw [Am];rfl⟩ ?_;rintro j F3 N hj ⟨G3,l3,h,C⟩ next;have w:=aa l2 l3;have D:=l3 _ _ q7;unfold xo;refine ⟨r,ld (h.le _ _ D) rfl,λH=> ?_,λb9=> ?_⟩
 ·have H:j<x.right.length:=by omega
  refine ⟨r,ld (h.le _ _ D) rfl,?_⟩;refine t6 (hr.le w) (by decide) (by omega) (by omega) λd0 b6 J E A a7=> ?_;rw [N4] at E;obtain rfl:b6=J.arr:=a7;obtain ⟨s0,_,s2⟩:=b1 J (vQ E);have X:=bo E;refine ⟨J.t,aE (aN h.le A) rfl,λht=> ?_,λht=> ?_⟩
  ·obtain ⟨tk,M,_⟩:=s2 ht;have c7:J.i.toNat<g.qa2.length:=(N6.1 M).1;obtain ⟨tx,td⟩:=W.tok (vQ M);have ed:eG g J.i=uc tk.cond:=by unfold eG;rw [M]
   have a5:=w _ _ q3;refine ⟨t,ld (h.le _ _ a5) rfl,r,ld (h.le _ _ D) rfl,?_⟩;refine t6 (hr.le w) (by decide) (by omega) (by omega) λc5 a8 c8 O B a4=> ?_;rw [N4,E] at O;cases O;obtain rfl:a8=J.arr:=a4;refine ⟨J.i,aM (aN h.le B) (i:=1) rfl,?_⟩;refine t6 (a2.t.le w) (by decide) s0 (by omega) λc4 c6 c9 P L a1=> ?_;rw [M] at P;cases P;obtain ⟨pp,nn,rfl,_,a9⟩:=a1;have b8:DV G3 #[nn.v,U tk.cond.2] (pg (eG g J.i)):=by rw [ed,<- td];exact DV.mk a9
   have sm:=(W.tkd J.i).small W.le;refine ⟨#[nn.v,U tk.cond.2],rfl,aN h.le (uj L),?_⟩;refine h.runv (px b8 sm.1 sm.2 c0 c1) λG4 F4 K h=>⟨_,rfl,aM (aN (aa K h.le) B) (i:=1) rfl,ld (h.le _ _ (K _ _ D)) rfl,ld (h.le _ _ (K _ _ a5)) rfl,aE (aN (aa K h.le) A) rfl,ld (h.le _ _ (K _ _ D)) rfl,λhn=> ?_,λhn=> ?_⟩
   ·refine ⟨?_,aa l1 (aa w (aa K h.le))⟩;rw [Q];have:(x.right.all λs=> !s.t || (eG g s.i).ev (wo c))=mz:=by rw [List.all_eq_false];refine ⟨J,vQ E,?_⟩;rw [ht];simpa using hn
    rw [this,Bool.and_false]
   ·unfold qh;rw [aC H];refine next _ H ⟨G4,aa l3 K,h,?_⟩;rw [X,List.all_append,C,Xv,ht];simpa using hn
  ·unfold qh;rw [aC H];refine next _ H ⟨G3,l3,h,?_⟩;rw [X,List.all_append,C,Xv,ht];rfl
 ·have e:j=x.right.length:=by omega
  subst e;rw [wy] at C;unfold Eg;have hd:DV G3 #[n8.v,U x.cond.2] (pg (uc x.cond)):=by rw [<- b4];exact DV.mk (b5.le w)
  have sm:=b2.small W.le;refine ⟨#[n8.v,U x.cond.2],rfl,fX (h.le _ _ D) rfl,?_⟩;refine h.runv (px hd sm.1 sm.2 c0 c1) λG4 F4 K h=>⟨_,rfl,?_,aa l1 (aa w (aa K h.le))⟩;rw [Q,C,Bool.and_true]
end
variable {R:VR} {F:PH}
set_option maxHeartbeats 4000000
def Ib (f e:Nat) (a:Sl) (R:VR) (F:PH):Prop:=Lx F (Z e 9) λc=>Lr F 4 (Z e 10) λd=>aA F (Z f 0) 4 d λF=>Lr F 4 (Z f 0) λb=>R (pk #[pe c,nL b,nE a]) F
def Ic (d:Sl->Int->Ω) (_ _ _ _:Nat) (c:Int) (a:Sl) (b:Int) (_:VR) (F:PH):Prop:=d a b (i64.wrap (c+1)) F
def vF (i:Sl->Int->Ω) (j k l g:Nat) (a:Sl) (e:Int) (h:Nat) (c:Int) (R:VR) (F:PH):Prop:=Lr F 4 (Z h 0) λb=>b.size=4/\Nb F (Y b 47) λf F=>Ap 43 #[nE a,nE (Sb f 1)] F λd F=>Ic i j k l g e d c R F
def Id (k:Sl->Int->Ω) (l m n d:Nat) (a:Sl) (c j:Int) (e:Nat) (b:Int) (R:VR) (F:PH):Prop:=Lr F 4 (Z d 10) λf=>Ci 60 #[nL f,(U c)] F λg F=>qW F (Z e 2) (U g) λF=>Lr F 4 (Z d 10) λh=>Ci 60 #[nL h,(U b)] F λi F=>qW F (Z e 3) (U i) λF=>vF k l m n d a j e c R F
def vG (_:Sl->Int->Ω) (f:Int->Ω) (_ _ _ _:Nat) (_:Sl) (_ _:Int) (_:Nat) (c a:Int) (_:VR) (F:PH):Prop:=f a (i64.wrap (c+1)) F
def A3 (p:Sl->Int->Ω) (r:Int->Ω) (o n q f:Nat) (b:Sl) (e d:Int) (g:Nat) (R:VR) (a c:Int) (F:PH):Prop:=Lr F 9 (Z o 0) λh=>Ls F (Z n 0) λi=>Ci 59 #[nL h,nE i,(U d)] F λj F=>Bc (c<j) (Ls F (Z n 0) λk=>Ix k c λl=>Li F (nR l (nT c*4)) λm=>Bc (m<0) (vG p r o n q f b e d g c (i64.wrap (a+1)) R F) (vG p r o n q f b e d g c a R F)) (Id p o n q f b e d g a R F)
def vH (z:Sl->Int->Ω) (A v x f:Nat) (R:VR) (a:Sl) (c b:Int) (F:PH):Prop:=Ls F (Z v 0) λh=>Bc (b<(h.len:Int)) (Ls F (Z v 0) λi=>Ix i b λj=>Li F (nR j (nT b*4)) λk=>Ls F (Z v 0) λl=>Ix l b λm=>Li F (nR (nR m (nT b*4)) 1) λn=>Nb F (Y (#[U 0,U 0,U 0,U 0]) 47) λe F=>aA F (Z e 0) 4 (#[(U k),(U n),U 0,U 0]:Γ) λF=>Li F (Z e 0) λo=>Bc (o<0) (Ls F (Z f 10) λp=>Ix p c λq=>Li F (nR q (nT c*5)) λr=>qW F (Z e 2) (U r) λF=>Ls F (Z f 10) λs=>Ix s c λt=>Li F (nR (nR t (nT c*5)) 1) λu=>qW F (Z e 3) (U u) λF=>vF z A v x f a b e (i64.wrap (c+1)) R F) ((∃(y:Nat->Int->Ω) (w:Nat),y w c b F/\∀w d g F,y w d g F-> A3 z (VL y w) A v x f a c b e R d g F))) (Ib x f a R F)
def A4 (j i k b:Nat) (R:VR) (F:PH):Prop:=Ls F (Z i 1) λf=>Cu 57 #[(Pp b),nE f] F λF=>Lx F (Z b 9) λe=>qW F (Z b 12) (U (e.size:Int)) λF=>qW F (Z b 13) (U (-1:Int)) λF=>(∃(h:Nat->Sl->Int->Ω) (g:Nat),h g pi 0 0 F/\∀g a c d F,h g a c d F-> vH (Zx h g) j i k b R a c d F)
def nC (c:Sl->Ω) (_:Sl) (_ _ _ _:Nat) (b:Int) (a:Sl) (_:VR) (F:PH):Prop:=c a (i64.wrap (b+1)) F
def vI (h:Sl->Ω) (f:Sl) (i j k a:Nat) (b:Sl) (c:Int) (g:Bool) (R:VR) (F:PH):Prop:=Bb (g) (Lx F (Z a 9) λd=>d.size+(ByteArray.mk #[10]).size<=9223372036854775807/\qW F (Z a 9) (pe (d++(ByteArray.mk #[10]))) λF=>nC h f i j k a c b R F) (Lx F (Z a 9) λe=>e.size+(ByteArray.mk #[32]).size<=9223372036854775807/\qW F (Z a 9) (pe (e++(ByteArray.mk #[32]))) λF=>nC h f i j k a c b R F)
def A5 (w:Sl->Ω) (e:Sl) (u j v c:Nat) (R:VR) (b:Sl) (a:Int) (F:PH):Prop:=Ls F (Z j 0) λk=>Bc (a<(k.len:Int)) (Ls F (Z j 0) λl=>Ix l a λm=>Lr F 4 (nR m (nT a*4)) λn=>Nb F (Y (#[U 0,U 0,.string ⟨#[]⟩,tS I 0 0]) 137) λf F=>aA F (Z f 0) 4 n λF=>Li F (Z f 0) λo=>Bc (0<=o) (nC w e u j v c a b R F) (Ls F (Z f 3) λp=>Cu 57 #[(Pp c),nE p] F λF=>Ls F (Z c 10) λg=>Lx F (Z f 2) λq=>Li F (Z f 1) λr=>Ca 58 #[(Pp c),pe q,(U r)] F λh F=>F.cell (Z c 10)=V (nE g)/\h.size=5/\Nb F (Y h 140) λx F=>Ap 87 #[nE g,nE (Sb x 1)] F λs F=>qW F (Z c 10) (nE s) λF=>Nb F (Y #[(U a)] 3) λy F=>Ap 76 #[nE b,nE (Sb y 1)] F λd F=>Bc ((d.len:Int)<=(e.len:Int)) (Ix e (i64.wrap ((d.len:Int) - 1)) λt=>∃i,F.cell (nR t (nT (i64.wrap ((d.len:Int) - 1))*1))=V (ru .u8 i)/\vI w e u j v c d a (decide ((sq i 2)=0)) R F) (vI w e u j v c d a mz R F))) (A4 u j v c R F)
def UB (e f:Γ) (g:Sl) (R:VR) (F:PH):Prop:=Nb F (Y e 39) λj F=>Nb F (Y f 94) λk F=>Nb F (Y (#[tS I 0 0,.slice I 0 0,U 0,U 0]) 89) λl F=>Lr F 9 (Z j 0) λb=>b.size=9/\Nb F (Y (wr (#[tS I 0 0,.slice I 0 0,U 0,.slice I 0 0,.slice I 0 0,.slice I 0 0,U 0,.slice I 0 0,.slice I 0 0,.string ⟨#[]⟩,tS I 0 0,.slice I 0 0,U 0,U 0]:Γ) 0 b.toList) 135) λh F=>(∃(i:Nat->Sl->Ω) (d:Nat),i d pi 0 F/\∀d a c F,i d a c F-> A5 (VL i d) g j k l h R a c F)
theorem qgY {a:Γ} {b:Γ} {c:Sl} (h:UB a b c R F):ν 28 #[nL a,nL b,nE c] F R:=Rx.Λ (.qa8 (.qa8 (.qa8 (.J mz [] (.qa8 (.L [(10,.sl),(11,.int .i64)] (.qa8 (.J mz [(10,.sl)] (.qa8 (.qa8 (.qa8 (.qa8 (.qa8 (.qa8 (.J mz [(77,.bool)] .N .N))))))) .N)))) (.qa8 (.qa8 (.qa8 (.qa8 (.qa8 (.J mz [(14,.sl)] (.qa8 (.L [(14,.sl),(15,.int .i64),(16,.int .i64)] (.qa8 (.J mz [(14,.sl),(15,.int .i64)] (.qa8 (.J mz [(15,.int .i64)] (.qa8 (.qa8 (.qa8 (.J mz [(18,.int .i64)] (.qa8 (.L [(18,.int .i64),(19,.int .i64)] (.qa8 (.J mz [(18,.int .i64)] .N .N)))) .N)))) .N)) .N)))) .N)))))))))) h
def vJ (i j k:Nat) (e:Int) (h:Θ) (f:Bool) (R:VR) (F:PH):Prop:=Lr F 9 (Z k 0) λg=>∃a,h=V a/\Lr F 2 a λd=>aA F (Z i 0) 9 g λF=>F.row a d/\aA F (Z j 0) 2 d λF=>Lr F 9 (Z i 0) λb=>Lr F 2 (Z j 0) λc=>R (pk #[nL b,ru .u64 e,nL c,nS f]) F
def UC (m:Γ) (R:VR) (F:PH):Prop:=Nb F (Y m 28) λg F=>Nb F (Y zG 39) λr F=>Nb F (Y (#[tS I 0 0,.slice I 0 0]) 94) λs F=>Lr F 5 (Z g 0) λn=>Ca 64 #[nL n] F λo F=>Nb F (Y zG 39) λl F=>aA F (Z l 0) 9 o λF=>Lr F 9 (Z l 0) λp=>Lk F .u8 (Z g 5) λq=>ν 65 #[nL p,ru .u8 q] F λv F=>∃c,v=(ru .u64 c)/\Lr F 9 (Z l 0) λh=>Li F (Z l 6) λi=>Ls F (Z g 6) λa=>Ls F (Z g 6) λb=>0<=(min (b.len:Int) 40)/\0<=(nT (min (b.len:Int) 40))/\(nT (min (b.len:Int) 40))<=a.cap/\((ν 44 #[nL h,ru .u64 c,(U i),nE (Sl.cut a 1 0 (nT (min (b.len:Int) 40)) a.cap)] F λv F=>∃j,∃d,v=(pk #[nL j,nS d])/\F.cell (Z g 6)=V (nE b)/\F.cell (Z g 6)=V (nE a)/\Nb F (Y (#[tS I 0 0,.slice I 0 0]) 94) λt F=>aA F (Z t 0) 2 j λF=>vJ r s l c (V (Z t 0)) d R F)/\(Nb F (Y (#[tS I 0 0,.slice I 0 0]) 94) λk F=>ν 44 #[nL h,ru .u64 c,(U i),nE (Sl.cut a 1 0 (nT (min (b.len:Int) 40)) a.cap)] F λv F=>∃e,∃f,v=(pk #[nL e,nS f])/\F.cell (Z g 6)=V (nE b)/\F.cell (Z g 6)=V (nE a)/\aA F (Z k 0) 2 e λF=>vJ r s l c (V (Z k 0)) f R F))
theorem qgZ {a:Γ} (h:UC a R F):ν 30 #[nL a] F R:=Rx.Λ (.qa8 (.qa8 (.qa8 (.J mz [(8,.ptr),(9,.bool)] .N .N)))) h
def UD (q:Γ) (g a:Int) (r:Sl) (R:VR) (F:PH):Prop:=Nb F (Y q 39) λs F=>Nb F (Y (#[tS I 0 0,.slice I 0 0]) 94) λp F=>Lr F 9 (Z s 0) λc=>Lr F 9 (Z s 0) λh=>Cs 72 #[nL h,ru .u64 g] F λi F=>F.row (Z s 0) c/\c.size=9/\Nb F (Y (rV (rV (rV (wr (#[tS I 0 0,.slice I 0 0,U 0,.slice I 0 0,.slice I 0 0,.slice I 0 0,U 0,.slice I 0 0,.slice I 0 0,.int .u64 0,.slice I 0 0,U 0,.slice I 0 0,.slice I 0 0]:Γ) 0 c.toList) 9 (ru .u64 g)) 10 (nE r)) 12 (nE i)) 158) λd F=>Ls F (Z d 12) λj=>Ix j a λk=>Li F (nR k (nT a*1)) λl=>Bc (1000<=l) (aA F (Z p 0) 2 (#[tS I 0 0,.slice I 0 0]:Γ) λF=>Lr F 2 (Z p 0) λe=>R (pk #[nL e,nS mz]) F) (Cu 73 #[(Pp d),nL (#[nS mz,(U a)]:Γ)] F λF=>Ls F (Z d 13) λm=>Nb F (Y (#[tS I 0 0,.slice I 0 0]) 94) λf F=>aA F (Z f 0) 2 (#[nE m,tS I 0 0]:Γ) λF=>Cs 74 #[(Pp d)] F λn F=>qW F (Z f 1) (nE n) λF=>Lr F 2 (Z f 0) λo=>aA F (Z p 0) 2 o λF=>Lr F 2 (Z p 0) λb=>R (pk #[nL b,nS mY]) F)
theorem qg0 {b:Γ} {c:Int} {a:Int} {d:Sl} (h:UD b c a d R F):ν 44 #[nL b,ru .u64 c,(U a),nE d] F R:=Rx.Λ .N h
def vK (b:Ω) (_:Θ) (_:Sl) (a:Int) (_:VR) (F:PH):Prop:=b (i64.wrap (a+1)) F
def rj (m n:Ω) (a:Addr) (f:Sl) (e g:Int) (h:Bool) (R:VR) (F:PH):Prop:=Bb (h) (Ls F (nR (nR a 10) 1) λb=>Ix f e λi=>Lx F (nR i (nT e*1)) λj=>Ca 58 #[ph (V a),pe j,(U g)] F λc F=>F.cell (nR (nR a 10) 1)=V (nE b)/\c.size=5/\Nb F (Y c 140) λl F=>Ap 87 #[nE b,nE (Sb l 1)] F λk F=>qW F (nR (nR a 10) 1) (nE k) λF=>Lx F (nR a 9) λd=>d.size+(ByteArray.mk #[10]).size<=9223372036854775807/\qW F (nR a 9) (pe (d++(ByteArray.mk #[10]))) λF=>vK m (V a) f e R F) (n (i64.wrap (g+1)) F)
def A6 (o q:Ω) (p:Θ) (d:Sl) (c:Int) (R:VR) (b:Int) (F:PH):Prop:=∃a,p=V a/\Ls F (nR a 3) λi=>Bc (b<(i.len:Int)) (Ls F (nR a 3) λe=>Ix e b λf=>Li F (nR (nR f (nT b*7)) 1) λg=>Bc (g=2) (Ls F (nR a 3) λh=>Ix h b λj=>Lr F 7 (nR j (nT b*7)) λk=>Ix d c λl=>Lx F (nR l (nT c*1)) λm=>ud 88 #[nL k,pe m] F λn F=>F.cell (nR a 3)=V (nE h)/\F.cell (nR (nR f (nT b*7)) 1)=V (U g)/\F.cell (nR a 3)=V (nE e)/\rj o q a d c b n R F) (rj o q a d c b mz R F)) (vK o (V a) d c R F)
def A7 (g:Ω) (e:Θ) (a:Sl) (R:VR) (b:Int) (F:PH):Prop:=Bc (b<(a.len:Int)) ((∃(f:Nat->Ω) (d:Nat),f d 0 F/\∀d c F,f d c F-> A6 g (Xg f d) e a b R c F)) (R (pk #[]) F)
def UE (a:Θ) (b:Sl) (R:VR) (F:PH):Prop:=Lp 0 F λN c F=>A7 N a b R c F
theorem qg1 {a:Θ} {b:Sl} (h:UE a b R F):ν 57 #[ph a,nE b] F R:=Rx.Λ (.qa8 (.L [(4,.int .i64)] (.qa8 (.J mz [(0,.ptr)] (.qa8 (.L [(5,.int .i64)] (.qa8 (.T (.J mz [(46,.bool)] .N .N) .N)))) .N)))) h
def vL (f:Θ) (d:ο) (h:Nat) (g:Θ) (R:VR) (F:PH):Prop:=∃a,f=V a/\Lx F (nR a 9) λb=>b.size+d.size<=9223372036854775807/\qW F (nR a 9) (pe (b++d)) λF=>∃c,g=V c/\Lr F 5 c λe=>aA F (Z h 0) 5 e λF=>Rr 5 (Z h 0) R F
def UF (j:Θ) (e:ο) (c:Int) (R:VR) (F:PH):Prop:=Nb F (Y (#[U 0,U 0,U 0,.bool mz,.slice I 0 0]) 140) λl F=>ν 89 #[ph j] F λv F=>∃d,∃b,v=(pk #[(U d),nS b])/\∃a,j=V a/\Lx F (nR a 9) λf=>Lx F (nR a 9) λg=>((Nb F (Y #[(U c)] 3) λk F=>Nb F (Y (#[U 0,U 0,U 0,.bool mz,.slice I 0 0]) 140) λm F=>aA F (Z m 0) 5 (#[(U (f.size:Int)),(U (i64.wrap ((g.size:Int)+(e.size:Int)))),(U d),nS b,nE (Sb k 1)]:Γ) λF=>vL (V a) e l (V (Z m 0)) R F)/\(Nb F (Y (#[U 0,U 0,U 0,.bool mz,.slice I 0 0]) 140) λh F=>Nb F (Y #[(U c)] 3) λi F=>aA F (Z h 0) 5 (#[(U (f.size:Int)),(U (i64.wrap ((g.size:Int)+(e.size:Int)))),(U d),nS b,nE (Sb i 1)]:Γ) λF=>vL (V a) e l (V (Z h 0)) R F))
theorem qg2 {b:Θ} {c:ο} {a:Int} (h:UF b c a R F):ν 58 #[ph b,pe c,(U a)] F R:=Rx.Λ (.qa8 (.qa8 (.J mz [(0,.ptr),(9,.ptr)] .N .N))) h
def Ie (a:Int) (R:VR) (F:PH):Prop:=R (U a) F
def A8 (o:Int->Ω) (h:Sl) (n:Nat) (c:Sl) (R:VR) (a b:Int) (F:PH):Prop:=Bc (b<(c.len:Int)) (Lr F 9 (Z n 0) λi=>Ci 59 #[nL i,nE h,(U a)] F λd F=>Bc (d<0) (R (U (-1:Int)) F) (Lr F 9 (Z n 0) λj=>Ix h a λk=>Lr F 4 (nR k (nT a*4)) λl=>Ix c b λe=>Lr F 2 (nR e (nT b*2)) λf=>Ca 91 #[nL j,nL l] F λm F=>F.row (nR e (nT b*2)) f/\∃g,(∀F,pn prog (Op.equal 130 (nL m) (nL f)) F g)/\Bb ((!g)) (R (U (-1:Int)) F) (o d (i64.wrap (b+1)) F))) (Ie a R F)
def RR (q:Γ) (c:Sl) (a:Int) (R:VR) (F:PH):Prop:=Nb F (Y q 39) λr F=>Bc ((c.len:Int)<=a) (R (U (-1:Int)) F) (Lr F 9 (Z r 0) λe=>Ix c a λf=>Lr F 4 (nR f (nT a*4)) λg=>ud 90 #[nL e,nL g] F λh F=>Bb ((!h)) (R (U (-1:Int)) F) (Ix c a λi=>Li F (nR i (nT a*4)) λj=>Bc (j<0) (R (U (i64.wrap (a+1))) F) (Ls F (Z r 5) λk=>Ix c a λl=>Li F (nR l (nT a*4)) λd=>Ix k d λm=>Ls F (nR (nR m (nT d*13)) 2) λn=>(∃(s:Nat->Int->Ω) (p:Nat),s p (i64.wrap (a+1)) 0 F/\∀p b o F,s p b o F-> A8 (VL s p) c r n R b o F))))
theorem UG {a:Γ} {b:Sl} {c:Int} (h:RR a b c R F):ν 59 #[nL a,nE b,(U c)] F R:=Rx.Λ (.qa8 (.qa8 (.qa8 (.qa8 (.qa8 (.J mz [(7,.int .i64)] (.qa8 (.L [(7,.int .i64),(9,.int .i64)] .N)) .N)))))) h
def UH (f:Γ) (a:Int) (R:VR) (F:PH):Prop:=Nb F (Y f 89) λg F=>Ls F (Z g 0) λh=>Bc (a<(h.len:Int)) (Ls F (Z g 0) λb=>Ix b a λc=>Li F (nR c (nT a*5)) λd=>R (U d) F) (Li F (Z g 2) λe=>R (U e) F)
theorem qg3 {a:Γ} {b:Int} (h:UH a b R F):ν 60 #[nL a,(U b)] F R:=Rx.Λ .N h
def If (c:Int) (a:Sl) (R:VR) (F:PH):Prop:=(a.len:Int)≠0/\Ix a (sq (i64.wrap c) (a.len:Int)) λd=>∃b,F.cell (nR d (nT (sq (i64.wrap c) (a.len:Int))*1))=V (ru .u64 b)/\R (ru .u64 b) F
def vM (c:Sl->Ω) (_:Int) (_:Nat) (b:Int) (a:Sl) (_:VR) (F:PH):Prop:=c a (u64.wrap (b+1)) F
def A9 (i:Sl->Ω) (c:Int) (g:Nat) (R:VR) (a:Sl) (b:Int) (F:PH):Prop:=Bc (b<8) (Lr F 9 (Z g 0) λd=>ud 96 #[nL d,ru .u64 b] F λe F=>Bb (e) (Nb F (Y #[ru .u64 b] 41) λh F=>Ap 195 #[nE a,nE (Sb h 1)] F λf F=>vM i c g b f R F) (vM i c g b a R F)) (If c a R F)
def UI (d:Γ) (e:Int) (R:VR) (F:PH):Prop:=Nb F (Y d 39) λg F=>(∃(f:Nat->Sl->Ω) (c:Nat),f c pi 0 F/\∀c a b F,f c a b F-> A9 (VL f c) e g R a b F)
theorem qg4 {a:Γ} {b:Int} (h:UI a b R F):ν 65 #[nL a,ru .u8 b] F R:=Rx.Λ (.qa8 (.qa8 (.J mz [(5,.sl)] (.qa8 (.L [(5,.sl),(6,.int .u64)] (.qa8 (.J mz [(5,.sl)] .N .N)))) .N))) h
def Ig (a:Sl) (R:VR) (F:PH):Prop:=R (nE a) F
def Ih (c:Ω) (_:Int) (_:Nat) (_:Sl) (a:Int) (_:VR) (F:PH):Prop:=c (i64.wrap (a+1)) F
def Ba (o p:Ω) (g:Int) (n:Nat) (b:Sl) (c:Int) (R:VR) (d:Int) (F:PH):Prop:=Ls F (Z n 5) λh=>Bc (d<(h.len:Int)) (Ls F (Z n 5) λi=>Ix i d λj=>Li F (nR (nR j (nT d*13)) 1) λa=>Ix b a λe=>Li F (nR e (nT a*1)) λf=>Lr F 9 (Z n 0) λk=>Ci 100 #[nL k,ru .u64 g,(U d),nE b] F λl F=>F.cell (nR e (nT a*1))=V (U f)/\Ix b a λm=>qW F (nR m (nT a*1)) (U (min f l)) λF=>p (i64.wrap (d+1)) F) (Ih o g n b c R F)
def Be (g:Ω) (e:Int) (h:Nat) (b:Sl) (R:VR) (a:Int) (F:PH):Prop:=Bc (a<(i64.wrap ((b.len:Int)+1))) ((∃(f:Nat->Ω) (d:Nat),f d 0 F/\∀d c F,f d c F-> Ba g (Xg f d) e h b a R c F)) (Ig b R F)
def Ii (c:Int) (d:Nat) (b:Sl) (R:VR) (F:PH):Prop:=Lp 0 F λN a F=>Be N c d b R a F
def Bf (e:Ω) (d:Int) (f:Nat) (a:Sl) (R:VR) (b:Int) (F:PH):Prop:=Bc (b<(a.len:Int)) (Ix a b λc=>qW F (nR c (nT b*1)) (U 1000) λF=>e (i64.wrap (b+1)) F) (Ii d f a R F)
def UJ (c:Γ) (d:Int) (R:VR) (F:PH):Prop:=Nb F (Y c 39) λf F=>Ls F (Z f 4) λa=>aG prog (Instr.makeSlice 76 (U (a.len:Int)) (U (a.len:Int))) F λv F=>∃b,v=(nE b)/\Lp 0 F λN e F=>Bf N d f b R e F
theorem qgf {a:Γ} {b:Int} (h:UJ a b R F):ν 72 #[nL a,ru .u64 b] F R:=Rx.Λ (.qa8 (.qa8 (.J mz [] (.qa8 (.L [(6,.int .i64)] .N)) (.J mz [] (.qa8 (.L [(7,.int .i64)] (.qa8 (.J mz [] (.qa8 (.L [(8,.int .i64)] .N)) .N)))) .N)))) h
def rk (a:Addr) (g:Nat) (R:VR) (F:PH):Prop:=Cs 74 #[ph (V a)] F λc F=>qW F (Z g 3) (nE c) λF=>Ls F (nR a 13) λd=>Lr F 4 (Z g 0) λb=>b.size=4/\Nb F (Y b 137) λf F=>Ap 92 #[nE d,nE (Sb f 1)] F λe F=>qW F (nR a 13) (nE e) λF=>R (pk #[]) F
def Bg (l:Ω) (a:Addr) (b:Int) (R:VR) (c:Int) (F:PH):Prop:=Ls F (nR a 5) λd=>Ix d b λe=>Ls F (nR (nR e (nT b*13)) 2) λf=>Bc (c<(f.len:Int)) (Ls F (nR a 5) λg=>Ix g b λh=>Ls F (nR (nR h (nT b*13)) 2) λi=>Ix i c λj=>Lr F 2 (nR j (nT c*2)) λk=>Cu 73 #[ph (V a),nL k] F λF=>l (i64.wrap (c+1)) F) (R (pk #[]) F)
def RU (g:Θ) (y:Γ) (R:VR) (F:PH):Prop:=Nb F (Y y 130) λx F=>Lb F (Z x 0) λi=>Bb (i) (∃b,g=V b/\Ls F (nR b 3) λj=>Li F (Z x 1) λd=>Ix j d λk=>Lr F 7 (nR k (nT d*7)) λl=>Nb F (Y zT 166) λm F=>aA F (Z m 0) 7 l λF=>Li F (Z x 1) λn=>Lx F (Z m 2) λo=>Nb F (Y (#[U 0,U 0,.string ⟨#[]⟩,tS I 0 0]) 137) λh F=>aA F (Z h 0) 4 (#[(U (-1:Int)),(U n),pe o,tS I 0 0]:Γ) λF=>Lx F (Z m 2) λp=>Bb ((p.toList==(ByteArray.mk #[]).toList)) (Lx F (Z m 4) λq=>qW F (Z h 2) (pe q) λF=>Ci 101 #[ph (V b),(U 6)] F λe F=>Nb F (Y #[pe ⟨#[120]⟩,pe ⟨#[121]⟩,pe ⟨#[97,98]⟩,pe ⟨#[105,102]⟩,pe ⟨#[122]⟩,pe ⟨#[101,108,115,101]⟩] 9) λz F=>Ix (Sb z 6) e λr=>Lx F (nR r (nT e*1)) λf=>Lr F 7 (Z m 0) λs=>ud 88 #[nL s,pe f] F λt F=>Bb (t) (qW F (Z h 2) (pe f) λF=>rk b h R F) (rk b h R F)) (rk b h R F)) (Li F (Z x 1) λu=>Ci 102 #[ph g,(U u)] F λc F=>∃a,g=V a/\Ls F (nR a 13) λv=>(#[(U c),(U (-1:Int)),pe ⟨#[]⟩,tS I 0 0]:Γ).size=4/\Nb F (Y (#[(U c),(U (-1:Int)),pe ⟨#[]⟩,tS I 0 0]:Γ) 137) λA F=>Ap 92 #[nE v,nE (Sb A 1)] F λw F=>qW F (nR a 13) (nE w) λF=>Lp 0 F λN B F=>Bg N a c R B F)
theorem UK {a:Θ} {b:Γ} (h:RU a b R F):ν 73 #[ph a,nL b] F R:=Rx.Λ (.qa8 (.T (.qa8 (.T (.qa8 (.qa8 (.J mz [] .N .N))) .N)) (.qa8 (.qa8 (.qa8 (.L [(9,.int .i64)] .N)))))) h
def Ij (a:Sl) (R:VR) (F:PH):Prop:=R (nE a) F
def vN (c:Sl->Ω) (_:Θ) (b:Int) (a:Sl) (_:VR) (F:PH):Prop:=c a (i64.wrap (b - 1)) F
def Ik (n:Sl->Ω) (f:Θ) (R:VR) (a:Sl) (e:Int) (F:PH):Prop:=Bc (9<e) (Nb F (Y #[pe ⟨#[37]⟩,pe ⟨#[37,97]⟩,pe ⟨#[37,98,32,99]⟩] 9) λl F=>Ci 101 #[ph f,(U 3)] F λc F=>Ix (Sb l 3) c λg=>Lx F (nR g (nT c*1)) λd=>∃b,f=V b/\Lr F 9 b λh=>Lk F .u64 (nR b 9) λi=>ud 103 #[nL h,ru .u64 i,pe d] F λj F=>Bb (j) (Nb F (Y #[pe d] 9) λm F=>Ap 30 #[nE a,nE (Sb m 1)] F λk F=>vN n (V b) e k R F) (vN n (V b) e a R F)) (Ij a R F)
def UL (b:Θ) (R:VR) (F:PH):Prop:=Ci 101 #[ph b,(U 12)] F λe F=>(∃(f:Nat->Sl->Ω) (d:Nat),f d pi e F/\∀d a c F,f d a c F-> Ik (VL f d) b R a c F)
theorem qgg {a:Θ} (h:UL a R F):ν 74 #[ph a] F R:=Rx.Λ (.qa8 (.qa8 (.J mz [(3,.sl)] (.qa8 (.L [(3,.sl),(4,.int .i64)] (.qa8 (.J mz [(0,.ptr),(3,.sl)] .N .N)))) .N))) h
def UM (e:Γ) (a:ο) (R:VR) (F:PH):Prop:=Nb F (Y e 166) λf F=>Lx F (Z f 2) λg=>Bb ((!(g.toList==(ByteArray.mk #[]).toList))) (Lx F (Z f 2) λb=>R (nS (a.toList==b.toList)) F) (Ls F (Z f 3) λc=>ud 121 #[nE c,pe a] F λd F=>R (nS d) F)
theorem qgh {a:Γ} {b:ο} (h:UM a b R F):ν 88 #[nL a,pe b] F R:=Rx.Λ .N h
def Il (b:Int) (a:Bool) (R:VR) (F:PH):Prop:=R (pk #[(U b),nS a]) F
def rn (e:Int->Bool->Ω) (_:Addr) (c b:Int) (a:Bool) (_:VR) (F:PH):Prop:=e b a (i64.wrap (c - 1)) F
def Bi (k:Int->Bool->Ω) (d:Addr) (R:VR) (c:Int) (b:Bool) (a:Int) (F:PH):Prop:=Bc (0<=a) (Lx F (nR d 9) λe=>0<=a/\a<(e.size:Int)/\∃(hx:nT a<e.size) (h:Int),h=((e[nT a]'hx).toNat:Int)/\Bc (h≠10) (Bb (b) (Lx F (nR d 9) λf=>0<=a/\a<(f.size:Int)/\∃(hx:nT a<f.size) (i:Int),i=((f[nT a]'hx).toNat:Int)/\Bc (i=32) (rn k d a (i64.wrap (c+1)) mY R F) (Lx F (nR d 9) λg=>0<=a/\a<(g.size:Int)/\∃(hx:nT a<g.size) (j:Int),j=((g[nT a]'hx).toNat:Int)/\rn k d a (i64.wrap (c+1)) (decide (j=9)) R F)) (rn k d a (i64.wrap (c+1)) mz R F)) (Il c b R F)) (Il c b R F)
def UN (g:Θ) (R:VR) (F:PH):Prop:=∃b,g=V b/\Lx F (nR b 9) λd=>(∃(h:Nat->Int->Bool->Ω) (f:Nat),h f 0 mY (i64.wrap ((d.size:Int) - 1)) F/\∀f c a e F,h f c a e F-> Bi (Zx h f) b R c a e F)
theorem qgi {a:Θ} (h:UN a R F):ν 89 #[ph a] F R:=Rx.Λ (.qa8 (.qa8 (.qa8 (.J mz [(4,.int .i64),(5,.bool)] (.qa8 (.L [(4,.int .i64),(5,.bool),(6,.int .i64)] (.qa8 (.J mz [(4,.int .i64),(5,.bool)] .N .N)))) .N)))) h
def UO (j k:Γ) (R:VR) (F:PH):Prop:=Nb F (Y j 39) λn F=>Nb F (Y k 137) λa F=>Li F (Z a 0) λl=>Bc (l=(-1:Int)) (Li F (Z a 1) λm=>Bc (0<=m) (Li F (Z a 1) λb=>Ls F (Z n 3) λc=>R (nS (decide (b<(c.len:Int)))) F) (R (nS mz) F)) (Li F (Z a 0) λd=>Bc (0<=d) (Li F (Z a 0) λe=>Ls F (Z n 5) λf=>Bc (e<(f.len:Int)) (Li F (Z a 1) λg=>Bc (g=(-1:Int)) (Lx F (Z a 2) λh=>Bb ((h.toList==(ByteArray.mk #[]).toList)) (Ls F (Z a 3) λi=>R (nS (decide ((i.len:Int)=0))) F) (R (nS mz) F)) (R (nS mz) F)) (R (nS mz) F)) (R (nS mz) F))
theorem qgj {a:Γ} {b:Γ} (h:UO a b R F):ν 90 #[nL a,nL b] F R:=Rx.Λ .N h
def UP (f g:Γ) (R:VR) (F:PH):Prop:=Nb F (Y f 39) λk F=>Nb F (Y g 137) λh F=>Nb F (Y (#[nS mz,U 0]) 130) λe F=>Li F (Z h 0) λi=>Bc (i=(-1:Int)) (Li F (Z h 1) λj=>aA F (Z e 0) 2 (#[nS mY,(U j)]:Γ) λF=>Rr 2 (Z e 0) R F) (Ls F (Z k 5) λb=>Li F (Z h 0) λa=>Ix b a λc=>Li F (nR (nR c (nT a*13)) 1) λd=>aA F (Z e 0) 2 (#[nS mz,(U d)]:Γ) λF=>Rr 2 (Z e 0) R F)
theorem qgk {a:Γ} {b:Γ} (h:UP a b R F):ν 91 #[nL a,nL b] F R:=Rx.Λ .N h
def Dk (a:Int) (R:VR) (F:PH):Prop:=R (U (min (i64.wrap (a+1)) 1000)) F
def pz (d:Int->Ω) (_ _:Sl) (b a:Int) (_:VR) (F:PH):Prop:=d a (i64.wrap (b+1)) F
def vO (k:Int->Ω) (e b:Sl) (R:VR) (c a:Int) (F:PH):Prop:=Bc (a<(b.len:Int)) (Ix b a λf=>Lb F (nR f (nT a*2)) λg=>Bb ((!g)) (Ix b a λh=>Li F (nR (nR h (nT a*2)) 1) λd=>Ix e d λi=>Li F (nR i (nT d*1)) λj=>pz k e b a (max c j) R F) (pz k e b a c R F)) (Dk c R F)
def Ow (j:Γ) (k c:Int) (l:Sl) (R:VR) (F:PH):Prop:=Nb F (Y j 39) λn F=>Lr F 9 (Z n 0) λd=>ud 138 #[nL d,ru .u64 k,(U c)] F λe F=>Bb ((!e)) (R (U 1000) F) (Ls F (Z n 5) λf=>Ix f c λg=>Ls F (nR (nR g (nT c*13)) 2) λh=>(∃(m:Nat->Int->Ω) (i:Nat),m i 0 0 F/\∀i a b F,m i a b F-> vO (VL m i) l h R a b F))
theorem qcO {a:Γ} {b:Int} {c:Int} {d:Sl} (h:Ow a b c d R F):ν 100 #[nL a,ru .u64 b,(U c),nE d] F R:=Rx.Λ (.qa8 (.qa8 (.qa8 (.qa8 (.J mz [(9,.int .i64)] (.qa8 (.L [(9,.int .i64),(11,.int .i64)] (.qa8 (.J mz [(9,.int .i64)] .N .N)))) .N))))) h
def Ox (i:Θ) (d:Int) (R:VR) (F:PH):Prop:=∃a,i=V a/\Li F (nR a 11) λj=>Ls F (nR a 10) λe=>Bc ((e.len:Int)<=j) (R (U 0) F) (Bc (d<1) (R (U 0) F) (Li F (nR a 11) λf=>qW F (nR a 11) (U (i64.wrap (f+1))) λF=>Ls F (nR a 10) λg=>Li F (nR a 11) λb=>Ix g (i64.wrap (b - 1)) λh=>∃c,F.cell (nR h (nT (i64.wrap (b - 1))*1))=V (ru .u8 c)/\d≠0/\R (U (sq (i64.wrap c) d)) F))
theorem qcP {a:Θ} {b:Int} (h:Ox a b R F):ν 101 #[ph a,(U b)] F R:=Rx.Λ .N h
def Dl (j:Θ) (c:Sl) (b:Int) (R:VR) (F:PH):Prop:=∃a,j=V a/\Li F (nR a 11) λe=>Ls F (nR a 10) λf=>Bc ((f.len:Int)<=e) (R (U b) F) (Ls F (nR a 13) λg=>Bc ((40:Int)<(g.len:Int)) (R (U b) F) (Ci 101 #[ph (V a),(U (c.len:Int))] F λd F=>Ix c d λh=>Li F (nR h (nT d*1)) λi=>R (U i) F))
def jw (f:Sl->Int->Ω) (_:Addr) (_ e:Int) (b:Sl) (a:Int) (_:VR) (F:PH):Prop:=f b a (i64.wrap (e+1)) F
def Dm (h:Sl->Int->Ω) (s:Θ) (c:Int) (R:VR) (d:Sl) (b e:Int) (F:PH):Prop:=∃a,s=V a/\Ls F (nR a 5) λi=>Bc (e<(i.len:Int)) (Lr F 9 a λj=>Lk F .u64 (nR a 9) λk=>Ls F (nR a 12) λl=>Ci 100 #[nL j,ru .u64 k,(U e),nE l] F λg F=>Ls F (nR a 5) λm=>Ix m e λn=>Li F (nR (nR n (nT e*13)) 1) λo=>Bc (o≠c) (jw h a c e d b R F) (Bc (1000<=g) (jw h a c e d b R F) (Nb F (Y #[(U e)] 3) λt F=>Ap 76 #[nE d,nE (Sb t 1)] F λf F=>Ls F (nR a 12) λp=>Ix p c λq=>Li F (nR q (nT c*1)) λr=>Bc (g=r) (Bc (b<0) (jw h a c e f e R F) (jw h a c e f b R F)) (jw h a c e f b R F)))) (Dl (V a) d b R F)
def Oy (f:Θ) (c:Int) (R:VR) (F:PH):Prop:=(∃(g:Nat->Sl->Int->Ω) (e:Nat),g e pi (-1:Int) 0 F/\∀e b a d F,g e b a d F-> Dm (Zx g e) f c R b a d F)
theorem qcQ {b:Θ} {a:Int} (h:Oy b a R F):ν 102 #[ph b,(U a)] F R:=Rx.Λ (.qa8 (.qa8 (.qa8 (.J mz [(0,.ptr),(5,.sl),(6,.int .i64)] (.qa8 (.L [(5,.sl),(6,.int .i64),(7,.int .i64)] (.qa8 (.J mz [(5,.sl),(6,.int .i64)] .N .N)))) .N)))) h
def Mn (R:VR) (F:PH):Prop:=R (nS mz) F
def pC (b:Ω) (_:Int) (_:ο) (_:Nat) (a:Int) (_:VR) (F:PH):Prop:=b (i64.wrap (a+1)) F
def vP (n:Ω) (c:Int) (b:ο) (d:Nat) (R:VR) (a:Int) (F:PH):Prop:=Ls F (Z d 3) λe=>Bc (a<(e.len:Int)) (Ls F (Z d 3) λf=>Ix f a λg=>Lr F 7 (nR g (nT a*7)) λh=>Nb F (Y zT 166) λo F=>aA F (Z o 0) 7 h λF=>Li F (Z o 1) λi=>Bc (i=2) (Lr F 2 (Z o 5) λj=>ud 132 #[nL j,ru .u64 c] F λk F=>Bb (k) (Bb ((!(b.toList==(ByteArray.mk #[]).toList))) (Lr F 7 (Z o 0) λl=>ud 88 #[nL l,pe b] F λm F=>Bb (m) (R (nS mY) F) (pC n c b d a R F)) (pC n c b d a R F)) (pC n c b d a R F)) (pC n c b d a R F)) (Mn R F)
def Oz (a:Γ) (b:Int) (c:ο) (R:VR) (F:PH):Prop:=Nb F (Y a 39) λe F=>Lp 0 F λN d F=>vP N b c e R d F
theorem qcR {a:Γ} {b:Int} {c:ο} (h:Oz a b c R F):ν 103 #[nL a,ru .u64 b,pe c] F R:=Rx.Λ (.qa8 (.J mz [] (.qa8 (.L [(7,.int .i64)] (.qa8 (.J mz [] .N .N)))) .N)) h
def WR (g:Gr) (c:Int) (p:Nat):Bool:=(bI g p).ev (wo c)
def VJ (g:Gr) (p:Nat):Nat:=((g.qa0[p]?).map λx=>x.left.toNat).getD 0
def VB (g:Gr) (p:Nat):List Sy:=((g.qa0[p]?).map Pr.right).getD []
abbrev Vc (l:Δ):Φ:=l.map Int.ofNat
theorem Bj {l:Δ} {i:Nat} {x:Int} (h:(Vc l)[i]? =V x):x=((l.getD i 0:Nat):Int):=by rw [yc] at h;obtain ⟨y,g,rfl⟩:=Zd.1 h;rw [Q0,g];rfl
theorem Im {l:Δ} {r:List Sy} {k:Nat} {s:Sy} (h:r[k]? =V s) (n:Nat):Vi l n (r.take (k+1))=if s.t=mY then Vi l n (r.take k) else max (Vi l n (r.take k)) (l.getD s.i.toNat 0):=by rw [bo h,yx]
theorem Mo {l:Δ} (h:∀n,l.getD n 0<=1000) (r:List Sy):Vi l 0 r<=1000:=(nB l r 0).2 ⟨yv _,λ_ _ _=>h _⟩
theorem RV {pr:Nat->Bool} {rt:Nat->List Sy} {l:Δ} {p:Nat}:hgt pr rt l p<=1000:=by unfold hgt;split<;>omega
section
variable {F G:PH} {g:Gr} {k:Nat} {c:Int} {l:Δ}
theorem oB {v:Γ} {s:Sl} {p:Nat} {x:Pr} (hg:GV F v g) (hk:OkK g k) (hf:(uc g.fam).ev (wo c)=mY) (c0:0<=c) (c1:c<18446744073709551616) (L:g.qa0[p]? =V x) (hs:RL F s (Vc l)) (b3:l.length=g.qa1.length) (a5:∀n,l.getD n 0<=1000):
  ν 100 #[nL v,ru .u64 c,U p,s.v] F λr F'=>r=U (hgt (WR g c) (VB g) l p:Nat)/\F.le F':=by
 obtain ⟨o1,o2,o3,o4⟩:=dm hk.ok;have hp:p<g.qa0.length:=(N6.1 L).1;have hv:=hg.size;have a1:=hg;obtain ⟨cs,n,t,s0,ps,lv,f,rfl,O⟩:=hg;have ep:=O.p.len;have b9:=o4 x (vQ L);obtain ⟨_,_,_,b1⟩:=hk.prod (vQ L);have es:=hs.len;rw [ub] at es;have b7:s.len=l.length:=es;have b2:VB g p=x.right:=by unfold VB;rw [L];rfl
 refine qcO ?_;unfold Ow;refine (St.start F).newG λb4 G1 F1 l1 q4 _ h=> ?_;refine ⟨_,rfl,ai (h.le _ _ q4),?_⟩;refine h.runv (qht (a1.le l1) hk hf c0 c1 L) λG2 F2 l2 h=> ?_;refine ⟨_,rfl,λhn=> ?_,λhy=> ?_⟩
 ·refine ⟨?_,aa l1 (aa l2 h.le)⟩;unfold hgt;rw [Υ]
  ·rfl
  ·show ¬(bI g p).ev (wo c)=mY;simpa using hn
 ·have a4:(bI g p).ev (wo c)=mY:=by simpa using hy
  have K:=aa l1 l2;have a3:=O.le K;have a9:=l2 _ _ q4;refine ⟨ps,ld (h.le _ _ a9) rfl,?_⟩;refine t6 a3.p (by decide) (by omega) (by omega) λa cc x' P W hc=> ?_;rw [N4,L] at P;cases P;obtain ⟨r,n2,l9,rfl,hr,_⟩:=hc;have er:=hr.len;refine ⟨r,aM (aN h.le W) (i:=2) rfl,?_⟩;refine gx (vO · s r _) x.right.length (λj m F'=>m=((Vi l 0 (x.right.take j):Nat):Int)/\St G2 F' []) 0 ⟨by rw [Am];rfl,h⟩ ?_;rintro j m F3 N hj ⟨rfl,h⟩ next;unfold vO;refine ⟨λw=> ?_,λb5=> ?_⟩
  ·have w:j<x.right.length:=by omega
   have A:x.right[j]? =V x.right[j]:=N5 w;have e:=Im (l:=l) A 0;generalize x.right[j]=J at A e;obtain ⟨i0,i1,_⟩:=b1 J (vQ A);refine t6 hr (by decide) (by omega) (by omega) λb8 a0 a6 B E M=> ?_;rw [N4,A] at B;cases B;obtain rfl:a0=J.arr:=M;refine ⟨J.t,aE (aN h.le E) rfl,λH=> ?_,λH=> ?_⟩
   ·have H:J.t=mz:=by simpa using H
    rw [H,Υ (by decide)] at e;have i1:=i1 H;refine t6 hr (by decide) (by omega) (by omega) λc2 b0 a6 B C X=> ?_;rw [N4,A] at B;cases B;obtain rfl:b0=J.arr:=X;refine ⟨J.i,aM (aN h.le C) (i:=1) rfl,?_⟩;refine t6 (hs.le K) (by decide) i0 (by omega) λb6 a2 y a7 D Q=> ?_;obtain rfl:a2= #[U y]:=Q;have a8:=Bj a7;refine ⟨y,aE (aN h.le D) rfl,?_⟩;unfold pz;rw [aC w];refine next _ _ w ⟨?_,h⟩;rw [e,a8];omega
   ·have H:J.t=mY:=by simpa using H
    rw [H,Χ rfl] at e;unfold pz;rw [aC w];exact next _ _ w ⟨by rw [e],h⟩
  ·have:j=x.right.length:=by omega
   subst this;unfold Dk;rw [wy];refine ⟨?_,aa K h.le⟩;have:=Mo a5 x.right;unfold hgt WR;rw [Χ a4,b2,aJ (by omega)];congr 1;omega
structure Hts (g:Gr) (c:Int) (l:Δ):Prop where
 hf:HF g.qa0.length g.qa1.length (WR g c) (VJ g) (VB g) l
 cap:∀n,l.getD n 0<=1000
theorem RW (A:OkK g k):∀p,p<g.qa0.length->∀s∈VB g p,s.t=mz->s.i.toNat<g.qa1.length:=λp w s h B=>by unfold VB at h;rw [N5 w] at h;obtain ⟨_,_,_,r⟩:=A.prod (U9 w);obtain ⟨a,b,_⟩:=r s h;have:=b B;omega
theorem yz {l:Δ} {N:Nat} (r:l.length=N) (h:∀n,n<N->l.getD n 0<=1000) (n:Nat):l.getD n 0<=1000:=by
 by_cases e:n<N
 ·exact h n e
 ·rw [Q0,VM (by omega)];decide
theorem qhE {v:Γ} (hg:GV F v g) (hk:OkK g k) (hN:g.qa1.length<900) (hf:(uc g.fam).ev (wo c)=mY) (c0:0<=c) (c1:c<18446744073709551616):
  ν 72 #[nL v,ru .u64 c] F λr A=>∃s l,r=nE s/\RL A s (Vc l)/\Hts g c l/\F.le A:=by
 obtain ⟨o1,o2,o3,o4⟩:=dm hk.ok;have hv:=hg.size;have b4:=hg;obtain ⟨cs,n,t,L,ps,lv,f,rfl,O⟩:=hg;have ep:=O.p.len;have en:=O.s.len;generalize eN:g.qa1.length=N at*;generalize eP:g.qa0.length=P at*;refine qgf ?_;unfold UJ;refine (St.start F).newG λb2 G1 F1 l1 q2 _ h=> ?_;refine ⟨L,ld (h.le _ _ q2) rfl,?_⟩;refine bT sG.ht sG.hsz sG.hz sG.hzs (by omega) (Va _) (by omega) (by omega) ?_;intro b hb;have h:=Ya (h.new (K:=λb A=>St G1 A [pt b (Y (Builtin.zeroCells (ru .i64 0).cells (nT (L.len:Int))) 3)]) (λ_ _ h=>h) b hb);refine ⟨_,rfl,?_⟩;have h:=h.imp (A':=own (ua (V (ou b 0 I)) (nT (L.len:Int)) (nT (L.len:Int))) 3 1 ((Vc (List.replicate N 0)).map U)) 0 rfl λH _ hH=>by
  refine .inr ⟨b,_,rfl,hH,?_,qX _,?_,?_⟩
  ·simp [Builtin.zeroCells,Value.cells]
  ·simp;omega
  ·simp [Builtin.zeroCells,Value.cells,Nat.mod_one];rw [show (λ_:Nat=>ru .i64 0)=Function.const Nat (ru .i64 0) from rfl,List.map_const,V4,List.take_replicate,Nat.min_self,en]
 generalize hv:ua (V (ou b 0 I)) (nT (L.len:Int)) (nT (L.len:Int))=o at*;have w:o.qa5=V (ou b 0 I):=by rw [<- hv]
 have b6:o.len=N:=by rw [<- hv];show nT (L.len:Int)=N;omega
 clear hv hb;have J:∀(l:Δ) (i x:Nat),((Vc l).map U).set i (U (x:Int))=(Vc (l.set i x)).map U:=λl i x=>by show _=((l.set i x).map Int.ofNat).map U;rw [List.map_set,List.map_set];rfl
 refine bC (λN' x F=>Bf N' c b2 o _ x F) N (λj A=>∃l:Δ,l.length=N/\l.take j=List.replicate j 1000/\St G1 A [own o 3 1 ((Vc l).map U)]) ⟨_,Xx,by rw [Am];rfl,h⟩ ?_;rintro j F2 Nx hj ⟨l,hl,a0,h⟩ next;unfold Bf;refine ⟨λX=>⟨_,w,by omega,by omega,?_⟩,λc2=> ?_⟩
 ·have X:j<N:=by omega
  rw [N4,xB];refine h.ownPut 0 rfl w (by rw [ub,ub];omega) λF3 h=> ?_;rw [aC X];have h:St G1 F3 [own o 3 1 (((Vc l).map U).set j (U ((1000:Nat):Int)))]:=h;rw [J] at h;refine next _ X ⟨l.set j 1000,by rw [Yn];exact hl,?_,h⟩;rw [bo (X0 (by omega)),List.take_set_of_le (qX _),a0,List.replicate_succ']
 ·have:j=N:=by omega
  subst this;rw [<- hl,wy,hl] at a0;subst a0;unfold Ii;have a8:∀p,p<P->∀s∈VB g p,s.t=mz->s.i.toNat<j:=by rw [<- eP,<- eN];exact RW hk
  refine bC (λN' x F=>Be N' c b2 o _ x F) (j+1) (λr A=>∃(G':PH) (l:Δ),G1.le G'/\HIp P j (WR g c) (VJ g) (VB g) r 0 l/\St G' A [own o 3 1 ((Vc l).map U)]) ⟨G1,_,au _,HIp.init,h⟩ ?_;rintro r F3 b5 hr ⟨G3,l,l3,C,h⟩ a2;unfold Be;rw [b6,aJ (by omega)];refine ⟨λa1=> ?_,λb9=> ?_⟩
  ·have a1:r<j+1:=by omega
   refine bC (λN' x F=>Ba b5 N' c b2 o (r:Int) _ x F) P (λp A=>∃(G':PH) (l:Δ),G1.le G'/\HIp P j (WR g c) (VJ g) (VB g) r p l/\St G' A [own o 3 1 ((Vc l).map U)]) ⟨G3,l,l3,C,h⟩ ?_;rintro p F4 c3 hp ⟨G4,l,l4,C,h⟩ M;unfold Ba;have W:=l4 _ _ q2;have b0:=aa l1 l4;refine ⟨ps,ld (h.le _ _ W) rfl,λD=> ?_,λc4=> ?_⟩
   ·have D:p<P:=by omega
    have B:g.qa0[p]? =V g.qa0[p]:=N5 (by omega);generalize g.qa0[p]=x at B;obtain ⟨_,_,⟨a6,b1,_⟩,_⟩:=hk.prod (vQ B);have a6:0<=x.left:=a6;have Q:=b1 rfl;have Q:x.left<((g.qa1.length:Nat):Int):=Q;rw [eN] at Q;have b8:VJ g p=x.left.toNat:=by unfold VJ;rw [B];rfl
    have a3:=C.len;refine ⟨ps,ld (h.le _ _ W) rfl,?_⟩;refine t6 (O.p.le b0) (by decide) (by omega) (by omega) λa cc x' a5 a4 hc=> ?_;rw [N4,B] at a5;cases a5;obtain ⟨rr,n2,l9,rfl,_⟩:=hc;refine ⟨x.left,aM (aN h.le a4) (i:=1) rfl,⟨_,w,by omega,by omega,?_⟩⟩;have E:∀{A:PH},St G4 A [own o 3 1 ((Vc l).map U)]->A.cell ((ou b 0 I).add (x.left.toNat*1))=V (U ((l.getD x.left.toNat 0:Nat):Int)):=λh=>by have hr:=(h.ownAt (i:=0) rfl).1.rd;have:=hr.cell w (i:=x.left.toNat) (by rw [ub,ub];omega);rw [xB,this,Yl,Yl,Q0];have e:l[x.left.toNat]? =V l[x.left.toNat]:=N5 (by omega);rw [e];rfl
    refine ⟨_,E h,_,rfl,ai (h.le _ _ W),?_⟩;have b7:=RL.ints.2 (h.ownAt (i:=0) rfl).1.rd;have b3:=yz a3 C.cap;have hh:=RV (pr:=WR g c) (rt:=VB g) (l:=l) (p:=p);refine (oB (b4.le (aa b0 h.le)) hk hf c0 c1 B b7 (by omega) b3).mono ?_;rintro _ F5 ⟨rfl,l5⟩;have h:=h.up l5;refine ⟨_,rfl,E h,⟨_,w,by omega,by omega,?_⟩⟩;rw [xB];refine h.ownPut 0 rfl w (by rw [ub,ub];omega) λF6 h=> ?_;rw [aC D];have a7:=C.step (by omega) (by omega) (λs hs ht=>a8 p D s hs ht) (by omega);rw [b8] at a7;refine M _ D ⟨G4,_,l4,a7,?_⟩;rw [<- J,show U ((min (l.getD x.left.toNat 0) (hgt (WR g c) (VB g) l p):Nat):Int)=U (min ((l.getD x.left.toNat 0:Nat):Int) ((hgt (WR g c) (VB g) l p:Nat):Int)) by congr 1;omega];exact h
   ·have:p=P:=by omega
    subst this;unfold Ih;rw [aC a1];exact a2 _ a1 ⟨G4,l,l4,C.next,h⟩
  ·have:r=j+1:=by omega
   subst this;unfold Ig;obtain ⟨G5,l5,E,h⟩:=h.pinO;have a9:=C.final (by omega) a8;refine ⟨o,l,rfl,(RL.ints.2 E).le h.le,⟨?_,yz C.len C.cap⟩,aa l1 (aa l3 (aa l5 h.le))⟩;rw [eP,eN];exact a9
end
end
