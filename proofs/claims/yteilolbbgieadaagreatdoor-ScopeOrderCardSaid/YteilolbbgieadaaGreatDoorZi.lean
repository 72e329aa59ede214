/-
  The reference's terms: heights.
-/
import Derived.Test.YteilolbbgieadaaGreatDoorCc
import Derived.Maps.AppendAt
set_option maxRecDepth 10000
open Option renaming some->V,none->I
open Go.Obj renaming cells->Y
open Bool renaming false->mD,true->nk
open Go.Value renaming agg->nQ,bool->nW,int->rV,pointer->pk,string->ph,tuple->po,slice->tX
open Go.Addr renaming add->nV,mk->oB
open Int renaming toNat->nX,tmod->sj
open Array renaming setIfInBounds->tC
noncomputable section
namespace Go.Proofs.YteilolbbgieadaaGreatDoor
open Go.IntKind (i64 u8 u64)
open Sl renaming v->nI,nil->pm,mk->t7
open Go Go.Proofs.Tryz
structure GdG (g:Gr) (k:Nat):Prop where
 ok:OkK g k
 sz:Sz g
 nc:¬kW g
section
variable {F G:PH} {g:Gr} {k:Nat} {T:Dtr} {c:Int}
theorem ue {v:Γ} (B:Tab F) (C:GV F v g) (w:GdG g k):ν 47 #[nQ v] F λr E=>r=U 0/\F.le E:=
 (Bu B C w.sz w.ok).mono λ_ _ ⟨A,D⟩=>⟨A.elim (λh=>absurd h.1 w.nc) λh=>h.2,D⟩
theorem FG {t cs n tk s p l f:Sl} {b2 b3:Nat} (hf:dT g T) (hN:szN T<=2000000) (q3:F b3=V (Y #[t.v] 43)) (q2:F b2=V (Y (g.arr cs n tk s p l f) 39)) (hs:GS F g cs n tk s p l f) (ht:RL F t (vA T)):
  ν 82 #[nQ #[cs.v,n.v,U g.fam.2,tk.v,s.v,p.v,U g.start,l.v,f.v,U ((szN T:Nat):Int),.func (.func 81) #[] #[Pp b3,Pp b2]]] F λr W=>(∃s',r=nI s'/\RL W s' (UY T))/\F.le W:=by
 have b9:=eV T;refine qgs ?_;unfold Vs;refine (St.start F).newG λb1 G1 F1 l1 q1 _ h=> ?_;refine ⟨_,ld (h.le _ _ q1) rfl,λO=>absurd O (by omega),λ_=>⟨_,ld (h.le _ _ q1) rfl,λO=>absurd O (by omega),λ_=>⟨_,ld (h.le _ _ q1) rfl,?_⟩⟩⟩;refine bT underlying76 X6 X8 rfl (by omega) (Vd _) (by omega) (by omega) ?_;intro L a8;have h:=Yb (h.new (K:=λb W=>St G1 W [pt b (Y (Builtin.zeroCells (Value.int .i64 0).cells (nX ((szN T:Nat):Int))) 3)]) (λ_ _ h=>h) L a8);refine ⟨_,rfl,_,ld (h.le _ _ q1) rfl,?_⟩;have h:=h.imp (A':=own (t7 (V (oB L 0 I)) (nX ((szN T:Nat):Int)) (nX ((szN T:Nat):Int))) 3 1 ((List.replicate (szN T) (0:Int)).map U)) 0 rfl λH _ hH=>by
  refine .inr ⟨L,_,rfl,hH,?_,ru _,?_,?_⟩
  ·simp [Builtin.zeroCells,Value.cells]
  ·simp
  ·simp [Builtin.zeroCells,Value.cells,Nat.mod_one];rw [show (λ_:Nat=>rV .i64 0)=Function.const Nat (rV .i64 0) from rfl,List.map_const,WI,List.take_replicate,Nat.min_self]
 generalize b8:t7 (V (oB L 0 I)) (nX ((szN T:Nat):Int)) (nX ((szN T:Nat):Int))=M at*;have h:=h.push (A:=own pm 223 2 []) (H:=λ_=>I) (.inl ⟨rfl,rfl⟩) (λb hb=>absurd rfl hb) (λb o hb=>by cases hb) (au _);have a7:(VM 0 T).length=szN T:=jH 0 T;refine gA (λN x v F=>BL N b1 M ((szN T:Nat):Int) _ x v F) (szN T) (X9 g (vA T) (VM 0 T) (szN T) M G1 nk) pm ⟨G1,[],[],List.replicate (szN T) 0,au _,h,.nil,⟨rfl,yA _⟩,Xx,λq v hq=>by omega,by rw [Χ rfl],λ_ x B r he=>by cases he⟩ ?_;rintro j st F3 Nx hj hI next;obtain ⟨G',fs,vs,E,lG,J,hr,⟨hl,b0⟩,hE,hq,w,P⟩:=id hI;unfold BL;have C:=aa l1 lG;have X:=hs.le C;have a6:=lG _ _ q1;refine ⟨λQ=> ?_,λc3=> ?_⟩
 ·have Q:j<szN T:=by omega
  obtain ⟨c,D,b7,a0,a5,b5⟩:∃(c:Dtr) (D:List (Nat×List Dtr)),(vA T)[j]? =V c.root/\dT g c/\((fs=[]/\D=[])\/∃x B rest,fs=(x,c::B)::rest/\D=(x,B)::rest)/\WX g (vA T) (VM 0 T) (szN T) (j+1) ((j,c.kids)::D):=by
   by_cases h0:j=0
   ·subst h0;rw [Χ rfl] at w;exact ⟨T,[],by rw [kZ];rfl,hf,.inl ⟨w,rfl⟩,Jg hf⟩
   ·rw [Υ h0] at w;cases fs with
    |nil=>exact absurd w (by show ¬j=szN T;omega)
    |cons y rest=>
     obtain ⟨x,B⟩:=y;cases B with
     |nil=>exact absurd rfl (P rfl x [] rest rfl)
     |cons c B=>obtain ⟨a1,a2,a3⟩:=Jf w;exact ⟨c,(x,B)::rest,a1,a2,.inr ⟨x,B,rest,rfl,rfl⟩,a3⟩
  refine ⟨_,ld (J.le _ _ a6) rfl,81,#[],#[Pp b3,Pp b2],rfl,qgh,?_⟩;refine J.runv (Iz (i:=j) (C _ _ q3) (C _ _ q2) X (ht.le C) b7 a0.here) λG4 F4 l4 h4=>⟨_,_,_,rfl,⟨λO=>(by cases O),λ_=> ?_⟩⟩;have go:∀R:VR,r6 Nx b1 M st (j:Int) c.root.pr c.root.tk ((szN T:Nat):Int) R F4:=λR=>Mu hN Q a7 (l4 _ _ a6) (X.le l4) a0 (aa lG l4) h4 (hr.le l4) hl b0 hE hq a5 b5 λb4 W a9=>next b4 W Q a9;refine ⟨λc4=>⟨λhz=> ?_,λ_=>go _⟩,λ_=>go _⟩;rcases a5 with ⟨rfl,_⟩|⟨x,B,rest,rfl,_⟩
  ·rw [Υ (by omega)] at w;exact absurd w (by show ¬j=szN T;omega)
  ·rw [wg] at hl;omega
 ·obtain rfl:j=szN T:=by omega
  unfold Jj;rw [Υ (by omega)] at w;have a4:fs=[]:=by
   cases fs with
   |nil=>rfl
   |cons y rest=>
    obtain ⟨x,B⟩:=y;cases B with
    |nil=>exact absurd rfl (P rfl x [] rest rfl)
    |cons c B=>have:=BI w.2.2.2.2;rw [co] at this;have:=eV c;omega
  subst a4;refine ⟨λO=>by rw [hl] at O;exact absurd O (by decide),λ_=> ?_⟩;have b6:E=UY T:=by
   refine WH λq=> ?_;unfold UY;rw [yw];cases e:(VM 0 T)[q]? with
   |some v=>have c2:=(N6.1 e).1;exact hq q v (by omega) (λx hx=>by cases hx) e
   |none=>have:=List.getElem?_eq_none_iff.1 e;rw [Option.map_none,List.getElem?_eq_none_iff];omega
  subst b6;obtain ⟨H,a1,a2,a3⟩:=J.get (i:=1) rfl;exact ⟨⟨M,rfl,RL.ints.2 ((bO.rd a1).le a3)⟩,aa C J.le⟩
theorem qfc {w D h A E B C H r u v:ξ}:tC (tC (wr (#[tX I 0 0,.slice I 0 0,U 0,.slice I 0 0,.slice I 0 0,.slice I 0 0,U 0,.slice I 0 0,.slice I 0 0,U 0,.nilFunc]:Γ) 0 (#[w,D,h,A,E,B,C,H,r]:Γ).toList) 9 u) 10 v= #[w,D,h,A,E,B,C,H,r,u,v]:=by kernel_rfl
theorem kv {v:Γ} {t:Sl} (H:GV F v g) (O:dT g T) (N:szN T<=2000000) (E:RL F t (vA T)):ν 48 #[nQ v,t.v] F λr B=>(∃w,r=nI w/\RL B w (UY T))/\F.le B:=by obtain ⟨cs,n,tk,s,p,l,f,rfl,K⟩:=H;refine qgp ?_;unfold Vp;refine (St.start F).newG λb2 W R Q q2 _ h=> ?_;refine h.newG λb3 G2 F2 D q3 _ h=> ?_;have A:=aa Q D;refine ⟨_,rfl,ai (h.le _ _ (D _ _ q2)),t,ld (h.le _ _ q3) rfl,rfl,?_⟩;have J:t.len=szN T:=E.len;rw [J,qfc];refine h.run (P:=λr B=>∃w,r=nI w/\RL B w (UY T)) (FG O N q3 (D _ _ q2) (K.le A) (E.le A)) λ_ G3 X M L h=> ?_;obtain ⟨w,rfl,C⟩:=M;exact ⟨w,rfl,⟨w,rfl,C.le h.le⟩,aa A (aa L h.le)⟩
end
open Go.RowKit Go.Shelf
attribute [local go_sem] Oper.semAt_some
theorem L7:(prog.info? 3).map (λi=>(i.zero,i.size,i.bytes))=V (V (rV .i64 0),1,8):=by kernel_rfl
section
variable {e:Ev} {F:PH} {T m:Dtr} {i b2 b3:Nat} {s:Sl}
set_option maxRecDepth 100000 in
set_option maxHeartbeats 4000000 in
theorem qhx (w:World) (H:Sat e w F) (hm:bC T i=V m) (hT:szN T<=2000000) (q2:F b2=V (Y #[s.v] 76)) (q3:F b3=V (Y #[U (i:Int)] 3)) (X:RL F s (UY T)):
  CallsIn Fence.wide 3 prog 83 #[tX I 0 0,.func (.func 84) #[] #[pk (V ⟨b3,0,I⟩),pk (V ⟨b2,0,I⟩)]] w λen w'=>∃v,en=.returned v/\Sat e w' F/\w'.ownsRow w.heap.size 3 1 v m.kids.length ((gK (bQ i m.kids) m.kids.length).map λx=>U ((x:Nat):Int)):=by
 refine callsIn_of_wp_marks func83 rfl trivial ?_ rfl;simp only [ntmps83,XB,wg,W9,Nat.reduceAdd,Nat.reduceSub,Array.replicate_succ,Array.replicate_zero,List.push_toArray,Yf,zB,zK];obtain ⟨i0,hi,a0,a1,R⟩:=info_parts L7;have a3:m.kids.length<=2000000:=by
  have h1:=sub_le hm;rw [cn] at h1;have h2:∀l:List Dtr,l.length<=vz l:=λl=>by
   induction l with
   |nil=>exact yA _
   |cons n l ih=>rw [co,wg];have:=eV n;omega
  have:=h2 m.kids;omega
 gi_wp2
 refine wpIn_rangeFunc_ownF (α:=Nat) rfl (by decide) (gf:=84) (lb:= #[pk (V ⟨b3,0,I⟩),pk (V ⟨b2,0,I⟩)]) rfl trivial (enters_of func84 (by kernel_rfl) rfl)
  (rE w H hm hT q2 q3 X (λx=>x) (bQ i m.kids) (λk hk=>rfl) (by decide))
  (λh k s=>k (h s)) (λW r o o' hr ho h1 h2 hS=>eJ hS (gL H) (grownBy_putObj' W r o') λr' e'=>by cases e';simp at hr;omega) ((Below.refl _ w).alloc (ru _) _) (λ_=>rfl)
  (λg W=>(∃v,Boxed W w.heap.size 76 v/\W.ownsRow w.heap.size 3 1 v g.length (g.map λx=>U ((x:Nat):Int))/\True)/\Below w.heap.size w W)
  (λ_ _ _=>False)
  (OwnFrom.and (Own.from (holdsRow_own w.heap.size w.heap.size 76 3 1 (λg:Δ=>g.length) (λg=>g.map λx=>U ((x:Nat):Int)) (λ_ _=>True)) _) (ownFrom_below (ru _) (by simp)))
  (λ_ _ _ _ _ X _ _=>X)
  ⟨⟨_,Boxed.new w _ _,World.ownsRow_nil _ _ _ _,trivial⟩,(Below.refl _ w).alloc (ru _) _⟩
  (λx=>{tmps:= #[tX I 0 0,.func (.func 84) #[] #[pk (V ⟨b3,0,I⟩),pk (V ⟨b2,0,I⟩)],pk (V ⟨w.heap.size,0,I⟩),undef,tX I 0 0,U (x:Int),.func (.func 84) #[] #[pk (V ⟨b3,0,I⟩),pk (V ⟨b2,0,I⟩)],U (x:Int),undef,undef,undef,undef,undef],defers:=[]}) ?assign ?body ?done ?stop
 case assign=>
  intro l x W K M
  gi_wp2
  exact M
 case body=>
  rintro l g x W ⟨⟨v,L,A,_⟩,E⟩ a5;have Q:=L.cell;have a6:w.heap.size<=W.heap.size:=E.size;have p1:g.length+1<=maxLen:=by unfold maxLen;omega
  have p2:(g.length+1)*8<=140737488355328:=by omega
  have p3:w.heap.size<=(W.alloc (Y #[U (x:Int)] 3)).heap.size:=by rw [World.size_alloc];omega
  gi_wp2_with (gi_at_builtin;refine wpListIn_append_own _ rfl _ _ 76 rfl w.heap.size 3 i0 (.int .i64 0) 1 8 underlying76 hi a0 a1 R rfl (by decide) _ _ _ rfl (A.alloc _) ⟨W.heap.size,0,I⟩ 1 1 [U (x:Int)] rfl rfl (cell_one_new _ _ _) (by simp [Value.oneCell']) p1 p2 p3 ?_;intro v' w1 B C _;obtain ⟨g',a2,rfl⟩:=ownsRow_succ B;obtain ⟨G,N,P,O,J⟩:=L.appended (by decide) A E.size (ru _) B C;have a4:=G.cell;have a7:=G.frozen)
  refine ⟨O,λ_=>rD H (E.trans J),⟨_,N,?_,trivial⟩,E.trans J⟩;rw [tT,yW];exact P
 case done=>
  rintro D ys W hD rfl ⟨⟨v,L,A,_⟩,E⟩ M;have Q:=L.cell
  gi_wp2
  refine ⟨by simp,.inl ⟨_,_,rfl,run_takeDeferred M,?_⟩⟩;refine ⟨_,results_tmp rfl _ _ _,v,rfl,?_,?_⟩
  ·exact eJ (rD H E) (gL H) (grownBy_putObj' W D _) λr e'=>by cases e';simp at hD;omega
  ·have:=ownsRow_putObj A (.deferred I) M rfl;rwa [lU] at this
 case stop=>
  rintro D c g W hD _ h _;exact h.elim
theorem L8 {W:World} {B:Nat} {v:ξ} {vs:Ξ} (w:Sat e W F) (N:∀b o,F b=V o->b<B) (K:∀b o,e.fr b=V o->b<B) (h:W.ownsRow B 3 1 v vs.length vs):∃(G:PH) (H:Sl),Sat e W G/\F.le G/\v=H.v/\RdS G H 1 vs:=by
 rcases h.2 with ⟨rfl,M⟩|⟨g,cap,A,rfl,P,E,J,_,_,O⟩
 ·exact ⟨F,pm,w,au F,rfl,by
   have:vs=[]:=Wm M;rw [this]
   exact RdS.nil F _⟩
 ·have C:∀b,b<B->b≠g:=λb r D=>by omega
  have L:F.le (F.set g (Y A 3 (0,0))):=λb o r=>by rw [aw _ _ (C b (N b o r))];exact r
  refine ⟨F.set g (Y A 3 (0,0)),⟨V ⟨g,0,I⟩,vs.length,cap⟩,⟨w.os,w.tape,w.output,λb o r=> ?_,λb o r=> ?_⟩,L,rfl,RdS.new (aq _ _ _) O (by omega) J⟩
  ·by_cases D:b=g
   ·rw [D,aq] at r;rw [D,E,<- r]
   ·rw [aw _ _ D] at r;exact w.heap b o r
  ·rw [aw _ _ (C b (K b o r))];exact w.frame b o r
theorem yj:∀l:Φ,bS F l (l.map λx=> #[U x])
 |[]=> .nil
 |_::l=> .cons rfl (yj l)
theorem qhc (D:bC T i=V m) (R:szN T<=2000000) (q2:F b2=V (Y #[s.v] 76)) (q3:F b3=V (Y #[U (i:Int)] 3)) (K:RL F s (UY T)):
  ν 83 #[nI pm,.func (.func 84) #[] #[pk (V ⟨b3,0,I⟩),pk (V ⟨b2,0,I⟩)]] F λr C=>(∃g,r=nI g/\RL C g ((gK (bQ i m.kids) m.kids.length).map Int.ofNat))/\F.le C:=λe w h=>by
 refine ((callsIn_wide (n:=3)).1 (qhx w h D R q2 q3 K)).mono ?_;rintro W X ⟨v,E,H,P⟩;have L:((gK (bQ i m.kids) m.kids.length).map λx=>U ((x:Nat):Int)).length=m.kids.length:=by rw [ub,lU]
 obtain ⟨G,g,Q,J,N,M⟩:=L8 (B:=w.heap.size) H (λb o A=>h.lt A) (λb o A=>gL h b o (.inr A)) (by rw [L];exact P);refine ⟨v,G,E,Q,⟨g,N,_,yj _,?_⟩,J⟩;have O:tZ (((gK (bQ i m.kids) m.kids.length).map Int.ofNat).map λx=> #[U x])=(gK (bQ i m.kids) m.kids.length).map λx=>U ((x:Nat):Int):=by unfold tZ;rw [X3,List.flatMap_map];exact Ku (λx:Nat=>U ((x:Nat):Int)) _
 rw [O];exact M
end
open Tr
set_option maxHeartbeats 4000000
theorem kM {F:PH} {a:Addr} {y:Int} {K:Int->Prop} (h:F.cell a=V (U y)):(∃v:Int,F.cell a=V (rV .i64 v)/\K v)↔K y:=
 ⟨λ⟨v,g,k⟩=>by rw [h] at g;cases g;exact k,λk=>⟨y,h,k⟩⟩
theorem C4 {k:Int} (h:0<=k/\k<=4):mW k=ar k/\0<=ar k:=by
 unfold mW ar;split
 ·exact ⟨rfl,by omega⟩
 ·split
  ·exact ⟨rfl,by omega⟩
  ·rw [Χ (by omega)];exact ⟨rfl,by omega⟩
theorem yk {k:Int} (h:0<=ar k):0<=k/\k<=4:=by have:=tf h;omega
section
variable {F:PH}
theorem AG {s:Sl} {l:List Nd} (hs:RdS F s 5 (dF l)) {i:Nat} {x:Nd} (hx:l[i]? =V x) (a2:(i:Int)<9223372036854775807):ν 188 #[s.v,U i] F λr N=>(∃b:Bool,r=nW b/\(b=nk↔za i x))/\F.le N:=by
 obtain ⟨a,X,O⟩:=Xl hs hx;have a1:=hs.nlen;have hi:=(N6.1 hx).1;refine qeF ?_;unfold QD;refine ⟨a,X,by omega,by omega,x.arr,rfl,O,λE a0=> ?_⟩;refine tR ?_;refine Uc (aq _ _ _) rfl rfl (gr x) ?_;rw [aR];have l5:F.le (F.set E (Y x.arr 225)):=ae _ a0;have q5:=aq F E (Y x.arr 225);generalize F.set E (Y x.arr 225)=H at*;have c0:H.cell (oB E 0 I)=V (U x.k):=by rw [av q5];rfl
 have c1:H.cell (oB E 1 I)=V (U x.lo):=by rw [av q5];rfl
 have c2:H.cell (oB E 2 I)=V (U x.hi):=by rw [av q5];rfl
 have c3:H.cell (oB E 3 I)=V (U x.a):=by rw [av q5];rfl
 have c4:H.cell (oB E 4 I)=V (U x.b):=by rw [av q5];rfl
 refine ⟨x.k,c0,?_⟩;refine (kH H x.k).mono ?_;rintro _ F2 ⟨rfl,e⟩;obtain rfl:=e.symm;have K:∀b:Bool,(b=nk↔za i x)->(∃J:Bool,nW b=nW J/\(J=nk↔za i x))/\F.le H:=λb hb=>⟨⟨b,rfl,hb⟩,l5⟩;refine ⟨_,_,rfl,λQ=>K _ ?_,λQ=> ?_⟩
 ·have M:¬(0<=x.k/\x.k<=4):=by
   have:decide (0<=x.k/\x.k<=4)=mD:=by simpa only [eg,Bool.not_eq_true'] using Q
   exact ι this
  exact ⟨λh=>by (cases h),λh=>absurd (yk h.1) M⟩
 have M:0<=x.k/\x.k<=4:=by simpa [eg] using Q
 obtain ⟨hn,W⟩:=C4 M;rw [hn];clear Q hn;have B:∀(P:Prop),¬P->(mD=nk↔P):=λP h=>⟨λh=>by (cases h),λR=>absurd R h⟩;have t1:∀(P:Prop),P->(nk=nk↔P):=λP h=>⟨λ_=>h,λ_=>rfl⟩;have j2:(ar x.k<1->x.a=0)->(ar x.k<2->x.b=0)->(x.k=1->0<=x.lo/\x.lo<=x.hi/\x.hi<=255)->(x.k≠1->x.lo=0/\x.hi=0)->jN i E (ar x.k) (λr N=>(∃J:Bool,r=nW J/\(J=nk↔za i x))/\F.le N) H:=λX hb C D=>by have e:za i x↔(1<=ar x.k->0<=x.a/\x.a<i)/\(2<=ar x.k->0<=x.b/\x.b<i):=⟨λh=>⟨h.2.2.2.2.2.1,h.2.2.2.2.2.2⟩,λh=>⟨W,C,D,X,hb,h.1,h.2⟩⟩;unfold jN;simp only [kM c3,kM c4];refine ⟨λh=>⟨λR=>K _ (t1 _ (e.2 ⟨by omega,by omega⟩)),λR=>absurd R (by omega)⟩,λh=>⟨λA=>⟨λw=>⟨λG=>K _ (t1 _ (e.2 ⟨λ_=>⟨A,w⟩,by omega⟩)),λG=>⟨λL=>K _ ?_,λL=>K _ (B _ λg=>L ((e.1 g).2 (by omega)).1)⟩⟩,λw=>K _ (B _ λg=>w ((e.1 g).1 (by omega)).2)⟩,λA=>K _ (B _ λg=>A ((e.1 g).1 (by omega)).1)⟩⟩;rw [δ,e];exact ⟨λh7=>⟨λ_=>⟨A,w⟩,λ_=>⟨L,h7⟩⟩,λh7=>(h7.2 (by omega)).2⟩
 have j1:(x.k=1->0<=x.lo/\x.lo<=x.hi/\x.hi<=255)->(x.k≠1->x.lo=0/\x.hi=0)->qF i E (ar x.k) (λr N=>(∃J:Bool,r=nW J/\(J=nk↔za i x))/\F.le N) H:=λC D=>by unfold qF;simp only [kM c3,kM c4];refine ⟨λh=>⟨λA=>K _ (B _ λg=>A (g.2.2.2.1 h)),λA=>⟨λw=>⟨λG=>K _ (B _ λg=>G (g.2.2.2.2.1 w)),λG=>j2 (λ_=>by omega) (λ_=>by omega) C D⟩,λw=>absurd w (by omega)⟩⟩,λh=>⟨λw=>⟨λG=>K _ (B _ λg=>G (g.2.2.2.2.1 w)),λG=>j2 (λh=>by omega) (λ_=>by omega) C D⟩,λw=>j2 (λh=>by omega) (λh=>by omega) C D⟩⟩
 simp only [kM c0,kM c1,kM c2]
 refine ⟨λh=>⟨λC=>K _ (B _ λg=>C (g.2.2.1 h).1),λC=>⟨λD=>K _ (B _ λg=>D (g.2.2.1 h).2),λD=>⟨λA=>absurd A (by omega),λA=>⟨λw=>absurd w (by omega),λw=>⟨λG=>absurd G (by omega),λG=>j1 (λL=>absurd L h) (λ_=>⟨by omega,by omega⟩)⟩⟩⟩⟩⟩,
  λh=>⟨λC=>K _ (B _ λg=>by have:=g.2.1 (by omega);omega),λC=>⟨λD=>K _ (B _ λg=>by have:=g.2.1 (by omega);omega),λD=>⟨λA=>K _ (B _ λg=>by have:=g.2.1 (by omega);omega),λA=>j1 (λ_=>⟨by omega,by omega,by omega⟩) (λL=>absurd (by omega) L)⟩⟩⟩⟩
def pg (n:Nat) (W:Φ):Ξ:=(List.range n).map λ(i:Nat)=>U (W.count (i:Int):Nat)
theorem HB {n:Nat} {W:Φ} {i:Nat} (hi:i<n):(pg n W).toArray[i]? =V (U (W.count (i:Int):Nat)):=by simp [pg,hi]
theorem HD (n:Nat) (W:Φ) (i:Nat) (hi:i<n):(pg n W).toArray.setIfInBounds i (U ((W.count (i:Int)+1:Nat):Int))=(pg n ((i:Int)::W)).toArray:=by
 apply Array.ext';rw [Array.toList_setIfInBounds];apply WH;intro j;rw [Yk];simp only [pg,ub,WI,yw];by_cases h:i=j
 ·subst h;rw [Χ rfl,Χ hi,Xz hi];simp
 ·rw [Υ h];by_cases g:j<n
  ·rw [Xz g];simp only [VD];rw [List.count_cons_of_ne (by omega)]
  ·rw [VP (by simp;omega)];rfl
structure Cnt (F0 F:PH) (u n:Nat) (W:Φ):Prop where
 zu:F0 u=I
 le:F0.le F
 qu:F u=V (Y (pg n W).toArray 3)
theorem Cnt.cell {F0 F:PH} {u n:Nat} {W:Φ} (h:Cnt F0 F u n W) {k:Int} (g:0<=k) (r:k<n):F.cell ((oB u 0 I).add (nX k*1))=V (U (W.count k:Nat)):=by obtain ⟨i,rfl⟩:=Yj g;rw [N4,xF,show (oB u 0 I).add i=⟨u,i,I⟩ by simp [nV];omega,av h.qu];exact HB (by omega)
theorem Cnt.inc {F0 F:PH} {u n:Nat} {W:Φ} (h:Cnt F0 F u n W) {k:Int} (w:0<=k) (A:k<n) (C:W.length<=100000) {K:Ψ} (r:∀g,Cnt F0 g u n (k::W)->K g):
  ∃c e,F (nV (oB u 0 I) (nX k*1)).block=V (Y c e (0,0))/\(nV (oB u 0 I) (nX k*1)).spot=I/\(nV (oB u 0 I) (nX k*1)).off<c.size/\
   xJ (F.set (nV (oB u 0 I) (nX k*1)).block (Y (c.setIfInBounds (nV (oB u 0 I) (nX k*1)).off (rV .i64 (i64.wrap ((W.count k:Nat)+(1:Int))))) e)) K:=by
 obtain ⟨i,rfl⟩:=Yj w;have B:W.count (i:Int)<=W.length:=List.count_le_length;rw [fo (by omega)];refine tF (b:=u) (o:=i) (by rw [N4,xF];simp [nV];omega) h.qu (by simp [pg];omega) ?_;rw [HD n W i (by omega)];exact r _ ⟨h.zu,aB h.le h.zu,aq _ _ _⟩
theorem C5:∀(l:List Nd),(w8 l).length<=2*l.length
 |[]=>ru _
 |x::l=>by
  have:=C5 l;have:(us x).length<=2:=by unfold us;split<;>(try split)<;>simp
  simp only [w8,tT,wg];omega
def HE (l:List Nd) (j:Nat):Prop:=∀i x,i<j->l[i]? =V x->za i x
theorem FH {l:List Nd} {j:Nat} (h:HE l j):∀k∈w8 (l.take j),0<=k/\k+1<j:=by
 induction j with
 |zero=>intro k g;simp [w8] at g
 |succ j ih=>
  intro k g;by_cases D:j<l.length
  ·have r:=N5 D;have E:=h j _ (by omega) r;rw [Wx,r] at g;simp only [Option.toList_some,jr,vj] at g;rcases g with g|g
   ·unfold us at g;obtain ⟨J,G,H,L,K,w,A⟩:=E;split at g
    ·rename_i B;have:=w (by omega);have:=A (by omega);simp at g;rcases g with rfl|rfl<;>omega
    ·split at g
     ·rename_i C;have:=w (by omega);simp at g;subst g;omega
     ·simp at g
   ·have:=ih (λi x hi=>h i x (by omega)) k g;omega
  ·rw [zh (by omega)] at g;have:=ih (λi x hi=>h i x (by omega)) k (by rw [zh (by omega)];exact g);omega
theorem HG {l:List Nd} (h:HE l l.length):GoodL l↔l≠[]/\∀i:Nat,i+1<l.length->(w8 l).count (i:Int)=1:=by
 have B:=FH h;rw [wB] at B;constructor
 ·rintro ⟨g,r,E,D⟩;refine ⟨g,λi hi=> ?_⟩;have:=List.nodup_iff_count.1 E (i:Int);have:=List.count_pos_iff.2 (D i hi);omega
 ·rintro ⟨g,r⟩;refine ⟨g,λi x w=>h i x (N6.1 w).1 w,List.nodup_iff_count.2 λa=> ?_,λi hi=>List.count_pos_iff.1 (by rw [r i hi];decide)⟩;by_cases A:a∈w8 l
  ·obtain ⟨C,G⟩:=B a A;obtain ⟨k,rfl⟩:=Yj C;rw [r k (by omega)];exact ru _
  ·rw [List.count_eq_zero.2 A];omega
theorem L9:vy prog 3=V (1,8):=by kernel_rfl
theorem Ma:bv prog 3=V (rV .i64 0):=by kernel_rfl
theorem Mb:prog.underlying 76=V (.slice 3):=by kernel_rfl
theorem qhk {s:Sl} {l:List Nd} (hs:RdS F s 5 (dF l)):ν 154 #[s.v] F λr g=>r=U (fJ l)/\F.le g:=by
 have A:=hs.nlen;refine qeD ?_;unfold QB;refine ⟨λh=>⟨?_,au F⟩,λh=> ?_⟩
 ·have e:fJ l=2:=by unfold fJ;rw [Χ (by omega)]
  rw [e]
 have hl:l.length<=512:=by omega
 refine bT Mb L9 Ma rfl (by omega) (Vd _) (by omega) (by omega) ?_;intro u hu;rw [ZR _ rfl,N4,A];have em:(List.replicate l.length (U 0)).toArray=(pg l.length []).toArray:=by
  congr 1;apply WH;intro j;by_cases hj:j<l.length
  ·simp [pg,hj]
  ·rw [VP (by simp;omega),VP (by simp [pg];omega)]
 rw [em];refine ⟨_,rfl,?_⟩;have hU:Cnt F (F.set u (Y (pg l.length []).toArray 3)) u l.length []:=⟨hu,ae _ hu,aq _ _ _⟩;generalize F.set u (Y (pg l.length []).toArray 3)=F1 at*;have bad:∀{g:PH},¬GoodL l->F.le g->U 40=U (fJ l)/\F.le g:=λh a6=>⟨by rw [zU hl h],a6⟩;refine ⟨λm i g=>∃j:Nat,i=j/\j<=l.length/\m=l.length - j/\HE l j/\Cnt F g u l.length (w8 (l.take j)),l.length,⟨0,rfl,by omega,rfl,λi x hi=>by omega,by simpa [w8] using hU⟩,?_⟩;clear hU;rintro _ _ F2 ⟨j,rfl,hj,rfl,hg,B⟩;unfold EY;refine ⟨λb2=> ?_,λa2=> ?_⟩
 ·have L:j<l.length:=by omega
  have J:l[j]? =V l[j]:=N5 L;generalize l[j]=x at J;refine (AG (hs.le B.le) J (by omega)).mono ?_;rintro _ F3 ⟨⟨b,rfl,hb⟩,l3⟩;have w:Cnt F F3 u l.length (w8 (l.take j)):=⟨B.zu,aa B.le l3,l3 _ _ B.qu⟩;refine ⟨b,rfl,λW=>bad (λP=> ?_) w.le,λa3=> ?_⟩
  ·have:=hb.2 (P.ok j x J);rw [this] at W;cases W
  have C:za j x:=hb.1 (by simpa using a3);have R:HE l (j+1):=λi y hi N=>by
   by_cases H:i=j
   ·subst H;rw [J] at N;cases N;exact C
   ·exact hg i y (by omega) N
  obtain ⟨a,ha,b4⟩:=Xl (hs.le w.le) J;have a5:=yk C.1;obtain ⟨hn,b6⟩:=C4 a5;have cl:∀{g:PH},F.le g->∀(o:Nat) (y:ξ),o<5->x.arr[o]? =V y->g.cell ((a.add (j*5)).add o)=V y:=λa9 o y ho N=>by obtain ⟨a',O,K⟩:=Xl (hs.le a9) J;rw [ha] at O;cases O;have:=K o (by show o<5;exact ho);rw [this];rw [<- N];exact (Wv (xs:=x.arr) (i:=o) _).symm
  refine ⟨a,ha,by omega,by omega,x.k,by have:=cl w.le 0 (U x.k) (by omega) rfl;exact this,?_⟩;refine (kH F3 x.k).mono ?_;rintro _ F4 ⟨rfl,e⟩;obtain rfl:=e.symm;refine ⟨_,_,rfl,?_⟩;rw [hn];have a7:(w8 (l.take j)).length<=1024:=by have:=C5 (l.take j);rw [z9] at this;omega
  have fin:∀g,Cnt F g u l.length (us x++w8 (l.take j))->qC (λM a4=>∃m',m'<l.length - j/\∃j:Nat,M=j/\j<=l.length/\m'=l.length - j/\HE l j/\Cnt F a4 u l.length (w8 (l.take j))) s ⟨V ⟨u,0,I⟩,l.length,l.length⟩ j (λr g=>r=U (fJ l)/\F.le g) g:=λg a8=>by unfold qC;refine ⟨l.length - (j+1),by omega,j+1,fo (by omega),L,rfl,R,?_⟩;rw [Wx,J];show Cnt F g u l.length (w8 (l.take j++[x]));rw [jr];exact a8
  refine ⟨λX=> ?_,λX=> ?_⟩
  ·obtain ⟨a0,a1⟩:=C.2.2.2.2.2.1 X;refine ⟨a,ha,by omega,by omega,x.a,cl w.le 3 (U x.a) (by omega) rfl,_,rfl,a0,by simp only;omega,_,w.cell a0 (by omega),_,rfl,a0,by simp only;omega,?_⟩;refine w.inc a0 (by omega) (by omega) λF5 D=> ?_;unfold qD;refine ⟨λE=> ?_,λE=> ?_⟩
   ·obtain ⟨b0,b1⟩:=C.2.2.2.2.2.2 E;refine ⟨a,ha,by omega,by omega,x.b,cl D.le 4 (U x.b) (by omega) rfl,_,rfl,b0,by simp only;omega,_,D.cell b0 (by omega),_,rfl,b0,by simp only;omega,?_⟩;refine D.inc b0 (by omega) (by simp only [wg];omega) λF6 b3=>fin F6 ?_;have:us x=[x.b,x.a]:=by unfold us;rw [Χ E]
    rw [this];exact b3
   ·refine fin F5 ?_;have:us x=[x.a]:=by unfold us;rw [Υ E,Χ X]
    rw [this];exact D
  ·unfold qD;refine ⟨λE=>absurd E (by omega),λE=>fin F3 ?_⟩;have:us x=[]:=by unfold us;rw [Υ E,Υ X]
   rw [this];exact w
 ·obtain rfl:j=l.length:=by omega
  rw [wB] at B;have Q:=HG hg;unfold EX;have ew:i64.wrap ((s.len:Int) - 1)=(l.length:Int) - 1:=by rw [A,aJ (by omega)]
  refine ⟨λm i g=>∃j:Nat,i=j/\j<=l.length/\m=l.length - j/\g=F2/\∀i:Nat,i<j->(w8 l).count (i:Int)=1,l.length,⟨0,rfl,by omega,rfl,rfl,λi hi=>by omega⟩,?_⟩;rintro _ _ F3 ⟨j,rfl,b5,rfl,e3,G⟩;obtain rfl:=e3.symm;unfold EW;rw [ew];refine ⟨λb2=> ?_,λa2=> ?_⟩
  ·refine ⟨_,rfl,by omega,by simp only;omega,_,B.cell (k:=(j:Int)) (by omega) (by omega),λhm=>bad (λP=> ?_) B.le,λhm=>⟨l.length - (j+1),by omega,j+1,fo (by omega),by omega,rfl,rfl,λi hi=> ?_⟩⟩
   ·have:=(Q.1 P).2 j (by omega);rw [this] at hm;exact hm rfl
   ·by_cases H:i=j
    ·subst H;omega
    ·exact G i (by omega)
  ·unfold EV;refine ⟨λh0=>bad (λP=>P.ne (XZ.1 (by omega))) B.le,λh0=>⟨?_,B.le⟩⟩;rw [uN hl (Q.2 ⟨λe=>by rw [e] at A;simp at A;omega,λi hi=>G i (by omega)⟩)]
end
abbrev YZ:=Nat×Nat
structure Two where
 acc:YZ->Nat->Prop
 lnk:YZ->YZ->Prop
 ini:YZ->Prop
 fin:YZ->Prop
namespace Two
end Two
structure Ov (e:TypeId) (G F:PH) (s:Sl) (vs:Ξ):Prop where
 le:G.le F
 own:bO F e 1 s vs
 oz:∀a,s.qa5=V a->G a.block=I
section
variable {e:TypeId} {G F:PH} {s:Sl} {vs:Ξ}
theorem Ov.fresh (h:Ov e G F s vs) {x:Nat} (g:F x=I) (o:Obj):Ov e G (F.set x o) s vs:=
 ⟨aa h.le (ae o g),h.own.keep λa r=>by
  obtain ⟨A,w⟩:=h.own.som r
  exact aw _ _ (aH g w),h.oz⟩
theorem Ov.len (h:Ov e G F s vs):s.len=vs.length:=by have:=h.own.rd.len;omega
theorem Ov.push {t bytes:Nat} {z:ξ} (R:prog.underlying t=V (.slice e)) (L:vy prog e=V (1,bytes)) (Q:bv prog e=V z) (E:z.cells.size=1) (J:bytes<=64) (h:Ov e G F s vs) {v:ξ} (D:ak v) (X:s.len<=1000000) {K:Sl->Ψ} (k:∀g M,Ov e G M g (vs++[v])->K g M):
  ∀x,F x=I->xJ (F.set x (Y #[v] e)) λF=>
   aG prog (Builtin.append_ #[t,t] t #[(nI s),(nI (t7 (V (oB x 0 I)) 1 1))]) F λv F=>∃g:Sl,v=(nI g)/\K g F:=by
 intro x O;refine tR ?_;have A:=h.fresh O (Y #[v] e);have q1:=aq F x (Y #[v] e);generalize F.set x (Y #[v] e)=W at*;have hb:(s.len+1)*bytes<=1000001*64:=Yq (by omega) J;refine iO (F0:=G) (x:=⟨V ⟨x,0,I⟩,1,1⟩) (news:=[v]) R L Q E (by decide) A.le A.own A.oz (RdS.new q1 rfl rfl (ru _)) (λw N=>by rw [vu] at N;subst N;exact D) (by simp only;omega) (by simp only;omega) ?_;intro g F2 B C P r keep H;exact ⟨g,rfl,k g F2 ⟨B,C,r⟩⟩
end
def VJ (w:Δ) (f e:Nat):Δ:=(w.drop f).take (e - f)
theorem ic {w:Δ} {f e:Nat} (h:f<=e) (g:e<=w.length):(VJ w f e).length=e - f:=by unfold VJ;rw [z9,W8];omega
theorem qY {w:Δ} {f m e:Nat} (g:f<=m) (h:m<=e):VJ w f m++VJ w m e=VJ w f e:=by unfold VJ;obtain ⟨a,rfl⟩:=Nat.exists_eq_add_of_le g;obtain ⟨b,rfl⟩:=Nat.exists_eq_add_of_le h;rw [show f+a - f=a by omega,show f+a+b - (f+a)=b by omega,show f+a+b - f=a+b by omega,<- XL,List.take_add]
theorem uf {w:Δ} {f e:Nat} (h:f<=e) (D:e<=w.length) {u v:Δ} (r:VJ w f e=u++v):∃m,f<=m/\m<=e/\VJ w f m=u/\VJ w m e=v:=by
 have C:=ic h D;rw [r,tT] at C;have g:f<=f+u.length:=by omega
 have A:f+u.length<=e:=by omega
 have B:=qY (w:=w) g A;rw [r] at B;have:=List.append_inj B (by rw [ic g (by omega)];omega);exact ⟨f+u.length,g,A,this.1,this.2⟩
theorem C6 {w:Δ} {f e:Nat} (h:f<=e) (g:e<=w.length) (r:VJ w f e=[]):f=e:=by have:=ic h g;rw [r] at this;simp at this;omega
theorem yl (w:Δ) (f:Nat):VJ w f f=[]:=by simp [VJ]
theorem C7 {w:Δ} {f:Nat} (h:f<w.length):VJ w f (f+1)=[w[f]]:=by unfold VJ;rw [show f+1 - f=1 by omega,XJ h];rfl
def Bh (P:Δ->Prop) (w fr:Δ) (e:Nat):Prop:=∃f∈fr,f<=e/\e<=w.length/\P (VJ w f e)
theorem Ry {w fr:Δ} (B:∀f∈fr,f<=w.length) (e:Nat):Bh (Lg .emp) w fr e↔e∈fr:=by
 constructor
 ·rintro ⟨f,g,r,A,C⟩;have:f=e:=C6 r A C;subst this;exact g
 ·intro h;exact ⟨e,h,ru _,B e h,yl _ _⟩
theorem Rz {x y:Pat} {w fr o:Δ} (A:∀e,e∈o↔Bh (Lg x) w fr e) (e:Nat):Bh (Lg y) w o e↔Bh (Lg (.seq x y)) w fr e:=by
 constructor
 ·rintro ⟨m,B,h,g,J⟩;obtain ⟨f,r,C,L,F⟩:=(A m).1 B;exact ⟨f,r,by omega,g,_,_,(qY C h).symm,F,J⟩
 ·rintro ⟨f,r,h,g,u,v,D,G,E⟩;obtain ⟨m,H,K,rfl,rfl⟩:=uf h g D;exact ⟨m,(A m).2 ⟨f,r,H,by omega,G⟩,K,g,E⟩
theorem RA {x y:Pat} {w fr:Δ} (e:Nat):Bh (Lg (.alt x y)) w fr e↔Bh (Lg x) w fr e\/Bh (Lg y) w fr e:=by
 constructor
 ·rintro ⟨f,r,h,A,g|g⟩
  ·exact .inl ⟨f,r,h,A,g⟩
  ·exact .inr ⟨f,r,h,A,g⟩
 ·rintro (⟨f,r,h,A,g⟩|⟨f,r,h,A,g⟩)
  ·exact ⟨f,r,h,A,.inl g⟩
  ·exact ⟨f,r,h,A,.inr g⟩
theorem ko.append {P:Δ->Prop} {u v:Δ} (g:ko P u) (r:P v):ko P (u++v):=by
 induction g with
 |nil=>have:=ko.cons r .nil;rw [yt] at this;exact this
 |cons h _ ih=>rw [xZ];exact .cons h ih
theorem Mc {x:Pat} {w fr o:Δ} (F:∀e∈o,Bh (Lg (.rep x)) w fr e) {e:Nat} (h:Bh (Lg x) w o e):Bh (Lg (.rep x)) w fr e:=by obtain ⟨m,g,r,B,E⟩:=h;obtain ⟨f,D,A,G,C⟩:=F m g;refine ⟨f,D,by omega,B,?_⟩;rw [<- qY A r];exact ko.append C E
theorem RB {x:Pat} {w fr o:Δ} (hi:∀f∈fr,f∈o) (F:∀e∈o,Bh (Lg (.rep x)) w fr e) (C:∀e,Bh (Lg x) w o e->e∈o) (e:Nat):e∈o↔Bh (Lg (.rep x)) w fr e:=by
 refine ⟨F e,?_⟩;rintro ⟨f,h,g,B,E⟩;have key:∀u,ko (Lg x) u->∀f,f∈o->f<=e->VJ w f e=u->e∈o:=by
  intro u A;induction A with
  |nil=>intro f h g r;have:=C6 g B r;subst this;exact h
  |cons A _ ih=>intro f h g r;obtain ⟨m,D,H,rfl,G⟩:=uf g B r;exact ih m (C m ⟨f,h,D,by omega,A⟩) H G
 exact key _ E f (hi f h) g rfl
def zX:Δ->Δ->Δ
 |o,[]=>o
 |o,m::ms=>zX (if m∈o then o else o++[m]) ms
theorem yn (m:Nat):∀(ms o:Δ),zX o (ms++[m])=if m∈zX o ms then zX o ms else zX o ms++[m]
 |[],_=>rfl
 |_::ms,_=>yn m ms _
theorem ie (e:Nat):∀(ms o:Δ),e∈zX o ms↔e∈o\/e∈ms
 |[],o=>by simp [zX]
 |m::ms,o=>by
  rw [zX,ie e ms];split
  ·rename_i h;simp only [tS];constructor
   ·rintro (g|g)
    ·exact .inl g
    ·exact .inr (.inr g)
   ·rintro (g|rfl|g)
    ·exact .inl g
    ·exact .inl h
    ·exact .inr g
  ·simp only [vj,tS,WO,or_false,or_assoc]
theorem nB:∀(ms o:Δ),o.Nodup->(zX o ms).Nodup
 |[],o,h=>h
 |m::ms,o,h=>by
  rw [zX];refine nB ms _ ?_;split
  ·exact h
  ·rename_i r;exact VB.2 ⟨h,by simp,λa w b g e=>r (by simp at g;subst g;subst e;exact w)⟩
theorem vl:∀(ms o:Δ),∃k,zX o ms=o++k
 |[],o=>⟨[],by simp [zX]⟩
 |m::ms,o=>by
  rw [zX];obtain ⟨k,g⟩:=vl ms (if m∈o then o else o++[m]);rw [g];split
  ·exact ⟨k,rfl⟩
  ·exact ⟨[m]++k,by simp⟩
theorem Md (ms o:Δ):(zX o ms).length<=o.length+ms.length:=by
 induction ms generalizing o with
 |nil=>simp [zX]
 |cons m ms ih=>rw [zX];refine WA (ih _) ?_;split<;>simp<;>omega
theorem HH {ms o:Δ} (h:(zX o ms).length<=o.length):∀m∈ms,m∈o:=by obtain ⟨k,g⟩:=vl ms o;rw [g,tT] at h;have:k=[]:=XZ.1 (by omega);subst this;intro m r;have:=(ie m ms o).2 (.inr r);rw [g] at this;simpa using this
theorem ig {o:Δ} {n:Nat} (h:o.Nodup) (g:∀e∈o,e<=n):o.length<=n+1:=nodup_bound' (n+1) o h λe r=>by have:=g e r;omega
where nodup_bound':∀(n:Nat) (ns:Δ),ns.Nodup->(∀j∈ns,j<n)->ns.length<=n
 |0,[],_,_=>ru _
 |0,j::ns,_,h=>absurd (h j (by simp)) (by omega)
 |n+1,ns,hn,h=>by
  by_cases hm:n∈ns
  ·have:=nodup_bound' n (ns.erase n) (hn.erase n) λj hj=>by
    have h1:=h j (List.mem_of_mem_erase hj);have h2:j≠n:=λe=>by rw [e] at hj;exact (hn.not_mem_erase hj)
    omega
   rw [List.length_erase_of_mem hm] at this;omega
  ·have:=nodup_bound' n ns hn λj hj=>by have h1:=h j hj;have h2:j≠n:=λe=>hm (e▸hj);omega
   omega
def il (ns:Δ):Ξ:=ns.map λ(n:Nat)=>U n
theorem HI (a b:Δ):il (a++b)=il a++il b:=by simp [il]
theorem qcP (a:Δ):∀v∈il a,ak v:=λv g=>by obtain ⟨n,_,rfl⟩:=xv.1 g;exact ⟨λ_ h=>(by cases h),λ_ h=>(by cases h)⟩
section
variable {F:PH}
theorem nC {s:Sl} {ns:Δ} (h:RdS F s 1 (il ns)):s.len=ns.length:=by have:=h.len;simp [il] at this;omega
theorem vm {s:Sl} {ns:Δ} (h:RdS F s 1 (il ns)) {i:Nat} (hi:i<ns.length):∃a,s.qa5=V a/\F.cell (a.add (nX (i:Int)*1))=V (U (ns[i]:Nat)):=by have r:=nC h;obtain ⟨b,o,g,_⟩:=h.cells (by omega);refine ⟨_,g,?_⟩;rw [N4,xF];have:=h.cell g (i:=i) (by simp [il];exact hi);rw [this];simp [il]
theorem C8 {s:Sl} {ns:Δ} (h:RdS F s 1 (il ns)) (J:ns.length<=1000000) (n:Nat):ν 155 #[s.v,U n] F λr A=>r=nW (decide (n∈ns))/\A=F:=by
 have L:=nC h;refine qeE ?_;unfold QC;refine ⟨λm i A=>∃j:Nat,i=j/\j<=ns.length/\m=ns.length - j/\A=F/\n ∉ ns.take j,ns.length,⟨0,rfl,by omega,rfl,rfl,by simp⟩,?_⟩;rintro _ _ A ⟨j,rfl,K,rfl,e,w⟩;obtain rfl:=e.symm;unfold E6;refine ⟨λE=> ?_,λD=> ?_⟩
 ·have g:j<ns.length:=by omega
  obtain ⟨a,G,H⟩:=vm h g;refine ⟨a,G,by omega,by omega,_,H,λC=>⟨?_,rfl⟩,λC=>⟨ns.length - (j+1),by omega,j+1,fo (by omega),by omega,rfl,rfl,?_⟩⟩
  ·have:n=ns[j]:=by omega
   rw [ε (by rw [this];exact Vc g)]
  ·rw [Wx,N5 g];simp only [Option.toList_some,vj,vu];rintro (B|B)
   ·exact w B
   ·exact C (by omega)
 ·unfold EZ;obtain rfl:j=ns.length:=by omega
  rw [wB] at w;exact ⟨by rw [η w],rfl⟩
def IlV (F:PH) (v:ξ) (o:Δ):Prop:=∃s:Sl,v=s.v/\RdS F s 1 (il o)
theorem lO {s s2:Sl} {ns ms:Δ} (h:RdS F s 1 (il ns)) (P:RdS F s2 1 (il ms)) (hn:ns.length<=200000) (hm:ms.length<=200000):ν 190 #[s.v,s2.v] F λr E=>IlV E r (zX ns ms)/\F.le E:=by
 have hl:=nC h;have a1:=nC P;refine qeH ?_;unfold QF;intro K B;refine tR ?_;have M:=ae (Y #[] 3) B;have q4:=aq F K (Y #[] 3);generalize F.set K (Y #[] 3)=F4 at*;have R:bO F4 3 1 ⟨V ⟨K,0,I⟩,0,0⟩ (il []):=.inr ⟨K,#[],rfl,q4,rfl,ru _,rfl,rfl⟩;refine iO (F0:=F) Mb L9 Ma rfl (by decide) M R (λa L=>by cases L;exact B) (h.le M) (qcP ns) (by simp only;omega) (by simp only;omega) ?_;intro Q F5 G C a3 g _ _;rw [show il []++il ns=il ns from rfl] at C;refine ⟨Q,rfl,λm o i E=>∃j:Nat,i=j/\j<=ms.length/\m=ms.length - j/\Ov 3 F E o (il (zX ns (ms.take j))),ms.length,⟨0,rfl,by omega,rfl,⟨G,by simpa [zX] using C,g⟩⟩,?_⟩;clear g C G M q4 B R;rintro _ o _ F6 ⟨j,rfl,hj,rfl,A⟩;unfold Ff;refine ⟨λa2=> ?_,λa0=> ?_⟩
 ·have D:j<ms.length:=by omega
  have X:(zX ns (ms.take j)).length<=400000:=by have:=Md (ms.take j) ns;rw [z9] at this;omega
  have hx:ms[j]? =V ms[j]:=N5 D;obtain ⟨a,L,W⟩:=vm (P.le A.le) D;refine ⟨a,L,by omega,by omega,_,W,?_⟩;refine (C8 A.own.rd (by omega) _).mono ?_;rintro _ F7 ⟨rfl,e⟩;obtain rfl:=e.symm;have w:zX ns (ms.take (j+1))=if ms[j]∈zX ns (ms.take j) then zX ns (ms.take j) else zX ns (ms.take j)++[ms[j]]:=by rw [Wx,hx];exact yn _ _ _
  refine ⟨_,rfl,λN=>⟨a,L,by omega,by omega,_,W,?_⟩,λO=> ?_⟩
  ·have J:ms[j] ∉ zX ns (ms.take j):=by simpa using N
   rw [Υ J] at w;refine A.push (t:=76) Mb L9 Ma rfl (by decide) ⟨λ_ h=>(by cases h),λ_ h=>(by cases h)⟩ (by rw [A.len];simp [il];omega) λQ E h'=> ?_;unfold qH;refine ⟨ms.length - (j+1),by omega,j+1,fo (by omega),by omega,rfl,?_⟩;rw [w,HI];exact h'
  ·have H:ms[j]∈zX ns (ms.take j):=by simpa using O
   rw [Χ H] at w;unfold qH;refine ⟨ms.length - (j+1),by omega,j+1,fo (by omega),by omega,rfl,?_⟩;rw [w];exact A
 ·unfold Fd;obtain rfl:j=ms.length:=by omega
  rw [wB] at A;exact ⟨⟨_,rfl,A.own.rd⟩,A.le⟩
end
def fw (w:Δ) (lo hi:Nat) (fr:Δ):Δ:=(fr.filter λf=>decide (f<w.length/\lo<=w.getD f 0/\w.getD f 0<=hi)).map (· +1)
theorem AH (w:Δ) (lo hi:Nat) (fr:Δ) (f:Nat):fw w lo hi (fr++[f])=if f<w.length/\lo<=w.getD f 0/\w.getD f 0<=hi then fw w lo hi fr++[f+1] else fw w lo hi fr:=by
 unfold fw;rw [List.filter_append,yW,List.filter_cons];split
 ·rename_i h;rw [Χ (by simpa using h)];rfl
 ·rename_i h;rw [Υ (by simpa using h)];simp
theorem qh5 {w:Δ} {lo hi:Nat} {fr:Δ} (h:fr.Nodup):(fw w lo hi fr).Nodup:=by unfold fw;refine List.Pairwise.map (R:=(·≠·)) _ (λa b g=>by omega) ?_;exact List.Pairwise.sublist List.filter_sublist h
theorem FI {w:Δ} {lo hi:Nat} {fr:Δ} (e:Nat):e∈fw w lo hi fr↔Bh (Lg (.rng lo hi)) w fr e:=by
 unfold fw;simp only [xv,X2,δ];constructor
 ·rintro ⟨f,⟨A,g,r,B⟩,rfl⟩;refine ⟨f,A,by omega,by omega,w.getD f 0,?_,r,B⟩;rw [C7 g,QX,N5 g];rfl
 ·rintro ⟨f,A,g,r,b,h,B,D⟩;have C:=ic g r;rw [h] at C;simp at C;obtain rfl:e=f+1:=by omega
  rw [C7 (by omega)] at h;simp at h;refine ⟨f,⟨A,by omega,?_⟩,rfl⟩;rw [QX,N5 (by omega)];simp only [Option.getD_some];omega
section
variable {F:PH}
def Z8 (F:PH) (v:ξ) (P:Δ->Prop) (w fr:Δ):Prop:=∃o:Δ,IlV F v o/\o.Nodup/\∀e,e∈o↔Bh P w fr e
theorem IlV.le {F G:PH} {v:ξ} {o:Δ} (h:IlV F v o) (g:F.le G):IlV G v o:=by obtain ⟨s,e,h⟩:=h;exact ⟨s,e,h.le g⟩
theorem yp {P:Δ->Prop} {w fr o:Δ} (h:∀e,e∈o↔Bh P w fr e):∀e∈o,e<=w.length:=λe g=>by obtain ⟨f,_,_,r,_⟩:=(h e).1 g;exact r
theorem AI {s2:Sl} {fr:Δ} {st:ο} {lo hi O C:Nat} {H:PH} {x:Nd} {R:ξ->Ψ} (h2:RdS H s2 1 (il fr)) (b2:fr.length<=100001) (a2:∀f∈fr,f<=st.size) (a9:st.size<=100000) (q9:H O=V (Y x.arr 225)) (a3:x.lo=lo) (a0:x.hi=hi) (G:H C=I)
  (hR:∀v L,H.le L->IlV L v (fw (bs st) lo hi fr)->R v L):
  ∃(I2:Nat->Sl->Ω) (X:Nat),I2 X (t7 (V (oB C 0 I)) 0 0) (0:Int) (H.set C (Y #[] 3))/\∀X g E F,I2 X g E F->
   xB (λr w F=>∃P,P<X/\I2 P r w F) st s2 O R g E F:=by
 have b0:=nC h2;have b1:=de st;refine ⟨λm o k L=>∃j:Nat,k=j/\j<=fr.length/\m=fr.length - j/\Ov 3 H L o (il (fw (bs st) lo hi (fr.take j))),fr.length,⟨0,rfl,by omega,rfl,⟨ae _ G,.inr ⟨C,#[],rfl,aq _ _ _,rfl,ru _,rfl,rfl⟩,λa M=>by cases M;exact G⟩⟩,?_⟩;rintro _ o _ F6 ⟨j,rfl,hj,rfl,B⟩;unfold xB;refine ⟨λb4=> ?_,λa8=> ?_⟩
 ·have J:j<fr.length:=by omega
  have a7:(fw (bs st) lo hi (fr.take j)).length<=100001:=by unfold fw;rw [ub];refine WA (List.length_filter_le _ _) ?_;rw [z9];omega
  have K:fr[j]? =V fr[j]:=N5 J;obtain ⟨a,M,W⟩:=vm (h2.le B.le) J;have b3:=a2 _ (Vc J);have D:fw (bs st) lo hi (fr.take (j+1))=if fr[j]<(bs st).length/\lo<=(bs st).getD fr[j] 0/\(bs st).getD fr[j] 0<=hi then fw (bs st) lo hi (fr.take j)++[fr[j]+1] else fw (bs st) lo hi (fr.take j):=by rw [Wx,K];exact AH _ _ _ _ _
  generalize fr[j]=f at*;have j5:∀bb:Bool,(bb=nk↔f<(bs st).length/\lo<=(bs st).getD f 0/\(bs st).getD f 0<=hi)->mV (λr w F=>∃P,P<fr.length - j/\∃j:Nat,w=j/\j<=fr.length/\P=fr.length - j/\Ov 3 H F r (il (fw (bs st) lo hi (fr.take j)))) st s2 O o j bb R F6:=λbb N=>by
   unfold mV;refine ⟨λht=>⟨a,M,by omega,by omega,_,W,?_⟩,λhf=> ?_⟩
   ·rw [Χ (N.1 ht)] at D;rw [fo (by omega)];refine B.push (t:=76) Mb L9 Ma rfl (by decide) jv (by rw [B.len];simp [il];omega) λs' L h'=> ?_;unfold qE;refine ⟨fr.length - (j+1),by omega,j+1,fo (by omega),by omega,rfl,?_⟩;rw [D,HI];exact h'
   ·rw [Υ (λh=>by rw [N.2 h] at hf;cases hf)] at D;unfold qE;refine ⟨fr.length - (j+1),by omega,j+1,fo (by omega),by omega,rfl,?_⟩;rw [D];exact B
  have c1:F6.cell (oB O 1 I)=V (U lo):=by rw [av (B.le _ _ q9),<- a3];rfl
  have c2:F6.cell (oB O 2 I)=V (U hi):=by rw [av (B.le _ _ q9),<- a0];rfl
  refine ⟨a,M,by omega,by omega,_,W,λa5=> ?_,λa4=>j5 mD ⟨λh=>(by cases h),λh=>absurd h.1 (by omega)⟩⟩;have Q:f<st.size:=by omega
  have A:∀K:nX (f:Int)<st.size,i64.wrap ((st[nX (f:Int)]' K).toNat:Int)=(((bs st).getD f 0:Nat):Int):=λK=>by
   have e:(st[nX (f:Int)]' K).toNat=(bs st).getD f 0:=by rw [<- Kl];unfold cb;simp only [N4] at K;rw [dif_pos K];rfl
   have a6:(bs st).getD f 0<256:=by rw [QX,N5 (by omega:f<(bs st).length)];exact qek st _ (Vc _)
   rw [e,aJ (by omega)]
  refine ⟨a,M,by omega,by omega,_,W,by omega,by omega,by rw [N4];exact Q,_,rfl,_,c1,λa1=>⟨a,M,by omega,by omega,_,W,by omega,by omega,by rw [N4];exact Q,_,rfl,_,c2,j5 _ ?_⟩,λhgt=>j5 mD ⟨λh=>(by cases h),λh=> ?_⟩⟩
  ·rw [A] at a1;rw [A,δ];omega
  ·rw [A] at hgt;omega
 ·unfold Fc;obtain rfl:j=fr.length:=by omega
  rw [wB] at B;exact hR _ _ B.le ⟨_,rfl,B.own.rd⟩
theorem AJ {l:List Nd} {p:Sl} {st:ο} (a9:st.size<=100000) {i:Nat} {t:Lt} {ns:Δ} (h:cP l i t ns):∀{F:PH} {s2:Sl} {fr:Δ},RdS F p 5 (dF l)->RdS F s2 1 (il fr)->fr.Nodup->(∀f∈fr,f<=st.size)->
  ν 156 #[p.v,U i,ph st,s2.v] F λr F'=>Z8 F' r (Lg t.pat) (bs st) fr/\F.le F':=by
 have X:=de st;have a2:∀{o:Δ},o.Nodup->(∀e∈o,e<=(bs st).length)->o.length<=100001:=λh1 R=>by have:=ig h1 R;omega
 induction h with
 | @emp i x O hk=>intro F s2 fr L R C D;have P:=L.nlen;have hi:=(N6.1 O).1;obtain ⟨a,ha,A⟩:=Xl L O;refine zR ?_;unfold uL;refine ⟨a,ha,by omega,by omega,x.arr,rfl,A,λH K=> ?_⟩;refine tR ?_;refine Uc (aq _ _ _) rfl rfl (gr x) ?_;rw [aR];intro M w;refine tR ?_;have J:F.le (F.set H (Y x.arr 225)):=ae _ K;have N:=aq F H (Y x.arr 225);generalize F.set H (Y x.arr 225)=F1 at*;refine ⟨x.k,by rw [av (ae _ w _ _ N)];rfl,λ_=>⟨⟨fr,⟨_,rfl,R.le (aa J (ae _ w))⟩,C,λe=> ?_⟩,aa J (ae _ w)⟩,λh=>absurd hk h⟩;exact (Ry (λf hf=>by rw [X];exact D f hf) e).symm
 | @rng i lo hi x O hk b4 b0 c3 b6=>intro F s2 fr L R C D;have P:=L.nlen;have a4:=(N6.1 O).1;obtain ⟨a,ha,A⟩:=Xl L O;refine zR ?_;unfold uL;refine ⟨a,ha,by omega,by omega,x.arr,rfl,A,λH K=> ?_⟩;refine tR ?_;refine Uc (aq _ _ _) rfl rfl (gr x) ?_;rw [aR];intro M w;refine tR ?_;have J:F.le (F.set H (Y x.arr 225)):=ae _ K;have N:=aq F H (Y x.arr 225);generalize F.set H (Y x.arr 225)=F1 at*;refine ⟨x.k,by rw [av (ae _ w _ _ N)];rfl,λh=>absurd h (by omega),λ_=>⟨λ_=> ?_,λh=>absurd hk h⟩⟩;refine AI (R.le J) (a2 C λf hf=>by rw [X];exact D f hf) D a9 N b4 b0 w λv F' b2 hv=> ?_;exact ⟨⟨_,hv,qh5 C,λe=>FI e⟩,aa J b2⟩
 | @seq i a b x t u na nb O hk a0 a3 ht hu it iu=>
  intro F s2 fr L R C D;have P:=L.nlen;have a4:=(N6.1 O).1;obtain ⟨ad,a1,A⟩:=Xl L O;refine zR ?_;unfold uL;refine ⟨ad,a1,by omega,by omega,x.arr,rfl,A,λH K=> ?_⟩;refine tR ?_;refine Uc (aq _ _ _) rfl rfl (gr x) ?_;rw [aR];intro M w;refine tR ?_;have N:=ae (Y #[] 3) w _ _ (aq F H (Y x.arr 225));have J:=aa (ae (Y x.arr 225) K) (ae (Y #[] 3) w);generalize (F.set H (Y x.arr 225)).set M (Y #[] 3)=F1 at*;have c1:∀{G:PH},F1.le G->G.cell (oB H 3 I)=V (U a):=λh=>by rw [av (h _ _ N),<- a0];rfl
  have c2:∀{G:PH},F1.le G->G.cell (oB H 4 I)=V (U b):=λh=>by rw [av (h _ _ N),<- a3];rfl
  refine ⟨x.k,by rw [av N];rfl,λh=>absurd h (by omega),λ_=>⟨λh=>absurd h (by omega),λ_=>⟨λ_=> ?_,λh=>absurd hk h⟩⟩⟩;refine ⟨_,c2 (au _),_,c1 (au _),?_⟩;refine (it (L.le J) (R.le J) C D).mono ?_;rintro _ F2 ⟨⟨o,⟨s3,rfl,h3⟩,ho,E⟩,Q⟩;refine ⟨s3,rfl,c2 Q,?_⟩;refine (iu (L.le (aa J Q)) h3 ho λf hf=>by rw [<- X];exact yp E f hf).mono ?_;rintro _ F3 ⟨⟨o2,⟨s4,rfl,h4⟩,W,B⟩,l3⟩;refine ⟨s4,rfl,⟨o2,⟨s4,rfl,h4⟩,W,λe=> ?_⟩,aa J (aa Q l3)⟩;rw [B e];exact Rz E e
 | @alt i a b x t u na nb O hk a0 a3 ht hu it iu=>
  intro F s2 fr L R C D;have P:=L.nlen;have a4:=(N6.1 O).1;obtain ⟨ad,a1,A⟩:=Xl L O;refine zR ?_;unfold uL;refine ⟨ad,a1,by omega,by omega,x.arr,rfl,A,λH K=> ?_⟩;refine tR ?_;refine Uc (aq _ _ _) rfl rfl (gr x) ?_;rw [aR];intro M w;refine tR ?_;have N:=ae (Y #[] 3) w _ _ (aq F H (Y x.arr 225));have J:=aa (ae (Y x.arr 225) K) (ae (Y #[] 3) w);generalize (F.set H (Y x.arr 225)).set M (Y #[] 3)=F1 at*;have c1:∀{G:PH},F1.le G->G.cell (oB H 3 I)=V (U a):=λh=>by rw [av (h _ _ N),<- a0];rfl
  have c2:∀{G:PH},F1.le G->G.cell (oB H 4 I)=V (U b):=λh=>by rw [av (h _ _ N),<- a3];rfl
  refine ⟨x.k,by rw [av N];rfl,λh=>absurd h (by omega),λ_=>⟨λh=>absurd h (by omega),λ_=>⟨λh=>absurd h (by omega),λ_=>⟨λ_=> ?_,λh=>absurd hk h⟩⟩⟩⟩;refine ⟨_,c1 (au _),_,c2 (au _),?_⟩;refine (it (L.le J) (R.le J) C D).mono ?_;rintro _ F2 ⟨⟨o,⟨s3,rfl,h3⟩,ho,E⟩,Q⟩;refine ⟨s3,rfl,c2 Q,?_⟩;refine (iu (L.le (aa J Q)) (R.le (aa J Q)) C D).mono ?_;rintro _ F3 ⟨⟨o2,⟨s4,rfl,h4⟩,W,B⟩,l3⟩;refine ⟨s4,rfl,?_⟩;have n1:=a2 ho (yp E);have n2:=a2 W (yp B);refine (lO (h3.le l3) h4 (by omega) (by omega)).mono ?_;rintro _ F4 ⟨⟨s5,rfl,h5⟩,l4⟩;refine ⟨s5,rfl,⟨_,⟨s5,rfl,h5⟩,nB _ _ ho,λe=> ?_⟩,aa J (aa Q (aa l3 l4))⟩;rw [ie,E,B];exact (RA e).symm
 | @rep i a x t na O hk a0 ht it=>
  intro F s2 fr L R C D;have P:=L.nlen;have a4:=(N6.1 O).1;obtain ⟨ad,a1,A⟩:=Xl L O;refine zR ?_;unfold uL;refine ⟨ad,a1,by omega,by omega,x.arr,rfl,A,λH K=> ?_⟩;refine tR ?_;refine Uc (aq _ _ _) rfl rfl (gr x) ?_;rw [aR];intro M w;refine tR ?_;have N:=ae (Y #[] 3) w _ _ (aq F H (Y x.arr 225));have J:=aa (ae (Y x.arr 225) K) (ae (Y #[] 3) w);generalize (F.set H (Y x.arr 225)).set M (Y #[] 3)=F1 at*;have c1:∀{G:PH},F1.le G->G.cell (oB H 3 I)=V (U a):=λh=>by rw [av (h _ _ N),<- a0];rfl
  refine ⟨x.k,by rw [av N];rfl,λh=>absurd h (by omega),λ_=>⟨λh=>absurd h (by omega),λ_=>⟨λh=>absurd h (by omega),λ_=>⟨λh=>absurd h (by omega),λ_=> ?_⟩⟩⟩⟩;unfold Fb
  refine ⟨λm os n F'=>∃(o:Δ) (k:Nat),n=(k:Int) - 1/\k<=o.length+1/\m=st.size+3 - k/\F1.le F'/\RdS F' os 1 (il o)/\o.Nodup/\(∀f∈fr,f∈o)/\(∀e∈o,Bh (Lg (.rep t.pat)) (bs st) fr e)/\(k=o.length+1->∀e,Bh (Lg t.pat) (bs st) o e->e∈o),st.size+3,
   ⟨fr,0,by omega,by omega,by omega,au _,R.le J,C,λ_ h=>h,λe he=>⟨e,he,ru _,by rw [X];exact D e he,by rw [yl];exact .nil⟩,λh=>by omega⟩,?_⟩
  rintro _ os _ F2 ⟨o,k,rfl,b8,rfl,Q,h3,ho,a5,E,a8⟩;unfold E9;have c5:=nC h3;have a7:∀e∈o,e<=(bs st).length:=λe he=>by obtain ⟨f,_,_,g,_⟩:=E e he;exact g
  have b5:=ig ho a7;refine ⟨λc4=> ?_,λb7=> ?_⟩
  ·refine ⟨_,c1 Q,?_⟩;refine (it (L.le (aa J Q)) h3 ho λf hf=>by rw [<- X];exact a7 f hf).mono ?_;rintro _ F3 ⟨⟨o2,⟨s4,rfl,h4⟩,W,B⟩,l3⟩;refine ⟨s4,rfl,?_⟩;have n2:=a2 W (yp B);refine (lO (h3.le l3) h4 (by omega) (by omega)).mono ?_;rintro _ F4 ⟨⟨s5,rfl,h5⟩,l4⟩;obtain ⟨kk,b1⟩:=vl o2 o;refine ⟨s5,rfl,st.size+3 - (o.length+1),by omega,zX o o2,o.length+1,by omega,by rw [b1,tT];omega,rfl,aa Q (aa l3 l4),h5,nB _ _ ho,λf hf=>(ie f o2 o).2 (.inl (a5 f hf)),λe he=> ?_,λb3 e he=> ?_⟩
   ·rcases (ie e o2 o).1 he with h|h
    ·exact E e h
    ·exact Mc E ((B e).1 h)
   ·have a6:=HH (o:=o) (ms:=o2) (by omega);refine (ie e o2 o).2 (.inr ((B e).2 ?_));obtain ⟨f,hf,g⟩:=he;refine ⟨f,?_,g⟩;rcases (ie f o2 o).1 hf with h|h
    ·exact h
    ·exact a6 f h
  ·unfold E8;exact ⟨⟨o,⟨os,rfl,h3⟩,ho,RB a5 E (a8 (by omega))⟩,aa J Q⟩
theorem HJ {P:Δ->Prop} {w:Δ}:Bh P w [0] w.length↔P w:=by
 constructor
 ·rintro ⟨f,g,_,_,h⟩;simp at g;subst g;simpa [VJ] using h
 ·intro h;exact ⟨0,by simp,by omega,ru _,by simpa [VJ] using h⟩
theorem qg5 {s:Sl} {l:List Nd} (E:RdS F s 5 (dF l)) (st:ο) (G:st.size<=100000):ν 121 #[s.v,ph st] F λr M=>(∃q:Bool,r=nW q/\(q=nk↔fJ l=0/\Xn l (bs st)))/\F.le M:=by
 refine qeC ?_;unfold QA;refine (qhk E).mono ?_;rintro _ F2 ⟨rfl,H⟩;refine ⟨_,rfl,λD=> ?_,λD=>⟨⟨mD,rfl,λh=>(by cases h),λh=>absurd h.1 D⟩,H⟩⟩;obtain ⟨K,X⟩:=uO D;obtain ⟨ns,Q⟩:=iJ K;have C:=E.nlen;have W:=Yg.2 K.ne;have N:i64.wrap ((s.len:Int) - 1)=((l.length - 1:Nat):Int):=by rw [C,aJ (by omega)];omega
 rw [N];intro g B;refine tR ?_;have A:F2.le (F2.set g (Y #[rV .i64 0] 3)):=ae _ B;have J:=aq F2 g (Y #[rV .i64 0] 3);generalize F2.set g (Y #[rV .i64 0] 3)=F3 at*;refine (AJ G Q (s2:=⟨V ⟨g,0,I⟩,1,1⟩) (fr:=[0]) (E.le (aa H A)) (RdS.new J rfl rfl (ru _)) (by simp) (by simp)).mono ?_;rintro _ F4 ⟨⟨o,⟨P,rfl,R⟩,O,w⟩,L⟩;refine ⟨P,rfl,?_⟩;have n2:=ig O (yp w);rw [de] at n2;refine (C8 R (by omega) st.size).mono ?_;rintro _ F5 ⟨rfl,e⟩;obtain rfl:=e.symm;refine ⟨_,rfl,⟨_,rfl,?_⟩,aa (aa H A) L⟩;rw [δ,w,<- de,HJ];exact ⟨λh=>⟨D,h⟩,λh=>h.2⟩
end
section
theorem St.up {G F r:PH} {As:List (Ψ)} (h:St G F As) (l:F.le r):St G r As:=by obtain ⟨B,g,w⟩:=h.ex;exact ⟨aa h.le l,B,λi A hi=>⟨(g i A hi).1,(g i A hi).2.1,aa (g i A hi).2.2 l⟩,w⟩
section
variable {F:PH} {v:Γ}
theorem pC {t:Tr} (ha:DV F v (pj t)) (R:t.ok) (hf:(aU t).length<=4096) {c:Int} (h0:0<=c) (N:c<18446744073709551616):ν 132 #[nQ v,rV .u64 c] F λr K=>r=nW (t.ev (wu c))/\F.le K:=by
 obtain ⟨s,rfl,hr⟩:=ha;have W:=bz R;have C:RdS F s 3 (aV (brs (aU t))):=hr;have D:=C.blen;rw [aO] at D;refine qdI ?_;unfold Pw;intro Q M;refine tR ?_;have P:=ae (Y #[s.v,U (pj t).2] 33) M;have q2:=aq F Q (Y #[s.v,U (pj t).2] 33);generalize F.set Q (Y #[s.v,U (pj t).2] 33)=F3 at*;refine ⟨(num (aU t) t:Int),by rw [av q2];rfl,?_⟩;refine ⟨λm i K=>∃A,i=(num (aU t) A:Int)/\inn (aU t) A/\m=A.sz/\F3.le K/\A.ev (wu c)=t.ev (wu c),t.sz,⟨t,rfl,bH R,rfl,PH.le_rfl,rfl⟩,?_⟩;rintro m i F4 ⟨A,rfl,g,rfl,G,h⟩;unfold Eo;refine ⟨λa2=> ?_,λa0=> ?_⟩
 ·cases A with
  |qa6 x=>have:=cK (aU t) x;omega
  |qa7 w l r=>
   obtain ⟨il,ir⟩:=W.inn_kids g;obtain ⟨O,_⟩:=W.inn_ok g;have hg:=cY (S:=aU t) (t:=qa7 w l r) rfl;have a1:=dP g;have L:=oT (n:=num (aU t) (qa7 w l r)) (by omega) hg;obtain ⟨p,hp,E,_⟩:=VX (C.le (P.trans G)) (jX (eB (cC g rfl) rfl));refine ⟨s,by rw [av (G _ _ q2)];rfl,p,hp,by rw [L];omega,by rw [L];omega,aW (br (aU t) (qa7 w l r)),rfl,by rw [L];exact E,?_⟩;intro b6 J;refine tR ?_;refine Uc (aq _ _ _) rfl rfl (iE _) ?_;rw [aR];have X:=G.trans (ae (Y (aW (br (aU t) (qa7 w l r))) 201) J);refine ⟨(w:Int),by rw [av (aq _ _ _)];rfl,by rw [iD (by omega) (by omega)];omega,λH=> ?_,λH=> ?_⟩
   ·rw [iD (x:=(w:Int)) (by omega) (by omega)] at H;have B:=(mR h0 N O).1 H;refine ⟨_,by rw [av (aq _ _ _)];rfl,r.sz,by simp only [sz];omega,r,rfl,ir,rfl,X,?_⟩;rw [<- h];simp [Tr.ev,B]
   ·have B:¬wu c w=nk:=λhc=>H (by rw [iD (x:=(w:Int)) (by omega) (by omega)];exact (mR h0 N O).2 hc);refine ⟨_,by rw [av (aq _ _ _)];rfl,l.sz,by simp only [sz];omega,l,rfl,il,rfl,X,?_⟩;rw [<- h];simp [Tr.ev,B]
 ·unfold Em;refine ⟨?_,P.trans G⟩;rw [<- h];cases A with
  |qa6 x=>cases x<;>simp [num,Tr.ev]
  |qa7 w l r=>have:=cY (S:=aU t) (t:=qa7 w l r) rfl;omega
end
abbrev Ps (α:Type):=Δ->Option (α×Δ)
section
variable {F G:PH} {g:Gr} {c:Int}
theorem C9 {v:Γ} {d:wa} {n:Nat} (hd:DV F v d) (A:iB d n) (c0:0<=c) (c1:c<18446744073709551616):ν 132 #[nQ v,rV .u64 c] F λr B=>r=nW (jm d c)/\F.le B:=by obtain ⟨t,h,rfl,_,w,_⟩:=uA A;rw [mU ⟨h,w⟩];exact pC hd h w c0 c1
theorem FJ {v:Γ} (J:GV F v g) (E:OkG g) (c0:0<=c) (c1:c<18446744073709551616):ν 96 #[nQ v,rV .u64 c] F λr M=>r=nW (Uw g c)/\F.le M:=by
 obtain ⟨Q,_⟩:=fL E.large;have H:=E.fam.2.2.1;obtain ⟨A,n,t,s,p,l,f,rfl,C⟩:=J;have K:=C.c.len;refine aad ?_;unfold Wk;refine fresh λP O h q2 _=>⟨_,ld q2 rfl,λD=> ?_,λD=> ?_⟩
 ·refine ⟨#[n.v,U g.fam.2],rfl,ga q2 rfl,?_⟩;refine (C9 (DV.mk (C.n.le h)) H c0 c1).mono ?_;rintro _ F2 ⟨rfl,w⟩;refine ⟨_,rfl,?_,aa h w⟩;unfold Uw;rw [show min g.qa4.length 64=64 by omega,ε,Wz];rw [Zb _ (by decide)];exact Int.ediv_eq_zero_of_lt c0 c1
 ·have L:u64.wrap (A.len:Int)=(A.len:Int):=by
   have N:A.len<=64:=by omega
   rw [iD (by omega) (by omega)]
  rw [L,N4,K];refine ⟨by omega,λB=> ?_,λB=> ?_⟩
  ·refine ⟨#[n.v,U g.fam.2],rfl,ga q2 rfl,?_⟩;refine (C9 (DV.mk (C.n.le h)) H c0 c1).mono ?_;rintro _ F2 ⟨rfl,w⟩;refine ⟨_,rfl,?_,aa h w⟩;unfold Uw;rw [ε (show Int.fdiv c (2 ^ min g.qa4.length 64)=0 from B),Wz]
  ·refine ⟨?_,h⟩;unfold Uw;rw [η (show ¬Int.fdiv c (2 ^ min g.qa4.length 64)=0 from B),W6]
end
theorem qh6 (g:Gr) (y:Ru):(ruleG g y).qa0=g.qa0/\(ruleG g y).qa1=g.qa1:=by
 unfold ruleG nR ki tokG
 repeat' split
 all_goals exact ⟨rfl,rfl⟩
theorem lP:∀(l:List Ru) (g:Gr),(dL l g).qa0=g.qa0/\(dL l g).qa1=g.qa1
 |[],g=>⟨rfl,rfl⟩
 |y::l,g=>by have:=lP l (ruleG g y);have h:=qh6 g y;exact ⟨this.1.trans h.1,this.2.trans h.2⟩
theorem AK (x:Rw) (g:Gr):(famG x g).qa0=g.qa0/\(famG x g).qa1=g.qa1:=by unfold famG;split<;>exact ⟨rfl,rfl⟩
def lQ (p:Pr):Prop:=∃s∈p.right,s.t=nk
def pi (p:Pr):Prop:=∀s∈p.right,s.t=mD->p.left<s.i
theorem HK (p:Pr) (m:Nat):(cD p m).left=p.left/\(cD p m).right=p.right:=by
 unfold cD
 repeat' split
 all_goals exact ⟨rfl,rfl⟩
theorem AL {l:List Sy} (h:du l≠0):∃s∈l,s.t=nk:=by have:(l.filter (·.t))≠[]:=λe=>h (by unfold du;rw [e];rfl);obtain ⟨s,g⟩:=List.exists_mem_of_ne_nil _ this;exact ⟨s,(X2.1 g).1,(X2.1 g).2⟩
theorem lR {x:Rw}:∀(l:List Ln) (g:Gr),(dv x l g).qa1=g.qa1/\∀p∈(dv x l g).qa0,p∈g.qa0\/((∃k,p.name=bh k)/\(lQ p\/(bF x=mD/\pi p)))
 |[],g=>⟨rfl,λp B=> .inl B⟩
 |y::l,g=>by
  obtain ⟨e,ih⟩:=lR l (lineG g y (bF x));have E:(dv x (y::l) g)=dv x l (lineG g y (bF x)):=rfl;rw [E];by_cases w:du (aP g.qa1.length y)=0/\(bF x=nk\/cT (y.left % g.qa1.length) (aP g.qa1.length y)=mD)
  ·have D:lineG g y (bF x)=g:=by unfold lineG;rw [Χ w]
   rw [D] at e ih ⊢;exact ⟨e,ih⟩
  ·have D:lineG g y (bF x)={g with qa0:=g.qa0++[cD (jc g y) y.mark]}:=by unfold lineG;rw [Υ w]
   rw [D] at e ih ⊢;refine ⟨e,λp B=> ?_⟩;rcases ih p B with h|h
   ·rcases vj.1 h with h|h
    ·exact .inl h
    ·refine .inr ?_;rw [vu.1 h];obtain ⟨G,H⟩:=HK (jc g y) y.mark;refine ⟨⟨g.qa0.length,by rw [rS];rfl⟩,?_⟩;unfold lQ pi;rw [G,H];by_cases C:du (aP g.qa1.length y)=0
     ·refine .inr ⟨?_,λs F A=> ?_⟩
      ·cases hk:bF x with
       |false=>rfl
       |true=>exact absurd ⟨C,.inl hk⟩ w
      ·have r:cT (y.left % g.qa1.length) (aP g.qa1.length y)=nk:=by
        cases r:cT (y.left % g.qa1.length) (aP g.qa1.length y) with
        |true=>rfl
        |false=>exact absurd ⟨C,.inr r⟩ w
       unfold cT at r;rw [VA] at r;have:=r s F;rw [A,Bool.false_or] at this;exact ζ this
     ·exact .inl (AL C)
   ·exact .inr h
theorem AM (x:Rw):(aS x).qa1=(cU x).qa1/\∀p∈(aS x).qa0,p∈(cU x).qa0\/((∃k,p.name=bh k)/\(lQ p\/(bF x=mD/\pi p))):=by unfold aS;obtain ⟨w,B⟩:=lP (x.rules.take 6) (dv x (x.lines.take (cN x)) (famG x (cU x)));obtain ⟨A,h⟩:=lR (x:=x) (x.lines.take (cN x)) (famG x (cU x));obtain ⟨c1,r⟩:=AK x (cU x);rw [w,B,A,r];refine ⟨rfl,λp g=> ?_⟩;have:=h p g;rwa [c1] at this
def Me:ο:=⟨#[99,121,99,108,101]⟩
def FK:ο:=⟨#[110,111,116,104,105,110,103]⟩
def Ud (s:ο):Prop:=(s.size≠2\/s.data[0]?≠V 113)/\s≠Me/\s≠FK
instance (s:ο):Decidable (Ud s):=by unfold Ud;infer_instance
theorem HM {F:PH} {a:Addr} {x:Pr} {r n l:Sl} (h:F.row a (x.arr r n l)):F.row (a.add 3) #[n.v,U x.cond.2]:=p6 h rfl
theorem ug {F:PH} {a:Addr} {x:Tk} {p n:Sl} (h:F.row a (x.arr p n)):F.row (a.add 5) #[n.v,U x.cond.2]:=p6 h rfl
def AN (g:Gr) (cf:Cf):Dtr->Bool
 | .lf tk _ _=>(eI g tk).ev cf
 | .nd pr _ _ _=>match VI g pr with
  |some x=>(vi x.cond).ev cf
  |none=>mD
def HN:Dtr->Bool
 | .lf _ _ _=>nk
 | .nd _ fr to ks=>dY fr nk (ks.map Dtr.root) to
def Zl (g:Gr):Dtr->Bool
 | .lf _ _ _=>mD
 | .nd pr _ _ _=>decide (((VI g pr).map Pr.left).getD 0=g.start)
def vn (g:Gr) (cf:Cf) (T:Dtr):Bool:=Zl g T && (xx T).all λm=>AN g cf m && HN m
section
variable {F G:PH} {g:Gr} {k:Nat} {T:Dtr} {c:Int}
theorem qZ {v:Γ} {t:Tr} (A:k<=6) (h:Sx k t) (hd:DV F v (pj t)) (c0:0<=c) (c1:c<18446744073709551616):ν 76 #[nQ v,rV .u64 c] F λr w=>r=nW (t.ev (wu c))/\F.le w:=by rw [<- mU (h.small A) c];exact sS hd c0 c1
theorem yr {α:Type} {p:α->Bool} {l:List α} {j:Nat} {x:α} (h:l[j]? =V x):(l.take (j+1)).all p=((l.take j).all p && p x):=by rw [Wx,h,List.all_append];simp
theorem HO {α:Type} {p:α->Bool} {l:List α} {j:Nat} {x:α} (r:l[j]? =V x) (h:p x=mD):l.all p=mD:=by rw [List.all_eq_false];exact ⟨x,vO r,by rw [h];decide⟩
theorem AO {v:Γ} {t:Sl} (hg:GV F v g) (hk:OkK g k) (hf:dT g T) (hN:szN T<=2000000) (ht:RL F t (vA T)) (c0:0<=c) (c1:c<18446744073709551616):
  ν 46 #[nQ v,rV .u64 c,t.v] F λr E=>(∃s:Sl,r=nI s/\s.qa5.isNone= !vn g (wu c) T)/\F.le E:=by
 have f3:=eV T;have e8:=hg;obtain ⟨cs,n,tk,s,p,l,f,rfl,hs⟩:=hg;have et:t.len=szN T:=ht.len;have f6:=hs.t.len;have ep:=hs.p.len;refine qgo ?_;unfold Vo;refine fresh λb3 F1 l1 q3 _=>⟨_,rfl,ai q3,?_⟩;refine (kv (e8.le l1) hf hN (ht.le l1)).mono ?_;rintro r F2 ⟨⟨es,rfl,b2⟩,l2⟩;have C:=aa l1 l2;refine ⟨es,rfl,?_⟩;have f4:es.len=szN T:=by have:=b2.len;rw [this,ub,jH]
 have K:es.qa5.isNone=mD:=by obtain ⟨b,o,h1,_⟩:=lV b2 (wb (eM T));rw [h1];rfl
 refine ⟨λD=>(by rw [K] at D;cases D),λ_=> ?_⟩;have no:∀E,F2.le E->vn g (wu c) T=mD->(∃s:Sl,nI pm=nI s/\s.qa5.isNone= !vn g (wu c) T)/\F.le E:=λE lF h=>⟨⟨pm,rfl,by rw [h];rfl⟩,aa C lF⟩;have h0:(vA T)[0]? =V T.root:=by rw [kZ];rfl
 refine t8 (ht.le C) (by decide) (Vd _) (by omega) λa cc x hx a0 hc=> ?_;rw [show (nX 0)=0 from rfl] at hx a0;obtain rfl:=yR (h0.symm.trans hx);obtain rfl:cc=T.root.arr:=hc;refine ⟨_,aE a0 rfl,λX=>no _ (au _) ?_,λL=> ?_⟩
 ·cases A:T with
  |lf=>rfl
  |nd pr fr to ks=>rw [A] at X hf;obtain ⟨_,_,x,hx,_⟩:=hf.here;exact absurd (bB hx).1 (Int.not_le.2 X)
 obtain ⟨pr,fr,to,ks,A⟩:∃pr fr to ks,T=.nd pr fr to ks:=by
  cases T with
  |lf=>exact absurd (by show (-1:Int)<0;decide) L
  |nd pr fr to ks=>exact ⟨pr,fr,to,ks,rfl⟩
 have b6:=hf.here;rw [A] at b6;obtain ⟨_,_,x,b1,_⟩:=b6;obtain ⟨x0,x1,x2⟩:=bB b1;have d3:T.root.pr=pr:=by rw [A];rfl
 have a1:=l2 _ _ q3;have c7:=hs.le C;refine ⟨p,ld a1 rfl,?_⟩;refine t8 (ht.le C) (by decide) (Vd _) (by omega) λa' d2 x' b8 H d0=> ?_;rw [show (nX 0)=0 from rfl] at b8 H;obtain rfl:=yR (h0.symm.trans b8);obtain rfl:d2=T.root.arr:=d0;refine ⟨pr,by rw [<- d3];exact aE H rfl,?_⟩;refine t8 c7.p (by decide) x0 (by omega) λa2 c2 y O a9 e0=> ?_;obtain rfl:y=x:=yR (O.symm.trans x2);obtain ⟨r2,n2,l3,rfl,_⟩:=e0;refine ⟨_,aM a9 (i:=1) rfl,_,ld a1 rfl,λc8=>no _ (au _) ?_,λe6=> ?_⟩
 ·unfold vn Zl;rw [A];dsimp only;rw [b1,VD,Option.getD_some,decide_eq_false c8,W6]
 have d1:Zl g T=nk:=by unfold Zl;rw [A];dsimp only;rw [b1,VD,Option.getD_some];exact decide_eq_true (Decidable.not_not.1 e6)
 refine bD (BJ · c t b3 es _) (szN T) (λj E=>F2.le E/\((xx T).take j).all (λm=>AN g (wu c) m && HN m)=nk) ⟨au _,rfl⟩ ?_;rintro j F3 Nx hj ⟨l3,J⟩ next;have a3:=aa C l3;unfold BJ;refine ⟨λP=> ?_,λf5=> ?_⟩
 ·have P:j<szN T:=by omega
  obtain ⟨m,hm⟩:=gS P;have e9:=gR hm;have Q:=hf m (dn hm);have b7:(xx T)[j]? =V m:=hm;have N:(AN g (wu c) m && HN m)=mD->vn g (wu c) T=mD:=λh=>by unfold vn;rw [HO b7 h,Bool.and_false]
  have go:(AN g (wu c) m && HN m)=nk->∀(R:VR) E,F3.le E->wH Nx c t b3 es (j:Int) R E:=λh R E lF=>by unfold wH;rw [aC P];exact next E P ⟨aa l3 lF,by rw [yr b7,J,h];rfl⟩
  refine t8 (ht.le a3) (by decide) (by omega) (by omega) λa5 c5 x5 b5 a7 c9=> ?_;rw [N4,e9] at b5;obtain rfl:=yR b5;obtain rfl:c5=m.root.arr:=c9;refine ⟨_,rfl,a7,?_⟩;refine (St.start F3).var (by simp [ak]) (λb9 G4 F4 l4 q9 h=> ?_);have b0:=h.le _ _ q9;have B:=aa l4 h.le;have e7:=aa a3 B;have c4:=aa l3 B _ _ a1;have b4:=hs.le e7;refine ⟨_,ld b0 rfl,?_⟩;cases hmm:m with
  |lf M e4 d4=>
   rw [hmm] at Q;obtain ⟨f1,f2,_⟩:=Q;have O:∃y,g.qa2[M.toNat]? =V y:=⟨_,N5 (by omega)⟩;obtain ⟨y,O⟩:=O;have ed:eI g M=vi y.cond:=by unfold eI;rw [O]
   obtain ⟨sx,sd⟩:=hk.tok (vO O);refine ⟨λ_=>⟨tk,ld c4 rfl,M,ld b0 (by rw [hmm];rfl),?_⟩,λD=>absurd (by show (-1:Int)<0;decide) D⟩;refine t8 b4.t (by decide) f1 (by omega) λa6 c6 y6 a4 w a8=> ?_;obtain rfl:y6=y:=yR (a4.symm.trans O);obtain ⟨pp,nn,rfl,_,L⟩:=a8;refine ⟨#[nn.v,U y6.cond.2],rfl,ug w,?_⟩;refine (qZ hk.le sx (by rw [<- sd];exact DV.mk L) c0 c1).mono ?_;rintro r F5 ⟨rfl,l5⟩;refine ⟨_,rfl,λD=> ?_,λO=> ?_⟩
   ·refine no F5 (aa l3 (aa B l5)) (N ?_);rw [hmm];show ((eI g M).ev (wu c) && nk)=mD;rw [ed];simpa using D
   ·refine go ?_ _ F5 (aa B l5);rw [hmm];show ((eI g M).ev (wu c) && nk)=nk;rw [ed];simpa using O
  |nd e5 e4 d4 f9=>
   rw [hmm] at Q;obtain ⟨_,_,y,c3,_⟩:=Q;obtain ⟨y0,y1,y2⟩:=bB c3;obtain ⟨sx,sd,_⟩:=hk.prod (vO y2);refine ⟨λD=>absurd y0 (Int.not_le.2 D),λ_=>⟨p,ld c4 rfl,e5,ld b0 (by rw [hmm];rfl),?_⟩⟩;refine t8 b4.p (by decide) y0 (by omega) λa6 c6 y6 a4 w a8=> ?_;obtain rfl:y6=y:=yR (a4.symm.trans y2);obtain ⟨rr,nn,ll,rfl,_,L,_⟩:=a8;refine ⟨#[nn.v,U y6.cond.2],rfl,HM w,?_⟩;refine (qZ hk.le sx (by rw [<- sd];exact DV.mk L) c0 c1).mono ?_;rintro r F5 ⟨rfl,l5⟩;have e1:AN g (wu c) m=(vi y6.cond).ev (wu c):=by rw [hmm];unfold AN;dsimp only;rw [c3]
   have W:=aa l3 (aa B l5);refine ⟨_,rfl,λD=> ?_,λO=> ?_⟩
   ·refine no F5 W (N ?_);rw [e1];rw [show (vi y6.cond).ev (wu c)=mD by simpa using D,W6]
   ·refine (qg6 hm hN (b2.le W) (ht.le (aa C W))).mono ?_;rintro r F6 ⟨rfl,rfl⟩;have e2:HN m=dY m.root.fr nk (m.kids.map Dtr.root) m.root.to:=by rw [hmm];rfl
    refine ⟨_,rfl,λD=> ?_,λe3=> ?_⟩
    ·refine no _ W (N ?_);rw [e2,show dY m.root.fr nk (m.kids.map Dtr.root) m.root.to=mD by simpa using D,Bool.and_false]
    ·refine go ?_ _ _ (aa B l5);rw [e1,e2,show (vi y6.cond).ev (wu c)=nk by simpa using O,show dY m.root.fr nk (m.kids.map Dtr.root) m.root.to=nk by simpa using e3];rfl
 ·unfold Ji;obtain rfl:j=szN T:=by omega
  rw [zh (by rw [cV];exact ru _)] at J;refine ⟨⟨es,rfl,?_⟩,a3⟩;unfold vn;rw [K,d1,J];rfl
end
section
variable {F G:PH} {g:Gr} {k:Nat} {T m:Dtr} {c:Int}
def X5 (g:Gr) (c:Int) (T:Dtr):Int:=if Xs g c=nk then (if vn g (wu c) T=nk then 0 else 90) else 1
theorem qh7 {v:Γ} (E:Tab F) (A:GV F v g) (H:GdG g k) (c0:0<=c) (c1:c<18446744073709551616):ν 45 #[nQ v,rV .u64 c] F λr L=>r=U (if Xs g c=nk then 0 else 1)/\F.le L:=by
 refine qgn ?_;unfold Vn;refine fresh λO M C q2 _=>⟨v,A.size,ai q2,?_⟩;refine (ue (E.le C) (A.le C) H).mono ?_;rintro r F2 ⟨rfl,D⟩;have h:=aa C D;refine ⟨_,rfl,λB=>absurd rfl B,λ_=>⟨v,A.size,ai (D _ _ q2),?_⟩⟩;refine (Jo (E.le h) (A.le h) H.sz c0 c1).mono ?_;rintro r N ⟨rfl,J⟩;have w:=aa h J;refine ⟨_,rfl,λB=>⟨?_,w⟩,λK=>⟨?_,w⟩⟩
 ·rw [Υ (by simpa using B)]
 ·rw [Χ (by simpa using K)]
theorem AQ {v:Γ} {t:Sl} (K:Tab F) (C:GV F v g) (J:GdG g k) (P:dT g T) (M:szN T<=2000000) (N:RL F t (vA T)) (c0:0<=c) (c1:c<18446744073709551616):
  ν 22 #[nQ v,rV .u64 c,t.v] F λr O=>r=U (X5 g c T)/\F.le O:=by
 refine qgl ?_;unfold Vl;refine fresh λR Q D q3 _=>⟨v,C.size,ai q3,?_⟩;refine (qh7 (K.le D) (C.le D) J c0 c1).mono ?_;rintro r F2 ⟨rfl,E⟩;have h:=aa D E;unfold X5;refine ⟨_,rfl,λA=>⟨?_,h⟩,λB=>⟨v,C.size,ai (E _ _ q3),?_⟩⟩
 ·by_cases e:Xs g c=nk
  ·rw [Χ e] at A;exact absurd rfl A
  ·rw [Υ e,Υ e]
 ·have e:Xs g c=nk:=by
   by_cases e:Xs g c=nk
   ·exact e
   ·rw [Υ e] at B;exact absurd B (by decide)
  refine (AO (C.le h) J.ok P M (N.le h) c0 c1).mono ?_;rintro r W ⟨⟨s,rfl,H⟩,L⟩;have w:=aa h L;rw [Χ e];refine ⟨s,rfl,λA=>⟨?_,w⟩,λB=>⟨?_,w⟩⟩
  ·rw [H] at A;rw [Υ (by simpa using A)]
  ·rw [H] at B;rw [Χ (by simpa using B)]
theorem FL {v:Γ} {t:Sl} {i:Nat} (hT:Tab F) (C:GV F v g) (X:GdG g k) (hf:dT g T) (P:szN T<=2000000) (ht:RL F t (vA T)) (K:bC T i=V m):
  ν 25 #[nQ v,t.v,U (i:Int)] F λr L=>(∃s,r=po #[nI s,nW nk]/\RL L s ((gK (bQ i m.kids) m.kids.length).map Int.ofNat))/\F.le L:=by
 have a0:=d6 K;refine qgm ?_;unfold Vm;refine fresh λb3 F1 J q3 _=>⟨v,C.size,ai q3,?_⟩;refine (ue (hT.le J) (C.le J) X).mono ?_;rintro r F2 ⟨rfl,N⟩;have h:=aa J N;refine ⟨_,rfl,λA=>absurd rfl A,λ_=>⟨v,C.size,ai (N _ _ q3),?_⟩⟩;refine (kv (C.le h) hf P (ht.le h)).mono ?_;rintro r F3 ⟨⟨O,rfl,w⟩,R⟩;have H:=aa h R;have W:O.len=szN T:=by rw [w.len,ub,jH]
 refine ⟨O,rfl,λA=>absurd A (by omega),λ_=>⟨λA=>absurd A (by omega),λ_=> ?_⟩⟩;refine qgq ?_;unfold Vq;refine fresh λb4 F4 Q q4 _=>fresh λb5 F5 M q5 _=>⟨_,rfl,?_⟩;have B:=aa Q M;refine aat ?_;unfold Xq;refine (qhc K P (M _ _ q4) q5 (w.le B)).mono ?_;rintro r F6 ⟨⟨D,rfl,E⟩,l6⟩;exact ⟨D,rfl,D,rfl,⟨D,rfl,E⟩,aa H (aa B l6)⟩
theorem qcQ:∃b z,SlT 43 47 4 b z:=⟨_,_,underlying43,aaH,aaN,rfl,by decide,by decide⟩
end
variable {R:VR} {F:PH}
set_option maxHeartbeats 4000000
def Uf (n:Γ) (o:Int) (c:ο) (f:Sl) (p:Int) (R:VR) (F:PH):Prop:=Nb F (Y n 39) λr F=>Nb F (Y #[(U p)] 3) λq F=>Lr F 9 (Z r 0) λg=>ν 31 #[nQ g,rV .u64 o,ph c,nI f] F λv F=>∃e,∃a,v=(po #[pk e,(U a)])/\Nb F (Y (#[pk I]) 98) λd F=>pv F (Z d 0) (pk e) λF=>Bc (a≠0) (R (po #[nI pm,(U a)]) F) (Li F (Z q 0) λh=>Bc (h<0) (R (po #[nI pm,(U 1)]) F) (Li F (Z q 0) λi=>Bc ((f.len:Int)<=i) (R (po #[nI pm,(U 1)]) F) (Nb F (Y (#[tX I 0 0]) 48) λj F=>Lq F (Z d 0) λk=>∃b,k=V b/\pv F (nV b 14) (.func (.func 32) #[] #[(Pp q),(Pp j),(Pp d)]) λF=>Lq F (Z d 0) λl=>Cu 33 #[pk l] F λF=>Ls F (Z j 0) λm=>R (po #[nI m,(U 0)]) F)))
theorem qfd {b:Γ} {c:Int} {a:ο} {d:Sl} {e:Int} (h:Uf b c a d e R F):ν 11 #[nQ b,rV .u64 c,ph a,nI d,(U e)] F R:=Rx.Λ .N h
def Ug (n:Γ) (o:Int) (c:ο) (f:Sl) (p:Int) (R:VR) (F:PH):Prop:=Nb F (Y n 39) λr F=>Nb F (Y #[(U p)] 3) λq F=>Lr F 9 (Z r 0) λg=>ν 31 #[nQ g,rV .u64 o,ph c,nI f] F λv F=>∃e,∃a,v=(po #[pk e,(U a)])/\Nb F (Y (#[pk I]) 98) λd F=>pv F (Z d 0) (pk e) λF=>Bc (a≠0) (R (po #[nI pm,(U a)]) F) (Li F (Z q 0) λh=>Bc (h<0) (R (po #[nI pm,(U 1)]) F) (Li F (Z q 0) λi=>Bc ((f.len:Int)<=i) (R (po #[nI pm,(U 1)]) F) (Nb F (Y (#[tX I 0 0]) 48) λj F=>Lq F (Z d 0) λk=>∃b,k=V b/\pv F (nV b 13) (.func (.func 36) #[] #[(Pp q),(Pp j),(Pp d)]) λF=>Lq F (Z d 0) λl=>Cu 33 #[pk l] F λF=>Ls F (Z j 0) λm=>R (po #[nI m,(U 0)]) F)))
theorem qfe {b:Γ} {c:Int} {a:ο} {d:Sl} {e:Int} (h:Ug b c a d e R F):ν 13 #[nQ b,rV .u64 c,ph a,nI d,(U e)] F R:=Rx.Λ .N h
def Uh (k:Γ) (l:Int) (c:ο) (m:Sl) (R:VR) (F:PH):Prop:=Nb F (Y k 39) λn F=>Lr F 9 (Z n 0) λf=>ν 31 #[nQ f,rV .u64 l,ph c,nI m] F λv F=>∃e,∃a,v=(po #[pk e,(U a)])/\Nb F (Y (#[pk I]) 98) λd F=>pv F (Z d 0) (pk e) λF=>Bc (a≠0) (R (po #[nI pm,(U a)]) F) (Nb F (Y (#[tX I 0 0]) 52) λg F=>Lq F (Z d 0) λh=>∃b,h=V b/\pv F (nV b 13) (.func (.func 38) #[] #[(Pp d),(Pp g)]) λF=>Lq F (Z d 0) λi=>Cu 33 #[pk i] F λF=>Ls F (Z g 0) λj=>R (po #[nI j,(U 0)]) F)
theorem qff {b:Γ} {c:Int} {a:ο} {d:Sl} (h:Uh b c a d R F):ν 15 #[nQ b,rV .u64 c,ph a,nI d] F R:=Rx.Λ .N h
def Ui (e:Γ) (f:Int) (b:ο) (g:Sl) (R:VR) (F:PH):Prop:=Nb F (Y e 39) λh F=>Lr F 9 (Z h 0) λd=>ν 15 #[nQ d,rV .u64 f,ph b,nI g] F λv F=>∃c,∃a,v=(po #[nI c,(U a)])/\Bc (a=0) (R (nW (decide ((c.len:Int)=0))) F) (R (nW mD) F)
theorem qfg {b:Γ} {c:Int} {a:ο} {d:Sl} (h:Ui b c a d R F):ν 19 #[nQ b,rV .u64 c,ph a,nI d] F R:=Rx.Λ .N h
def HP (a:ο) (d:Sl) (f:Nat) (R:VR) (F:PH):Prop:=Lr F 9 (Z f 0) λb=>aG prog (Instr.makeSlice 76 (U (d.len:Int)) (U (d.len:Int))) F λv F=>∃c,v=(nI c)/\F.row (Z f 0) b/\b.size=9/\(tC (tC (tC (wr (#[tX I 0 0,.slice I 0 0,U 0,.slice I 0 0,.slice I 0 0,.slice I 0 0,U 0,.slice I 0 0,.slice I 0 0,.string ⟨#[]⟩,tX I 0 0,.slice I 0 0]:Γ) 0 b.toList) 9 (ph a)) 10 (nI d)) 11 (nI c)).size=12/\Nb F (Y (wr (#[tX I 0 0,.slice I 0 0,U 0,.slice I 0 0,.slice I 0 0,.slice I 0 0,U 0,.slice I 0 0,.slice I 0 0,.string ⟨#[]⟩,tX I 0 0,.slice I 0 0,.slice I 0 0,.nilFunc,.nilFunc]:Γ) 0 (tC (tC (tC (wr (#[tX I 0 0,.slice I 0 0,U 0,.slice I 0 0,.slice I 0 0,.slice I 0 0,U 0,.slice I 0 0,.slice I 0 0,.string ⟨#[]⟩,tX I 0 0,.slice I 0 0]:Γ) 0 b.toList) 9 (ph a)) 10 (nI d)) 11 (nI c)).toList) 108) λe F=>Ci 66 #[(Pp e),(U 0)] F λ_ F=>R (po #[(Pp e),(U 0)]) F
def vo (c:Ω) (_:ο) (_:Sl) (_:Nat) (a:Int) (_:VR) (F:PH):Prop:=c (i64.wrap (a+1)) F
def AR (j:Ω) (a:ο) (c:Sl) (i:Nat) (R:VR) (b:Int) (F:PH):Prop:=Bc (b<(c.len:Int)) (Ix c b λe=>Lr F 4 (nV e (nX b*4)) λf=>Nb F (Y (#[U 0,U 0,U 0,U 0]) 47) λd F=>aA F (Z d 0) 4 f λF=>Li F (Z d 0) λg=>Bc (g<0) (Li F (Z d 3) λh=>Bc ((a.size:Int)<h) (R (po #[pk I,(U 90)]) F) (vo j a c i b R F)) (vo j a c i b R F)) (HP a c i R F)
def Uj (f:Γ) (g:Int) (a:ο) (c:Sl) (R:VR) (F:PH):Prop:=Nb F (Y f 39) λh F=>Lr F 9 (Z h 0) λd=>Ci 22 #[nQ d,rV .u64 g,nI c] F λb F=>Bc (b≠0) (R (po #[pk I,(U b)]) F) (Lp 0 F λN e F=>AR N a c h R e F)
theorem qgx {b:Γ} {c:Int} {a:ο} {d:Sl} (h:Uj b c a d R F):ν 31 #[nQ b,rV .u64 c,ph a,nI d] F R:=Rx.Λ (.qa8 (.qa8 (.J mD [] (.qa8 (.L [(23,.int .i64)] (.qa8 (.qa8 (.J mD [] .N .N))))) .N))) h
def Uk (j a:Int) (k l m:Θ) (R:VR) (F:PH):Prop:=∃f,k=V f/\Li F f λn=>Bc (j=n) (∃d,l=V d/\Ls F d λh=>∃e,m=V e/\Lq F e λg=>∃c,g=V c/\Ls F (nV c 12) λb=>0<=a/\(nX a)<=b.len/\b.len<=b.cap/\Ap 48 #[nI h,nI (Sl.cut b 2 (nX a) b.len b.cap)] F λi F=>F.cell (nV c 12)=V (nI b)/\F.cell e=V (pk g)/\pv F d (nI i) λF=>R (po #[]) F) (R (po #[]) F)
theorem qgy {b:Int} {a:Int} {c:Θ} {d:Θ} {e:Θ} (h:Uk b a c d e R F):ν 32 #[(U b),(U a),pk c,pk d,pk e] F R:=Rx.Λ .N h
def Ul (d:Θ) (R:VR) (F:PH):Prop:=Nb F (Y #[pk d] 98) λg F=>Nb F (Y (#[.nilFunc]) 149) λe F=>pv F (Z e 0) (.func (.func 67) #[] #[(Pp g),(Pp e)]) λF=>∃a:ξ,F.cell (Z e 0)=V a/\Fn a λh b c=>aj prog h (b++([(U 0)]).toArray++c) F λv F=>∃f,v=(U f)/\R (po #[]) F
theorem qgz {a:Θ} (h:Ul a R F):ν 33 #[pk a] F R:=Rx.Λ .N h
def Um (h:Int) (i j k:Θ) (R:VR) (F:PH):Prop:=∃c,i=V c/\Li F c λl=>Bc (h=l) (∃a,j=V a/\Ls F a λm=>∃b,k=V b/\Lq F b λe=>∃d,e=V d/\Ls F (nV d 12) λf=>Ap 48 #[nI m,nI f] F λg F=>F.cell b=V (pk e)/\pv F a (nI g) λF=>R (po #[]) F) (R (po #[]) F)
theorem qgA {a:Int} {b:Θ} {c:Θ} {d:Θ} (h:Um a b c d R F):ν 36 #[(U a),pk b,pk c,pk d] F R:=Rx.Λ .N h
def Un (l:Int) (t u:Θ) (R:VR) (F:PH):Prop:=∃a,t=V a/\Lq F a λv=>∃m,v=V m/\Ca 39 #[pk (V m),(U l)] F λw F=>Nb F (Y (#[nW mD,U 0,U 0,U 0,U 0]) 60) λk F=>aA F (Z k 0) 5 w λF=>Li F (Z k 3) λo=>Bc (o=0) (R (po #[]) F) (Li F (Z k 4) λb=>Lq F a λc=>∃g,c=V g/\Lq F a λd=>∃h,d=V h/\Lq F a λe=>∃i,e=V i/\Li F (Z k 3) λf=>Ci 42 #[pk (V i),(U l),(U (i64.wrap (f - 1)))] F λp F=>F.cell (Z k 3)=V (U f)/\F.cell a=V (pk e)/\F.cell a=V (pk d)/\F.cell a=V (pk c)/\F.cell (Z k 4)=V (U b)/\Cx 41 #[pk (V h),(U p)] F λq F=>F.cell (Z k 3)=V (U f)/\F.cell a=V (pk e)/\F.cell a=V (pk d)/\F.cell a=V (pk c)/\F.cell (Z k 4)=V (U b)/\Ci 40 #[pk (V (nV g 12)),ph q] F λn F=>F.cell (Z k 3)=V (U f)/\F.cell a=V (pk e)/\F.cell a=V (pk d)/\F.cell a=V (pk c)/\F.cell (Z k 4)=V (U b)/\0<=n/\Bc ((i64.wrap ((BitVec.ofInt (i64).bits (Int.fdiv b (2 ^ (min (nX n) (i64).bits))) &&& BitVec.ofInt (i64).bits 1).toNat))=0) (∃j,u=V j/\Ls F j λr=>(#[(U 6),(U l),U 0]:Γ).size=3/\Nb F (Y (#[(U 6),(U l),U 0]:Γ) 66) λx F=>Ap 52 #[nI r,nI (Sb x 1)] F λs F=>pv F j (nI s) λF=>R (po #[]) F) (R (po #[]) F))
theorem qgB {a:Int} {b:Θ} {c:Θ} (h:Un a b c R F):ν 38 #[(U a),pk b,pk c] F R:=Rx.Λ .N h
def Uo (l:Θ) (b:Int) (R:VR) (F:PH):Prop:=Nb F (Y (#[nW mD,U 0,U 0,U 0,U 0]) 60) λk F=>∃a,l=V a/\Ls F (nV a 10) λm=>Ix m b λd=>Li F (nV d (nX b*4)) λe=>Bc (e<0) (aA F (Z k 0) 5 (#[nW mD,U 0,U 0,U 0,U 0]:Γ) λF=>Rr 5 (Z k 0) R F) (Ls F (nV a 5) λf=>Ls F (nV a 10) λg=>Ix g b λh=>Li F (nV h (nX b*4)) λc=>Ix f c λi=>Lr F 5 (nV (nV i (nX c*13)) 8) λj=>aA F (Z k 0) 5 j λF=>Rr 5 (Z k 0) R F)
theorem qgC {a:Θ} {b:Int} (h:Uo a b R F):ν 39 #[pk a,(U b)] F R:=Rx.Λ .N h
def HQ (R:VR) (F:PH):Prop:=R (U 0) F
def HR (j:Ω) (c:Addr) (b:ο) (R:VR) (a:Int) (F:PH):Prop:=Bc (0<=a) (Ls F c λd=>Ix d a λe=>Lx F (nV e (nX a*2)) λf=>Bb ((f.toList==b.toList)) (Ls F c λg=>Ix g a λh=>Li F (nV (nV h (nX a*2)) 1) λi=>R (U i) F) (j (i64.wrap (a - 1)) F)) (HQ R F)
def Uq (c:Θ) (b:ο) (R:VR) (F:PH):Prop:=∃a,c=V a/\Ls F a λd=>Lp (i64.wrap ((d.len:Int) - 1)) F λN e F=>HR N a b R e F
theorem qgD {b:Θ} {a:ο} (h:Uq b a R F):ν 40 #[pk b,ph a] F R:=Rx.Λ (.qa8 (.J mD [] (.qa8 (.L [(5,.int .i64)] .N)) .N)) h
def Ur (j:Θ) (d:Int) (R:VR) (F:PH):Prop:=∃a,j=V a/\Lx F (nV a 9) λe=>Ls F (nV a 10) λf=>Ix f d λg=>Li F (nV (nV g (nX d*4)) 2) λc=>Ls F (nV a 10) λh=>Ix h d λi=>Li F (nV (nV i (nX d*4)) 3) λb=>0<=c/\0<=b/\(nX c)<=(nX b)/\(nX b)<=e.size/\R (ph (e.extract (nX c) (nX b))) F
theorem qgE {a:Θ} {b:Int} (h:Ur a b R F):ν 41 #[pk a,(U b)] F R:=Rx.Λ .N h
def HS (a:Int) (R:VR) (F:PH):Prop:=R (U a) F
def AT (i:Int->Ω) (g:Θ) (h:Int) (R:VR) (a b:Int) (F:PH):Prop:=Bc (b<h) (∃c,g=V c/\Ls F (nV c 11) λd=>Ix d a λe=>Li F (nV e (nX a*1)) λf=>i f (i64.wrap (b+1)) F) (HS a R F)
def Us (d:Θ) (e f:Int) (R:VR) (F:PH):Prop:=(∃(g:Nat->Int->Ω) (c:Nat),g c (i64.wrap (e+1)) 0 F/\∀c a b F,g c a b F-> AT (V6 g c) d f R a b F)
theorem qgF {a:Θ} {b:Int} {c:Int} (h:Us a b c R F):ν 42 #[pk a,(U b),(U c)] F R:=Rx.Λ (.qa8 (.qa8 (.J mD [(7,.int .i64)] (.qa8 (.L [(7,.int .i64),(11,.int .i64)] .N)) .N))) h
def vp (f:Θ) (c a:Int) (R:VR) (F:PH):Prop:=∃b,f=V b/\Ls F (nV b 11) λd=>Ix d c λe=>pv F (nV e (nX c*1)) (U a) λF=>R (U a) F
def AU (g:Int->Ω) (b:Addr) (f:Int) (d:Sl) (R:VR) (a c:Int) (F:PH):Prop:=Bc (c<(d.len:Int)) (Ci 66 #[pk (V b),(U a)] F λe F=>g e (i64.wrap (c+1)) F) (vp (V b) f a R F)
def RC (l:Θ) (c:Int) (R:VR) (F:PH):Prop:=∃a,l=V a/\Ls F (nV a 10) λf=>Ix f c λg=>Li F (nV g (nX c*4)) λd=>Bc (0<=d) (Ls F (nV a 5) λh=>Ix h d λi=>Ls F (nV (nV i (nX d*13)) 2) λj=>(∃(m:Nat->Int->Ω) (k:Nat),m k (i64.wrap (c+1)) 0 F/\∀k b e F,m k b e F-> AU (V6 m k) a c j R b e F)) (vp (V a) c (i64.wrap (c+1)) R F)
theorem Ut {a:Θ} {b:Int} (h:RC a b R F):ν 66 #[pk a,(U b)] F R:=Rx.Λ (.qa8 (.qa8 (.J mD [(0,.ptr),(5,.int .i64)] (.qa8 (.qa8 (.T (.qa8 (.L [(5,.int .i64),(29,.int .i64)] .N)) .N))) .N))) h
def nD (n:Int) (i:Addr) (k:Sl) (a:Int) (R:VR) (F:PH):Prop:=Lq F i λl=>∃c,l=V c/\∃d:ξ,F.cell (nV c 14)=V d/\∃e,xT d e/\Bb ((!e)) (Lq F i λj=>∃b,j=V b/\∃f:ξ,F.cell (nV b 14)=V f/\Fn f λm g h=>aj prog m (g++([(U n),(U (k.len:Int))]).toArray++h) F λv F=>v=(po #[])/\R (U a) F) (R (U a) F)
def ra (m:Int) (a:Addr) (l:Sl) (b:Int) (k:Nat) (R:VR) (F:PH):Prop:=Li F (Z k 1) λn=>Bc (0<n) (Lq F a λc=>∃h,c=V h/\Lq F a λd=>∃i,d=V i/\Lq F a λe=>∃j,e=V j/\Li F (Z k 1) λf=>Li F (Z k 2) λg=>Ci 42 #[pk (V j),(U m),(U (i64.wrap (f - 1)))] F λo F=>F.cell (Z k 2)=V (U g)/\F.cell (Z k 1)=V (U f)/\F.cell a=V (pk e)/\F.cell a=V (pk d)/\F.cell a=V (pk c)/\Cx 41 #[pk (V i),(U o)] F λp F=>F.cell (Z k 2)=V (U g)/\F.cell (Z k 1)=V (U f)/\F.cell a=V (pk e)/\F.cell a=V (pk d)/\F.cell a=V (pk c)/\Cu 68 #[pk (V (nV h 12)),nQ (#[ph p,(U g)]:Γ)] F λF=>F.cell (Z k 2)=V (U g)/\F.cell (Z k 1)=V (U f)/\F.cell a=V (pk e)/\F.cell a=V (pk d)/\F.cell a=V (pk c)/\nD m a l b R F) (nD m a l b R F)
def HT (g:Int) (c:Addr) (a:Sl) (k:Nat) (b:Int) (R:VR) (F:PH):Prop:=Lb F (Z k 0) λh=>Bb (h) (Lq F c λi=>Lq F c λj=>∃d,j=V d/\Ls F (nV d 12) λf=>0<=(a.len:Int)/\0<=(a.len:Int)/\0<=nX (a.len:Int)/\(a.len:Int)<=(a.len:Int)/\(a.len:Int)<=(f.cap:Int)/\∃e,i=V e/\pv F (nV e 12) (nI (Sl.cut f 2 0 (nX (a.len:Int)) (nX (a.len:Int)))) λF=>ra g c a b k R F) (ra g c a b k R F)
def AV (n:Int->Ω) (k:Int) (h:Addr) (l:Θ) (i:Sl) (o:Nat) (j:Sl) (R:VR) (a b:Int) (F:PH):Prop:=Bc (b<(j.len:Int)) (∃c,l=V c/\∃d:ξ,F.cell c=V d/\Fn d λm f g=>aj prog m (f++([(U a)]).toArray++g) F λv F=>∃e,v=(U e)/\n e (i64.wrap (b+1)) F) (HT k h i o a R F)
def rb (c:Int) (b:Addr) (t:Θ) (h:Sl) (R:VR) (F:PH):Prop:=Lq F b λj=>∃d,j=V d/\Ls F (nV d 10) λk=>Ix k c λl=>Li F (nV l (nX c*4)) λe=>Bc (0<=e) (Lq F b λm=>∃f,m=V f/\Ca 39 #[pk (V f),(U c)] F λn F=>Nb F (Y (#[nW mD,U 0,U 0,U 0,U 0]) 60) λv F=>aA F (Z v 0) 5 n λF=>Lq F b λo=>∃g,o=V g/\Ls F (nV g 5) λp=>Ix p e λq=>Ls F (nV (nV q (nX e*13)) 2) λr=>(∃(u:Nat->Int->Ω) (s:Nat),u s (i64.wrap (c+1)) 0 F/\∀s a i F,u s a i F-> AV (V6 u s) c b t h v r R a i F)) (nD c b h (i64.wrap (c+1)) R F)
def Uu (i:Int) (o l:Θ) (R:VR) (F:PH):Prop:=∃a,o=V a/\Lq F a λp=>∃d,p=V d/\Ls F (nV d 12) λe=>Lq F a λm=>∃b,m=V b/\∃f:ξ,F.cell (nV b 13)=V f/\∃g,xT f g/\Bb ((!g)) (Lq F a λn=>∃c,n=V c/\∃h:ξ,F.cell (nV c 13)=V h/\Fn h λq j k=>aj prog q (j++([(U i)]).toArray++k) F λv F=>v=(po #[])/\rb i a l e R F) (rb i a l e R F)
theorem qgG {a:Int} {b:Θ} {c:Θ} (h:Uu a b c R F):ν 67 #[(U a),pk b,pk c] F R:=Rx.Λ (.qa8 (.qa8 (.J mD [] .N (.qa8 (.J mD [(6,.int .i64)] (.qa8 (.qa8 (.T (.qa8 (.J mD [(6,.int .i64)] (.qa8 (.L [(6,.int .i64),(55,.int .i64)] .N)) (.J mD [] .N .N))) .N))) .N))))) h
def Uv (d:Θ) (e:Γ) (R:VR) (F:PH):Prop:=Nb F (Y e 80) λh F=>∃a,d=V a/\Ls F a λf=>Lr F 2 (Z h 0) λb=>b.size=2/\Nb F (Y b 80) λg F=>Ap 48 #[nI f,nI (Sb g 1)] F λc F=>pv F a (nI c) λF=>R (po #[]) F
theorem qgH {a:Θ} {b:Γ} (h:Uv a b R F):ν 68 #[pk a,nQ b] F R:=Rx.Λ .N h
theorem ii:∀l:List Dtr,l.length<=vz l
 |[]=>yA _
 |n::l=>by have:=ii l;have:=eV n;rw [co,wg];omega
structure Wc where
 g:Gr
 cs:Sl
 n:Sl
 tk:Sl
 s:Sl
 p:Sl
 l:Sl
 f:Sl
 tx:ο
 t:Sl
 es:Sl
 en:ξ
 lv:ξ
abbrev Wc.arr (w:Wc) (seen:Sl):Γ:= #[w.cs.v,w.n.v,U w.g.fam.2,w.tk.v,w.s.v,w.p.v,U w.g.start,w.l.v,w.f.v,ph w.tx,w.t.v,w.es.v,seen.v,w.en,w.lv]
def cg (g:Gr):Dtr->Sco
 | .lf _ _ _=>km
 | .nd pr _ _ _=>((VI g pr).map Pr.sco).getD km
def ua (g:Gr) (pr:Int):Spc:=let x:=((VI g pr).map Pr.sco).getD km;⟨x.o,x.d.toNat,x.k,x.u.toNat,x.a.toNat⟩
def u9 (tx:ο) (a b:Int):ο:=tx.extract a.toNat b.toNat
structure ScT (g:Gr) (tx:ByteArray) (T:Dtr):Prop where
 lf:∀m∈xx T,Bq m->m.root.to<=tx.size
 nd:∀m∈xx T,0<=(cg g m).d/\0<=(cg g m).u/\0<=(cg g m).a/\(cg g m).a<=255/\0<=(cg g m).k/\(cg g m).k<=7/\(0<(cg g m).d->∃c,m.kids[(cg g m).d.toNat - 1]? =V c/\Bq c)/\(0<(cg g m).u->∃c,m.kids[(cg g m).u.toNat - 1]? =V c/\Bq c)
section
variable {F G:PH} {w:Wc} {seen:Sl} {T m:Dtr} {bw i:Nat} {As:List (Ψ)}
theorem yu (O:F bw=V (Y (w.arr seen) 108)) (E:RL F w.es (UY T)) (X:szN T<=2000000) (B:bC T i=V m) {q:Nat} (hq:q<=m.kids.length):
  ν 42 #[Pp bw,U (i:Int),U (q:Int)] F λr C=>r=U ((bQ i m.kids q:Nat):Int)/\C=F:=by
 have K:=d6 B;have D:=sub_le B;rw [cn] at D;have H:w.es.len=szN T:=by rw [E.len,ub,jH]
 refine qgF ?_;unfold Us;have M:=ii m.kids;rw [aC (n:=3000000) (by omega) (by omega)];refine gA (λN x v F=>AT N (V (Z bw 0)) (q:Int) _ x v F) q (λj x C=>x=((bQ i m.kids j:Nat):Int)/\C=F) _ ⟨by unfold bQ;rw [z6,dh],rfl⟩ ?_;rintro j x Q Nx W ⟨rfl,rfl⟩ next;unfold AT;refine ⟨λg=> ?_,λg=> ?_⟩
 ·have g:j<q:=by omega
  have P:=pN (i:=i) (show j<m.kids.length by omega);refine ⟨_,rfl,_,ld O rfl,?_⟩;refine t8 E (by decide) (by omega) (by omega) λa L y A h J=> ?_;rw [N4] at A h ⊢;unfold UY at A;rw [yw,Dn B (N5 (show j<m.kids.length by omega))] at A;obtain rfl:=yR A;obtain rfl:L=_:=J;refine ⟨_,aE h rfl,?_⟩;rw [aC g];exact next _ _ g ⟨rfl,rfl⟩
 ·obtain rfl:j=q:=by omega
  unfold HS;exact ⟨rfl,rfl⟩
theorem gc (A:RL F w.t (vA T)) (h:bC T i=V m) {K:Addr->Prop} (k:∀a,F.row (a.add (i*4)) m.root.arr->K a):∃a,w.t.qa5=V a/\0<=(i:Int)/\(i:Int)<(w.t.len:Int)/\K a:=by have B:=d6 h;have E:w.t.len=szN T:=A.len;refine t8 A (by decide) (by omega) (by omega) λa C y r g D=> ?_;rw [N4] at r g;obtain rfl:=yR ((gR h).symm.trans r);obtain rfl:C=m.root.arr:=D;exact k a g
theorem rc (hb:F bw=V (Y (w.arr seen) 108)) (P:RL F w.t (vA T)) (O:RL F w.p w.g.qa0) (hf:dT w.g T) (E:bC T i=V m):
  ν 39 #[Pp bw,U (i:Int)] F λr X=>r=nQ (cg w.g m).arr/\F.le X:=by
 have H:=hf m (dn E);refine qgC ?_;unfold Uo;refine (St.start F).new λb4 W h=> ?_;have C:=h.le _ _ hb;refine ⟨_,rfl,_,ld C rfl,?_⟩;refine gc (P.le h.le) E λa D=> ?_;rw [N4];refine ⟨_,aE D rfl,?_⟩;cases m with
 |lf tk fr to=>refine ⟨λ_=> ?_,λK=>absurd (by show (-1:Int)<0;decide) K⟩;refine h.put0 (w':=km.arr) rfl rfl (by simp [ak]) λF2 h=>⟨_,rfl,ai (h.ptAt (i:=0) rfl),rfl,h.le⟩
 |nd N fr to ks=>obtain ⟨_,_,x,M,_⟩:=H;obtain ⟨Q,x1,x2⟩:=bB M;have ep:=O.len;refine ⟨λK=>absurd Q (Int.not_le.2 K),λ_=>⟨_,ld C rfl,_,ld C rfl,?_⟩⟩;refine gc (P.le h.le) E λa2 B=> ?_;refine ⟨N,aE B rfl,?_⟩;refine t8 (O.le h.le) (by decide) Q (by omega) λa3 c3 y hy A L=> ?_;obtain rfl:y=x:=yR (hy.symm.trans x2);obtain ⟨r2,n2,l2,rfl,_⟩:=L;have J:W.row ((a3.add (N.toNat*Mem.n Pr)).add 8) y.sco.arr:=p6 A rfl;refine ⟨_,rfl,J,?_⟩;refine h.put0 (w':=y.sco.arr) rfl rfl (by simp [ak]) λF2 h=>⟨_,rfl,ai (h.ptAt (i:=0) rfl),?_,h.le⟩;unfold cg;dsimp only;rw [M];rfl
theorem rg (A:F bw=V (Y (w.arr seen) 108)) (C:RL F w.t (vA T)) (B:bC T i=V m) (E:0<=m.root.fr) (H:m.root.fr<=m.root.to) (J:m.root.to<=w.tx.size):
  ν 41 #[Pp bw,U (i:Int)] F λr D=>r=ph (u9 w.tx m.root.fr m.root.to)/\D=F:=by
 refine qgE ?_;unfold Ur;refine ⟨_,rfl,_,ld A rfl,_,ld A rfl,?_⟩;refine gc C B λa h=> ?_;rw [N4];refine ⟨_,aM h (i:=2) rfl,_,ld A rfl,?_⟩;refine gc C B λK g=> ?_;exact ⟨_,aM g (i:=3) rfl,E,by omega,by omega,by omega,rfl,rfl⟩
end
theorem HU:∃b z,SlT 48 80 2 b z:=⟨_,_,underlying48,aaK,aaQ,rfl,by decide,by decide⟩
theorem vq (a b:ο):(a.toList==b.toList)=decide (a=b):=by
 rw [wm,beq_iff_eq,δ]
 exact ⟨λh=>by
  have g:=jq a;have r:=jq b;rw [g,r] at h;cases a;cases b;simp at h
  rw [h],λh=>by rw [h]⟩
section
variable {F G:PH} {w:Wc} {seen:Sl} {T m:Dtr} {bw i:Nat} {l:List tQ}
theorem AW {s:ο} {l:List tQ} {j:Nat} {x:tQ} (A:l[j]? =V x) (h:YD s (l.drop (j+1))):(x.1=s->eF s l=x.2)/\(x.1≠s->YD s (l.drop j)):=by
 have r:=(N6.1 A).1;have hd:l.drop j=x::l.drop (j+1):=by rw [XJ r,(N6.1 A).2]
 refine ⟨λe=> ?_,λe y g=> ?_⟩
 ·have:=Gm (l:=l.take j) h e;rwa [<- hd,W5] at this
 ·rw [hd] at g;rcases tS.1 g with rfl|g
  ·exact e
  ·exact h y g
theorem FM {s:ο} (K:F.cell (Z bw 12)=V seen.v) (D:RL F seen l) (hn:l.length<=4000000):ν 40 #[pk (V (Z bw 12)),ph s] F λr A=>r=U (eF s l)/\A=F:=by
 have el:=D.len;refine qgD ?_;unfold Uq;refine ⟨_,rfl,seen,K,?_⟩;dsimp only;rw [aJ (by omega)];refine ⟨λn j A=>A=F/\-1<=j/\j<(l.length:Int)/\n=(j+1).toNat/\YD s (l.drop (j+1).toNat),_,⟨rfl,by omega,by omega,rfl,?_⟩,?_⟩
 ·rw [Ye (by omega)];exact λx B=>by cases B
 rintro n j A ⟨rfl,W,X,rfl,C⟩;unfold HR;refine ⟨λJ=>⟨seen,K,?_⟩,λJ=> ?_⟩
 ·refine t8 D (by decide) J (by omega) λa Q x B h M=> ?_;obtain rfl:Q=lj x:=M;rw [show (j+1).toNat=j.toNat+1 by omega] at C;obtain ⟨P,L⟩:=AW B C;refine ⟨x.1,aE h rfl,?_⟩;dsimp only;rw [vq];refine ⟨λE=>⟨seen,K,?_⟩,λE=> ?_⟩
  ·refine t8 D (by decide) J (by omega) λa2 O y N g H=> ?_;obtain rfl:=yR (B.symm.trans N);obtain rfl:O=lj x:=H;exact ⟨x.2,aM g (i:=1) rfl,by rw [P (ζ E)],rfl⟩
  ·rw [aJ (by omega)];refine ⟨_,?_,rfl,by omega,by omega,rfl,?_⟩
   ·omega
   ·rw [show (j - 1+1).toNat=j.toNat by omega];exact L (ι E)
 ·unfold HQ;rw [show (j+1).toNat=0 by omega,Vu] at C;exact ⟨by rw [Jb C],rfl⟩
theorem qhy {As:List (Ψ)} {x:tQ} (h:St G F (pt bw (Y (w.arr seen) 108)::gT seen 80 2 (bi l)::As)) (M:seen.len<=400000000):
  ν 68 #[pk (V (Z bw 12)),nQ (lj x)] F λr E=>r=po #[]/\∃(A:PH) (g:Sl),G.le A/\St A E (pt bw (Y (w.arr g) 108)::gT g 80 2 (bi (l++[x]))::As)/\g.len=seen.len+1:=by
 obtain ⟨_,_,D⟩:=HU;refine qgH ?_;unfold Uv;refine h.newG λN L K H q3 _ h=> ?_;refine ⟨_,rfl,seen,ld (h.ptAt (i:=0) rfl) rfl,_,rfl,ai (h.le _ _ q3),rfl,?_⟩;refine h.spushAt D (c:=lj x) 1 rfl rfl (by simp [ak]) (by omega) λg C F2 B h J=> ?_;refine h.set0 (w':=w.arr g) (vr rfl) rfl λO h=>⟨rfl,C,g,aa H B,?_,J⟩;rw [dx];rw [show bi [x]=(lj x).toList by simp [bi]];exact h
def MsP (T:Dtr) (E E':Φ) (a b:Nat):Prop:=E'.length=E.length/\∀q,(a<=q/\q<b->E'[q]? =(UY T)[q]?)/\(¬(a<=q/\q<b)->E'[q]? =E[q]?)
theorem MsP.refl (T:Dtr) (E:Φ) (a:Nat):MsP T E E a a:=⟨rfl,λq=>⟨λh=>by omega,λ_=>rfl⟩⟩
theorem MsP.trans {T:Dtr} {E r A:Φ} {a b c:Nat} (h:MsP T E r a b) (k:MsP T r A b c) (B:a<=b) (C:b<=c):MsP T E A a c:=by
 refine ⟨k.1.trans h.1,λq=>⟨λg=> ?_,λg=> ?_⟩⟩
 ·by_cases e:b<=q
  ·exact (k.2 q).1 ⟨e,g.2⟩
  ·rw [(k.2 q).2 (by omega)];exact (h.2 q).1 ⟨g.1,by omega⟩
 ·rw [(k.2 q).2 (by omega),(h.2 q).2 (by omega)]
theorem MsP.put {T:Dtr} {E r:Φ} {i b:Nat} {v:Int} (h:MsP T E r (i+1) b) (B:(UY T)[i]? =V v) (hi:i<E.length) (C:i+1<=b):MsP T E (r.set i v) i b:=by
 refine ⟨by rw [Yp];exact h.1,λq=> ?_⟩;by_cases e:q=i
 ·subst e;rw [X1 (by rw [h.1];exact hi)];exact ⟨λ_=>B.symm,λA=>absurd ⟨ru _,by omega⟩ A⟩
 ·rw [Zh (Ne.symm e)];exact ⟨λg=>(h.2 q).1 ⟨by omega,g.2⟩,λg=>(h.2 q).2 (by omega)⟩
theorem qhz (hN:szN T<=2000000) (ht:RL G w.t (vA T)) (hp:RL G w.p w.g.qa0) (hf:dT w.g T):∀(m:Dtr) (i:Nat) (E:Φ) (F:PH),bC T i=V m->E.length=szN T->St G F [pt bw (Y (w.arr seen) 108),own w.es 3 1 (E.map U)]->
  ν 66 #[Pp bw,U (i:Int)] F λr O=>r=U ((i+szN m:Nat):Int)/\∃P:Φ,MsP T E P i (i+szN m)/\St G O [pt bw (Y (w.arr seen) 108),own w.es 3 1 (P.map U)]:=by
 have fin:∀(m:Dtr) (i:Nat) (E C:Φ) (F1:PH),bC T i=V m->E.length=szN T->MsP T E C (i+1) (i+szN m)->St G F1 [pt bw (Y (w.arr seen) 108),own w.es 3 1 (C.map U)]->
   vp (V (Z bw 0)) (i:Int) ((i+szN m:Nat):Int) (λr O=>r=U ((i+szN m:Nat):Int)/\∃P:Φ,MsP T E P i (i+szN m)/\St G O [pt bw (Y (w.arr seen) 108),own w.es 3 1 (P.map U)]) F1:=λm i E C F1 A K H h=>by
  have L:=d6 A;have a7:=eV m;unfold vp;have M:RdS F1 w.es 1 (C.map U):=(h.ownAt (i:=1) rfl).1.rd;have a4:=M.len;rw [ub,H.1,K,xF] at a4;obtain ⟨b,o,hb,_⟩:=M.cells (by omega);refine ⟨_,rfl,_,ld (h.ptAt (i:=0) rfl) rfl,_,hb,by omega,by omega,?_⟩;rw [N4,xF];refine h.ownPut 1 rfl hb (by rw [ub,H.1,K];exact L) λF2 h=>⟨rfl,C.set i ((i+szN m:Nat):Int),H.put ?_ (by omega) (by omega),?_⟩
  ·unfold UY;rw [yw,Je A,x9];rfl
  ·rw [List.map_set];exact h
 refine Dtr.ind (λtk X to i E F A K h=> ?_) λpr X to ks ih i E F A K h=> ?_
 ·have L:=d6 A;have e1:szN (.lf tk X to)=1:=by rw [cn];show 1+vz []=1;rw [dh]
  refine Ut ?_;unfold RC;refine ⟨_,rfl,_,ld (h.ptAt (i:=0) rfl) rfl,?_⟩;refine gc (ht.le h.le) A λa D=> ?_;rw [N4];refine ⟨_,aE D rfl,λhn=>absurd hn (by show ¬(0:Int)<=-1;decide),λ_=> ?_⟩;rw [aC (n:=3000000) (by omega) (by omega)];have:=fin _ i E E F A K (by rw [e1];exact MsP.refl T E _) h;rw [e1] at this ⊢;exact this
 ·have L:=d6 A;have a8:=sub_le A;have a9:szN (.nd pr X to ks)=1+vz ks:=cn _;have a1:=hf _ (dn A);obtain ⟨_,_,x,hx,hr⟩:=a1;obtain ⟨x0,x1,x2⟩:=bB hx;have ep:=hp.len;have a6:=ii ks;refine Ut ?_;unfold RC;refine ⟨_,rfl,_,ld (h.ptAt (i:=0) rfl) rfl,?_⟩;refine gc (ht.le h.le) A λa D=> ?_;rw [N4];refine ⟨pr,aE D rfl,λ_=>⟨_,ld (h.ptAt (i:=0) rfl) rfl,?_⟩,λhn=>absurd x0 hn⟩;refine t8 (hp.le h.le) (by decide) x0 (by omega) λa3 c3 y hy J a5=> ?_;obtain rfl:y=x:=yR (hy.symm.trans x2);obtain ⟨rr,nn,ll,rfl,a2,_⟩:=a5;have a0:=a2.len;rw [hr,ub] at a0;refine ⟨rr,aM J (i:=2) rfl,?_⟩;rw [aC (n:=3000000) (by omega) (by omega)];refine gA (λN x v F=>AU N (Z bw 0) (i:Int) rr _ x v F) ks.length (λj x O=>x=((bQ i ks j:Nat):Int)/\∃C:Φ,MsP T E C (i+1) (bQ i ks j)/\St G O [pt bw (Y (w.arr seen) 108),own w.es 3 1 (C.map U)]) _ ⟨by unfold bQ;rw [z6,dh],E,by unfold bQ;rw [z6,dh];exact MsP.refl T E _,h⟩ ?_;rintro j x F3 Nx hj ⟨rfl,C,H,h3⟩ next;unfold AU;refine ⟨λB=> ?_,λB=> ?_⟩
  ·have B:j<ks.length:=by omega
   have hk:=N5 B;have W:=gi (m:=.nd pr X to ks) A hk;have hs:=gQ (i:=i) hk;have a6:=pM (i:=i) (ks:=ks) j;refine (ih ks[j] (Vc B) (bQ i ks j) C F3 W (H.1.trans K) h3).mono ?_;rintro r F4 ⟨rfl,E2,Q,h4⟩;rw [<- hs] at Q ⊢;refine ⟨_,rfl,?_⟩;rw [aC B];refine next _ _ B ⟨rfl,E2,H.trans Q ?_ (by omega),h4⟩;unfold bQ;omega
  ·obtain rfl:j=ks.length:=by omega
   rw [jA,show i+1+vz ks=i+szN (.nd pr X to ks) by omega] at H ⊢;exact fin _ i E C F3 A K H h3
end
section
variable {β:Type} {sp:Int->Spc} {tx:Int->Int->ο} {E:Nat->List tQ->List β} {Lh:Nat->Nat->List tQ->List β}
theorem kN:∀(l m:List Dtr) (i:Nat) (seen:List tQ),UW sp tx E Lh i seen (l++m)=UW sp tx E Lh i seen l++UW sp tx E Lh (i+vz l) (seen++yo sp tx l) m
 |[],m,i,seen=>by rw [zB,UW,dh,yo,yt,zB,Nat.add_zero]
 |n::l,m,i,seen=>by rw [zK,UW,UW,kN l m,co,yo,xZ,xZ,Wo]
theorem vv:∀(l:List Dtr),(∀k∈l,(xG sp tx k).length<=szN k)->(yo sp tx l).length<=vz l
 |[],_=>by unfold yo;exact yA _
 |n::l,h=>by have r:=h n (by simp);have w:=vv l λk g=>h k (by simp [g]);rw [yo,tT,co];omega
theorem vx:∀n:Dtr,(xG sp tx n).length<=szN n:=Dtr.ind (λ_ _ _=>by unfold xG;exact yA _) λh A to g ih=>by
 have r:=vv (sp:=sp) (tx:=tx) g ih;have w:(nU sp tx h g).length<=1:=by unfold nU;split<;>simp
 rw [xG,tT,cn];show _<=1+vz g;split
 ·simp only [W9];omega
 ·omega
theorem Da (l:List Dtr):(yo sp tx l).length<=vz l:=vv l λk _=>vx k
end
section
variable {β σ:Type}
def K7 (k:Int):Prop:=0<=k/\k<=7
abbrev WB (bw:Nat) (w:Wc) (seen:Sl) (l:List tQ) (Os:List (Ψ)):List (Ψ):=pt bw (Y (w.arr seen) 108)::gT seen 80 2 (bi l)::Os
def HkE (G0:PH) (bw:Nat) (w:Wc) (T:Dtr) (O:σ->List (Ψ)) (out:σ->List β) (E:Nat->List tQ->List β):Prop:=
 (w.en=.nilFunc/\∀i l,E i l=[])\/∃k fst cap,w.en=.func (.func k) fst cap/\aF prog k=nk/\∀(i:Nat) (seen:Sl) (l:List tQ) (G F:PH) (x:σ),i<szN T->l.length<=i->Vw K7 l->(out x).length+(E i l).length<=5000000->G0.le G->St G F (WB bw w seen l (O x))->
  aj prog k (fst++ #[U (i:Int)]++cap) F λr F'=>r=po #[]/\∃G' x',G.le G'/\St G' F' (WB bw w seen l (O x'))/\out x'=out x++E i l
def HkL (G0:PH) (bw:Nat) (w:Wc) (T:Dtr) (O:σ->List (Ψ)) (out:σ->List β) (Lh:Nat->Nat->List tQ->List β):Prop:=
 (w.lv=.nilFunc/\∀i b l,Lh i b l=[])\/∃k fst cap,w.lv=.func (.func k) fst cap/\aF prog k=nk/\∀(i b:Nat) (seen:Sl) (l:List tQ) (G F:PH) (x:σ),i<szN T->b<=l.length->l.length<=szN T->(out x).length+(Lh i b l).length<=5000000->G0.le G->St G F (WB bw w seen l (O x))->
  aj prog k (fst++ #[U (i:Int),U (b:Int)]++cap) F λr F'=>r=po #[]/\∃G' x',G.le G'/\St G' F' (WB bw w seen l (O x'))/\out x'=out x++Lh i b l
variable {F G G0:PH} {w:Wc} {seen:Sl} {T:Dtr} {bw b1 b2:Nat} {O:σ->List (Ψ)} {out:σ->List β} {E:Nat->List tQ->List β} {Lh:Nat->Nat->List tQ->List β}
structure WcG (G0:PH) (bw b1 b2:Nat) (w:Wc) (T:Dtr):Prop where
 q1:G0 b1=V (Y #[Pp bw] 98)
 q2:G0 b2=V (Y #[.func (.func 67) #[] #[Pp b1,Pp b2]] 149)
 t:RL G0 w.t (vA T)
 p:RL G0 w.p w.g.qa0
 e:RL G0 w.es (UY T)
 n:szN T<=2000000
 f:dT w.g T
 s:ScT w.g w.tx T
 k:∀p,0<(ua w.g p).decl->K7 (ua w.g p).kind
theorem HV:aF prog 67=nk:=by kernel_rfl
theorem fM {l:List tQ} {g:List (Ψ)} (h:St G F (WB bw w seen l g)):seen.len=l.length:=by have:=(h.sownRd (i:=1) rfl).len;rw [eO] at this;omega
theorem yv:xT .nilFunc nk:=.inl ⟨rfl,rfl⟩
theorem Db {f:Go.Fn} {x y:Γ}:xT (.func f x y) mD:=.inr ⟨⟨f,x,y,rfl⟩,rfl⟩
theorem Dc {R:VR} {i b:Nat} {l:List tQ} {x:σ} {g:Sl} {L:Int} (hW:WcG G0 bw b1 b2 w T) (X:HkL G0 bw w T O out Lh) (N:g.len=b) (hi:i<szN T) (hb:b<=l.length) (M:l.length<=szN T) (W:(out x).length+(Lh i b l).length<=5000000) (K:G0.le G) (h:St G F (WB bw w seen l (O x)))
  (k:∀D C B,G.le D->St D C (WB bw w seen l (O B))->out B=out x++Lh i b l->R (U L) C):nD (i:Int) (Z b1 0) g L R F:=by
 have q1:F.cell (Z b1 0)=V (Pp bw):=ld (h.le _ _ (K _ _ hW.q1)) rfl;unfold nD;refine ⟨_,q1,_,rfl,w.lv,ld (h.ptAt (i:=0) rfl) rfl,?_⟩;rcases X with ⟨A,H⟩|⟨Q,fst,cap,A,H,h3⟩
 ·rw [A];exact ⟨nk,yv,λJ=>(by cases J),λ_=>k G F x (au _) h (by rw [H,yt])⟩
 ·refine ⟨mD,by rw [A];exact Db,λ_=>⟨_,q1,_,rfl,w.lv,ld (h.ptAt (i:=0) rfl) rfl,Q,fst,cap,A,H,?_⟩,λJ=>(by cases J)⟩;rw [N];refine (h3 i b seen l G F x hi hb M W K h).mono ?_;rintro r C ⟨rfl,D,B,l',P,e'⟩;exact ⟨rfl,k D C B l' P e'⟩
theorem Mf {R:VR} {i b8:Nat} {l:List tQ} {x:σ} {M:Sl} {nx:Int} {pr fr to:Int} {ks:List Dtr} (B:WcG G0 bw b1 b2 w T) (X:bC T i=V (.nd pr fr to ks)) (hl:l.length+1<=szN T) (lG:G0.le G) (q8:G b8=V (Y (cg w.g (.nd pr fr to ks)).arr 60)) (h:St G F (WB bw w seen l (O x)))
  (k:∀G' F' H,G.le G'->St G' F' (WB bw w H (l++nU (ua w.g) (u9 w.tx) pr ks) (O x))->nD (i:Int) (Z b1 0) M nx R F'):ra (i:Int) (Z b1 0) M nx b8 R F:=by
 obtain ⟨s0,s1,_,_,_,_,s2,_⟩:=B.s.nd _ (dn X);have eo:nU (ua w.g) (u9 w.tx) pr ks=if 0<(cg w.g (.nd pr fr to ks)).d then [(Wt (u9 w.tx) ks (cg w.g (.nd pr fr to ks)).d.toNat,(cg w.g (.nd pr fr to ks)).k)] else []:=by
  show (if 0<(cg w.g (.nd pr fr to ks)).d.toNat then [(Wt (u9 w.tx) ks (cg w.g (.nd pr fr to ks)).d.toNat,(cg w.g (.nd pr fr to ks)).k)] else [])=_;by_cases e:0<(cg w.g (.nd pr fr to ks)).d
  ·rw [Χ e,Χ (by omega)]
  ·rw [Υ e,Υ (by omega)]
 rw [eo] at k;have A:F b8=_:=h.le _ _ q8;have q1:F.cell (Z b1 0)=V (Pp bw):=ld (h.le _ _ (lG _ _ B.q1)) rfl;have a6:=fM h;unfold ra;generalize cg w.g (.nd pr fr to ks)=L at*;refine ⟨_,ld A rfl,λhd=> ?_,λhd=> ?_⟩
 ·rw [Χ hd] at k;obtain ⟨c,C,Q⟩:=s2 hd;have a2:L.d.toNat - 1<ks.length:=(N6.1 C).1;have J:=gi X C;have a0:=B.s.lf c (dn J) Q;have N:=B.f c (dn J);obtain ⟨f0,f1⟩:0<=c.root.fr/\c.root.fr<=c.root.to:=by
   cases c with
   |lf tk fr to=>exact ⟨N.2.2.1,Int.le_of_lt N.2.2.2⟩
   |nd=>cases Q
  have a1:Wt (u9 w.tx) ks L.d.toNat=u9 w.tx c.root.fr c.root.to:=by unfold Wt;have:ks[L.d.toNat - 1]? =V c:=C;rw [this]
  have a3:=ii ks;have a4:=sub_le X;have a7:szN (.nd pr fr to ks)=1+vz ks:=cn _;have hN:=B.n;refine ⟨_,q1,_,rfl,_,q1,_,rfl,_,q1,_,rfl,_,ld A rfl,_,ld A rfl,?_⟩;rw [show i64.wrap (L.d - 1)=((L.d.toNat - 1:Nat):Int) by rw [aJ (by omega)];omega];have W:=h.ptAt (i:=0) rfl;have lF:=aa lG h.le;refine (yu W (B.e.le lF) B.n X (Nat.le_of_lt a2)).mono ?_;rintro r F' ⟨rfl,rfl⟩;refine ⟨_,rfl,ld A rfl,ld A rfl,q1,q1,q1,?_⟩;refine (rg W (B.t.le lF) J f0 f1 a0).mono ?_;rintro r F' ⟨rfl,rfl⟩;refine ⟨_,rfl,ld A rfl,ld A rfl,q1,q1,q1,?_⟩;refine (qhy (x:=(u9 w.tx c.root.fr c.root.to,L.k)) h (by omega)).mono ?_;rintro r F2 ⟨rfl,G',s',D,h',a5⟩;have P:F2 b8=_:=h'.le _ _ (D _ _ q8);have K:F2.cell (Z b1 0)=V (Pp bw):=ld (h'.le _ _ (D _ _ (lG _ _ B.q1))) rfl;refine ⟨rfl,ld P rfl,ld P rfl,K,K,K,k G' F2 s' D ?_⟩;rw [a1];exact h'
 ·rw [Υ hd,yt] at k;exact k G F seen (au _) h
end
theorem RI {K:Int->Prop} {l m:List tQ} (h:Vw K l) (k:Vw K m):Vw K (l++m):=λx g=>(vj.1 g).elim (h x) (k x)
section
variable {β σ:Type} {G0:PH} {w:Wc} {T:Dtr} {bw b1 b2:Nat} {O:σ->List (Ψ)} {out:σ->List β} {E:Nat->List tQ->List β} {Lh:Nat->Nat->List tQ->List β}
def Zt (_:PH) (bw:Nat) (w:Wc) (O:σ->List (Ψ)) (out:σ->List β) (E:Nat->List tQ->List β) (Lh:Nat->Nat->List tQ->List β) (m:Dtr) (i:Nat) (l:List tQ) (x:σ) (G:PH) (r:ξ) (F':PH):Prop:=
 r=U ((i+szN m:Nat):Int)/\∃G' seen' x',G.le G'/\St G' F' (WB bw w seen' (l++xG (ua w.g) (u9 w.tx) m) (O x'))/\out x'=out x++UX (ua w.g) (u9 w.tx) E Lh i l m
theorem qh8 (B:WcG G0 bw b1 b2 w T) (hE:HkE G0 bw w T O out E) (hL:HkL G0 bw w T O out Lh):∀(m:Dtr) (i:Nat) (l:List tQ) (seen:Sl) (x:σ) (G F:PH),bC T i=V m->l.length<=i->Vw K7 l->(out x).length+(UX (ua w.g) (u9 w.tx) E Lh i l m).length<=5000000->G0.le G->St G F (WB bw w seen l (O x))->
  ν 67 #[U (i:Int),Pp b1,Pp b2] F (Zt G0 bw w O out E Lh m i l x G):=by
 have hN:=B.n;have start:∀(m:Dtr) (i:Nat) (l:List tQ) (seen:Sl) (x:σ) (G F:PH),bC T i=V m->l.length<=i->Vw K7 l->(out x).length+(E i l).length<=5000000->G0.le G->St G F (WB bw w seen l (O x))->
   (∀G1 F1 x1,G.le G1->St G1 F1 (WB bw w seen l (O x1))->out x1=out x++E i l->rb (i:Int) (Z b1 0) (V (Z b2 0)) seen (Zt G0 bw w O out E Lh m i l x G) F1)->
   ν 67 #[U (i:Int),Pp b1,Pp b2] F (Zt G0 bw w O out E Lh m i l x G):=λm i l seen x G F K hl hK hB lG h k=>by
  have q1:F.cell (Z b1 0)=V (Pp bw):=ld (h.le _ _ (lG _ _ B.q1)) rfl;refine qgG ?_;unfold Uu;refine ⟨_,rfl,_,q1,_,rfl,seen,ld (h.ptAt (i:=0) rfl) rfl,_,q1,_,rfl,w.en,ld (h.ptAt (i:=0) rfl) rfl,?_⟩;rcases hE with ⟨D,h2⟩|⟨kf,fst,cap,D,h2,h3⟩
  ·rw [D];exact ⟨nk,yv,λhn=>(by cases hn),λ_=>k G F x (au _) h (by rw [h2,yt])⟩
  ·refine ⟨mD,by rw [D];exact Db,λ_=>⟨_,q1,_,rfl,w.en,ld (h.ptAt (i:=0) rfl) rfl,kf,fst,cap,D,h2,?_⟩,λhn=>(by cases hn)⟩;refine (h3 i seen l G F x (d6 K) hl hK hB lG h).mono ?_;rintro r F' ⟨rfl,G',x',l',h',e'⟩;exact ⟨rfl,k G' F' x' l' h' e'⟩
 refine Dtr.ind (λtk fr to i l seen x G F K hl hK hB lG h=> ?_) λX fr to A ih i l seen x G F K hl hK hB lG h=> ?_
 ·have a2:=d6 K;have e1:szN (.lf tk fr to)=1:=by rw [cn];show 1+vz []=1;rw [dh]
  rw [UX,tT] at hB;refine start _ i l seen x G F K hl hK (by omega) lG h λG1 F1 x1 l1 D ex=> ?_;have J:=aa lG l1;have P:=fM D;unfold rb;refine ⟨_,ld (D.le _ _ (J _ _ B.q1)) rfl,_,rfl,_,ld (D.ptAt (i:=0) rfl) rfl,?_⟩;refine gc (B.t.le (aa J D.le)) K λa Q=> ?_;rw [N4];refine ⟨_,aE Q rfl,λhn=>absurd hn (by show ¬(0:Int)<=-1;decide),λ_=> ?_⟩;rw [aC (n:=3000000) (by omega) (by omega)];refine Dc B hL P a2 (ru _) (by omega) (by rw [ex,tT];omega) J D λG2 F2 x2 l2 h2 c4=>⟨by rw [e1],G2,seen,x2,aa l1 l2,?_,?_⟩
  ·unfold xG;rw [yt];exact h2
  ·unfold UX;rw [c4,ex,xZ]
 ·have a2:=d6 K;have d3:=sub_le K;have e3:szN (.nd X fr to A)=1+vz A:=cn _;have c5:=B.f _ (dn K);obtain ⟨_,_,y,hy,hr⟩:=c5;obtain ⟨y0,y1,y2⟩:=bB hy;have ep:=B.p.len;have e2:=ii A;rw [UX,tT,tT] at hB;refine start _ i l seen x G F K hl hK (by omega) lG h λG1 F1 x1 l1 D ex=> ?_;have J:=aa lG l1;have P:=fM D;have q1:F1.cell (Z b1 0)=V (Pp bw):=ld (D.le _ _ (J _ _ B.q1)) rfl;unfold rb;refine ⟨_,q1,_,rfl,_,ld (D.ptAt (i:=0) rfl) rfl,?_⟩;have a5:=aa J D.le;refine gc (B.t.le a5) K λa Q=> ?_;rw [N4];refine ⟨X,aE Q rfl,λ_=>⟨_,q1,_,rfl,?_⟩,λhn=>absurd y0 hn⟩;refine (rc (D.ptAt (i:=0) rfl) (B.t.le a5) (B.p.le a5) B.f K).mono ?_;rintro r F2 ⟨rfl,d1⟩;have h2:=D.up d1;refine ⟨_,rfl,?_⟩;refine h2.var (by simp [ak]) (λb8 G3 F3 l3 q8 h3=> ?_);have a4:=aa J l3;have c6:F3.cell (Z b1 0)=V (Pp bw):=ld (h3.le _ _ (a4 _ _ B.q1)) rfl;refine ⟨_,c6,_,rfl,_,ld (h3.ptAt (i:=0) rfl) rfl,?_⟩;refine t8 (B.p.le (aa a4 h3.le)) (by decide) y0 (by omega) λa3 c3 z hz a6 c7=> ?_;obtain rfl:z=y:=yR (hz.symm.trans y2);obtain ⟨rr,nn,ll,rfl,b9,_⟩:=c7;have c8:=b9.len;rw [hr,ub] at c8;refine ⟨rr,aM a6 (i:=2) rfl,?_⟩;rw [aC (n:=3000000) (by omega) (by omega)];refine gA (λN x v F=>AV N (i:Int) (Z b1 0) (V (Z b2 0)) seen b8 rr _ x v F) A.length (λj nx F'=>nx=((bQ i A j:Nat):Int)/\∃G' a7 x',G3.le G'/\St G' F' (WB bw w a7 (l++yo (ua w.g) (u9 w.tx) (A.take j)) (O x'))/\out x'=out x++E i l++UW (ua w.g) (u9 w.tx) E Lh (i+1) l (A.take j)) _ ⟨by unfold bQ;rw [z6,dh],G3,seen,x1,au _,?_,?_⟩ ?_
  ·rw [z6,yo,yt];exact h3
  ·rw [z6,UW,yt];exact ex
  rintro j nx F4 Nx hj ⟨rfl,G4,C,x4,l4,W,M⟩ next;have a0:=aa a4 l4;have a1:=fM W;have c9:=Da (sp:=ua w.g) (tx:=u9 w.tx) (A.take j);rw [tT] at a1;unfold AV;refine ⟨λL=> ?_,λL=> ?_⟩
  ·have L:j<A.length:=by omega
   have hk:=N5 L;have b0:=gi (m:=.nd X fr to A) K hk;have hs:=gQ (i:=i) hk;have a9:bQ i A j=i+1+vz (A.take j):=rfl;have b7:=congrArg (λz=>(UW (ua w.g) (u9 w.tx) E Lh (i+1) l z).length) (jG hk);rw [kN,UW,tT,tT] at b7;refine ⟨_,rfl,_,ld (W.le _ _ (a0 _ _ B.q2)) rfl,67,#[],#[Pp b1,Pp b2],rfl,HV,?_⟩;refine (ih A[j] (Vc L) (bQ i A j) _ C x4 G4 F4 b0 (by rw [tT];omega) (RI hK (BH _ λk _=>OG B.k k)) (by rw [M,tT,tT,a9];omega) a0 W).mono ?_;rintro r F5 ⟨rfl,G5,a8,x5,l5,h5,b6⟩;rw [<- hs];refine ⟨_,rfl,?_⟩;rw [aC L];have et:A.take (j+1)=A.take j++[A[j]]:=by rw [Wx,hk];rfl
   refine next _ _ L ⟨rfl,G5,a8,x5,aa l4 l5,?_,?_⟩
   ·rw [et,lh,yo,yo,yt,<- xZ];exact h5
   ·rw [et,kN,UW,UW,yt,b6,M,<- a9,<- xZ]
  ·obtain rfl:j=A.length:=by omega
   rw [wB] at W M a1 c9;have b5:F4.cell (Z b1 0)=V (Pp bw):=ld (W.le _ _ (a0 _ _ B.q1)) rfl;have b3:=l4 _ _ q8;have fin:∀(l':List tQ) (s':Sl) (G6 F6:PH),G4.le G6->St G6 F6 (WB bw w s' l' (O x4))->l.length<=l'.length->l'.length<=l.length+vz A->(l'++nU (ua w.g) (u9 w.tx) X A=l++xG (ua w.g) (u9 w.tx) (.nd X fr to A))->
     ra (i:Int) (Z b1 0) seen ((bQ i A A.length:Nat):Int) b8 (Zt G0 bw w O out E Lh (.nd X fr to A) i l x G) F6:=λl' s' G6 F6 l6 h6 d4 e0 he=>by
    have b4:=aa a0 l6;refine Mf B K (by omega) b4 (l6 _ _ b3) h6 λG7 F7 s7 l7 h7=> ?_;rw [he] at h7;have d2:(nU (ua w.g) (u9 w.tx) X A).length<=1:=by unfold nU;split<;>simp
    have c2:=congrArg List.length he;rw [tT] at c2;refine Dc B hL P a2 (by rw [tT];omega) (by omega) (by rw [M,tT,tT];omega) (aa b4 l7) h7 λG8 F8 x8 l8 h8 d0=>⟨?_,G8,s7,x8,aa l1 (aa l3 (aa l4 (aa l6 (aa l7 l8)))),h8,?_⟩
    ·rw [jA];congr 1;omega
    ·rw [d0,M];rw [UX];simp only [xZ]
   unfold HT;refine ⟨_,ld (W.le _ _ b3) rfl,λho=> ?_,λho=> ?_⟩
   ·refine ⟨_,b5,_,b5,_,rfl,_,ld (W.ptAt (i:=0) rfl) rfl,by omega,by omega,by omega,by omega,?_,_,rfl,?_⟩
    ·have:=(W.sownRd (i:=1) rfl).cap;omega
    rw [N4];have h5:=W.imp (A':=gT (Sl.cut C 2 0 seen.len seen.len) 80 2 (bi l)) 1 rfl λH _ hH=>by have:=gT.cut hH (k:=seen.len) (by omega);rw [qik,P,List.take_left' rfl] at this;rw [P];exact this
    refine h5.set0 (w':=w.arr (Sl.cut C 2 0 seen.len seen.len)) (vr rfl) rfl λF5 h6=> ?_;refine fin l _ G4 F5 (au _) h6 (ru _) (by omega) ?_;rw [xG,Χ (show (ua w.g X).opens=nk from ho),zB]
   ·refine fin _ C G4 F4 (au _) W (by rw [tT];omega) (by rw [tT];omega) ?_;rw [xG,Υ (by rw [show (ua w.g X).opens=mD from ho];decide),xZ]
end
def ZM (n:Int):Dtr->Bool
 | .lf _ _ to=>decide (to<=n)
 | .nd _ _ _ _=>nk
def Yd (tx:ο) (T:Dtr):Bool:=(xx T).all (ZM tx.size)
theorem AX {g:Gr} {tx:ο} {T:Dtr} (O:OkG g) (hf:dT g T) (P:Yd tx T=nk):ScT g tx T:=by
 refine ⟨λm G J=> ?_,λm G=> ?_⟩
 ·have:=VA.1 P m G;cases m with
  |lf N C to=>exact ζ this
  |nd=>cases J
 ·have H:=hf m G;cases m with
  |lf N C to=>rw [show cg g (.lf N C to)=km from rfl];exact ⟨Vd _,Vd _,Vd _,by decide,Vd _,by decide,λh=>absurd h (by decide),λh=>absurd h (by decide)⟩
  |nd M C to K=>
   obtain ⟨_,_,x,L,Q⟩:=H;obtain ⟨_,_,W⟩:=bB L;obtain ⟨_,d,hd⟩:=ik g.qa0 [] O.qa0 x (vO W);have D:lu x:=by obtain ⟨_,_,_,_,_,h⟩:=hd;exact h
   obtain ⟨_,w,A,_⟩:=D;have X:cg g (.nd M C to K)=x.sco:=by unfold cg;dsimp only;rw [L];rfl
   have key:∀q:Int,(0<q/\q<=x.right.length/\(∃s,x.right[(q - 1).toNat]? =V s/\s.t=nk))->∃c,(Dtr.nd M C to K).kids[q.toNat - 1]? =V c/\Bq c:=λq ⟨r,E,s,B,h4⟩=>by
    rw [Q,yw,show (q - 1).toNat=q.toNat - 1 by omega] at B;cases e:K[q.toNat - 1]? with
    |none=>rw [e] at B;cases B
    |some c=>
     rw [e] at B;obtain rfl:=yR B;refine ⟨c,e,?_⟩;cases c with
     |lf=>trivial
     |nd=>cases h4
   rw [X];refine ⟨?_,?_,?_,?_,?_,?_,λh=> ?_,λh=> ?_⟩
   ·rcases w with ⟨r,_⟩|⟨r,_⟩<;>omega
   ·rcases A with ⟨r,_⟩|⟨r,_⟩<;>omega
   ·rcases A with ⟨_,r⟩|⟨_,_,_,r,_⟩<;>omega
   ·rcases A with ⟨_,r⟩|⟨_,_,_,_,r⟩<;>omega
   ·rcases w with ⟨_,r⟩|⟨_,_,_,r,_⟩<;>omega
   ·rcases w with ⟨_,r⟩|⟨_,_,_,_,r⟩<;>omega
   ·rcases w with ⟨r,_⟩|⟨r,E,B,_⟩
    ·omega
    ·exact key _ ⟨r,E,B⟩
   ·rcases A with ⟨r,_⟩|⟨r,E,B,_⟩
    ·omega
    ·exact key _ ⟨r,E,B⟩
theorem HW {g:Gr} (w:OkG g) {x:Pr} (r:x∈g.qa0):lu x:=by obtain ⟨_,d,hd⟩:=ik g.qa0 [] w.qa0 x r;obtain ⟨_,_,_,_,_,h⟩:=hd;exact h
theorem RJ {g:Gr} (w:OkG g) (p:Int) (h:0<(ua g p).decl):K7 (ua g p).kind:=by
 unfold ua at h ⊢;dsimp only at h ⊢;cases hx:VI g p with
 |none=>rw [hx] at h;exact absurd h (by decide)
 |some x=>
  rw [hx] at h;obtain ⟨_,_,A⟩:=bB hx;obtain ⟨_,C,_⟩:=HW w (vO A);show K7 x.sco.k;have h:0<x.sco.d.toNat:=h;rcases C with ⟨r,_⟩|⟨_,_,_,r,B⟩
  ·omega
  ·exact ⟨by omega,B⟩
section
variable {β σ:Type} {G0 F:PH} {w:Wc} {seen:Sl} {T:Dtr} {bw:Nat} {O:σ->List (Ψ)} {out:σ->List β} {E:Nat->List tQ->List β} {Lh:Nat->Nat->List tQ->List β}
structure WcO (G0:PH) (w:Wc) (T:Dtr):Prop where
 t:RL G0 w.t (vA T)
 p:RL G0 w.p w.g.qa0
 e:RL G0 w.es (UY T)
 n:szN T<=2000000
 f:dT w.g T
 s:ScT w.g w.tx T
 k:∀p,0<(ua w.g p).decl->K7 (ua w.g p).kind
theorem WcO.le {G1:PH} (h:WcO G0 w T) (l:G0.le G1):WcO G1 w T:=⟨h.t.le l,h.p.le l,h.e.le l,h.n,h.f,h.s,h.k⟩
theorem HkE.up {G1:PH} (h:HkE G0 bw w T O out E) (l:G0.le G1):HkE G1 bw w T O out E:=h.elim .inl λ⟨k,f,c,g,r,D⟩=> .inr ⟨k,f,c,g,r,λi seen C G F x a b B A d=>D i seen C G F x a b B A (aa l d)⟩
theorem HkL.up {G1:PH} (h:HkL G0 bw w T O out Lh) (l:G0.le G1):HkL G1 bw w T O out Lh:=h.elim .inl λ⟨k,f,c,g,A,H⟩=> .inr ⟨k,f,c,g,A,λi b seen D G F x a C r B d=>H i b seen D G F x a C r B (aa l d)⟩
theorem kO {x:σ} (Q:WcO G0 w T) (N:HkE G0 bw w T O out E) (hL:HkL G0 bw w T O out Lh) (hB:(out x).length+(UX (ua w.g) (u9 w.tx) E Lh 0 [] T).length<=5000000) (h:St G0 F (WB bw w seen [] (O x))):
  ν 33 #[Pp bw] F λr L=>r=po #[]/\∃G A D,G0.le G/\St G L (WB bw w A (xG (ua w.g) (u9 w.tx) T) (O D))/\out D=out x++UX (ua w.g) (u9 w.tx) E Lh 0 [] T:=by
 refine qgz ?_;unfold Ul;refine h.newG λK G1 F1 l1 q1 _ h=> ?_;refine h.new λJ F2 h=> ?_;refine h.set0 (w':= #[.func (.func 67) #[] #[Pp K,Pp J]]) (by decide) rfl λP h=> ?_;obtain ⟨G2,H,⟨H2,a2,W⟩,h⟩:=h.pin;have q2:=W _ _ a2;have C:=aa l1 H;refine ⟨_,ld (h.le _ _ q2) rfl,67,#[],#[Pp K,Pp J],rfl,HV,?_⟩;have B:=Q.le C;refine (qh8 ⟨H _ _ q1,q2,B.t,B.p,B.e,B.n,B.f,B.s,B.k⟩ (N.up C) (hL.up C) T 0 [] seen x G2 P (eM T) (ru _) (λ_ M=>by cases M) hB (au _) h).mono ?_;rintro r F4 ⟨rfl,G,A,D,l',X,e'⟩;exact ⟨_,rfl,rfl,G,A,D,aa C l',X,e'⟩
end
section
variable {F G:PH} {g:Gr} {k:Nat} {T:Dtr} {c:Int}
def Wu (g:Gr) (c:Int) (tx:ο) (T:Dtr):Int:=if X5 g c T≠0 then X5 g c T else if Yd tx T=nk then 0 else 90
theorem qgI {w D h A E B C H r u v x:ξ}:tC (tC (tC (wr (#[tX I 0 0,.slice I 0 0,U 0,.slice I 0 0,.slice I 0 0,.slice I 0 0,U 0,.slice I 0 0,.slice I 0 0,.string ⟨#[]⟩,tX I 0 0,.slice I 0 0]:Γ) 0 (#[w,D,h,A,E,B,C,H,r]:Γ).toList) 9 u) 10 v) 11 x= #[w,D,h,A,E,B,C,H,r,u,v,x]:=by kernel_rfl
theorem qgJ {w D h A E B C H r u v x:ξ}:wr (#[tX I 0 0,.slice I 0 0,U 0,.slice I 0 0,.slice I 0 0,.slice I 0 0,U 0,.slice I 0 0,.slice I 0 0,.string ⟨#[]⟩,tX I 0 0,.slice I 0 0,.slice I 0 0,.nilFunc,.nilFunc]:Γ) 0 (#[w,D,h,A,E,B,C,H,r,u,v,x]:Γ).toList= #[w,D,h,A,E,B,C,H,r,u,v,x,tX I 0 0,.nilFunc,.nilFunc]:=by kernel_rfl
theorem nE {v:Γ} {t:Sl} {tx:ο} (hT:Tab F) (hg:GV F v g) (hG:GdG g k) (hf:dT g T) (hN:szN T<=2000000) (ht:RL F t (vA T)) (c0:0<=c) (c1:c<18446744073709551616):
  ν 31 #[nQ v,rV .u64 c,ph tx,t.v] F λr M=>(Wu g c tx T≠0/\r=po #[pk I,U (Wu g c tx T)]/\F.le M)\/
   (Wu g c tx T=0/\∃(b:Nat) (w:Wc) (G':PH),r=po #[Pp b,U 0]/\F.le G'/\w.g=g/\w.tx=tx/\w.en=.nilFunc/\w.lv=.nilFunc/\WcO G' w T/\St G' M (WB b w pm [] [])):=by
 have et:t.len=szN T:=ht.len;have c3:=hg;obtain ⟨cs,n,tk,s,p,l,f,rfl,hs⟩:=hg;refine qgx ?_;unfold Uj;refine fresh λb4 F1 l1 q4 _=>⟨_,rfl,ai q4,?_⟩;refine (AQ (hT.le l1) (c3.le l1) hG hf hN (ht.le l1) c0 c1).mono ?_;rintro r F2 ⟨rfl,l2⟩;have b1:=aa l1 l2;refine ⟨_,rfl,λN=> .inl ?_,λhe=> ?_⟩
 ·have:Wu g c tx T=X5 g c T:=by unfold Wu;rw [Χ N]
  rw [this];exact ⟨N,rfl,b1⟩
 have he:X5 g c T=0:=Decidable.not_not.1 he;have eo:Wu g c tx T=if Yd tx T=nk then 0 else 90:=by unfold Wu;rw [Υ (μ he)]
 refine bD (AR · tx t b4 _) (szN T) (λj M=>F2.le M/\((xx T).take j).all (ZM tx.size)=nk) ⟨au _,rfl⟩ ?_;rintro j L Nx hj ⟨l3,C⟩ next;have B:=aa b1 l3;unfold AR;refine ⟨λD=> ?_,λc6=> ?_⟩
 ·have D:j<szN T:=by omega
  obtain ⟨m,hm⟩:=gS D;have c4:=gR hm;have a2:(xx T)[j]? =V m:=hm;refine t8 (ht.le B) (by decide) (by omega) (by omega) λa5 c5 x5 O J b2=> ?_;rw [N4,c4] at O;obtain rfl:=yR O;obtain rfl:c5=m.root.arr:=b2;refine ⟨_,rfl,J,?_⟩;refine (St.start L).var (by simp [ak]) (λb9 G4 F4 l4 q9 h=> ?_);have a4:=h.le _ _ q9;have a6:=aa l4 h.le;have go:ZM tx.size m=nk->∀R:VR,vo Nx tx t b4 (j:Int) R F4:=λh R=>by unfold vo;rw [aC D];exact next F4 D ⟨aa l3 a6,by rw [yr a2,C,h];rfl⟩
  refine ⟨_,ld a4 rfl,?_⟩;cases hmm:m with
  |lf c8 b6 a3=>refine ⟨λ_=>⟨a3,ld a4 (by rw [hmm];rfl),λP=> .inl ?_,λP=>go (by rw [hmm];exact ε (by omega)) _⟩,λhn=>absurd (by show (-1:Int)<0;decide) hn⟩;have:Yd tx T=mD:=HO a2 (by rw [hmm];exact η (by omega));rw [eo,Υ (by rw [this];decide)];exact ⟨by decide,rfl,aa B a6⟩
  |nd c9 b6 a3 c7=>have X:=hf m (dn hm);rw [hmm] at X;obtain ⟨_,_,y,c2,_⟩:=X;exact ⟨λhn=>absurd (bB c2).1 (Int.not_le.2 hn),λ_=>go (by rw [hmm];rfl) _⟩
 ·obtain rfl:j=szN T:=by omega
  rw [zh (by rw [cV];exact ru _)] at C;have a0:Yd tx T=nk:=C;unfold HP;have a9:=aa l2 l3 _ _ q4;refine ⟨_,rfl,ai a9,?_⟩;rw [et];refine bT underlying76 X6 X8 rfl (by omega) (Vd _) (by omega) (by omega) ?_;intro E W;have h:=Yb ((St.start L).new (K:=λb M=>St L M [pt b (Y (Builtin.zeroCells (Value.int .i64 0).cells (nX ((szN T:Nat):Int))) 3)]) (λ_ _ h=>h) E W);have h:=h.imp (A':=own (t7 (V (oB E 0 I)) (nX ((szN T:Nat):Int)) (nX ((szN T:Nat):Int))) 3 1 ((List.replicate (szN T) (0:Int)).map U)) 0 rfl λH _ hH=>by
   refine .inr ⟨E,_,rfl,hH,?_,ru _,?_,?_⟩
   ·simp [Builtin.zeroCells,Value.cells]
   ·simp
   ·simp [Builtin.zeroCells,Value.cells,Nat.mod_one];rw [show (λ_:Nat=>rV .i64 0)=Function.const Nat (rV .i64 0) from rfl,List.map_const,WI,List.take_replicate,Nat.min_self]
  refine ⟨_,rfl,ai (h.le _ _ a9),rfl,?_⟩;rw [qgI,qgJ];refine ⟨rfl,?_⟩;generalize t7 (V (oB E 0 I)) (nX ((szN T:Nat):Int)) (nX ((szN T:Nat):Int))=es at*;refine h.new λb0 F5 h=> ?_;have b8:=hs.le B;obtain ⟨w,hw⟩:∃w:Wc,w=⟨g,cs,n,tk,s,p,l,f,tx,t,es,.nilFunc,.nilFunc⟩:=⟨_,rfl⟩;have h:St L F5 [pt b0 (Y (w.arr pm) 108),own w.es 3 1 ((List.replicate (szN T) (0:Int)).map U)]:=by rw [hw];exact h
  have ew:w.g=g/\w.tx=tx/\w.t=t/\w.p=p/\w.en=.nilFunc/\w.lv=.nilFunc:=by rw [hw];exact ⟨rfl,rfl,rfl,rfl,rfl,rfl⟩
  clear hw;obtain ⟨e1,e2,e3,e4,e5,e6⟩:=ew;have a8:RL L w.p w.g.qa0:=by rw [e1,e4];exact b8.p
  have a1:RL L w.t (vA T):=by rw [e3];exact ht.le B
  have Q:dT w.g T:=by rw [e1];exact hf
  refine (qhz hN a1 a8 Q T 0 _ F5 (eM T) Xx h).mono ?_;rintro r F6 ⟨rfl,E',hM,h6⟩;refine ⟨_,rfl,.inr ⟨by rw [eo,Χ a0],b0,w,?_⟩⟩;have b3:E'=UY T:=by
   refine WH λq=> ?_;by_cases e:q<szN T
   ·exact (hM.2 q).1 ⟨yA _,by omega⟩
   ·rw [VP (by rw [hM.1,Xx];omega),VP (by unfold UY;rw [ub,jH];omega)]
  rw [b3] at h6;have h6:=h6.swap;obtain ⟨G7,l7,⟨H7,a7,b7⟩,h7⟩:=h6.pin;have b5:=(bO.rd a7).le b7;have h8:=h7.push (A:=gT pm 80 2 (bi [])) (H:=λ_=>I) gT.nil (λb P=>absurd rfl P) (λb o P=>(by cases P)) (au _);exact ⟨G7,rfl,aa B l7,e1,e2,e5,e6,⟨a1.le l7,a8.le l7,RL.ints.2 b5,hN,Q,by rw [e1,e2];exact AX hG.ok.ok hf a0,by rw [e1];exact RJ hG.ok.ok⟩,h8.swap⟩
end
theorem qgK:aF prog 32=nk:=by kernel_rfl
theorem qgL:aF prog 36=nk:=by kernel_rfl
section
variable {F G G0:PH} {g:Gr} {k:Nat} {T:Dtr} {c:Int} {w:Wc} {bw b9 b12 b14:Nat}
theorem AY {e n:Nat} {l:List tQ} {seen:Sl} {o:Obj} (h:St G F [pt b14 o,pt bw (Y (w.arr seen) 108),gT seen 80 2 (bi l)]):St G F (WB bw w seen l [pt b14 o,own pm e n []]):=by
 have h:=h.push (A:=own pm e n []) (H:=λ_=>I) (.inl ⟨rfl,rfl⟩) (λb r=>absurd rfl r) (λb o r=>(by cases r)) (au _)
 exact h.pick (λj=>match j with|0=>2|1=>3|2=>1|_=>0) (by
  intro a b B r
  match a,b,(show a<4 from B),(show b<4 from r) with
  |0,0,_,_|1,1,_,_|2,2,_,_|3,3,_,_=>intro _;rfl
  |0,1,_,_|0,2,_,_|0,3,_,_|1,0,_,_|1,2,_,_|1,3,_,_|2,0,_,_|2,1,_,_|2,3,_,_|3,0,_,_|3,1,_,_|3,2,_,_=>intro h;exact absurd h (by decide)) (by
  intro a B
  match a,(show a<4 from B) with
  |0,_|1,_|2,_|3,_=>rfl)
abbrev FN (b14:Nat) (x:Sl×List tQ):List (Ψ):=[pt b14 (Y #[x.1.v] 48),own x.1 80 2 (bi x.2)]
theorem uh {x:Sl×List tQ} {sx seen:Sl} {l m:List tQ} {K:Sl->Ψ} (h:St G F (WB bw w seen l (FN b14 x))) (B:RdS F sx 2 (bi m)) (E:x.1.len+sx.len<=500000000) (k:∀r A,St G A (WB bw w seen l [pt b14 (Y #[x.1.v] 48),own r 80 2 (bi (x.2++m))])->K r A):
  aG prog (Builtin.append_ #[48,48] 48 #[x.1.v,sx.v]) F λv F=>∃r:Sl,v=nI r/\K r F:=by
 obtain ⟨_,_,D⟩:=HU;refine h.appAt D 3 rfl B (jI _) (by omega) λr A C _=>k r A ?_;rw [dx];exact C
theorem Dd {x:Sl×List tQ} {seen:Sl} {l:List tQ} (h:St G F (WB bw w seen l (FN b14 x))):x.1.len=x.2.length:=by have:=(h.ownAt (i:=3) rfl).1.rd.len;rw [eO] at this;omega
theorem Mg {i:Nat} (hN:szN T<=2000000) (O:w.lv=.func (.func 32) #[] #[Pp b9,Pp b14,Pp b12]) (X:G0 b9=V (Y #[U (i:Int)] 3)) (D:G0 b12=V (Y #[Pp bw] 98)):
  HkL G0 bw w T (FN b14) (λx=>x.2) (WG i):=by
 refine .inr ⟨_,_,_,O,qgK,λj b seen l G F x hj hb hl E H h=> ?_⟩;have K:F b9=_:=h.le _ _ (H _ _ X);have C:F b12=_:=h.le _ _ (H _ _ D);have W:=Dd h;have L:=fM h;have A:=h.sownRd (i:=1) rfl;show aj prog _ #[U (j:Int),U (b:Int),Pp b9,Pp b14,Pp b12] F _;refine qgy ?_;unfold Uk;unfold WG at E ⊢;dsimp only at E ⊢;refine ⟨_,rfl,_,ld K rfl,λN=> ?_,λQ=> ?_⟩
 ·have N:j=i:=by omega
  rw [Χ N] at E ⊢;rw [W8] at E;refine ⟨_,rfl,_,ld (h.ptAt (i:=2) rfl) rfl,_,rfl,_,ld C rfl,_,rfl,seen,ld (h.ptAt (i:=0) rfl) rfl,by omega,by omega,A.cap,?_⟩;rw [N4];have B:=A.cut (l:=b) (r:=seen.len) (m:=seen.cap) (by omega) (ru _) A.cap;have B:RdS F (Sl.cut seen 2 b seen.len seen.cap) 2 (bi (l.drop b)):=by rw [qil] at B;rw [L] at B ⊢;rw [show (bi (l.drop b)).take ((l.length - b)*2)=bi (l.drop b) from zh (by rw [eO,W8];exact ru _)] at B;exact B
  refine uh h B (by show x.1.len+(seen.len - b)<=_;omega) λM F' J=> ?_;refine ⟨ld (J.ptAt (i:=0) rfl) rfl,ld (J.le _ _ (H _ _ D)) rfl,?_⟩;refine J.set2 (w':= #[M.v]) (vr rfl) rfl λF3 P=>⟨rfl,G,(M,x.2++l.drop b),au _,P,rfl⟩
 ·rw [Υ (by omega)];exact ⟨rfl,G,x,au _,h,(yt _).symm⟩
def Zu (i:Nat):Nat->List tQ->List tQ:=λj s=>if j=i then s else []
theorem Mh {i:Nat} (_:szN T<=2000000) (L:w.en=.func (.func 36) #[] #[Pp b9,Pp b14,Pp b12]) (Q:G0 b9=V (Y #[U (i:Int)] 3)) (A:G0 b12=V (Y #[Pp bw] 98)):
  HkE G0 bw w T (FN b14) (λx=>x.2) (Zu i):=by
 refine .inr ⟨_,_,_,L,qgL,λj seen l G F x hj X _ D C h=> ?_⟩;have E:F b9=_:=h.le _ _ (C _ _ Q);have r:F b12=_:=h.le _ _ (C _ _ A);have P:=Dd h;have O:=fM h;have B:=h.sownRd (i:=1) rfl;show aj prog _ #[U (j:Int),Pp b9,Pp b14,Pp b12] F _;refine qgA ?_;unfold Um;unfold Zu at D ⊢;dsimp only at D ⊢;refine ⟨_,rfl,_,ld E rfl,λJ=> ?_,λN=> ?_⟩
 ·have J:j=i:=by omega
  rw [Χ J] at D ⊢;refine ⟨_,rfl,_,ld (h.ptAt (i:=2) rfl) rfl,_,rfl,_,ld r rfl,_,rfl,seen,ld (h.ptAt (i:=0) rfl) rfl,?_⟩;refine uh h B (by omega) λH W K=> ?_;refine ⟨ld (K.le _ _ (C _ _ A)) rfl,?_⟩;refine K.set2 (w':= #[H.v]) (vr rfl) rfl λF3 M=>⟨rfl,G,(H,x.2++l),au _,M,rfl⟩
 ·rw [Υ (by omega)];exact ⟨rfl,G,x,au _,h,(yt _).symm⟩
def exA (g:Gr) (c:Int) (tx:ο) (T:Dtr) (i:Int):List tQ×Int:=if Wu g c tx T≠0 then ([],Wu g c tx T) else match (if 0<=i then bC T i.toNat else I) with
 |some m=>(xG (ua g) (u9 tx) m,0)
 |none=>([],1)
def vsA (g:Gr) (c:Int) (tx:ο) (T:Dtr) (i:Int):List tQ×Int:=if Wu g c tx T≠0 then ([],Wu g c tx T) else match (if 0<=i then (xu (ua g) (u9 tx) [] T)[i.toNat]? else I) with
 |some l=>(l,0)
 |none=>([],1)
def Zq (a:List tQ×Int) (r:ξ) (F':PH):Prop:=∃s:Sl,r=po #[s.v,U a.2]/\RL F' s a.1
theorem qhA {v:Γ} {t:Sl} {tx:ο} {i:Int} (hT:Tab F) (hg:GV F v g) (hG:GdG g k) (hf:dT g T) (hN:szN T<=2000000) (ht:RL F t (vA T)) (c0:0<=c) (c1:c<18446744073709551616):
  ν 11 #[nQ v,rV .u64 c,ph tx,t.v,U i] F λr D=>Zq (exA g c tx T i) r D/\F.le D:=by
 have et:t.len=szN T:=ht.len;refine qfd ?_;unfold Uf;refine fresh λb5 F1 l1 q5 _=>fresh λb9 F2 l2 q9 _=> ?_;have C:=aa l1 l2;refine ⟨v,hg.size,ai (l2 _ _ q5),?_⟩;refine (nE (hT.le C) (hg.le C) hG hf hN (ht.le C) c0 c1).mono ?_;rintro r F3 (⟨H,rfl,l3⟩|⟨H,bw,w,G3,rfl,l3,e1,e2,e3,e4,hW,h⟩)
 ·have L:=aa C l3;refine ⟨_,_,rfl,?_⟩;refine (St.start F3).new λb12 F4 h=>h.set0 (w':= #[pk I]) (by decide) rfl λF5 h=>⟨λ_=>⟨⟨pm,?_,?_⟩,aa L h.le⟩,λhn=>absurd H hn⟩
  ·unfold exA;rw [Χ H]
  ·unfold exA;rw [Χ H];exact RL.nil _
 ·have L:=aa C l3;refine ⟨_,_,rfl,?_⟩;refine h.new λb12 F4 h=>h.set0 (w':= #[Pp bw]) (by decide) rfl λF5 h=> ?_;obtain ⟨G4,l4,⟨H4,a4,a5⟩,h⟩:=h.pin;have J:=a5 _ _ a4;have K:=aa L l4;have X:=aa l3 l4 _ _ q9;have W:F5 b9=_:=h.le _ _ X;have no:(if 0<=i then bC T i.toNat else I)=I->∀D,F.le D->Zq (exA g c tx T i) (po #[nI pm,U 1]) D/\F.le D:=λQ D lF=>⟨⟨pm,by unfold exA;rw [Υ (μ H),Q],by unfold exA;rw [Υ (μ H),Q];exact RL.nil _⟩,lF⟩;refine ⟨λhn=>absurd rfl hn,λ_=>⟨i,ld W rfl,λa3=>no (by rw [Υ (by omega)]) _ (aa K h.le),λa2=>⟨i,ld W rfl,λa6=>no ?_ _ (aa K h.le),λa9=> ?_⟩⟩⟩
  ·rw [Χ (by omega)];unfold bC;rw [VP (by rw [cV];omega)]
  obtain ⟨m,hm⟩:=gS (n:=T) (j:=i.toNat) (by omega);have hx:exA g c tx T i=(xG (ua g) (u9 tx) m,0):=by unfold exA;rw [Υ (μ H),Χ (by omega),hm]
  refine h.new λb14 F6 h=> ?_;have O:F6 b12=_:=h.le _ _ J;refine ⟨_,ld O rfl,_,rfl,?_⟩;refine h.set1 (w':={w with lv:=.func (.func 32) #[] #[Pp b9,Pp b14,Pp b12]}.arr pm) (vr rfl) rfl λF7 h=> ?_;have h:=AY (e:=80) (n:=2) h;have A:=hW.le l4;have h:St G4 F7 (WB bw {w with lv:=.func (.func 32) #[] #[Pp b9,Pp b14,Pp b12]} pm [] (FN b14 (pm,[]))):=h;generalize a0:({w with lv:=.func (.func 32) #[] #[Pp b9,Pp b14,Pp b12]}:Wc)=B at h ⊢;have f1:B.g=g/\B.tx=tx/\B.en=.nilFunc/\B.lv=.func (.func 32) #[] #[Pp b9,Pp b14,Pp b12]/\WcO G4 B T:=by rw [<- a0];exact ⟨e1,e2,e3,rfl,⟨A.t,A.p,A.e,A.n,A.f,A.s,A.k⟩⟩
  obtain ⟨f1,f2,f3,f4,a1⟩:=f1;have hi:((i.toNat:Nat):Int)=i:=by omega
  have M:=Jh (sp:=ua B.g) (tx:=u9 B.tx) T i.toNat 0 m [] hm;rw [x9] at M;have a7:=vx (sp:=ua B.g) (tx:=u9 B.tx) m;have a8:=sub_le hm;have P:F7.cell (Z b12 0)=V (Pp bw):=ld (h.le _ _ J) rfl;refine ⟨_,P,?_⟩;refine (kO (E:=λ_ _=>[]) (Lh:=WG i.toNat) a1 (.inl ⟨f3,λ_ _=>rfl⟩) (Mg (b14:=b14) hN f4 (by rw [hi];exact X) J) (x:=(pm,[])) (by rw [M];show 0+_<=_;omega) h).mono ?_;rintro r F8 ⟨rfl,G5,s5,x5,l5,h5,N⟩;rw [M] at N;refine ⟨rfl,x5.1,ld (h5.ptAt (i:=2) rfl) rfl,⟨x5.1,by rw [hx],?_⟩,aa K (aa l5 h5.le)⟩;rw [hx];have hr:=(h5.ownAt (i:=3) rfl).1.rd;rw [show x5.2=xG (ua B.g) (u9 B.tx) m from N,f1,f2] at hr;exact RL.nams.2 hr
end
section
variable {sp:Int->Spc} {tx:Int->Int->ο}
theorem De:∀(l:List Dtr),(∀k∈l,∀(s:List tQ) (i:Nat) (x:List tQ),(xu sp tx s k)[i]? =V x->x.length<=s.length+szN k)->∀(s:List tQ) (i:Nat) (x:List tQ),(yX sp tx s l)[i]? =V x->x.length<=s.length+vz l
 |[],_,s,i,x,h=>by unfold yX at h;simp at h
 |n::l,hk,s,i,x,h=>by
  rw [yX] at h;rw [co];by_cases hi:i<(xu sp tx s n).length
  ·rw [zM hi] at h;have:=hk n (by simp) s i x h;omega
  ·rw [Ua (by omega)] at h;have:=De l (λk h=>hk k (by simp [h])) _ _ x h;have g:=vx (sp:=sp) (tx:=tx) n;rw [tT] at this;omega
theorem HX:∀(n:Dtr) (s:List tQ) (i:Nat) (x:List tQ),(xu sp tx s n)[i]? =V x->x.length<=s.length+szN n:=Dtr.ind (λ_ _ _ s i x h=>by
  unfold xu at h;cases i with
  |zero=>cases h;omega
  |succ i=>simp at h) λr w to g ih s i x h=>by
 rw [jh] at h;rw [cn];cases i with
 |zero=>cases h;omega
 |succ i=>rw [Vy] at h;have:=De g ih s i x h;show _<=s.length+(1+vz g);omega
end
section
variable {F G G0:PH} {g:Gr} {k:Nat} {T:Dtr} {c:Int} {w:Wc} {bw b9 b12 b14:Nat}
theorem qhB {v:Γ} {t:Sl} {tx:ο} {i:Int} (hT:Tab F) (hg:GV F v g) (hG:GdG g k) (hf:dT g T) (hN:szN T<=2000000) (ht:RL F t (vA T)) (c0:0<=c) (c1:c<18446744073709551616):
  ν 13 #[nQ v,rV .u64 c,ph tx,t.v,U i] F λr C=>Zq (vsA g c tx T i) r C/\F.le C:=by
 have et:t.len=szN T:=ht.len;refine qfe ?_;unfold Ug;refine fresh λb5 F1 l1 q5 _=>fresh λb9 F2 l2 q9 _=> ?_;have B:=aa l1 l2;refine ⟨v,hg.size,ai (l2 _ _ q5),?_⟩;refine (nE (hT.le B) (hg.le B) hG hf hN (ht.le B) c0 c1).mono ?_;rintro r F3 (⟨D,rfl,l3⟩|⟨D,bw,w,G3,rfl,l3,e1,e2,e3,e4,hW,h⟩)
 ·have L:=aa B l3;refine ⟨_,_,rfl,?_⟩;refine (St.start F3).new λb12 F4 h=>h.set0 (w':= #[pk I]) (by decide) rfl λF5 h=>⟨λ_=>⟨⟨pm,?_,?_⟩,aa L h.le⟩,λhn=>absurd D hn⟩
  ·unfold vsA;rw [Χ D]
  ·unfold vsA;rw [Χ D];exact RL.nil _
 ·have L:=aa B l3;refine ⟨_,_,rfl,?_⟩;refine h.new λb12 F4 h=>h.set0 (w':= #[Pp bw]) (by decide) rfl λF5 h=> ?_;obtain ⟨G4,l4,⟨H4,a4,a5⟩,h⟩:=h.pin;have H:=a5 _ _ a4;have K:=aa L l4;have W:=aa l3 l4 _ _ q9;have Q:F5 b9=_:=h.le _ _ W;have no:(if 0<=i then (xu (ua g) (u9 tx) [] T)[i.toNat]? else I)=I->∀C,F.le C->Zq (vsA g c tx T i) (po #[nI pm,U 1]) C/\F.le C:=λP C lF=>⟨⟨pm,by unfold vsA;rw [Υ (μ D),P],by unfold vsA;rw [Υ (μ D),P];exact RL.nil _⟩,lF⟩;refine ⟨λhn=>absurd rfl hn,λ_=>⟨i,ld Q rfl,λa6=>no (by rw [Υ (by omega)]) _ (aa K h.le),λa3=>⟨i,ld Q rfl,λa7=>no ?_ _ (aa K h.le),λa9=> ?_⟩⟩⟩
  ·rw [Χ (by omega)];rw [VP (by rw [eW];omega)]
  have a2:i.toNat<(xu (ua g) (u9 tx) [] T).length:=by rw [eW];omega
  obtain ⟨m,hm⟩:∃m,(xu (ua g) (u9 tx) [] T)[i.toNat]? =V m:=⟨_,N5 a2⟩;have hx:vsA g c tx T i=(m,0):=by unfold vsA;rw [Υ (μ D),Χ (by omega),hm]
  refine h.new λb14 F6 h=> ?_;have N:F6 b12=_:=h.le _ _ H;refine ⟨_,ld N rfl,_,rfl,?_⟩;refine h.set1 (w':={w with en:=.func (.func 36) #[] #[Pp b9,Pp b14,Pp b12]}.arr pm) (vr rfl) rfl λF7 h=> ?_;have h:=AY (e:=80) (n:=2) h;have A:=hW.le l4;have h:St G4 F7 (WB bw {w with en:=.func (.func 36) #[] #[Pp b9,Pp b14,Pp b12]} pm [] (FN b14 (pm,[]))):=h;generalize a0:({w with en:=.func (.func 36) #[] #[Pp b9,Pp b14,Pp b12]}:Wc)=J at h ⊢;have f1:J.g=g/\J.tx=tx/\J.lv=.nilFunc/\J.en=.func (.func 36) #[] #[Pp b9,Pp b14,Pp b12]/\WcO G4 J T:=by rw [<- a0];exact ⟨e1,e2,e4,rfl,⟨A.t,A.p,A.e,A.n,A.f,A.s,A.k⟩⟩
  obtain ⟨f1,f2,f3,f4,a1⟩:=f1;have hi:((i.toNat:Nat):Int)=i:=by omega
  have X:=(y9 (sp:=ua J.g) (tx:=u9 J.tx) (E:=Zu i.toNat) T 0 []).trans (Sf _ i.toNat (by rw [f1,f2];exact hm));have a8:m.length<=2000000:=by have:=HX (sp:=ua g) (tx:=u9 tx) T [] i.toNat m hm;rw [W9] at this;omega
  have O:F7.cell (Z b12 0)=V (Pp bw):=ld (h.le _ _ H) rfl;refine ⟨_,O,?_⟩;refine (kO (E:=Zu i.toNat) (Lh:=λ_ _ _=>[]) a1 (Mh (b14:=b14) hN f4 (by rw [hi];exact W) H) (.inl ⟨f3,λ_ _ _=>rfl⟩) (x:=(pm,[])) (by rw [X];show 0+_<=_;omega) h).mono ?_;rintro r F8 ⟨rfl,G5,s5,x5,l5,h5,M⟩;rw [X] at M;refine ⟨rfl,x5.1,ld (h5.ptAt (i:=2) rfl) rfl,⟨x5.1,by rw [hx],?_⟩,aa K (aa l5 h5.le)⟩;rw [hx];have hr:=(h5.ownAt (i:=3) rfl).1.rd;rw [show x5.2=m from M] at hr;exact RL.nams.2 hr
end
theorem qgM:aF prog 38=nk:=by kernel_rfl
theorem qcR:∃b z,SlT 52 66 3 b z:=⟨_,_,underlying52,aaJ,aaP,rfl,by decide,by decide⟩
abbrev kA (l:Δ):Ξ:=l.flatMap λ(i:Nat)=>(#[U 6,U (i:Int),U 0]:Γ).toList
theorem qht (l m:Δ):kA (l++m)=kA l++kA m:=by simp [kA]
theorem ui:∀l:Δ,(kA l).length=l.length*3
 |[]=>rfl
 |x::l=>by have:=ui l;simp only [kA,VC,tT,wg] at this ⊢;rw [this];show 3+_=_;omega
theorem RL.vios {F:PH} {s:Sl} {l:Δ}:RL F s (l.map Vio.mk)↔RdS F s 3 (kA l):=by rw [RL.flat (f:=Vio.arr) (λ_ _ _=>Iff.rfl),List.flatMap_map];exact Iff.rfl
theorem Mi {a k:Int} (A:0<=a) (C:a<=255) (h:0<=k) (D:k<=7):(i64.wrap ((BitVec.ofInt (i64).bits (Int.fdiv a (2 ^ (min (nX k) (i64).bits))) &&& BitVec.ofInt (i64).bits (1:Int)).toNat))=if Xu a.toNat k=nk then 1 else 0:=by
 obtain ⟨n,rfl⟩:=Yj A;obtain ⟨j,rfl⟩:=Yj h;have r:n<256:=by omega
 have E:j<8:=by omega
 rw [show (i64).bits=64 from rfl,N4,YO (by omega)];have w:Int.fdiv (n:Int) (2 ^ j)=((n / 2 ^ j:Nat):Int):=by rw [Zb _ (by exact Int.le_of_lt (Int.pow_pos (by decide)))];simp
 have hd:n / 2 ^ j<256:=Nat.lt_of_le_of_lt (Nat.div_le_self _ _) r;rw [w];have B:(BitVec.ofInt 64 ((n / 2 ^ j:Nat):Int) &&& BitVec.ofInt 64 (1:Int)).toNat=n / 2 ^ j % 2:=by rw [BitVec.toNat_and,BitVec.ofInt_natCast,BitVec.toNat_ofNat,show (BitVec.ofInt 64 (1:Int)).toNat=1 from rfl,Nat.mod_eq_of_lt (by omega),Nat.and_one_is_mod]
 rw [B];unfold Xu;rw [N4,N4];have g:=Nat.mod_two_eq_zero_or_one (n / 2 ^ j);rcases g with g|g
 ·rw [g];rfl
 ·rw [g];rfl
theorem HY {s:ο} {l:List tQ} (h:Vw K7 l):K7 (eF s l):=by
 unfold eF;cases e:l.reverse.find? λx=>decide (x.1=s) with
 |none=>exact ⟨Vd _,by decide⟩
 |some x=>exact h x (List.mem_reverse.1 (List.mem_of_find?_eq_some e))
section
variable {F G G0:PH} {g:Gr} {k:Nat} {T:Dtr} {c:Int} {w:Wc} {bw b10 b12:Nat}
abbrev Ux (b12:Nat) (x:Sl×Δ):List (Ψ):=[pt b12 (Y #[x.1.v] 52),own x.1 66 3 (kA x.2)]
theorem Mj (D:WcO G0 w T) (h1:w.en=.func (.func 38) #[] #[Pp b10,Pp b12]) (Q:G0 b10=V (Y #[Pp bw] 98)):
  HkE G0 bw w T (Ux b12) (λx=>x.2) (Yy (ua w.g) (u9 w.tx) T):=by
 refine .inr ⟨_,_,_,h1,qgM,λj seen l G F x hj hl hK H lG h=> ?_⟩;obtain ⟨m,N⟩:=gS hj;obtain ⟨s0,s1,s2,s3,s4,s5,s6,s7⟩:=D.s.nd m (dn N);have lF:=aa lG h.le;have a2:F.cell (Z b10 0)=V (Pp bw):=ld (h.le _ _ (lG _ _ Q)) rfl;have b2:=fM h;have hN:=D.n;have b3:x.1.len=x.2.length:=by have:=(h.ownAt (i:=3) rfl).1.rd.len;rw [ui] at this;omega
 have eE:Yy (ua w.g) (u9 w.tx) T j l=if XE (ua w.g) (u9 w.tx) l m=nk then [] else [j]:=by unfold Yy;rw [N]
 dsimp only at H ⊢;rw [eE] at H ⊢;have eU:XE (ua w.g) (u9 w.tx) l m=if (cg w.g m).u.toNat=0 then nk else Xu (cg w.g m).a.toNat (eF (Wt (u9 w.tx) m.kids (cg w.g m).u.toNat) l):=by
  cases m with
  |lf=>rfl
  |nd=>rfl
 rw [eU] at H ⊢;show aj prog _ #[U (j:Int),Pp b10,Pp b12] F _;refine qgB ?_;unfold Un;refine ⟨_,rfl,_,a2,_,rfl,?_⟩;refine (rc (h.ptAt (i:=0) rfl) (D.t.le lF) (D.p.le lF) D.f N).mono ?_;rintro r F1 ⟨rfl,l1⟩;have a4:=h.up l1;refine ⟨_,rfl,?_⟩;generalize b1:cg w.g m=C at*;refine a4.var (by simp [ak]) (λb4 G2 F2 l2 q4 E=> ?_);have O:=aa lG l2;have B:F2 b4=_:=E.le _ _ q4;have A:F2.cell (Z b10 0)=V (Pp bw):=ld (E.le _ _ (O _ _ Q)) rfl;refine ⟨_,ld B rfl,λhu=> ?_,λhu=> ?_⟩
 ·have hu:C.u=0:=hu;rw [Χ (show C.u.toNat=0 by omega),Χ rfl];exact ⟨rfl,G2,x,l2,E,(yt _).symm⟩
 ·have hu:¬C.u=0:=hu;rw [Υ (show ¬C.u.toNat=0 by omega)] at H ⊢;obtain ⟨c0,J,a1⟩:=s7 (by omega);have a9:C.u.toNat - 1<m.kids.length:=(N6.1 J).1;have L:=gi N J;have a3:=D.s.lf c0 (dn L) a1;have W:=D.f c0 (dn L);obtain ⟨f0,f1⟩:0<=c0.root.fr/\c0.root.fr<=c0.root.to:=by
   cases c0 with
   |lf tk fr to=>exact ⟨W.2.2.1,Int.le_of_lt W.2.2.2⟩
   |nd=>cases a1
  have a8:Wt (u9 w.tx) m.kids C.u.toNat=u9 w.tx c0.root.fr c0.root.to:=by unfold Wt;rw [J]
  rw [a8] at H ⊢;have b0:=ii m.kids;have a6:=sub_le N;rw [cn] at a6;have M:=E.ptAt (i:=0) rfl;have P:=aa O E.le;have a5:=RL.nams.2 (E.sownRd (i:=1) rfl);refine ⟨_,ld B rfl,_,A,_,rfl,_,A,_,rfl,_,A,_,rfl,_,ld B rfl,?_⟩;dsimp only;rw [show i64.wrap (C.u - 1)=((C.u.toNat - 1:Nat):Int) by rw [aJ (by omega)];omega];refine (yu M (D.e.le P) D.n N (Nat.le_of_lt a9)).mono ?_;rintro r F' ⟨rfl,rfl⟩;refine ⟨_,rfl,ld B rfl,A,A,A,ld B rfl,?_⟩;refine (rg M (D.t.le P) L f0 f1 a3).mono ?_;rintro r F' ⟨rfl,rfl⟩;refine ⟨_,rfl,ld B rfl,A,A,A,ld B rfl,?_⟩;refine (FM (s:=u9 w.tx c0.root.fr c0.root.to) (ld M rfl) a5 (by omega)).mono ?_;rintro r F' ⟨rfl,rfl⟩;have K:=HY (s:=u9 w.tx c0.root.fr c0.root.to) hK;generalize eF (u9 w.tx c0.root.fr c0.root.to) l=kk at*;refine ⟨_,rfl,ld B rfl,A,A,A,ld B rfl,K.1,?_⟩;rw [Mi s2 s3 K.1 K.2];refine ⟨λX=> ?_,λX=> ?_⟩
  ·have a7:Xu C.a.toNat kk=mD:=by
    cases e:Xu C.a.toNat kk with
    |false=>rfl
    |true=>rw [e] at X;exact absurd X (by decide)
   rw [a7] at H ⊢;obtain ⟨_,_,TV⟩:=qcR;refine ⟨_,rfl,_,ld (E.ptAt (i:=2) rfl) rfl,rfl,?_⟩;have H:x.2.length+1<=5000000:=H;refine E.push3 TV (c:= #[U 6,U (j:Int),U 0]) rfl (by simp [ak]) (by omega) λs' G3 F3 l3 h3 _=> ?_;refine h3.set2 (w':= #[s'.v]) (vr rfl) rfl λF4 h4=>⟨rfl,G3,(s',x.2++[j]),aa l2 l3,?_,rfl⟩;rw [show kA x.2++(#[U 6,U (j:Int),U 0]:Γ).toList=kA (x.2++[j]) by rw [qht];rfl] at h4;exact h4
  ·have a0:Xu C.a.toNat kk=nk:=by
    cases e:Xu C.a.toNat kk with
    |true=>rfl
    |false=>rw [e] at X;exact absurd rfl X
   rw [a0];exact ⟨rfl,G2,x,l2,E,(yt _).symm⟩
def voA (g:Gr) (c:Int) (tx:ο) (T:Dtr):Δ×Int:=if Wu g c tx T≠0 then ([],Wu g c tx T) else (WC (ua g) (u9 tx) T,0)
def Z9 (a:Δ×Int) (r:ξ) (F':PH):Prop:=∃s:Sl,r=po #[s.v,U a.2]/\RL F' s (a.1.map Vio.mk)
theorem RM {sp:Int->Spc} {tx:Int->Int->ο}:(WC sp tx T).length<=szN T:=by
 unfold WC
 have:=List.length_filter_le (λi=>match (xu sp tx [] T)[i]?,bC T i with
 |some s,V m=> !XE sp tx s m
 |_,_=>mD) (List.range (szN T))
 rw [WI] at this;exact this
theorem iR {v:Γ} {t:Sl} {tx:ο} (hT:Tab F) (hg:GV F v g) (hG:GdG g k) (hf:dT g T) (hN:szN T<=2000000) (ht:RL F t (vA T)) (c0:0<=c) (c1:c<18446744073709551616):
  ν 15 #[nQ v,rV .u64 c,ph tx,t.v] F λr F'=>Z9 (voA g c tx T) r F'/\F.le F':=by
 refine qff ?_;unfold Uh;refine fresh λb4 F2 C q5 _=> ?_;refine ⟨v,hg.size,ai q5,?_⟩;refine (nE (hT.le C) (hg.le C) hG hf hN (ht.le C) c0 c1).mono ?_;rintro r F3 (⟨K,rfl,O⟩|⟨K,bw,w,G3,rfl,O,e1,e2,e3,e4,hW,h⟩)
 ·have H:=aa C O;refine ⟨_,_,rfl,?_⟩;refine (St.start F3).new λb12 F4 h=>h.set0 (w':= #[pk I]) (by decide) rfl λF5 h=>⟨λ_=>⟨⟨pm,?_,?_⟩,aa H h.le⟩,λN=>absurd K N⟩
  ·unfold voA;rw [Χ K]
  ·unfold voA;rw [Χ K];exact RL.nil _
 ·have H:=aa C O;refine ⟨_,_,rfl,?_⟩;refine h.new λb10 F4 h=>h.set0 (w':= #[Pp bw]) (by decide) rfl λF5 h=> ?_;obtain ⟨G4,l4,⟨H4,a4,a5⟩,h⟩:=h.pin;have D:=a5 _ _ a4;have Q:=aa H l4;have hx:voA g c tx T=(WC (ua g) (u9 tx) T,0):=by unfold voA;rw [Υ (μ K)]
  refine ⟨λN=>absurd rfl N,λ_=> ?_⟩;refine h.new λb12 F6 h=> ?_;refine ⟨_,ld (h.le _ _ D) rfl,_,rfl,?_⟩;refine h.set1 (w':={w with en:=.func (.func 38) #[] #[Pp b10,Pp b12]}.arr pm) (vr rfl) rfl λF7 h=> ?_;have h:=AY (e:=66) (n:=3) h;have A:=hW.le l4;have h:St G4 F7 (WB bw {w with en:=.func (.func 38) #[] #[Pp b10,Pp b12]} pm [] (Ux b12 (pm,[]))):=h;generalize P:({w with en:=.func (.func 38) #[] #[Pp b10,Pp b12]}:Wc)=B at h ⊢;have W:B.g=g/\B.tx=tx/\B.lv=.nilFunc/\B.en=.func (.func 38) #[] #[Pp b10,Pp b12]/\WcO G4 B T:=by rw [<- P];exact ⟨e1,e2,e4,rfl,⟨A.t,A.p,A.e,A.n,A.f,A.s,A.k⟩⟩
  obtain ⟨W,f2,f3,f4,L⟩:=W;have M:=qdn (sp:=ua B.g) (tx:=u9 B.tx) T;have a0:=RM (T:=T) (sp:=ua B.g) (tx:=u9 B.tx);refine ⟨_,ld (h.le _ _ D) rfl,?_⟩;refine (kO (E:=Yy (ua B.g) (u9 B.tx) T) (Lh:=λ_ _ _=>[]) L (Mj (b12:=b12) L f4 D) (.inl ⟨f3,λ_ _ _=>rfl⟩) (x:=(pm,[])) (by rw [M];show 0+_<=_;omega) h).mono ?_;rintro r F8 ⟨rfl,G5,s5,x5,l5,X,J⟩;rw [M] at J;refine ⟨rfl,x5.1,ld (X.ptAt (i:=2) rfl) rfl,⟨x5.1,by rw [hx],?_⟩,aa Q (aa l5 X.le)⟩;rw [hx];have hr:=(X.ownAt (i:=3) rfl).1.rd;rw [show x5.2=WC (ua B.g) (u9 B.tx) T from J,W,f2] at hr;exact RL.vios.2 hr
theorem kB {v:Γ} {t:Sl} {tx:ο} (E:Tab F) (C:GV F v g) (O:GdG g k) (N:dT g T) (J:szN T<=2000000) (K:RL F t (vA T)) (c0:0<=c) (c1:c<18446744073709551616):
  ν 19 #[nQ v,rV .u64 c,ph tx,t.v] F λr L=>r=nW (decide ((voA g c tx T).2=0) && (voA g c tx T).1.isEmpty)/\F.le L:=by
 refine qfg ?_;unfold Ui;refine fresh λQ F2 h q5 _=>⟨v,C.size,ai q5,?_⟩;refine (iR (E.le h) (C.le h) O N J (K.le h) c0 c1).mono ?_;rintro r W ⟨⟨s,rfl,M⟩,H⟩;have A:=aa h H;have D:=M.len;rw [ub] at D;refine ⟨s,_,rfl,λP=>⟨?_,A⟩,λB=>⟨?_,A⟩⟩
 ·rw [ε P,Wz,D];congr 1;cases (voA g c tx T).1 with
  |nil=>rfl
  |cons=>rw [η (by simp only [wg];omega)];rfl
 ·rw [η B,W6]
end
def Vx (l:Δ):Nat->List Sy->Nat
 |n,[]=>n
 |n,s::r=>Vx l (if s.t=nk then n else max n (l.getD s.i.toNat 0)) r
theorem yx (l:Δ) (s:Sy):∀(r:List Sy) (n:Nat),Vx l n (r++[s])=if s.t=nk then Vx l n r else max (Vx l n r) (l.getD s.i.toNat 0)
 |[],n=>rfl
 |x::r,n=>by rw [zK,Vx,yx l s r,Vx]
theorem nF (l:Δ) {m:Nat}:∀(r:List Sy) (n:Nat),Vx l n r<=m↔n<=m/\∀s∈r,s.t=mD->l.getD s.i.toNat 0<=m
 |[],n=>by simp [Vx]
 |s::r,n=>by
  rw [Vx,nF l r];cases h:s.t with
  |true=>simp [h]
  |false=>simp only [VQ,if_false,tS,forall_eq_or_imp,h,true_implies,Nat.max_le,and_assoc]
section
variable (P N:Nat) (pr:Nat->Bool) (lf:Nat->Nat) (rt:Nat->List Sy)
def hgt (l:Δ) (p:Nat):Nat:=if pr p=nk then min (Vx l 0 (rt p)+1) 1000 else 1000
def VK:Nat->Nat->Prop
 |0,_=>False
 |k+1,n=>∃p,p<P/\pr p=nk/\lf p=n/\∀s∈rt p,s.t=mD->VK k s.i.toNat
theorem ri:∀(k n:Nat),VK P pr lf rt k n->VK P pr lf rt (k+1) n
 |0,_,h=>h.elim
 |k+1,_,⟨p,h1,h2,h3,h4⟩=>⟨p,h1,h2,h3,λs g r=>ri k _ (h4 s g r)⟩
theorem yy {k j n:Nat} (h:VK P pr lf rt k n) (g:k<=j):VK P pr lf rt j n:=by
 induction g with
 |refl=>exact h
 |step _ ih=>exact ri P pr lf rt _ n ih
structure HIp (r p:Nat) (l:Δ):Prop where
 len:l.length=N
 cap:∀n,n<N->l.getD n 0<=1000
 sd:∀n,n<N->l.getD n 0<1000->VK P pr lf rt (l.getD n 0) n
 lo:∀k,k<=r->∀n,n<N->VK P pr lf rt k n->l.getD n 0<=k
 nx:∀q,q<p->pr q=nk->(∀s∈rt q,s.t=mD->VK P pr lf rt r s.i.toNat)->l.getD (lf q) 0<=r+1
variable {P N pr lf rt}
theorem lS {l:Δ} {i j v:Nat} (hi:i<l.length):(l.set i v).getD j 0=if j=i then v else l.getD j 0:=by
 rw [QX,QX];by_cases h:j=i
 ·subst h;rw [Χ rfl,X1 hi];rfl
 ·rw [Υ h,Zh (Ne.symm h)]
theorem HIp.hgt_sd {r p q:Nat} {l:Δ} (h:HIp P N pr lf rt r p l) (D:q<P) (E:∀s∈rt q,s.t=mD->s.i.toNat<N) (A:hgt pr rt l q<1000):VK P pr lf rt (hgt pr rt l q) (lf q):=by
 unfold hgt at A ⊢;split at A
 ·rename_i w;rw [Χ w] at ⊢;have e:min (Vx l 0 (rt q)+1) 1000=Vx l 0 (rt q)+1:=by omega
  rw [e];refine ⟨q,D,w,rfl,λs C B=> ?_⟩;have g:=((nF l (m:=Vx l 0 (rt q)) (rt q) 0).1 (ru _)).2 s C B;exact yy P pr lf rt (h.sd _ (E s C B) (by omega)) g
 ·omega
theorem HIp.step {r p:Nat} {l:Δ} (h:HIp P N pr lf rt r p l) (L:p<P) (G:lf p<N) (H:∀s∈rt p,s.t=mD->s.i.toNat<N) (K:r<900):HIp P N pr lf rt r (p+1) (l.set (lf p) (min (l.getD (lf p) 0) (hgt pr rt l p))):=by
 have hi:lf p<l.length:=by rw [h.len];exact G
 have E:=h.hgt_sd L H;have Q:=h.cap _ G;refine ⟨by rw [Yp];exact h.len,λn C=> ?_,λn C=> ?_,λk M n C D=> ?_,λq O A B=> ?_⟩
 ·rw [lS hi];split
  ·omega
  ·exact h.cap n C
 ·rw [lS hi];split
  ·rename_i e;subst e;intro g;by_cases J:l.getD (lf p) 0<=hgt pr rt l p
   ·rw [YO J] at g ⊢;exact h.sd _ G g
   ·rw [Nat.min_eq_right (by omega)] at g ⊢;exact E g
  ·exact h.sd n C
 ·rw [lS hi];have:=h.lo k M n C D;split
  ·rename_i e;subst e;omega
  ·exact this
 ·rw [lS hi];by_cases e:lf q=lf p
  ·rw [Χ e];by_cases w:q<p
   ·have:=h.nx q w A B;rw [e] at this;omega
   ·have:q=p:=by omega
    subst this;have:hgt pr rt l q<=r+1:=by unfold hgt;rw [Χ A];have:=(nF l (m:=r) (rt q) 0).2 ⟨yA _,λs E D=>h.lo r (ru _) _ (H s E D) (B s E D)⟩;omega
    omega
  ·rw [Υ e];refine h.nx q ?_ A B;by_cases w:q=p
   ·subst w;exact absurd rfl e
   ·omega
theorem HIp.next {r:Nat} {l:Δ} (h:HIp P N pr lf rt r P l):HIp P N pr lf rt (r+1) 0 l:=by
 refine ⟨h.len,h.cap,h.sd,λk G n A g=> ?_,λq E=>by omega⟩;by_cases e:k<=r
 ·exact h.lo k e n A g
 ·have:k=r+1:=by omega
  subst this;obtain ⟨p,w,B,D,C⟩:=g;subst D;exact h.nx p w B C
theorem HIp.init:HIp P N pr lf rt 0 0 (List.replicate N 1000):=by
 have r:∀n,n<N->(List.replicate N 1000).getD n 0=1000:=λn g=>by rw [QX,List.getElem?_replicate,Χ g];rfl
 refine ⟨Xx,λn g=>by rw [r n g];exact ru _,λn g h=>by rw [r n g] at h;omega,λk B n g w=> ?_,λq A=>by omega⟩;have:k=0:=by omega
 subst this;exact w.elim
theorem uj:∀(k n:Nat),VK P pr lf rt (k+1) n->¬VK P pr lf rt k n->(∀p,p<P->∀s∈rt p,s.t=mD->s.i.toNat<N)->n<N->∃l:Δ,l.length=k+1/\(∀x∈l,x<N)/\l.Nodup/\(∀x∈l,VK P pr lf rt (k+1) x)/\∀x∈l,x=n\/VK P pr lf rt k x
 |0,n,h,hn,hr,hN=>⟨[n],rfl,by simpa using hN,by simp,by simpa using h,by simp⟩
 |k+1,n,h,hn,hr,hN=>by
  obtain ⟨p,D,J,O,M⟩:=id h;have A:∃s∈rt p,s.t=mD/\¬VK P pr lf rt k s.i.toNat:=by refine Classical.byContradiction λK=>hn ⟨p,D,J,O,λs w r=>Classical.byContradiction λC=>K ⟨s,w,r,C⟩⟩
  obtain ⟨s,w,r,C⟩:=A;obtain ⟨l,L,G,H,B,Q⟩:=uj k s.i.toNat (M s w r) C hr (hr p D s w r);refine ⟨n::l,by rw [wg,L],λx g=> ?_,WT.2 ⟨λE=>hn (B n E),H⟩,λx g=> ?_,λx g=> ?_⟩
  ·rcases tS.1 g with rfl|g
   ·exact hN
   ·exact G x g
  ·rcases tS.1 g with rfl|g
   ·exact h
   ·exact ri P pr lf rt _ x (B x g)
  ·rcases tS.1 g with rfl|g
   ·exact .inl rfl
   ·exact .inr (B x g)
theorem Df (g:∀p,p<P->∀s∈rt p,s.t=mD->s.i.toNat<N):∀(k n:Nat),n<N->VK P pr lf rt k n->VK P pr lf rt N n
 |0,n,_,h=>h.elim
 |k+1,n,hn,h=>by
  by_cases e:VK P pr lf rt k n
  ·exact Df g k n hn e
  ·obtain ⟨l,B,r,A,_,_⟩:=uj k n h e g hn;have:=cW l (List.range N) A λx w=>WU.2 (r x w);rw [B,WI] at this;exact yy P pr lf rt h this
structure HF (P N:Nat) (pr:Nat->Bool) (lf:Nat->Nat) (rt:Nat->List Sy) (l:Δ):Prop where
 len:l.length=N
 le:∀n,n<N->l.getD n 0<1000->l.getD n 0<=N
 best:∀n,n<N->l.getD n 0<1000->∃p,p<P/\lf p=n/\hgt pr rt l p=l.getD n 0
theorem Mk {l:Δ} {p:Nat} (h:hgt pr rt l p<1000) {s:Sy} (r:s∈rt p) (w:s.t=mD):pr p=nk/\l.getD s.i.toNat 0<hgt pr rt l p:=by
 unfold hgt at h ⊢;by_cases g:pr p=nk
 ·rw [Χ g] at h ⊢;have:=((nF l (m:=Vx l 0 (rt p)) (rt p) 0).1 (ru _)).2 s r w;exact ⟨g,by omega⟩
 ·rw [Υ g] at h;omega
theorem RN {l:Δ} {p:Nat} (h:hgt pr rt l p<1000):pr p=nk:=by
 unfold hgt at h;by_cases g:pr p=nk
 ·exact g
 ·rw [Υ g] at h;omega
theorem HIp.final {l:Δ} (h:HIp P N pr lf rt (N+1) 0 l) (L:N<900) (C:∀p,p<P->∀s∈rt p,s.t=mD->s.i.toNat<N):HF P N pr lf rt l:=by
 have r:∀n,n<N->l.getD n 0<1000->l.getD n 0<=N:=λn g B=>h.lo N (by omega) n g (Df C _ n g (h.sd n g B));refine ⟨h.len,r,λn g B=> ?_⟩;have M:=r n g B;have w:=h.sd n g B;generalize ev:l.getD n 0=v at*;cases v with
 |zero=>exact w.elim
 |succ v=>
  obtain ⟨p,A,H,E,J⟩:=w;have G:hgt pr rt l p<=v+1:=by unfold hgt;rw [Χ H];have:=(nF l (m:=v) (rt p) 0).2 ⟨yA _,λs w D=>h.lo v (by omega) _ (C p A s w D) (J s w D)⟩;omega
  have K:=h.lo (hgt pr rt l p) (by omega) n g (by
   have:=h.hgt_sd A (C p A) (by omega)
   rwa [E] at this)
  exact ⟨p,A,E,by omega⟩
end
structure GrR (nf:Prop) (hs o:Nat) (m:Ttr):Prop where
 nfb:nf->yT m<=6 ^ hs
 fb:∃f,yT m<=1081*f+216/\f<=yT m/\(f=0\/o+f<=41)
structure GrL (nf:Prop) (h o:Nat) (ks:List Ttr):Prop where
 nfb:nf->yZ ks<=ks.length*6 ^ h
 fb:∃f,yZ ks<=1081*f+216*ks.length/\f<=yZ ks/\(f=0\/o+f<=41)
theorem GrL.nil {g:Prop} {h o:Nat}:GrL g h o []:=⟨λ_=>by rw [fF];exact yA _,0,by rw [fF];exact yA _,yA _,.inl rfl⟩
theorem GrL.snoc {w g:Prop} {h A o:Nat} {ks:List Ttr} {m:Ttr} (D:GrL w h o ks) (B:GrR g A (o+yZ ks) m) (E:w->g) (G:w->A<=h):GrL w h o (ks++[m]):=by
 have e:yZ (ks++[m])=yZ ks+yT m:=by rw [kU,ja,fF];omega
 have C:(ks++[m]).length=ks.length+1:=by simp
 refine ⟨λn=> ?_,?_⟩
 ·have J:=D.nfb n;have K:=B.nfb (E n);have O:6 ^ A<=6 ^ h:=Ww (by decide) (G n);rw [e,C,Wn];omega
 ·obtain ⟨f,M,P,H⟩:=D.fb;obtain ⟨q,N,L,r⟩:=B.fb;refine ⟨f+q,?_,?_,?_⟩
  ·rw [e,C,Nat.mul_add];omega
  ·rw [e];omega
  ·rcases r with r|r
   ·subst r;rw [Nat.add_zero];exact H
   ·exact .inr (by omega)
theorem GrR.qa6 {h:Prop} {r o:Nat} {g:Int}:GrR h r o (.lf g):=by
 have e:yT (.lf g)=1:=by rw [kT];show 1+yZ []=1;rw [fF]
 exact ⟨λ_=>by rw [e];exact Nat.one_le_pow _ _ (by decide),0,by rw [e];decide,by omega,.inl rfl⟩
theorem GrR.nd {r g:Prop} {h o:Nat} {pr:Int} {ks:List Ttr} (w:GrL g (h - 1) (o+1) ks) (C:ks.length<=5) (E:1<=h) (B:r->g) (D:r->h<=3) (A:r\/o<=40):GrR r h o (.nd pr ks):=by
 have e:yT (.nd pr ks)=1+yZ ks:=kT _;have key:r->yT (.nd pr ks)<=6 ^ h:=λn=>by
  have a:=w.nfb (B n);have b:ks.length*6 ^ (h - 1)<=5*6 ^ (h - 1):=Xj _ C;have c:6 ^ h=6 ^ (h - 1)*6:=by rw [<- Nat.pow_succ];congr 1;omega
  have d:1<=6 ^ (h - 1):=Nat.one_le_pow _ _ (by decide);rw [e,c];omega
 refine ⟨key,?_⟩;rcases A with n|A
 ·have a:=key n;have b:6 ^ h<=6 ^ 3:=Ww (by decide) (D n);have c:(6:Nat) ^ 3=216:=by decide
  exact ⟨0,by omega,yA _,.inl rfl⟩
 ·obtain ⟨f,G,J,H⟩:=w.fb;refine ⟨f+1,?_,?_,.inr ?_⟩
  ·rw [e,Nat.mul_add];omega
  ·rw [e];omega
  ·omega
theorem GrR.bound {g:Prop} {r:Nat} {m:Ttr} (h:GrR g r 0 m):yT m<=44537:=by obtain ⟨f,A,B,w⟩:=h.fb;omega
section
variable {F G:PH} {g:Gr} {k:Nat} {c:Int}
theorem qhl {v:Γ} (hg:GV F v g) (Q:OkK g k) (hf:(vi g.fam).ev (wu c)=nk) (c0:0<=c) (c1:c<18446744073709551616) {i:Nat} {x:Pr} (hx:g.qa0[i]? =V x):
  ν 138 #[nQ v,rV .u64 c,U i] F λr F'=>r=nW ((bI g i).ev (wu c))/\F.le F':=by
 obtain ⟨o1,o2,o3,o4⟩:=dm Q.ok;obtain ⟨cs,n,t,s,p,l,f,rfl,hs⟩:=hg;have hi:i<g.qa0.length:=(N6.1 hx).1;have ep:=hs.p.len;have et:=hs.t.len;have a0:=vO hx;obtain ⟨a8,b2,_,b1⟩:=Q.prod a0;have c7:=o4 x a0;have W:=Q.prs_ev hx (wu c);rw [hf,Wz] at W;refine qd4 ?_;unfold Pk;refine (St.start F).newG λb3 G1 F1 l1 q3 _ h=> ?_;have a6:=hs.le l1;refine ⟨p,ld (h.le _ _ q3) rfl,?_⟩;refine t8 a6.p (by decide) (by omega) (by omega) λb9 b5 x' a5 a1 hc=> ?_;rw [N4,hx] at a5;cases a5;refine ⟨b5,Mem.len hc,aN h.le a1,?_⟩;refine h.var (Mem.st hc) (λb7 G2 F2 l2 q7 h=> ?_) rfl (Mem.len hc);obtain ⟨r,n8,l8,rfl,hr,b0,_⟩:=hc;have er:=hr.len;refine bD (xn · c b3 b7 _) x.right.length (λj F'=>∃G':PH,G2.le G'/\St G' F' []/\((x.right.take j).all λs=> !s.t || (eI g s.i).ev (wu c))=nk) ⟨G2,au _,h,by rw [z6];rfl⟩ ?_;rintro j F3 N hj ⟨G3,l3,h,A⟩ next;have w:=aa l2 l3;have D:=l3 _ _ q7;unfold xn;refine ⟨r,ld (h.le _ _ D) rfl,λE=> ?_,λc2=> ?_⟩
 ·have E:j<x.right.length:=by omega
  refine ⟨r,ld (h.le _ _ D) rfl,?_⟩;refine t8 (hr.le w) (by decide) (by omega) (by omega) λc6 b6 J H C X=> ?_;rw [N4] at H;obtain rfl:b6=J.arr:=X;obtain ⟨s0,_,s2⟩:=b1 J (vO H);have a7:=bg H;refine ⟨J.t,aE (aN h.le C) rfl,λht=> ?_,λht=> ?_⟩
  ·obtain ⟨tk,L,_⟩:=s2 ht;have c3:J.i.toNat<g.qa2.length:=(N6.1 L).1;obtain ⟨tx,td⟩:=Q.tok (vO L);have ed:eI g J.i=vi tk.cond:=by unfold eI;rw [L]
   have a4:=w _ _ q3;refine ⟨t,ld (h.le _ _ a4) rfl,r,ld (h.le _ _ D) rfl,?_⟩;refine t8 (hr.le w) (by decide) (by omega) (by omega) λd0 a9 c5 P B a3=> ?_;rw [N4,H] at P;cases P;obtain rfl:a9=J.arr:=a3;refine ⟨J.i,aM (aN h.le B) (i:=1) rfl,?_⟩;refine t8 (a6.t.le w) (by decide) s0 (by omega) λc9 c4 c8 O M a2=> ?_;rw [L] at O;cases O;obtain ⟨pp,nn,rfl,_,b4⟩:=a2;have b8:DV G3 #[nn.v,U tk.cond.2] (pj (eI g J.i)):=by rw [ed,<- td];exact DV.mk b4
   have sm:=(Q.tkd J.i).small Q.le;refine ⟨#[nn.v,U tk.cond.2],rfl,aN h.le (ug M),?_⟩;refine h.runv (pC b8 sm.1 sm.2 c0 c1) λG4 F4 K h=>⟨_,rfl,aM (aN (aa K h.le) B) (i:=1) rfl,ld (h.le _ _ (K _ _ D)) rfl,ld (h.le _ _ (K _ _ a4)) rfl,aE (aN (aa K h.le) C) rfl,ld (h.le _ _ (K _ _ D)) rfl,λhn=> ?_,λhn=> ?_⟩
   ·refine ⟨?_,aa l1 (aa w (aa K h.le))⟩;rw [W];have:(x.right.all λs=> !s.t || (eI g s.i).ev (wu c))=mD:=by rw [List.all_eq_false];refine ⟨J,vO H,?_⟩;rw [ht];simpa using hn
    rw [this,Bool.and_false]
   ·unfold qj;rw [aC E];refine next _ E ⟨G4,aa l3 K,h,?_⟩;rw [a7,List.all_append,A,Xw,ht];simpa using hn
  ·unfold qj;rw [aC E];refine next _ E ⟨G3,l3,h,?_⟩;rw [a7,List.all_append,A,Xw,ht];rfl
 ·have e:j=x.right.length:=by omega
  subst e;rw [wB] at A;unfold Ee;have hd:DV G3 #[n8.v,U x.cond.2] (pj (vi x.cond)):=by rw [<- b2];exact DV.mk (b0.le w)
  have sm:=a8.small Q.le;refine ⟨#[n8.v,U x.cond.2],rfl,ga (h.le _ _ D) rfl,?_⟩;refine h.runv (pC hd sm.1 sm.2 c0 c1) λG4 F4 K h=>⟨_,rfl,?_,aa l1 (aa w (aa K h.le))⟩;rw [W,A,Bool.and_true]
end
variable {R:VR} {F:PH}
set_option maxHeartbeats 4000000
def HZ (f e:Nat) (a:Sl) (R:VR) (F:PH):Prop:=Lx F (Z e 9) λc=>Lr F 4 (Z e 10) λd=>aA F (Z f 0) 4 d λF=>Lr F 4 (Z f 0) λb=>R (po #[ph c,nQ b,nI a]) F
def H0 (d:Sl->Int->Ω) (_ _ _ _:Nat) (c:Int) (a:Sl) (b:Int) (_:VR) (F:PH):Prop:=d a b (i64.wrap (c+1)) F
def vD (i:Sl->Int->Ω) (j k l g:Nat) (a:Sl) (e:Int) (h:Nat) (c:Int) (R:VR) (F:PH):Prop:=Lr F 4 (Z h 0) λb=>b.size=4/\Nb F (Y b 47) λf F=>Ap 43 #[nI a,nI (Sb f 1)] F λd F=>H0 i j k l g e d c R F
def Ia (k:Sl->Int->Ω) (l m n d:Nat) (a:Sl) (c j:Int) (e:Nat) (b:Int) (R:VR) (F:PH):Prop:=Lr F 4 (Z d 10) λf=>Ci 60 #[nQ f,(U c)] F λg F=>pv F (Z e 2) (U g) λF=>Lr F 4 (Z d 10) λh=>Ci 60 #[nQ h,(U b)] F λi F=>pv F (Z e 3) (U i) λF=>vD k l m n d a j e c R F
def vE (_:Sl->Int->Ω) (f:Int->Ω) (_ _ _ _:Nat) (_:Sl) (_ _:Int) (_:Nat) (c a:Int) (_:VR) (F:PH):Prop:=f a (i64.wrap (c+1)) F
def AZ (p:Sl->Int->Ω) (r:Int->Ω) (o n q f:Nat) (b:Sl) (e d:Int) (g:Nat) (R:VR) (a c:Int) (F:PH):Prop:=Lr F 9 (Z o 0) λh=>Ls F (Z n 0) λi=>Ci 59 #[nQ h,nI i,(U d)] F λj F=>Bc (c<j) (Ls F (Z n 0) λk=>Ix k c λl=>Li F (nV l (nX c*4)) λm=>Bc (m<0) (vE p r o n q f b e d g c (i64.wrap (a+1)) R F) (vE p r o n q f b e d g c a R F)) (Ia p o n q f b e d g a R F)
def vF (z:Sl->Int->Ω) (A v x f:Nat) (R:VR) (a:Sl) (c b:Int) (F:PH):Prop:=Ls F (Z v 0) λh=>Bc (b<(h.len:Int)) (Ls F (Z v 0) λi=>Ix i b λj=>Li F (nV j (nX b*4)) λk=>Ls F (Z v 0) λl=>Ix l b λm=>Li F (nV (nV m (nX b*4)) 1) λn=>Nb F (Y (#[U 0,U 0,U 0,U 0]) 47) λe F=>aA F (Z e 0) 4 (#[(U k),(U n),U 0,U 0]:Γ) λF=>Li F (Z e 0) λo=>Bc (o<0) (Ls F (Z f 10) λp=>Ix p c λq=>Li F (nV q (nX c*5)) λr=>pv F (Z e 2) (U r) λF=>Ls F (Z f 10) λs=>Ix s c λt=>Li F (nV (nV t (nX c*5)) 1) λu=>pv F (Z e 3) (U u) λF=>vD z A v x f a b e (i64.wrap (c+1)) R F) ((∃(y:Nat->Int->Ω) (w:Nat),y w c b F/\∀w d g F,y w d g F-> AZ z (V6 y w) A v x f a c b e R d g F))) (HZ x f a R F)
def A0 (j i k b:Nat) (R:VR) (F:PH):Prop:=Ls F (Z i 1) λf=>Cu 57 #[(Pp b),nI f] F λF=>Lx F (Z b 9) λe=>pv F (Z b 12) (U (e.size:Int)) λF=>pv F (Z b 13) (U (-1:Int)) λF=>(∃(h:Nat->Sl->Int->Ω) (g:Nat),h g pm 0 0 F/\∀g a c d F,h g a c d F-> vF (Zx h g) j i k b R a c d F)
def nG (c:Sl->Ω) (_:Sl) (_ _ _ _:Nat) (b:Int) (a:Sl) (_:VR) (F:PH):Prop:=c a (i64.wrap (b+1)) F
def vG (h:Sl->Ω) (f:Sl) (i j k a:Nat) (b:Sl) (c:Int) (g:Bool) (R:VR) (F:PH):Prop:=Bb (g) (Lx F (Z a 9) λd=>d.size+(ByteArray.mk #[10]).size<=9223372036854775807/\pv F (Z a 9) (ph (d++(ByteArray.mk #[10]))) λF=>nG h f i j k a c b R F) (Lx F (Z a 9) λe=>e.size+(ByteArray.mk #[32]).size<=9223372036854775807/\pv F (Z a 9) (ph (e++(ByteArray.mk #[32]))) λF=>nG h f i j k a c b R F)
def A1 (w:Sl->Ω) (e:Sl) (u j v c:Nat) (R:VR) (b:Sl) (a:Int) (F:PH):Prop:=Ls F (Z j 0) λk=>Bc (a<(k.len:Int)) (Ls F (Z j 0) λl=>Ix l a λm=>Lr F 4 (nV m (nX a*4)) λn=>Nb F (Y (#[U 0,U 0,.string ⟨#[]⟩,tX I 0 0]) 137) λf F=>aA F (Z f 0) 4 n λF=>Li F (Z f 0) λo=>Bc (0<=o) (nG w e u j v c a b R F) (Ls F (Z f 3) λp=>Cu 57 #[(Pp c),nI p] F λF=>Ls F (Z c 10) λg=>Lx F (Z f 2) λq=>Li F (Z f 1) λr=>Ca 58 #[(Pp c),ph q,(U r)] F λh F=>F.cell (Z c 10)=V (nI g)/\h.size=5/\Nb F (Y h 140) λx F=>Ap 87 #[nI g,nI (Sb x 1)] F λs F=>pv F (Z c 10) (nI s) λF=>Nb F (Y #[(U a)] 3) λy F=>Ap 76 #[nI b,nI (Sb y 1)] F λd F=>Bc ((d.len:Int)<=(e.len:Int)) (Ix e (i64.wrap ((d.len:Int) - 1)) λt=>∃i,F.cell (nV t (nX (i64.wrap ((d.len:Int) - 1))*1))=V (rV .u8 i)/\vG w e u j v c d a (decide ((sj i 2)=0)) R F) (vG w e u j v c d a mD R F))) (A0 u j v c R F)
def Uy (e f:Γ) (g:Sl) (R:VR) (F:PH):Prop:=Nb F (Y e 39) λj F=>Nb F (Y f 94) λk F=>Nb F (Y (#[tX I 0 0,.slice I 0 0,U 0,U 0]) 89) λl F=>Lr F 9 (Z j 0) λb=>b.size=9/\Nb F (Y (wr (#[tX I 0 0,.slice I 0 0,U 0,.slice I 0 0,.slice I 0 0,.slice I 0 0,U 0,.slice I 0 0,.slice I 0 0,.string ⟨#[]⟩,tX I 0 0,.slice I 0 0,U 0,U 0]:Γ) 0 b.toList) 135) λh F=>(∃(i:Nat->Sl->Ω) (d:Nat),i d pm 0 F/\∀d a c F,i d a c F-> A1 (V6 i d) g j k l h R a c F)
theorem qgN {a:Γ} {b:Γ} {c:Sl} (h:Uy a b c R F):ν 28 #[nQ a,nQ b,nI c] F R:=Rx.Λ (.qa8 (.qa8 (.qa8 (.J mD [] (.qa8 (.L [(10,.sl),(11,.int .i64)] (.qa8 (.J mD [(10,.sl)] (.qa8 (.qa8 (.qa8 (.qa8 (.qa8 (.qa8 (.J mD [(77,.bool)] .N .N))))))) .N)))) (.qa8 (.qa8 (.qa8 (.qa8 (.qa8 (.J mD [(14,.sl)] (.qa8 (.L [(14,.sl),(15,.int .i64),(16,.int .i64)] (.qa8 (.J mD [(14,.sl),(15,.int .i64)] (.qa8 (.J mD [(15,.int .i64)] (.qa8 (.qa8 (.qa8 (.J mD [(18,.int .i64)] (.qa8 (.L [(18,.int .i64),(19,.int .i64)] (.qa8 (.J mD [(18,.int .i64)] .N .N)))) .N)))) .N)) .N)))) .N)))))))))) h
def vH (i j k:Nat) (e:Int) (h:Θ) (f:Bool) (R:VR) (F:PH):Prop:=Lr F 9 (Z k 0) λg=>∃a,h=V a/\Lr F 2 a λd=>aA F (Z i 0) 9 g λF=>F.row a d/\aA F (Z j 0) 2 d λF=>Lr F 9 (Z i 0) λb=>Lr F 2 (Z j 0) λc=>R (po #[nQ b,rV .u64 e,nQ c,nW f]) F
def Uz (m:Γ) (R:VR) (F:PH):Prop:=Nb F (Y m 28) λg F=>Nb F (Y zG 39) λr F=>Nb F (Y (#[tX I 0 0,.slice I 0 0]) 94) λs F=>Lr F 5 (Z g 0) λn=>Ca 64 #[nQ n] F λo F=>Nb F (Y zG 39) λl F=>aA F (Z l 0) 9 o λF=>Lr F 9 (Z l 0) λp=>Lk F .u8 (Z g 5) λq=>ν 65 #[nQ p,rV .u8 q] F λv F=>∃c,v=(rV .u64 c)/\Lr F 9 (Z l 0) λh=>Li F (Z l 6) λi=>Ls F (Z g 6) λa=>Ls F (Z g 6) λb=>0<=(min (b.len:Int) 40)/\0<=(nX (min (b.len:Int) 40))/\(nX (min (b.len:Int) 40))<=a.cap/\((ν 44 #[nQ h,rV .u64 c,(U i),nI (Sl.cut a 1 0 (nX (min (b.len:Int) 40)) a.cap)] F λv F=>∃j,∃d,v=(po #[nQ j,nW d])/\F.cell (Z g 6)=V (nI b)/\F.cell (Z g 6)=V (nI a)/\Nb F (Y (#[tX I 0 0,.slice I 0 0]) 94) λt F=>aA F (Z t 0) 2 j λF=>vH r s l c (V (Z t 0)) d R F)/\(Nb F (Y (#[tX I 0 0,.slice I 0 0]) 94) λk F=>ν 44 #[nQ h,rV .u64 c,(U i),nI (Sl.cut a 1 0 (nX (min (b.len:Int) 40)) a.cap)] F λv F=>∃e,∃f,v=(po #[nQ e,nW f])/\F.cell (Z g 6)=V (nI b)/\F.cell (Z g 6)=V (nI a)/\aA F (Z k 0) 2 e λF=>vH r s l c (V (Z k 0)) f R F))
theorem qgO {a:Γ} (h:Uz a R F):ν 30 #[nQ a] F R:=Rx.Λ (.qa8 (.qa8 (.qa8 (.J mD [(8,.ptr),(9,.bool)] .N .N)))) h
def UA (q:Γ) (g a:Int) (r:Sl) (R:VR) (F:PH):Prop:=Nb F (Y q 39) λs F=>Nb F (Y (#[tX I 0 0,.slice I 0 0]) 94) λp F=>Lr F 9 (Z s 0) λc=>Lr F 9 (Z s 0) λh=>Cs 72 #[nQ h,rV .u64 g] F λi F=>F.row (Z s 0) c/\c.size=9/\Nb F (Y (tC (tC (tC (wr (#[tX I 0 0,.slice I 0 0,U 0,.slice I 0 0,.slice I 0 0,.slice I 0 0,U 0,.slice I 0 0,.slice I 0 0,.int .u64 0,.slice I 0 0,U 0,.slice I 0 0,.slice I 0 0]:Γ) 0 c.toList) 9 (rV .u64 g)) 10 (nI r)) 12 (nI i)) 158) λd F=>Ls F (Z d 12) λj=>Ix j a λk=>Li F (nV k (nX a*1)) λl=>Bc (1000<=l) (aA F (Z p 0) 2 (#[tX I 0 0,.slice I 0 0]:Γ) λF=>Lr F 2 (Z p 0) λe=>R (po #[nQ e,nW mD]) F) (Cu 73 #[(Pp d),nQ (#[nW mD,(U a)]:Γ)] F λF=>Ls F (Z d 13) λm=>Nb F (Y (#[tX I 0 0,.slice I 0 0]) 94) λf F=>aA F (Z f 0) 2 (#[nI m,tX I 0 0]:Γ) λF=>Cs 74 #[(Pp d)] F λn F=>pv F (Z f 1) (nI n) λF=>Lr F 2 (Z f 0) λo=>aA F (Z p 0) 2 o λF=>Lr F 2 (Z p 0) λb=>R (po #[nQ b,nW nk]) F)
theorem qgP {b:Γ} {c:Int} {a:Int} {d:Sl} (h:UA b c a d R F):ν 44 #[nQ b,rV .u64 c,(U a),nI d] F R:=Rx.Λ .N h
def vI (b:Ω) (_:Θ) (_:Sl) (a:Int) (_:VR) (F:PH):Prop:=b (i64.wrap (a+1)) F
def rj (m n:Ω) (a:Addr) (f:Sl) (e g:Int) (h:Bool) (R:VR) (F:PH):Prop:=Bb (h) (Ls F (nV (nV a 10) 1) λb=>Ix f e λi=>Lx F (nV i (nX e*1)) λj=>Ca 58 #[pk (V a),ph j,(U g)] F λc F=>F.cell (nV (nV a 10) 1)=V (nI b)/\c.size=5/\Nb F (Y c 140) λl F=>Ap 87 #[nI b,nI (Sb l 1)] F λk F=>pv F (nV (nV a 10) 1) (nI k) λF=>Lx F (nV a 9) λd=>d.size+(ByteArray.mk #[10]).size<=9223372036854775807/\pv F (nV a 9) (ph (d++(ByteArray.mk #[10]))) λF=>vI m (V a) f e R F) (n (i64.wrap (g+1)) F)
def A2 (o q:Ω) (p:Θ) (d:Sl) (c:Int) (R:VR) (b:Int) (F:PH):Prop:=∃a,p=V a/\Ls F (nV a 3) λi=>Bc (b<(i.len:Int)) (Ls F (nV a 3) λe=>Ix e b λf=>Li F (nV (nV f (nX b*7)) 1) λg=>Bc (g=2) (Ls F (nV a 3) λh=>Ix h b λj=>Lr F 7 (nV j (nX b*7)) λk=>Ix d c λl=>Lx F (nV l (nX c*1)) λm=>vf 88 #[nQ k,ph m] F λn F=>F.cell (nV a 3)=V (nI h)/\F.cell (nV (nV f (nX b*7)) 1)=V (U g)/\F.cell (nV a 3)=V (nI e)/\rj o q a d c b n R F) (rj o q a d c b mD R F)) (vI o (V a) d c R F)
def A3 (g:Ω) (e:Θ) (a:Sl) (R:VR) (b:Int) (F:PH):Prop:=Bc (b<(a.len:Int)) ((∃(f:Nat->Ω) (d:Nat),f d 0 F/\∀d c F,f d c F-> A2 g (Xh f d) e a b R c F)) (R (po #[]) F)
def UB (a:Θ) (b:Sl) (R:VR) (F:PH):Prop:=Lp 0 F λN c F=>A3 N a b R c F
theorem qgQ {a:Θ} {b:Sl} (h:UB a b R F):ν 57 #[pk a,nI b] F R:=Rx.Λ (.qa8 (.L [(4,.int .i64)] (.qa8 (.J mD [(0,.ptr)] (.qa8 (.L [(5,.int .i64)] (.qa8 (.T (.J mD [(46,.bool)] .N .N) .N)))) .N)))) h
def vJ (f:Θ) (d:ο) (h:Nat) (g:Θ) (R:VR) (F:PH):Prop:=∃a,f=V a/\Lx F (nV a 9) λb=>b.size+d.size<=9223372036854775807/\pv F (nV a 9) (ph (b++d)) λF=>∃c,g=V c/\Lr F 5 c λe=>aA F (Z h 0) 5 e λF=>Rr 5 (Z h 0) R F
def UC (j:Θ) (e:ο) (c:Int) (R:VR) (F:PH):Prop:=Nb F (Y (#[U 0,U 0,U 0,.bool mD,.slice I 0 0]) 140) λl F=>ν 89 #[pk j] F λv F=>∃d,∃b,v=(po #[(U d),nW b])/\∃a,j=V a/\Lx F (nV a 9) λf=>Lx F (nV a 9) λg=>((Nb F (Y #[(U c)] 3) λk F=>Nb F (Y (#[U 0,U 0,U 0,.bool mD,.slice I 0 0]) 140) λm F=>aA F (Z m 0) 5 (#[(U (f.size:Int)),(U (i64.wrap ((g.size:Int)+(e.size:Int)))),(U d),nW b,nI (Sb k 1)]:Γ) λF=>vJ (V a) e l (V (Z m 0)) R F)/\(Nb F (Y (#[U 0,U 0,U 0,.bool mD,.slice I 0 0]) 140) λh F=>Nb F (Y #[(U c)] 3) λi F=>aA F (Z h 0) 5 (#[(U (f.size:Int)),(U (i64.wrap ((g.size:Int)+(e.size:Int)))),(U d),nW b,nI (Sb i 1)]:Γ) λF=>vJ (V a) e l (V (Z h 0)) R F))
theorem qgR {b:Θ} {c:ο} {a:Int} (h:UC b c a R F):ν 58 #[pk b,ph c,(U a)] F R:=Rx.Λ (.qa8 (.qa8 (.J mD [(0,.ptr),(9,.ptr)] .N .N))) h
def Ib (a:Int) (R:VR) (F:PH):Prop:=R (U a) F
def A4 (o:Int->Ω) (h:Sl) (n:Nat) (c:Sl) (R:VR) (a b:Int) (F:PH):Prop:=Bc (b<(c.len:Int)) (Lr F 9 (Z n 0) λi=>Ci 59 #[nQ i,nI h,(U a)] F λd F=>Bc (d<0) (R (U (-1:Int)) F) (Lr F 9 (Z n 0) λj=>Ix h a λk=>Lr F 4 (nV k (nX a*4)) λl=>Ix c b λe=>Lr F 2 (nV e (nX b*2)) λf=>Ca 91 #[nQ j,nQ l] F λm F=>F.row (nV e (nX b*2)) f/\∃g,(∀F,qX prog (Op.equal 130 (nQ m) (nQ f)) F g)/\Bb ((!g)) (R (U (-1:Int)) F) (o d (i64.wrap (b+1)) F))) (Ib a R F)
def RO (q:Γ) (c:Sl) (a:Int) (R:VR) (F:PH):Prop:=Nb F (Y q 39) λr F=>Bc ((c.len:Int)<=a) (R (U (-1:Int)) F) (Lr F 9 (Z r 0) λe=>Ix c a λf=>Lr F 4 (nV f (nX a*4)) λg=>vf 90 #[nQ e,nQ g] F λh F=>Bb ((!h)) (R (U (-1:Int)) F) (Ix c a λi=>Li F (nV i (nX a*4)) λj=>Bc (j<0) (R (U (i64.wrap (a+1))) F) (Ls F (Z r 5) λk=>Ix c a λl=>Li F (nV l (nX a*4)) λd=>Ix k d λm=>Ls F (nV (nV m (nX d*13)) 2) λn=>(∃(s:Nat->Int->Ω) (p:Nat),s p (i64.wrap (a+1)) 0 F/\∀p b o F,s p b o F-> A4 (V6 s p) c r n R b o F))))
theorem UD {a:Γ} {b:Sl} {c:Int} (h:RO a b c R F):ν 59 #[nQ a,nI b,(U c)] F R:=Rx.Λ (.qa8 (.qa8 (.qa8 (.qa8 (.qa8 (.J mD [(7,.int .i64)] (.qa8 (.L [(7,.int .i64),(9,.int .i64)] .N)) .N)))))) h
def UE (f:Γ) (a:Int) (R:VR) (F:PH):Prop:=Nb F (Y f 89) λg F=>Ls F (Z g 0) λh=>Bc (a<(h.len:Int)) (Ls F (Z g 0) λb=>Ix b a λc=>Li F (nV c (nX a*5)) λd=>R (U d) F) (Li F (Z g 2) λe=>R (U e) F)
theorem qgS {a:Γ} {b:Int} (h:UE a b R F):ν 60 #[nQ a,(U b)] F R:=Rx.Λ .N h
def Ic (c:Int) (a:Sl) (R:VR) (F:PH):Prop:=(a.len:Int)≠0/\Ix a (sj (i64.wrap c) (a.len:Int)) λd=>∃b,F.cell (nV d (nX (sj (i64.wrap c) (a.len:Int))*1))=V (rV .u64 b)/\R (rV .u64 b) F
def vK (c:Sl->Ω) (_:Int) (_:Nat) (b:Int) (a:Sl) (_:VR) (F:PH):Prop:=c a (u64.wrap (b+1)) F
def A5 (i:Sl->Ω) (c:Int) (g:Nat) (R:VR) (a:Sl) (b:Int) (F:PH):Prop:=Bc (b<8) (Lr F 9 (Z g 0) λd=>vf 96 #[nQ d,rV .u64 b] F λe F=>Bb (e) (Nb F (Y #[rV .u64 b] 41) λh F=>Ap 195 #[nI a,nI (Sb h 1)] F λf F=>vK i c g b f R F) (vK i c g b a R F)) (Ic c a R F)
def UF (d:Γ) (e:Int) (R:VR) (F:PH):Prop:=Nb F (Y d 39) λg F=>(∃(f:Nat->Sl->Ω) (c:Nat),f c pm 0 F/\∀c a b F,f c a b F-> A5 (V6 f c) e g R a b F)
theorem qgT {a:Γ} {b:Int} (h:UF a b R F):ν 65 #[nQ a,rV .u8 b] F R:=Rx.Λ (.qa8 (.qa8 (.J mD [(5,.sl)] (.qa8 (.L [(5,.sl),(6,.int .u64)] (.qa8 (.J mD [(5,.sl)] .N .N)))) .N))) h
def Id (a:Sl) (R:VR) (F:PH):Prop:=R (nI a) F
def Ie (c:Ω) (_:Int) (_:Nat) (_:Sl) (a:Int) (_:VR) (F:PH):Prop:=c (i64.wrap (a+1)) F
def A6 (o p:Ω) (g:Int) (n:Nat) (b:Sl) (c:Int) (R:VR) (d:Int) (F:PH):Prop:=Ls F (Z n 5) λh=>Bc (d<(h.len:Int)) (Ls F (Z n 5) λi=>Ix i d λj=>Li F (nV (nV j (nX d*13)) 1) λa=>Ix b a λe=>Li F (nV e (nX a*1)) λf=>Lr F 9 (Z n 0) λk=>Ci 100 #[nQ k,rV .u64 g,(U d),nI b] F λl F=>F.cell (nV e (nX a*1))=V (U f)/\Ix b a λm=>pv F (nV m (nX a*1)) (U (min f l)) λF=>p (i64.wrap (d+1)) F) (Ie o g n b c R F)
def A7 (g:Ω) (e:Int) (h:Nat) (b:Sl) (R:VR) (a:Int) (F:PH):Prop:=Bc (a<(i64.wrap ((b.len:Int)+1))) ((∃(f:Nat->Ω) (d:Nat),f d 0 F/\∀d c F,f d c F-> A6 g (Xh f d) e h b a R c F)) (Id b R F)
def If (c:Int) (d:Nat) (b:Sl) (R:VR) (F:PH):Prop:=Lp 0 F λN a F=>A7 N c d b R a F
def A8 (e:Ω) (d:Int) (f:Nat) (a:Sl) (R:VR) (b:Int) (F:PH):Prop:=Bc (b<(a.len:Int)) (Ix a b λc=>pv F (nV c (nX b*1)) (U 1000) λF=>e (i64.wrap (b+1)) F) (If d f a R F)
def UG (c:Γ) (d:Int) (R:VR) (F:PH):Prop:=Nb F (Y c 39) λf F=>Ls F (Z f 4) λa=>aG prog (Instr.makeSlice 76 (U (a.len:Int)) (U (a.len:Int))) F λv F=>∃b,v=(nI b)/\Lp 0 F λN e F=>A8 N d f b R e F
theorem qgU {a:Γ} {b:Int} (h:UG a b R F):ν 72 #[nQ a,rV .u64 b] F R:=Rx.Λ (.qa8 (.qa8 (.J mD [] (.qa8 (.L [(6,.int .i64)] .N)) (.J mD [] (.qa8 (.L [(7,.int .i64)] (.qa8 (.J mD [] (.qa8 (.L [(8,.int .i64)] .N)) .N)))) .N)))) h
def rk (a:Addr) (g:Nat) (R:VR) (F:PH):Prop:=Cs 74 #[pk (V a)] F λc F=>pv F (Z g 3) (nI c) λF=>Ls F (nV a 13) λd=>Lr F 4 (Z g 0) λb=>b.size=4/\Nb F (Y b 137) λf F=>Ap 92 #[nI d,nI (Sb f 1)] F λe F=>pv F (nV a 13) (nI e) λF=>R (po #[]) F
def A9 (l:Ω) (a:Addr) (b:Int) (R:VR) (c:Int) (F:PH):Prop:=Ls F (nV a 5) λd=>Ix d b λe=>Ls F (nV (nV e (nX b*13)) 2) λf=>Bc (c<(f.len:Int)) (Ls F (nV a 5) λg=>Ix g b λh=>Ls F (nV (nV h (nX b*13)) 2) λi=>Ix i c λj=>Lr F 2 (nV j (nX c*2)) λk=>Cu 73 #[pk (V a),nQ k] F λF=>l (i64.wrap (c+1)) F) (R (po #[]) F)
def RQ (g:Θ) (y:Γ) (R:VR) (F:PH):Prop:=Nb F (Y y 130) λx F=>Lb F (Z x 0) λi=>Bb (i) (∃b,g=V b/\Ls F (nV b 3) λj=>Li F (Z x 1) λd=>Ix j d λk=>Lr F 7 (nV k (nX d*7)) λl=>Nb F (Y zT 166) λm F=>aA F (Z m 0) 7 l λF=>Li F (Z x 1) λn=>Lx F (Z m 2) λo=>Nb F (Y (#[U 0,U 0,.string ⟨#[]⟩,tX I 0 0]) 137) λh F=>aA F (Z h 0) 4 (#[(U (-1:Int)),(U n),ph o,tX I 0 0]:Γ) λF=>Lx F (Z m 2) λp=>Bb ((p.toList==(ByteArray.mk #[]).toList)) (Lx F (Z m 4) λq=>pv F (Z h 2) (ph q) λF=>Ci 101 #[pk (V b),(U 6)] F λe F=>Nb F (Y #[ph ⟨#[120]⟩,ph ⟨#[121]⟩,ph ⟨#[97,98]⟩,ph ⟨#[105,102]⟩,ph ⟨#[122]⟩,ph ⟨#[101,108,115,101]⟩] 9) λz F=>Ix (Sb z 6) e λr=>Lx F (nV r (nX e*1)) λf=>Lr F 7 (Z m 0) λs=>vf 88 #[nQ s,ph f] F λt F=>Bb (t) (pv F (Z h 2) (ph f) λF=>rk b h R F) (rk b h R F)) (rk b h R F)) (Li F (Z x 1) λu=>Ci 102 #[pk g,(U u)] F λc F=>∃a,g=V a/\Ls F (nV a 13) λv=>(#[(U c),(U (-1:Int)),ph ⟨#[]⟩,tX I 0 0]:Γ).size=4/\Nb F (Y (#[(U c),(U (-1:Int)),ph ⟨#[]⟩,tX I 0 0]:Γ) 137) λA F=>Ap 92 #[nI v,nI (Sb A 1)] F λw F=>pv F (nV a 13) (nI w) λF=>Lp 0 F λN B F=>A9 N a c R B F)
theorem UH {a:Θ} {b:Γ} (h:RQ a b R F):ν 73 #[pk a,nQ b] F R:=Rx.Λ (.qa8 (.T (.qa8 (.T (.qa8 (.qa8 (.J mD [] .N .N))) .N)) (.qa8 (.qa8 (.qa8 (.L [(9,.int .i64)] .N)))))) h
def Ig (a:Sl) (R:VR) (F:PH):Prop:=R (nI a) F
def vL (c:Sl->Ω) (_:Θ) (b:Int) (a:Sl) (_:VR) (F:PH):Prop:=c a (i64.wrap (b - 1)) F
def Ih (n:Sl->Ω) (f:Θ) (R:VR) (a:Sl) (e:Int) (F:PH):Prop:=Bc (9<e) (Nb F (Y #[ph ⟨#[37]⟩,ph ⟨#[37,97]⟩,ph ⟨#[37,98,32,99]⟩] 9) λl F=>Ci 101 #[pk f,(U 3)] F λc F=>Ix (Sb l 3) c λg=>Lx F (nV g (nX c*1)) λd=>∃b,f=V b/\Lr F 9 b λh=>Lk F .u64 (nV b 9) λi=>vf 103 #[nQ h,rV .u64 i,ph d] F λj F=>Bb (j) (Nb F (Y #[ph d] 9) λm F=>Ap 30 #[nI a,nI (Sb m 1)] F λk F=>vL n (V b) e k R F) (vL n (V b) e a R F)) (Ig a R F)
def UI (b:Θ) (R:VR) (F:PH):Prop:=Ci 101 #[pk b,(U 12)] F λe F=>(∃(f:Nat->Sl->Ω) (d:Nat),f d pm e F/\∀d a c F,f d a c F-> Ih (V6 f d) b R a c F)
theorem qgV {a:Θ} (h:UI a R F):ν 74 #[pk a] F R:=Rx.Λ (.qa8 (.qa8 (.J mD [(3,.sl)] (.qa8 (.L [(3,.sl),(4,.int .i64)] (.qa8 (.J mD [(0,.ptr),(3,.sl)] .N .N)))) .N))) h
def UJ (e:Γ) (a:ο) (R:VR) (F:PH):Prop:=Nb F (Y e 166) λf F=>Lx F (Z f 2) λg=>Bb ((!(g.toList==(ByteArray.mk #[]).toList))) (Lx F (Z f 2) λb=>R (nW (a.toList==b.toList)) F) (Ls F (Z f 3) λc=>vf 121 #[nI c,ph a] F λd F=>R (nW d) F)
theorem qgW {a:Γ} {b:ο} (h:UJ a b R F):ν 88 #[nQ a,ph b] F R:=Rx.Λ .N h
def Ii (b:Int) (a:Bool) (R:VR) (F:PH):Prop:=R (po #[(U b),nW a]) F
def rn (e:Int->Bool->Ω) (_:Addr) (c b:Int) (a:Bool) (_:VR) (F:PH):Prop:=e b a (i64.wrap (c - 1)) F
def Ba (k:Int->Bool->Ω) (d:Addr) (R:VR) (c:Int) (b:Bool) (a:Int) (F:PH):Prop:=Bc (0<=a) (Lx F (nV d 9) λe=>0<=a/\a<(e.size:Int)/\∃(hx:nX a<e.size) (h:Int),h=((e[nX a]'hx).toNat:Int)/\Bc (h≠10) (Bb (b) (Lx F (nV d 9) λf=>0<=a/\a<(f.size:Int)/\∃(hx:nX a<f.size) (i:Int),i=((f[nX a]'hx).toNat:Int)/\Bc (i=32) (rn k d a (i64.wrap (c+1)) nk R F) (Lx F (nV d 9) λg=>0<=a/\a<(g.size:Int)/\∃(hx:nX a<g.size) (j:Int),j=((g[nX a]'hx).toNat:Int)/\rn k d a (i64.wrap (c+1)) (decide (j=9)) R F)) (rn k d a (i64.wrap (c+1)) mD R F)) (Ii c b R F)) (Ii c b R F)
def UK (g:Θ) (R:VR) (F:PH):Prop:=∃b,g=V b/\Lx F (nV b 9) λd=>(∃(h:Nat->Int->Bool->Ω) (f:Nat),h f 0 nk (i64.wrap ((d.size:Int) - 1)) F/\∀f c a e F,h f c a e F-> Ba (Zx h f) b R c a e F)
theorem qf7 {a:Θ} (h:UK a R F):ν 89 #[pk a] F R:=Rx.Λ (.qa8 (.qa8 (.qa8 (.J mD [(4,.int .i64),(5,.bool)] (.qa8 (.L [(4,.int .i64),(5,.bool),(6,.int .i64)] (.qa8 (.J mD [(4,.int .i64),(5,.bool)] .N .N)))) .N)))) h
def UL (j k:Γ) (R:VR) (F:PH):Prop:=Nb F (Y j 39) λn F=>Nb F (Y k 137) λa F=>Li F (Z a 0) λl=>Bc (l=(-1:Int)) (Li F (Z a 1) λm=>Bc (0<=m) (Li F (Z a 1) λb=>Ls F (Z n 3) λc=>R (nW (decide (b<(c.len:Int)))) F) (R (nW mD) F)) (Li F (Z a 0) λd=>Bc (0<=d) (Li F (Z a 0) λe=>Ls F (Z n 5) λf=>Bc (e<(f.len:Int)) (Li F (Z a 1) λg=>Bc (g=(-1:Int)) (Lx F (Z a 2) λh=>Bb ((h.toList==(ByteArray.mk #[]).toList)) (Ls F (Z a 3) λi=>R (nW (decide ((i.len:Int)=0))) F) (R (nW mD) F)) (R (nW mD) F)) (R (nW mD) F)) (R (nW mD) F))
theorem qf8 {a:Γ} {b:Γ} (h:UL a b R F):ν 90 #[nQ a,nQ b] F R:=Rx.Λ .N h
def UM (f g:Γ) (R:VR) (F:PH):Prop:=Nb F (Y f 39) λk F=>Nb F (Y g 137) λh F=>Nb F (Y (#[nW mD,U 0]) 130) λe F=>Li F (Z h 0) λi=>Bc (i=(-1:Int)) (Li F (Z h 1) λj=>aA F (Z e 0) 2 (#[nW nk,(U j)]:Γ) λF=>Rr 2 (Z e 0) R F) (Ls F (Z k 5) λb=>Li F (Z h 0) λa=>Ix b a λc=>Li F (nV (nV c (nX a*13)) 1) λd=>aA F (Z e 0) 2 (#[nW mD,(U d)]:Γ) λF=>Rr 2 (Z e 0) R F)
theorem qf9 {a:Γ} {b:Γ} (h:UM a b R F):ν 91 #[nQ a,nQ b] F R:=Rx.Λ .N h
def Dg (a:Int) (R:VR) (F:PH):Prop:=R (U (min (i64.wrap (a+1)) 1000)) F
def pD (d:Int->Ω) (_ _:Sl) (b a:Int) (_:VR) (F:PH):Prop:=d a (i64.wrap (b+1)) F
def vM (k:Int->Ω) (e b:Sl) (R:VR) (c a:Int) (F:PH):Prop:=Bc (a<(b.len:Int)) (Ix b a λf=>Lb F (nV f (nX a*2)) λg=>Bb ((!g)) (Ix b a λh=>Li F (nV (nV h (nX a*2)) 1) λd=>Ix e d λi=>Li F (nV i (nX d*1)) λj=>pD k e b a (max c j) R F) (pD k e b a c R F)) (Dg c R F)
def Oq (j:Γ) (k c:Int) (l:Sl) (R:VR) (F:PH):Prop:=Nb F (Y j 39) λn F=>Lr F 9 (Z n 0) λd=>vf 138 #[nQ d,rV .u64 k,(U c)] F λe F=>Bb ((!e)) (R (U 1000) F) (Ls F (Z n 5) λf=>Ix f c λg=>Ls F (nV (nV g (nX c*13)) 2) λh=>(∃(m:Nat->Int->Ω) (i:Nat),m i 0 0 F/\∀i a b F,m i a b F-> vM (V6 m i) l h R a b F))
theorem UN {a:Γ} {b:Int} {c:Int} {d:Sl} (h:Oq a b c d R F):ν 100 #[nQ a,rV .u64 b,(U c),nI d] F R:=Rx.Λ (.qa8 (.qa8 (.qa8 (.qa8 (.J mD [(9,.int .i64)] (.qa8 (.L [(9,.int .i64),(11,.int .i64)] (.qa8 (.J mD [(9,.int .i64)] .N .N)))) .N))))) h
def Ot (i:Θ) (d:Int) (R:VR) (F:PH):Prop:=∃a,i=V a/\Li F (nV a 11) λj=>Ls F (nV a 10) λe=>Bc ((e.len:Int)<=j) (R (U 0) F) (Bc (d<1) (R (U 0) F) (Li F (nV a 11) λf=>pv F (nV a 11) (U (i64.wrap (f+1))) λF=>Ls F (nV a 10) λg=>Li F (nV a 11) λb=>Ix g (i64.wrap (b - 1)) λh=>∃c,F.cell (nV h (nX (i64.wrap (b - 1))*1))=V (rV .u8 c)/\d≠0/\R (U (sj (i64.wrap c) d)) F))
theorem UO {a:Θ} {b:Int} (h:Ot a b R F):ν 101 #[pk a,(U b)] F R:=Rx.Λ .N h
def Dh (j:Θ) (c:Sl) (b:Int) (R:VR) (F:PH):Prop:=∃a,j=V a/\Li F (nV a 11) λe=>Ls F (nV a 10) λf=>Bc ((f.len:Int)<=e) (R (U b) F) (Ls F (nV a 13) λg=>Bc ((40:Int)<(g.len:Int)) (R (U b) F) (Ci 101 #[pk (V a),(U (c.len:Int))] F λd F=>Ix c d λh=>Li F (nV h (nX d*1)) λi=>R (U i) F))
def jy (f:Sl->Int->Ω) (_:Addr) (_ e:Int) (b:Sl) (a:Int) (_:VR) (F:PH):Prop:=f b a (i64.wrap (e+1)) F
def Di (h:Sl->Int->Ω) (s:Θ) (c:Int) (R:VR) (d:Sl) (b e:Int) (F:PH):Prop:=∃a,s=V a/\Ls F (nV a 5) λi=>Bc (e<(i.len:Int)) (Lr F 9 a λj=>Lk F .u64 (nV a 9) λk=>Ls F (nV a 12) λl=>Ci 100 #[nQ j,rV .u64 k,(U e),nI l] F λg F=>Ls F (nV a 5) λm=>Ix m e λn=>Li F (nV (nV n (nX e*13)) 1) λo=>Bc (o≠c) (jy h a c e d b R F) (Bc (1000<=g) (jy h a c e d b R F) (Nb F (Y #[(U e)] 3) λt F=>Ap 76 #[nI d,nI (Sb t 1)] F λf F=>Ls F (nV a 12) λp=>Ix p c λq=>Li F (nV q (nX c*1)) λr=>Bc (g=r) (Bc (b<0) (jy h a c e f e R F) (jy h a c e f b R F)) (jy h a c e f b R F)))) (Dh (V a) d b R F)
def Ou (f:Θ) (c:Int) (R:VR) (F:PH):Prop:=(∃(g:Nat->Sl->Int->Ω) (e:Nat),g e pm (-1:Int) 0 F/\∀e b a d F,g e b a d F-> Di (Zx g e) f c R b a d F)
theorem UP {b:Θ} {a:Int} (h:Ou b a R F):ν 102 #[pk b,(U a)] F R:=Rx.Λ (.qa8 (.qa8 (.qa8 (.J mD [(0,.ptr),(5,.sl),(6,.int .i64)] (.qa8 (.L [(5,.sl),(6,.int .i64),(7,.int .i64)] (.qa8 (.J mD [(5,.sl),(6,.int .i64)] .N .N)))) .N)))) h
def Ml (R:VR) (F:PH):Prop:=R (nW mD) F
def pE (b:Ω) (_:Int) (_:ο) (_:Nat) (a:Int) (_:VR) (F:PH):Prop:=b (i64.wrap (a+1)) F
def vN (n:Ω) (c:Int) (b:ο) (d:Nat) (R:VR) (a:Int) (F:PH):Prop:=Ls F (Z d 3) λe=>Bc (a<(e.len:Int)) (Ls F (Z d 3) λf=>Ix f a λg=>Lr F 7 (nV g (nX a*7)) λh=>Nb F (Y zT 166) λo F=>aA F (Z o 0) 7 h λF=>Li F (Z o 1) λi=>Bc (i=2) (Lr F 2 (Z o 5) λj=>vf 132 #[nQ j,rV .u64 c] F λk F=>Bb (k) (Bb ((!(b.toList==(ByteArray.mk #[]).toList))) (Lr F 7 (Z o 0) λl=>vf 88 #[nQ l,ph b] F λm F=>Bb (m) (R (nW nk) F) (pE n c b d a R F)) (pE n c b d a R F)) (pE n c b d a R F)) (pE n c b d a R F)) (Ml R F)
def Ow (a:Γ) (b:Int) (c:ο) (R:VR) (F:PH):Prop:=Nb F (Y a 39) λe F=>Lp 0 F λN d F=>vN N b c e R d F
theorem qcH {a:Γ} {b:Int} {c:ο} (h:Ow a b c R F):ν 103 #[nQ a,rV .u64 b,ph c] F R:=Rx.Λ (.qa8 (.J mD [] (.qa8 (.L [(7,.int .i64)] (.qa8 (.J mD [] .N .N)))) .N)) h
def WR (g:Gr) (c:Int) (p:Nat):Bool:=(bI g p).ev (wu c)
def VN (g:Gr) (p:Nat):Nat:=((g.qa0[p]?).map λx=>x.left.toNat).getD 0
def VG (g:Gr) (p:Nat):List Sy:=((g.qa0[p]?).map Pr.right).getD []
abbrev Vj (l:Δ):Φ:=l.map Int.ofNat
theorem Be {l:Δ} {i:Nat} {x:Int} (h:(Vj l)[i]? =V x):x=((l.getD i 0:Nat):Int):=by rw [yw] at h;obtain ⟨y,g,rfl⟩:=Ze.1 h;rw [QX,g];rfl
theorem Ij {l:Δ} {r:List Sy} {k:Nat} {s:Sy} (h:r[k]? =V s) (n:Nat):Vx l n (r.take (k+1))=if s.t=nk then Vx l n (r.take k) else max (Vx l n (r.take k)) (l.getD s.i.toNat 0):=by rw [bg h,yx]
theorem Mm {l:Δ} (h:∀n,l.getD n 0<=1000) (r:List Sy):Vx l 0 r<=1000:=(nF l r 0).2 ⟨yA _,λ_ _ _=>h _⟩
theorem RR {pr:Nat->Bool} {rt:Nat->List Sy} {l:Δ} {p:Nat}:hgt pr rt l p<=1000:=by unfold hgt;split<;>omega
section
variable {F G:PH} {g:Gr} {k:Nat} {c:Int} {l:Δ}
theorem oE {v:Γ} {s:Sl} {p:Nat} {x:Pr} (hg:GV F v g) (hk:OkK g k) (hf:(vi g.fam).ev (wu c)=nk) (c0:0<=c) (c1:c<18446744073709551616) (L:g.qa0[p]? =V x) (hs:RL F s (Vj l)) (b9:l.length=g.qa1.length) (a4:∀n,l.getD n 0<=1000):
  ν 100 #[nQ v,rV .u64 c,U p,s.v] F λr F'=>r=U (hgt (WR g c) (VG g) l p:Nat)/\F.le F':=by
 obtain ⟨o1,o2,o3,o4⟩:=dm hk.ok;have hp:p<g.qa0.length:=(N6.1 L).1;have hv:=hg.size;have a8:=hg;obtain ⟨cs,n,t,s0,ps,lv,f,rfl,P⟩:=hg;have ep:=P.p.len;have b8:=o4 x (vO L);obtain ⟨_,_,_,a6⟩:=hk.prod (vO L);have es:=hs.len;rw [ub] at es;have b5:s.len=l.length:=es;have a2:VG g p=x.right:=by unfold VG;rw [L];rfl
 refine UN ?_;unfold Oq;refine (St.start F).newG λb4 G1 F1 l1 q4 _ h=> ?_;refine ⟨_,rfl,ai (h.le _ _ q4),?_⟩;refine h.runv (qhl (a8.le l1) hk hf c0 c1 L) λG2 F2 l2 h=> ?_;refine ⟨_,rfl,λhn=> ?_,λhy=> ?_⟩
 ·refine ⟨?_,aa l1 (aa l2 h.le)⟩;unfold hgt;rw [Υ]
  ·rfl
  ·show ¬(bI g p).ev (wu c)=nk;simpa using hn
 ·have b2:(bI g p).ev (wu c)=nk:=by simpa using hy
  have K:=aa l1 l2;have a9:=P.le K;have a7:=l2 _ _ q4;refine ⟨ps,ld (h.le _ _ a7) rfl,?_⟩;refine t8 a9.p (by decide) (by omega) (by omega) λa cc x' W X hc=> ?_;rw [N4,L] at W;cases W;obtain ⟨r,n2,l9,rfl,hr,_⟩:=hc;have er:=hr.len;refine ⟨r,aM (aN h.le X) (i:=2) rfl,?_⟩;refine gA (vM · s r _) x.right.length (λj m F'=>m=((Vx l 0 (x.right.take j):Nat):Int)/\St G2 F' []) 0 ⟨by rw [z6];rfl,h⟩ ?_;rintro j m F3 N hj ⟨rfl,h⟩ next;unfold vM;refine ⟨λw=> ?_,λb3=> ?_⟩
  ·have w:j<x.right.length:=by omega
   have B:x.right[j]? =V x.right[j]:=N5 w;have e:=Ij (l:=l) B 0;generalize x.right[j]=J at B e;obtain ⟨i0,i1,_⟩:=a6 J (vO B);refine t8 hr (by decide) (by omega) (by omega) λb6 b1 a3 A D O=> ?_;rw [N4,B] at A;cases A;obtain rfl:b1=J.arr:=O;refine ⟨J.t,aE (aN h.le D) rfl,λH=> ?_,λH=> ?_⟩
   ·have H:J.t=mD:=by simpa using H
    rw [H,Υ (by decide)] at e;have i1:=i1 H;refine t8 hr (by decide) (by omega) (by omega) λc2 a1 a3 A E Q=> ?_;rw [N4,B] at A;cases A;obtain rfl:a1=J.arr:=Q;refine ⟨J.i,aM (aN h.le E) (i:=1) rfl,?_⟩;refine t8 (hs.le K) (by decide) i0 (by omega) λb7 a5 y b0 C M=> ?_;obtain rfl:a5= #[U y]:=M;have a0:=Be b0;refine ⟨y,aE (aN h.le C) rfl,?_⟩;unfold pD;rw [aC w];refine next _ _ w ⟨?_,h⟩;rw [e,a0];omega
   ·have H:J.t=nk:=by simpa using H
    rw [H,Χ rfl] at e;unfold pD;rw [aC w];exact next _ _ w ⟨by rw [e],h⟩
  ·have:j=x.right.length:=by omega
   subst this;unfold Dg;rw [wB];refine ⟨?_,aa K h.le⟩;have:=Mm a4 x.right;unfold hgt WR;rw [Χ b2,a2,aJ (by omega)];congr 1;omega
structure Hts (g:Gr) (c:Int) (l:Δ):Prop where
 hf:HF g.qa0.length g.qa1.length (WR g c) (VN g) (VG g) l
 cap:∀n,l.getD n 0<=1000
theorem RU (B:OkK g k):∀p,p<g.qa0.length->∀s∈VG g p,s.t=mD->s.i.toNat<g.qa1.length:=λp w s r A=>by unfold VG at r;rw [N5 w] at r;obtain ⟨_,_,_,h⟩:=B.prod (Vc w);obtain ⟨a,b,_⟩:=h s r;have:=b A;omega
theorem yz {l:Δ} {N:Nat} (r:l.length=N) (h:∀n,n<N->l.getD n 0<=1000) (n:Nat):l.getD n 0<=1000:=by
 by_cases e:n<N
 ·exact h n e
 ·rw [QX,VP (by omega)];decide
theorem qhu {v:Γ} (hg:GV F v g) (hk:OkK g k) (hN:g.qa1.length<900) (hf:(vi g.fam).ev (wu c)=nk) (c0:0<=c) (c1:c<18446744073709551616):
  ν 72 #[nQ v,rV .u64 c] F λr A=>∃s l,r=nI s/\RL A s (Vj l)/\Hts g c l/\F.le A:=by
 obtain ⟨o1,o2,o3,o4⟩:=dm hk.ok;have hv:=hg.size;have b6:=hg;obtain ⟨cs,n,t,s0,ps,lv,f,rfl,a0⟩:=hg;have ep:=a0.p.len;have en:=a0.s.len;generalize eN:g.qa1.length=N at*;generalize eP:g.qa0.length=P at*;refine qgU ?_;unfold UG;refine (St.start F).newG λb2 G1 F1 l1 q2 _ h=> ?_;refine ⟨s0,ld (h.le _ _ q2) rfl,?_⟩;refine bT sG.ht sG.hsz sG.hz sG.hzs (by omega) (Vd _) (by omega) (by omega) ?_;intro b hb;have h:=Yb (h.new (K:=λb A=>St G1 A [pt b (Y (Builtin.zeroCells (rV .i64 0).cells (nX (s0.len:Int))) 3)]) (λ_ _ h=>h) b hb);refine ⟨_,rfl,?_⟩;have h:=h.imp (A':=own (t7 (V (oB b 0 I)) (nX (s0.len:Int)) (nX (s0.len:Int))) 3 1 ((Vj (List.replicate N 0)).map U)) 0 rfl λH _ hH=>by
  refine .inr ⟨b,_,rfl,hH,?_,ru _,?_,?_⟩
  ·simp [Builtin.zeroCells,Value.cells]
  ·simp;omega
  ·simp [Builtin.zeroCells,Value.cells,Nat.mod_one];rw [show (λ_:Nat=>rV .i64 0)=Function.const Nat (rV .i64 0) from rfl,List.map_const,WI,List.take_replicate,Nat.min_self,en]
 generalize hv:t7 (V (oB b 0 I)) (nX (s0.len:Int)) (nX (s0.len:Int))=o at*;have w:o.qa5=V (oB b 0 I):=by rw [<- hv]
 have b4:o.len=N:=by rw [<- hv];show nX (s0.len:Int)=N;omega
 clear hv hb;have J:∀(l:Δ) (i x:Nat),((Vj l).map U).set i (U (x:Int))=(Vj (l.set i x)).map U:=λl i x=>by show _=((l.set i x).map Int.ofNat).map U;rw [List.map_set,List.map_set];rfl
 refine bD (λN' x F=>A8 N' c b2 o _ x F) N (λj A=>∃l:Δ,l.length=N/\l.take j=List.replicate j 1000/\St G1 A [own o 3 1 ((Vj l).map U)]) ⟨_,Xx,by rw [z6];rfl,h⟩ ?_;rintro j F2 Nx hj ⟨l,hl,M,h⟩ next;unfold A8;refine ⟨λX=>⟨_,w,by omega,by omega,?_⟩,λc3=> ?_⟩
 ·have X:j<N:=by omega
  rw [N4,xF];refine h.ownPut 0 rfl w (by rw [ub,ub];omega) λF3 h=> ?_;rw [aC X];have h:St G1 F3 [own o 3 1 (((Vj l).map U).set j (U ((1000:Nat):Int)))]:=h;rw [J] at h;refine next _ X ⟨l.set j 1000,by rw [Yp];exact hl,?_,h⟩;rw [bg (X1 (by omega)),List.take_set_of_le (ru _),M,List.replicate_succ']
 ·have:j=N:=by omega
  subst this;rw [<- hl,wB,hl] at M;subst M;unfold If;have a6:∀p,p<P->∀s∈VG g p,s.t=mD->s.i.toNat<j:=by rw [<- eP,<- eN];exact RU hk
  refine bD (λN' x F=>A7 N' c b2 o _ x F) (j+1) (λr A=>∃(G':PH) (l:Δ),G1.le G'/\HIp P j (WR g c) (VN g) (VG g) r 0 l/\St G' A [own o 3 1 ((Vj l).map U)]) ⟨G1,_,au _,HIp.init,h⟩ ?_;rintro r F3 b7 hr ⟨G3,l,l3,E,h⟩ W;unfold A7;rw [b4,aJ (by omega)];refine ⟨λO=> ?_,λb9=> ?_⟩
  ·have O:r<j+1:=by omega
   refine bD (λN' x F=>A6 b7 N' c b2 o (r:Int) _ x F) P (λp A=>∃(G':PH) (l:Δ),G1.le G'/\HIp P j (WR g c) (VN g) (VG g) r p l/\St G' A [own o 3 1 ((Vj l).map U)]) ⟨G3,l,l3,E,h⟩ ?_;rintro p F4 c2 hp ⟨G4,l,l4,E,h⟩ a1;unfold A6;have L:=l4 _ _ q2;have b1:=aa l1 l4;refine ⟨ps,ld (h.le _ _ L) rfl,λD=> ?_,λb8=> ?_⟩
   ·have D:p<P:=by omega
    have B:g.qa0[p]? =V g.qa0[p]:=N5 (by omega);generalize g.qa0[p]=x at B;obtain ⟨_,_,⟨a9,a4,_⟩,_⟩:=hk.prod (vO B);have a9:0<=x.left:=a9;have Q:=a4 rfl;have Q:x.left<((g.qa1.length:Nat):Int):=Q;rw [eN] at Q;have b5:VN g p=x.left.toNat:=by unfold VN;rw [B];rfl
    have b0:=E.len;refine ⟨ps,ld (h.le _ _ L) rfl,?_⟩;refine t8 (a0.p.le b1) (by decide) (by omega) (by omega) λa cc x' a8 a7 hc=> ?_;rw [N4,B] at a8;cases a8;obtain ⟨rr,n2,l9,rfl,_⟩:=hc;refine ⟨x.left,aM (aN h.le a7) (i:=1) rfl,⟨_,w,by omega,by omega,?_⟩⟩;have C:∀{A:PH},St G4 A [own o 3 1 ((Vj l).map U)]->A.cell ((oB b 0 I).add (x.left.toNat*1))=V (U ((l.getD x.left.toNat 0:Nat):Int)):=λh=>by have hr:=(h.ownAt (i:=0) rfl).1.rd;have:=hr.cell w (i:=x.left.toNat) (by rw [ub,ub];omega);rw [xF,this,Yn,Yn,QX];have e:l[x.left.toNat]? =V l[x.left.toNat]:=N5 (by omega);rw [e];rfl
    refine ⟨_,C h,_,rfl,ai (h.le _ _ L),?_⟩;have b3:=RL.ints.2 (h.ownAt (i:=0) rfl).1.rd;have a5:=yz b0 E.cap;have hh:=RR (pr:=WR g c) (rt:=VG g) (l:=l) (p:=p);refine (oE (b6.le (aa b1 h.le)) hk hf c0 c1 B b3 (by omega) a5).mono ?_;rintro _ F5 ⟨rfl,l5⟩;have h:=h.up l5;refine ⟨_,rfl,C h,⟨_,w,by omega,by omega,?_⟩⟩;rw [xF];refine h.ownPut 0 rfl w (by rw [ub,ub];omega) λF6 h=> ?_;rw [aC D];have a3:=E.step (by omega) (by omega) (λs hs ht=>a6 p D s hs ht) (by omega);rw [b5] at a3;refine a1 _ D ⟨G4,_,l4,a3,?_⟩;rw [<- J,show U ((min (l.getD x.left.toNat 0) (hgt (WR g c) (VG g) l p):Nat):Int)=U (min ((l.getD x.left.toNat 0:Nat):Int) ((hgt (WR g c) (VG g) l p:Nat):Int)) by congr 1;omega];exact h
   ·have:p=P:=by omega
    subst this;unfold Ie;rw [aC O];exact W _ O ⟨G4,l,l4,E.next,h⟩
  ·have:r=j+1:=by omega
   subst this;unfold Id;obtain ⟨G5,l5,C,h⟩:=h.pinO;have a2:=E.final (by omega) a6;refine ⟨o,l,rfl,(RL.ints.2 C).le h.le,⟨?_,yz E.len E.cap⟩,aa l1 (aa l3 (aa l5 h.le))⟩;rw [eP,eN];exact a2
end
end
