/-
  The reference's terms: heights.
-/
import Derived.Test.YteilolbbgieadaaGreatDoorCb
import Derived.Maps.AppendAt
set_option maxRecDepth 10000
open Option renaming some->mB,none->nC
open Go.Obj renaming cells->mX
open Bool renaming false->nS,true->nZ
open Go.Value renaming agg->oc,bool->oY,int->tJ,string->pg,pointer->pj,tuple->sj,slice->tU
open Go.Addr renaming add->od,mk->pd
open Int renaming toNat->pc,tmod->tK
open Array renaming setIfInBounds->tL
noncomputable section
namespace Go.Proofs.YteilolbbgieadaaGreatDoor
open Go.IntKind (i64 u8 u64)
open Sl renaming v->nV,nil->pk,mk->tX,cut->xy
open Go Go.Proofs.Tryz Tr
theorem Q6:aG prog 79=nZ:=by kernel_rfl
def kJ (g:Gr):Prop:=∃(n:Nat) (c:Cf),n<g.qa1.length/\Tg (WD g.qa0 (bI g) c) n n
section
variable {G F:PH} {g:Gr} {k:Nat}
theorem qhv {B:Nat} {As:List (Ψ)} (M:OkK g k) (E:AnV G B g) (h:St G F As):
  ν 80 #[pj (mB ⟨B,0,nC⟩)] F λr K=>∃A w C,r=.map (mB w)/\G.le A/\uj k g.qa1.length g.qa0 (bI g) C/\St A K (mG bg (tN g.qa1.length) A w C::As):=by
 have O:St G F ([]++As):=h;refine (O.callL (P:=λr A=>∃w C,r=.map (mB w)/\uj k g.qa1.length g.qa0 (bI g) C) (Bs':=λr A=>[λH=>∃w C,(r=.map (mB w)/\uj k g.qa1.length g.qa0 (bI g) C)/\mG bg (tN g.qa1.length) A w C H]) λU D=> ?_).mono ?_
 ·refine (qhU M E D).mono ?_;rintro r F2 ⟨A,w,C,D,I,J,L⟩;exact ⟨A,⟨w,C,D,J⟩,I,L.imp 0 rfl λH _ N=>⟨w,C,⟨D,J⟩,N⟩⟩
 ·rintro r F2 ⟨A,_,I,h⟩;obtain ⟨w,h⟩:=h.exI 0 rfl;obtain ⟨C,h⟩:=h.exI 0 rfl;obtain ⟨⟨Q,R⟩,h⟩:=h.prI 0 rfl;exact ⟨A,w,C,Q,I,R,h⟩
theorem LI {C:Int->Tr} (w:uj k g.qa1.length g.qa0 (bI g) C):(∃n:Nat,n<g.qa1.length/\C n≠qa6 nS)↔kJ g:=by
 constructor
 ·rintro ⟨n,r,B⟩;have A:¬∀c,(C n).ev c=(qa6 nS).ev c:=λh=>B (eq_of_ev (w.sx n).1 trivial h);obtain ⟨c,D⟩:=Classical.not_forall.1 A;refine ⟨n,c,r,(w.iff n c r).1 ?_⟩;cases e:(C n).ev c with
  |true=>rfl
  |false=>rw [e] at D;exact absurd rfl D
 ·rintro ⟨n,c,r,h⟩;have:=(w.iff n c r).2 h;exact ⟨n,r,λe=>by rw [e] at this;cases this⟩
def TP (A:Bool->Prop) (b:Nat) (G:PH):List (Ψ):=[λH=>∃q,A q/\H b=mB (mX #[oY q] 4)]
theorem qhP {P X:Nat} (hk:OkK g k) (a1:AnV G P g)
  (h:St G F [pt X (mX #[oY nS] 4)]):ν 79 #[pj (mB ⟨P,0,nC⟩),pj (mB ⟨X,0,nC⟩)] F λr F'=>∃N,r=sj #[]/\G.le N/\St N F' (TP (λq=>q=nZ↔kJ g) X N):=by
 refine qgD ?_;unfold Uz;refine (qhv hk a1 h).mono ?_;rintro _ F1 ⟨G1,mo,C,rfl,l1,Y,h⟩;refine ⟨_,rfl,?_⟩;obtain ⟨G2,l2,⟨H,⟨o,mp,e1,⟨W,c,L,rfl,hL⟩,e3,e4⟩,Z⟩,h⟩:=h.pin;have qo:=Z _ _ e1;have hS:=e3.le l2;refine h.rangeG underlying170 bg (h.le _ _ qo) λb7 F2 h=> ?_
 refine ⟨λq F'=>∃(N:PH) (D:Φ) (V:Bool),q=W.size - D.length/\G2.le N/\D.Nodup/\(∀n∈D,∃v,mp n=mB v)/\(V=nZ↔∃n∈D,C n≠qa6 nS)/\
  St N F' [itG bg mo b7 W c D,pt X (mX #[oY V] 4)],_,⟨G2,[],nS,rfl,au _,List.nodup_nil,λ_ h=>(by cases h),by simp,h⟩,?_⟩
 rintro q F3 ⟨G3,D,V,rfl,l3,Q,M,J,h⟩;unfold H0;refine h.nextG hL yv Q M (h.le _ _ (l3 _ _ qo)) (λO=> ?_) λn v F4 E a0 a3 h hr R=> ?_
 ·refine ⟨_,rfl,nS,rfl,λhc=>(by cases hc),λ_=> ?_⟩;refine ⟨G3,rfl,aa l1 (aa l2 l3),h.tail.imp 0 rfl λH _ Z=>⟨V,?_,Z⟩⟩;dsimp only;rw [J,<- LI Y];constructor
  ·rintro ⟨n,hn,A⟩;obtain ⟨v,hv⟩:=M n hn;have hm:=e4 n (by rw [hv];simp);obtain ⟨i,hi,rfl⟩:=xR.1 hm;exact ⟨i,Wy.1 hi,A⟩
  ·rintro ⟨n,hn,A⟩;rcases hS (n:Int) with ⟨_,e⟩|⟨w,e,_⟩
   ·exact absurd e A
   ·exact ⟨n,O _ _ e,A⟩
 ·refine ⟨_,rfl,nZ,rfl,λ_=> ?_,λhc=>(by cases hc)⟩;have K:∃w,v=oc w/\DV G2 w (ph (C n)):=by
   rcases hS n with ⟨e,_⟩|⟨w,e,K⟩
   ·rw [e] at E;cases E
   ·rw [e] at E;cases E;exact ⟨w,rfl,K⟩
  obtain ⟨w,rfl,K⟩:=K;refine ⟨_,R,w,rfl,?_⟩;refine h.var K.st (λb4 G4 F5 l4 q4 h=> ?_) rfl K.size;have U:=aa l3 l4;have nd:(D++[n]).Nodup:=by rw [VC];exact ⟨Q,by simp,λa ha b hb e=>a0 (by rw [wa.1 hb] at e;rw [<- e];exact ha)⟩
  have I:∀x∈D++[n],∃v,mp x=mB v:=λx B=>by
   rcases vl.1 B with B|B
   ·exact M x B
   ·rw [wa.1 B];exact ⟨_,E⟩
  have ms:W.size - (D++[n]).length<W.size - D.length:=by rw [tT,Vc];omega
  refine ⟨_,rfl,V,ld (h.ptAt (i:=1) rfl) rfl,λht=> ?_,λhf=> ?_⟩
  ·refine h.set1 (w':= #[oY nZ]) (vp rfl) rfl λF6 h=> ?_;refine ⟨_,ms,G4,D++[n],nZ,rfl,U,nd,I,⟨λ_=> ?_,λ_=>rfl⟩,h⟩;obtain ⟨x,B,A⟩:=J.1 ht;exact ⟨x,vl.2 (.inl B),A⟩
  ·obtain ⟨sd,ew,_⟩:=id K;refine ⟨_,ld (h.le _ _ q4) (by rw [ew];rfl),?_⟩;refine h.set1 (w':= #[oY (decide ((ph (C n)).2≠0))]) (vp rfl) rfl λF6 h=> ?_;refine ⟨_,ms,G4,D++[n],_,rfl,U,nd,I,?_,h⟩;rw [δ];have a2:¬∃n∈D,C n≠qa6 nS:=λh=>by rw [J.2 h] at hf;cases hf
   constructor
   ·intro A;exact ⟨n,by simp,λe=>A ((iZ (Y.sx n).1).2 e)⟩
   ·rintro ⟨x,B,A⟩ h0;rcases vl.1 B with B|B
    ·exact a2 ⟨x,B,A⟩
    ·rw [wa.1 B] at A;exact A ((iZ (Y.sx n).1).1 h0)
theorem At {v:Γ} (R:Tab F) (E:GV F v g) (O:Sz g) (D:OkK g k):
  ν 47 #[oc v] F λr H=>(kJ g/\r=vi 60\/¬kJ g/\r=vi 0)/\F.le H:=by
 obtain ⟨W,o2,o3,U⟩:=dk D.ok;refine qgB ?_;unfold Ux;refine (St.start F).newG λV X Y B q1 _ h=>h.new λA F2 h=> ?_;refine h.set0 (w':= #[oY nS]) (vp rfl) rfl λK h=>⟨v,E.size,ai (h.le _ _ q1),?_⟩;refine (qh9 (kr:=79) (fst:= #[]) (cap:= #[pj (mB ⟨A,0,nC⟩)]) (Bs:=TP (λq=>q=nZ↔kJ g) A) (R.le B) (E.le B) O D (λx M=>by have:=U x M;omega) (by omega) h Q6 λZ w H l C h=> ?_).mono ?_
 ·have e:(#[]++ #[pj (mB ⟨w,0,nC⟩)]++ #[pj (mB ⟨A,0,nC⟩)]:Γ)= #[pj (mB ⟨w,0,nC⟩),pj (mB ⟨A,0,nC⟩)]:=by simp
  rw [e];exact qhP D C h
 rintro _ K ⟨rfl,P,J,h⟩;obtain ⟨q,h⟩:=h.exI 0 rfl;obtain ⟨L,h⟩:=h.prI 0 rfl;have h:St P K [pt A (mX #[oY q] 4)]:=h;refine ⟨_,rfl,λ_=>⟨q,h.ld0 rfl,λN=> ?_,λI=> ?_⟩,λe=>absurd rfl e⟩
 ·exact ⟨.inl ⟨L.1 N,rfl⟩,aa B (aa J h.le)⟩
 ·exact ⟨.inr ⟨λQ=>(by rw [L.2 Q] at I;cases I),rfl⟩,aa B (aa J h.le)⟩
end
structure GdG (g:Gr) (k:Nat):Prop where
 ok:OkK g k
 sz:Sz g
 nc:¬kJ g
section
variable {F G:PH} {g:Gr} {k:Nat} {T:Dtr} {c:Int}
theorem t6 {v:Γ} (B:Tab F) (C:GV F v g) (w:GdG g k):ν 47 #[oc v] F λr A=>r=vi 0/\F.le A:=
 (At B C w.sz w.ok).mono λ_ _ ⟨E,D⟩=>⟨E.elim (λh=>absurd h.1 w.nc) λh=>h.2,D⟩
theorem Fq {t cs n tk s p l f:Sl} {b2 b3:Nat} (hf:dY g T) (hN:szN T<=2000000) (q3:F b3=mB (mX #[t.v] 43)) (q2:F b2=mB (mX (g.arr cs n tk s p l f) 39)) (hs:GS F g cs n tk s p l f) (ht:RL F t (vq T)):
  ν 82 #[oc #[cs.v,n.v,vi g.fam.2,tk.v,s.v,p.v,vi g.start,l.v,f.v,vi ((szN T:Nat):Int),.func (.func 81) #[] #[Pp b3,Pp b2]]] F λr Q=>(∃s',r=nV s'/\RL Q s' (Vp T))/\F.le Q:=by
 have b6:=gr T;refine aab ?_;unfold Xv;refine (St.start F).newG λb1 G1 F1 l1 q1 _ h=> ?_;refine ⟨_,ld (h.le _ _ q1) rfl,λO=>absurd O (by omega),λ_=>⟨_,ld (h.le _ _ q1) rfl,λO=>absurd O (by omega),λ_=>⟨_,ld (h.le _ _ q1) rfl,?_⟩⟩⟩;refine bQ underlying76 Yk Ym rfl (by omega) (Vr _) (by omega) (by omega) ?_;intro J a4;have h:=Yo (h.new (K:=λb Q=>St G1 Q [pt b (mX (Builtin.zeroCells (Value.int .i64 0).cells (pc ((szN T:Nat):Int))) 3)]) (λ_ _ h=>h) J a4);refine ⟨_,rfl,_,ld (h.le _ _ q1) rfl,?_⟩;have h:=h.imp (A':=own (tX (mB (pd J 0 nC)) (pc ((szN T:Nat):Int)) (pc ((szN T:Nat):Int))) 3 1 ((List.replicate (szN T) (0:Int)).map vi)) 0 rfl λH _ hH=>by
  refine .inr ⟨J,_,rfl,hH,?_,tI _,?_,?_⟩
  ·simp [Builtin.zeroCells,Value.cells]
  ·simp
  ·simp [Builtin.zeroCells,Value.cells,Nat.mod_one];rw [show (λ_:Nat=>tJ .i64 0)=Function.const Nat (tJ .i64 0) from rfl,List.map_const,Wq,List.take_replicate,Nat.min_self]
 generalize b4:tX (mB (pd J 0 nC)) (pc ((szN T:Nat):Int)) (pc ((szN T:Nat):Int))=L at*;have h:=h.push (A:=own pk 223 2 []) (H:=λ_=>nC) (.inl ⟨rfl,rfl⟩) (λb hb=>absurd rfl hb) (λb o hb=>by cases hb) (au _);have V:(VM 0 T).length=szN T:=jT 0 T;refine ib (λN x v F=>Cp N b1 L ((szN T:Nat):Int) _ x v F) (szN T) (Yn g (vq T) (VM 0 T) (szN T) L G1 nZ) pk ⟨G1,[],[],List.replicate (szN T) 0,au _,h,.nil,⟨rfl,yM _⟩,Xn,λq v hq=>by omega,by rw [Χ rfl],λ_ x B r he=>by cases he⟩ ?_;rintro j st F3 Nx hj hI next;obtain ⟨G',Y,vs,E,lG,I,hr,⟨hl,a7⟩,hE,hq,w,M⟩:=id hI;unfold Cp;have C:=aa l1 lG;have U:=hs.le C;have W:=lG _ _ q1;refine ⟨λP=> ?_,λb7=> ?_⟩
 ·have P:j<szN T:=by omega
  obtain ⟨c,D,a5,X,Z,a8⟩:∃(c:Dtr) (D:List (Nat×List Dtr)),(vq T)[j]? =mB c.root/\dY g c/\((Y=[]/\D=[])\/∃x B rest,Y=(x,c::B)::rest/\D=(x,B)::rest)/\WC g (vq T) (VM 0 T) (szN T) (j+1) ((j,c.kids)::D):=by
   by_cases h0:j=0
   ·subst h0;rw [Χ rfl] at w;exact ⟨T,[],by rw [lw];rfl,hf,.inl ⟨w,rfl⟩,KC hf⟩
   ·rw [Υ h0] at w;cases Y with
    |nil=>exact absurd w (by show ¬j=szN T;omega)
    |cons y rest=>
     obtain ⟨x,B⟩:=y;cases B with
     |nil=>exact absurd rfl (M rfl x [] rest rfl)
     |cons c B=>obtain ⟨a1,a2,a3⟩:=KB w;exact ⟨c,(x,B)::rest,a1,a2,.inr ⟨x,B,rest,rfl,rfl⟩,a3⟩
  refine ⟨_,ld (I.le _ _ W) rfl,81,#[],#[Pp b3,Pp b2],rfl,qgI,?_⟩;refine I.runv (Il (i:=j) (C _ _ q3) (C _ _ q2) U (ht.le C) a5 X.here) λG4 F4 l4 h4=>⟨_,_,_,rfl,⟨λO=>(by cases O),λ_=> ?_⟩⟩;have go:∀R:VR,sY Nx b1 L st (j:Int) c.root.pr c.root.tk ((szN T:Nat):Int) R F4:=λR=>Mb hN P V (l4 _ _ W) (U.le l4) X (aa lG l4) h4 (hr.le l4) hl a7 hE hq Z a8 λa6 Q b0=>next a6 Q P b0;refine ⟨λb8=>⟨λhz=> ?_,λ_=>go _⟩,λ_=>go _⟩;rcases Z with ⟨rfl,_⟩|⟨x,B,rest,rfl,_⟩
  ·rw [Υ (by omega)] at w;exact absurd w (by show ¬j=szN T;omega)
  ·rw [wo] at hl;omega
 ·obtain rfl:j=szN T:=by omega
  unfold KG;rw [Υ (by omega)] at w;have a0:Y=[]:=by
   cases Y with
   |nil=>rfl
   |cons y rest=>
    obtain ⟨x,B⟩:=y;cases B with
    |nil=>exact absurd rfl (M rfl x [] rest rfl)
    |cons c B=>have:=Ck w.2.2.2.2;rw [di] at this;have:=gr c;omega
  subst a0;refine ⟨λO=>by rw [hl] at O;exact absurd O (by decide),λ_=> ?_⟩;have a9:E=Vp T:=by
   refine Wp λq=> ?_;unfold Vp;rw [yr];cases e:(VM 0 T)[q]? with
   |some v=>have b5:=(N6.1 e).1;exact hq q v (by omega) (λx hx=>by cases hx) e
   |none=>have:=List.getElem?_eq_none_iff.1 e;rw [Option.map_none,List.getElem?_eq_none_iff];omega
  subst a9;obtain ⟨H,a1,a2,a3⟩:=I.get (i:=1) rfl;exact ⟨⟨L,rfl,RL.ints.2 ((bO.rd a1).le a3)⟩,aa C I.le⟩
theorem qfk {D h w H B r E C A u v:ξ}:tL (tL (wr (#[tU nC 0 0,.slice nC 0 0,vi 0,.slice nC 0 0,.slice nC 0 0,.slice nC 0 0,vi 0,.slice nC 0 0,.slice nC 0 0,vi 0,.nilFunc]:Γ) 0 (#[D,h,w,H,B,r,E,C,A]:Γ).toList) 9 u) 10 v= #[D,h,w,H,B,r,E,C,A,u,v]:=by kernel_rfl
theorem km {v:Γ} {t:Sl} (I:GV F v g) (L:dY g T) (K:szN T<=2000000) (E:RL F t (vq T)):ν 48 #[oc v,t.v] F λr B=>(∃w,r=nV w/\RL B w (Vp T))/\F.le B:=by obtain ⟨cs,n,X,s,p,l,f,rfl,H⟩:=I;refine qf5 ?_;unfold Xt;refine (St.start F).newG λW R Q O q2 _ h=> ?_;refine h.newG λZ Y F2 D q3 _ h=> ?_;have A:=aa O D;refine ⟨_,rfl,ai (h.le _ _ (D _ _ q2)),t,ld (h.le _ _ q3) rfl,rfl,?_⟩;have J:t.len=szN T:=E.len;rw [J,qfk];refine h.run (P:=λr B=>∃w,r=nV w/\RL B w (Vp T)) (Fq L K q3 (D _ _ q2) (H.le A) (E.le A)) λ_ U V N M h=> ?_;obtain ⟨w,rfl,C⟩:=N;exact ⟨w,rfl,⟨w,rfl,C.le h.le⟩,aa A (aa M h.le)⟩
end
open Go.RowKit Go.Shelf
attribute [local go_sem] Oper.semAt_some
set_option maxHeartbeats 4000000
theorem kK {F:PH} {a:Addr} {y:Int} {K:Int->Prop} (h:F.cell a=mB (vi y)):(∃v:Int,F.cell a=mB (tJ .i64 v)/\K v)↔K y:=
 ⟨λ⟨v,g,k⟩=>by rw [h] at g;cases g;exact k,λk=>⟨y,h,k⟩⟩
theorem CR {k:Int} (h:0<=k/\k<=4):ml k=ar k/\0<=ar k:=by
 unfold ml ar;split
 ·exact ⟨rfl,by omega⟩
 ·split
  ·exact ⟨rfl,by omega⟩
  ·rw [Χ (by omega)];exact ⟨rfl,by omega⟩
theorem x7 {k:Int} (h:0<=ar k):0<=k/\k<=4:=by have:=rW h;omega
section
variable {F:PH}
theorem Au {s:Sl} {l:List Nd} (hs:RdS F s 5 (dC l)) {i:Nat} {x:Nd} (Z:l[i]? =mB x) (a1:(i:Int)<9223372036854775807):ν 188 #[s.v,vi i] F λr M=>(∃b:Bool,r=oY b/\(b=nZ↔y5 i x))/\F.le M:=by
 obtain ⟨a,R,N⟩:=W4 hs Z;have a0:=hs.nlen;have hi:=(N6.1 Z).1;refine qd9 ?_;unfold Pt;refine ⟨a,R,by omega,by omega,x.arr,rfl,N,λG X=> ?_⟩;refine tP ?_;refine Vd (aq _ _ _) rfl rfl (gj x) ?_;rw [aS];have l5:F.le (F.set G (mX x.arr 225)):=ae _ X;have q5:=aq F G (mX x.arr 225);generalize F.set G (mX x.arr 225)=H at*;have c0:H.cell (pd G 0 nC)=mB (vi x.k):=by rw [av q5];rfl
 have c1:H.cell (pd G 1 nC)=mB (vi x.lo):=by rw [av q5];rfl
 have c2:H.cell (pd G 2 nC)=mB (vi x.hi):=by rw [av q5];rfl
 have c3:H.cell (pd G 3 nC)=mB (vi x.a):=by rw [av q5];rfl
 have c4:H.cell (pd G 4 nC)=mB (vi x.b):=by rw [av q5];rfl
 refine ⟨x.k,c0,?_⟩;refine (kB H x.k).mono ?_;rintro _ F2 ⟨rfl,e⟩;obtain rfl:=e.symm;have K:∀b:Bool,(b=nZ↔y5 i x)->(∃I:Bool,oY b=oY I/\(I=nZ↔y5 i x))/\F.le H:=λb W=>⟨⟨b,rfl,W⟩,l5⟩;refine ⟨_,_,rfl,λQ=>K _ ?_,λQ=> ?_⟩
 ·have J:¬(0<=x.k/\x.k<=4):=by
   have:decide (0<=x.k/\x.k<=4)=nS:=by simpa only [d8,Bool.not_eq_true'] using Q
   exact ι this
  exact ⟨λh=>by (cases h),λh=>absurd (x7 h.1) J⟩
 have J:0<=x.k/\x.k<=4:=by simpa [d8] using Q
 obtain ⟨hn,U⟩:=CR J;rw [hn];clear Q hn;have B:∀(P:Prop),¬P->(nS=nZ↔P):=λP h=>⟨λh=>by (cases h),λO=>absurd O h⟩;have t1:∀(P:Prop),P->(nZ=nZ↔P):=λP h=>⟨λ_=>h,λ_=>rfl⟩;have Y:(ar x.k<1->x.a=0)->(ar x.k<2->x.b=0)->(x.k=1->0<=x.lo/\x.lo<=x.hi/\x.hi<=255)->(x.k≠1->x.lo=0/\x.hi=0)->jC i G (ar x.k) (λr M=>(∃I:Bool,r=oY I/\(I=nZ↔y5 i x))/\F.le M) H:=λR W E D=>by have e:y5 i x↔(1<=ar x.k->0<=x.a/\x.a<i)/\(2<=ar x.k->0<=x.b/\x.b<i):=⟨λh=>⟨h.2.2.2.2.2.1,h.2.2.2.2.2.2⟩,λh=>⟨U,E,D,R,W,h.1,h.2⟩⟩;unfold jC;simp only [kK c3,kK c4];refine ⟨λh=>⟨λO=>K _ (t1 _ (e.2 ⟨by omega,by omega⟩)),λO=>absurd O (by omega)⟩,λh=>⟨λA=>⟨λw=>⟨λC=>K _ (t1 _ (e.2 ⟨λ_=>⟨A,w⟩,by omega⟩)),λC=>⟨λL=>K _ ?_,λL=>K _ (B _ λg=>L ((e.1 g).2 (by omega)).1)⟩⟩,λw=>K _ (B _ λg=>w ((e.1 g).1 (by omega)).2)⟩,λA=>K _ (B _ λg=>A ((e.1 g).1 (by omega)).1)⟩⟩;rw [δ,e];exact ⟨λV=>⟨λ_=>⟨A,w⟩,λ_=>⟨L,V⟩⟩,λV=>(V.2 (by omega)).2⟩
 have j1:(x.k=1->0<=x.lo/\x.lo<=x.hi/\x.hi<=255)->(x.k≠1->x.lo=0/\x.hi=0)->pY i G (ar x.k) (λr M=>(∃I:Bool,r=oY I/\(I=nZ↔y5 i x))/\F.le M) H:=λE D=>by unfold pY;simp only [kK c3,kK c4];refine ⟨λh=>⟨λA=>K _ (B _ λg=>A (g.2.2.2.1 h)),λA=>⟨λw=>⟨λC=>K _ (B _ λg=>C (g.2.2.2.2.1 w)),λC=>Y (λ_=>by omega) (λ_=>by omega) E D⟩,λw=>absurd w (by omega)⟩⟩,λh=>⟨λw=>⟨λC=>K _ (B _ λg=>C (g.2.2.2.2.1 w)),λC=>Y (λh=>by omega) (λ_=>by omega) E D⟩,λw=>Y (λh=>by omega) (λh=>by omega) E D⟩⟩
 simp only [kK c0,kK c1,kK c2]
 refine ⟨λh=>⟨λE=>K _ (B _ λg=>E (g.2.2.1 h).1),λE=>⟨λD=>K _ (B _ λg=>D (g.2.2.1 h).2),λD=>⟨λA=>absurd A (by omega),λA=>⟨λw=>absurd w (by omega),λw=>⟨λC=>absurd C (by omega),λC=>j1 (λL=>absurd L h) (λ_=>⟨by omega,by omega⟩)⟩⟩⟩⟩⟩,
  λh=>⟨λE=>K _ (B _ λg=>by have:=g.2.1 (by omega);omega),λE=>⟨λD=>K _ (B _ λg=>by have:=g.2.1 (by omega);omega),λD=>⟨λA=>K _ (B _ λg=>by have:=g.2.1 (by omega);omega),λA=>j1 (λ_=>⟨by omega,by omega,by omega⟩) (λL=>absurd (by omega) L)⟩⟩⟩⟩
def oX (n:Nat) (W:Φ):Ξ:=(List.range n).map λ(i:Nat)=>vi (W.count (i:Int):Nat)
theorem Hl {n:Nat} {W:Φ} {i:Nat} (hi:i<n):(oX n W).toArray[i]? =mB (vi (W.count (i:Int):Nat)):=by simp [oX,hi]
theorem Hm (n:Nat) (W:Φ) (i:Nat) (hi:i<n):(oX n W).toArray.setIfInBounds i (vi ((W.count (i:Int)+1:Nat):Int))=(oX n ((i:Int)::W)).toArray:=by
 apply Array.ext';rw [Array.toList_setIfInBounds];apply Wp;intro j;rw [Yt];simp only [oX,vb,Wq,yr];by_cases h:i=j
 ·subst h;rw [Χ rfl,Χ hi,XK hi];simp
 ·rw [Υ h];by_cases g:j<n
  ·rw [XK g];simp only [VF];rw [List.count_cons_of_ne (by omega)]
  ·rw [VP (by simp;omega)];rfl
structure Cnt (F0 F:PH) (u n:Nat) (W:Φ):Prop where
 zu:F0 u=nC
 le:F0.le F
 qu:F u=mB (mX (oX n W).toArray 3)
theorem Cnt.cell {F0 F:PH} {u n:Nat} {W:Φ} (h:Cnt F0 F u n W) {k:Int} (g:0<=k) (r:k<n):F.cell ((pd u 0 nC).add (pc k*1))=mB (vi (W.count k:Nat)):=by obtain ⟨i,rfl⟩:=Yu g;rw [N4,xZ,show (pd u 0 nC).add i=⟨u,i,nC⟩ by simp [od];omega,av h.qu];exact Hl (by omega)
theorem Cnt.inc {F0 F:PH} {u n:Nat} {W:Φ} (h:Cnt F0 F u n W) {k:Int} (w:0<=k) (C:k<n) (B:W.length<=100000) {K:Ψ} (r:∀g,Cnt F0 g u n (k::W)->K g):
  ∃c e,F (od (pd u 0 nC) (pc k*1)).block=mB (mX c e (0,0))/\(od (pd u 0 nC) (pc k*1)).spot=nC/\(od (pd u 0 nC) (pc k*1)).off<c.size/\
   wn (F.set (od (pd u 0 nC) (pc k*1)).block (mX (c.setIfInBounds (od (pd u 0 nC) (pc k*1)).off (tJ .i64 (i64.wrap ((W.count k:Nat)+(1:Int))))) e)) K:=by
 obtain ⟨i,rfl⟩:=Yu w;have A:W.count (i:Int)<=W.length:=List.count_le_length;rw [ff (by omega)];refine sq (b:=u) (o:=i) (by rw [N4,xZ];simp [od];omega) h.qu (by simp [oX];omega) ?_;rw [Hm n W i (by omega)];exact r _ ⟨h.zu,aC h.le h.zu,aq _ _ _⟩
theorem CS:∀(l:List Nd),(xz l).length<=2*l.length
 |[]=>tI _
 |x::l=>by
  have:=CS l;have:(us x).length<=2:=by unfold us;split<;>(try split)<;>simp
  simp only [xz,tT,wo];omega
def Hn (l:List Nd) (j:Nat):Prop:=∀i x,i<j->l[i]? =mB x->y5 i x
theorem Fs {l:List Nd} {j:Nat} (h:Hn l j):∀k∈xz (l.take j),0<=k/\k+1<j:=by
 induction j with
 |zero=>intro k g;simp [xz] at g
 |succ j ih=>
  intro k g;by_cases E:j<l.length
  ·have w:=N5 E;have B:=h j _ (by omega) w;rw [Wj,w] at g;simp only [Option.toList_some,jc,vl] at g;rcases g with g|g
   ·unfold us at g;obtain ⟨I,K,H,J,G,r,C⟩:=B;split at g
    ·rename_i A;have:=r (by omega);have:=C (by omega);simp at g;rcases g with rfl|rfl<;>omega
    ·split at g
     ·rename_i D;have:=r (by omega);simp at g;subst g;omega
     ·simp at g
   ·have:=ih (λi x hi=>h i x (by omega)) k g;omega
  ·rw [yY (by omega)] at g;have:=ih (λi x hi=>h i x (by omega)) k (by rw [yY (by omega)];exact g);omega
theorem Ho {l:List Nd} (h:Hn l l.length):GoodL l↔l≠[]/\∀i:Nat,i+1<l.length->(xz l).count (i:Int)=1:=by
 have B:=Fs h;rw [wV] at B;constructor
 ·rintro ⟨r,g,E,C⟩;refine ⟨r,λi hi=> ?_⟩;have:=List.nodup_iff_count.1 E (i:Int);have:=List.count_pos_iff.2 (C i hi);omega
 ·rintro ⟨r,g⟩;refine ⟨r,λi x w=>h i x (N6.1 w).1 w,List.nodup_iff_count.2 λa=> ?_,λi hi=>List.count_pos_iff.1 (by rw [g i hi];decide)⟩;by_cases A:a∈xz l
  ·obtain ⟨D,G⟩:=B a A;obtain ⟨k,rfl⟩:=Yu D;rw [g k (by omega)];exact tI _
  ·rw [List.count_eq_zero.2 A];omega
theorem LJ:vV prog 3=mB (1,8):=by kernel_rfl
theorem LL:bv prog 3=mB (tJ .i64 0):=by kernel_rfl
theorem LM:prog.underlying 76=mB (.slice 3):=by kernel_rfl
theorem qhf {s:Sl} {l:List Nd} (V:RdS F s 5 (dC l)):ν 154 #[s.v] F λr g=>r=vi (fD l)/\F.le g:=by
 have A:=V.nlen;refine qd7 ?_;unfold Po;refine ⟨λh=>⟨?_,au F⟩,λh=> ?_⟩
 ·have e:fD l=2:=by unfold fD;rw [Χ (by omega)]
  rw [e]
 have hl:l.length<=512:=by omega
 refine bQ LM LJ LL rfl (by omega) (Vr _) (by omega) (by omega) ?_;intro u hu;rw [ZS _ rfl,N4,A];have em:(List.replicate l.length (vi 0)).toArray=(oX l.length []).toArray:=by
  congr 1;apply Wp;intro j;by_cases hj:j<l.length
  ·simp [oX,hj]
  ·rw [VP (by simp;omega),VP (by simp [oX];omega)]
 rw [em];refine ⟨_,rfl,?_⟩;have hU:Cnt F (F.set u (mX (oX l.length []).toArray 3)) u l.length []:=⟨hu,ae _ hu,aq _ _ _⟩;generalize F.set u (mX (oX l.length []).toArray 3)=F1 at*;have bad:∀{g:PH},¬GoodL l->F.le g->vi 40=vi (fD l)/\F.le g:=λh b2=>⟨by rw [yS hl h],b2⟩;refine ⟨λm i g=>∃j:Nat,i=j/\j<=l.length/\m=l.length - j/\Hn l j/\Cnt F g u l.length (xz (l.take j)),l.length,⟨0,rfl,by omega,rfl,λi x hi=>by omega,by simpa [xz] using hU⟩,?_⟩;clear hU;rintro _ _ F2 ⟨j,rfl,hj,rfl,hg,D⟩;unfold D4;refine ⟨λa9=> ?_,λa7=> ?_⟩
 ·have M:j<l.length:=by omega
  have H:l[j]? =mB l[j]:=N5 M;generalize l[j]=x at H;refine (Au (V.le D.le) H (by omega)).mono ?_;rintro _ Y ⟨⟨b,rfl,hb⟩,l3⟩;have w:Cnt F Y u l.length (xz (l.take j)):=⟨D.zu,aa D.le l3,l3 _ _ D.qu⟩;refine ⟨b,rfl,λN=>bad (λR=> ?_) w.le,λb3=> ?_⟩
  ·have:=hb.2 (R.ok j x H);rw [this] at N;cases N
  have B:y5 j x:=hb.1 (by simpa using b3);have Q:Hn l (j+1):=λi y hi P=>by
   by_cases I:i=j
   ·subst I;rw [H] at P;cases P;exact B
   ·exact hg i y (by omega) P
  obtain ⟨a,U,b4⟩:=W4 (V.le w.le) H;have a6:=x7 B.1;obtain ⟨hn,b5⟩:=CR a6;have cl:∀{g:PH},F.le g->∀(o:Nat) (y:ξ),o<5->x.arr[o]? =mB y->g.cell ((a.add (j*5)).add o)=mB y:=λa2 o y ho P=>by obtain ⟨a',L,J⟩:=W4 (V.le a2) H;rw [U] at L;cases L;have:=J o (by show o<5;exact ho);rw [this];rw [<- P];exact (Wh (xs:=x.arr) (i:=o) _).symm
  refine ⟨a,U,by omega,by omega,x.k,by have:=cl w.le 0 (vi x.k) (by omega) rfl;exact this,?_⟩;refine (kB Y x.k).mono ?_;rintro _ F4 ⟨rfl,e⟩;obtain rfl:=e.symm;refine ⟨_,_,rfl,?_⟩;rw [hn];have a3:(xz (l.take j)).length<=1024:=by have:=CS (l.take j);rw [PM] at this;omega
  have fin:∀g,Cnt F g u l.length (us x++xz (l.take j))->pV (λK a8=>∃m',m'<l.length - j/\∃j:Nat,K=j/\j<=l.length/\m'=l.length - j/\Hn l j/\Cnt F a8 u l.length (xz (l.take j))) s ⟨mB ⟨u,0,nC⟩,l.length,l.length⟩ j (λr g=>r=vi (fD l)/\F.le g) g:=λg a5=>by unfold pV;refine ⟨l.length - (j+1),by omega,j+1,ff (by omega),M,rfl,Q,?_⟩;rw [Wj,H];show Cnt F g u l.length (xz (l.take j++[x]));rw [jc];exact a5
  refine ⟨λX=> ?_,λX=> ?_⟩
  ·obtain ⟨W,a1⟩:=B.2.2.2.2.2.1 X;refine ⟨a,U,by omega,by omega,x.a,cl w.le 3 (vi x.a) (by omega) rfl,_,rfl,W,by simp only;omega,_,w.cell W (by omega),_,rfl,W,by simp only;omega,?_⟩;refine w.inc W (by omega) (by omega) λF5 C=> ?_;unfold pW;refine ⟨λG=> ?_,λG=> ?_⟩
   ·obtain ⟨Z,b1⟩:=B.2.2.2.2.2.2 G;refine ⟨a,U,by omega,by omega,x.b,cl C.le 4 (vi x.b) (by omega) rfl,_,rfl,Z,by simp only;omega,_,C.cell Z (by omega),_,rfl,Z,by simp only;omega,?_⟩;refine C.inc Z (by omega) (by simp only [wo];omega) λF6 a4=>fin F6 ?_;have:us x=[x.b,x.a]:=by unfold us;rw [Χ G]
    rw [this];exact a4
   ·refine fin F5 ?_;have:us x=[x.a]:=by unfold us;rw [Υ G,Χ X]
    rw [this];exact C
  ·unfold pW;refine ⟨λG=>absurd G (by omega),λG=>fin Y ?_⟩;have:us x=[]:=by unfold us;rw [Υ G,Υ X]
   rw [this];exact w
 ·obtain rfl:j=l.length:=by omega
  rw [wV] at D;have O:=Ho hg;unfold D3;have ew:i64.wrap ((s.len:Int) - 1)=(l.length:Int) - 1:=by rw [A,aL (by omega)]
  refine ⟨λm i g=>∃j:Nat,i=j/\j<=l.length/\m=l.length - j/\g=F2/\∀i:Nat,i<j->(xz l).count (i:Int)=1,l.length,⟨0,rfl,by omega,rfl,rfl,λi hi=>by omega⟩,?_⟩;rintro _ _ Y ⟨j,rfl,b6,rfl,e3,E⟩;obtain rfl:=e3.symm;unfold D2;rw [ew];refine ⟨λa9=> ?_,λa7=> ?_⟩
  ·refine ⟨_,rfl,by omega,by simp only;omega,_,D.cell (k:=(j:Int)) (by omega) (by omega),λhm=>bad (λR=> ?_) D.le,λhm=>⟨l.length - (j+1),by omega,j+1,ff (by omega),by omega,rfl,rfl,λi hi=> ?_⟩⟩
   ·have:=(O.1 R).2 j (by omega);rw [this] at hm;exact hm rfl
   ·by_cases I:i=j
    ·subst I;omega
    ·exact E i (by omega)
  ·unfold D1;refine ⟨λh0=>bad (λR=>R.ne (X1.1 (by omega))) D.le,λh0=>⟨?_,D.le⟩⟩;rw [uz hl (O.2 ⟨λe=>by rw [e] at A;simp at A;omega,λi hi=>E i (by omega)⟩)]
end
abbrev Y1:=Nat×Nat
structure Two where
 acc:Y1->Nat->Prop
 lnk:Y1->Y1->Prop
 ini:Y1->Prop
 fin:Y1->Prop
namespace Two
end Two
structure Ov (e:TypeId) (G F:PH) (s:Sl) (vs:Ξ):Prop where
 le:G.le F
 own:bO F e 1 s vs
 oz:∀a,s.qa5=mB a->G a.block=nC
section
variable {e:TypeId} {G F:PH} {s:Sl} {vs:Ξ}
theorem Ov.fresh (h:Ov e G F s vs) {x:Nat} (g:F x=nC) (o:Obj):Ov e G (F.set x o) s vs:=
 ⟨aa h.le (ae o g),h.own.keep λa r=>by
  obtain ⟨A,w⟩:=h.own.som r
  exact aw _ _ (aI g w),h.oz⟩
theorem Ov.len (h:Ov e G F s vs):s.len=vs.length:=by have:=h.own.rd.len;omega
theorem Ov.push {t bytes:Nat} {z:ξ} (P:prog.underlying t=mB (.slice e)) (H:vV prog e=mB (1,bytes)) (Q:bv prog e=mB z) (C:z.cells.size=1) (J:bytes<=64) (h:Ov e G F s vs) {v:ξ} (I:ak v) (V:s.len<=1000000) {K:Sl->Ψ} (k:∀g L,Ov e G L g (vs++[v])->K g L):
  ∀x,F x=nC->wn (F.set x (mX #[v] e)) λF=>
   aH prog (Builtin.append_ #[t,t] t #[(nV s),(nV (tX (mB (pd x 0 nC)) 1 1))]) F λv F=>∃g:Sl,v=(nV g)/\K g F:=by
 intro x O;refine tP ?_;have D:=h.fresh O (mX #[v] e);have q1:=aq F x (mX #[v] e);generalize F.set x (mX #[v] e)=R at*;have U:(s.len+1)*bytes<=1000001*64:=YB (by omega) J;refine iz (F0:=G) (x:=⟨mB ⟨x,0,nC⟩,1,1⟩) (news:=[v]) P H Q C (by decide) D.le D.own D.oz (RdS.new q1 rfl rfl (tI _)) (λw M=>by rw [wa] at M;subst M;exact I) (by simp only;omega) (by simp only;omega) ?_;intro g F2 E A N r keep B;exact ⟨g,rfl,k g F2 ⟨E,A,r⟩⟩
end
def VJ (w:Δ) (f e:Nat):Δ:=(w.drop f).take (e - f)
theorem gX {w:Δ} {f e:Nat} (h:f<=e) (g:e<=w.length):(VJ w f e).length=e - f:=by unfold VJ;rw [PM,WL];omega
theorem qR {w:Δ} {f m e:Nat} (h:f<=m) (g:m<=e):VJ w f m++VJ w m e=VJ w f e:=by unfold VJ;obtain ⟨a,rfl⟩:=Nat.exists_eq_add_of_le h;obtain ⟨b,rfl⟩:=Nat.exists_eq_add_of_le g;rw [show f+a - f=a by omega,show f+a+b - (f+a)=b by omega,show f+a+b - f=a+b by omega,<- XJ,List.take_add]
theorem t7 {w:Δ} {f e:Nat} (h:f<=e) (D:e<=w.length) {u v:Δ} (A:VJ w f e=u++v):∃m,f<=m/\m<=e/\VJ w f m=u/\VJ w m e=v:=by
 have C:=gX h D;rw [A,tT] at C;have g:f<=f+u.length:=by omega
 have r:f+u.length<=e:=by omega
 have B:=qR (w:=w) g r;rw [A] at B;have:=List.append_inj B (by rw [gX g (by omega)];omega);exact ⟨f+u.length,g,r,this.1,this.2⟩
theorem CT {w:Δ} {f e:Nat} (h:f<=e) (g:e<=w.length) (r:VJ w f e=[]):f=e:=by have:=gX h g;rw [r] at this;simp at this;omega
theorem x9 (w:Δ) (f:Nat):VJ w f f=[]:=by simp [VJ]
theorem CU {w:Δ} {f:Nat} (h:f<w.length):VJ w f (f+1)=[w[f]]:=by unfold VJ;rw [show f+1 - f=1 by omega,XG h];rfl
def Bh (P:Δ->Prop) (w fr:Δ) (e:Nat):Prop:=∃f∈fr,f<=e/\e<=w.length/\P (VJ w f e)
theorem Q7 {w fr:Δ} (r:∀f∈fr,f<=w.length) (e:Nat):Bh (Lg .emp) w fr e↔e∈fr:=by
 constructor
 ·rintro ⟨f,C,B,g,A⟩;have:f=e:=CT B g A;subst this;exact C
 ·intro h;exact ⟨e,h,tI _,r e h,x9 _ _⟩
theorem Q8 {x y:Pat} {w fr o:Δ} (A:∀e,e∈o↔Bh (Lg x) w fr e) (e:Nat):Bh (Lg y) w o e↔Bh (Lg (.seq x y)) w fr e:=by
 constructor
 ·rintro ⟨m,H,r,g,F⟩;obtain ⟨f,h,J,K,C⟩:=(A m).1 H;exact ⟨f,h,by omega,g,_,_,(qR J r).symm,C,F⟩
 ·rintro ⟨f,h,r,g,u,v,G,B,E⟩;obtain ⟨m,D,I,rfl,rfl⟩:=t7 r g G;exact ⟨m,(A m).2 ⟨f,h,D,by omega,B⟩,I,g,E⟩
theorem Q9 {x y:Pat} {w fr:Δ} (e:Nat):Bh (Lg (.alt x y)) w fr e↔Bh (Lg x) w fr e\/Bh (Lg y) w fr e:=by
 constructor
 ·rintro ⟨f,A,r,h,g|g⟩
  ·exact .inl ⟨f,A,r,h,g⟩
  ·exact .inr ⟨f,A,r,h,g⟩
 ·rintro (⟨f,A,r,h,g⟩|⟨f,A,r,h,g⟩)
  ·exact ⟨f,A,r,h,.inl g⟩
  ·exact ⟨f,A,r,h,.inr g⟩
theorem jY.append {P:Δ->Prop} {u v:Δ} (r:jY P u) (g:P v):jY P (u++v):=by
 induction r with
 |nil=>have:=jY.cons g .nil;rw [yD] at this;exact this
 |cons h _ ih=>rw [yb];exact .cons h ih
theorem LN {x:Pat} {w fr o:Δ} (g:∀e∈o,Bh (Lg (.rep x)) w fr e) {e:Nat} (h:Bh (Lg x) w o e):Bh (Lg (.rep x)) w fr e:=by obtain ⟨m,E,D,A,C⟩:=h;obtain ⟨f,B,F,G,r⟩:=g m E;refine ⟨f,B,by omega,A,?_⟩;rw [<- qR F D];exact jY.append r C
theorem Ra {x:Pat} {w fr o:Δ} (hi:∀f∈fr,f∈o) (C:∀e∈o,Bh (Lg (.rep x)) w fr e) (E:∀e,Bh (Lg x) w o e->e∈o) (e:Nat):e∈o↔Bh (Lg (.rep x)) w fr e:=by
 refine ⟨C e,?_⟩;rintro ⟨f,g,h,B,F⟩;have key:∀u,jY (Lg x) u->∀f,f∈o->f<=e->VJ w f e=u->e∈o:=by
  intro u r;induction r with
  |nil=>intro f g h A;have:=CT h B A;subst this;exact g
  |cons r _ ih=>intro f g h A;obtain ⟨m,D,H,rfl,G⟩:=t7 h B A;exact ih m (E m ⟨f,g,D,by omega,r⟩) H G
 exact key _ F f (hi f g) h rfl
def zB:Δ->Δ->Δ
 |o,[]=>o
 |o,m::ms=>zB (if m∈o then o else o++[m]) ms
theorem ya (m:Nat):∀(ms o:Δ),zB o (ms++[m])=if m∈zB o ms then zB o ms else zB o ms++[m]
 |[],o=>rfl
 |k::ms,o=>ya m ms _
theorem gY (e:Nat):∀(ms o:Δ),e∈zB o ms↔e∈o\/e∈ms
 |[],o=>by simp [zB]
 |m::ms,o=>by
  rw [zB,gY e ms];split
  ·rename_i h;simp only [tQ];constructor
   ·rintro (g|g)
    ·exact .inl g
    ·exact .inr (.inr g)
   ·rintro (g|rfl|g)
    ·exact .inl g
    ·exact .inl h
    ·exact .inr g
  ·simp only [vl,tQ,Ws,or_false,or_assoc]
theorem nq:∀(ms o:Δ),o.Nodup->(zB o ms).Nodup
 |[],o,h=>h
 |m::ms,o,h=>by
  rw [zB];refine nq ms _ ?_;split
  ·exact h
  ·rename_i r;exact VC.2 ⟨h,by simp,λa w b g e=>r (by simp at g;subst g;subst e;exact w)⟩
theorem vd:∀(ms o:Δ),∃k,zB o ms=o++k
 |[],o=>⟨[],by simp [zB]⟩
 |m::ms,o=>by
  rw [zB];obtain ⟨k,g⟩:=vd ms (if m∈o then o else o++[m]);rw [g];split
  ·exact ⟨k,rfl⟩
  ·exact ⟨[m]++k,by simp⟩
theorem LO (ms o:Δ):(zB o ms).length<=o.length+ms.length:=by
 induction ms generalizing o with
 |nil=>simp [zB]
 |cons m ms ih=>rw [zB];refine Wl (ih _) ?_;split<;>simp<;>omega
theorem Hp {ms o:Δ} (h:(zB o ms).length<=o.length):∀m∈ms,m∈o:=by obtain ⟨k,g⟩:=vd ms o;rw [g,tT] at h;have:k=[]:=X1.1 (by omega);subst this;intro m r;have:=(gY m ms o).2 (.inr r);rw [g] at this;simpa using this
theorem gZ {o:Δ} {n:Nat} (h:o.Nodup) (r:∀e∈o,e<=n):o.length<=n+1:=nodup_bound' (n+1) o h λe g=>by have:=r e g;omega
where nodup_bound':∀(n:Nat) (ns:Δ),ns.Nodup->(∀j∈ns,j<n)->ns.length<=n
 |0,[],_,_=>tI _
 |0,j::ns,_,h=>absurd (h j (by simp)) (by omega)
 |n+1,ns,hn,h=>by
  by_cases hm:n∈ns
  ·have:=nodup_bound' n (ns.erase n) (hn.erase n) λj hj=>by
    have h1:=h j (List.mem_of_mem_erase hj);have h2:j≠n:=λe=>by rw [e] at hj;exact (hn.not_mem_erase hj)
    omega
   rw [List.length_erase_of_mem hm] at this;omega
  ·have:=nodup_bound' n ns hn λj hj=>by have h1:=h j hj;have h2:j≠n:=λe=>hm (e▸hj);omega
   omega
def il (ns:Δ):Ξ:=ns.map λ(n:Nat)=>vi n
theorem Hq (a b:Δ):il (a++b)=il a++il b:=by simp [il]
theorem TQ (a:Δ):∀v∈il a,ak v:=λv g=>by obtain ⟨n,_,rfl⟩:=xR.1 g;exact ⟨λ_ h=>(by cases h),λ_ h=>(by cases h)⟩
section
variable {F:PH}
theorem nr {s:Sl} {ns:Δ} (h:RdS F s 1 (il ns)):s.len=ns.length:=by have:=h.len;simp [il] at this;omega
theorem ve {s:Sl} {ns:Δ} (h:RdS F s 1 (il ns)) {i:Nat} (hi:i<ns.length):∃a,s.qa5=mB a/\F.cell (a.add (pc (i:Int)*1))=mB (vi (ns[i]:Nat)):=by have r:=nr h;obtain ⟨b,o,g,_⟩:=h.cells (by omega);refine ⟨_,g,?_⟩;rw [N4,xZ];have:=h.cell g (i:=i) (by simp [il];exact hi);rw [this];simp [il]
theorem CV {s:Sl} {ns:Δ} (h:RdS F s 1 (il ns)) (K:ns.length<=1000000) (n:Nat):ν 155 #[s.v,vi n] F λr A=>r=oY (decide (n∈ns))/\A=F:=by
 have I:=nr h;refine qd8 ?_;unfold Pq;refine ⟨λm i A=>∃j:Nat,i=j/\j<=ns.length/\m=ns.length - j/\A=F/\n ∉ ns.take j,ns.length,⟨0,rfl,by omega,rfl,rfl,by simp⟩,?_⟩;rintro _ _ A ⟨j,rfl,J,rfl,e,g⟩;obtain rfl:=e.symm;unfold D6;refine ⟨λH=> ?_,λG=> ?_⟩
 ·have w:j<ns.length:=by omega
  obtain ⟨a,D,E⟩:=ve h w;refine ⟨a,D,by omega,by omega,_,E,λC=>⟨?_,rfl⟩,λC=>⟨ns.length - (j+1),by omega,j+1,ff (by omega),by omega,rfl,rfl,?_⟩⟩
  ·have:n=ns[j]:=by omega
   rw [ε (by rw [this];exact Vw w)]
  ·rw [Wj,N5 w];simp only [Option.toList_some,vl,wa];rintro (B|B)
   ·exact g B
   ·exact C (by omega)
 ·unfold D5;obtain rfl:j=ns.length:=by omega
  rw [wV] at g;exact ⟨by rw [η g],rfl⟩
def IlV (F:PH) (v:ξ) (o:Δ):Prop:=∃s:Sl,v=s.v/\RdS F s 1 (il o)
theorem lH {s s2:Sl} {ns ms:Δ} (h:RdS F s 1 (il ns)) (Q:RdS F s2 1 (il ms)) (hn:ns.length<=200000) (hm:ms.length<=200000):ν 190 #[s.v,s2.v] F λr E=>IlV E r (zB ns ms)/\F.le E:=by
 have hl:=nr h;have V:=nr Q;refine qeb ?_;unfold Pv;intro K C;refine tP ?_;have M:=ae (mX #[] 3) C;have q4:=aq F K (mX #[] 3);generalize F.set K (mX #[] 3)=F4 at*;have P:bO F4 3 1 ⟨mB ⟨K,0,nC⟩,0,0⟩ (il []):=.inr ⟨K,#[],rfl,q4,rfl,tI _,rfl,rfl⟩;refine iz (F0:=F) LM LJ LL rfl (by decide) M P (λa J=>by cases J;exact C) (h.le M) (TQ ns) (by simp only;omega) (by simp only;omega) ?_;intro U F5 H B Y g _ _;rw [show il []++il ns=il ns from rfl] at B;refine ⟨U,rfl,λm o i E=>∃j:Nat,i=j/\j<=ms.length/\m=ms.length - j/\Ov 3 F E o (il (zB ns (ms.take j))),ms.length,⟨0,rfl,by omega,rfl,⟨H,by simpa [zB] using B,g⟩⟩,?_⟩;clear g B H M q4 C P;rintro _ o _ F6 ⟨j,rfl,hj,rfl,A⟩;unfold Ec;refine ⟨λa0=> ?_,λZ=> ?_⟩
 ·have D:j<ms.length:=by omega
  have O:(zB ns (ms.take j)).length<=400000:=by have:=LO (ms.take j) ns;rw [PM] at this;omega
  have W:ms[j]? =mB ms[j]:=N5 D;obtain ⟨a,J,R⟩:=ve (Q.le A.le) D;refine ⟨a,J,by omega,by omega,_,R,?_⟩;refine (CV A.own.rd (by omega) _).mono ?_;rintro _ F7 ⟨rfl,e⟩;obtain rfl:=e.symm;have w:zB ns (ms.take (j+1))=if ms[j]∈zB ns (ms.take j) then zB ns (ms.take j) else zB ns (ms.take j)++[ms[j]]:=by rw [Wj,W];exact ya _ _ _
  refine ⟨_,rfl,λN=>⟨a,J,by omega,by omega,_,R,?_⟩,λL=> ?_⟩
  ·have I:ms[j] ∉ zB ns (ms.take j):=by simpa using N
   rw [Υ I] at w;refine A.push (t:=76) LM LJ LL rfl (by decide) ⟨λ_ h=>(by cases h),λ_ h=>(by cases h)⟩ (by rw [A.len];simp [il];omega) λU E X=> ?_;unfold p5;refine ⟨ms.length - (j+1),by omega,j+1,ff (by omega),by omega,rfl,?_⟩;rw [w,Hq];exact X
  ·have G:ms[j]∈zB ns (ms.take j):=by simpa using L
   rw [Χ G] at w;unfold p5;refine ⟨ms.length - (j+1),by omega,j+1,ff (by omega),by omega,rfl,?_⟩;rw [w];exact A
 ·unfold Eb;obtain rfl:j=ms.length:=by omega
  rw [wV] at A;exact ⟨⟨_,rfl,A.own.rd⟩,A.le⟩
end
def fo (w:Δ) (lo hi:Nat) (fr:Δ):Δ:=(fr.filter λf=>decide (f<w.length/\lo<=w.getD f 0/\w.getD f 0<=hi)).map (· +1)
theorem Av (w:Δ) (lo hi:Nat) (fr:Δ) (f:Nat):fo w lo hi (fr++[f])=if f<w.length/\lo<=w.getD f 0/\w.getD f 0<=hi then fo w lo hi fr++[f+1] else fo w lo hi fr:=by
 unfold fo;rw [List.filter_append,yO,List.filter_cons];split
 ·rename_i h;rw [Χ (by simpa using h)];rfl
 ·rename_i h;rw [Υ (by simpa using h)];simp
theorem qh5 {w:Δ} {lo hi:Nat} {fr:Δ} (h:fr.Nodup):(fo w lo hi fr).Nodup:=by unfold fo;refine List.Pairwise.map (R:=(·≠·)) _ (λa b g=>by omega) ?_;exact List.Pairwise.sublist List.filter_sublist h
theorem Ft {w:Δ} {lo hi:Nat} {fr:Δ} (e:Nat):e∈fo w lo hi fr↔Bh (Lg (.rng lo hi)) w fr e:=by
 unfold fo;simp only [xR,Yh,δ];constructor
 ·rintro ⟨f,⟨A,g,r,C⟩,rfl⟩;refine ⟨f,A,by omega,by omega,w.getD f 0,?_,r,C⟩;rw [CU g,Vb,N5 g];rfl
 ·rintro ⟨f,A,g,r,b,h,C,D⟩;have B:=gX g r;rw [h] at B;simp at B;obtain rfl:e=f+1:=by omega
  rw [CU (by omega)] at h;simp at h;refine ⟨f,⟨A,by omega,?_⟩,rfl⟩;rw [Vb,N5 (by omega)];simp only [Option.getD_some];omega
section
variable {F:PH}
def Z8 (F:PH) (v:ξ) (P:Δ->Prop) (w fr:Δ):Prop:=∃o:Δ,IlV F v o/\o.Nodup/\∀e,e∈o↔Bh P w fr e
theorem IlV.le {F G:PH} {v:ξ} {o:Δ} (h:IlV F v o) (g:F.le G):IlV G v o:=by obtain ⟨s,e,h⟩:=h;exact ⟨s,e,h.le g⟩
theorem yc {P:Δ->Prop} {w fr o:Δ} (h:∀e,e∈o↔Bh P w fr e):∀e∈o,e<=w.length:=λe r=>by obtain ⟨f,_,_,g,_⟩:=(h e).1 r;exact g
theorem Aw {s2:Sl} {fr:Δ} {st:ο} {lo hi M C:Nat} {J:PH} {x:Nd} {R:ξ->Ψ} (h2:RdS J s2 1 (il fr)) (a5:fr.length<=100001) (Z:∀f∈fr,f<=st.size) (a7:st.size<=100000) (q9:J M=mB (mX x.arr 225)) (W:x.lo=lo) (X:x.hi=hi) (E:J C=nC)
  (hR:∀v L,J.le L->IlV L v (fo (bs st) lo hi fr)->R v L):
  ∃(Y:Nat->Sl->Ω) (U:Nat),Y U (tX (mB (pd C 0 nC)) 0 0) (0:Int) (J.set C (mX #[] 3))/\∀U g G F,Y U g G F->
   wi (λr w F=>∃N,N<U/\Y N r w F) st s2 M R g G F:=by
 have a4:=nr h2;have b0:=dc st;refine ⟨λm o k L=>∃j:Nat,k=j/\j<=fr.length/\m=fr.length - j/\Ov 3 J L o (il (fo (bs st) lo hi (fr.take j))),fr.length,⟨0,rfl,by omega,rfl,⟨ae _ E,.inr ⟨C,#[],rfl,aq _ _ _,rfl,tI _,rfl,rfl⟩,λa K=>by cases K;exact E⟩⟩,?_⟩;rintro _ o _ F6 ⟨j,rfl,hj,rfl,B⟩;unfold wi;refine ⟨λa9=> ?_,λa6=> ?_⟩
 ·have I:j<fr.length:=by omega
  have a0:(fo (bs st) lo hi (fr.take j)).length<=100001:=by unfold fo;rw [vb];refine Wl (List.length_filter_le _ _) ?_;rw [PM];omega
  have H:fr[j]? =mB fr[j]:=N5 I;obtain ⟨a,K,Q⟩:=ve (h2.le B.le) I;have a8:=Z _ (Vw I);have D:fo (bs st) lo hi (fr.take (j+1))=if fr[j]<(bs st).length/\lo<=(bs st).getD fr[j] 0/\(bs st).getD fr[j] 0<=hi then fo (bs st) lo hi (fr.take j)++[fr[j]+1] else fo (bs st) lo hi (fr.take j):=by rw [Wj,H];exact Av _ _ _ _ _
  generalize fr[j]=f at*;have j5:∀bb:Bool,(bb=nZ↔f<(bs st).length/\lo<=(bs st).getD f 0/\(bs st).getD f 0<=hi)->mj (λr w F=>∃N,N<fr.length - j/\∃j:Nat,w=j/\j<=fr.length/\N=fr.length - j/\Ov 3 J F r (il (fo (bs st) lo hi (fr.take j)))) st s2 M o j bb R F6:=λbb O=>by
   unfold mj;refine ⟨λht=>⟨a,K,by omega,by omega,_,Q,?_⟩,λhf=> ?_⟩
   ·rw [Χ (O.1 ht)] at D;rw [ff (by omega)];refine B.push (t:=76) LM LJ LL rfl (by decide) jg (by rw [B.len];simp [il];omega) λs' L h'=> ?_;unfold pX;refine ⟨fr.length - (j+1),by omega,j+1,ff (by omega),by omega,rfl,?_⟩;rw [D,Hq];exact h'
   ·rw [Υ (λh=>by rw [O.2 h] at hf;cases hf)] at D;unfold pX;refine ⟨fr.length - (j+1),by omega,j+1,ff (by omega),by omega,rfl,?_⟩;rw [D];exact B
  have c1:F6.cell (pd M 1 nC)=mB (vi lo):=by rw [av (B.le _ _ q9),<- W];rfl
  have c2:F6.cell (pd M 2 nC)=mB (vi hi):=by rw [av (B.le _ _ q9),<- X];rfl
  refine ⟨a,K,by omega,by omega,_,Q,λa1=> ?_,λa3=>j5 nS ⟨λh=>(by cases h),λh=>absurd h.1 (by omega)⟩⟩;have P:f<st.size:=by omega
  have A:∀H:pc (f:Int)<st.size,i64.wrap ((st[pc (f:Int)]' H).toNat:Int)=(((bs st).getD f 0:Nat):Int):=λH=>by
   have e:(st[pc (f:Int)]' H).toNat=(bs st).getD f 0:=by rw [<- Jh];unfold cb;simp only [N4] at H;rw [dif_pos H];rfl
   have a2:(bs st).getD f 0<256:=by rw [Vb,N5 (by omega:f<(bs st).length)];exact qc7 st _ (Vw _)
   rw [e,aL (by omega)]
  refine ⟨a,K,by omega,by omega,_,Q,by omega,by omega,by rw [N4];exact P,_,rfl,_,c1,λV=>⟨a,K,by omega,by omega,_,Q,by omega,by omega,by rw [N4];exact P,_,rfl,_,c2,j5 _ ?_⟩,λhgt=>j5 nS ⟨λh=>(by cases h),λh=> ?_⟩⟩
  ·rw [A] at V;rw [A,δ];omega
  ·rw [A] at hgt;omega
 ·unfold Ea;obtain rfl:j=fr.length:=by omega
  rw [wV] at B;exact hR _ _ B.le ⟨_,rfl,B.own.rd⟩
theorem Ax {l:List Nd} {p:Sl} {st:ο} (b0:st.size<=100000) {i:Nat} {t:Lt} {ns:Δ} (h:cL l i t ns):∀{F:PH} {s2:Sl} {fr:Δ},RdS F p 5 (dC l)->RdS F s2 1 (il fr)->fr.Nodup->(∀f∈fr,f<=st.size)->
  ν 156 #[p.v,vi i,pg st,s2.v] F λr F'=>Z8 F' r (Lg t.pat) (bs st) fr/\F.le F':=by
 have X:=dc st;have a0:∀{o:Δ},o.Nodup->(∀e∈o,e<=(bs st).length)->o.length<=100001:=λh1 Q=>by have:=gZ h1 Q;omega
 induction h with
 | @emp i x N hk=>intro F s2 fr J Q D C;have O:=J.nlen;have hi:=(N6.1 N).1;obtain ⟨a,ha,A⟩:=W4 J N;refine yQ ?_;unfold ux;refine ⟨a,ha,by omega,by omega,x.arr,rfl,A,λH K=> ?_⟩;refine tP ?_;refine Vd (aq _ _ _) rfl rfl (gj x) ?_;rw [aS];intro M w;refine tP ?_;have I:F.le (F.set H (mX x.arr 225)):=ae _ K;have L:=aq F H (mX x.arr 225);generalize F.set H (mX x.arr 225)=Y at*;refine ⟨x.k,by rw [av (ae _ w _ _ L)];rfl,λ_=>⟨⟨fr,⟨_,rfl,Q.le (aa I (ae _ w))⟩,D,λe=> ?_⟩,aa I (ae _ w)⟩,λh=>absurd hk h⟩;exact (Q7 (λf U=>by rw [X];exact C f U) e).symm
 | @rng i lo hi x N hk a8 a9 b5 b4=>intro F s2 fr J Q D C;have O:=J.nlen;have a2:=(N6.1 N).1;obtain ⟨a,ha,A⟩:=W4 J N;refine yQ ?_;unfold ux;refine ⟨a,ha,by omega,by omega,x.arr,rfl,A,λH K=> ?_⟩;refine tP ?_;refine Vd (aq _ _ _) rfl rfl (gj x) ?_;rw [aS];intro M w;refine tP ?_;have I:F.le (F.set H (mX x.arr 225)):=ae _ K;have L:=aq F H (mX x.arr 225);generalize F.set H (mX x.arr 225)=Y at*;refine ⟨x.k,by rw [av (ae _ w _ _ L)];rfl,λh=>absurd h (by omega),λ_=>⟨λ_=> ?_,λh=>absurd hk h⟩⟩;refine Aw (Q.le I) (a0 D λf U=>by rw [X];exact C f U) C b0 L a8 a9 w λv F' b1 hv=> ?_;exact ⟨⟨_,hv,qh5 D,λe=>Ft e⟩,aa I b1⟩
 | @seq i a b x t u na nb N hk W a1 ht hu it iu=>
  intro F s2 fr J Q D C;have O:=J.nlen;have a2:=(N6.1 N).1;obtain ⟨ad,V,A⟩:=W4 J N;refine yQ ?_;unfold ux;refine ⟨ad,V,by omega,by omega,x.arr,rfl,A,λH K=> ?_⟩;refine tP ?_;refine Vd (aq _ _ _) rfl rfl (gj x) ?_;rw [aS];intro M w;refine tP ?_;have L:=ae (mX #[] 3) w _ _ (aq F H (mX x.arr 225));have I:=aa (ae (mX x.arr 225) K) (ae (mX #[] 3) w);generalize (F.set H (mX x.arr 225)).set M (mX #[] 3)=Y at*;have c1:∀{G:PH},Y.le G->G.cell (pd H 3 nC)=mB (vi a):=λh=>by rw [av (h _ _ L),<- W];rfl
  have c2:∀{G:PH},Y.le G->G.cell (pd H 4 nC)=mB (vi b):=λh=>by rw [av (h _ _ L),<- a1];rfl
  refine ⟨x.k,by rw [av L];rfl,λh=>absurd h (by omega),λ_=>⟨λh=>absurd h (by omega),λ_=>⟨λ_=> ?_,λh=>absurd hk h⟩⟩⟩;refine ⟨_,c2 (au _),_,c1 (au _),?_⟩;refine (it (J.le I) (Q.le I) D C).mono ?_;rintro _ F2 ⟨⟨o,⟨s3,rfl,h3⟩,ho,E⟩,P⟩;refine ⟨s3,rfl,c2 P,?_⟩;refine (iu (J.le (aa I P)) h3 ho λf U=>by rw [<- X];exact yc E f U).mono ?_;rintro _ F3 ⟨⟨Z,⟨s4,rfl,h4⟩,R,B⟩,l3⟩;refine ⟨s4,rfl,⟨Z,⟨s4,rfl,h4⟩,R,λe=> ?_⟩,aa I (aa P l3)⟩;rw [B e];exact Q8 E e
 | @alt i a b x t u na nb N hk W a1 ht hu it iu=>
  intro F s2 fr J Q D C;have O:=J.nlen;have a2:=(N6.1 N).1;obtain ⟨ad,V,A⟩:=W4 J N;refine yQ ?_;unfold ux;refine ⟨ad,V,by omega,by omega,x.arr,rfl,A,λH K=> ?_⟩;refine tP ?_;refine Vd (aq _ _ _) rfl rfl (gj x) ?_;rw [aS];intro M w;refine tP ?_;have L:=ae (mX #[] 3) w _ _ (aq F H (mX x.arr 225));have I:=aa (ae (mX x.arr 225) K) (ae (mX #[] 3) w);generalize (F.set H (mX x.arr 225)).set M (mX #[] 3)=Y at*;have c1:∀{G:PH},Y.le G->G.cell (pd H 3 nC)=mB (vi a):=λh=>by rw [av (h _ _ L),<- W];rfl
  have c2:∀{G:PH},Y.le G->G.cell (pd H 4 nC)=mB (vi b):=λh=>by rw [av (h _ _ L),<- a1];rfl
  refine ⟨x.k,by rw [av L];rfl,λh=>absurd h (by omega),λ_=>⟨λh=>absurd h (by omega),λ_=>⟨λh=>absurd h (by omega),λ_=>⟨λ_=> ?_,λh=>absurd hk h⟩⟩⟩⟩;refine ⟨_,c1 (au _),_,c2 (au _),?_⟩;refine (it (J.le I) (Q.le I) D C).mono ?_;rintro _ F2 ⟨⟨o,⟨s3,rfl,h3⟩,ho,E⟩,P⟩;refine ⟨s3,rfl,c2 P,?_⟩;refine (iu (J.le (aa I P)) (Q.le (aa I P)) D C).mono ?_;rintro _ F3 ⟨⟨Z,⟨s4,rfl,h4⟩,R,B⟩,l3⟩;refine ⟨s4,rfl,?_⟩;have n1:=a0 ho (yc E);have n2:=a0 R (yc B);refine (lH (h3.le l3) h4 (by omega) (by omega)).mono ?_;rintro _ F4 ⟨⟨s5,rfl,h5⟩,l4⟩;refine ⟨s5,rfl,⟨_,⟨s5,rfl,h5⟩,nq _ _ ho,λe=> ?_⟩,aa I (aa P (aa l3 l4))⟩;rw [gY,E,B];exact (Q9 e).symm
 | @rep i a x t na N hk W ht it=>
  intro F s2 fr J Q D C;have O:=J.nlen;have a2:=(N6.1 N).1;obtain ⟨ad,V,A⟩:=W4 J N;refine yQ ?_;unfold ux;refine ⟨ad,V,by omega,by omega,x.arr,rfl,A,λH K=> ?_⟩;refine tP ?_;refine Vd (aq _ _ _) rfl rfl (gj x) ?_;rw [aS];intro M w;refine tP ?_;have L:=ae (mX #[] 3) w _ _ (aq F H (mX x.arr 225));have I:=aa (ae (mX x.arr 225) K) (ae (mX #[] 3) w);generalize (F.set H (mX x.arr 225)).set M (mX #[] 3)=Y at*;have c1:∀{G:PH},Y.le G->G.cell (pd H 3 nC)=mB (vi a):=λh=>by rw [av (h _ _ L),<- W];rfl
  refine ⟨x.k,by rw [av L];rfl,λh=>absurd h (by omega),λ_=>⟨λh=>absurd h (by omega),λ_=>⟨λh=>absurd h (by omega),λ_=>⟨λh=>absurd h (by omega),λ_=> ?_⟩⟩⟩⟩;unfold D9
  refine ⟨λm os n F'=>∃(o:Δ) (k:Nat),n=(k:Int) - 1/\k<=o.length+1/\m=st.size+3 - k/\Y.le F'/\RdS F' os 1 (il o)/\o.Nodup/\(∀f∈fr,f∈o)/\(∀e∈o,Bh (Lg (.rep t.pat)) (bs st) fr e)/\(k=o.length+1->∀e,Bh (Lg t.pat) (bs st) o e->e∈o),st.size+3,
   ⟨fr,0,by omega,by omega,by omega,au _,Q.le I,D,λ_ h=>h,λe he=>⟨e,he,tI _,by rw [X];exact C e he,by rw [x9];exact .nil⟩,λh=>by omega⟩,?_⟩
  rintro _ os _ F2 ⟨o,k,rfl,b6,rfl,P,h3,ho,a5,E,a6⟩;unfold D8;have b8:=nr h3;have a4:∀e∈o,e<=(bs st).length:=λe he=>by obtain ⟨f,_,_,g,_⟩:=E e he;exact g
  have b3:=gZ ho a4;refine ⟨λc3=> ?_,λb7=> ?_⟩
  ·refine ⟨_,c1 P,?_⟩;refine (it (J.le (aa I P)) h3 ho λf U=>by rw [<- X];exact a4 f U).mono ?_;rintro _ F3 ⟨⟨Z,⟨s4,rfl,h4⟩,R,B⟩,l3⟩;refine ⟨s4,rfl,?_⟩;have n2:=a0 R (yc B);refine (lH (h3.le l3) h4 (by omega) (by omega)).mono ?_;rintro _ F4 ⟨⟨s5,rfl,h5⟩,l4⟩;obtain ⟨kk,a7⟩:=vd Z o;refine ⟨s5,rfl,st.size+3 - (o.length+1),by omega,zB o Z,o.length+1,by omega,by rw [a7,tT];omega,rfl,aa P (aa l3 l4),h5,nq _ _ ho,λf U=>(gY f Z o).2 (.inl (a5 f U)),λe he=> ?_,λb2 e he=> ?_⟩
   ·rcases (gY e Z o).1 he with h|h
    ·exact E e h
    ·exact LN E ((B e).1 h)
   ·have a3:=Hp (o:=o) (ms:=Z) (by omega);refine (gY e Z o).2 (.inr ((B e).2 ?_));obtain ⟨f,U,g⟩:=he;refine ⟨f,?_,g⟩;rcases (gY f Z o).1 U with h|h
    ·exact h
    ·exact a3 f h
  ·unfold D7;exact ⟨⟨o,⟨os,rfl,h3⟩,ho,Ra a5 E (a6 (by omega))⟩,aa I P⟩
theorem Hr {P:Δ->Prop} {w:Δ}:Bh P w [0] w.length↔P w:=by
 constructor
 ·rintro ⟨f,g,_,_,h⟩;simp at g;subst g;simpa [VJ] using h
 ·intro h;exact ⟨0,by simp,by omega,tI _,by simpa [VJ] using h⟩
theorem qg1 {s:Sl} {l:List Nd} (G:RdS F s 5 (dC l)) (st:ο) (H:st.size<=100000):ν 121 #[s.v,pg st] F λr O=>(∃q:Bool,r=oY q/\(q=nZ↔fD l=0/\W6 l (bs st)))/\F.le O:=by
 refine qd6 ?_;unfold Pm;refine (qhf G).mono ?_;rintro _ F2 ⟨rfl,E⟩;refine ⟨_,rfl,λD=> ?_,λD=>⟨⟨nS,rfl,λh=>(by cases h),λh=>absurd h.1 D⟩,E⟩⟩;obtain ⟨J,X⟩:=uA D;obtain ⟨V,M⟩:=io J;have w:=G.nlen;have R:=Yr.2 J.ne;have N:i64.wrap ((s.len:Int) - 1)=((l.length - 1:Nat):Int):=by rw [w,aL (by omega)];omega
 rw [N];intro g A;refine tP ?_;have C:F2.le (F2.set g (mX #[tJ .i64 0] 3)):=ae _ A;have I:=aq F2 g (mX #[tJ .i64 0] 3);generalize F2.set g (mX #[tJ .i64 0] 3)=W at*;refine (Ax H M (s2:=⟨mB ⟨g,0,nC⟩,1,1⟩) (fr:=[0]) (G.le (aa E C)) (RdS.new I rfl rfl (tI _)) (by simp) (by simp)).mono ?_;rintro _ Y ⟨⟨o,⟨P,rfl,L⟩,K,B⟩,Q⟩;refine ⟨P,rfl,?_⟩;have n2:=gZ K (yc B);rw [dc] at n2;refine (CV L (by omega) st.size).mono ?_;rintro _ U ⟨rfl,e⟩;obtain rfl:=e.symm;refine ⟨_,rfl,⟨_,rfl,?_⟩,aa (aa E C) Q⟩;rw [δ,B,<- dc,Hr];exact ⟨λh=>⟨D,h⟩,λh=>h.2⟩
end
section
theorem St.up {G F r:PH} {As:List (Ψ)} (h:St G F As) (l:F.le r):St G r As:=by obtain ⟨w,g,B⟩:=h.ex;exact ⟨aa h.le l,w,λi A hi=>⟨(g i A hi).1,(g i A hi).2.1,aa (g i A hi).2.2 l⟩,B⟩
section
variable {F:PH} {v:Γ}
theorem pn {t:Tr} (W:DV F v (ph t)) (N:t.ok) (hf:(aV t).length<=4096) {c:Int} (U:0<=c) (P:c<18446744073709551616):ν 132 #[oc v,tJ .u64 c] F λr I=>r=oY (t.ev (wP c))/\F.le I:=by
 obtain ⟨s,rfl,hr⟩:=W;have R:=bz N;have E:RdS F s 3 (aW (brs (aV t))):=hr;have C:=E.blen;rw [aP] at C;refine U5 ?_;unfold Ok;intro Q L;refine tP ?_;have M:=ae (mX #[s.v,vi (ph t).2] 33) L;have q2:=aq F Q (mX #[s.v,vi (ph t).2] 33);generalize F.set Q (mX #[s.v,vi (ph t).2] 33)=F3 at*;refine ⟨(num (aV t) t:Int),by rw [av q2];rfl,?_⟩;refine ⟨λm i I=>∃A,i=(num (aV t) A:Int)/\inn (aV t) A/\m=A.sz/\F3.le I/\A.ev (wP c)=t.ev (wP c),t.sz,⟨t,rfl,bE N,rfl,PH.le_rfl,rfl⟩,?_⟩;rintro m i F4 ⟨A,rfl,g,rfl,G,h⟩;unfold Dv;refine ⟨λa0=> ?_,λY=> ?_⟩
 ·cases A with
  |qa6 x=>have:=cI (aV t) x;omega
  |qa7 w l r=>
   obtain ⟨il,ir⟩:=R.inn_kids g;obtain ⟨O,_⟩:=R.inn_ok g;have X:=cU (S:=aV t) (t:=qa7 w l r) rfl;have Z:=dN g;have K:=oE (n:=num (aV t) (qa7 w l r)) (by omega) X;obtain ⟨p,hp,D,_⟩:=VX (E.le (M.trans G)) (jM (ee (cy g rfl) rfl));refine ⟨s,by rw [av (G _ _ q2)];rfl,p,hp,by rw [K];omega,by rw [K];omega,aX (br (aV t) (qa7 w l r)),rfl,by rw [K];exact D,?_⟩;intro b6 J;refine tP ?_;refine Vd (aq _ _ _) rfl rfl (ij _) ?_;rw [aS];have V:=G.trans (ae (mX (aX (br (aV t) (qa7 w l r))) 201) J);refine ⟨(w:Int),by rw [av (aq _ _ _)];rfl,by rw [ii (by omega) (by omega)];omega,λH=> ?_,λH=> ?_⟩
   ·rw [ii (x:=(w:Int)) (by omega) (by omega)] at H;have B:=(mb U P O).1 H;refine ⟨_,by rw [av (aq _ _ _)];rfl,r.sz,by simp only [sz];omega,r,rfl,ir,rfl,V,?_⟩;rw [<- h];simp [Tr.ev,B]
   ·have B:¬wP c w=nZ:=λhc=>H (by rw [ii (x:=(w:Int)) (by omega) (by omega)];exact (mb U P O).2 hc);refine ⟨_,by rw [av (aq _ _ _)];rfl,l.sz,by simp only [sz];omega,l,rfl,il,rfl,V,?_⟩;rw [<- h];simp [Tr.ev,B]
 ·unfold Du;refine ⟨?_,M.trans G⟩;rw [<- h];cases A with
  |qa6 x=>cases x<;>simp [num,Tr.ev]
  |qa7 w l r=>have:=cU (S:=aV t) (t:=qa7 w l r) rfl;omega
end
abbrev Ps (α:Type):=Δ->Option (α×Δ)
section
variable {F G:PH} {g:Gr} {c:Int}
theorem CW {v:Γ} {d:wc} {n:Nat} (hd:DV F v d) (B:iL d n) (c0:0<=c) (c1:c<18446744073709551616):ν 132 #[oc v,tJ .u64 c] F λr A=>r=oY (i8 d c)/\F.le A:=by obtain ⟨t,h,rfl,_,w,_⟩:=uV B;rw [mh ⟨h,w⟩];exact pn hd h w c0 c1
theorem Fu {v:Γ} (J:GV F v g) (H:OkG g) (c0:0<=c) (c1:c<18446744073709551616):ν 96 #[oc v,tJ .u64 c] F λr I=>r=oY (Vg g c)/\F.le I:=by
 obtain ⟨N,_⟩:=fH H.large;have E:=H.fam.2.2.1;obtain ⟨C,n,t,s,p,l,f,rfl,A⟩:=J;have L:=A.c.len;refine aat ?_;unfold Yg;refine fresh λM P h q2 _=>⟨_,ld q2 rfl,λD=> ?_,λD=> ?_⟩
 ·refine ⟨#[n.v,vi g.fam.2],rfl,fZ q2 rfl,?_⟩;refine (CW (DV.mk (A.n.le h)) E c0 c1).mono ?_;rintro _ F2 ⟨rfl,w⟩;refine ⟨_,rfl,?_,aa h w⟩;unfold Vg;rw [show min g.qa4.length 64=64 by omega,ε,V8];rw [Zd _ (by decide)];exact Int.ediv_eq_zero_of_lt c0 c1
 ·have K:u64.wrap (C.len:Int)=(C.len:Int):=by
   have O:C.len<=64:=by omega
   rw [ii (by omega) (by omega)]
  rw [K,N4,L];refine ⟨by omega,λB=> ?_,λB=> ?_⟩
  ·refine ⟨#[n.v,vi g.fam.2],rfl,fZ q2 rfl,?_⟩;refine (CW (DV.mk (A.n.le h)) E c0 c1).mono ?_;rintro _ F2 ⟨rfl,w⟩;refine ⟨_,rfl,?_,aa h w⟩;unfold Vg;rw [ε (show Int.fdiv c (2 ^ min g.qa4.length 64)=0 from B),V8]
  ·refine ⟨?_,h⟩;unfold Vg;rw [η (show ¬Int.fdiv c (2 ^ min g.qa4.length 64)=0 from B),WN]
end
theorem qh6 (g:Gr) (y:Ru):(ruleG g y).qa0=g.qa0/\(ruleG g y).qa1=g.qa1:=by
 unfold ruleG nW kg tokG
 repeat' split
 all_goals exact ⟨rfl,rfl⟩
theorem lI:∀(l:List Ru) (g:Gr),(dP l g).qa0=g.qa0/\(dP l g).qa1=g.qa1
 |[],g=>⟨rfl,rfl⟩
 |y::l,g=>by have:=lI l (ruleG g y);have h:=qh6 g y;exact ⟨this.1.trans h.1,this.2.trans h.2⟩
theorem Ay (x:Rw) (g:Gr):(famG x g).qa0=g.qa0/\(famG x g).qa1=g.qa1:=by unfold famG;split<;>exact ⟨rfl,rfl⟩
def lJ (p:Pr):Prop:=∃s∈p.right,s.t=nZ
def oZ (p:Pr):Prop:=∀s∈p.right,s.t=nS->p.left<s.i
theorem Ht (p:Pr) (m:Nat):(cz p m).left=p.left/\(cz p m).right=p.right:=by
 unfold cz
 repeat' split
 all_goals exact ⟨rfl,rfl⟩
theorem Az {l:List Sy} (h:dt l≠0):∃s∈l,s.t=nZ:=by have:(l.filter (·.t))≠[]:=λe=>h (by unfold dt;rw [e];rfl);obtain ⟨s,g⟩:=List.exists_mem_of_ne_nil _ this;exact ⟨s,(Yh.1 g).1,(Yh.1 g).2⟩
theorem lK {x:Rw}:∀(l:List Ln) (g:Gr),(du x l g).qa1=g.qa1/\∀p∈(du x l g).qa0,p∈g.qa0\/((∃k,p.name=bi k)/\(lJ p\/(bF x=nS/\oZ p)))
 |[],g=>⟨rfl,λp C=> .inl C⟩
 |y::l,g=>by
  obtain ⟨e,ih⟩:=lK l (lineG g y (bF x));have G:(du x (y::l) g)=du x l (lineG g y (bF x)):=rfl;rw [G];by_cases w:dt (aQ g.qa1.length y)=0/\(bF x=nZ\/cW (y.left % g.qa1.length) (aQ g.qa1.length y)=nS)
  ·have D:lineG g y (bF x)=g:=by unfold lineG;rw [Χ w]
   rw [D] at e ih ⊢;exact ⟨e,ih⟩
  ·have D:lineG g y (bF x)={g with qa0:=g.qa0++[cz (jk g y) y.mark]}:=by unfold lineG;rw [Υ w]
   rw [D] at e ih ⊢;refine ⟨e,λp C=> ?_⟩;rcases ih p C with h|h
   ·rcases vl.1 h with h|h
    ·exact .inl h
    ·refine .inr ?_;rw [wa.1 h];obtain ⟨E,H⟩:=Ht (jk g y) y.mark;refine ⟨⟨g.qa0.length,by rw [sP];rfl⟩,?_⟩;unfold lJ oZ;rw [E,H];by_cases A:dt (aQ g.qa1.length y)=0
     ·refine .inr ⟨?_,λs F B=> ?_⟩
      ·cases hk:bF x with
       |false=>rfl
       |true=>exact absurd ⟨A,.inl hk⟩ w
      ·have r:cW (y.left % g.qa1.length) (aQ g.qa1.length y)=nZ:=by
        cases r:cW (y.left % g.qa1.length) (aQ g.qa1.length y) with
        |true=>rfl
        |false=>exact absurd ⟨A,.inr r⟩ w
       unfold cW at r;rw [Vq] at r;have:=r s F;rw [B,Bool.false_or] at this;exact ζ this
     ·exact .inl (Az A)
   ·exact .inr h
theorem AA (x:Rw):(aT x).qa1=(cX x).qa1/\∀p∈(aT x).qa0,p∈(cX x).qa0\/((∃k,p.name=bi k)/\(lJ p\/(bF x=nS/\oZ p))):=by unfold aT;obtain ⟨h,w⟩:=lI (x.rules.take 6) (du x (x.lines.take (cN x)) (famG x (cX x)));obtain ⟨A,g⟩:=lK (x:=x) (x.lines.take (cN x)) (famG x (cX x));obtain ⟨c1,r⟩:=Ay x (cX x);rw [h,w,A,r];refine ⟨rfl,λp B=> ?_⟩;have:=g p B;rwa [c1] at this
def LP:ο:=⟨#[99,121,99,108,101]⟩
def Fv:ο:=⟨#[110,111,116,104,105,110,103]⟩
def TR (s:ο):Prop:=(s.size≠2\/s.data[0]?≠mB 113)/\s≠LP/\s≠Fv
instance (s:ο):Decidable (TR s):=by unfold TR;infer_instance
theorem Hu {F:PH} {a:Addr} {x:Pr} {r n l:Sl} (h:F.row a (x.arr r n l)):F.row (a.add 3) #[n.v,vi x.cond.2]:=xA h rfl
theorem t8 {F:PH} {a:Addr} {x:Tk} {p n:Sl} (h:F.row a (x.arr p n)):F.row (a.add 5) #[n.v,vi x.cond.2]:=xA h rfl
def ye (g:Gr) (cf:Cf):Dtr->Bool
 | .lf tk _ _=>(eH g tk).ev cf
 | .nd pr _ _ _=>match V5 g pr with
  |some x=>(vf x.cond).ev cf
  |none=>nS
def Fw:Dtr->Bool
 | .lf _ _ _=>nZ
 | .nd _ fr to ks=>dZ fr nZ (ks.map Dtr.root) to
def Yj (g:Gr):Dtr->Bool
 | .lf _ _ _=>nS
 | .nd pr _ _ _=>decide (((V5 g pr).map Pr.left).getD 0=g.start)
def qS (g:Gr) (cf:Cf) (T:Dtr):Bool:=Yj g T && (xP T).all λm=>ye g cf m && Fw m
section
variable {F G:PH} {g:Gr} {k:Nat} {T:Dtr} {c:Int}
theorem qT {v:Γ} {t:Tr} (A:k<=6) (w:Sx k t) (hd:DV F v (ph t)) (c0:0<=c) (c1:c<18446744073709551616):ν 76 #[oc v,tJ .u64 c] F λr h=>r=oY (t.ev (wP c))/\F.le h:=by rw [<- mh (w.small A) c];exact rL hd c0 c1
theorem yf {α:Type} {p:α->Bool} {l:List α} {j:Nat} {x:α} (h:l[j]? =mB x):(l.take (j+1)).all p=((l.take j).all p && p x):=by rw [Wj,h,List.all_append];simp
theorem Hv {α:Type} {p:α->Bool} {l:List α} {j:Nat} {x:α} (r:l[j]? =mB x) (h:p x=nS):l.all p=nS:=by rw [List.all_eq_false];exact ⟨x,wh r,by rw [h];decide⟩
theorem AB {v:Γ} {t:Sl} (hg:GV F v g) (hk:OkK g k) (hf:dY g T) (hN:szN T<=2000000) (ht:RL F t (vq T)) (c0:0<=c) (c1:c<18446744073709551616):
  ν 46 #[oc v,tJ .u64 c,t.v] F λr D=>(∃s:Sl,r=nV s/\s.qa5.isNone= !qS g (wP c) T)/\F.le D:=by
 have e6:=gr T;have e3:=hg;obtain ⟨cs,n,tk,s,p,l,f,rfl,hs⟩:=hg;have et:t.len=szN T:=ht.len;have e9:=hs.t.len;have ep:=hs.p.len;refine qf4 ?_;unfold Xs;refine fresh λb3 F1 l1 q3 _=>⟨_,rfl,ai q3,?_⟩;refine (km (e3.le l1) hf hN (ht.le l1)).mono ?_;rintro r F2 ⟨⟨es,rfl,a4⟩,l2⟩;have A:=aa l1 l2;refine ⟨es,rfl,?_⟩;have e7:es.len=szN T:=by have:=a4.len;rw [this,vb,jT]
 have M:es.qa5.isNone=nS:=by obtain ⟨b,o,h1,_⟩:=i6 a4 (pG (dT T));rw [h1];rfl
 refine ⟨λE=>(by rw [M] at E;cases E),λ_=> ?_⟩;have no:∀D,F2.le D->qS g (wP c) T=nS->(∃s:Sl,nV pk=nV s/\s.qa5.isNone= !qS g (wP c) T)/\F.le D:=λD lF h=>⟨⟨pk,rfl,by rw [h];rfl⟩,aa A lF⟩;have h0:(vq T)[0]? =mB T.root:=by rw [lw];rfl
 refine u9 (ht.le A) (by decide) (Vr _) (by omega) λa cc x hx V hc=> ?_;rw [show (pc 0)=0 from rfl] at hx V;obtain rfl:=yV (h0.symm.trans hx);obtain rfl:cc=T.root.arr:=hc;refine ⟨_,aF V rfl,λU=>no _ (au _) ?_,λJ=> ?_⟩
 ·cases B:T with
  |lf=>rfl
  |nd pr fr to ks=>rw [B] at U hf;obtain ⟨_,_,x,hx,_⟩:=hf.here;exact absurd (bG hx).1 (Int.not_le.2 U)
 obtain ⟨pr,fr,to,ks,B⟩:∃pr fr to ks,T=.nd pr fr to ks:=by
  cases T with
  |lf=>exact absurd (by show (-1:Int)<0;decide) J
  |nd pr fr to ks=>exact ⟨pr,fr,to,ks,rfl⟩
 have b2:=hf.here;rw [B] at b2;obtain ⟨_,_,x,Y,_⟩:=b2;obtain ⟨x0,x1,x2⟩:=bG Y;have d3:T.root.pr=pr:=by rw [B];rfl
 have a8:=l2 _ _ q3;have c8:=hs.le A;refine ⟨p,ld a8 rfl,?_⟩;refine u9 (ht.le A) (by decide) (Vr _) (by omega) λa' d2 x' b0 K e4=> ?_;rw [show (pc 0)=0 from rfl] at b0 K;obtain rfl:=yV (h0.symm.trans b0);obtain rfl:d2=T.root.arr:=e4;refine ⟨pr,by rw [<- d3];exact aF K rfl,?_⟩;refine u9 c8.p (by decide) x0 (by omega) λa2 c2 y I a0 d1=> ?_;obtain rfl:y=x:=yV (I.symm.trans x2);obtain ⟨r2,n2,l3,rfl,_⟩:=d1;refine ⟨_,aN a0 (i:=1) rfl,_,ld a8 rfl,λe5=>no _ (au _) ?_,λc3=> ?_⟩
 ·unfold qS Yj;rw [B];dsimp only;rw [Y,VF,Option.getD_some,decide_eq_false e5,WN]
 have c4:Yj g T=nZ:=by unfold Yj;rw [B];dsimp only;rw [Y,VF,Option.getD_some];exact decide_eq_true (Decidable.not_not.1 c3)
 refine bC (Cm · c t b3 es _) (szN T) (λj D=>F2.le D/\((xP T).take j).all (λm=>ye g (wP c) m && Fw m)=nZ) ⟨au _,rfl⟩ ?_;rintro j F3 Nx hj ⟨l3,H⟩ next;have Z:=aa A l3;unfold Cm;refine ⟨λQ=> ?_,λe8=> ?_⟩
 ·have Q:j<szN T:=by omega
  obtain ⟨m,hm⟩:=gR Q;have c7:=gQ hm;have P:=hf m (eD hm);have b5:(xP T)[j]? =mB m:=hm;have N:(ye g (wP c) m && Fw m)=nS->qS g (wP c) T=nS:=λh=>by unfold qS;rw [Hv b5 h,Bool.and_false]
  have go:(ye g (wP c) m && Fw m)=nZ->∀(R:VR) D,F3.le D->xa Nx c t b3 es (j:Int) R D:=λh R D lF=>by unfold xa;rw [aD Q];exact next D Q ⟨aa l3 lF,by rw [yf b5,H,h];rfl⟩
  refine u9 (ht.le Z) (by decide) (by omega) (by omega) λa5 c5 x5 b6 X b8=> ?_;rw [N4,c7] at b6;obtain rfl:=yV b6;obtain rfl:c5=m.root.arr:=b8;refine ⟨_,rfl,X,?_⟩;refine (St.start F3).var (by simp [ak]) (λb9 G4 F4 l4 q9 h=> ?_);have a1:=h.le _ _ q9;have C:=aa l4 h.le;have d4:=aa Z C;have a9:=aa l3 C _ _ a8;have b1:=hs.le d4;refine ⟨_,ld a1 rfl,?_⟩;cases hmm:m with
  |lf L d0 e0=>
   rw [hmm] at P;obtain ⟨f1,f2,_⟩:=P;have I:∃y,g.qa2[L.toNat]? =mB y:=⟨_,N5 (by omega)⟩;obtain ⟨y,I⟩:=I;have ed:eH g L=vf y.cond:=by unfold eH;rw [I]
   obtain ⟨sx,sd⟩:=hk.tok (wh I);refine ⟨λ_=>⟨tk,ld a9 rfl,L,ld a1 (by rw [hmm];rfl),?_⟩,λE=>absurd (by show (-1:Int)<0;decide) E⟩;refine u9 b1.t (by decide) f1 (by omega) λa6 c6 W a7 w a3=> ?_;obtain rfl:W=y:=yV (a7.symm.trans I);obtain ⟨pp,nn,rfl,_,J⟩:=a3;refine ⟨#[nn.v,vi W.cond.2],rfl,t8 w,?_⟩;refine (qT hk.le sx (by rw [<- sd];exact DV.mk J) c0 c1).mono ?_;rintro r F5 ⟨rfl,l5⟩;refine ⟨_,rfl,λE=> ?_,λI=> ?_⟩
   ·refine no F5 (aa l3 (aa C l5)) (N ?_);rw [hmm];show ((eH g L).ev (wP c) && nZ)=nS;rw [ed];simpa using E
   ·refine go ?_ _ F5 (aa C l5);rw [hmm];show ((eH g L).ev (wP c) && nZ)=nZ;rw [ed];simpa using I
  |nd c9 d0 e0 f3=>
   rw [hmm] at P;obtain ⟨_,_,y,b4,_⟩:=P;obtain ⟨y0,y1,y2⟩:=bG b4;obtain ⟨sx,sd,_⟩:=hk.prod (wh y2);refine ⟨λE=>absurd y0 (Int.not_le.2 E),λ_=>⟨p,ld a9 rfl,c9,ld a1 (by rw [hmm];rfl),?_⟩⟩;refine u9 b1.p (by decide) y0 (by omega) λa6 c6 W a7 w a3=> ?_;obtain rfl:W=y:=yV (a7.symm.trans y2);obtain ⟨rr,nn,ll,rfl,_,J,_⟩:=a3;refine ⟨#[nn.v,vi W.cond.2],rfl,Hu w,?_⟩;refine (qT hk.le sx (by rw [<- sd];exact DV.mk J) c0 c1).mono ?_;rintro r F5 ⟨rfl,l5⟩;have e1:ye g (wP c) m=(vf W.cond).ev (wP c):=by rw [hmm];unfold ye;dsimp only;rw [b4]
   have O:=aa l3 (aa C l5);refine ⟨_,rfl,λE=> ?_,λI=> ?_⟩
   ·refine no F5 O (N ?_);rw [e1];rw [show (vf W.cond).ev (wP c)=nS by simpa using E,WN]
   ·refine (qg4 hm hN (a4.le O) (ht.le (aa A O))).mono ?_;rintro r F6 ⟨rfl,rfl⟩;have e2:Fw m=dZ m.root.fr nZ (m.kids.map Dtr.root) m.root.to:=by rw [hmm];rfl
    refine ⟨_,rfl,λE=> ?_,λb7=> ?_⟩
    ·refine no _ O (N ?_);rw [e2,show dZ m.root.fr nZ (m.kids.map Dtr.root) m.root.to=nS by simpa using E,Bool.and_false]
    ·refine go ?_ _ _ (aa C l5);rw [e1,e2,show (vf W.cond).ev (wP c)=nZ by simpa using I,show dZ m.root.fr nZ (m.kids.map Dtr.root) m.root.to=nZ by simpa using b7];rfl
 ·unfold KE;obtain rfl:j=szN T:=by omega
  rw [yY (by rw [dI];exact tI _)] at H;refine ⟨⟨es,rfl,?_⟩,Z⟩;unfold qS;rw [M,c4,H];rfl
end
section
variable {F G:PH} {g:Gr} {k:Nat} {T m:Dtr} {c:Int}
def Xy (g:Gr) (c:Int) (T:Dtr):Int:=if Wu g c=nZ then (if qS g (wP c) T=nZ then 0 else 90) else 1
theorem qh7 {v:Γ} (D:Tab F) (A:GV F v g) (H:GdG g k) (c0:0<=c) (c1:c<18446744073709551616):ν 45 #[oc v,tJ .u64 c] F λr I=>r=vi (if Wu g c=nZ then 0 else 1)/\F.le I:=by
 refine qf3 ?_;unfold Xr;refine fresh λL M B q2 _=>⟨v,A.size,ai q2,?_⟩;refine (t6 (D.le B) (A.le B) H).mono ?_;rintro r F2 ⟨rfl,E⟩;have h:=aa B E;refine ⟨_,rfl,λC=>absurd rfl C,λ_=>⟨v,A.size,ai (E _ _ q2),?_⟩⟩;refine (KL (D.le h) (A.le h) H.sz c0 c1).mono ?_;rintro r N ⟨rfl,J⟩;have w:=aa h J;refine ⟨_,rfl,λC=>⟨?_,w⟩,λK=>⟨?_,w⟩⟩
 ·rw [Υ (by simpa using C)]
 ·rw [Χ (by simpa using K)]
theorem AD {v:Γ} {t:Sl} (K:Tab F) (C:GV F v g) (I:GdG g k) (N:dY g T) (L:szN T<=2000000) (M:RL F t (vq T)) (c0:0<=c) (c1:c<18446744073709551616):
  ν 22 #[oc v,tJ .u64 c,t.v] F λr J=>r=vi (Xy g c T)/\F.le J:=by
 refine qf0 ?_;unfold Xp;refine fresh λP Q D q3 _=>⟨v,C.size,ai q3,?_⟩;refine (qh7 (K.le D) (C.le D) I c0 c1).mono ?_;rintro r F2 ⟨rfl,E⟩;have h:=aa D E;unfold Xy;refine ⟨_,rfl,λw=>⟨?_,h⟩,λB=>⟨v,C.size,ai (E _ _ q3),?_⟩⟩
 ·by_cases e:Wu g c=nZ
  ·rw [Χ e] at w;exact absurd rfl w
  ·rw [Υ e,Υ e]
 ·have e:Wu g c=nZ:=by
   by_cases e:Wu g c=nZ
   ·exact e
   ·rw [Υ e] at B;exact absurd B (by decide)
  refine (AB (C.le h) I.ok N L (M.le h) c0 c1).mono ?_;rintro r R ⟨⟨s,rfl,H⟩,O⟩;have A:=aa h O;rw [Χ e];refine ⟨s,rfl,λw=>⟨?_,A⟩,λB=>⟨?_,A⟩⟩
  ·rw [H] at w;rw [Υ (by simpa using w)]
  ·rw [H] at B;rw [Χ (by simpa using B)]
theorem NW:∃b z,SlT 43 47 4 b z:=⟨_,_,underlying43,qgp,qgv,rfl,by decide,by decide⟩
theorem Hw {s:Sl} {l:List Nod} (B:RL F s l) (A:l.length<=1000000000):ν 51 #[s.v] F λr h=>(∃w,r=nV w/\RL h w l)/\F.le h:=by obtain ⟨_,_,T⟩:=NW;exact qgb (KJ T B A)
theorem qhw {v:Γ} {t:Sl} {i:Nat} (hT:Tab F) (K:GV F v g) (hG:GdG g k) (hf:dY g T) (Z:szN T<=2000000) (L:RL F t (vq T)) (J:bP T i=mB m):
  ν 26 #[oc v,t.v,vi (i:Int)] F λr U=>(∃s,r=sj #[nV s,vi 0]/\RL U s (vq m))/\F.le U:=by
 have a2:=eC J;have X:=sub_le J;have et:t.len=szN T:=L.len;refine qf1 ?_;unfold Xq;refine fresh λb3 F1 P q3 _=>⟨v,K.size,ai q3,?_⟩;refine (t6 (hT.le P) (K.le P) hG).mono ?_;rintro r F2 ⟨rfl,Q⟩;have C:=aa P Q;refine ⟨_,rfl,λw=>absurd rfl w,λ_=>⟨v,K.size,ai (Q _ _ q3),?_⟩⟩;refine (km (K.le C) hf Z (L.le C)).mono ?_;rintro r F3 ⟨⟨N,rfl,A⟩,l3⟩;have D:=aa C l3;have B:N.qa5.isNone=nS:=by obtain ⟨b,o,H,_⟩:=i6 A (pG (dT T));rw [H];rfl
 have a1:N.len=szN T:=by rw [A.len,vb,jT]
 refine ⟨N,rfl,λw=>(by rw [B] at w;cases w),λ_=>⟨λw=>absurd w (by omega),λ_=>⟨λw=>absurd w (by omega),λ_=> ?_⟩⟩⟩;refine u9 A (by decide) (by omega) (by omega) λa cc x I h hc=> ?_;rw [N4] at I h ⊢;unfold Vp at I;rw [yr,EP J,yp] at I;obtain rfl:=yV I;obtain rfl:cc= #[vi ((i+szN m:Nat):Int)]:=hc;have W:=(L.le D).cap;refine ⟨_,aF h rfl,by omega,by omega,by show i<=i+szN m;omega,by show i+szN m<=t.cap;omega,?_⟩;have E:RL F3 (xy t 4 i (i+szN m) t.cap) (vq m):=by
  obtain ⟨vs,H,h2⟩:=L.le D;obtain ⟨a0,b0,Y,O⟩:=Tb J;have R:=h2.cut (l:=i) (r:=i+szN m) (m:=t.cap) (by omega) (by omega) (by omega);refine ⟨(vs.drop i).take (szN m),?_,?_⟩
  ·have:=(H.drop i).take (szN m);rw [Y,yb,List.drop_left' O,List.take_left' (show (vq m).length=szN m from rfl)] at this;exact this
  ·rw [YO] at R;rw [<- (H.drop i).cat_take (szN m),<- H.cat_drop i];exact R
 refine (Hw E (by show szN m<=_;omega)).mono ?_;rintro r F4 ⟨⟨V,rfl,M⟩,l4⟩;exact ⟨V,rfl,⟨V,rfl,M⟩,aa D l4⟩
end
variable {R:VR} {F:PH}
set_option maxHeartbeats 4000000
def TS (n:Γ) (o:Int) (c:ο) (f:Sl) (p:Int) (R:VR) (F:PH):Prop:=Nb F (mX n 39) λr F=>Nb F (mX #[(vi p)] 3) λq F=>Lr F 9 (Am r 0) λg=>ν 31 #[oc g,tJ .u64 o,pg c,nV f] F λv F=>∃e,∃a,v=(sj #[pj e,(vi a)])/\Nb F (mX (#[pj nC]) 98) λd F=>rj F (Am d 0) (pj e) λF=>Bc (a≠0) (R (sj #[nV pk,(vi a)]) F) (Li F (Am q 0) λh=>Bc (h<0) (R (sj #[nV pk,(vi 1)]) F) (Li F (Am q 0) λi=>Bc ((f.len:Int)<=i) (R (sj #[nV pk,(vi 1)]) F) (Nb F (mX (#[tU nC 0 0]) 48) λj F=>Lq F (Am d 0) λk=>∃b,k=mB b/\rj F (od b 14) (.func (.func 32) #[] #[(Pp q),(Pp j),(Pp d)]) λF=>Lq F (Am d 0) λl=>Cu 33 #[pj l] F λF=>Ls F (Am j 0) λm=>R (sj #[nV m,(vi 0)]) F)))
theorem qfl {b:Γ} {c:Int} {a:ο} {d:Sl} {e:Int} (h:TS b c a d e R F):ν 11 #[oc b,tJ .u64 c,pg a,nV d,(vi e)] F R:=Rx.Λ .N h
def TT (n:Γ) (o:Int) (c:ο) (f:Sl) (p:Int) (R:VR) (F:PH):Prop:=Nb F (mX n 39) λr F=>Nb F (mX #[(vi p)] 3) λq F=>Lr F 9 (Am r 0) λg=>ν 31 #[oc g,tJ .u64 o,pg c,nV f] F λv F=>∃e,∃a,v=(sj #[pj e,(vi a)])/\Nb F (mX (#[pj nC]) 98) λd F=>rj F (Am d 0) (pj e) λF=>Bc (a≠0) (R (sj #[nV pk,(vi a)]) F) (Li F (Am q 0) λh=>Bc (h<0) (R (sj #[nV pk,(vi 1)]) F) (Li F (Am q 0) λi=>Bc ((f.len:Int)<=i) (R (sj #[nV pk,(vi 1)]) F) (Nb F (mX (#[tU nC 0 0]) 48) λj F=>Lq F (Am d 0) λk=>∃b,k=mB b/\rj F (od b 13) (.func (.func 36) #[] #[(Pp q),(Pp j),(Pp d)]) λF=>Lq F (Am d 0) λl=>Cu 33 #[pj l] F λF=>Ls F (Am j 0) λm=>R (sj #[nV m,(vi 0)]) F)))
theorem qfm {b:Γ} {c:Int} {a:ο} {d:Sl} {e:Int} (h:TT b c a d e R F):ν 13 #[oc b,tJ .u64 c,pg a,nV d,(vi e)] F R:=Rx.Λ .N h
def TU (k:Γ) (l:Int) (c:ο) (m:Sl) (R:VR) (F:PH):Prop:=Nb F (mX k 39) λn F=>Lr F 9 (Am n 0) λf=>ν 31 #[oc f,tJ .u64 l,pg c,nV m] F λv F=>∃e,∃a,v=(sj #[pj e,(vi a)])/\Nb F (mX (#[pj nC]) 98) λd F=>rj F (Am d 0) (pj e) λF=>Bc (a≠0) (R (sj #[nV pk,(vi a)]) F) (Nb F (mX (#[tU nC 0 0]) 52) λg F=>Lq F (Am d 0) λh=>∃b,h=mB b/\rj F (od b 13) (.func (.func 38) #[] #[(Pp d),(Pp g)]) λF=>Lq F (Am d 0) λi=>Cu 33 #[pj i] F λF=>Ls F (Am g 0) λj=>R (sj #[nV j,(vi 0)]) F)
theorem qfn {b:Γ} {c:Int} {a:ο} {d:Sl} (h:TU b c a d R F):ν 15 #[oc b,tJ .u64 c,pg a,nV d] F R:=Rx.Λ .N h
def TX (e:Γ) (f:Int) (b:ο) (g:Sl) (R:VR) (F:PH):Prop:=Nb F (mX e 39) λh F=>Lr F 9 (Am h 0) λd=>ν 15 #[oc d,tJ .u64 f,pg b,nV g] F λv F=>∃c,∃a,v=(sj #[nV c,(vi a)])/\Bc (a=0) (R (oY (decide ((c.len:Int)=0))) F) (R (oY nS) F)
theorem qfo {b:Γ} {c:Int} {a:ο} {d:Sl} (h:TX b c a d R F):ν 19 #[oc b,tJ .u64 c,pg a,nV d] F R:=Rx.Λ .N h
def Hx (a:ο) (d:Sl) (f:Nat) (R:VR) (F:PH):Prop:=Lr F 9 (Am f 0) λb=>aH prog (Instr.makeSlice 76 (vi (d.len:Int)) (vi (d.len:Int))) F λv F=>∃c,v=(nV c)/\F.row (Am f 0) b/\b.size=9/\(tL (tL (tL (wr (#[tU nC 0 0,.slice nC 0 0,vi 0,.slice nC 0 0,.slice nC 0 0,.slice nC 0 0,vi 0,.slice nC 0 0,.slice nC 0 0,.string ⟨#[]⟩,tU nC 0 0,.slice nC 0 0]:Γ) 0 b.toList) 9 (pg a)) 10 (nV d)) 11 (nV c)).size=12/\Nb F (mX (wr (#[tU nC 0 0,.slice nC 0 0,vi 0,.slice nC 0 0,.slice nC 0 0,.slice nC 0 0,vi 0,.slice nC 0 0,.slice nC 0 0,.string ⟨#[]⟩,tU nC 0 0,.slice nC 0 0,.slice nC 0 0,.nilFunc,.nilFunc]:Γ) 0 (tL (tL (tL (wr (#[tU nC 0 0,.slice nC 0 0,vi 0,.slice nC 0 0,.slice nC 0 0,.slice nC 0 0,vi 0,.slice nC 0 0,.slice nC 0 0,.string ⟨#[]⟩,tU nC 0 0,.slice nC 0 0]:Γ) 0 b.toList) 9 (pg a)) 10 (nV d)) 11 (nV c)).toList) 108) λe F=>Ci 66 #[(Pp e),(vi 0)] F λ_ F=>R (sj #[(Pp e),(vi 0)]) F
def vh (c:Ω) (_:ο) (_:Sl) (_:Nat) (a:Int) (_:VR) (F:PH):Prop:=c (i64.wrap (a+1)) F
def AG (j:Ω) (a:ο) (c:Sl) (i:Nat) (R:VR) (b:Int) (F:PH):Prop:=Bc (b<(c.len:Int)) (Ix c b λe=>Lr F 4 (od e (pc b*4)) λf=>Nb F (mX (#[vi 0,vi 0,vi 0,vi 0]) 47) λd F=>aB F (Am d 0) 4 f λF=>Li F (Am d 0) λg=>Bc (g<0) (Li F (Am d 3) λh=>Bc ((a.size:Int)<h) (R (sj #[pj nC,(vi 90)]) F) (vh j a c i b R F)) (vh j a c i b R F)) (Hx a c i R F)
def TY (f:Γ) (g:Int) (a:ο) (c:Sl) (R:VR) (F:PH):Prop:=Nb F (mX f 39) λh F=>Lr F 9 (Am h 0) λd=>Ci 22 #[oc d,tJ .u64 g,nV c] F λb F=>Bc (b≠0) (R (sj #[pj nC,(vi b)]) F) (Lp 0 F λN e F=>AG N a c h R e F)
theorem qfp {b:Γ} {c:Int} {a:ο} {d:Sl} (h:TY b c a d R F):ν 31 #[oc b,tJ .u64 c,pg a,nV d] F R:=Rx.Λ (.qa8 (.qa8 (.J nS [] (.qa8 (.L [(23,.int .i64)] (.qa8 (.qa8 (.J nS [] .N .N))))) .N))) h
def TZ (j a:Int) (k l m:Θ) (R:VR) (F:PH):Prop:=∃f,k=mB f/\Li F f λn=>Bc (j=n) (∃d,l=mB d/\Ls F d λh=>∃e,m=mB e/\Lq F e λg=>∃c,g=mB c/\Ls F (od c 12) λb=>0<=a/\(pc a)<=b.len/\b.len<=b.cap/\Ap 48 #[nV h,nV (xy b 2 (pc a) b.len b.cap)] F λi F=>F.cell (od c 12)=mB (nV b)/\F.cell e=mB (pj g)/\rj F d (nV i) λF=>R (sj #[]) F) (R (sj #[]) F)
theorem qfq {b:Int} {a:Int} {c:Θ} {d:Θ} {e:Θ} (h:TZ b a c d e R F):ν 32 #[(vi b),(vi a),pj c,pj d,pj e] F R:=Rx.Λ .N h
def T0 (d:Θ) (R:VR) (F:PH):Prop:=Nb F (mX #[pj d] 98) λg F=>Nb F (mX (#[.nilFunc]) 149) λe F=>rj F (Am e 0) (.func (.func 67) #[] #[(Pp g),(Pp e)]) λF=>∃a:ξ,F.cell (Am e 0)=mB a/\Fn a λh b c=>aj prog h (b++([(vi 0)]).toArray++c) F λv F=>∃f,v=(vi f)/\R (sj #[]) F
theorem qfr {a:Θ} (h:T0 a R F):ν 33 #[pj a] F R:=Rx.Λ .N h
def T1 (h:Int) (i j k:Θ) (R:VR) (F:PH):Prop:=∃c,i=mB c/\Li F c λl=>Bc (h=l) (∃a,j=mB a/\Ls F a λm=>∃b,k=mB b/\Lq F b λe=>∃d,e=mB d/\Ls F (od d 12) λf=>Ap 48 #[nV m,nV f] F λg F=>F.cell b=mB (pj e)/\rj F a (nV g) λF=>R (sj #[]) F) (R (sj #[]) F)
theorem qfs {a:Int} {b:Θ} {c:Θ} {d:Θ} (h:T1 a b c d R F):ν 36 #[(vi a),pj b,pj c,pj d] F R:=Rx.Λ .N h
def T2 (l:Int) (t u:Θ) (R:VR) (F:PH):Prop:=∃a,t=mB a/\Lq F a λv=>∃m,v=mB m/\Ca 39 #[pj (mB m),(vi l)] F λw F=>Nb F (mX (#[oY nS,vi 0,vi 0,vi 0,vi 0]) 60) λk F=>aB F (Am k 0) 5 w λF=>Li F (Am k 3) λo=>Bc (o=0) (R (sj #[]) F) (Li F (Am k 4) λb=>Lq F a λc=>∃g,c=mB g/\Lq F a λd=>∃h,d=mB h/\Lq F a λe=>∃i,e=mB i/\Li F (Am k 3) λf=>Ci 42 #[pj (mB i),(vi l),(vi (i64.wrap (f - 1)))] F λp F=>F.cell (Am k 3)=mB (vi f)/\F.cell a=mB (pj e)/\F.cell a=mB (pj d)/\F.cell a=mB (pj c)/\F.cell (Am k 4)=mB (vi b)/\Cx 41 #[pj (mB h),(vi p)] F λq F=>F.cell (Am k 3)=mB (vi f)/\F.cell a=mB (pj e)/\F.cell a=mB (pj d)/\F.cell a=mB (pj c)/\F.cell (Am k 4)=mB (vi b)/\Ci 40 #[pj (mB (od g 12)),pg q] F λn F=>F.cell (Am k 3)=mB (vi f)/\F.cell a=mB (pj e)/\F.cell a=mB (pj d)/\F.cell a=mB (pj c)/\F.cell (Am k 4)=mB (vi b)/\0<=n/\Bc ((i64.wrap ((BitVec.ofInt (i64).bits (Int.fdiv b (2 ^ (min (pc n) (i64).bits))) &&& BitVec.ofInt (i64).bits 1).toNat))=0) (∃j,u=mB j/\Ls F j λr=>(#[(vi 6),(vi l),vi 0]:Γ).size=3/\Nb F (mX (#[(vi 6),(vi l),vi 0]:Γ) 66) λx F=>Ap 52 #[nV r,nV (Sb x 1)] F λs F=>rj F j (nV s) λF=>R (sj #[]) F) (R (sj #[]) F))
theorem qft {a:Int} {b:Θ} {c:Θ} (h:T2 a b c R F):ν 38 #[(vi a),pj b,pj c] F R:=Rx.Λ .N h
def T3 (l:Θ) (b:Int) (R:VR) (F:PH):Prop:=Nb F (mX (#[oY nS,vi 0,vi 0,vi 0,vi 0]) 60) λk F=>∃a,l=mB a/\Ls F (od a 10) λm=>Ix m b λd=>Li F (od d (pc b*4)) λe=>Bc (e<0) (aB F (Am k 0) 5 (#[oY nS,vi 0,vi 0,vi 0,vi 0]:Γ) λF=>Rr 5 (Am k 0) R F) (Ls F (od a 5) λf=>Ls F (od a 10) λg=>Ix g b λh=>Li F (od h (pc b*4)) λc=>Ix f c λi=>Lr F 5 (od (od i (pc c*13)) 8) λj=>aB F (Am k 0) 5 j λF=>Rr 5 (Am k 0) R F)
theorem qfu {a:Θ} {b:Int} (h:T3 a b R F):ν 39 #[pj a,(vi b)] F R:=Rx.Λ .N h
def Hy (R:VR) (F:PH):Prop:=R (vi 0) F
def Hz (j:Ω) (c:Addr) (b:ο) (R:VR) (a:Int) (F:PH):Prop:=Bc (0<=a) (Ls F c λd=>Ix d a λe=>Lx F (od e (pc a*2)) λf=>Bb ((f.toList==b.toList)) (Ls F c λg=>Ix g a λh=>Li F (od (od h (pc a*2)) 1) λi=>R (vi i) F) (j (i64.wrap (a - 1)) F)) (Hy R F)
def T4 (c:Θ) (b:ο) (R:VR) (F:PH):Prop:=∃a,c=mB a/\Ls F a λd=>Lp (i64.wrap ((d.len:Int) - 1)) F λN e F=>Hz N a b R e F
theorem qfv {b:Θ} {a:ο} (h:T4 b a R F):ν 40 #[pj b,pg a] F R:=Rx.Λ (.qa8 (.J nS [] (.qa8 (.L [(5,.int .i64)] .N)) .N)) h
def T5 (j:Θ) (d:Int) (R:VR) (F:PH):Prop:=∃a,j=mB a/\Lx F (od a 9) λe=>Ls F (od a 10) λf=>Ix f d λg=>Li F (od (od g (pc d*4)) 2) λc=>Ls F (od a 10) λh=>Ix h d λi=>Li F (od (od i (pc d*4)) 3) λb=>0<=c/\0<=b/\(pc c)<=(pc b)/\(pc b)<=e.size/\R (pg (e.extract (pc c) (pc b))) F
theorem qfw {a:Θ} {b:Int} (h:T5 a b R F):ν 41 #[pj a,(vi b)] F R:=Rx.Λ .N h
def HB (a:Int) (R:VR) (F:PH):Prop:=R (vi a) F
def AH (i:Int->Ω) (g:Θ) (h:Int) (R:VR) (a b:Int) (F:PH):Prop:=Bc (b<h) (∃c,g=mB c/\Ls F (od c 11) λd=>Ix d a λe=>Li F (od e (pc a*1)) λf=>i f (i64.wrap (b+1)) F) (HB a R F)
def T6 (d:Θ) (e f:Int) (R:VR) (F:PH):Prop:=(∃(g:Nat->Int->Ω) (c:Nat),g c (i64.wrap (e+1)) 0 F/\∀c a b F,g c a b F-> AH (Wf g c) d f R a b F)
theorem qfx {a:Θ} {b:Int} {c:Int} (h:T6 a b c R F):ν 42 #[pj a,(vi b),(vi c)] F R:=Rx.Λ (.qa8 (.qa8 (.J nS [(7,.int .i64)] (.qa8 (.L [(7,.int .i64),(11,.int .i64)] .N)) .N))) h
def vj (f:Θ) (c a:Int) (R:VR) (F:PH):Prop:=∃b,f=mB b/\Ls F (od b 11) λd=>Ix d c λe=>rj F (od e (pc c*1)) (vi a) λF=>R (vi a) F
def AI (g:Int->Ω) (b:Addr) (f:Int) (d:Sl) (R:VR) (a c:Int) (F:PH):Prop:=Bc (c<(d.len:Int)) (Ci 66 #[pj (mB b),(vi a)] F λe F=>g e (i64.wrap (c+1)) F) (vj (mB b) f a R F)
def Rb (l:Θ) (c:Int) (R:VR) (F:PH):Prop:=∃a,l=mB a/\Ls F (od a 10) λf=>Ix f c λg=>Li F (od g (pc c*4)) λd=>Bc (0<=d) (Ls F (od a 5) λh=>Ix h d λi=>Ls F (od (od i (pc d*13)) 2) λj=>(∃(m:Nat->Int->Ω) (k:Nat),m k (i64.wrap (c+1)) 0 F/\∀k b e F,m k b e F-> AI (Wf m k) a c j R b e F)) (vj (mB a) c (i64.wrap (c+1)) R F)
theorem T7 {a:Θ} {b:Int} (h:Rb a b R F):ν 66 #[pj a,(vi b)] F R:=Rx.Λ (.qa8 (.qa8 (.J nS [(0,.ptr),(5,.int .i64)] (.qa8 (.qa8 (.T (.qa8 (.L [(5,.int .i64),(29,.int .i64)] .N)) .N))) .N))) h
def nu (n:Int) (i:Addr) (k:Sl) (a:Int) (R:VR) (F:PH):Prop:=Lq F i λl=>∃c,l=mB c/\∃d:ξ,F.cell (od c 14)=mB d/\∃e,wH d e/\Bb ((!e)) (Lq F i λj=>∃b,j=mB b/\∃f:ξ,F.cell (od b 14)=mB f/\Fn f λm g h=>aj prog m (g++([(vi n),(vi (k.len:Int))]).toArray++h) F λv F=>v=(sj #[])/\R (vi a) F) (R (vi a) F)
def qU (m:Int) (a:Addr) (l:Sl) (b:Int) (k:Nat) (R:VR) (F:PH):Prop:=Li F (Am k 1) λn=>Bc (0<n) (Lq F a λc=>∃h,c=mB h/\Lq F a λd=>∃i,d=mB i/\Lq F a λe=>∃j,e=mB j/\Li F (Am k 1) λf=>Li F (Am k 2) λg=>Ci 42 #[pj (mB j),(vi m),(vi (i64.wrap (f - 1)))] F λo F=>F.cell (Am k 2)=mB (vi g)/\F.cell (Am k 1)=mB (vi f)/\F.cell a=mB (pj e)/\F.cell a=mB (pj d)/\F.cell a=mB (pj c)/\Cx 41 #[pj (mB i),(vi o)] F λp F=>F.cell (Am k 2)=mB (vi g)/\F.cell (Am k 1)=mB (vi f)/\F.cell a=mB (pj e)/\F.cell a=mB (pj d)/\F.cell a=mB (pj c)/\Cu 68 #[pj (mB (od h 12)),oc (#[pg p,(vi g)]:Γ)] F λF=>F.cell (Am k 2)=mB (vi g)/\F.cell (Am k 1)=mB (vi f)/\F.cell a=mB (pj e)/\F.cell a=mB (pj d)/\F.cell a=mB (pj c)/\nu m a l b R F) (nu m a l b R F)
def HD (g:Int) (c:Addr) (a:Sl) (k:Nat) (b:Int) (R:VR) (F:PH):Prop:=Lb F (Am k 0) λh=>Bb (h) (Lq F c λi=>Lq F c λj=>∃d,j=mB d/\Ls F (od d 12) λf=>0<=(a.len:Int)/\0<=(a.len:Int)/\0<=pc (a.len:Int)/\(a.len:Int)<=(a.len:Int)/\(a.len:Int)<=(f.cap:Int)/\∃e,i=mB e/\rj F (od e 12) (nV (xy f 2 0 (pc (a.len:Int)) (pc (a.len:Int)))) λF=>qU g c a b k R F) (qU g c a b k R F)
def AJ (n:Int->Ω) (k:Int) (h:Addr) (l:Θ) (i:Sl) (o:Nat) (j:Sl) (R:VR) (a b:Int) (F:PH):Prop:=Bc (b<(j.len:Int)) (∃c,l=mB c/\∃d:ξ,F.cell c=mB d/\Fn d λm f g=>aj prog m (f++([(vi a)]).toArray++g) F λv F=>∃e,v=(vi e)/\n e (i64.wrap (b+1)) F) (HD k h i o a R F)
def qV (c:Int) (b:Addr) (t:Θ) (h:Sl) (R:VR) (F:PH):Prop:=Lq F b λj=>∃d,j=mB d/\Ls F (od d 10) λk=>Ix k c λl=>Li F (od l (pc c*4)) λe=>Bc (0<=e) (Lq F b λm=>∃f,m=mB f/\Ca 39 #[pj (mB f),(vi c)] F λn F=>Nb F (mX (#[oY nS,vi 0,vi 0,vi 0,vi 0]) 60) λv F=>aB F (Am v 0) 5 n λF=>Lq F b λo=>∃g,o=mB g/\Ls F (od g 5) λp=>Ix p e λq=>Ls F (od (od q (pc e*13)) 2) λr=>(∃(u:Nat->Int->Ω) (s:Nat),u s (i64.wrap (c+1)) 0 F/\∀s a i F,u s a i F-> AJ (Wf u s) c b t h v r R a i F)) (nu c b h (i64.wrap (c+1)) R F)
def T8 (i:Int) (o l:Θ) (R:VR) (F:PH):Prop:=∃a,o=mB a/\Lq F a λp=>∃d,p=mB d/\Ls F (od d 12) λe=>Lq F a λm=>∃b,m=mB b/\∃f:ξ,F.cell (od b 13)=mB f/\∃g,wH f g/\Bb ((!g)) (Lq F a λn=>∃c,n=mB c/\∃h:ξ,F.cell (od c 13)=mB h/\Fn h λq j k=>aj prog q (j++([(vi i)]).toArray++k) F λv F=>v=(sj #[])/\qV i a l e R F) (qV i a l e R F)
theorem qfy {a:Int} {b:Θ} {c:Θ} (h:T8 a b c R F):ν 67 #[(vi a),pj b,pj c] F R:=Rx.Λ (.qa8 (.qa8 (.J nS [] .N (.qa8 (.J nS [(6,.int .i64)] (.qa8 (.qa8 (.T (.qa8 (.J nS [(6,.int .i64)] (.qa8 (.L [(6,.int .i64),(55,.int .i64)] .N)) (.J nS [] .N .N))) .N))) .N))))) h
def T9 (d:Θ) (e:Γ) (R:VR) (F:PH):Prop:=Nb F (mX e 80) λh F=>∃a,d=mB a/\Ls F a λf=>Lr F 2 (Am h 0) λb=>b.size=2/\Nb F (mX b 80) λg F=>Ap 48 #[nV f,nV (Sb g 1)] F λc F=>rj F a (nV c) λF=>R (sj #[]) F
theorem qfz {a:Θ} {b:Γ} (h:T9 a b R F):ν 68 #[pj a,oc b] F R:=Rx.Λ .N h
theorem ju:∀l:List Dtr,l.length<=xT l
 |[]=>yM _
 |n::l=>by have:=ju l;have:=gr n;rw [di,wo];omega
structure Wc where
 g:Gr
 cs:Sl
 n:Sl
 tk:Sl
 s:Sl
 p:Sl
 l:Sl
 f:Sl
 tx:ο
 t:Sl
 es:Sl
 en:ξ
 lv:ξ
abbrev Wc.arr (w:Wc) (az:Sl):Γ:= #[w.cs.v,w.n.v,vi w.g.fam.2,w.tk.v,w.s.v,w.p.v,vi w.g.start,w.l.v,w.f.v,pg w.tx,w.t.v,w.es.v,az.v,w.en,w.lv]
def cg (g:Gr):Dtr->Sco
 | .lf _ _ _=>ki
 | .nd pr _ _ _=>((V5 g pr).map Pr.sco).getD ki
def vH (g:Gr) (pr:Int):Spc:=let x:=((V5 g pr).map Pr.sco).getD ki;⟨x.o,x.d.toNat,x.k,x.u.toNat,x.a.toNat⟩
def vZ (tx:ο) (a b:Int):ο:=tx.extract a.toNat b.toNat
structure ScT (g:Gr) (tx:ByteArray) (T:Dtr):Prop where
 lf:∀m∈xP T,Bi m->m.root.to<=tx.size
 nd:∀m∈xP T,0<=(cg g m).d/\0<=(cg g m).u/\0<=(cg g m).a/\(cg g m).a<=255/\0<=(cg g m).k/\(cg g m).k<=7/\(0<(cg g m).d->∃c,m.kids[(cg g m).d.toNat - 1]? =mB c/\Bi c)/\(0<(cg g m).u->∃c,m.kids[(cg g m).u.toNat - 1]? =mB c/\Bi c)
section
variable {F G:PH} {w:Wc} {az:Sl} {T m:Dtr} {bw i:Nat} {As:List (Ψ)}
theorem yh (J:F bw=mB (mX (w.arr az) 108)) (E:RL F w.es (Vp T)) (P:szN T<=2000000) (C:bP T i=mB m) {q:Nat} (V:q<=m.kids.length):
  ν 42 #[Pp bw,vi (i:Int),vi (q:Int)] F λr D=>r=vi ((cQ i m.kids q:Nat):Int)/\D=F:=by
 have M:=eC C;have B:=sub_le C;rw [cY] at B;have K:w.es.len=szN T:=by rw [E.len,vb,jT]
 refine qfx ?_;unfold T6;have L:=ju m.kids;rw [aD (n:=3000000) (by omega) (by omega)];refine ib (λN x v F=>AH N (mB (Am bw 0)) (q:Int) _ x v F) q (λj x D=>x=((cQ i m.kids j:Nat):Int)/\D=F) _ ⟨by unfold cQ;rw [Va,dH],rfl⟩ ?_;rintro j x Q Nx O ⟨rfl,rfl⟩ next;unfold AH;refine ⟨λg=> ?_,λg=> ?_⟩
 ·have g:j<q:=by omega
  have U:=pI (i:=i) (show j<m.kids.length by omega);refine ⟨_,rfl,_,ld J rfl,?_⟩;refine u9 E (by decide) (by omega) (by omega) λa H y A h I=> ?_;rw [N4] at A h ⊢;unfold Vp at A;rw [yr,C8 C (N5 (show j<m.kids.length by omega))] at A;obtain rfl:=yV A;obtain rfl:H=_:=I;refine ⟨_,aF h rfl,?_⟩;rw [aD g];exact next _ _ g ⟨rfl,rfl⟩
 ·obtain rfl:j=q:=by omega
  unfold HB;exact ⟨rfl,rfl⟩
theorem ga (h:RL F w.t (vq T)) (r:bP T i=mB m) {K:Addr->Prop} (k:∀a,F.row (a.add (i*4)) m.root.arr->K a):∃a,w.t.qa5=mB a/\0<=(i:Int)/\(i:Int)<(w.t.len:Int)/\K a:=by have D:=eC r;have E:w.t.len=szN T:=h.len;refine u9 h (by decide) (by omega) (by omega) λa C y A g B=> ?_;rw [N4] at A g;obtain rfl:=yV ((gQ r).symm.trans A);obtain rfl:C=m.root.arr:=B;exact k a g
theorem qW (Z:F bw=mB (mX (w.arr az) 108)) (N:RL F w.t (vq T)) (O:RL F w.p w.g.qa0) (hf:dY w.g T) (I:bP T i=mB m):
  ν 39 #[Pp bw,vi (i:Int)] F λr X=>r=oc (cg w.g m).arr/\F.le X:=by
 have H:=hf m (eD I);refine qfu ?_;unfold T3;refine (St.start F).new λb4 V h=> ?_;have B:=h.le _ _ Z;refine ⟨_,rfl,_,ld B rfl,?_⟩;refine ga (N.le h.le) I λa D=> ?_;rw [N4];refine ⟨_,aF D rfl,?_⟩;cases m with
 |lf tk Q to=>refine ⟨λ_=> ?_,λK=>absurd (by show (-1:Int)<0;decide) K⟩;refine h.put0 (w':=ki.arr) rfl rfl (by simp [ak]) λF2 h=>⟨_,rfl,ai (h.ptAt (i:=0) rfl),rfl,h.le⟩
 |nd M Q to ks=>obtain ⟨_,_,x,L,_⟩:=H;obtain ⟨P,x1,U⟩:=bG L;have ep:=O.len;refine ⟨λK=>absurd P (Int.not_le.2 K),λ_=>⟨_,ld B rfl,_,ld B rfl,?_⟩⟩;refine ga (N.le h.le) I λa2 C=> ?_;refine ⟨M,aF C rfl,?_⟩;refine u9 (O.le h.le) (by decide) P (by omega) λY c3 y W A J=> ?_;obtain rfl:y=x:=yV (W.symm.trans U);obtain ⟨r2,n2,l2,rfl,_⟩:=J;have E:V.row ((Y.add (M.toNat*Mem.n Pr)).add 8) y.sco.arr:=xA A rfl;refine ⟨_,rfl,E,?_⟩;refine h.put0 (w':=y.sco.arr) rfl rfl (by simp [ak]) λF2 h=>⟨_,rfl,ai (h.ptAt (i:=0) rfl),?_,h.le⟩;unfold cg;dsimp only;rw [L];rfl
theorem qX (A:F bw=mB (mX (w.arr az) 108)) (B:RL F w.t (vq T)) (C:bP T i=mB m) (E:0<=m.root.fr) (H:m.root.fr<=m.root.to) (J:m.root.to<=w.tx.size):
  ν 41 #[Pp bw,vi (i:Int)] F λr D=>r=pg (vZ w.tx m.root.fr m.root.to)/\D=F:=by
 refine qfw ?_;unfold T5;refine ⟨_,rfl,_,ld A rfl,_,ld A rfl,?_⟩;refine ga B C λa h=> ?_;rw [N4];refine ⟨_,aN h (i:=2) rfl,_,ld A rfl,?_⟩;refine ga B C λI g=> ?_;exact ⟨_,aN g (i:=3) rfl,E,by omega,by omega,by omega,rfl,rfl⟩
end
theorem NX:∃b z,SlT 48 80 2 b z:=⟨_,_,underlying48,qgs,qfX,rfl,by decide,by decide⟩
theorem vk (a b:ο):(a.toList==b.toList)=decide (a=b):=by
 rw [wR,beq_iff_eq,δ]
 exact ⟨λh=>by
  have r:=jb a;have g:=jb b;rw [r,g] at h;cases a;cases b;simp at h
  rw [h],λh=>by rw [h]⟩
section
variable {F G:PH} {w:Wc} {az:Sl} {T m:Dtr} {bw i:Nat} {l:List tW}
theorem AK {s:ο} {l:List tW} {j:Nat} {x:tW} (A:l[j]? =mB x) (h:YL s (l.drop (j+1))):(x.1=s->eG s l=x.2)/\(x.1≠s->YL s (l.drop j)):=by
 have r:=(N6.1 A).1;have hd:l.drop j=x::l.drop (j+1):=by rw [XG r,(N6.1 A).2]
 refine ⟨λe=> ?_,λe y g=> ?_⟩
 ·have:=Gx (l:=l.take j) h e;rwa [<- hd,WY] at this
 ·rw [hd] at g;rcases tQ.1 g with rfl|g
  ·exact e
  ·exact h y g
theorem Fx {s:ο} (E:F.cell (Am bw 12)=mB az.v) (I:RL F az l) (X:l.length<=4000000):ν 40 #[pj (mB (Am bw 12)),pg s] F λr C=>r=vi (eG s l)/\C=F:=by
 have W:=I.len;refine qfv ?_;unfold T4;refine ⟨_,rfl,az,E,?_⟩;dsimp only;rw [aL (by omega)];refine ⟨λn j C=>C=F/\-1<=j/\j<(l.length:Int)/\n=(j+1).toNat/\YL s (l.drop (j+1).toNat),_,⟨rfl,by omega,by omega,rfl,?_⟩,?_⟩
 ·rw [Yq (by omega)];exact λx A=>by cases A
 rintro n j C ⟨rfl,V,U,rfl,B⟩;unfold Hz;refine ⟨λJ=>⟨az,E,?_⟩,λJ=> ?_⟩
 ·refine u9 I (by decide) J (by omega) λa L x A h O=> ?_;obtain rfl:L=mR x:=O;rw [show (j+1).toNat=j.toNat+1 by omega] at B;obtain ⟨K,P⟩:=AK A B;refine ⟨x.1,aF h rfl,?_⟩;dsimp only;rw [vk];refine ⟨λH=>⟨az,E,?_⟩,λH=> ?_⟩
  ·refine u9 I (by decide) J (by omega) λQ N y M g D=> ?_;obtain rfl:=yV (A.symm.trans M);obtain rfl:N=mR x:=D;exact ⟨x.2,aN g (i:=1) rfl,by rw [K (ζ H)],rfl⟩
  ·rw [aL (by omega)];refine ⟨_,?_,rfl,by omega,by omega,rfl,?_⟩
   ·omega
   ·rw [show (j - 1+1).toNat=j.toNat by omega];exact P (ι H)
 ·unfold Hy;rw [show (j+1).toNat=0 by omega,Vz] at B;exact ⟨by rw [Kz B],rfl⟩
theorem qhx {As:List (Ψ)} {x:tW} (h:St G F (pt bw (mX (w.arr az) 108)::gS az 80 2 (bB l)::As)) (L:az.len<=400000000):
  ν 68 #[pj (mB (Am bw 12)),oc (mR x)] F λr B=>r=sj #[]/\∃(A:PH) (g:Sl),G.le A/\St A B (pt bw (mX (w.arr g) 108)::gS g 80 2 (bB (l++[x]))::As)/\g.len=az.len+1:=by
 obtain ⟨_,_,D⟩:=NX;refine qfz ?_;unfold T9;refine h.newG λK J N I q3 _ h=> ?_;refine ⟨_,rfl,az,ld (h.ptAt (i:=0) rfl) rfl,_,rfl,ai (h.le _ _ q3),rfl,?_⟩;refine h.spushAt D (c:=mR x) 1 rfl rfl (by simp [ak]) (by omega) λg H F2 E h C=> ?_;refine h.set0 (w':=w.arr g) (vp rfl) rfl λM h=>⟨rfl,H,g,aa I E,?_,C⟩;rw [kF];rw [show bB [x]=(mR x).toList by simp [bB]];exact h
def MsP (T:Dtr) (E E':Φ) (a b:Nat):Prop:=E'.length=E.length/\∀q,(a<=q/\q<b->E'[q]? =(Vp T)[q]?)/\(¬(a<=q/\q<b)->E'[q]? =E[q]?)
theorem MsP.refl (T:Dtr) (E:Φ) (a:Nat):MsP T E E a a:=⟨rfl,λq=>⟨λh=>by omega,λ_=>rfl⟩⟩
theorem MsP.trans {T:Dtr} {E r A:Φ} {a b c:Nat} (h:MsP T E r a b) (k:MsP T r A b c) (B:a<=b) (C:b<=c):MsP T E A a c:=by
 refine ⟨k.1.trans h.1,λq=>⟨λg=> ?_,λg=> ?_⟩⟩
 ·by_cases e:b<=q
  ·exact (k.2 q).1 ⟨e,g.2⟩
  ·rw [(k.2 q).2 (by omega)];exact (h.2 q).1 ⟨g.1,by omega⟩
 ·rw [(k.2 q).2 (by omega),(h.2 q).2 (by omega)]
theorem MsP.put {T:Dtr} {E g:Φ} {i b:Nat} {v:Int} (h:MsP T E g (i+1) b) (A:(Vp T)[i]? =mB v) (hi:i<E.length) (C:i+1<=b):MsP T E (g.set i v) i b:=by
 refine ⟨by rw [YA];exact h.1,λq=> ?_⟩;by_cases e:q=i
 ·subst e;rw [X3 (by rw [h.1];exact hi)];exact ⟨λ_=>A.symm,λB=>absurd ⟨tI _,by omega⟩ B⟩
 ·rw [Zj (Ne.symm e)];exact ⟨λr=>(h.2 q).1 ⟨by omega,r.2⟩,λr=>(h.2 q).2 (by omega)⟩
theorem qhy (hN:szN T<=2000000) (ht:RL G w.t (vq T)) (hp:RL G w.p w.g.qa0) (hf:dY w.g T):∀(m:Dtr) (i:Nat) (E:Φ) (F:PH),bP T i=mB m->E.length=szN T->St G F [pt bw (mX (w.arr az) 108),own w.es 3 1 (E.map vi)]->
  ν 66 #[Pp bw,vi (i:Int)] F λr U=>r=vi ((i+szN m:Nat):Int)/\∃M:Φ,MsP T E M i (i+szN m)/\St G U [pt bw (mX (w.arr az) 108),own w.es 3 1 (M.map vi)]:=by
 have fin:∀(m:Dtr) (i:Nat) (E C:Φ) (W:PH),bP T i=mB m->E.length=szN T->MsP T E C (i+1) (i+szN m)->St G W [pt bw (mX (w.arr az) 108),own w.es 3 1 (C.map vi)]->
   vj (mB (Am bw 0)) (i:Int) ((i+szN m:Nat):Int) (λr U=>r=vi ((i+szN m:Nat):Int)/\∃M:Φ,MsP T E M i (i+szN m)/\St G U [pt bw (mX (w.arr az) 108),own w.es 3 1 (M.map vi)]) W:=λm i E C W B K H h=>by
  have J:=eC B;have a4:=gr m;unfold vj;have O:RdS W w.es 1 (C.map vi):=(h.ownAt (i:=1) rfl).1.rd;have a0:=O.len;rw [vb,H.1,K,xZ] at a0;obtain ⟨b,o,hb,_⟩:=O.cells (by omega);refine ⟨_,rfl,_,ld (h.ptAt (i:=0) rfl) rfl,_,hb,by omega,by omega,?_⟩;rw [N4,xZ];refine h.ownPut 1 rfl hb (by rw [vb,H.1,K];exact J) λF2 h=>⟨rfl,C.set i ((i+szN m:Nat):Int),H.put ?_ (by omega) (by omega),?_⟩
  ·unfold Vp;rw [yr,EP B,yp];rfl
  ·rw [List.map_set];exact h
 refine Dtr.ind (λtk L to i E F B K h=> ?_) λV L to ks ih i E F B K h=> ?_
 ·have J:=eC B;have e1:szN (.lf tk L to)=1:=by rw [cY];show 1+xT []=1;rw [dH]
  refine T7 ?_;unfold Rb;refine ⟨_,rfl,_,ld (h.ptAt (i:=0) rfl) rfl,?_⟩;refine ga (ht.le h.le) B λa D=> ?_;rw [N4];refine ⟨_,aF D rfl,λhn=>absurd hn (by show ¬(0:Int)<=-1;decide),λ_=> ?_⟩;rw [aD (n:=3000000) (by omega) (by omega)];have:=fin _ i E E F B K (by rw [e1];exact MsP.refl T E _) h;rw [e1] at this ⊢;exact this
 ·have J:=eC B;have a5:=sub_le B;have a6:szN (.nd V L to ks)=1+xT ks:=cY _;have X:=hf _ (eD B);obtain ⟨_,_,x,hx,hr⟩:=X;obtain ⟨x0,x1,x2⟩:=bG hx;have ep:=hp.len;have a1:=ju ks;refine T7 ?_;unfold Rb;refine ⟨_,rfl,_,ld (h.ptAt (i:=0) rfl) rfl,?_⟩;refine ga (ht.le h.le) B λa D=> ?_;rw [N4];refine ⟨V,aF D rfl,λ_=>⟨_,ld (h.ptAt (i:=0) rfl) rfl,?_⟩,λhn=>absurd x0 hn⟩;refine u9 (hp.le h.le) (by decide) x0 (by omega) λa3 c3 y hy I Y=> ?_;obtain rfl:y=x:=yV (hy.symm.trans x2);obtain ⟨rr,nn,ll,rfl,Z,_⟩:=Y;have a2:=Z.len;rw [hr,vb] at a2;refine ⟨rr,aN I (i:=2) rfl,?_⟩;rw [aD (n:=3000000) (by omega) (by omega)];refine ib (λN x v F=>AI N (Am bw 0) (i:Int) rr _ x v F) ks.length (λj x U=>x=((cQ i ks j:Nat):Int)/\∃C:Φ,MsP T E C (i+1) (cQ i ks j)/\St G U [pt bw (mX (w.arr az) 108),own w.es 3 1 (C.map vi)]) _ ⟨by unfold cQ;rw [Va,dH],E,by unfold cQ;rw [Va,dH];exact MsP.refl T E _,h⟩ ?_;rintro j x F3 Nx hj ⟨rfl,C,H,h3⟩ next;unfold AI;refine ⟨λA=> ?_,λA=> ?_⟩
  ·have A:j<ks.length:=by omega
   have hk:=N5 A;have Q:=jS (m:=.nd V L to ks) B hk;have hs:=gP (i:=i) hk;have a1:=pH (i:=i) (ks:=ks) j;refine (ih ks[j] (Vw A) (cQ i ks j) C F3 Q (H.1.trans K) h3).mono ?_;rintro r F4 ⟨rfl,E2,P,h4⟩;rw [<- hs] at P ⊢;refine ⟨_,rfl,?_⟩;rw [aD A];refine next _ _ A ⟨rfl,E2,H.trans P ?_ (by omega),h4⟩;unfold cQ;omega
  ·obtain rfl:j=ks.length:=by omega
   rw [jx,show i+1+xT ks=i+szN (.nd V L to ks) by omega] at H ⊢;exact fin _ i E C F3 B K H h3
end
section
variable {β:Type} {sp:Int->Spc} {tx:Int->Int->ο} {E:Nat->List tW->List β} {Lh:Nat->Nat->List tW->List β}
theorem kL:∀(l m:List Dtr) (i:Nat) (az:List tW),Vj sp tx E Lh i az (l++m)=Vj sp tx E Lh i az l++Vj sp tx E Lh (i+xT l) (az++Vf sp tx l) m
 |[],m,i,az=>by rw [zr,Vj,dH,Vf,yD,zr,Nat.add_zero]
 |n::l,m,i,az=>by rw [zH,Vj,Vj,kL l m,di,Vf,yb,yb,V7]
theorem vn:∀(l:List Dtr),(∀k∈l,(yL sp tx k).length<=szN k)->(Vf sp tx l).length<=xT l
 |[],_=>by unfold Vf;exact yM _
 |n::l,h=>by have w:=h n (by simp);have r:=vn l λk g=>h k (by simp [g]);rw [Vf,tT,di];omega
theorem vo:∀n:Dtr,(yL sp tx n).length<=szN n:=Dtr.ind (λ_ _ _=>by unfold yL;exact yM _) λh r to g ih=>by
 have A:=vn (sp:=sp) (tx:=tx) g ih;have w:(tY sp tx h g).length<=1:=by unfold tY;split<;>simp
 rw [yL,tT,cY];show _<=1+xT g;split
 ·simp only [WZ];omega
 ·omega
theorem LQ (l:List Dtr):(Vf sp tx l).length<=xT l:=vn l λk _=>vo k
end
section
variable {β σ:Type}
def K7 (k:Int):Prop:=0<=k/\k<=7
abbrev WB (bw:Nat) (w:Wc) (az:Sl) (l:List tW) (Os:List (Ψ)):List (Ψ):=pt bw (mX (w.arr az) 108)::gS az 80 2 (bB l)::Os
def HkE (G0:PH) (bw:Nat) (w:Wc) (T:Dtr) (O:σ->List (Ψ)) (out:σ->List β) (E:Nat->List tW->List β):Prop:=
 (w.en=.nilFunc/\∀i l,E i l=[])\/∃k fst cap,w.en=.func (.func k) fst cap/\aG prog k=nZ/\∀(i:Nat) (az:Sl) (l:List tW) (G F:PH) (x:σ),i<szN T->l.length<=i->W5 K7 l->(out x).length+(E i l).length<=5000000->G0.le G->St G F (WB bw w az l (O x))->
  aj prog k (fst++ #[vi (i:Int)]++cap) F λr F'=>r=sj #[]/\∃G' x',G.le G'/\St G' F' (WB bw w az l (O x'))/\out x'=out x++E i l
def HkL (G0:PH) (bw:Nat) (w:Wc) (T:Dtr) (O:σ->List (Ψ)) (out:σ->List β) (Lh:Nat->Nat->List tW->List β):Prop:=
 (w.lv=.nilFunc/\∀i b l,Lh i b l=[])\/∃k fst cap,w.lv=.func (.func k) fst cap/\aG prog k=nZ/\∀(i b:Nat) (az:Sl) (l:List tW) (G F:PH) (x:σ),i<szN T->b<=l.length->l.length<=szN T->(out x).length+(Lh i b l).length<=5000000->G0.le G->St G F (WB bw w az l (O x))->
  aj prog k (fst++ #[vi (i:Int),vi (b:Int)]++cap) F λr F'=>r=sj #[]/\∃G' x',G.le G'/\St G' F' (WB bw w az l (O x'))/\out x'=out x++Lh i b l
variable {F G G0:PH} {w:Wc} {az:Sl} {T:Dtr} {bw b1 b2:Nat} {O:σ->List (Ψ)} {out:σ->List β} {E:Nat->List tW->List β} {Lh:Nat->Nat->List tW->List β}
structure WcG (G0:PH) (bw b1 b2:Nat) (w:Wc) (T:Dtr):Prop where
 q1:G0 b1=mB (mX #[Pp bw] 98)
 q2:G0 b2=mB (mX #[.func (.func 67) #[] #[Pp b1,Pp b2]] 149)
 t:RL G0 w.t (vq T)
 p:RL G0 w.p w.g.qa0
 e:RL G0 w.es (Vp T)
 n:szN T<=2000000
 f:dY w.g T
 s:ScT w.g w.tx T
 k:∀p,0<(vH w.g p).decl->K7 (vH w.g p).kind
theorem HE:aG prog 67=nZ:=by kernel_rfl
theorem fJ {l:List tW} {g:List (Ψ)} (h:St G F (WB bw w az l g)):az.len=l.length:=by have:=(h.sownRd (i:=1) rfl).len;rw [iI] at this;omega
theorem yi:wH .nilFunc nZ:=.inl ⟨rfl,rfl⟩
theorem CX {f:Go.Fn} {x y:Γ}:wH (.func f x y) nS:=.inr ⟨⟨f,x,y,rfl⟩,rfl⟩
theorem CY {R:VR} {i b:Nat} {l:List tW} {x:σ} {g:Sl} {J:Int} (Z:WcG G0 bw b1 b2 w T) (M:HkL G0 bw w T O out Lh) (P:g.len=b) (hi:i<szN T) (V:b<=l.length) (Y:l.length<=szN T) (X:(out x).length+(Lh i b l).length<=5000000) (K:G0.le G) (h:St G F (WB bw w az l (O x)))
  (k:∀D C A,G.le D->St D C (WB bw w az l (O A))->out A=out x++Lh i b l->R (vi J) C):nu (i:Int) (Am b1 0) g J R F:=by
 have q1:F.cell (Am b1 0)=mB (Pp bw):=ld (h.le _ _ (K _ _ Z.q1)) rfl;unfold nu;refine ⟨_,q1,_,rfl,w.lv,ld (h.ptAt (i:=0) rfl) rfl,?_⟩;rcases M with ⟨B,H⟩|⟨W,fst,cap,B,H,N⟩
 ·rw [B];exact ⟨nZ,yi,λI=>(by cases I),λ_=>k G F x (au _) h (by rw [H,yD])⟩
 ·refine ⟨nS,by rw [B];exact CX,λ_=>⟨_,q1,_,rfl,w.lv,ld (h.ptAt (i:=0) rfl) rfl,W,fst,cap,B,H,?_⟩,λI=>(by cases I)⟩;rw [P];refine (N i b az l G F x hi V Y X K h).mono ?_;rintro r C ⟨rfl,D,A,U,L,Q⟩;exact ⟨rfl,k D C A U L Q⟩
theorem LU {R:VR} {i U:Nat} {l:List tW} {x:σ} {N:Sl} {nx:Int} {pr fr to:Int} {ks:List Dtr} (B:WcG G0 bw b1 b2 w T) (V:bP T i=mB (.nd pr fr to ks)) (hl:l.length+1<=szN T) (lG:G0.le G) (q8:G U=mB (mX (cg w.g (.nd pr fr to ks)).arr 60)) (h:St G F (WB bw w az l (O x)))
  (k:∀X W I,G.le X->St X W (WB bw w I (l++tY (vH w.g) (vZ w.tx) pr ks) (O x))->nu (i:Int) (Am b1 0) N nx R W):qU (i:Int) (Am b1 0) N nx U R F:=by
 obtain ⟨s0,s1,_,_,_,_,s2,_⟩:=B.s.nd _ (eD V);have eo:tY (vH w.g) (vZ w.tx) pr ks=if 0<(cg w.g (.nd pr fr to ks)).d then [(WG (vZ w.tx) ks (cg w.g (.nd pr fr to ks)).d.toNat,(cg w.g (.nd pr fr to ks)).k)] else []:=by
  show (if 0<(cg w.g (.nd pr fr to ks)).d.toNat then [(WG (vZ w.tx) ks (cg w.g (.nd pr fr to ks)).d.toNat,(cg w.g (.nd pr fr to ks)).k)] else [])=_;by_cases e:0<(cg w.g (.nd pr fr to ks)).d
  ·rw [Χ e,Χ (by omega)]
  ·rw [Υ e,Υ (by omega)]
 rw [eo] at k;have A:F U=_:=h.le _ _ q8;have q1:F.cell (Am b1 0)=mB (Pp bw):=ld (h.le _ _ (lG _ _ B.q1)) rfl;have a2:=fJ h;unfold qU;generalize cg w.g (.nd pr fr to ks)=K at*;refine ⟨_,ld A rfl,λhd=> ?_,λhd=> ?_⟩
 ·rw [Χ hd] at k;obtain ⟨c,H,M⟩:=s2 hd;have a1:K.d.toNat - 1<ks.length:=(N6.1 H).1;have C:=jS V H;have Z:=B.s.lf c (eD C) M;have P:=B.f c (eD C);obtain ⟨f0,f1⟩:0<=c.root.fr/\c.root.fr<=c.root.to:=by
   cases c with
   |lf tk fr to=>exact ⟨P.2.2.1,Int.le_of_lt P.2.2.2⟩
   |nd=>cases M
  have a0:WG (vZ w.tx) ks K.d.toNat=vZ w.tx c.root.fr c.root.to:=by unfold WG;have:ks[K.d.toNat - 1]? =mB c:=H;rw [this]
  have a4:=ju ks;have a5:=sub_le V;have a3:szN (.nd pr fr to ks)=1+xT ks:=cY _;have hN:=B.n;refine ⟨_,q1,_,rfl,_,q1,_,rfl,_,q1,_,rfl,_,ld A rfl,_,ld A rfl,?_⟩;rw [show i64.wrap (K.d - 1)=((K.d.toNat - 1:Nat):Int) by rw [aL (by omega)];omega];have Q:=h.ptAt (i:=0) rfl;have lF:=aa lG h.le;refine (yh Q (B.e.le lF) B.n V (Nat.le_of_lt a1)).mono ?_;rintro r W ⟨rfl,rfl⟩;refine ⟨_,rfl,ld A rfl,ld A rfl,q1,q1,q1,?_⟩;refine (qX Q (B.t.le lF) C f0 f1 Z).mono ?_;rintro r W ⟨rfl,rfl⟩;refine ⟨_,rfl,ld A rfl,ld A rfl,q1,q1,q1,?_⟩;refine (qhx (x:=(vZ w.tx c.root.fr c.root.to,K.k)) h (by omega)).mono ?_;rintro r F2 ⟨rfl,X,s',J,Y,a6⟩;have L:F2 U=_:=Y.le _ _ (J _ _ q8);have D:F2.cell (Am b1 0)=mB (Pp bw):=ld (Y.le _ _ (J _ _ (lG _ _ B.q1))) rfl;refine ⟨rfl,ld L rfl,ld L rfl,D,D,D,k X F2 s' J ?_⟩;rw [a0];exact Y
 ·rw [Υ hd,yD] at k;exact k G F az (au _) h
end
theorem Rc {K:Int->Prop} {l m:List tW} (h:W5 K l) (k:W5 K m):W5 K (l++m):=λx g=>(vl.1 g).elim (h x) (k x)
section
variable {β σ:Type} {G0:PH} {w:Wc} {T:Dtr} {bw b1 b2:Nat} {O:σ->List (Ψ)} {out:σ->List β} {E:Nat->List tW->List β} {Lh:Nat->Nat->List tW->List β}
def Zt (_:PH) (bw:Nat) (w:Wc) (O:σ->List (Ψ)) (out:σ->List β) (E:Nat->List tW->List β) (Lh:Nat->Nat->List tW->List β) (m:Dtr) (i:Nat) (l:List tW) (x:σ) (G:PH) (r:ξ) (F':PH):Prop:=
 r=vi ((i+szN m:Nat):Int)/\∃G' seen' x',G.le G'/\St G' F' (WB bw w seen' (l++yL (vH w.g) (vZ w.tx) m) (O x'))/\out x'=out x++Vk (vH w.g) (vZ w.tx) E Lh i l m
theorem qh8 (C:WcG G0 bw b1 b2 w T) (hE:HkE G0 bw w T O out E) (hL:HkL G0 bw w T O out Lh):∀(m:Dtr) (i:Nat) (l:List tW) (az:Sl) (x:σ) (G F:PH),bP T i=mB m->l.length<=i->W5 K7 l->(out x).length+(Vk (vH w.g) (vZ w.tx) E Lh i l m).length<=5000000->G0.le G->St G F (WB bw w az l (O x))->
  ν 67 #[vi (i:Int),Pp b1,Pp b2] F (Zt G0 bw w O out E Lh m i l x G):=by
 have hN:=C.n;have start:∀(m:Dtr) (i:Nat) (l:List tW) (az:Sl) (x:σ) (G F:PH),bP T i=mB m->l.length<=i->W5 K7 l->(out x).length+(E i l).length<=5000000->G0.le G->St G F (WB bw w az l (O x))->
   (∀G1 F1 x1,G.le G1->St G1 F1 (WB bw w az l (O x1))->out x1=out x++E i l->qV (i:Int) (Am b1 0) (mB (Am b2 0)) az (Zt G0 bw w O out E Lh m i l x G) F1)->
   ν 67 #[vi (i:Int),Pp b1,Pp b2] F (Zt G0 bw w O out E Lh m i l x G):=λm i l az x G F J hl hK hB X h k=>by
  have q1:F.cell (Am b1 0)=mB (Pp bw):=ld (h.le _ _ (X _ _ C.q1)) rfl;refine qfy ?_;unfold T8;refine ⟨_,rfl,_,q1,_,rfl,az,ld (h.ptAt (i:=0) rfl) rfl,_,q1,_,rfl,w.en,ld (h.ptAt (i:=0) rfl) rfl,?_⟩;rcases hE with ⟨D,Z⟩|⟨kf,fst,cap,D,Z,h3⟩
  ·rw [D];exact ⟨nZ,yi,λhn=>(by cases hn),λ_=>k G F x (au _) h (by rw [Z,yD])⟩
  ·refine ⟨nS,by rw [D];exact CX,λ_=>⟨_,q1,_,rfl,w.en,ld (h.ptAt (i:=0) rfl) rfl,kf,fst,cap,D,Z,?_⟩,λhn=>(by cases hn)⟩;refine (h3 i az l G F x (eC J) hl hK hB X h).mono ?_;rintro r F' ⟨rfl,G',x',l',h',e'⟩;exact ⟨rfl,k G' F' x' l' h' e'⟩
 refine Dtr.ind (λtk fr to i l az x G F J hl hK hB X h=> ?_) λU fr to A ih i l az x G F J hl hK hB X h=> ?_
 ·have a5:=eC J;have e1:szN (.lf tk fr to)=1:=by rw [cY];show 1+xT []=1;rw [dH]
  rw [Vk,tT] at hB;refine start _ i l az x G F J hl hK (by omega) X h λG1 F1 x1 l1 D ex=> ?_;have I:=aa X l1;have M:=fJ D;unfold qV;refine ⟨_,ld (D.le _ _ (I _ _ C.q1)) rfl,_,rfl,_,ld (D.ptAt (i:=0) rfl) rfl,?_⟩;refine ga (C.t.le (aa I D.le)) J λa L=> ?_;rw [N4];refine ⟨_,aF L rfl,λhn=>absurd hn (by show ¬(0:Int)<=-1;decide),λ_=> ?_⟩;rw [aD (n:=3000000) (by omega) (by omega)];refine CY C hL M a5 (tI _) (by omega) (by rw [ex,tT];omega) I D λG2 F2 x2 l2 Z c6=>⟨by rw [e1],G2,az,x2,aa l1 l2,?_,?_⟩
  ·unfold yL;rw [yD];exact Z
  ·unfold Vk;rw [c6,ex,yb]
 ·have a5:=eC J;have d1:=sub_le J;have d4:szN (.nd U fr to A)=1+xT A:=cY _;have c7:=C.f _ (eD J);obtain ⟨_,_,y,hy,hr⟩:=c7;obtain ⟨y0,y1,y2⟩:=bG hy;have ep:=C.p.len;have d2:=ju A;rw [Vk,tT,tT] at hB;refine start _ i l az x G F J hl hK (by omega) X h λG1 F1 x1 l1 D ex=> ?_;have I:=aa X l1;have M:=fJ D;have q1:F1.cell (Am b1 0)=mB (Pp bw):=ld (D.le _ _ (I _ _ C.q1)) rfl;unfold qV;refine ⟨_,q1,_,rfl,_,ld (D.ptAt (i:=0) rfl) rfl,?_⟩;have a2:=aa I D.le;refine ga (C.t.le a2) J λa L=> ?_;rw [N4];refine ⟨U,aF L rfl,λ_=>⟨_,q1,_,rfl,?_⟩,λhn=>absurd y0 hn⟩;refine (qW (D.ptAt (i:=0) rfl) (C.t.le a2) (C.p.le a2) C.f J).mono ?_;rintro r F2 ⟨rfl,b7⟩;have Z:=D.up b7;refine ⟨_,rfl,?_⟩;refine Z.var (by simp [ak]) (λb8 G3 F3 l3 q8 h3=> ?_);have a4:=aa I l3;have b6:F3.cell (Am b1 0)=mB (Pp bw):=ld (h3.le _ _ (a4 _ _ C.q1)) rfl;refine ⟨_,b6,_,rfl,_,ld (h3.ptAt (i:=0) rfl) rfl,?_⟩;refine u9 (C.p.le (aa a4 h3.le)) (by decide) y0 (by omega) λa3 c3 z hz a1 c4=> ?_;obtain rfl:z=y:=yV (hz.symm.trans y2);obtain ⟨rr,nn,ll,rfl,b4,_⟩:=c4;have c2:=b4.len;rw [hr,vb] at c2;refine ⟨rr,aN a1 (i:=2) rfl,?_⟩;rw [aD (n:=3000000) (by omega) (by omega)];refine ib (λN x v F=>AJ N (i:Int) (Am b1 0) (mB (Am b2 0)) az b8 rr _ x v F) A.length (λj nx F'=>nx=((cQ i A j:Nat):Int)/\∃G' Y x',G3.le G'/\St G' F' (WB bw w Y (l++Vf (vH w.g) (vZ w.tx) (A.take j)) (O x'))/\out x'=out x++E i l++Vj (vH w.g) (vZ w.tx) E Lh (i+1) l (A.take j)) _ ⟨by unfold cQ;rw [Va,dH],G3,az,x1,au _,?_,?_⟩ ?_
  ·rw [Va,Vf,yD];exact h3
  ·rw [Va,Vj,yD];exact ex
  rintro j nx F4 Nx hj ⟨rfl,G4,B,x4,l4,Q,P⟩ next;have V:=aa a4 l4;have W:=fJ Q;have b9:=LQ (sp:=vH w.g) (tx:=vZ w.tx) (A.take j);rw [tT] at W;unfold AJ;refine ⟨λK=> ?_,λK=> ?_⟩
  ·have K:j<A.length:=by omega
   have hk:=N5 K;have a7:=jS (m:=.nd U fr to A) J hk;have hs:=gP (i:=i) hk;have a9:cQ i A j=i+1+xT (A.take j):=rfl;have b3:=congrArg (λz=>(Vj (vH w.g) (vZ w.tx) E Lh (i+1) l z).length) (Gv hk);rw [kL,Vj,tT,tT] at b3;refine ⟨_,rfl,_,ld (Q.le _ _ (V _ _ C.q2)) rfl,67,#[],#[Pp b1,Pp b2],rfl,HE,?_⟩;refine (ih A[j] (Vw K) (cQ i A j) _ B x4 G4 F4 a7 (by rw [tT];omega) (Rc hK (Cj _ λk _=>qeY C.k k)) (by rw [P,tT,tT,a9];omega) V Q).mono ?_;rintro r F5 ⟨rfl,G5,a0,x5,l5,h5,c8⟩;rw [<- hs];refine ⟨_,rfl,?_⟩;rw [aD K];have et:A.take (j+1)=A.take j++[A[j]]:=by rw [Wj,hk];rfl
   refine next _ _ K ⟨rfl,G5,a0,x5,aa l4 l5,?_,?_⟩
   ·rw [et,sV,Vf,Vf,yD,<- yb];exact h5
   ·rw [et,kL,Vj,Vj,yD,c8,P,<- a9,<- yb]
  ·obtain rfl:j=A.length:=by omega
   rw [wV] at Q P W b9;have b0:F4.cell (Am b1 0)=mB (Pp bw):=ld (Q.le _ _ (V _ _ C.q1)) rfl;have a6:=l4 _ _ q8;have fin:∀(l':List tW) (s':Sl) (G6 F6:PH),G4.le G6->St G6 F6 (WB bw w s' l' (O x4))->l.length<=l'.length->l'.length<=l.length+xT A->(l'++tY (vH w.g) (vZ w.tx) U A=l++yL (vH w.g) (vZ w.tx) (.nd U fr to A))->
     qU (i:Int) (Am b1 0) az ((cQ i A A.length:Nat):Int) b8 (Zt G0 bw w O out E Lh (.nd U fr to A) i l x G) F6:=λl' s' G6 F6 l6 h6 d3 d0 he=>by
    have a8:=aa V l6;refine LU C J (by omega) a8 (l6 _ _ a6) h6 λG7 F7 s7 l7 h7=> ?_;rw [he] at h7;have c9:(tY (vH w.g) (vZ w.tx) U A).length<=1:=by unfold tY;split<;>simp
    have b5:=congrArg List.length he;rw [tT] at b5;refine CY C hL M a5 (by rw [tT];omega) (by omega) (by rw [P,tT,tT];omega) (aa a8 l7) h7 λG8 F8 x8 l8 h8 c5=>⟨?_,G8,s7,x8,aa l1 (aa l3 (aa l4 (aa l6 (aa l7 l8)))),h8,?_⟩
    ·rw [jx];congr 1;omega
    ·rw [c5,P];rw [Vk];simp only [yb]
   unfold HD;refine ⟨_,ld (Q.le _ _ a6) rfl,λho=> ?_,λho=> ?_⟩
   ·refine ⟨_,b0,_,b0,_,rfl,_,ld (Q.ptAt (i:=0) rfl) rfl,by omega,by omega,by omega,by omega,?_,_,rfl,?_⟩
    ·have:=(Q.sownRd (i:=1) rfl).cap;omega
    rw [N4];have h5:=Q.imp (A':=gS (xy B 2 0 az.len az.len) 80 2 (bB l)) 1 rfl λH _ hH=>by have:=gS.cut hH (k:=az.len) (by omega);rw [qid,M,List.take_left' rfl] at this;rw [M];exact this
    refine h5.set0 (w':=w.arr (xy B 2 0 az.len az.len)) (vp rfl) rfl λF5 h6=> ?_;refine fin l _ G4 F5 (au _) h6 (tI _) (by omega) ?_;rw [yL,Χ (show (vH w.g U).opens=nZ from ho),zr]
   ·refine fin _ B G4 F4 (au _) Q (by rw [tT];omega) (by rw [tT];omega) ?_;rw [yL,Υ (by rw [show (vH w.g U).opens=nS from ho];decide),yb]
end
def ZN (n:Int):Dtr->Bool
 | .lf _ _ to=>decide (to<=n)
 | .nd _ _ _ _=>nZ
def XT (tx:ο) (T:Dtr):Bool:=(xP T).all (ZN tx.size)
theorem HG {g:Gr} {tx:ο} {T:Dtr} (P:OkG g) (U:dY g T) (V:XT tx T=nZ):ScT g tx T:=by
 refine ⟨λm H I=> ?_,λm H=> ?_⟩
 ·have:=Vq.1 V m H;cases m with
  |lf M C to=>exact ζ this
  |nd=>cases I
 ·have G:=U m H;cases m with
  |lf M C to=>rw [show cg g (.lf M C to)=ki from rfl];exact ⟨Vr _,Vr _,Vr _,by decide,Vr _,by decide,λh=>absurd h (by decide),λh=>absurd h (by decide)⟩
  |nd L C to J=>
   obtain ⟨_,_,x,K,W⟩:=G;obtain ⟨_,_,Q⟩:=bG K;obtain ⟨_,d,hd⟩:=fK g.qa0 [] P.qa0 x (wh Q);have D:lz x:=by obtain ⟨_,_,_,_,_,h⟩:=hd;exact h
   obtain ⟨_,B,A,_⟩:=D;have N:cg g (.nd L C to J)=x.sco:=by unfold cg;dsimp only;rw [K];rfl
   have key:∀q:Int,(0<q/\q<=x.right.length/\(∃s,x.right[(q - 1).toNat]? =mB s/\s.t=nZ))->∃c,(Dtr.nd L C to J).kids[q.toNat - 1]? =mB c/\Bi c:=λq ⟨r,E,s,w,O⟩=>by
    rw [W,yr,show (q - 1).toNat=q.toNat - 1 by omega] at w;cases e:J[q.toNat - 1]? with
    |none=>rw [e] at w;cases w
    |some c=>
     rw [e] at w;obtain rfl:=yV w;refine ⟨c,e,?_⟩;cases c with
     |lf=>trivial
     |nd=>cases O
   rw [N];refine ⟨?_,?_,?_,?_,?_,?_,λh=> ?_,λh=> ?_⟩
   ·rcases B with ⟨r,_⟩|⟨r,_⟩<;>omega
   ·rcases A with ⟨r,_⟩|⟨r,_⟩<;>omega
   ·rcases A with ⟨_,r⟩|⟨_,_,_,r,_⟩<;>omega
   ·rcases A with ⟨_,r⟩|⟨_,_,_,_,r⟩<;>omega
   ·rcases B with ⟨_,r⟩|⟨_,_,_,r,_⟩<;>omega
   ·rcases B with ⟨_,r⟩|⟨_,_,_,_,r⟩<;>omega
   ·rcases B with ⟨r,_⟩|⟨r,E,w,_⟩
    ·omega
    ·exact key _ ⟨r,E,w⟩
   ·rcases A with ⟨r,_⟩|⟨r,E,w,_⟩
    ·omega
    ·exact key _ ⟨r,E,w⟩
theorem Rd {g:Gr} (w:OkG g) {x:Pr} (r:x∈g.qa0):lz x:=by obtain ⟨_,d,hd⟩:=fK g.qa0 [] w.qa0 x r;obtain ⟨_,_,_,_,_,h⟩:=hd;exact h
theorem Re {g:Gr} (r:OkG g) (p:Int) (h:0<(vH g p).decl):K7 (vH g p).kind:=by
 unfold vH at h ⊢;dsimp only at h ⊢;cases hx:V5 g p with
 |none=>rw [hx] at h;exact absurd h (by decide)
 |some x=>
  rw [hx] at h;obtain ⟨_,_,C⟩:=bG hx;obtain ⟨_,A,_⟩:=Rd r (wh C);show K7 x.sco.k;have h:0<x.sco.d.toNat:=h;rcases A with ⟨w,_⟩|⟨_,_,_,w,B⟩
  ·omega
  ·exact ⟨by omega,B⟩
section
variable {β σ:Type} {G0 F:PH} {w:Wc} {az:Sl} {T:Dtr} {bw:Nat} {O:σ->List (Ψ)} {out:σ->List β} {E:Nat->List tW->List β} {Lh:Nat->Nat->List tW->List β}
structure WcO (G0:PH) (w:Wc) (T:Dtr):Prop where
 t:RL G0 w.t (vq T)
 p:RL G0 w.p w.g.qa0
 e:RL G0 w.es (Vp T)
 n:szN T<=2000000
 f:dY w.g T
 s:ScT w.g w.tx T
 k:∀p,0<(vH w.g p).decl->K7 (vH w.g p).kind
theorem WcO.le {G1:PH} (h:WcO G0 w T) (l:G0.le G1):WcO G1 w T:=⟨h.t.le l,h.p.le l,h.e.le l,h.n,h.f,h.s,h.k⟩
theorem HkE.up {G1:PH} (h:HkE G0 bw w T O out E) (l:G0.le G1):HkE G1 bw w T O out E:=h.elim .inl λ⟨k,f,c,A,g,r⟩=> .inr ⟨k,f,c,A,g,λi az C G F x a b B D d=>r i az C G F x a b B D (aa l d)⟩
theorem HkL.up {G1:PH} (h:HkL G0 bw w T O out Lh) (l:G0.le G1):HkL G1 bw w T O out Lh:=h.elim .inl λ⟨k,f,c,C,r,B⟩=> .inr ⟨k,f,c,C,r,λi b az D G F x a g A H d=>B i b az D G F x a g A H (aa l d)⟩
theorem kM {x:σ} (hW:WcO G0 w T) (X:HkE G0 bw w T O out E) (M:HkL G0 bw w T O out Lh) (W:(out x).length+(Vk (vH w.g) (vZ w.tx) E Lh 0 [] T).length<=5000000) (h:St G0 F (WB bw w az [] (O x))):
  ν 33 #[Pp bw] F λr U=>r=sj #[]/\∃G A D,G0.le G/\St G U (WB bw w A (yL (vH w.g) (vZ w.tx) T) (O D))/\out D=out x++Vk (vH w.g) (vZ w.tx) E Lh 0 [] T:=by
 refine qfr ?_;unfold T0;refine h.newG λI G1 F1 Z q1 _ h=> ?_;refine h.new λJ F2 h=> ?_;refine h.set0 (w':= #[.func (.func 67) #[] #[Pp I,Pp J]]) (by decide) rfl λV h=> ?_;obtain ⟨Y,H,⟨H2,N,a3⟩,h⟩:=h.pin;have q2:=a3 _ _ N;have C:=aa Z H;refine ⟨_,ld (h.le _ _ q2) rfl,67,#[],#[Pp I,Pp J],rfl,HE,?_⟩;have B:=hW.le C;refine (qh8 ⟨H _ _ q1,q2,B.t,B.p,B.e,B.n,B.f,B.s,B.k⟩ (X.up C) (M.up C) T 0 [] az x Y V (dT T) (tI _) (λ_ K=>by cases K) W (au _) h).mono ?_;rintro r F4 ⟨rfl,G,A,D,Q,L,P⟩;exact ⟨_,rfl,rfl,G,A,D,aa C Q,L,P⟩
end
section
variable {F G:PH} {g:Gr} {k:Nat} {T:Dtr} {c:Int}
def Wg (g:Gr) (c:Int) (tx:ο) (T:Dtr):Int:=if Xy g c T≠0 then Xy g c T else if XT tx T=nZ then 0 else 90
theorem qfA {D h w H B r E C A u v x:ξ}:tL (tL (tL (wr (#[tU nC 0 0,.slice nC 0 0,vi 0,.slice nC 0 0,.slice nC 0 0,.slice nC 0 0,vi 0,.slice nC 0 0,.slice nC 0 0,.string ⟨#[]⟩,tU nC 0 0,.slice nC 0 0]:Γ) 0 (#[D,h,w,H,B,r,E,C,A]:Γ).toList) 9 u) 10 v) 11 x= #[D,h,w,H,B,r,E,C,A,u,v,x]:=by kernel_rfl
theorem qfB {D h w H B r E C A u v x:ξ}:wr (#[tU nC 0 0,.slice nC 0 0,vi 0,.slice nC 0 0,.slice nC 0 0,.slice nC 0 0,vi 0,.slice nC 0 0,.slice nC 0 0,.string ⟨#[]⟩,tU nC 0 0,.slice nC 0 0,.slice nC 0 0,.nilFunc,.nilFunc]:Γ) 0 (#[D,h,w,H,B,r,E,C,A,u,v,x]:Γ).toList= #[D,h,w,H,B,r,E,C,A,u,v,x,tU nC 0 0,.nilFunc,.nilFunc]:=by kernel_rfl
theorem ny {v:Γ} {t:Sl} {tx:ο} (hT:Tab F) (hg:GV F v g) (hG:GdG g k) (hf:dY g T) (hN:szN T<=2000000) (ht:RL F t (vq T)) (c0:0<=c) (c1:c<18446744073709551616):
  ν 31 #[oc v,tJ .u64 c,pg tx,t.v] F λr L=>(Wg g c tx T≠0/\r=sj #[pj nC,vi (Wg g c tx T)]/\F.le L)\/
   (Wg g c tx T=0/\∃(b:Nat) (w:Wc) (G':PH),r=sj #[Pp b,vi 0]/\F.le G'/\w.g=g/\w.tx=tx/\w.en=.nilFunc/\w.lv=.nilFunc/\WcO G' w T/\St G' L (WB b w pk [] [])):=by
 have et:t.len=szN T:=ht.len;have b6:=hg;obtain ⟨cs,n,tk,s,p,l,f,rfl,hs⟩:=hg;refine qfp ?_;unfold TY;refine fresh λb4 F1 l1 q4 _=>⟨_,rfl,ai q4,?_⟩;refine (AD (hT.le l1) (b6.le l1) hG hf hN (ht.le l1) c0 c1).mono ?_;rintro r F2 ⟨rfl,l2⟩;have N:=aa l1 l2;refine ⟨_,rfl,λa4=> .inl ?_,λhe=> ?_⟩
 ·have:Wg g c tx T=Xy g c T:=by unfold Wg;rw [Χ a4]
  rw [this];exact ⟨a4,rfl,N⟩
 have he:Xy g c T=0:=Decidable.not_not.1 he;have eo:Wg g c tx T=if XT tx T=nZ then 0 else 90:=by unfold Wg;rw [Υ (μ he)]
 refine bC (AG · tx t b4 _) (szN T) (λj L=>F2.le L/\((xP T).take j).all (ZN tx.size)=nZ) ⟨au _,rfl⟩ ?_;rintro j J Nx hj ⟨l3,B⟩ next;have C:=aa N l3;unfold AG;refine ⟨λE=> ?_,λb8=> ?_⟩
 ·have E:j<szN T:=by omega
  obtain ⟨m,hm⟩:=gR E;have b3:=gQ hm;have Y:(xP T)[j]? =mB m:=hm;refine u9 (ht.le C) (by decide) (by omega) (by omega) λa5 c5 x5 a6 I b0=> ?_;rw [N4,b3] at a6;obtain rfl:=yV a6;obtain rfl:c5=m.root.arr:=b0;refine ⟨_,rfl,I,?_⟩;refine (St.start J).var (by simp [ak]) (λb9 G4 F4 l4 q9 h=> ?_);have Q:=h.le _ _ q9;have X:=aa l4 h.le;have go:ZN tx.size m=nZ->∀R:VR,vh Nx tx t b4 (j:Int) R F4:=λh R=>by unfold vh;rw [aD E];exact next F4 E ⟨aa l3 X,by rw [yf Y,B,h];rfl⟩
  refine ⟨_,ld Q rfl,?_⟩;cases hmm:m with
  |lf c2 b5 a1=>refine ⟨λ_=>⟨a1,ld Q (by rw [hmm];rfl),λV=> .inl ?_,λV=>go (by rw [hmm];exact ε (by omega)) _⟩,λhn=>absurd (by show (-1:Int)<0;decide) hn⟩;have:XT tx T=nS:=Hv Y (by rw [hmm];exact η (by omega));rw [eo,Υ (by rw [this];decide)];exact ⟨by decide,rfl,aa C X⟩
  |nd c3 b5 a1 c4=>have a0:=hf m (eD hm);rw [hmm] at a0;obtain ⟨_,_,y,b2,_⟩:=a0;exact ⟨λhn=>absurd (bG b2).1 (Int.not_le.2 hn),λ_=>go (by rw [hmm];rfl) _⟩
 ·obtain rfl:j=szN T:=by omega
  rw [yY (by rw [dI];exact tI _)] at B;have a2:XT tx T=nZ:=B;unfold Hx;have M:=aa l2 l3 _ _ q4;refine ⟨_,rfl,ai M,?_⟩;rw [et];refine bQ underlying76 Yk Ym rfl (by omega) (Vr _) (by omega) (by omega) ?_;intro D Z;have h:=Yo ((St.start J).new (K:=λb L=>St J L [pt b (mX (Builtin.zeroCells (Value.int .i64 0).cells (pc ((szN T:Nat):Int))) 3)]) (λ_ _ h=>h) D Z);have h:=h.imp (A':=own (tX (mB (pd D 0 nC)) (pc ((szN T:Nat):Int)) (pc ((szN T:Nat):Int))) 3 1 ((List.replicate (szN T) (0:Int)).map vi)) 0 rfl λH _ hH=>by
   refine .inr ⟨D,_,rfl,hH,?_,tI _,?_,?_⟩
   ·simp [Builtin.zeroCells,Value.cells]
   ·simp
   ·simp [Builtin.zeroCells,Value.cells,Nat.mod_one];rw [show (λ_:Nat=>tJ .i64 0)=Function.const Nat (tJ .i64 0) from rfl,List.map_const,Wq,List.take_replicate,Nat.min_self]
  refine ⟨_,rfl,ai (h.le _ _ M),rfl,?_⟩;rw [qfA,qfB];refine ⟨rfl,?_⟩;generalize tX (mB (pd D 0 nC)) (pc ((szN T:Nat):Int)) (pc ((szN T:Nat):Int))=es at*;refine h.new λa3 F5 h=> ?_;have b1:=hs.le C;obtain ⟨w,hw⟩:∃w:Wc,w=⟨g,cs,n,tk,s,p,l,f,tx,t,es,.nilFunc,.nilFunc⟩:=⟨_,rfl⟩;have h:St J F5 [pt a3 (mX (w.arr pk) 108),own w.es 3 1 ((List.replicate (szN T) (0:Int)).map vi)]:=by rw [hw];exact h
  have ew:w.g=g/\w.tx=tx/\w.t=t/\w.p=p/\w.en=.nilFunc/\w.lv=.nilFunc:=by rw [hw];exact ⟨rfl,rfl,rfl,rfl,rfl,rfl⟩
  clear hw;obtain ⟨O,e2,e3,e4,e5,e6⟩:=ew;have W:RL J w.p w.g.qa0:=by rw [O,e4];exact b1.p
  have P:RL J w.t (vq T):=by rw [e3];exact ht.le C
  have U:dY w.g T:=by rw [O];exact hf
  refine (qhy hN P W U T 0 _ F5 (dT T) Xn h).mono ?_;rintro r F6 ⟨rfl,E',hM,h6⟩;refine ⟨_,rfl,.inr ⟨by rw [eo,Χ a2],a3,w,?_⟩⟩;have a9:E'=Vp T:=by
   refine Wp λq=> ?_;by_cases e:q<szN T
   ·exact (hM.2 q).1 ⟨yM _,by omega⟩
   ·rw [VP (by rw [hM.1,Xn];omega),VP (by unfold Vp;rw [vb,jT];omega)]
  rw [a9] at h6;have h6:=h6.swap;obtain ⟨G7,l7,⟨H7,a7,b7⟩,h7⟩:=h6.pin;have a8:=(bO.rd a7).le b7;have h8:=h7.push (A:=gS pk 80 2 (bB [])) (H:=λ_=>nC) gS.nil (λb V=>absurd rfl V) (λb o V=>(by cases V)) (au _);exact ⟨G7,rfl,aa C l7,O,e2,e5,e6,⟨P.le l7,W.le l7,RL.ints.2 a8,hN,U,by rw [O,e2];exact HG hG.ok.ok hf a2,by rw [O];exact Re hG.ok.ok⟩,h8.swap⟩
end
theorem qfC:aG prog 32=nZ:=by kernel_rfl
theorem qe3:aG prog 36=nZ:=by kernel_rfl
section
variable {F G G0:PH} {g:Gr} {k:Nat} {T:Dtr} {c:Int} {w:Wc} {bw b9 b12 b14:Nat}
theorem AL {e n:Nat} {l:List tW} {az:Sl} {o:Obj} (h:St G F [pt b14 o,pt bw (mX (w.arr az) 108),gS az 80 2 (bB l)]):St G F (WB bw w az l [pt b14 o,own pk e n []]):=by
 have h:=h.push (A:=own pk e n []) (H:=λ_=>nC) (.inl ⟨rfl,rfl⟩) (λb r=>absurd rfl r) (λb o r=>(by cases r)) (au _)
 exact h.pick (λj=>match j with|0=>2|1=>3|2=>1|_=>0) (by
  intro a b B r
  match a,b,(show a<4 from B),(show b<4 from r) with
  |0,0,_,_|1,1,_,_|2,2,_,_|3,3,_,_=>intro _;rfl
  |0,1,_,_|0,2,_,_|0,3,_,_|1,0,_,_|1,2,_,_|1,3,_,_|2,0,_,_|2,1,_,_|2,3,_,_|3,0,_,_|3,1,_,_|3,2,_,_=>intro h;exact absurd h (by decide)) (by
  intro a B
  match a,(show a<4 from B) with
  |0,_|1,_|2,_|3,_=>rfl)
abbrev Fy (b14:Nat) (x:Sl×List tW):List (Ψ):=[pt b14 (mX #[x.1.v] 48),own x.1 80 2 (bB x.2)]
theorem ua {x:Sl×List tW} {sx az:Sl} {l m:List tW} {K:Sl->Ψ} (h:St G F (WB bw w az l (Fy b14 x))) (B:RdS F sx 2 (bB m)) (E:x.1.len+sx.len<=500000000) (k:∀r A,St G A (WB bw w az l [pt b14 (mX #[x.1.v] 48),own r 80 2 (bB (x.2++m))])->K r A):
  aH prog (Builtin.append_ #[48,48] 48 #[x.1.v,sx.v]) F λv F=>∃r:Sl,v=nV r/\K r F:=by
 obtain ⟨_,_,D⟩:=NX;refine h.appAt D 3 rfl B (Gz _) (by omega) λr A C _=>k r A ?_;rw [kF];exact C
theorem CZ {x:Sl×List tW} {az:Sl} {l:List tW} (h:St G F (WB bw w az l (Fy b14 x))):x.1.len=x.2.length:=by have:=(h.ownAt (i:=3) rfl).1.rd.len;rw [iI] at this;omega
theorem LV {i:Nat} (W:szN T<=2000000) (P:w.lv=.func (.func 32) #[] #[Pp b9,Pp b14,Pp b12]) (Q:G0 b9=mB (mX #[vi (i:Int)] 3)) (C:G0 b12=mB (mX #[Pp bw] 98)):
  HkL G0 bw w T (Fy b14) (λx=>x.2) (Wo i):=by
 refine .inr ⟨_,_,_,P,qfC,λj b az l G F x V Y hl E K h=> ?_⟩;have J:F b9=_:=h.le _ _ (K _ _ Q);have D:F b12=_:=h.le _ _ (K _ _ C);have N:=CZ h;have H:=fJ h;have A:=h.sownRd (i:=1) rfl;show aj prog _ #[vi (j:Int),vi (b:Int),Pp b9,Pp b14,Pp b12] F _;refine qfq ?_;unfold TZ;unfold Wo at E ⊢;dsimp only at E ⊢;refine ⟨_,rfl,_,ld J rfl,λM=> ?_,λU=> ?_⟩
 ·have M:j=i:=by omega
  rw [Χ M] at E ⊢;rw [WL] at E;refine ⟨_,rfl,_,ld (h.ptAt (i:=2) rfl) rfl,_,rfl,_,ld D rfl,_,rfl,az,ld (h.ptAt (i:=0) rfl) rfl,by omega,by omega,A.cap,?_⟩;rw [N4];have B:=A.cut (l:=b) (r:=az.len) (m:=az.cap) (by omega) (tI _) A.cap;have B:RdS F (xy az 2 b az.len az.cap) 2 (bB (l.drop b)):=by rw [qie] at B;rw [H] at B ⊢;rw [show (bB (l.drop b)).take ((l.length - b)*2)=bB (l.drop b) from yY (by rw [iI,WL];exact tI _)] at B;exact B
  refine ua h B (by show x.1.len+(az.len - b)<=_;omega) λL X I=> ?_;refine ⟨ld (I.ptAt (i:=0) rfl) rfl,ld (I.le _ _ (K _ _ C)) rfl,?_⟩;refine I.set2 (w':= #[L.v]) (vp rfl) rfl λZ O=>⟨rfl,G,(L,x.2++l.drop b),au _,O,rfl⟩
 ·rw [Υ (by omega)];exact ⟨rfl,G,x,au _,h,(yD _).symm⟩
def Zu (i:Nat):Nat->List tW->List tW:=λj s=>if j=i then s else []
theorem LW {i:Nat} (_:szN T<=2000000) (N:w.en=.func (.func 36) #[] #[Pp b9,Pp b14,Pp b12]) (O:G0 b9=mB (mX #[vi (i:Int)] 3)) (r:G0 b12=mB (mX #[Pp bw] 98)):
  HkE G0 bw w T (Fy b14) (λx=>x.2) (Zu i):=by
 refine .inr ⟨_,_,_,N,qe3,λj az l G F x Q X _ D E h=> ?_⟩;have C:F b9=_:=h.le _ _ (E _ _ O);have A:F b12=_:=h.le _ _ (E _ _ r);have L:=CZ h;have K:=fJ h;have B:=h.sownRd (i:=1) rfl;show aj prog _ #[vi (j:Int),Pp b9,Pp b14,Pp b12] F _;refine qfs ?_;unfold T1;unfold Zu at D ⊢;dsimp only at D ⊢;refine ⟨_,rfl,_,ld C rfl,λJ=> ?_,λP=> ?_⟩
 ·have J:j=i:=by omega
  rw [Χ J] at D ⊢;refine ⟨_,rfl,_,ld (h.ptAt (i:=2) rfl) rfl,_,rfl,_,ld A rfl,_,rfl,az,ld (h.ptAt (i:=0) rfl) rfl,?_⟩;refine ua h B (by omega) λI V H=> ?_;refine ⟨ld (H.le _ _ (E _ _ r)) rfl,?_⟩;refine H.set2 (w':= #[I.v]) (vp rfl) rfl λW M=>⟨rfl,G,(I,x.2++l),au _,M,rfl⟩
 ·rw [Υ (by omega)];exact ⟨rfl,G,x,au _,h,(yD _).symm⟩
def exA (g:Gr) (c:Int) (tx:ο) (T:Dtr) (i:Int):List tW×Int:=if Wg g c tx T≠0 then ([],Wg g c tx T) else match (if 0<=i then bP T i.toNat else nC) with
 |some m=>(yL (vH g) (vZ tx) m,0)
 |none=>([],1)
def vsA (g:Gr) (c:Int) (tx:ο) (T:Dtr) (i:Int):List tW×Int:=if Wg g c tx T≠0 then ([],Wg g c tx T) else match (if 0<=i then (zo (vH g) (vZ tx) [] T)[i.toNat]? else nC) with
 |some l=>(l,0)
 |none=>([],1)
def Zq (a:List tW×Int) (r:ξ) (F':PH):Prop:=∃s:Sl,r=sj #[s.v,vi a.2]/\RL F' s a.1
theorem lL {v:Γ} {t:Sl} {tx:ο} {i:Int} (hT:Tab F) (hg:GV F v g) (hG:GdG g k) (hf:dY g T) (hN:szN T<=2000000) (ht:RL F t (vq T)) (c0:0<=c) (c1:c<18446744073709551616):
  ν 11 #[oc v,tJ .u64 c,pg tx,t.v,vi i] F λr I=>Zq (exA g c tx T i) r I/\F.le I:=by
 have et:t.len=szN T:=ht.len;refine qfl ?_;unfold TS;refine fresh λb5 F1 l1 q5 _=>fresh λb9 F2 l2 q9 _=> ?_;have C:=aa l1 l2;refine ⟨v,hg.size,ai (l2 _ _ q5),?_⟩;refine (ny (hT.le C) (hg.le C) hG hf hN (ht.le C) c0 c1).mono ?_;rintro r F3 (⟨D,rfl,V⟩|⟨D,bw,w,G3,rfl,V,e1,e2,e3,e4,hW,h⟩)
 ·have L:=aa C V;refine ⟨_,_,rfl,?_⟩;refine (St.start F3).new λb12 F4 h=>h.set0 (w':= #[pj nC]) (by decide) rfl λF5 h=>⟨λ_=>⟨⟨pk,?_,?_⟩,aa L h.le⟩,λhn=>absurd D hn⟩
  ·unfold exA;rw [Χ D]
  ·unfold exA;rw [Χ D];exact RL.nil _
 ·have L:=aa C V;refine ⟨_,_,rfl,?_⟩;refine h.new λb12 F4 h=>h.set0 (w':= #[Pp bw]) (by decide) rfl λF5 h=> ?_;obtain ⟨G4,l4,⟨H4,a4,a5⟩,h⟩:=h.pin;have J:=a5 _ _ a4;have K:=aa L l4;have P:=aa V l4 _ _ q9;have O:F5 b9=_:=h.le _ _ P;have no:(if 0<=i then bP T i.toNat else nC)=nC->∀I,F.le I->Zq (exA g c tx T i) (sj #[nV pk,vi 1]) I/\F.le I:=λN I lF=>⟨⟨pk,by unfold exA;rw [Υ (μ D),N],by unfold exA;rw [Υ (μ D),N];exact RL.nil _⟩,lF⟩;refine ⟨λhn=>absurd rfl hn,λ_=>⟨i,ld O rfl,λa1=>no (by rw [Υ (by omega)]) _ (aa K h.le),λa2=>⟨i,ld O rfl,λa6=>no ?_ _ (aa K h.le),λa7=> ?_⟩⟩⟩
  ·rw [Χ (by omega)];unfold bP;rw [VP (by rw [dI];omega)]
  obtain ⟨m,Z⟩:=gR (n:=T) (j:=i.toNat) (by omega);have hx:exA g c tx T i=(yL (vH g) (vZ tx) m,0):=by unfold exA;rw [Υ (μ D),Χ (by omega),Z]
  refine h.new λb14 F6 h=> ?_;have Q:F6 b12=_:=h.le _ _ J;refine ⟨_,ld Q rfl,_,rfl,?_⟩;refine h.set1 (w':={w with lv:=.func (.func 32) #[] #[Pp b9,Pp b14,Pp b12]}.arr pk) (vp rfl) rfl λF7 h=> ?_;have h:=AL (e:=80) (n:=2) h;have A:=hW.le l4;have h:St G4 F7 (WB bw {w with lv:=.func (.func 32) #[] #[Pp b9,Pp b14,Pp b12]} pk [] (Fy b14 (pk,[]))):=h;generalize a0:({w with lv:=.func (.func 32) #[] #[Pp b9,Pp b14,Pp b12]}:Wc)=B at h ⊢;have W:B.g=g/\B.tx=tx/\B.en=.nilFunc/\B.lv=.func (.func 32) #[] #[Pp b9,Pp b14,Pp b12]/\WcO G4 B T:=by rw [<- a0];exact ⟨e1,e2,e3,rfl,⟨A.t,A.p,A.e,A.n,A.f,A.s,A.k⟩⟩
  obtain ⟨W,f2,f3,f4,Y⟩:=W;have hi:((i.toNat:Nat):Int)=i:=by omega
  have H:=KD (sp:=vH B.g) (tx:=vZ B.tx) T i.toNat 0 m [] Z;rw [yp] at H;have a8:=vo (sp:=vH B.g) (tx:=vZ B.tx) m;have a3:=sub_le Z;have U:F7.cell (Am b12 0)=mB (Pp bw):=ld (h.le _ _ J) rfl;refine ⟨_,U,?_⟩;refine (kM (E:=λ_ _=>[]) (Lh:=Wo i.toNat) Y (.inl ⟨f3,λ_ _=>rfl⟩) (LV (b14:=b14) hN f4 (by rw [hi];exact P) J) (x:=(pk,[])) (by rw [H];show 0+_<=_;omega) h).mono ?_;rintro r F8 ⟨rfl,G5,s5,x5,l5,X,M⟩;rw [H] at M;refine ⟨rfl,x5.1,ld (X.ptAt (i:=2) rfl) rfl,⟨x5.1,by rw [hx],?_⟩,aa K (aa l5 X.le)⟩;rw [hx];have hr:=(X.ownAt (i:=3) rfl).1.rd;rw [show x5.2=yL (vH B.g) (vZ B.tx) m from M,W,f2] at hr;exact RL.nams.2 hr
end
section
variable {sp:Int->Spc} {tx:Int->Int->ο}
theorem C0:∀(l:List Dtr),(∀k∈l,∀(s:List tW) (i:Nat) (x:List tW),(zo sp tx s k)[i]? =mB x->x.length<=s.length+szN k)->∀(s:List tW) (i:Nat) (x:List tW),(Vy sp tx s l)[i]? =mB x->x.length<=s.length+xT l
 |[],_,s,i,x,h=>by unfold Vy at h;simp at h
 |n::l,hk,s,i,x,h=>by
  rw [Vy] at h;rw [di];by_cases hi:i<(zo sp tx s n).length
  ·rw [z8 hi] at h;have:=hk n (by simp) s i x h;omega
  ·rw [Vm (by omega)] at h;have:=C0 l (λk h=>hk k (by simp [h])) _ _ x h;have g:=vo (sp:=sp) (tx:=tx) n;rw [tT] at this;omega
theorem Rf:∀(n:Dtr) (s:List tW) (i:Nat) (x:List tW),(zo sp tx s n)[i]? =mB x->x.length<=s.length+szN n:=Dtr.ind (λ_ _ _ s i x h=>by
  unfold zo at h;cases i with
  |zero=>cases h;omega
  |succ i=>simp at h) λr w to g ih s i x h=>by
 rw [sU] at h;rw [cY];cases i with
 |zero=>cases h;omega
 |succ i=>rw [V6] at h;have:=C0 g ih s i x h;show _<=s.length+(1+xT g);omega
end
section
variable {F G G0:PH} {g:Gr} {k:Nat} {T:Dtr} {c:Int} {w:Wc} {bw b9 b12 b14:Nat}
theorem qhz {v:Γ} {t:Sl} {tx:ο} {i:Int} (hT:Tab F) (hg:GV F v g) (hG:GdG g k) (hf:dY g T) (hN:szN T<=2000000) (ht:RL F t (vq T)) (c0:0<=c) (c1:c<18446744073709551616):
  ν 13 #[oc v,tJ .u64 c,pg tx,t.v,vi i] F λr H=>Zq (vsA g c tx T i) r H/\F.le H:=by
 have et:t.len=szN T:=ht.len;refine qfm ?_;unfold TT;refine fresh λb5 F1 l1 q5 _=>fresh λb9 F2 l2 q9 _=> ?_;have B:=aa l1 l2;refine ⟨v,hg.size,ai (l2 _ _ q5),?_⟩;refine (ny (hT.le B) (hg.le B) hG hf hN (ht.le B) c0 c1).mono ?_;rintro r F3 (⟨C,rfl,V⟩|⟨C,bw,w,G3,rfl,V,e1,e2,e3,e4,hW,h⟩)
 ·have K:=aa B V;refine ⟨_,_,rfl,?_⟩;refine (St.start F3).new λb12 F4 h=>h.set0 (w':= #[pj nC]) (by decide) rfl λF5 h=>⟨λ_=>⟨⟨pk,?_,?_⟩,aa K h.le⟩,λhn=>absurd C hn⟩
  ·unfold vsA;rw [Χ C]
  ·unfold vsA;rw [Χ C];exact RL.nil _
 ·have K:=aa B V;refine ⟨_,_,rfl,?_⟩;refine h.new λb12 F4 h=>h.set0 (w':= #[Pp bw]) (by decide) rfl λF5 h=> ?_;obtain ⟨G4,l4,⟨H4,a4,a5⟩,h⟩:=h.pin;have I:=a5 _ _ a4;have J:=aa K l4;have P:=aa V l4 _ _ q9;have O:F5 b9=_:=h.le _ _ P;have no:(if 0<=i then (zo (vH g) (vZ tx) [] T)[i.toNat]? else nC)=nC->∀H,F.le H->Zq (vsA g c tx T i) (sj #[nV pk,vi 1]) H/\F.le H:=λN H lF=>⟨⟨pk,by unfold vsA;rw [Υ (μ C),N],by unfold vsA;rw [Υ (μ C),N];exact RL.nil _⟩,lF⟩;refine ⟨λhn=>absurd rfl hn,λ_=>⟨i,ld O rfl,λa2=>no (by rw [Υ (by omega)]) _ (aa J h.le),λa3=>⟨i,ld O rfl,λa6=>no ?_ _ (aa J h.le),λa7=> ?_⟩⟩⟩
  ·rw [Χ (by omega)];rw [VP (by rw [iF];omega)]
  have a1:i.toNat<(zo (vH g) (vZ tx) [] T).length:=by rw [iF];omega
  obtain ⟨m,Z⟩:∃m,(zo (vH g) (vZ tx) [] T)[i.toNat]? =mB m:=⟨_,N5 a1⟩;have hx:vsA g c tx T i=(m,0):=by unfold vsA;rw [Υ (μ C),Χ (by omega),Z]
  refine h.new λb14 F6 h=> ?_;have Q:F6 b12=_:=h.le _ _ I;refine ⟨_,ld Q rfl,_,rfl,?_⟩;refine h.set1 (w':={w with en:=.func (.func 36) #[] #[Pp b9,Pp b14,Pp b12]}.arr pk) (vp rfl) rfl λF7 h=> ?_;have h:=AL (e:=80) (n:=2) h;have A:=hW.le l4;have h:St G4 F7 (WB bw {w with en:=.func (.func 36) #[] #[Pp b9,Pp b14,Pp b12]} pk [] (Fy b14 (pk,[]))):=h;generalize a0:({w with en:=.func (.func 36) #[] #[Pp b9,Pp b14,Pp b12]}:Wc)=D at h ⊢;have W:D.g=g/\D.tx=tx/\D.lv=.nilFunc/\D.en=.func (.func 36) #[] #[Pp b9,Pp b14,Pp b12]/\WcO G4 D T:=by rw [<- a0];exact ⟨e1,e2,e4,rfl,⟨A.t,A.p,A.e,A.n,A.f,A.s,A.k⟩⟩
  obtain ⟨W,f2,f3,f4,Y⟩:=W;have hi:((i.toNat:Nat):Int)=i:=by omega
  have L:=(zy (sp:=vH D.g) (tx:=vZ D.tx) (E:=Zu i.toNat) T 0 []).trans (Tc _ i.toNat (by rw [W,f2];exact Z));have a8:m.length<=2000000:=by have:=Rf (sp:=vH g) (tx:=vZ tx) T [] i.toNat m Z;rw [WZ] at this;omega
  have U:F7.cell (Am b12 0)=mB (Pp bw):=ld (h.le _ _ I) rfl;refine ⟨_,U,?_⟩;refine (kM (E:=Zu i.toNat) (Lh:=λ_ _ _=>[]) Y (LW (b14:=b14) hN f4 (by rw [hi];exact P) I) (.inl ⟨f3,λ_ _ _=>rfl⟩) (x:=(pk,[])) (by rw [L];show 0+_<=_;omega) h).mono ?_;rintro r F8 ⟨rfl,G5,s5,x5,l5,X,M⟩;rw [L] at M;refine ⟨rfl,x5.1,ld (X.ptAt (i:=2) rfl) rfl,⟨x5.1,by rw [hx],?_⟩,aa J (aa l5 X.le)⟩;rw [hx];have hr:=(X.ownAt (i:=3) rfl).1.rd;rw [show x5.2=m from M] at hr;exact RL.nams.2 hr
end
theorem qe4:aG prog 38=nZ:=by kernel_rfl
theorem Ua:∃b z,SlT 52 66 3 b z:=⟨_,_,underlying52,qgr,qfW,rfl,by decide,by decide⟩
abbrev ko (l:Δ):Ξ:=l.flatMap λ(i:Nat)=>(#[vi 6,vi (i:Int),vi 0]:Γ).toList
theorem qhA (l m:Δ):ko (l++m)=ko l++ko m:=by simp [ko]
theorem ub:∀l:Δ,(ko l).length=l.length*3
 |[]=>rfl
 |x::l=>by have:=ub l;simp only [ko,VD,tT,wo] at this ⊢;rw [this];show 3+_=_;omega
theorem RL.vios {F:PH} {s:Sl} {l:Δ}:RL F s (l.map Vio.mk)↔RdS F s 3 (ko l):=by rw [RL.flat (f:=Vio.arr) (λ_ _ _=>Iff.rfl),List.flatMap_map];exact Iff.rfl
theorem LX {a k:Int} (w:0<=a) (C:a<=255) (h:0<=k) (E:k<=7):(i64.wrap ((BitVec.ofInt (i64).bits (Int.fdiv a (2 ^ (min (pc k) (i64).bits))) &&& BitVec.ofInt (i64).bits (1:Int)).toNat))=if Xb a.toNat k=nZ then 1 else 0:=by
 obtain ⟨n,rfl⟩:=Yu w;obtain ⟨j,rfl⟩:=Yu h;have r:n<256:=by omega
 have D:j<8:=by omega
 rw [show (i64).bits=64 from rfl,N4,YY (by omega)];have A:Int.fdiv (n:Int) (2 ^ j)=((n / 2 ^ j:Nat):Int):=by rw [Zd _ (by exact Int.le_of_lt (Int.pow_pos (by decide)))];simp
 have hd:n / 2 ^ j<256:=Nat.lt_of_le_of_lt (Nat.div_le_self _ _) r;rw [A];have B:(BitVec.ofInt 64 ((n / 2 ^ j:Nat):Int) &&& BitVec.ofInt 64 (1:Int)).toNat=n / 2 ^ j % 2:=by rw [BitVec.toNat_and,BitVec.ofInt_natCast,BitVec.toNat_ofNat,show (BitVec.ofInt 64 (1:Int)).toNat=1 from rfl,Nat.mod_eq_of_lt (by omega),Nat.and_one_is_mod]
 rw [B];unfold Xb;rw [N4,N4];have g:=Nat.mod_two_eq_zero_or_one (n / 2 ^ j);rcases g with g|g
 ·rw [g];rfl
 ·rw [g];rfl
theorem HH {s:ο} {l:List tW} (h:W5 K7 l):K7 (eG s l):=by
 unfold eG;cases e:l.reverse.find? λx=>decide (x.1=s) with
 |none=>exact ⟨Vr _,by decide⟩
 |some x=>exact h x (List.mem_reverse.1 (List.mem_of_find?_eq_some e))
section
variable {F G G0:PH} {g:Gr} {k:Nat} {T:Dtr} {c:Int} {w:Wc} {bw b10 b12:Nat}
abbrev Ub (b12:Nat) (x:Sl×Δ):List (Ψ):=[pt b12 (mX #[x.1.v] 52),own x.1 66 3 (ko x.2)]
theorem LY (D:WcO G0 w T) (h1:w.en=.func (.func 38) #[] #[Pp b10,Pp b12]) (W:G0 b10=mB (mX #[Pp bw] 98)):
  HkE G0 bw w T (Ub b12) (λx=>x.2) (YH (vH w.g) (vZ w.tx) T):=by
 refine .inr ⟨_,_,_,h1,qe4,λj az l G F x hj hl hK H lG h=> ?_⟩;obtain ⟨m,M⟩:=gR hj;obtain ⟨s0,s1,s2,s3,s4,s5,s6,s7⟩:=D.s.nd m (eD M);have lF:=aa lG h.le;have N:F.cell (Am b10 0)=mB (Pp bw):=ld (h.le _ _ (lG _ _ W)) rfl;have a7:=fJ h;have hN:=D.n;have a8:x.1.len=x.2.length:=by have:=(h.ownAt (i:=3) rfl).1.rd.len;rw [ub] at this;omega
 have eE:YH (vH w.g) (vZ w.tx) T j l=if XB (vH w.g) (vZ w.tx) l m=nZ then [] else [j]:=by unfold YH;rw [M]
 dsimp only at H ⊢;rw [eE] at H ⊢;have eU:XB (vH w.g) (vZ w.tx) l m=if (cg w.g m).u.toNat=0 then nZ else Xb (cg w.g m).a.toNat (eG (WG (vZ w.tx) m.kids (cg w.g m).u.toNat) l):=by
  cases m with
  |lf=>rfl
  |nd=>rfl
 rw [eU] at H ⊢;show aj prog _ #[vi (j:Int),Pp b10,Pp b12] F _;refine qft ?_;unfold T2;refine ⟨_,rfl,_,N,_,rfl,?_⟩;refine (qW (h.ptAt (i:=0) rfl) (D.t.le lF) (D.p.le lF) D.f M).mono ?_;rintro r F1 ⟨rfl,l1⟩;have a2:=h.up l1;refine ⟨_,rfl,?_⟩;generalize a9:cg w.g m=C at*;refine a2.var (by simp [ak]) (λb4 G2 F2 Z q4 E=> ?_);have P:=aa lG Z;have B:F2 b4=_:=E.le _ _ q4;have A:F2.cell (Am b10 0)=mB (Pp bw):=ld (E.le _ _ (P _ _ W)) rfl;refine ⟨_,ld B rfl,λO=> ?_,λO=> ?_⟩
 ·have O:C.u=0:=O;rw [Χ (show C.u.toNat=0 by omega),Χ rfl];exact ⟨rfl,G2,x,Z,E,(yD _).symm⟩
 ·have O:¬C.u=0:=O;rw [Υ (show ¬C.u.toNat=0 by omega)] at H ⊢;obtain ⟨c0,J,Q⟩:=s7 (by omega);have a5:C.u.toNat - 1<m.kids.length:=(N6.1 J).1;have I:=jS M J;have a1:=D.s.lf c0 (eD I) Q;have Y:=D.f c0 (eD I);obtain ⟨f0,f1⟩:0<=c0.root.fr/\c0.root.fr<=c0.root.to:=by
   cases c0 with
   |lf tk fr to=>exact ⟨Y.2.2.1,Int.le_of_lt Y.2.2.2⟩
   |nd=>cases Q
  have a4:WG (vZ w.tx) m.kids C.u.toNat=vZ w.tx c0.root.fr c0.root.to:=by unfold WG;rw [J]
  rw [a4] at H ⊢;have b0:=ju m.kids;have a6:=sub_le M;rw [cY] at a6;have L:=E.ptAt (i:=0) rfl;have U:=aa P E.le;have a0:=RL.nams.2 (E.sownRd (i:=1) rfl);refine ⟨_,ld B rfl,_,A,_,rfl,_,A,_,rfl,_,A,_,rfl,_,ld B rfl,?_⟩;dsimp only;rw [show i64.wrap (C.u - 1)=((C.u.toNat - 1:Nat):Int) by rw [aL (by omega)];omega];refine (yh L (D.e.le U) D.n M (Nat.le_of_lt a5)).mono ?_;rintro r F' ⟨rfl,rfl⟩;refine ⟨_,rfl,ld B rfl,A,A,A,ld B rfl,?_⟩;refine (qX L (D.t.le U) I f0 f1 a1).mono ?_;rintro r F' ⟨rfl,rfl⟩;refine ⟨_,rfl,ld B rfl,A,A,A,ld B rfl,?_⟩;refine (Fx (s:=vZ w.tx c0.root.fr c0.root.to) (ld L rfl) a0 (by omega)).mono ?_;rintro r F' ⟨rfl,rfl⟩;have K:=HH (s:=vZ w.tx c0.root.fr c0.root.to) hK;generalize eG (vZ w.tx c0.root.fr c0.root.to) l=kk at*;refine ⟨_,rfl,ld B rfl,A,A,A,ld B rfl,K.1,?_⟩;rw [LX s2 s3 K.1 K.2];refine ⟨λV=> ?_,λV=> ?_⟩
  ·have a3:Xb C.a.toNat kk=nS:=by
    cases e:Xb C.a.toNat kk with
    |false=>rfl
    |true=>rw [e] at V;exact absurd V (by decide)
   rw [a3] at H ⊢;obtain ⟨_,_,TV⟩:=Ua;refine ⟨_,rfl,_,ld (E.ptAt (i:=2) rfl) rfl,rfl,?_⟩;have H:x.2.length+1<=5000000:=H;refine E.push3 TV (c:= #[vi 6,vi (j:Int),vi 0]) rfl (by simp [ak]) (by omega) λs' G3 F3 l3 h3 _=> ?_;refine h3.set2 (w':= #[s'.v]) (vp rfl) rfl λF4 h4=>⟨rfl,G3,(s',x.2++[j]),aa Z l3,?_,rfl⟩;rw [show ko x.2++(#[vi 6,vi (j:Int),vi 0]:Γ).toList=ko (x.2++[j]) by rw [qhA];rfl] at h4;exact h4
  ·have X:Xb C.a.toNat kk=nZ:=by
    cases e:Xb C.a.toNat kk with
    |true=>rfl
    |false=>rw [e] at V;exact absurd rfl V
   rw [X];exact ⟨rfl,G2,x,Z,E,(yD _).symm⟩
def voA (g:Gr) (c:Int) (tx:ο) (T:Dtr):Δ×Int:=if Wg g c tx T≠0 then ([],Wg g c tx T) else (Wm (vH g) (vZ tx) T,0)
def Z9 (a:Δ×Int) (r:ξ) (F':PH):Prop:=∃s:Sl,r=sj #[s.v,vi a.2]/\RL F' s (a.1.map Vio.mk)
theorem Rg {sp:Int->Spc} {tx:Int->Int->ο}:(Wm sp tx T).length<=szN T:=by
 unfold Wm
 have:=List.length_filter_le (λi=>match (zo sp tx [] T)[i]?,bP T i with
 |some s,mB m=> !XB sp tx s m
 |_,_=>nS) (List.range (szN T))
 rw [Wq] at this;exact this
theorem iN {v:Γ} {t:Sl} {tx:ο} (hT:Tab F) (X:GV F v g) (hG:GdG g k) (hf:dY g T) (hN:szN T<=2000000) (ht:RL F t (vq T)) (c0:0<=c) (c1:c<18446744073709551616):
  ν 15 #[oc v,tJ .u64 c,pg tx,t.v] F λr Z=>Z9 (voA g c tx T) r Z/\F.le Z:=by
 refine qfn ?_;unfold TU;refine fresh λb4 F2 C q5 _=> ?_;refine ⟨v,X.size,ai q5,?_⟩;refine (ny (hT.le C) (X.le C) hG hf hN (ht.le C) c0 c1).mono ?_;rintro r F3 (⟨I,rfl,U⟩|⟨I,bw,w,G3,rfl,U,e1,e2,e3,e4,hW,h⟩)
 ·have H:=aa C U;refine ⟨_,_,rfl,?_⟩;refine (St.start F3).new λb12 F4 h=>h.set0 (w':= #[pj nC]) (by decide) rfl λF5 h=>⟨λ_=>⟨⟨pk,?_,?_⟩,aa H h.le⟩,λQ=>absurd I Q⟩
  ·unfold voA;rw [Χ I]
  ·unfold voA;rw [Χ I];exact RL.nil _
 ·have H:=aa C U;refine ⟨_,_,rfl,?_⟩;refine h.new λb10 F4 h=>h.set0 (w':= #[Pp bw]) (by decide) rfl λF5 h=> ?_;obtain ⟨Y,l4,⟨H4,a4,a5⟩,h⟩:=h.pin;have D:=a5 _ _ a4;have V:=aa H l4;have W:voA g c tx T=(Wm (vH g) (vZ tx) T,0):=by unfold voA;rw [Υ (μ I)]
  refine ⟨λQ=>absurd rfl Q,λ_=> ?_⟩;refine h.new λb12 F6 h=> ?_;refine ⟨_,ld (h.le _ _ D) rfl,_,rfl,?_⟩;refine h.set1 (w':={w with en:=.func (.func 38) #[] #[Pp b10,Pp b12]}.arr pk) (vp rfl) rfl λF7 h=> ?_;have h:=AL (e:=66) (n:=3) h;have A:=hW.le l4;have h:St Y F7 (WB bw {w with en:=.func (.func 38) #[] #[Pp b10,Pp b12]} pk [] (Ub b12 (pk,[]))):=h;generalize O:({w with en:=.func (.func 38) #[] #[Pp b10,Pp b12]}:Wc)=B at h ⊢;have M:B.g=g/\B.tx=tx/\B.lv=.nilFunc/\B.en=.func (.func 38) #[] #[Pp b10,Pp b12]/\WcO Y B T:=by rw [<- O];exact ⟨e1,e2,e4,rfl,⟨A.t,A.p,A.e,A.n,A.f,A.s,A.k⟩⟩
  obtain ⟨M,f2,f3,f4,J⟩:=M;have L:=qeZ (sp:=vH B.g) (tx:=vZ B.tx) T;have a0:=Rg (T:=T) (sp:=vH B.g) (tx:=vZ B.tx);refine ⟨_,ld (h.le _ _ D) rfl,?_⟩;refine (kM (E:=YH (vH B.g) (vZ B.tx) T) (Lh:=λ_ _ _=>[]) J (LY (b12:=b12) J f4 D) (.inl ⟨f3,λ_ _ _=>rfl⟩) (x:=(pk,[])) (by rw [L];show 0+_<=_;omega) h).mono ?_;rintro r F8 ⟨rfl,G5,s5,P,l5,N,K⟩;rw [L] at K;refine ⟨rfl,P.1,ld (N.ptAt (i:=2) rfl) rfl,⟨P.1,by rw [W],?_⟩,aa V (aa l5 N.le)⟩;rw [W];have hr:=(N.ownAt (i:=3) rfl).1.rd;rw [show P.2=Wm (vH B.g) (vZ B.tx) T from K,M,f2] at hr;exact RL.vios.2 hr
theorem kq {v:Γ} {t:Sl} {tx:ο} (H:Tab F) (C:GV F v g) (M:GdG g k) (L:dY g T) (I:szN T<=2000000) (J:RL F t (vq T)) (c0:0<=c) (c1:c<18446744073709551616):
  ν 19 #[oc v,tJ .u64 c,pg tx,t.v] F λr E=>r=oY (decide ((voA g c tx T).2=0) && (voA g c tx T).1.isEmpty)/\F.le E:=by
 refine qfo ?_;unfold TX;refine fresh λQ F2 h q5 _=>⟨v,C.size,ai q5,?_⟩;refine (iN (H.le h) (C.le h) M L I (J.le h) c0 c1).mono ?_;rintro r P ⟨⟨s,rfl,K⟩,O⟩;have A:=aa h O;have D:=K.len;rw [vb] at D;refine ⟨s,_,rfl,λN=>⟨?_,A⟩,λB=>⟨?_,A⟩⟩
 ·rw [ε N,V8,D];congr 1;cases (voA g c tx T).1 with
  |nil=>rfl
  |cons=>rw [η (by simp only [wo];omega)];rfl
 ·rw [η B,WN]
end
def VA (l:Δ):Nat->List Sy->Nat
 |n,[]=>n
 |n,s::r=>VA l (if s.t=nZ then n else max n (l.getD s.i.toNat 0)) r
theorem yk (l:Δ) (s:Sy):∀(r:List Sy) (n:Nat),VA l n (r++[s])=if s.t=nZ then VA l n r else max (VA l n r) (l.getD s.i.toNat 0)
 |[],n=>rfl
 |x::r,n=>by rw [zH,VA,yk l s r,VA]
theorem nz (l:Δ) {m:Nat}:∀(r:List Sy) (n:Nat),VA l n r<=m↔n<=m/\∀s∈r,s.t=nS->l.getD s.i.toNat 0<=m
 |[],n=>by simp [VA]
 |s::r,n=>by
  rw [VA,nz l r];cases h:s.t with
  |true=>simp [h]
  |false=>simp only [VQ,if_false,tQ,forall_eq_or_imp,h,true_implies,Nat.max_le,and_assoc]
section
variable (P N:Nat) (pr:Nat->Bool) (lf:Nat->Nat) (rt:Nat->List Sy)
def hgt (l:Δ) (p:Nat):Nat:=if pr p=nZ then min (VA l 0 (rt p)+1) 1000 else 1000
def VK:Nat->Nat->Prop
 |0,_=>False
 |k+1,n=>∃p,p<P/\pr p=nZ/\lf p=n/\∀s∈rt p,s.t=nS->VK k s.i.toNat
theorem qY:∀(k n:Nat),VK P pr lf rt k n->VK P pr lf rt (k+1) n
 |0,_,h=>h.elim
 |k+1,n,⟨p,h1,h2,h3,h4⟩=>⟨p,h1,h2,h3,λs r g=>qY k _ (h4 s r g)⟩
theorem yl {k j n:Nat} (h:VK P pr lf rt k n) (g:k<=j):VK P pr lf rt j n:=by
 induction g with
 |refl=>exact h
 |step _ ih=>exact qY P pr lf rt _ n ih
structure HIp (r p:Nat) (l:Δ):Prop where
 len:l.length=N
 cap:∀n,n<N->l.getD n 0<=1000
 sd:∀n,n<N->l.getD n 0<1000->VK P pr lf rt (l.getD n 0) n
 lo:∀k,k<=r->∀n,n<N->VK P pr lf rt k n->l.getD n 0<=k
 nx:∀q,q<p->pr q=nZ->(∀s∈rt q,s.t=nS->VK P pr lf rt r s.i.toNat)->l.getD (lf q) 0<=r+1
variable {P N pr lf rt}
theorem lM {l:Δ} {i j v:Nat} (hi:i<l.length):(l.set i v).getD j 0=if j=i then v else l.getD j 0:=by
 rw [Vb,Vb];by_cases h:j=i
 ·subst h;rw [Χ rfl,X3 hi];rfl
 ·rw [Υ h,Zj (Ne.symm h)]
theorem HIp.hgt_sd {r p q:Nat} {l:Δ} (h:HIp P N pr lf rt r p l) (E:q<P) (D:∀s∈rt q,s.t=nS->s.i.toNat<N) (C:hgt pr rt l q<1000):VK P pr lf rt (hgt pr rt l q) (lf q):=by
 unfold hgt at C ⊢;split at C
 ·rename_i B;rw [Χ B] at ⊢;have e:min (VA l 0 (rt q)+1) 1000=VA l 0 (rt q)+1:=by omega
  rw [e];refine ⟨q,E,B,rfl,λs A w=> ?_⟩;have g:=((nz l (m:=VA l 0 (rt q)) (rt q) 0).1 (tI _)).2 s A w;exact yl P pr lf rt (h.sd _ (D s A w) (by omega)) g
 ·omega
theorem HIp.step {r p:Nat} {l:Δ} (h:HIp P N pr lf rt r p l) (K:p<P) (G:lf p<N) (H:∀s∈rt p,s.t=nS->s.i.toNat<N) (J:r<900):HIp P N pr lf rt r (p+1) (l.set (lf p) (min (l.getD (lf p) 0) (hgt pr rt l p))):=by
 have hi:lf p<l.length:=by rw [h.len];exact G
 have D:=h.hgt_sd K H;have M:=h.cap _ G;refine ⟨by rw [YA];exact h.len,λn C=> ?_,λn C=> ?_,λk I n C E=> ?_,λq O A B=> ?_⟩
 ·rw [lM hi];split
  ·omega
  ·exact h.cap n C
 ·rw [lM hi];split
  ·rename_i e;subst e;intro g;by_cases L:l.getD (lf p) 0<=hgt pr rt l p
   ·rw [YY L] at g ⊢;exact h.sd _ G g
   ·rw [Nat.min_eq_right (by omega)] at g ⊢;exact D g
  ·exact h.sd n C
 ·rw [lM hi];have:=h.lo k I n C E;split
  ·rename_i e;subst e;omega
  ·exact this
 ·rw [lM hi];by_cases e:lf q=lf p
  ·rw [Χ e];by_cases w:q<p
   ·have:=h.nx q w A B;rw [e] at this;omega
   ·have:q=p:=by omega
    subst this;have:hgt pr rt l q<=r+1:=by unfold hgt;rw [Χ A];have:=(nz l (m:=r) (rt q) 0).2 ⟨yM _,λs D E=>h.lo r (tI _) _ (H s D E) (B s D E)⟩;omega
    omega
  ·rw [Υ e];refine h.nx q ?_ A B;by_cases w:q=p
   ·subst w;exact absurd rfl e
   ·omega
theorem HIp.next {r:Nat} {l:Δ} (h:HIp P N pr lf rt r P l):HIp P N pr lf rt (r+1) 0 l:=by
 refine ⟨h.len,h.cap,h.sd,λk E n D g=> ?_,λq G=>by omega⟩;by_cases e:k<=r
 ·exact h.lo k e n D g
 ·have:k=r+1:=by omega
  subst this;obtain ⟨p,C,A,B,w⟩:=g;subst B;exact h.nx p C A w
theorem HIp.init:HIp P N pr lf rt 0 0 (List.replicate N 1000):=by
 have r:∀n,n<N->(List.replicate N 1000).getD n 0=1000:=λn g=>by rw [Vb,List.getElem?_replicate,Χ g];rfl
 refine ⟨Xn,λn g=>by rw [r n g];exact tI _,λn g h=>by rw [r n g] at h;omega,λk A n g w=> ?_,λq B=>by omega⟩;have:k=0:=by omega
 subst this;exact w.elim
theorem uc:∀(k n:Nat),VK P pr lf rt (k+1) n->¬VK P pr lf rt k n->(∀p,p<P->∀s∈rt p,s.t=nS->s.i.toNat<N)->n<N->∃l:Δ,l.length=k+1/\(∀x∈l,x<N)/\l.Nodup/\(∀x∈l,VK P pr lf rt (k+1) x)/\∀x∈l,x=n\/VK P pr lf rt k x
 |0,n,h,hn,hr,hN=>⟨[n],rfl,by simpa using hN,by simp,by simpa using h,by simp⟩
 |k+1,n,h,hn,hr,hN=>by
  obtain ⟨p,D,I,J,E⟩:=id h;have C:∃s∈rt p,s.t=nS/\¬VK P pr lf rt k s.i.toNat:=by refine Classical.byContradiction λH=>hn ⟨p,D,I,J,λs w r=>Classical.byContradiction λB=>H ⟨s,w,r,B⟩⟩
  obtain ⟨s,w,r,B⟩:=C;obtain ⟨l,K,G,L,A,O⟩:=uc k s.i.toNat (E s w r) B hr (hr p D s w r);refine ⟨n::l,by rw [wo,K],λx g=> ?_,Wx.2 ⟨λM=>hn (A n M),L⟩,λx g=> ?_,λx g=> ?_⟩
  ·rcases tQ.1 g with rfl|g
   ·exact hN
   ·exact G x g
  ·rcases tQ.1 g with rfl|g
   ·exact h
   ·exact qY P pr lf rt _ x (A x g)
  ·rcases tQ.1 g with rfl|g
   ·exact .inl rfl
   ·exact .inr (A x g)
theorem C1 (g:∀p,p<P->∀s∈rt p,s.t=nS->s.i.toNat<N):∀(k n:Nat),n<N->VK P pr lf rt k n->VK P pr lf rt N n
 |0,n,_,h=>h.elim
 |k+1,n,hn,h=>by
  by_cases e:VK P pr lf rt k n
  ·exact C1 g k n hn e
  ·obtain ⟨l,A,w,B,_,_⟩:=uc k n h e g hn;have:=cS l (List.range N) B λx r=>Wy.2 (w x r);rw [A,Wq] at this;exact yl P pr lf rt h this
structure HF (P N:Nat) (pr:Nat->Bool) (lf:Nat->Nat) (rt:Nat->List Sy) (l:Δ):Prop where
 len:l.length=N
 le:∀n,n<N->l.getD n 0<1000->l.getD n 0<=N
 best:∀n,n<N->l.getD n 0<1000->∃p,p<P/\lf p=n/\hgt pr rt l p=l.getD n 0
theorem LZ {l:Δ} {p:Nat} (h:hgt pr rt l p<1000) {s:Sy} (w:s∈rt p) (r:s.t=nS):pr p=nZ/\l.getD s.i.toNat 0<hgt pr rt l p:=by
 unfold hgt at h ⊢;by_cases g:pr p=nZ
 ·rw [Χ g] at h ⊢;have:=((nz l (m:=VA l 0 (rt p)) (rt p) 0).1 (tI _)).2 s w r;exact ⟨g,by omega⟩
 ·rw [Υ g] at h;omega
theorem Rh {l:Δ} {p:Nat} (h:hgt pr rt l p<1000):pr p=nZ:=by
 unfold hgt at h;by_cases g:pr p=nZ
 ·exact g
 ·rw [Υ g] at h;omega
theorem HIp.final {l:Δ} (h:HIp P N pr lf rt (N+1) 0 l) (K:N<900) (C:∀p,p<P->∀s∈rt p,s.t=nS->s.i.toNat<N):HF P N pr lf rt l:=by
 have r:∀n,n<N->l.getD n 0<1000->l.getD n 0<=N:=λn g A=>h.lo N (by omega) n g (C1 C _ n g (h.sd n g A));refine ⟨h.len,r,λn g A=> ?_⟩;have L:=r n g A;have w:=h.sd n g A;generalize ev:l.getD n 0=v at*;cases v with
 |zero=>exact w.elim
 |succ v=>
  obtain ⟨p,B,J,E,H⟩:=w;have I:hgt pr rt l p<=v+1:=by unfold hgt;rw [Χ J];have:=(nz l (m:=v) (rt p) 0).2 ⟨yM _,λs w D=>h.lo v (by omega) _ (C p B s w D) (H s w D)⟩;omega
  have G:=h.lo (hgt pr rt l p) (by omega) n g (by
   have:=h.hgt_sd B (C p B) (by omega)
   rwa [E] at this)
  exact ⟨p,B,E,by omega⟩
end
structure GrR (nf:Prop) (hs o:Nat) (m:Ttr):Prop where
 nfb:nf->yP m<=6 ^ hs
 fb:∃f,yP m<=1081*f+216/\f<=yP m/\(f=0\/o+f<=41)
structure GrL (nf:Prop) (h o:Nat) (ks:List Ttr):Prop where
 nfb:nf->y4 ks<=ks.length*6 ^ h
 fb:∃f,y4 ks<=1081*f+216*ks.length/\f<=y4 ks/\(f=0\/o+f<=41)
theorem GrL.nil {g:Prop} {h o:Nat}:GrL g h o []:=⟨λ_=>by rw [fz];exact yM _,0,by rw [fz];exact yM _,yM _,.inl rfl⟩
theorem GrL.snoc {r g:Prop} {h A o:Nat} {ks:List Ttr} {m:Ttr} (B:GrL r h o ks) (D:GrR g A (o+y4 ks) m) (E:r->g) (H:r->A<=h):GrL r h o (ks++[m]):=by
 have e:y4 (ks++[m])=y4 ks+yP m:=by rw [kT,i7,fz];omega
 have C:(ks++[m]).length=ks.length+1:=by simp
 refine ⟨λn=> ?_,?_⟩
 ·have O:=B.nfb n;have M:=D.nfb (E n);have N:6 ^ A<=6 ^ h:=Wi (by decide) (H n);rw [e,C,Wa];omega
 ·obtain ⟨f,J,K,G⟩:=B.fb;obtain ⟨q,L,I,w⟩:=D.fb;refine ⟨f+q,?_,?_,?_⟩
  ·rw [e,C,Nat.mul_add];omega
  ·rw [e];omega
  ·rcases w with w|w
   ·subst w;rw [Nat.add_zero];exact G
   ·exact .inr (by omega)
theorem GrR.qa6 {h:Prop} {r o:Nat} {g:Int}:GrR h r o (.lf g):=by
 have e:yP (.lf g)=1:=by rw [kS];show 1+y4 []=1;rw [fz]
 exact ⟨λ_=>by rw [e];exact Nat.one_le_pow _ _ (by decide),0,by rw [e];decide,by omega,.inl rfl⟩
theorem GrR.nd {g r:Prop} {h o:Nat} {pr:Int} {ks:List Ttr} (w:GrL r (h - 1) (o+1) ks) (B:ks.length<=5) (H:1<=h) (D:g->r) (C:g->h<=3) (A:g\/o<=40):GrR g h o (.nd pr ks):=by
 have e:yP (.nd pr ks)=1+y4 ks:=kS _;have key:g->yP (.nd pr ks)<=6 ^ h:=λn=>by
  have a:=w.nfb (D n);have b:ks.length*6 ^ (h - 1)<=5*6 ^ (h - 1):=W1 _ B;have c:6 ^ h=6 ^ (h - 1)*6:=by rw [<- Nat.pow_succ];congr 1;omega
  have d:1<=6 ^ (h - 1):=Nat.one_le_pow _ _ (by decide);rw [e,c];omega
 refine ⟨key,?_⟩;rcases A with n|A
 ·have a:=key n;have b:6 ^ h<=6 ^ 3:=Wi (by decide) (C n);have c:(6:Nat) ^ 3=216:=by decide
  exact ⟨0,by omega,yM _,.inl rfl⟩
 ·obtain ⟨f,E,G,I⟩:=w.fb;refine ⟨f+1,?_,?_,.inr ?_⟩
  ·rw [e,Nat.mul_add];omega
  ·rw [e];omega
  ·omega
theorem GrR.bound {g:Prop} {r:Nat} {m:Ttr} (h:GrR g r 0 m):yP m<=44537:=by obtain ⟨f,w,A,B⟩:=h.fb;omega
section
variable {F G:PH} {g:Gr} {k:Nat} {c:Int}
theorem qhg {v:Γ} (hg:GV F v g) (Q:OkK g k) (hf:(vf g.fam).ev (wP c)=nZ) (c0:0<=c) (c1:c<18446744073709551616) {i:Nat} {x:Pr} (hx:g.qa0[i]? =mB x):
  ν 138 #[oc v,tJ .u64 c,vi i] F λr F'=>r=oY ((bI g i).ev (wP c))/\F.le F':=by
 obtain ⟨o1,o2,o3,o4⟩:=dk Q.ok;obtain ⟨cs,n,t,s,p,l,f,rfl,hs⟩:=hg;have hi:i<g.qa0.length:=(N6.1 hx).1;have ep:=hs.p.len;have et:=hs.t.len;have U:=wh hx;obtain ⟨a4,a6,_,a8⟩:=Q.prod U;have c2:=o4 x U;have P:=Q.prs_ev hx (wP c);rw [hf,V8] at P;refine qfO ?_;unfold QD;refine (St.start F).newG λb3 G1 F1 l1 q3 _ h=> ?_;have W:=hs.le l1;refine ⟨p,ld (h.le _ _ q3) rfl,?_⟩;refine u9 W.p (by decide) (by omega) (by omega) λb4 b0 x' V Z hc=> ?_;rw [N4,hx] at V;cases V;refine ⟨b0,Mem.len hc,aO h.le Z,?_⟩;refine h.var (Mem.st hc) (λb7 G2 F2 l2 q7 h=> ?_) rfl (Mem.len hc);obtain ⟨r,n8,l8,rfl,hr,b2,_⟩:=hc;have er:=hr.len;refine bC (xM · c b3 b7 _) x.right.length (λj F'=>∃G':PH,G2.le G'/\St G' F' []/\((x.right.take j).all λs=> !s.t || (eH g s.i).ev (wP c))=nZ) ⟨G2,au _,h,by rw [Va];rfl⟩ ?_;rintro j F3 N hj ⟨G3,l3,h,A⟩ next;have w:=aa l2 l3;have D:=l3 _ _ q7;unfold xM;refine ⟨r,ld (h.le _ _ D) rfl,λH=> ?_,λb8=> ?_⟩
 ·have H:j<x.right.length:=by omega
  refine ⟨r,ld (h.le _ _ D) rfl,?_⟩;refine u9 (hr.le w) (by decide) (by omega) (by omega) λb6 b1 I E B Y=> ?_;rw [N4] at E;obtain rfl:b1=I.arr:=Y;obtain ⟨s0,_,s2⟩:=a8 I (wh E);have a1:=bq E;refine ⟨I.t,aF (aO h.le B) rfl,λht=> ?_,λht=> ?_⟩
  ·obtain ⟨tk,K,_⟩:=s2 ht;have c6:I.i.toNat<g.qa2.length:=(N6.1 K).1;obtain ⟨tx,td⟩:=Q.tok (wh K);have ed:eH g I.i=vf tk.cond:=by unfold eH;rw [K]
   have a2:=w _ _ q3;refine ⟨t,ld (h.le _ _ a2) rfl,r,ld (h.le _ _ D) rfl,?_⟩;refine u9 (hr.le w) (by decide) (by omega) (by omega) λc3 a5 c5 O C a0=> ?_;rw [N4,E] at O;cases O;obtain rfl:a5=I.arr:=a0;refine ⟨I.i,aN (aO h.le C) (i:=1) rfl,?_⟩;refine u9 (W.t.le w) (by decide) s0 (by omega) λc4 b5 b9 M L a3=> ?_;rw [K] at M;cases M;obtain ⟨pp,nn,rfl,_,a7⟩:=a3;have a9:DV G3 #[nn.v,vi tk.cond.2] (ph (eH g I.i)):=by rw [ed,<- td];exact DV.mk a7
   have X:=(Q.tkd I.i).small Q.le;refine ⟨#[nn.v,vi tk.cond.2],rfl,aO h.le (t8 L),?_⟩;refine h.runv (pn a9 X.1 X.2 c0 c1) λG4 F4 J h=>⟨_,rfl,aN (aO (aa J h.le) C) (i:=1) rfl,ld (h.le _ _ (J _ _ D)) rfl,ld (h.le _ _ (J _ _ a2)) rfl,aF (aO (aa J h.le) B) rfl,ld (h.le _ _ (J _ _ D)) rfl,λhn=> ?_,λhn=> ?_⟩
   ·refine ⟨?_,aa l1 (aa w (aa J h.le))⟩;rw [P];have:(x.right.all λs=> !s.t || (eH g s.i).ev (wP c))=nS:=by rw [List.all_eq_false];refine ⟨I,wh E,?_⟩;rw [ht];simpa using hn
    rw [this,Bool.and_false]
   ·unfold qH;rw [aD H];refine next _ H ⟨G4,aa l3 J,h,?_⟩;rw [a1,List.all_append,A,Xj,ht];simpa using hn
  ·unfold qH;rw [aD H];refine next _ H ⟨G3,l3,h,?_⟩;rw [a1,List.all_append,A,Xj,ht];rfl
 ·have e:j=x.right.length:=by omega
  subst e;rw [wV] at A;unfold Fj;have hd:DV G3 #[n8.v,vi x.cond.2] (ph (vf x.cond)):=by rw [<- a6];exact DV.mk (b2.le w)
  have X:=a4.small Q.le;refine ⟨#[n8.v,vi x.cond.2],rfl,fZ (h.le _ _ D) rfl,?_⟩;refine h.runv (pn hd X.1 X.2 c0 c1) λG4 F4 J h=>⟨_,rfl,?_,aa l1 (aa w (aa J h.le))⟩;rw [P,A,Bool.and_true]
end
variable {R:VR} {F:PH}
set_option maxHeartbeats 4000000
def HI (f e:Nat) (a:Sl) (R:VR) (F:PH):Prop:=Lx F (Am e 9) λc=>Lr F 4 (Am e 10) λd=>aB F (Am f 0) 4 d λF=>Lr F 4 (Am f 0) λb=>R (sj #[pg c,oc b,nV a]) F
def HJ (d:Sl->Int->Ω) (_ _ _ _:Nat) (c:Int) (a:Sl) (b:Int) (_:VR) (F:PH):Prop:=d a b (i64.wrap (c+1)) F
def vr (i:Sl->Int->Ω) (j k l g:Nat) (a:Sl) (e:Int) (h:Nat) (c:Int) (R:VR) (F:PH):Prop:=Lr F 4 (Am h 0) λb=>b.size=4/\Nb F (mX b 47) λf F=>Ap 43 #[nV a,nV (Sb f 1)] F λd F=>HJ i j k l g e d c R F
def HK (k:Sl->Int->Ω) (l m n d:Nat) (a:Sl) (c j:Int) (e:Nat) (b:Int) (R:VR) (F:PH):Prop:=Lr F 4 (Am d 10) λf=>Ci 60 #[oc f,(vi c)] F λg F=>rj F (Am e 2) (vi g) λF=>Lr F 4 (Am d 10) λh=>Ci 60 #[oc h,(vi b)] F λi F=>rj F (Am e 3) (vi i) λF=>vr k l m n d a j e c R F
def vu (_:Sl->Int->Ω) (f:Int->Ω) (_ _ _ _:Nat) (_:Sl) (_ _:Int) (_:Nat) (c a:Int) (_:VR) (F:PH):Prop:=f a (i64.wrap (c+1)) F
def AM (p:Sl->Int->Ω) (r:Int->Ω) (o n q f:Nat) (b:Sl) (e d:Int) (g:Nat) (R:VR) (a c:Int) (F:PH):Prop:=Lr F 9 (Am o 0) λh=>Ls F (Am n 0) λi=>Ci 59 #[oc h,nV i,(vi d)] F λj F=>Bc (c<j) (Ls F (Am n 0) λk=>Ix k c λl=>Li F (od l (pc c*4)) λm=>Bc (m<0) (vu p r o n q f b e d g c (i64.wrap (a+1)) R F) (vu p r o n q f b e d g c a R F)) (HK p o n q f b e d g a R F)
def vv (z:Sl->Int->Ω) (A v x f:Nat) (R:VR) (a:Sl) (c b:Int) (F:PH):Prop:=Ls F (Am v 0) λh=>Bc (b<(h.len:Int)) (Ls F (Am v 0) λi=>Ix i b λj=>Li F (od j (pc b*4)) λk=>Ls F (Am v 0) λl=>Ix l b λm=>Li F (od (od m (pc b*4)) 1) λn=>Nb F (mX (#[vi 0,vi 0,vi 0,vi 0]) 47) λe F=>aB F (Am e 0) 4 (#[(vi k),(vi n),vi 0,vi 0]:Γ) λF=>Li F (Am e 0) λo=>Bc (o<0) (Ls F (Am f 10) λp=>Ix p c λq=>Li F (od q (pc c*5)) λr=>rj F (Am e 2) (vi r) λF=>Ls F (Am f 10) λs=>Ix s c λt=>Li F (od (od t (pc c*5)) 1) λu=>rj F (Am e 3) (vi u) λF=>vr z A v x f a b e (i64.wrap (c+1)) R F) ((∃(y:Nat->Int->Ω) (w:Nat),y w c b F/\∀w d g F,y w d g F-> AM z (Wf y w) A v x f a c b e R d g F))) (HI x f a R F)
def AN (j i k b:Nat) (R:VR) (F:PH):Prop:=Ls F (Am i 1) λf=>Cu 57 #[(Pp b),nV f] F λF=>Lx F (Am b 9) λe=>rj F (Am b 12) (vi (e.size:Int)) λF=>rj F (Am b 13) (vi (-1:Int)) λF=>(∃(h:Nat->Sl->Int->Ω) (g:Nat),h g pk 0 0 F/\∀g a c d F,h g a c d F-> vv (Zy h g) j i k b R a c d F)
def nA (c:Sl->Ω) (_:Sl) (_ _ _ _:Nat) (b:Int) (a:Sl) (_:VR) (F:PH):Prop:=c a (i64.wrap (b+1)) F
def vx (h:Sl->Ω) (f:Sl) (i j k a:Nat) (b:Sl) (c:Int) (g:Bool) (R:VR) (F:PH):Prop:=Bb (g) (Lx F (Am a 9) λd=>d.size+(ByteArray.mk #[10]).size<=9223372036854775807/\rj F (Am a 9) (pg (d++(ByteArray.mk #[10]))) λF=>nA h f i j k a c b R F) (Lx F (Am a 9) λe=>e.size+(ByteArray.mk #[32]).size<=9223372036854775807/\rj F (Am a 9) (pg (e++(ByteArray.mk #[32]))) λF=>nA h f i j k a c b R F)
def AO (w:Sl->Ω) (e:Sl) (u j v c:Nat) (R:VR) (b:Sl) (a:Int) (F:PH):Prop:=Ls F (Am j 0) λk=>Bc (a<(k.len:Int)) (Ls F (Am j 0) λl=>Ix l a λm=>Lr F 4 (od m (pc a*4)) λn=>Nb F (mX (#[vi 0,vi 0,.string ⟨#[]⟩,tU nC 0 0]) 137) λf F=>aB F (Am f 0) 4 n λF=>Li F (Am f 0) λo=>Bc (0<=o) (nA w e u j v c a b R F) (Ls F (Am f 3) λp=>Cu 57 #[(Pp c),nV p] F λF=>Ls F (Am c 10) λg=>Lx F (Am f 2) λq=>Li F (Am f 1) λr=>Ca 58 #[(Pp c),pg q,(vi r)] F λh F=>F.cell (Am c 10)=mB (nV g)/\h.size=5/\Nb F (mX h 140) λx F=>Ap 87 #[nV g,nV (Sb x 1)] F λs F=>rj F (Am c 10) (nV s) λF=>Nb F (mX #[(vi a)] 3) λy F=>Ap 76 #[nV b,nV (Sb y 1)] F λd F=>Bc ((d.len:Int)<=(e.len:Int)) (Ix e (i64.wrap ((d.len:Int) - 1)) λt=>∃i,F.cell (od t (pc (i64.wrap ((d.len:Int) - 1))*1))=mB (tJ .u8 i)/\vx w e u j v c d a (decide ((tK i 2)=0)) R F) (vx w e u j v c d a nS R F))) (AN u j v c R F)
def Uc (e f:Γ) (g:Sl) (R:VR) (F:PH):Prop:=Nb F (mX e 39) λj F=>Nb F (mX f 94) λk F=>Nb F (mX (#[tU nC 0 0,.slice nC 0 0,vi 0,vi 0]) 89) λl F=>Lr F 9 (Am j 0) λb=>b.size=9/\Nb F (mX (wr (#[tU nC 0 0,.slice nC 0 0,vi 0,.slice nC 0 0,.slice nC 0 0,.slice nC 0 0,vi 0,.slice nC 0 0,.slice nC 0 0,.string ⟨#[]⟩,tU nC 0 0,.slice nC 0 0,vi 0,vi 0]:Γ) 0 b.toList) 135) λh F=>(∃(i:Nat->Sl->Ω) (d:Nat),i d pk 0 F/\∀d a c F,i d a c F-> AO (Wf i d) g j k l h R a c F)
theorem qe5 {a:Γ} {b:Γ} {c:Sl} (h:Uc a b c R F):ν 28 #[oc a,oc b,nV c] F R:=Rx.Λ (.qa8 (.qa8 (.qa8 (.J nS [] (.qa8 (.L [(10,.sl),(11,.int .i64)] (.qa8 (.J nS [(10,.sl)] (.qa8 (.qa8 (.qa8 (.qa8 (.qa8 (.qa8 (.J nS [(77,.bool)] .N .N))))))) .N)))) (.qa8 (.qa8 (.qa8 (.qa8 (.qa8 (.J nS [(14,.sl)] (.qa8 (.L [(14,.sl),(15,.int .i64),(16,.int .i64)] (.qa8 (.J nS [(14,.sl),(15,.int .i64)] (.qa8 (.J nS [(15,.int .i64)] (.qa8 (.qa8 (.qa8 (.J nS [(18,.int .i64)] (.qa8 (.L [(18,.int .i64),(19,.int .i64)] (.qa8 (.J nS [(18,.int .i64)] .N .N)))) .N)))) .N)) .N)))) .N)))))))))) h
def vy (i j k:Nat) (e:Int) (h:Θ) (f:Bool) (R:VR) (F:PH):Prop:=Lr F 9 (Am k 0) λg=>∃a,h=mB a/\Lr F 2 a λd=>aB F (Am i 0) 9 g λF=>F.row a d/\aB F (Am j 0) 2 d λF=>Lr F 9 (Am i 0) λb=>Lr F 2 (Am j 0) λc=>R (sj #[oc b,tJ .u64 e,oc c,oY f]) F
def Ud (m:Γ) (R:VR) (F:PH):Prop:=Nb F (mX m 28) λg F=>Nb F (mX zG 39) λr F=>Nb F (mX (#[tU nC 0 0,.slice nC 0 0]) 94) λs F=>Lr F 5 (Am g 0) λn=>Ca 64 #[oc n] F λo F=>Nb F (mX zG 39) λl F=>aB F (Am l 0) 9 o λF=>Lr F 9 (Am l 0) λp=>Lk F .u8 (Am g 5) λq=>ν 65 #[oc p,tJ .u8 q] F λv F=>∃c,v=(tJ .u64 c)/\Lr F 9 (Am l 0) λh=>Li F (Am l 6) λi=>Ls F (Am g 6) λa=>Ls F (Am g 6) λb=>0<=(min (b.len:Int) 40)/\0<=(pc (min (b.len:Int) 40))/\(pc (min (b.len:Int) 40))<=a.cap/\((ν 44 #[oc h,tJ .u64 c,(vi i),nV (xy a 1 0 (pc (min (b.len:Int) 40)) a.cap)] F λv F=>∃j,∃d,v=(sj #[oc j,oY d])/\F.cell (Am g 6)=mB (nV b)/\F.cell (Am g 6)=mB (nV a)/\Nb F (mX (#[tU nC 0 0,.slice nC 0 0]) 94) λt F=>aB F (Am t 0) 2 j λF=>vy r s l c (mB (Am t 0)) d R F)/\(Nb F (mX (#[tU nC 0 0,.slice nC 0 0]) 94) λk F=>ν 44 #[oc h,tJ .u64 c,(vi i),nV (xy a 1 0 (pc (min (b.len:Int) 40)) a.cap)] F λv F=>∃e,∃f,v=(sj #[oc e,oY f])/\F.cell (Am g 6)=mB (nV b)/\F.cell (Am g 6)=mB (nV a)/\aB F (Am k 0) 2 e λF=>vy r s l c (mB (Am k 0)) f R F))
theorem qe6 {a:Γ} (h:Ud a R F):ν 30 #[oc a] F R:=Rx.Λ (.qa8 (.qa8 (.qa8 (.J nS [(8,.ptr),(9,.bool)] .N .N)))) h
def Ue (q:Γ) (g a:Int) (r:Sl) (R:VR) (F:PH):Prop:=Nb F (mX q 39) λs F=>Nb F (mX (#[tU nC 0 0,.slice nC 0 0]) 94) λp F=>Lr F 9 (Am s 0) λc=>Lr F 9 (Am s 0) λh=>Cs 72 #[oc h,tJ .u64 g] F λi F=>F.row (Am s 0) c/\c.size=9/\Nb F (mX (tL (tL (tL (wr (#[tU nC 0 0,.slice nC 0 0,vi 0,.slice nC 0 0,.slice nC 0 0,.slice nC 0 0,vi 0,.slice nC 0 0,.slice nC 0 0,.int .u64 0,.slice nC 0 0,vi 0,.slice nC 0 0,.slice nC 0 0]:Γ) 0 c.toList) 9 (tJ .u64 g)) 10 (nV r)) 12 (nV i)) 158) λd F=>Ls F (Am d 12) λj=>Ix j a λk=>Li F (od k (pc a*1)) λl=>Bc (1000<=l) (aB F (Am p 0) 2 (#[tU nC 0 0,.slice nC 0 0]:Γ) λF=>Lr F 2 (Am p 0) λe=>R (sj #[oc e,oY nS]) F) (Cu 73 #[(Pp d),oc (#[oY nS,(vi a)]:Γ)] F λF=>Ls F (Am d 13) λm=>Nb F (mX (#[tU nC 0 0,.slice nC 0 0]) 94) λf F=>aB F (Am f 0) 2 (#[nV m,tU nC 0 0]:Γ) λF=>Cs 74 #[(Pp d)] F λn F=>rj F (Am f 1) (nV n) λF=>Lr F 2 (Am f 0) λo=>aB F (Am p 0) 2 o λF=>Lr F 2 (Am p 0) λb=>R (sj #[oc b,oY nZ]) F)
theorem qe7 {b:Γ} {c:Int} {a:Int} {d:Sl} (h:Ue b c a d R F):ν 44 #[oc b,tJ .u64 c,(vi a),nV d] F R:=Rx.Λ .N h
def vz (b:Ω) (_:Θ) (_:Sl) (a:Int) (_:VR) (F:PH):Prop:=b (i64.wrap (a+1)) F
def qZ (m n:Ω) (a:Addr) (f:Sl) (e g:Int) (h:Bool) (R:VR) (F:PH):Prop:=Bb (h) (Ls F (od (od a 10) 1) λb=>Ix f e λi=>Lx F (od i (pc e*1)) λj=>Ca 58 #[pj (mB a),pg j,(vi g)] F λc F=>F.cell (od (od a 10) 1)=mB (nV b)/\c.size=5/\Nb F (mX c 140) λl F=>Ap 87 #[nV b,nV (Sb l 1)] F λk F=>rj F (od (od a 10) 1) (nV k) λF=>Lx F (od a 9) λd=>d.size+(ByteArray.mk #[10]).size<=9223372036854775807/\rj F (od a 9) (pg (d++(ByteArray.mk #[10]))) λF=>vz m (mB a) f e R F) (n (i64.wrap (g+1)) F)
def AQ (o q:Ω) (p:Θ) (d:Sl) (c:Int) (R:VR) (b:Int) (F:PH):Prop:=∃a,p=mB a/\Ls F (od a 3) λi=>Bc (b<(i.len:Int)) (Ls F (od a 3) λe=>Ix e b λf=>Li F (od (od f (pc b*7)) 1) λg=>Bc (g=2) (Ls F (od a 3) λh=>Ix h b λj=>Lr F 7 (od j (pc b*7)) λk=>Ix d c λl=>Lx F (od l (pc c*1)) λm=>vc 88 #[oc k,pg m] F λn F=>F.cell (od a 3)=mB (nV h)/\F.cell (od (od f (pc b*7)) 1)=mB (vi g)/\F.cell (od a 3)=mB (nV e)/\qZ o q a d c b n R F) (qZ o q a d c b nS R F)) (vz o (mB a) d c R F)
def AR (g:Ω) (e:Θ) (a:Sl) (R:VR) (b:Int) (F:PH):Prop:=Bc (b<(a.len:Int)) ((∃(f:Nat->Ω) (d:Nat),f d 0 F/\∀d c F,f d c F-> AQ g (WX f d) e a b R c F)) (R (sj #[]) F)
def Uf (a:Θ) (b:Sl) (R:VR) (F:PH):Prop:=Lp 0 F λN c F=>AR N a b R c F
theorem qe8 {a:Θ} {b:Sl} (h:Uf a b R F):ν 57 #[pj a,nV b] F R:=Rx.Λ (.qa8 (.L [(4,.int .i64)] (.qa8 (.J nS [(0,.ptr)] (.qa8 (.L [(5,.int .i64)] (.qa8 (.T (.J nS [(46,.bool)] .N .N) .N)))) .N)))) h
def vA (f:Θ) (d:ο) (h:Nat) (g:Θ) (R:VR) (F:PH):Prop:=∃a,f=mB a/\Lx F (od a 9) λb=>b.size+d.size<=9223372036854775807/\rj F (od a 9) (pg (b++d)) λF=>∃c,g=mB c/\Lr F 5 c λe=>aB F (Am h 0) 5 e λF=>Rr 5 (Am h 0) R F
def Ug (j:Θ) (e:ο) (c:Int) (R:VR) (F:PH):Prop:=Nb F (mX (#[vi 0,vi 0,vi 0,.bool nS,.slice nC 0 0]) 140) λl F=>ν 89 #[pj j] F λv F=>∃d,∃b,v=(sj #[(vi d),oY b])/\∃a,j=mB a/\Lx F (od a 9) λf=>Lx F (od a 9) λg=>((Nb F (mX #[(vi c)] 3) λk F=>Nb F (mX (#[vi 0,vi 0,vi 0,.bool nS,.slice nC 0 0]) 140) λm F=>aB F (Am m 0) 5 (#[(vi (f.size:Int)),(vi (i64.wrap ((g.size:Int)+(e.size:Int)))),(vi d),oY b,nV (Sb k 1)]:Γ) λF=>vA (mB a) e l (mB (Am m 0)) R F)/\(Nb F (mX (#[vi 0,vi 0,vi 0,.bool nS,.slice nC 0 0]) 140) λh F=>Nb F (mX #[(vi c)] 3) λi F=>aB F (Am h 0) 5 (#[(vi (f.size:Int)),(vi (i64.wrap ((g.size:Int)+(e.size:Int)))),(vi d),oY b,nV (Sb i 1)]:Γ) λF=>vA (mB a) e l (mB (Am h 0)) R F))
theorem qe9 {b:Θ} {c:ο} {a:Int} (h:Ug b c a R F):ν 58 #[pj b,pg c,(vi a)] F R:=Rx.Λ (.qa8 (.qa8 (.J nS [(0,.ptr),(9,.ptr)] .N .N))) h
def HM (a:Int) (R:VR) (F:PH):Prop:=R (vi a) F
def AT (o:Int->Ω) (h:Sl) (n:Nat) (c:Sl) (R:VR) (a b:Int) (F:PH):Prop:=Bc (b<(c.len:Int)) (Lr F 9 (Am n 0) λi=>Ci 59 #[oc i,nV h,(vi a)] F λd F=>Bc (d<0) (R (vi (-1:Int)) F) (Lr F 9 (Am n 0) λj=>Ix h a λk=>Lr F 4 (od k (pc a*4)) λl=>Ix c b λe=>Lr F 2 (od e (pc b*2)) λf=>Ca 91 #[oc j,oc l] F λm F=>F.row (od e (pc b*2)) f/\∃g,(∀F,s9 prog (Op.equal 130 (oc m) (oc f)) F g)/\Bb ((!g)) (R (vi (-1:Int)) F) (o d (i64.wrap (b+1)) F))) (HM a R F)
def Ri (q:Γ) (c:Sl) (a:Int) (R:VR) (F:PH):Prop:=Nb F (mX q 39) λr F=>Bc ((c.len:Int)<=a) (R (vi (-1:Int)) F) (Lr F 9 (Am r 0) λe=>Ix c a λf=>Lr F 4 (od f (pc a*4)) λg=>vc 90 #[oc e,oc g] F λh F=>Bb ((!h)) (R (vi (-1:Int)) F) (Ix c a λi=>Li F (od i (pc a*4)) λj=>Bc (j<0) (R (vi (i64.wrap (a+1))) F) (Ls F (Am r 5) λk=>Ix c a λl=>Li F (od l (pc a*4)) λd=>Ix k d λm=>Ls F (od (od m (pc d*13)) 2) λn=>(∃(s:Nat->Int->Ω) (p:Nat),s p (i64.wrap (a+1)) 0 F/\∀p b o F,s p b o F-> AT (Wf s p) c r n R b o F))))
theorem Uh {a:Γ} {b:Sl} {c:Int} (h:Ri a b c R F):ν 59 #[oc a,nV b,(vi c)] F R:=Rx.Λ (.qa8 (.qa8 (.qa8 (.qa8 (.qa8 (.J nS [(7,.int .i64)] (.qa8 (.L [(7,.int .i64),(9,.int .i64)] .N)) .N)))))) h
def Ui (f:Γ) (a:Int) (R:VR) (F:PH):Prop:=Nb F (mX f 89) λg F=>Ls F (Am g 0) λh=>Bc (a<(h.len:Int)) (Ls F (Am g 0) λb=>Ix b a λc=>Li F (od c (pc a*5)) λd=>R (vi d) F) (Li F (Am g 2) λe=>R (vi e) F)
theorem qfa {a:Γ} {b:Int} (h:Ui a b R F):ν 60 #[oc a,(vi b)] F R:=Rx.Λ .N h
def HN (c:Int) (a:Sl) (R:VR) (F:PH):Prop:=(a.len:Int)≠0/\Ix a (tK (i64.wrap c) (a.len:Int)) λd=>∃b,F.cell (od d (pc (tK (i64.wrap c) (a.len:Int))*1))=mB (tJ .u64 b)/\R (tJ .u64 b) F
def vD (c:Sl->Ω) (_:Int) (_:Nat) (b:Int) (a:Sl) (_:VR) (F:PH):Prop:=c a (u64.wrap (b+1)) F
def AU (i:Sl->Ω) (c:Int) (g:Nat) (R:VR) (a:Sl) (b:Int) (F:PH):Prop:=Bc (b<8) (Lr F 9 (Am g 0) λd=>vc 96 #[oc d,tJ .u64 b] F λe F=>Bb (e) (Nb F (mX #[tJ .u64 b] 41) λh F=>Ap 195 #[nV a,nV (Sb h 1)] F λf F=>vD i c g b f R F) (vD i c g b a R F)) (HN c a R F)
def Uj (d:Γ) (e:Int) (R:VR) (F:PH):Prop:=Nb F (mX d 39) λg F=>(∃(f:Nat->Sl->Ω) (c:Nat),f c pk 0 F/\∀c a b F,f c a b F-> AU (Wf f c) e g R a b F)
theorem qfb {a:Γ} {b:Int} (h:Uj a b R F):ν 65 #[oc a,tJ .u8 b] F R:=Rx.Λ (.qa8 (.qa8 (.J nS [(5,.sl)] (.qa8 (.L [(5,.sl),(6,.int .u64)] (.qa8 (.J nS [(5,.sl)] .N .N)))) .N))) h
def HO (a:Sl) (R:VR) (F:PH):Prop:=R (nV a) F
def HP (c:Ω) (_:Int) (_:Nat) (_:Sl) (a:Int) (_:VR) (F:PH):Prop:=c (i64.wrap (a+1)) F
def AV (o p:Ω) (g:Int) (n:Nat) (b:Sl) (c:Int) (R:VR) (d:Int) (F:PH):Prop:=Ls F (Am n 5) λh=>Bc (d<(h.len:Int)) (Ls F (Am n 5) λi=>Ix i d λj=>Li F (od (od j (pc d*13)) 1) λa=>Ix b a λe=>Li F (od e (pc a*1)) λf=>Lr F 9 (Am n 0) λk=>Ci 100 #[oc k,tJ .u64 g,(vi d),nV b] F λl F=>F.cell (od e (pc a*1))=mB (vi f)/\Ix b a λm=>rj F (od m (pc a*1)) (vi (min f l)) λF=>p (i64.wrap (d+1)) F) (HP o g n b c R F)
def AW (g:Ω) (e:Int) (h:Nat) (b:Sl) (R:VR) (a:Int) (F:PH):Prop:=Bc (a<(i64.wrap ((b.len:Int)+1))) ((∃(f:Nat->Ω) (d:Nat),f d 0 F/\∀d c F,f d c F-> AV g (WX f d) e h b a R c F)) (HO b R F)
def HQ (c:Int) (d:Nat) (b:Sl) (R:VR) (F:PH):Prop:=Lp 0 F λN a F=>AW N c d b R a F
def AX (e:Ω) (d:Int) (f:Nat) (a:Sl) (R:VR) (b:Int) (F:PH):Prop:=Bc (b<(a.len:Int)) (Ix a b λc=>rj F (od c (pc b*1)) (vi 1000) λF=>e (i64.wrap (b+1)) F) (HQ d f a R F)
def Uk (c:Γ) (d:Int) (R:VR) (F:PH):Prop:=Nb F (mX c 39) λf F=>Ls F (Am f 4) λa=>aH prog (Instr.makeSlice 76 (vi (a.len:Int)) (vi (a.len:Int))) F λv F=>∃b,v=(nV b)/\Lp 0 F λN e F=>AX N d f b R e F
theorem qfc {a:Γ} {b:Int} (h:Uk a b R F):ν 72 #[oc a,tJ .u64 b] F R:=Rx.Λ (.qa8 (.qa8 (.J nS [] (.qa8 (.L [(6,.int .i64)] .N)) (.J nS [] (.qa8 (.L [(7,.int .i64)] (.qa8 (.J nS [] (.qa8 (.L [(8,.int .i64)] .N)) .N)))) .N)))) h
def ra (a:Addr) (g:Nat) (R:VR) (F:PH):Prop:=Cs 74 #[pj (mB a)] F λc F=>rj F (Am g 3) (nV c) λF=>Ls F (od a 13) λd=>Lr F 4 (Am g 0) λb=>b.size=4/\Nb F (mX b 137) λf F=>Ap 92 #[nV d,nV (Sb f 1)] F λe F=>rj F (od a 13) (nV e) λF=>R (sj #[]) F
def AY (l:Ω) (a:Addr) (b:Int) (R:VR) (c:Int) (F:PH):Prop:=Ls F (od a 5) λd=>Ix d b λe=>Ls F (od (od e (pc b*13)) 2) λf=>Bc (c<(f.len:Int)) (Ls F (od a 5) λg=>Ix g b λh=>Ls F (od (od h (pc b*13)) 2) λi=>Ix i c λj=>Lr F 2 (od j (pc c*2)) λk=>Cu 73 #[pj (mB a),oc k] F λF=>l (i64.wrap (c+1)) F) (R (sj #[]) F)
def Rj (g:Θ) (y:Γ) (R:VR) (F:PH):Prop:=Nb F (mX y 130) λx F=>Lb F (Am x 0) λi=>Bb (i) (∃b,g=mB b/\Ls F (od b 3) λj=>Li F (Am x 1) λd=>Ix j d λk=>Lr F 7 (od k (pc d*7)) λl=>Nb F (mX zT 166) λm F=>aB F (Am m 0) 7 l λF=>Li F (Am x 1) λn=>Lx F (Am m 2) λo=>Nb F (mX (#[vi 0,vi 0,.string ⟨#[]⟩,tU nC 0 0]) 137) λh F=>aB F (Am h 0) 4 (#[(vi (-1:Int)),(vi n),pg o,tU nC 0 0]:Γ) λF=>Lx F (Am m 2) λp=>Bb ((p.toList==(ByteArray.mk #[]).toList)) (Lx F (Am m 4) λq=>rj F (Am h 2) (pg q) λF=>Ci 101 #[pj (mB b),(vi 6)] F λe F=>Nb F (mX #[pg ⟨#[120]⟩,pg ⟨#[121]⟩,pg ⟨#[97,98]⟩,pg ⟨#[105,102]⟩,pg ⟨#[122]⟩,pg ⟨#[101,108,115,101]⟩] 9) λz F=>Ix (Sb z 6) e λr=>Lx F (od r (pc e*1)) λf=>Lr F 7 (Am m 0) λs=>vc 88 #[oc s,pg f] F λt F=>Bb (t) (rj F (Am h 2) (pg f) λF=>ra b h R F) (ra b h R F)) (ra b h R F)) (Li F (Am x 1) λu=>Ci 102 #[pj g,(vi u)] F λc F=>∃a,g=mB a/\Ls F (od a 13) λv=>(#[(vi c),(vi (-1:Int)),pg ⟨#[]⟩,tU nC 0 0]:Γ).size=4/\Nb F (mX (#[(vi c),(vi (-1:Int)),pg ⟨#[]⟩,tU nC 0 0]:Γ) 137) λA F=>Ap 92 #[nV v,nV (Sb A 1)] F λw F=>rj F (od a 13) (nV w) λF=>Lp 0 F λN B F=>AY N a c R B F)
theorem Ul {a:Θ} {b:Γ} (h:Rj a b R F):ν 73 #[pj a,oc b] F R:=Rx.Λ (.qa8 (.T (.qa8 (.T (.qa8 (.qa8 (.J nS [] .N .N))) .N)) (.qa8 (.qa8 (.qa8 (.L [(9,.int .i64)] .N)))))) h
def HR (a:Sl) (R:VR) (F:PH):Prop:=R (nV a) F
def vE (c:Sl->Ω) (_:Θ) (b:Int) (a:Sl) (_:VR) (F:PH):Prop:=c a (i64.wrap (b - 1)) F
def HS (n:Sl->Ω) (f:Θ) (R:VR) (a:Sl) (e:Int) (F:PH):Prop:=Bc (9<e) (Nb F (mX #[pg ⟨#[37]⟩,pg ⟨#[37,97]⟩,pg ⟨#[37,98,32,99]⟩] 9) λl F=>Ci 101 #[pj f,(vi 3)] F λc F=>Ix (Sb l 3) c λg=>Lx F (od g (pc c*1)) λd=>∃b,f=mB b/\Lr F 9 b λh=>Lk F .u64 (od b 9) λi=>vc 103 #[oc h,tJ .u64 i,pg d] F λj F=>Bb (j) (Nb F (mX #[pg d] 9) λm F=>Ap 30 #[nV a,nV (Sb m 1)] F λk F=>vE n (mB b) e k R F) (vE n (mB b) e a R F)) (HR a R F)
def Um (b:Θ) (R:VR) (F:PH):Prop:=Ci 101 #[pj b,(vi 12)] F λe F=>(∃(f:Nat->Sl->Ω) (d:Nat),f d pk e F/\∀d a c F,f d a c F-> HS (Wf f d) b R a c F)
theorem qgw {a:Θ} (h:Um a R F):ν 74 #[pj a] F R:=Rx.Λ (.qa8 (.qa8 (.J nS [(3,.sl)] (.qa8 (.L [(3,.sl),(4,.int .i64)] (.qa8 (.J nS [(0,.ptr),(3,.sl)] .N .N)))) .N))) h
def Un (e:Γ) (a:ο) (R:VR) (F:PH):Prop:=Nb F (mX e 166) λf F=>Lx F (Am f 2) λg=>Bb ((!(g.toList==(ByteArray.mk #[]).toList))) (Lx F (Am f 2) λb=>R (oY (a.toList==b.toList)) F) (Ls F (Am f 3) λc=>vc 121 #[nV c,pg a] F λd F=>R (oY d) F)
theorem qgx {a:Γ} {b:ο} (h:Un a b R F):ν 88 #[oc a,pg b] F R:=Rx.Λ .N h
def HT (b:Int) (a:Bool) (R:VR) (F:PH):Prop:=R (sj #[(vi b),oY a]) F
def rb (e:Int->Bool->Ω) (_:Addr) (c b:Int) (a:Bool) (_:VR) (F:PH):Prop:=e b a (i64.wrap (c - 1)) F
def AZ (k:Int->Bool->Ω) (d:Addr) (R:VR) (c:Int) (b:Bool) (a:Int) (F:PH):Prop:=Bc (0<=a) (Lx F (od d 9) λe=>0<=a/\a<(e.size:Int)/\∃(hx:pc a<e.size) (h:Int),h=((e[pc a]'hx).toNat:Int)/\Bc (h≠10) (Bb (b) (Lx F (od d 9) λf=>0<=a/\a<(f.size:Int)/\∃(hx:pc a<f.size) (i:Int),i=((f[pc a]'hx).toNat:Int)/\Bc (i=32) (rb k d a (i64.wrap (c+1)) nZ R F) (Lx F (od d 9) λg=>0<=a/\a<(g.size:Int)/\∃(hx:pc a<g.size) (j:Int),j=((g[pc a]'hx).toNat:Int)/\rb k d a (i64.wrap (c+1)) (decide (j=9)) R F)) (rb k d a (i64.wrap (c+1)) nS R F)) (HT c b R F)) (HT c b R F)
def Uo (g:Θ) (R:VR) (F:PH):Prop:=∃b,g=mB b/\Lx F (od b 9) λd=>(∃(h:Nat->Int->Bool->Ω) (f:Nat),h f 0 nZ (i64.wrap ((d.size:Int) - 1)) F/\∀f c a e F,h f c a e F-> AZ (Zy h f) b R c a e F)
theorem qgy {a:Θ} (h:Uo a R F):ν 89 #[pj a] F R:=Rx.Λ (.qa8 (.qa8 (.qa8 (.J nS [(4,.int .i64),(5,.bool)] (.qa8 (.L [(4,.int .i64),(5,.bool),(6,.int .i64)] (.qa8 (.J nS [(4,.int .i64),(5,.bool)] .N .N)))) .N)))) h
def Uq (j k:Γ) (R:VR) (F:PH):Prop:=Nb F (mX j 39) λn F=>Nb F (mX k 137) λa F=>Li F (Am a 0) λl=>Bc (l=(-1:Int)) (Li F (Am a 1) λm=>Bc (0<=m) (Li F (Am a 1) λb=>Ls F (Am n 3) λc=>R (oY (decide (b<(c.len:Int)))) F) (R (oY nS) F)) (Li F (Am a 0) λd=>Bc (0<=d) (Li F (Am a 0) λe=>Ls F (Am n 5) λf=>Bc (e<(f.len:Int)) (Li F (Am a 1) λg=>Bc (g=(-1:Int)) (Lx F (Am a 2) λh=>Bb ((h.toList==(ByteArray.mk #[]).toList)) (Ls F (Am a 3) λi=>R (oY (decide ((i.len:Int)=0))) F) (R (oY nS) F)) (R (oY nS) F)) (R (oY nS) F)) (R (oY nS) F))
theorem qgz {a:Γ} {b:Γ} (h:Uq a b R F):ν 90 #[oc a,oc b] F R:=Rx.Λ .N h
def Ur (f g:Γ) (R:VR) (F:PH):Prop:=Nb F (mX f 39) λk F=>Nb F (mX g 137) λh F=>Nb F (mX (#[oY nS,vi 0]) 130) λe F=>Li F (Am h 0) λi=>Bc (i=(-1:Int)) (Li F (Am h 1) λj=>aB F (Am e 0) 2 (#[oY nZ,(vi j)]:Γ) λF=>Rr 2 (Am e 0) R F) (Ls F (Am k 5) λb=>Li F (Am h 0) λa=>Ix b a λc=>Li F (od (od c (pc a*13)) 1) λd=>aB F (Am e 0) 2 (#[oY nS,(vi d)]:Γ) λF=>Rr 2 (Am e 0) R F)
theorem qgA {a:Γ} {b:Γ} (h:Ur a b R F):ν 91 #[oc a,oc b] F R:=Rx.Λ .N h
def C2 (a:Int) (R:VR) (F:PH):Prop:=R (vi (min (i64.wrap (a+1)) 1000)) F
def po (d:Int->Ω) (_ _:Sl) (b a:Int) (_:VR) (F:PH):Prop:=d a (i64.wrap (b+1)) F
def vF (k:Int->Ω) (e b:Sl) (R:VR) (c a:Int) (F:PH):Prop:=Bc (a<(b.len:Int)) (Ix b a λf=>Lb F (od f (pc a*2)) λg=>Bb ((!g)) (Ix b a λh=>Li F (od (od h (pc a*2)) 1) λd=>Ix e d λi=>Li F (od i (pc d*1)) λj=>po k e b a (max c j) R F) (po k e b a c R F)) (C2 c R F)
def NY (j:Γ) (k c:Int) (l:Sl) (R:VR) (F:PH):Prop:=Nb F (mX j 39) λn F=>Lr F 9 (Am n 0) λd=>vc 138 #[oc d,tJ .u64 k,(vi c)] F λe F=>Bb ((!e)) (R (vi 1000) F) (Ls F (Am n 5) λf=>Ix f c λg=>Ls F (od (od g (pc c*13)) 2) λh=>(∃(m:Nat->Int->Ω) (i:Nat),m i 0 0 F/\∀i a b F,m i a b F-> vF (Wf m i) l h R a b F))
theorem Us {a:Γ} {b:Int} {c:Int} {d:Sl} (h:NY a b c d R F):ν 100 #[oc a,tJ .u64 b,(vi c),nV d] F R:=Rx.Λ (.qa8 (.qa8 (.qa8 (.qa8 (.J nS [(9,.int .i64)] (.qa8 (.L [(9,.int .i64),(11,.int .i64)] (.qa8 (.J nS [(9,.int .i64)] .N .N)))) .N))))) h
def NZ (i:Θ) (d:Int) (R:VR) (F:PH):Prop:=∃a,i=mB a/\Li F (od a 11) λj=>Ls F (od a 10) λe=>Bc ((e.len:Int)<=j) (R (vi 0) F) (Bc (d<1) (R (vi 0) F) (Li F (od a 11) λf=>rj F (od a 11) (vi (i64.wrap (f+1))) λF=>Ls F (od a 10) λg=>Li F (od a 11) λb=>Ix g (i64.wrap (b - 1)) λh=>∃c,F.cell (od h (pc (i64.wrap (b - 1))*1))=mB (tJ .u8 c)/\d≠0/\R (vi (tK (i64.wrap c) d)) F))
theorem Ut {a:Θ} {b:Int} (h:NZ a b R F):ν 101 #[pj a,(vi b)] F R:=Rx.Λ .N h
def C3 (j:Θ) (c:Sl) (b:Int) (R:VR) (F:PH):Prop:=∃a,j=mB a/\Li F (od a 11) λe=>Ls F (od a 10) λf=>Bc ((f.len:Int)<=e) (R (vi b) F) (Ls F (od a 13) λg=>Bc ((40:Int)<(g.len:Int)) (R (vi b) F) (Ci 101 #[pj (mB a),(vi (c.len:Int))] F λd F=>Ix c d λh=>Li F (od h (pc d*1)) λi=>R (vi i) F))
def jv (f:Sl->Int->Ω) (_:Addr) (_ e:Int) (b:Sl) (a:Int) (_:VR) (F:PH):Prop:=f b a (i64.wrap (e+1)) F
def C4 (h:Sl->Int->Ω) (s:Θ) (c:Int) (R:VR) (d:Sl) (b e:Int) (F:PH):Prop:=∃a,s=mB a/\Ls F (od a 5) λi=>Bc (e<(i.len:Int)) (Lr F 9 a λj=>Lk F .u64 (od a 9) λk=>Ls F (od a 12) λl=>Ci 100 #[oc j,tJ .u64 k,(vi e),nV l] F λg F=>Ls F (od a 5) λm=>Ix m e λn=>Li F (od (od n (pc e*13)) 1) λo=>Bc (o≠c) (jv h a c e d b R F) (Bc (1000<=g) (jv h a c e d b R F) (Nb F (mX #[(vi e)] 3) λt F=>Ap 76 #[nV d,nV (Sb t 1)] F λf F=>Ls F (od a 12) λp=>Ix p c λq=>Li F (od q (pc c*1)) λr=>Bc (g=r) (Bc (b<0) (jv h a c e f e R F) (jv h a c e f b R F)) (jv h a c e f b R F)))) (C3 (mB a) d b R F)
def N0 (f:Θ) (c:Int) (R:VR) (F:PH):Prop:=(∃(g:Nat->Sl->Int->Ω) (e:Nat),g e pk (-1:Int) 0 F/\∀e b a d F,g e b a d F-> C4 (Zy g e) f c R b a d F)
theorem Uu {b:Θ} {a:Int} (h:N0 b a R F):ν 102 #[pj b,(vi a)] F R:=Rx.Λ (.qa8 (.qa8 (.qa8 (.J nS [(0,.ptr),(5,.sl),(6,.int .i64)] (.qa8 (.L [(5,.sl),(6,.int .i64),(7,.int .i64)] (.qa8 (.J nS [(5,.sl),(6,.int .i64)] .N .N)))) .N)))) h
def L0 (R:VR) (F:PH):Prop:=R (oY nS) F
def pq (b:Ω) (_:Int) (_:ο) (_:Nat) (a:Int) (_:VR) (F:PH):Prop:=b (i64.wrap (a+1)) F
def vG (n:Ω) (c:Int) (b:ο) (d:Nat) (R:VR) (a:Int) (F:PH):Prop:=Ls F (Am d 3) λe=>Bc (a<(e.len:Int)) (Ls F (Am d 3) λf=>Ix f a λg=>Lr F 7 (od g (pc a*7)) λh=>Nb F (mX zT 166) λo F=>aB F (Am o 0) 7 h λF=>Li F (Am o 1) λi=>Bc (i=2) (Lr F 2 (Am o 5) λj=>vc 132 #[oc j,tJ .u64 c] F λk F=>Bb (k) (Bb ((!(b.toList==(ByteArray.mk #[]).toList))) (Lr F 7 (Am o 0) λl=>vc 88 #[oc l,pg b] F λm F=>Bb (m) (R (oY nZ) F) (pq n c b d a R F)) (pq n c b d a R F)) (pq n c b d a R F)) (pq n c b d a R F)) (L0 R F)
def N7 (a:Γ) (b:Int) (c:ο) (R:VR) (F:PH):Prop:=Nb F (mX a 39) λe F=>Lp 0 F λN d F=>vG N b c e R d F
theorem Uv {a:Γ} {b:Int} {c:ο} (h:N7 a b c R F):ν 103 #[oc a,tJ .u64 b,pg c] F R:=Rx.Λ (.qa8 (.J nS [] (.qa8 (.L [(7,.int .i64)] (.qa8 (.J nS [] .N .N)))) .N)) h
def Ww (g:Gr) (c:Int) (p:Nat):Bool:=(bI g p).ev (wP c)
def VN (g:Gr) (p:Nat):Nat:=((g.qa0[p]?).map λx=>x.left.toNat).getD 0
def VH (g:Gr) (p:Nat):List Sy:=((g.qa0[p]?).map Pr.right).getD []
abbrev Vt (l:Δ):Φ:=l.map Int.ofNat
theorem A0 {l:Δ} {i:Nat} {x:Int} (h:(Vt l)[i]? =mB x):x=((l.getD i 0:Nat):Int):=by rw [yr] at h;obtain ⟨y,g,rfl⟩:=Zg.1 h;rw [Vb,g];rfl
theorem HU {l:Δ} {r:List Sy} {k:Nat} {s:Sy} (h:r[k]? =mB s) (n:Nat):VA l n (r.take (k+1))=if s.t=nZ then VA l n (r.take k) else max (VA l n (r.take k)) (l.getD s.i.toNat 0):=by rw [bq h,yk]
theorem L3 {l:Δ} (h:∀n,l.getD n 0<=1000) (r:List Sy):VA l 0 r<=1000:=(nz l r 0).2 ⟨yM _,λs _ _=>h _⟩
theorem Rk {pr:Nat->Bool} {rt:Nat->List Sy} {l:Δ} {p:Nat}:hgt pr rt l p<=1000:=by unfold hgt;split<;>omega
section
variable {F G:PH} {g:Gr} {k:Nat} {c:Int} {l:Δ}
theorem ou {v:Γ} {s:Sl} {p:Nat} {x:Pr} (Y:GV F v g) (hk:OkK g k) (hf:(vf g.fam).ev (wP c)=nZ) (c0:0<=c) (c1:c<18446744073709551616) (K:g.qa0[p]? =mB x) (hs:RL F s (Vt l)) (b6:l.length=g.qa1.length) (a7:∀n,l.getD n 0<=1000):
  ν 100 #[oc v,tJ .u64 c,vi p,s.v] F λr F'=>r=vi (hgt (Ww g c) (VH g) l p:Nat)/\F.le F':=by
 obtain ⟨o1,o2,o3,o4⟩:=dk hk.ok;have hp:p<g.qa0.length:=(N6.1 K).1;have hv:=Y.size;have a3:=Y;obtain ⟨cs,n,t,s0,ps,lv,f,rfl,M⟩:=Y;have ep:=M.p.len;have b7:=o4 x (wh K);obtain ⟨_,_,_,a5⟩:=hk.prod (wh K);have es:=hs.len;rw [vb] at es;have b0:s.len=l.length:=es;have a4:VH g p=x.right:=by unfold VH;rw [K];rfl
 refine Us ?_;unfold NY;refine (St.start F).newG λb4 G1 F1 l1 q4 _ h=> ?_;refine ⟨_,rfl,ai (h.le _ _ q4),?_⟩;refine h.runv (qhg (a3.le l1) hk hf c0 c1 K) λG2 F2 W h=> ?_;refine ⟨_,rfl,λhn=> ?_,λhy=> ?_⟩
 ·refine ⟨?_,aa l1 (aa W h.le)⟩;unfold hgt;rw [Υ]
  ·rfl
  ·show ¬(bI g p).ev (wP c)=nZ;simpa using hn
 ·have Z:(bI g p).ev (wP c)=nZ:=by simpa using hy
  have J:=aa l1 W;have a8:=M.le J;have a0:=W _ _ q4;refine ⟨ps,ld (h.le _ _ a0) rfl,?_⟩;refine u9 a8.p (by decide) (by omega) (by omega) λa cc x' L Q hc=> ?_;rw [N4,K] at L;cases L;obtain ⟨r,n2,l9,rfl,hr,_⟩:=hc;have er:=hr.len;refine ⟨r,aN (aO h.le Q) (i:=2) rfl,?_⟩;refine ib (vF · s r _) x.right.length (λj m F'=>m=((VA l 0 (x.right.take j):Nat):Int)/\St G2 F' []) 0 ⟨by rw [Va];rfl,h⟩ ?_;rintro j m F3 N hj ⟨rfl,h⟩ next;unfold vF;refine ⟨λw=> ?_,λb3=> ?_⟩
  ·have w:j<x.right.length:=by omega
   have B:x.right[j]? =mB x.right[j]:=N5 w;have e:=HU (l:=l) B 0;generalize x.right[j]=I at B e;obtain ⟨i0,i1,_⟩:=a5 I (wh B);refine u9 hr (by decide) (by omega) (by omega) λb1 X V A C U=> ?_;rw [N4,B] at A;cases A;obtain rfl:X=I.arr:=U;refine ⟨I.t,aF (aO h.le C) rfl,λH=> ?_,λH=> ?_⟩
   ·have H:I.t=nS:=by simpa using H
    rw [H,Υ (by decide)] at e;have i1:=i1 H;refine u9 hr (by decide) (by omega) (by omega) λb5 a1 V A D O=> ?_;rw [N4,B] at A;cases A;obtain rfl:a1=I.arr:=O;refine ⟨I.i,aN (aO h.le D) (i:=1) rfl,?_⟩;refine u9 (hs.le J) (by decide) i0 (by omega) λb2 a2 y a9 E P=> ?_;obtain rfl:a2= #[vi y]:=P;have a6:=A0 a9;refine ⟨y,aF (aO h.le E) rfl,?_⟩;unfold po;rw [aD w];refine next _ _ w ⟨?_,h⟩;rw [e,a6];omega
   ·have H:I.t=nZ:=by simpa using H
    rw [H,Χ rfl] at e;unfold po;rw [aD w];exact next _ _ w ⟨by rw [e],h⟩
  ·have:j=x.right.length:=by omega
   subst this;unfold C2;rw [wV];refine ⟨?_,aa J h.le⟩;have:=L3 a7 x.right;unfold hgt Ww;rw [Χ Z,a4,aL (by omega)];congr 1;omega
structure Hts (g:Gr) (c:Int) (l:Δ):Prop where
 hf:HF g.qa0.length g.qa1.length (Ww g c) (VN g) (VH g) l
 cap:∀n,l.getD n 0<=1000
theorem Rl (A:OkK g k):∀p,p<g.qa0.length->∀s∈VH g p,s.t=nS->s.i.toNat<g.qa1.length:=λp w s h B=>by unfold VH at h;rw [N5 w] at h;obtain ⟨_,_,_,r⟩:=A.prod (Vw w);obtain ⟨a,b,_⟩:=r s h;have:=b B;omega
theorem yn {l:Δ} {N:Nat} (r:l.length=N) (h:∀n,n<N->l.getD n 0<=1000) (n:Nat):l.getD n 0<=1000:=by
 by_cases e:n<N
 ·exact h n e
 ·rw [Vb,VP (by omega)];decide
theorem qhr {v:Γ} (hg:GV F v g) (hk:OkK g k) (hN:g.qa1.length<900) (hf:(vf g.fam).ev (wP c)=nZ) (c0:0<=c) (c1:c<18446744073709551616):
  ν 72 #[oc v,tJ .u64 c] F λr w=>∃s l,r=nV s/\RL w s (Vt l)/\Hts g c l/\F.le w:=by
 obtain ⟨o1,o2,o3,o4⟩:=dk hk.ok;have hv:=hg.size;have b3:=hg;obtain ⟨cs,n,t,U,ps,lv,f,rfl,W⟩:=hg;have ep:=W.p.len;have en:=W.s.len;generalize eN:g.qa1.length=N at*;generalize eP:g.qa0.length=P at*;refine qfc ?_;unfold Uk;refine (St.start F).newG λb2 Y F1 l1 q2 _ h=> ?_;refine ⟨U,ld (h.le _ _ q2) rfl,?_⟩;refine bQ tq.ht tq.hsz tq.hz tq.hzs (by omega) (Vr _) (by omega) (by omega) ?_;intro b hb;have h:=Yo (h.new (K:=λb w=>St Y w [pt b (mX (Builtin.zeroCells (tJ .i64 0).cells (pc (U.len:Int))) 3)]) (λ_ _ h=>h) b hb);refine ⟨_,rfl,?_⟩;have h:=h.imp (A':=own (tX (mB (pd b 0 nC)) (pc (U.len:Int)) (pc (U.len:Int))) 3 1 ((Vt (List.replicate N 0)).map vi)) 0 rfl λH _ hH=>by
  refine .inr ⟨b,_,rfl,hH,?_,tI _,?_,?_⟩
  ·simp [Builtin.zeroCells,Value.cells]
  ·simp;omega
  ·simp [Builtin.zeroCells,Value.cells,Nat.mod_one];rw [show (λ_:Nat=>tJ .i64 0)=Function.const Nat (tJ .i64 0) from rfl,List.map_const,Wq,List.take_replicate,Nat.min_self,en]
 generalize hv:tX (mB (pd b 0 nC)) (pc (U.len:Int)) (pc (U.len:Int))=o at*;have A:o.qa5=mB (pd b 0 nC):=by rw [<- hv]
 have a9:o.len=N:=by rw [<- hv];show pc (U.len:Int)=N;omega
 clear hv hb;have I:∀(l:Δ) (i x:Nat),((Vt l).map vi).set i (vi (x:Int))=(Vt (l.set i x)).map vi:=λl i x=>by show _=((l.set i x).map Int.ofNat).map vi;rw [List.map_set,List.map_set];rfl
 refine bC (λN' x F=>AX N' c b2 o _ x F) N (λj w=>∃l:Δ,l.length=N/\l.take j=List.replicate j 1000/\St Y w [own o 3 1 ((Vt l).map vi)]) ⟨_,Xn,by rw [Va];rfl,h⟩ ?_;rintro j F2 Nx hj ⟨l,hl,X,h⟩ next;unfold AX;refine ⟨λV=>⟨_,A,by omega,by omega,?_⟩,λb6=> ?_⟩
 ·have V:j<N:=by omega
  rw [N4,xZ];refine h.ownPut 0 rfl A (by rw [vb,vb];omega) λF3 h=> ?_;rw [aD V];have h:St Y F3 [own o 3 1 (((Vt l).map vi).set j (vi ((1000:Nat):Int)))]:=h;rw [I] at h;refine next _ V ⟨l.set j 1000,by rw [YA];exact hl,?_,h⟩;rw [bq (X3 (by omega)),List.take_set_of_le (tI _),X,List.replicate_succ']
 ·have:j=N:=by omega
  subst this;rw [<- hl,wV,hl] at X;subst X;unfold HQ;have a3:∀p,p<P->∀s∈VH g p,s.t=nS->s.i.toNat<j:=by rw [<- eP,<- eN];exact Rl hk
  refine bC (λN' x F=>AW N' c b2 o _ x F) (j+1) (λr w=>∃(G':PH) (l:Δ),Y.le G'/\HIp P j (Ww g c) (VN g) (VH g) r 0 l/\St G' w [own o 3 1 ((Vt l).map vi)]) ⟨Y,_,au _,HIp.init,h⟩ ?_;rintro r F3 b4 hr ⟨G3,l,l3,C,h⟩ L;unfold AW;rw [a9,aL (by omega)];refine ⟨λO=> ?_,λb8=> ?_⟩
  ·have O:r<j+1:=by omega
   refine bC (λN' x F=>AV b4 N' c b2 o (r:Int) _ x F) P (λp w=>∃(G':PH) (l:Δ),Y.le G'/\HIp P j (Ww g c) (VN g) (VH g) r p l/\St G' w [own o 3 1 ((Vt l).map vi)]) ⟨G3,l,l3,C,h⟩ ?_;rintro p F4 b7 hp ⟨G4,l,l4,C,h⟩ J;unfold AV;have M:=l4 _ _ q2;have a7:=aa l1 l4;refine ⟨ps,ld (h.le _ _ M) rfl,λE=> ?_,λb5=> ?_⟩
   ·have E:p<P:=by omega
    have B:g.qa0[p]? =mB g.qa0[p]:=N5 (by omega);generalize g.qa0[p]=x at B;obtain ⟨_,_,⟨a2,a6,_⟩,_⟩:=hk.prod (wh B);have a2:0<=x.left:=a2;have Q:=a6 rfl;have Q:x.left<((g.qa1.length:Nat):Int):=Q;rw [eN] at Q;have b0:VN g p=x.left.toNat:=by unfold VN;rw [B];rfl
    have Z:=C.len;refine ⟨ps,ld (h.le _ _ M) rfl,?_⟩;refine u9 (W.p.le a7) (by decide) (by omega) (by omega) λa cc x' a0 a4 hc=> ?_;rw [N4,B] at a0;cases a0;obtain ⟨rr,n2,l9,rfl,_⟩:=hc;refine ⟨x.left,aN (aO h.le a4) (i:=1) rfl,⟨_,A,by omega,by omega,?_⟩⟩;have D:∀{w:PH},St G4 w [own o 3 1 ((Vt l).map vi)]->w.cell ((pd b 0 nC).add (x.left.toNat*1))=mB (vi ((l.getD x.left.toNat 0:Nat):Int)):=λh=>by have hr:=(h.ownAt (i:=0) rfl).1.rd;have:=hr.cell A (i:=x.left.toNat) (by rw [vb,vb];omega);rw [xZ,this,Yy,Yy,Vb];have e:l[x.left.toNat]? =mB l[x.left.toNat]:=N5 (by omega);rw [e];rfl
    refine ⟨_,D h,_,rfl,ai (h.le _ _ M),?_⟩;have b1:=RL.ints.2 (h.ownAt (i:=0) rfl).1.rd;have a8:=yn Z C.cap;have hh:=Rk (pr:=Ww g c) (rt:=VH g) (l:=l) (p:=p);refine (ou (b3.le (aa a7 h.le)) hk hf c0 c1 B b1 (by omega) a8).mono ?_;rintro _ F5 ⟨rfl,l5⟩;have h:=h.up l5;refine ⟨_,rfl,D h,⟨_,A,by omega,by omega,?_⟩⟩;rw [xZ];refine h.ownPut 0 rfl A (by rw [vb,vb];omega) λF6 h=> ?_;rw [aD E];have a1:=C.step (by omega) (by omega) (λs hs ht=>a3 p E s hs ht) (by omega);rw [b0] at a1;refine J _ E ⟨G4,_,l4,a1,?_⟩;rw [<- I,show vi ((min (l.getD x.left.toNat 0) (hgt (Ww g c) (VH g) l p):Nat):Int)=vi (min ((l.getD x.left.toNat 0:Nat):Int) ((hgt (Ww g c) (VH g) l p:Nat):Int)) by congr 1;omega];exact h
   ·have:p=P:=by omega
    subst this;unfold HP;rw [aD O];exact L _ O ⟨G4,l,l4,C.next,h⟩
  ·have:r=j+1:=by omega
   subst this;unfold HO;obtain ⟨G5,l5,D,h⟩:=h.pinO;have a5:=C.final (by omega) a3;refine ⟨o,l,rfl,(RL.ints.2 D).le h.le,⟨?_,yn C.len C.cap⟩,aa l1 (aa l3 (aa l5 h.le))⟩;rw [eP,eN];exact a5
end
end
