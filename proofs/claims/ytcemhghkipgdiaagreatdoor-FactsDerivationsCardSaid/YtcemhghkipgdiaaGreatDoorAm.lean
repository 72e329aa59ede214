/-
  Package facts: one round of derivable.
-/
import Derived.Test.YtcemhghkipgdiaaGreatDoorAe
import Derived.Test.YtcemhghkipgdiaaGreatDoorId
import Derived.Test.YtcemhghkipgdiaaGreatDoorHk
import Derived.Test.YtcemhghkipgdiaaGreatDoorGfacts
import Derived.Tactics
import Derived.Tactics2
import Derived.Recover
import Derived.Test.YtcemhghkipgdiaaGreatDoorHr
namespace Go.Proofs.YtcemhghkipgdiaaGreatDoor
open Go Go.Proofs.Tryz Tr
set_option maxRecDepth 10000
section
variable {κ:Type} {enc:κ->Value} {G G0 G1 F:PH} {As:List (Ψ)} {m:Nat} {S S':κ->Tr} {mp mp':κ->Option Value}
def jg (G:PH) (S:κ->Tr) (mp:κ->Option Value):Prop:=∀n,(mp n=none/\S n=leaf false)\/∃w,mp n=some (.agg w)/\DV G w (dia (S n))
theorem jg.le (h:jg G0 S mp) (l:G0.le G):jg G S mp:=λn=>(h n).imp id λ⟨w,h1,h2⟩=>⟨w,h1,h2.le l⟩
theorem jg.empty (G:PH):jg G (λ_:κ=>leaf false) (λ_=>none):=λ_=> .inl ⟨rfl,rfl⟩
variable [DecidableEq κ]
theorem jg.put (h:jg G S mp) {n:κ} {w:Γ} {t:Tr} (hd:DV G w (dia t)):jg G (eK S n t) (λk=>if k=n then some (.agg w) else mp k):=λk=>by
 unfold eK;dsimp only;by_cases e:k=n
 ·rw [if_pos e,if_pos e];exact .inr ⟨w,rfl,hd⟩
 ·rw [if_neg e,if_neg e];exact h k
def mS (enc:κ->Value) (G:PH) (m:Nat) (S:κ->Tr):Ψ:=λH=>∃o mp,H m=some o/\d8 enc mp o/\jg G S mp
theorem St.mS_at (h:St G F As) {i:Nat} (hi:As[i]? =some (mS enc G0 m S)):∃o mp,F m=some o/\d8 enc mp o/\jg G0 S mp:=by obtain ⟨H,⟨o,mp,h1,h2,h3⟩,_,h4⟩:=h.get hi;exact ⟨o,mp,h4 _ _ h1,h2,h3⟩
theorem St.mS_set (h:St G F As) (i:Nat) (hi:As[i]? =some (mS enc G0 m S)) {o':Obj} (ho:d8 enc mp' o') (hs:jg G1 S' mp'):St G (F.set m o') (As.set i (mS enc G1 m S')):=by
 obtain ⟨H,⟨o,mp,a1,_,_⟩,a2,a3,a4⟩:=h.set (A':=mS enc G1 m S') hi;refine a4 (H.set m o') _ ⟨o',mp',ak _ _ _,ho,hs⟩ (λx hx=> ?_) (λx p hx=> ?_) (λx p hx hn=> ?_)
 ·by_cases e:x=m
  ·rw [e,a1];exact .inl (by simp)
  ·rw [au _ _ e] at hx;exact .inl hx
 ·by_cases e:x=m
  ·rw [e,ak] at hx ⊢;exact hx
  ·rw [au _ _ e] at hx ⊢;exact a3 _ _ hx
 ·have e:x≠m:=λe=>by rw [e,a1] at hn;cases hn
  rw [au _ _ e];exact hx
end
theorem xy:fM prog 95 aJ (.agg zD):=⟨_,_,underlying95,He,H0⟩
theorem FP:fM prog 113 bO (.agg zD):=⟨_,_,underlying113,He,Ss⟩
theorem bl {F:PH} {w:Γ} {d:Dia} (hd:DV F w d):aj prog 65 #[.agg w,vi 0] F λr F'=>r=.agg w/\F.le F':=by refine To ?_;unfold QR;refine fresh λb2 F1 l1 q2 _=> ?_;refine (St.start F1).new λb4 F2 h=>⟨λhc=>absurd rfl hc,λ_=>⟨w,hd.size,ac (h.le _ _ q2),?_⟩⟩;refine h.put0 (w':=w) hd.size rfl hd.st λF3 h=>⟨w,hd.size,ac (h.ptAt (i:=0) rfl),rfl,aa l1 h.le⟩
section
variable {G G0 F:PH} {As:List (Ψ)} {m:Nat} {k:Nat}
theorem fi {S:Int->Tr} (h:St G F (mS aJ G0 m S::As)) (l0:G0.le G) (n:Int):
  aj prog 66 #[.map (some m),vi n] F λr F'=>∃G' w,r=.agg w/\DV G' w (dia (S n))/\G.le G'/\St G' F' (mS aJ G0 m S::As):=by
 refine Tp ?_;unfold QS;refine h.new λb4 F1 h=> ?_;obtain ⟨o,mp,h1,h2,h3⟩:=h.mS_at (i:=1) rfl;have hlk:=bH (F:=F1) xy h1 h2 n true;rcases h3 n with ⟨e1,e2⟩|⟨w,e1,e2⟩
 ·rw [e1] at hlk;refine ⟨_,_,hlk,?_⟩;refine h.new λb5 F2 h=> ?_;refine h.put0 (w':=zD) rfl rfl (by simp [al]) λF3 h=>⟨λhc=>(by cases hc),λ_=> ?_⟩;refine (h.call (eX false)).mono ?_;rintro _ F4 ⟨G',⟨w,rfl,hw,l1⟩,h⟩;refine ⟨w,rfl,?_⟩;refine h.put1 (w':=w) hw.size rfl hw.st λF5 h=>⟨w,hw.size,ac (h.ptAt (i:=1) rfl),?_⟩;exact ⟨G',w,rfl,by rw [e2];exact hw,l1,h.tail.tail⟩
 ·rw [e1] at hlk;refine ⟨_,_,hlk,?_⟩;have hw:=e2.le l0;refine h.new λb5 F2 h=> ?_;refine h.put0 (w':=w) hw.size rfl hw.st λF3 h=>⟨λ_=>⟨w,hw.size,ac (h.ptAt (i:=0) rfl),?_⟩,λhc=>(by cases hc)⟩;refine h.put1 (w':=w) hw.size rfl hw.st λF5 h=>⟨w,hw.size,ac (h.ptAt (i:=1) rfl),?_⟩;exact ⟨G,w,rfl,hw,aq _,h.tail.tail⟩
theorem rD {S:Int×Int->Tr} (h:St G F (mS bO G0 m S::As)) (l0:G0.le G) (n:Int×Int):
  aj prog 75 #[.map (some m),.agg (uR n)] F λr F'=>∃G' w,r=.agg w/\DV G' w (dia (S n))/\G.le G'/\St G' F' (mS bO G0 m S::As):=by
 refine QY ?_;unfold MK;refine h.new λb3 Fa h=> ?_;refine h.new λb4 F1 h=> ?_;refine ⟨_,rfl,ac (h.ptAt (i:=1) rfl),?_⟩;obtain ⟨o,mp,h1,h2,h3⟩:=h.mS_at (i:=2) rfl;have hlk:=bH (F:=F1) FP h1 h2 n true;rcases h3 n with ⟨e1,e2⟩|⟨w,e1,e2⟩
 ·rw [e1] at hlk;refine ⟨_,_,hlk,?_⟩;refine h.new λb5 F2 h=> ?_;refine h.put0 (w':=zD) rfl rfl (by simp [al]) λF3 h=>⟨λhc=>(by cases hc),λ_=> ?_⟩;refine (h.call (eX false)).mono ?_;rintro _ F4 ⟨G',⟨w,rfl,hw,l1⟩,h⟩;refine ⟨w,rfl,?_⟩;refine h.put1 (w':=w) hw.size rfl hw.st λF5 h=>⟨w,hw.size,ac (h.ptAt (i:=1) rfl),?_⟩;exact ⟨G',w,rfl,by rw [e2];exact hw,l1,h.tail.tail.tail⟩
 ·rw [e1] at hlk;refine ⟨_,_,hlk,?_⟩;have hw:=e2.le l0;refine h.new λb5 F2 h=> ?_;refine h.put0 (w':=w) hw.size rfl hw.st λF3 h=>⟨λ_=>⟨w,hw.size,ac (h.ptAt (i:=0) rfl),?_⟩,λhc=>(by cases hc)⟩;refine h.put1 (w':=w) hw.size rfl hw.st λF5 h=>⟨w,hw.size,ac (h.ptAt (i:=1) rfl),?_⟩;exact ⟨G,w,rfl,hw,aq _,h.tail.tail.tail⟩
theorem vx {a b:Tr} {u w:Γ} (hk:k<=6) (ha:Sx k a) (hb:Sx k b) (hu:DV F u (dia a)) (hw:DV F w (dia b)):
  aj prog 28 #[.agg u,.agg w] F λr F'=>∃x,r=.tuple #[.agg x,vi 0]/\DV F' x (dia (ap2 oOr a b))/\F.le F':=by
 refine (Ij hu hw).mono ?_;rintro r F' ⟨⟨x,rfl,hx⟩,l⟩;rw [Fo (ha.small hk) (hb.small hk) ((ha.ap2 (o:=oOr) hb).small hk) (bq ha.1 hb.1).2] at hx ⊢;exact ⟨x,rfl,hx,l⟩
theorem im {a b:Tr} {u w:Γ} (hk:k<=6) (ha:Sx k a) (hb:Sx k b) (hu:DV F u (dia a)) (hw:DV F w (dia b)):
  aj prog 35 #[.agg u,.agg w] F λr F'=>∃x,r=.tuple #[.agg x,vi 0]/\DV F' x (dia (ap2 be a b))/\F.le F':=by
 refine (Fu hu hw).mono ?_;rintro r F' ⟨⟨x,rfl,hx⟩,l⟩;rw [Fo (ha.small hk) (hb.small hk) ((ha.ap2 (o:=be) hb).small hk) (bq ha.1 hb.1).2] at hx ⊢;exact ⟨x,rfl,hx,l⟩
theorem fj {t:Tr} (h:t.ok):(dia t).2=0↔t=leaf false:=by
 refine ⟨λhe=> ?_,λhe=>by rw [he];rfl⟩;have h0:num (aF t) t=0:=by have:((num (aF t) t:Nat):Int)=0:=he;omega
 have hl:=oN (S:=aF t) (t:=t) (by omega);cases t with
 |node _ _ _=>cases hl
 |leaf b=>
  cases b with
  |false=>rfl
  |true=>cases h0
theorem vy {a:Tr} (ha:a.ok):ap2 oOr a (leaf false)=a:=eB (bq ha (b:=leaf false) trivial).1 ha λc=>by rw [(bq ha (b:=leaf false) trivial).2];exact VF _
theorem dr {κ:Type} [DecidableEq κ] {S:κ->Tr} (hS:Sxs k S) (n:κ):cu S n (leaf false)=S:=by unfold cu;rw [vy (hS n).1,sC]
theorem jH {κ:Type} [DecidableEq κ] {S:κ->Tr} {n:κ} {d:Tr}:cu S n d=S↔ap2 oOr (S n) d=S n:=by
 constructor
 ·intro h;have:=congrFun h n;unfold cu eK at this;rwa [if_pos rfl] at this
 ·intro h;unfold cu;rw [h,sC]
theorem tN {S:Int->Tr} {b2 b4:Nat} {ch:Bool} {w:Γ} {d:Tr} (h:St G F (mS aJ G0 m S::pt b4 (.cells #[.bool ch] 4)::As)) (l0:G0.le G) (hk:k<=6) (hS:Sxs k S) (hx:Sx k d) (hd:DV G w (dia d))
  (h2:G.cell ⟨b2,0,none⟩=some (.map (some m))) (n:Int):
  aj prog 124 #[vi n,.agg w,.pointer (some ⟨b2,0,none⟩),.pointer (some ⟨b4,0,none⟩)] F λr F'=>∃G' ch',r=.tuple #[]/\(ch'=true↔ch=true\/cu S n d≠S)/\G.le G'/\
   St G' F' (mS aJ G' m (cu S n d)::pt b4 (.cells #[.bool ch'] 4)::As):=by
 refine Q1 ?_;unfold KN;have up:∀{G1 G2 F':PH} {S':Int->Tr} {As':List (Ψ)},St G2 F' (mS aJ G1 m S'::As')->G1.le G2->St G2 F' (mS aJ G2 m S'::As'):=λ{G1 G2 F' S' As'} h l=>h.imp 0 rfl λH _ ⟨o,mp,a1,a2,a3⟩=>⟨o,mp,a1,a2,a3.le l⟩;obtain ⟨s,rfl,_⟩:=id hd;refine h.newG λb5 G1 F1 l1 q5 _ h=>⟨_,ld (h.le _ _ q5) rfl,λh0=> ?_,λh0=> ?_⟩
 ·have e:=(fj hx.1).1 h0;refine ⟨G1,ch,rfl,?_,l1,?_⟩
  ·rw [e,dr hS];simp
  ·rw [e,dr hS];exact up h (aa l0 l1)
 ·refine ⟨_,rfl,_,aG (aa l1 h.le) h2,?_⟩;refine (fi h (aa l0 l1) n).mono ?_;rintro _ F2 ⟨G2,u,rfl,hu,l2,h⟩;refine ⟨u,rfl,?_⟩;refine h.var hu.st (λb6 G3 F3 l3 q6 h=> ?_) rfl hu.size;have l13:=aa l2 l3;refine ⟨u,hu.size,ac (h.le _ _ q6),_,rfl,ac (h.le _ _ (l13 _ _ q5)),?_⟩;refine h.run (P:=λr G'=>∃x,r=.tuple #[.agg x,vi 0]/\DV G' x (dia (ap2 oOr (S n) d))) ((vx hk (hS n) hx (hu.le l3) (hd.le (aa l1 l13))).mono λr F' ⟨x,a,b,c⟩=>⟨⟨x,a,b⟩,c⟩) λ_ G4 F4 hr l4 h=> ?_;obtain ⟨x,rfl,hxx⟩:=hr;refine ⟨_,_,rfl,?_⟩;refine h.runv (bl hxx) λG5 F5 l5 h=>⟨_,rfl,?_⟩;refine h.var hxx.st (λb7 G6 F6 l6 q7 h=> ?_) rfl hxx.size;have l36:=aa l4 (aa l5 l6);refine ⟨u,hu.size,ac (h.le _ _ (l36 _ _ q6)),x,hxx.size,ac (h.le _ _ q7),?_⟩;refine h.runv (jy (hu.le (aa l3 l36)) (hxx.le (aa l5 l6)) (ph ((hS n).small hk))) λG7 F7 l7 h=>⟨_,rfl,?_⟩;have l17:=aa l13 (aa l36 l7);have kk:=(hS n).ap2 (o:=oOr) hx;refine ⟨λhne=> ?_,λhe=> ?_⟩
  ·have hne:ap2 oOr (S n) d≠S n:=λe=>by rw [e,decide_eq_true rfl] at hne;cases hne
   refine ⟨_,aG (aa (aa l1 l17) h.le) h2,x,hxx.size,ac (h.le _ _ (l7 _ _ q7)),?_⟩;obtain ⟨o,mp,m1,m2,m3⟩:=h.mS_at (i:=0) rfl;refine aU xy m1 m2 n (.agg x) λo' ho'=> ?_;have hxx7:=hxx.le (aa l5 (aa l6 l7));have h:=h.mS_set 0 rfl (G1:=G7) (S':=cu S n d) ho' ((m3.le (aa (aa l0 l1) l17)).put hxx7);refine ⟨_,rfl,h.set1 (w':= #[.bool true]) (by show 0<1;decide) rfl λF8 h=> ?_⟩;exact ⟨G7,true,rfl,⟨λ_=> .inr λe=>hne (jH.1 e),λ_=>rfl⟩,aa l1 l17,h⟩
  ·have e:ap2 oOr (S n) d=S n:=by
    have:decide (dia (S n)=dia (ap2 oOr (S n) d))=true:=by simpa using he
    exact (oP (hS n).1 kk.1 (of_decide_eq_true this)).symm
   have e2:=jH.2 e;refine ⟨G7,ch,rfl,?_,aa l1 l17,?_⟩
   ·rw [e2];simp
   ·rw [e2];exact up h (aa (aa l0 l1) l17)
end
theorem tO (S:Int->Tr) (s:Sy):∀(r:List Sy) (d:Tr),dv S d (r++[s])=if s.t=true then dv S d r else ap2 be (dv S d r) (S s.i)
 |[],d=>rfl
 |x::r,d=>by rw [Uz];unfold dv;exact tO S s r _
theorem gu {a:Tr} (ha:a.ok):ap2 be (leaf false) a=leaf false:=eB (bq (a:=leaf false) trivial ha).1 trivial λc=>by rw [(bq (a:=leaf false) trivial ha).2];rfl
theorem dT {α:Type} {r:List α} {i:Nat} {x:α} (h:r[i]? =some x):r.take (i+1)=r.take i++[x]:=by rw [UX,h];rfl
section
variable {G G0 F:PH} {As:List (Ψ)} {m:Nat} {k:Nat}
theorem gS {S:Int->Tr} (h:St G F (mS aJ G0 m S::As)) (l0:G0.le G) (hk:k<=6) (hS:Sxs k S) {d:Tr} {w:Γ} (hx:Sx k d) (hd:DV G w (dia d)) {sl:Sl} {r:List Sy} (hr:RL G sl r) (hl:r.length<=1000000):
  aj prog 67 #[.agg w,sl.v,.map (some m)] F λres F'=>∃G' u,res=.agg u/\DV G' u (dia (dv S d r))/\G.le G'/\St G' F' (mS aJ G0 m S::As):=by
 have elen:=hr.len (by decide);refine Tq ?_;unfold QT;refine h.new λb3 F1 h=>h.new λb6 F2 h=> ?_;refine bD (zH · (some m) b3 b6 sl _) r.length (λi F'=>∃(G':PH) (u:Γ),G.le G'/\DV G' u (dia (dv S d (r.take i)))/\St G' F' (pt b6 (.cells zD 31)::pt b3 (.cells u 31)::mS aJ G0 m S::As)) ⟨G,w,aq _,by rw [UM];exact hd,h⟩ ?_;rintro i F3 N hi ⟨G1,u,l1,hu,h⟩ next;unfold zH;obtain ⟨fx,_⟩:=bo hS (r.take i) hx;refine ⟨λhlt=> ?_,λhge=> ?_⟩
 ·have hlt:i<r.length:=by omega
  refine ixc ((hr.le l1).le h.le) (by decide) (by omega) (by omega) λa c s hs hrow hc=>⟨c,Mem.len hc,hrow,?_⟩;rw [N5] at hs;obtain rfl:c=s.arr:=hc;have et:=dT hs;have hsn:=tO S s (r.take i) d;refine h.var (by simp [al]) (λb8 G2 F4 l2 q8 h=>⟨_,ld (h.le _ _ q8) rfl,?_⟩) rfl rfl;have fin:∀{G' F':PH} {u':Γ},G1.le G'->DV G' u' (dia (dv S d (r.take (i+1))))->St G' F' (pt b6 (.cells zD 31)::pt b3 (.cells u' 31)::mS aJ G0 m S::As)->
    vK N (some m) b3 b6 sl (i:Int) (λres F'=>∃G' u,res=.agg u/\DV G' u (dia (dv S d r))/\G.le G'/\St G' F' (mS aJ G0 m S::As)) F':=λ{G' F' u'} l hu' h=>by
   unfold vK;rw [aH hlt (by omega)];exact next _ hlt ⟨G',u',aa l1 l,hu',h⟩
  refine ⟨λht=> ?_,λht=> ?_⟩
  ·have ht:s.t=false:=by simpa using ht
   rw [ht,if_neg U6] at hsn;obtain ⟨su,rfl,_⟩:=id hu;refine ⟨_,h.ld1 rfl,?_⟩;unfold vL;refine ⟨λhne=>⟨_,rfl,ac (h.ptAt (i:=1) rfl),_,ld (h.le _ _ q8) rfl,?_⟩,λhe=> ?_⟩
   ·refine (fi h.front2 (aa l0 (aa l1 l2)) s.i).mono ?_;rintro _ F5 ⟨G3,x,rfl,hxx,l3,h⟩;have h:=h.back2;have hu3:=hu.le (aa l2 l3);refine ⟨x,rfl,ac (h.ptAt (i:=1) rfl),?_⟩;refine h.run (P:=λr' G'=>∃y,r'=.tuple #[.agg y,vi 0]/\DV G' y (dia (ap2 be (dv S d (r.take i)) (S s.i)))) ((im hk fx (hS s.i) hu3 hxx).mono λr F' ⟨x,a,b,c⟩=>⟨⟨x,a,b⟩,c⟩) λ_ G4 F6 hr4 l4 h=> ?_;obtain ⟨y,rfl,hy⟩:=hr4;refine ⟨_,_,rfl,?_⟩;refine h.runv (bl hy) λG5 F7 l5 h=>⟨_,rfl,?_⟩;refine h.put1 (w':=y) hy.size rfl hy.st λF8 h=> ?_;refine fin (aa l2 (aa l3 (aa l4 l5))) ?_ h;rw [et,hsn];exact hy.le l5
   ·have e:dv S d (r.take i)=leaf false:=(fj fx.1).1 (by simpa using he);refine fin l2 ?_ h;rw [et,hsn,e,gu (hS _).1,<- e];exact hu.le l2
  ·have ht:s.t=true:=by simpa using ht
   rw [ht,if_pos rfl] at hsn;unfold vL;refine ⟨λhc=>(by cases hc),λ_=>fin l2 ?_ h⟩;rw [et,hsn];exact hu.le l2
 ·have e:i=r.length:=by omega
  subst e;rw [T2] at hu;unfold Gg;refine ⟨u,hu.size,ac (h.ptAt (i:=1) rfl),?_⟩;refine h.put0 (w':=u) hu.size rfl hu.st λF5 h=>⟨u,hu.size,ac (h.ptAt (i:=0) rfl),?_⟩;exact ⟨G1,u,rfl,hu,l1,h.tail.tail⟩
end
set_option maxRecDepth 100000
theorem Iy (p:Addr) (w:World):CallsD prog 112 #[.pointer (some p)] .returning w λe u' w'=>(∃v,e=.returned v)/\u'=.returning/\w'=w:=by refine callsD_of_wpS func112 rfl λc₀ cs hu=> ?_;apply wpS_seq;apply wpS_region;simp [wpOpsS,go_sem,recoverD,hu,ntmps112,Exit.thenS];apply wpS_seq;apply wpS_region;simp [wpOpsS,go_sem,Exit.thenS];refine wpS_cond (t:=false) (by simp [Act.eval,Array.replicate]) ?_;simp only [Uo,if_false];refine wpS_of_wp (wp_skip ?_);cases c₀;simp_all [bodyPostS,results,results112]
theorem Iz (p:Addr):yD prog ⟨.fn (.func 112) #[.pointer (some p)],#[]++[].toArray⟩:=
 ⟨_,_,112,#[.pointer (some p)],rfl,λw=>⟨by simp [go_sem],Iy p w⟩⟩
structure OkK (g:Gr) (k:Nat):Prop where
 ok:OkG g
 len:g.conds.length=k
 le:k<=6
theorem zv {d:Dia} {n:Nat} (h:iK d n):Sx n (tre d)/\d=dia (tre d):=by obtain ⟨t,h1,h2,h3,_,h5⟩:=sV h;rw [h3];exact ⟨⟨h1,h5⟩,h2⟩
theorem rE {n:Nat}:∀(l:List Tk) (done:List ByteArray),fK n done l->∀t∈l,∃d,Dp n d t
 |[],_,_,_,h=>by cases h
 |t::l,done,⟨h1,h2⟩,x,hx=>by
  rcases TN.1 hx with rfl|hx
  ·exact ⟨_,h1⟩
  ·exact rE l _ h2 x hx
theorem rF {g:Gr}:∀(l:List Pr) (done:List ByteArray),eO g done l=0->∀p∈l,i6 g p/\∃d,Hc g d p
 |[],_,_,_,h=>by cases h
 |p::l,done,h,x,hx=>by
  unfold eO at h;by_cases h1:i6 g p
  ·rw [if_neg (not_not_intro h1)] at h;by_cases h2:Hc g done p
   ·rw [if_neg (not_not_intro h2)] at h;rcases TN.1 hx with rfl|hx
    ·exact ⟨h1,_,h2⟩
    ·exact rF l _ h x hx
   ·rw [if_pos h2] at h;cases h
  ·rw [if_pos h1] at h;cases h
section
variable {g:Gr} {k:Nat}
theorem OkK.fam (h:OkK g k):Sx k (tre g.fam)/\g.fam=dia (tre g.fam):=by have:=zv h.ok.fam.2.2.1;rwa [h.len] at this
theorem OkK.fam0 (h:OkK g k):tre g.fam≠leaf false:=λe=>by have h2:=h.ok.fam.2.2.2;rw [h.fam.2,e] at h2;exact h2 rfl
theorem OkK.tok (h:OkK g k) {t:Tk} (ht:t∈g.toks):Sx k (tre t.cond)/\t.cond=dia (tre t.cond):=by obtain ⟨d,_,_,_,_,h5,_⟩:=rE _ _ h.ok.toks t ht;have:=zv h5;rwa [h.len] at this
theorem OkK.prod (h:OkK g k) {x:Pr} (hx:x∈g.prods):Sx k (tre x.cond)/\x.cond=dia (tre x.cond)/\i6 g x:=by obtain ⟨h1,d,_,_,h3,_⟩:=rF _ _ h.ok.prods x hx;have:=zv h3;rw [h.len] at this;exact ⟨this.1,this.2,h1⟩
noncomputable def iQ (g:Gr) (i:Int):Tr:=match g.toks[i.toNat]? with
 |some t=>tre t.cond
 |none=>leaf false
theorem OkK.tkd (h:OkK g k) (i:Int):Sx k (iQ g i):=by
 unfold iQ;split
 ·rename_i t ht;exact (h.tok (TU ht)).1
 ·exact Sx.leaf k false
noncomputable def kB (g:Gr):Tr->List Sy->Tr
 |d,[]=>d
 |d,s::r=>kB g (if s.t=true then ap2 be d (iQ g s.i) else d) r
theorem tP (s:Sy):∀(r:List Sy) (d:Tr),kB g d (r++[s])=if s.t=true then ap2 be (kB g d r) (iQ g s.i) else kB g d r
 |[],d=>rfl
 |x::r,d=>by rw [Uz];unfold kB;exact tP s r _
theorem fR (h:OkK g k):∀(r:List Sy) {d:Tr},Sx k d->Sx k (kB g d r)/\∀c,(kB g d r).ev c=(d.ev c && r.all λs=> !s.t || (iQ g s.i).ev c)
 |[],d,hd=>⟨hd,λc=>by simp [kB]⟩
 |s::r,d,hd=>by
  unfold kB;by_cases hs:s.t=true
  ·rw [if_pos hs];obtain ⟨h1,h2⟩:=fR h r (hd.ap2 (o:=be) (h.tkd s.i));refine ⟨h1,λc=> ?_⟩;rw [h2,U9,(bq hd.1 (h.tkd s.i).1).2,hs,Bool.and_assoc];rfl
  ·rw [if_neg hs];obtain ⟨h1,h2⟩:=fR h r hd;exact ⟨h1,λc=>by rw [h2,U9,UK.2 hs];simp⟩
noncomputable def aI (g:Gr) (i:Nat):Tr:=match g.prods[i]? with
 |some x=>kB g (ap2 be (tre g.fam) (tre x.cond)) x.right
 |none=>leaf false
theorem OkK.prs (h:OkK g k) (i:Nat):Sx k (aI g i):=by
 unfold aI;split
 ·rename_i x hx;exact (fR h _ (h.fam.1.ap2 (o:=be) (h.prod (TU hx)).1)).1
 ·exact Sx.leaf k false
theorem OkK.prs_ev (h:OkK g k) {i:Nat} {x:Pr} (hx:g.prods[i]? =some x) (c:Cf):(aI g i).ev c=((tre g.fam).ev c && (tre x.cond).ev c && x.right.all λs=> !s.t || (iQ g s.i).ev c):=by unfold aI;rw [hx];have hp:=(h.prod (TU hx)).1;dsimp only;rw [(fR h _ (h.fam.1.ap2 (o:=be) hp)).2,(bq h.fam.1.1 hp.1).2]
end
instance:Mem Dia where
 n:=2
 rep F d c:=DV F c d
 len h:=h.size
 le hl h:=h.le hl
 st h:=h.st
theorem S4:∃b z,SlT 39 31 2 b z:=⟨_,_,underlying39,NF,He,rfl,by decide,by decide⟩
abbrev anA (g:Gr) (c n t s p l f q:Sl):Γ:= #[c.v,n.v,vi g.fam.2,t.v,s.v,p.v,vi g.start,l.v,f.v,q.v]
noncomputable def oC (g:Gr) (n:Nat):List Dia:=(List.range n).map λi=>dia (aI g i)
theorem CW (g:Gr) (n:Nat):oC g (n+1)=oC g n++[dia (aI g n)]:=by unfold oC;rw [Vp,Ui];rfl
theorem jh (g:Gr) (n:Nat):(oC g n).length=n:=by unfold oC;rw [T1,Uq]
structure AnV (F:PH) (b:Nat) (g:Gr):Prop where
 ex:∃c n t s p l f q,F b=some (.cells (anA g c n t s p l f q) 107)/\GS F g c n t s p l f/\RL F q (oC g g.prods.length)
theorem AnV.le {F G:PH} {b:Nat} {g:Gr} (h:AnV F b g) (l:F.le G):AnV G b g:=by obtain ⟨c,n,t,s,p,lv,f,q,h1,h2,h3⟩:=h;exact ⟨c,n,t,s,p,lv,f,q,l _ _ h1,h2.le l,h3.le l⟩
theorem FQ (x:Addr) (i j:Nat):Addr.add (Addr.add x i) j=Addr.add x (i+j):=by obtain ⟨a,o,p⟩:=x;by_cases hi:i=0<;>by_cases hj:j=0<;>simp [Addr.add,hi,hj,Nat.add_assoc]
section
variable {G F:PH} {As:List (Ψ)} {g:Gr} {k:Nat}
theorem Qy (hk:OkK g k) {N1:Ω} {rv:Value} {b2 b4 b20 b9 i:Nat} {p r:Sl} {R:VR} {c n t s p' l f:Sl} {x:Pr} (hx:g.prods[i]? =some x) (q2:G b2=some (.cells (g.arr c n t s p' l f) 37)) (ht:RL G t g.toks) (hr:RL G r x.right) (hl:x.right.length<=1000000)
  {w:Γ} {d:Tr} (hd:Sx k d) (hw:DV G w (dia d)) (h:St G F (pt b9 (.cells w 31)::As))
  (fin:∀G' F' w',G.le G'->DV G' w' (dia (kB g d x.right))->St G' F' (pt b9 (.cells w' 31)::As)->zw N1 rv b2 b4 b20 b9 p (i:Int) R F'):
  ∃(I2:Nat->Ω) (m2:Nat),I2 m2 (0:Int) F/\∀m2 v_39 F,I2 m2 v_39 F->vA N1 (λy2_0 F=>∃m',m'<m2/\I2 m' y2_0 F) rv b2 b4 b20 b9 p (i:Int) r R v_39 F:=by
 have elen:=hr.len (by decide);have hsy:=(hk.prod (TU hx)).2.2.2;refine bD (vA N1 · rv b2 b4 b20 b9 p (i:Int) r R) x.right.length (λj F'=>∃(G':PH) (u:Γ),G.le G'/\DV G' u (dia (kB g d (x.right.take j)))/\St G' F' (pt b9 (.cells u 31)::As)) ⟨G,w,aq _,by rw [UM];exact hw,h⟩ ?_;rintro j F3 N hj ⟨G1,u,l1,hu,h⟩ next;obtain ⟨fx,_⟩:=fR hk (x.right.take j) hd;unfold vA;refine ⟨λhlt=> ?_,λhge=> ?_⟩
 ·have hlt:j<x.right.length:=by omega
  refine ixc ((hr.le l1).le h.le) (by decide) (by omega) (by omega) λa cc sy hs hrow hc=>⟨cc,Mem.len hc,hrow,?_⟩;rw [N5] at hs;obtain rfl:cc=sy.arr:=hc;have et:=dT hs;have hsn:=tP (g:=g) sy (x.right.take j) d;obtain ⟨s0,_,s2⟩:=hsy sy (TU hs);refine h.var (by simp [al]) (λb11 G2 F4 l2 q11 h=>⟨_,ld (h.le _ _ q11) rfl,?_⟩) rfl rfl;have fin2:∀{G' F':PH} {u':Γ},G1.le G'->DV G' u' (dia (kB g d (x.right.take (j+1))))->St G' F' (pt b9 (.cells u' 31)::As)->
    vz N1 N rv b2 b4 b20 b9 p (i:Int) r (j:Int) R F':=λ{G' F' u'} l hu' h=>by
   unfold vz;rw [aH hlt (by omega)];exact next _ hlt ⟨G',u',aa l1 l,hu',h⟩
  refine ⟨λhst=> ?_,λhst=> ?_⟩
  ·have hst:sy.t=true:=hst;rw [if_pos hst] at hsn;obtain ⟨tk,htk,_⟩:=s2 hst;have ed:iQ g sy.i=tre tk.cond:=by unfold iQ;rw [htk]
   obtain ⟨tx,td⟩:=hk.tok (TU htk);have ht2:=ht.le (aa l1 l2);have etl:=ht2.len (by decide);have hti:sy.i.toNat<g.toks.length:=(N6.1 htk).1;refine ⟨u,hu.size,ac (h.ptAt (i:=0) rfl),_,ld (h.le _ _ (l2 _ _ (l1 _ _ q2))) rfl,_,ld (h.le _ _ q11) rfl,?_⟩;refine h.ix ht2 (by decide) s0 (by omega) λa2 c2 y hy hrow2 hc2=> ?_;rw [htk] at hy;obtain rfl:=Ug hy;obtain ⟨pp,nn,rfl,_,hn2⟩:=hc2;have hdv:DV G2 #[nn.v,vi tk.cond.2] (dia (iQ g sy.i)):=by rw [ed,<- td];exact DV.mk hn2
   refine ⟨#[nn.v,vi tk.cond.2],rfl,λq hq=> ?_,?_⟩
   ·have hq2:q<2:=hq;have:=hrow2 (5+q) (by show 5+q<7;omega);rw [FQ];refine this.trans ?_;rcases (show q=0\/q=1 by omega) with rfl|rfl<;>rfl
   ·refine h.run (P:=λr' G'=>∃y,r'=.tuple #[.agg y,vi 0]/\DV G' y (dia (ap2 be (kB g d (x.right.take j)) (iQ g sy.i)))) ((im hk.le fx (hk.tkd sy.i) (hu.le l2) hdv).mono λr F' ⟨x,a,b,c⟩=>⟨⟨x,a,b⟩,c⟩) λ_ G4 F6 hr4 l4 h=> ?_;obtain ⟨y,rfl,hy⟩:=hr4;refine ⟨_,_,rfl,ld (h.le _ _ (l4 _ _ q11)) rfl,ld (h.le _ _ (l4 _ _ (l2 _ _ (l1 _ _ q2)))) rfl,?_⟩;refine h.runv (bl hy) λG5 F7 l5 h=>⟨_,rfl,?_⟩;refine ⟨ld (h.le _ _ (l5 _ _ (l4 _ _ q11))) rfl,ld (h.le _ _ (l5 _ _ (l4 _ _ (l2 _ _ (l1 _ _ q2))))) rfl,?_⟩;refine h.put0 (w':=y) hy.size hu.size hy.st λF8 h=> ?_;refine fin2 (aa l2 (aa l4 l5)) ?_ h;rw [et,hsn];exact hy.le l5
  ·have hst:sy.t≠true:=λe=>by rw [show sy.t=true from e] at hst;cases hst
   rw [if_neg hst] at hsn;refine fin2 l2 ?_ h;rw [et,hsn];exact hu.le l2
 ·have e:j=x.right.length:=by omega
  subst e;rw [T2] at hu;exact fin G1 _ u l1 hu h
end
section
variable {G F:PH} {As:List (Ψ)} {Bs:PH->List (Ψ)} {g:Gr} {k:Nat}
theorem St.rot {A:Ψ} (h:St G F (A::As)):St G F (As++[A]):=by
 refine h.pick (λi=>if i=As.length then 0 else i+1) (λi j _ _ e=> ?_) (λi hi=> ?_)
 ·split at e<;>split at e<;>omega
 ·rw [TQ,TY] at hi;split
  ·rename_i e;rw [e,Ub (TT _),Nat.sub_self];rfl
  ·rw [TZ (by omega)];rfl
theorem St.unrot {A:Ψ} (h:St G F (As++[A])):St G F (A::As):=by
 refine h.pick (λi=>if i=0 then As.length else i - 1) (λi j hi hj e=> ?_) (λi hi=> ?_)
 ·rw [T8] at hi hj;split at e<;>split at e<;>omega
 ·rw [T8] at hi;split
  ·rename_i e;rw [e,Ub (TT _),Nat.sub_self];rfl
  ·rename_i e;obtain ⟨j,rfl⟩:∃j,i=j+1:=⟨i - 1,by omega⟩;rw [Nat.add_sub_cancel,TZ (by omega)];rfl
theorem dX {v:Γ} (hT:Tab G) (hg:GV G v g) (hz:Sz g) (hk:OkK g k) (hl:∀x∈g.prods,x.right.length<=1000000) (hp:g.prods.length<=1000000) (h:St G F As) {kr:Nat} {fst cap:Γ} (cb:aB prog kr=true)
  (run:∀G' b F',G.le G'->AnV G' b g->St G' F' As->aj prog kr (fst++ #[.pointer (some ⟨b,0,none⟩)]++cap) F' λr F''=>∃G'',r=.tuple #[]/\G'.le G''/\St G'' F'' (Bs G'')):
  aj prog 51 #[.agg v,.func (.func kr) fst cap] F λr F'=>r=vi 0/\∃G',G.le G'/\St G' F' (Bs G'):=by
 obtain ⟨_,_,T⟩:=S4;have hc:=oI.2 hk.ok;refine Tb ?_;unfold QF;refine h.newG λb2 G1 F1 l1 q2 _ h=>h.new λb4 F2 h=>⟨v,hg.size,ac (h.le _ _ q2),?_⟩;refine h.run (nI (hT.le l1) (hg.le l1) hz) λ_ G3 F3 hr l3 h=> ?_;rw [hr,hc];refine ⟨_,rfl,λhn=>absurd rfl hn,λ_=>⟨Iz _,v,hg.size,ac (h.le _ _ (l3 _ _ q2)),hg.size,?_⟩⟩;have l13:=aa l1 l3;obtain ⟨c,n,t,s,p,lv,f,rfl,hs⟩:=hg.le l13;have q2:=l3 _ _ q2;refine h.new λb20 F4 h=> ?_;rw [show wr (#[.slice none 0 0,.slice none 0 0,vi 0,.slice none 0 0,.slice none 0 0,.slice none 0 0,vi 0,.slice none 0 0,.slice none 0 0,.slice none 0 0]:Γ) 0 (g.arr c n t s p lv f).toList=anA g c n t s p lv f Sl.nil by kernel_rfl] at h;refine ⟨_,ld (h.le _ _ q2) rfl,?_⟩;have h:=h.nilOwn 31 2;have ep:=hs.p.len (by decide)
 refine bD (zx · (.func (.func kr) fst cap) b2 b4 b20 p _) g.prods.length (λi F'=>∃(G':PH) (sl:Sl) (vs:List Γ),G3.le G'/\de G' (oC g i) vs/\
  St G' F' (own sl 31 2 (cat vs)::pt b20 (.cells (anA g c n t s p lv f sl) 107)::pt b4 (.cells #[vi 0] 40)::As)) ⟨G3,Sl.nil,[],aq _,.nil,h⟩ ?_
 rintro i F5 N hi ⟨G4,sl,vs,l4,hv,h⟩ next;have hs4:=hs.le l4;unfold zx;refine ⟨λhlt=> ?_,λhge=> ?_⟩
 ·have hlt:i<g.prods.length:=by omega
  refine h.ix hs4.p (by decide) (by omega) (by omega) λa c8 x hx hrow hc8=>⟨c8,Mem.len hc8,hrow,?_⟩;rw [N5] at hx;have hxm:=TU hx;obtain ⟨hxc,hxd,_⟩:=hk.prod hxm;refine h.var (Mem.st hc8) (λb8 G5 F6 l5 q8 h=> ?_) rfl (Mem.len hc8);obtain ⟨r8,n8,l8,rfl,hr8,hn8,_⟩:=hc8;have hs5:=hs4.le l5;have q25:=l5 _ _ (l4 _ _ q2);have d1:DV G5 #[n.v,vi g.fam.2] (dia (tre g.fam)):=by rw [<- hk.fam.2];exact DV.mk hs5.n
  have d2:DV G5 #[n8.v,vi x.cond.2] (dia (tre x.cond)):=by rw [<- hxd];exact DV.mk (hn8.le l5)
  refine ⟨#[n.v,vi g.fam.2],rfl,kq (h.le _ _ q25) rfl,#[n8.v,vi x.cond.2],rfl,kq (h.le _ _ q8) rfl,?_⟩;refine h.run (P:=λr' G'=>∃y,r'=.tuple #[.agg y,vi 0]/\DV G' y (dia (ap2 be (tre g.fam) (tre x.cond)))) ((im hk.le hk.fam.1 hxc d1 d2).mono λr F' ⟨x,a,b,c⟩=>⟨⟨x,a,b⟩,c⟩) λ_ G6 F7 hr6 l6 h=> ?_;obtain ⟨y,rfl,hy⟩:=hr6;refine ⟨_,_,rfl,?_⟩;refine h.runv (bl hy) λG7 F8 l7 h=>⟨_,rfl,?_⟩;have l57:=aa l6 l7;refine h.new λb9 F9 h=> ?_;refine h.put0 (w':=y) hy.size rfl hy.st λF10 h=>⟨_,ld (h.le _ _ (l57 _ _ q8)) rfl,?_⟩;refine Qy hk hx (l57 _ _ q25) (hs5.le l57).t (hr8.le (aa l5 l57)) (hl x hxm) (hk.fam.1.ap2 (o:=be) hxc) (hy.le l7) h λG8 F11 w' l8' hw h=> ?_;unfold zw;refine ⟨_,h.ld2 rfl,w',hw.size,ac (h.ptAt (i:=0) rfl),hw.size,?_⟩;have l58:=aa l57 l8';have hv8:=hv.le (aa l5 l58);have hsl:sl.len=i:=by have:=RL.len ⟨vs,hv8.le h.le,bW.rd (h.ownAt (i:=1) rfl).1⟩ (by decide);rw [jh] at this;exact this
  refine h.push1 T hw.size hw.st (by omega) λs' G9 F12 l9 h hl'=> ?_;refine h.set2 (w':=anA g c n t s p lv f s') (by show 9<10;decide) rfl λF13 h=> ?_;unfold FV;rw [aH hlt (by omega)];refine next _ hlt ⟨G9,s',vs++[w'],aa l4 (aa l5 (aa l58 l9)),?_,?_⟩
  ·rw [CW];have e:aI g i=kB g (ap2 be (tre g.fam) (tre x.cond)) x.right:=by unfold aI;rw [hx]
   rw [e];exact (hv8.append (.cons hw .nil)).le l9
  ·rw [bS,cE];exact h.tail
 ·have e:i=g.prods.length:=by omega
  subst e;unfold FU;obtain ⟨G5,l5,hd,h⟩:=h.pinO;obtain ⟨G6,l6,⟨H,hA,hH⟩,h⟩:=h.pin;have q20:=hH _ _ hA;have lAll:=aa l4 (aa l5 l6);have hAn:AnV G6 b20 g:=⟨c,n,t,s,p,lv,f,sl,q20,hs.le lAll,⟨vs,hv.le (aa l5 l6),hd.le l6⟩⟩;refine ⟨kr,fst,cap,rfl,cb,?_⟩;refine (h.rot.callL (Bs':=λ_ G'=>Bs G') (P:=λr _=>r=.tuple #[]) λF1 h1=>run G6 b20 F1 (aa l13 lAll) hAn h1).mono ?_;rintro r F7 ⟨G7,rfl,l7,h⟩;refine ⟨rfl,?_⟩;have h:=h.unrot;refine h.set0 (w':= #[vi 0]) (by show 0<1;decide) rfl λF8 h=>⟨_,h.ld0 rfl,rfl,G7,aa l13 (aa lAll l7),h.tail⟩
end
theorem FR:aB prog 124=true:=by kernel_rfl
section
variable {G G0 F:PH} {m k:Nat} {σ:Type}
structure MJ (G:PH) (k m:Nat) (kr:Nat) (fst cap:Γ) (keys:Φ) (Inv:(Int->Tr)->Prop) (rnd:(Int->Tr)->Int->Tr) (aux:(Int->Tr)->σ) (As:PH->σ->List (Ψ)):Prop where
 cb:aB prog kr=true
 sx:∀S,Sxs k S->Inv S->Sxs k (rnd S)/\Inv (rnd S)/\Lt' S (rnd S)/\∀n,rnd S n≠S n->n∈keys
 run:∀G' F' S x b2 b4,G.le G'->Sxs k S->Inv S->G'.cell ⟨b2,0,none⟩=some (.map (some m))->St G' F' (mS aJ G' m S::pt b4 (.cells #[.bool false] 4)::As G' x)->
  aj prog kr (fst++ #[.func (.func 124) #[] #[.pointer (some ⟨b2,0,none⟩),.pointer (some ⟨b4,0,none⟩)]]++cap) F' λr F''=>∃G'' ch,r=.tuple #[]/\G'.le G''/\(ch=true↔rnd S≠S)/\
   St G'' F'' (mS aJ G'' m (rnd S)::pt b4 (.cells #[.bool ch] 4)::As G'' (aux S))
theorem tQ {kr:Nat} {fst cap:Γ} {keys:Φ} {Inv:(Int->Tr)->Prop} {rnd:(Int->Tr)->Int->Tr} {aux:(Int->Tr)->σ} {As:PH->σ->List (Ψ)} (Rn:MJ G k m kr fst cap keys Inv rnd aux As)
  (up:∀G' G'' F' x S,G'.le G''->St G'' F' (mS aJ G' m S::As G' x)->St G'' F' (mS aJ G'' m S::As G'' x)) {S:Int->Tr} {x:σ} (hS:Sxs k S) (hI:Inv S) (h:St G F (mS aJ G m S::As G x)):
  aj prog 63 #[.map (some m),.func (.func kr) fst cap] F λr F'=>∃G' S',r=.tuple #[]/\G.le G'/\Sxs k S'/\Inv S'/\rnd S'=S'/\St G' F' (mS aJ G' m S'::As G' (aux S')):=by
 refine Tm ?_;unfold QP;refine h.newG λb2 G1 F1 l1 q2 _ h=> ?_;have h:=up G G1 F1 x S l1 h;refine h.new λb4 F2 h=> ?_;refine h.set0 (w':= #[.bool true]) (by show 0<1;decide) rfl λF3 h=> ?_
 refine ⟨λq p F'=>∃(b:Nat) (G':PH) (S':Int->Tr) (y:σ) (ch:Bool),p=some (Addr.mk b 0 none)/\q=mu k keys S'+(if ch=true then 1 else 0)/\G1.le G'/\Sxs k S'/\Inv S'/\(ch=false->rnd S'=S'/\y=aux S')/\
  St G' F' (pt b (.cells #[.bool ch] 4)::mS aJ G' m S'::As G' y),mu k keys S+1,⟨b4,G1,S,x,true,rfl,rfl,aq _,hS,hI,λhc=>(by cases hc),h⟩,?_⟩
 rintro q p F4 ⟨b,G2,S2,y,ch,rfl,rfl,l2,hS2,hI2,hc2,h⟩;unfold Ge;refine ⟨_,rfl,ch,h.ld0 rfl,λht=> ?_,λhf=> ?_⟩
 ·subst ht;refine h.set0 (w':= #[.bool false]) (by show 0<1;decide) rfl λF5 h=>⟨kr,fst,cap,rfl,Rn.cb,?_⟩;obtain ⟨s1,s2,s3,s4⟩:=Rn.sx S2 hS2 hI2;refine (Rn.run G2 F5 S2 y b2 b (aa l1 l2) hS2 hI2 (ld (l2 _ _ q2) rfl) h.swap).mono ?_;rintro _ F6 ⟨G3,ch',rfl,l3,hch,h⟩;refine ⟨rfl,ch',h.ld1 rfl,?_⟩;have h:=h.swap;refine h.new λb5 F7 h=> ?_;refine h.set0 (w':= #[.bool ch']) (by show 0<1;decide) rfl λF8 h=> ?_;refine ⟨mu k keys (rnd S2)+(if ch'=true then 1 else 0),?_,b5,G3,rnd S2,aux S2,ch',rfl,rfl,aa l2 l3,s1,s2,λhf=> ?_,h.swap.tail.swap.swap⟩
  ·obtain ⟨m1,m2⟩:=Ab hS2 s1 s3 keys;rw [if_pos rfl];by_cases hc:ch'=true
   ·rw [if_pos hc];have hne:=hch.1 hc;obtain ⟨n,hn⟩:∃n,rnd S2 n≠S2 n:=Classical.not_forall.1 λha=>hne (funext ha);have:=m2 n (s4 n hn) (Ne.symm hn);omega
   ·rw [if_neg hc];omega
  ·have e:rnd S2=S2:=Classical.not_not.1 λhne=>by rw [hch.2 hne] at hf;cases hf
   exact ⟨by rw [e,e],by rw [e]⟩
 ·subst hf;obtain ⟨e1,e2⟩:=hc2 rfl;exact ⟨G2,S2,rfl,aa l1 l2,hS2,hI2,e1,by rw [<- e2];exact h.tail⟩
end
abbrev rG (b2 b4:Nat):Value:=.func (.func 124) #[] #[.pointer (some ⟨b2,0,none⟩),.pointer (some ⟨b4,0,none⟩)]
theorem io {κ:Type} {k:Nat} {S T U:κ->Tr} (hS:Sxs k S) (hT:Sxs k T) (hU:Sxs k U) (h1:Lt' S T) (h2:Lt' T U):(T≠S\/U≠T)↔U≠S:=by
 constructor
 ·rintro h rfl;have e:T=U:=Lt'.antisymm hT hU h2 h1;rcases h with h|h
  ·exact h e
  ·exact h e.symm
 ·intro h;by_cases e:T=S
  ·exact .inr λe2=>h (e2.trans e)
  ·exact .inl e
theorem tR {st:Bool} {x:Pr}:fV st x=true↔st=true/\∃s∈x.right,s.t=true:=by unfold fV;rw [Uc,UP]
section
variable {G F:PH} {As:List (Ψ)} {g:Gr} {k m:Nat} {st:Bool}
structure DrE (G:PH) (g:Gr) (st:Bool) (m ban b1 b3 b5 b2:Nat):Prop where
 q1:G b1=some (.cells #[.pointer (some ⟨ban,0,none⟩)] 93)
 q3:G b3=some (.cells #[.bool st] 4)
 q5:G b5=some (.cells #[.map (some m)] 95)
 q2:G.cell ⟨b2,0,none⟩=some (.map (some m))
 an:AnV G ban g
theorem DrE.le {G G':PH} {ban b1 b3 b5 b2:Nat} (h:DrE G g st m ban b1 b3 b5 b2) (l:G.le G'):DrE G' g st m ban b1 b3 b5 b2:=⟨l _ _ h.q1,l _ _ h.q3,l _ _ h.q5,aG l h.q2,h.an.le l⟩
theorem IA {ban b1 b3 b5 b2 b4:Nat} (hk:OkK g k) (hl:∀x∈g.prods,x.right.length<=1000000) (hp:g.prods.length<=1000000) (E:DrE G g st m ban b1 b3 b5 b2) {S:Int->Tr} (hS:Sxs k S)
  (h:St G F (mS aJ G m S::pt b4 (.cells #[.bool false] 4)::As)):
  aj prog 113 #[rG b2 b4,.pointer (some ⟨b1,0,none⟩),.pointer (some ⟨b3,0,none⟩),.pointer (some ⟨b5,0,none⟩)] F λr F''=>∃G'' ch,r=.tuple #[]/\G.le G''/\(ch=true↔iI st (aI g) 0 g.prods S≠S)/\
   St G'' F'' (mS aJ G'' m (iI st (aI g) 0 g.prods S)::pt b4 (.cells #[.bool ch] 4)::As):=by
 obtain ⟨c,n,t,s,p,lv,f,q,qa,hs,hq⟩:=E.an.ex;have ep:=hs.p.len (by decide);have eq:=hq.len (by decide);rw [jh] at eq;refine QZ ?_;unfold KL;refine ⟨_,rfl,_,ld (h.le _ _ E.q1) rfl,_,rfl,_,by rw [aC];exact ld (h.le _ _ qa) rfl,?_⟩
 refine bD (vP · (rG b2 b4) (Addr.mk b1 0 none) _ _ p _) g.prods.length (λi F'=>∃(G':PH) (S':Int->Tr) (ch:Bool),G.le G'/\Sxs k S'/\Lt' S S'/\iI st (aI g) 0 g.prods S=iI st (aI g) i (g.prods.drop i) S'/\(ch=true↔S'≠S)/\
  St G' F' (mS aJ G' m S'::pt b4 (.cells #[.bool ch] 4)::As)) ⟨G,S,false,aq _,hS,Lt'.refl S,by rw [Ut],by simp,h⟩ ?_
 rintro i F1 N hi ⟨G1,S1,ch,l1,hS1,hle,hrd,hch,h⟩ next;have E1:=E.le l1;have up:∀{G1 G2 F':PH} {S':Int->Tr} {As':List (Ψ)},St G2 F' (mS aJ G1 m S'::As')->G1.le G2->St G2 F' (mS aJ G2 m S'::As'):=λ{G1 G2 F' S' As'} h l=>h.imp 0 rfl λH _ ⟨o,mp,a1,a2,a3⟩=>⟨o,mp,a1,a2,a3.le l⟩;unfold vP;refine ⟨λhlt=> ?_,λhge=> ?_⟩
 ·have hlt:i<g.prods.length:=by omega
  have hs1:=hs.le l1;refine h.ix hs1.p (by decide) (by omega) (by omega) λa c6 x hx hrow hc6=>⟨c6,Mem.len hc6,hrow,?_⟩;rw [N5] at hx;have hxm:=TU hx;have edrop:g.prods.drop i=x::g.prods.drop (i+1):=cI hx;obtain ⟨a1,a2⟩:=fW (st:=st) hS1 (hk.prs i) x;refine h.var (Mem.st hc6) (λb6 G2 F2 l2 q6 h=> ?_) rfl (Mem.len hc6);obtain ⟨r,n6,l6,rfl,hr,hn6,_⟩:=hc6;have er:=(hr.le l2).len (by decide);refine ⟨_,ld (h.le _ _ q6) rfl,?_⟩;have goOn:∀{G' F':PH} {ch':Bool} {S':Int->Tr},G2.le G'->S'=(if fV st x=true then S1 else cu S1 x.left (dv S1 (aI g i) x.right))->(ch'=true↔ch=true\/S'≠S1)->St G' F' (mS aJ G' m S'::pt b4 (.cells #[.bool ch'] 4)::As)->
    pC N (rG b2 b4) (Addr.mk b1 0 none) (some (Addr.mk b3 0 none)) (some (Addr.mk b5 0 none)) p (i:Int) (λr F''=>∃G'' ch,r=.tuple #[]/\G.le G''/\(ch=true↔iI st (aI g) 0 g.prods S≠S)/\
   St G'' F'' (mS aJ G'' m (iI st (aI g) 0 g.prods S)::pt b4 (.cells #[.bool ch] 4)::As)) F':=λ{G' F' ch' S'} l e hch' h=>by
   unfold pC;rw [aH hlt (by omega)];subst e;refine next _ hlt ⟨G',_,ch',aa l1 (aa l2 l),a1,hle.trans a2,?_,?_,h⟩
   ·rw [hrd,edrop];rfl
   ·rw [hch',hch];exact io hS hS1 a1 hle a2
  refine bD (vO N · (rG b2 b4) (Addr.mk b1 0 none) (some (Addr.mk b3 0 none)) (some (Addr.mk b5 0 none)) (i:Int) b6 p r _) x.right.length (λj F'=>∃G':PH,G2.le G'/\(st=true->∀(j':Nat) (y:Sy),j'<j->x.right[j']? =some y->y.t=false)/\
   St G' F' (mS aJ G' m S1::pt b4 (.cells #[.bool ch] 4)::As)) ⟨G2,aq _,λ_ j' y hj=>by omega,up h l2⟩ ?_
  rintro j F3 N2 hj ⟨G3,l3,hno,h⟩ next2;unfold vO;have E3:=E1.le (aa l2 l3);refine ⟨λhjl=> ?_,λhjg=> ?_⟩
  ·have hjl:j<x.right.length:=by omega
   refine h.ix (hr.le (aa l2 l3)) (by decide) (by omega) (by omega) λa8 c8 y hy hrow8 hc8=>⟨c8,Mem.len hc8,hrow8,?_⟩;rw [N5] at hy;obtain rfl:c8=y.arr:=hc8;refine h.var (by simp [al]) (λb8 G4 F4 l4 q8 h=>⟨_,ld (h.le _ _ q8) rfl,λhyt=> ?_,λhyt=> ?_⟩) rfl rfl
   ·have hyt:y.t=true:=hyt;refine ⟨_,rfl,_,ld (h.le _ _ (l4 _ _ E3.q3)) rfl,λhst=> ?_,λhst=> ?_⟩
    ·refine goOn (aa l3 l4) (S':=S1) ?_ (by simp) (up h l4);rw [if_pos (tR.2 ⟨hst,y,TU hy,hyt⟩)]
    ·unfold pD;rw [aH hjl (by have:=hl x hxm;omega)];exact next2 _ hjl ⟨G4,aa l3 l4,λh=>(by rw [show st=false from hst] at h;cases h),up h l4⟩
   ·unfold pD;rw [aH hjl (by have:=hl x hxm;omega)];refine next2 _ hjl ⟨G4,aa l3 l4,λhst j' z hj' hz=> ?_,up h l4⟩;by_cases e:j'=j
    ·subst e;rw [hy] at hz;cases hz;exact hyt
    ·exact hno hst j' z (by omega) hz
  ·have hj:j=x.right.length:=by omega
   subst hj;have hskip:¬fV st x=true:=λhsk=>by obtain ⟨h1,y,hy,hyt⟩:=tR.1 hsk;obtain ⟨j',hj'⟩:=Vw hy;have:=hno h1 j' y (N6.1 hj').1 hj';rw [hyt] at this;cases this
   unfold BG;have l13:=aa l1 (aa l2 l3);have qa3:=l13 _ _ qa;have q63:=l3 _ _ q6;refine ⟨_,ld (h.le _ _ q63) rfl,_,ld (h.le _ _ E3.q1) rfl,_,rfl,_,by rw [aC];exact ld (h.le _ _ qa3) rfl,?_⟩;refine h.ix (hq.le l13) (by decide) (by omega) (by omega) λa9 c9 dd hdd hrow9 hc9=>⟨c9,Mem.len hc9,hrow9,?_⟩;rw [N5] at hdd;have hdd:dd=dia (aI g i):=by unfold oC at hdd;rw [T0,Ur hlt] at hdd;exact (Ug hdd).symm
   have hc9:DV G3 c9 (dia (aI g i)):=by rw [<- hdd];exact hc9
   refine ⟨_,ld (h.le _ _ q63) rfl,_,rfl,_,ld (h.le _ _ E3.q5) rfl,?_⟩;refine (gS h (aq _) hk.le hS1 (hk.prs i) hc9 (hr.le (aa l2 l3)) (hl x hxm)).mono ?_;rintro _ F5 ⟨G5,u,rfl,hu,l5,h⟩;have E5:=E3.le l5;refine ⟨u,rfl,by rw [aC];exact ld (h.le _ _ (l5 _ _ qa3)) rfl,ld (h.le _ _ E5.q1) rfl,ld (h.le _ _ (l5 _ _ q63)) rfl,_,_,_,rfl,FR,?_⟩;refine (tN h l5 hk.le hS1 (bo hS1 x.right (hk.prs i)).1 hu E5.q2 x.left).mono ?_;rintro _ F6 ⟨G6,ch',rfl,hch',l6,h⟩;refine ⟨rfl,by rw [aC];exact ld (h.le _ _ (l6 _ _ (l5 _ _ qa3))) rfl,ld (h.le _ _ (l6 _ _ E5.q1)) rfl,?_⟩;exact goOn (aa l3 (aa l5 l6)) (by rw [if_neg hskip]) hch' h
 ·have e:i=g.prods.length:=by omega
  subst e;rw [UI] at hrd;have hrd:iI st (aI g) 0 g.prods S=S1:=hrd;rw [hrd];exact ⟨G1,ch,rfl,l1,hch,h⟩
end
end Go.Proofs.YtcemhghkipgdiaaGreatDoor
