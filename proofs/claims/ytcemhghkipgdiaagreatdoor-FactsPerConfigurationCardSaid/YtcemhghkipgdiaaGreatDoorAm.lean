/-
  Package facts: one round of derivable.
-/
import Derived.Test.YtcemhghkipgdiaaGreatDoorAe
import Derived.Test.YtcemhghkipgdiaaGreatDoorId
import Derived.Test.YtcemhghkipgdiaaGreatDoorHm
import Derived.Test.YtcemhghkipgdiaaGreatDoorGfacts
import Derived.Tactics
import Derived.Tactics2
import Derived.Recover
import Derived.Test.YtcemhghkipgdiaaGreatDoorHr
namespace Go.Proofs.YtcemhghkipgdiaaGreatDoor
open Go Go.Proofs.Tryz Tr
set_option maxRecDepth 10000
section
variable {κ:Type} {enc:κ->Value} {G G0 G1 F:PH} {As:List (Ψ)} {m:Nat} {S S':κ->Tr} {mp mp':κ->Option Value}
def jx (G:PH) (S:κ->Tr) (mp:κ->Option Value):Prop:=∀n,(mp n=none/\S n=leaf false)\/∃w,mp n=some (.agg w)/\DV G w (dia (S n))
theorem jx.le (h:jx G0 S mp) (l:G0.le G):jx G S mp:=λn=>(h n).imp id λ⟨w,h1,h2⟩=>⟨w,h1,h2.le l⟩
theorem jx.empty (G:PH):jx G (λ_:κ=>leaf false) (λ_=>none):=λ_=> .inl ⟨rfl,rfl⟩
variable [DecidableEq κ]
theorem jx.put (h:jx G S mp) {n:κ} {w:Γ} {t:Tr} (hd:DV G w (dia t)):jx G (eU S n t) (λk=>if k=n then some (.agg w) else mp k):=λk=>by
 unfold eU;dsimp only;by_cases e:k=n
 ·rw [if_pos e,if_pos e];exact .inr ⟨w,rfl,hd⟩
 ·rw [if_neg e,if_neg e];exact h k
def mS (enc:κ->Value) (G:PH) (m:Nat) (S:κ->Tr):Ψ:=λH=>∃o mp,H m=some o/\eH enc mp o/\jx G S mp
theorem St.mS_at (h:St G F As) {i:Nat} (hi:As[i]? =some (mS enc G0 m S)):∃o mp,F m=some o/\eH enc mp o/\jx G0 S mp:=by obtain ⟨H,⟨o,mp,h1,h2,h3⟩,_,h4⟩:=h.get hi;exact ⟨o,mp,h4 _ _ h1,h2,h3⟩
theorem St.mS_set (h:St G F As) (i:Nat) (hi:As[i]? =some (mS enc G0 m S)) {o':Obj} (ho:eH enc mp' o') (hs:jx G1 S' mp'):St G (F.set m o') (As.set i (mS enc G1 m S')):=by
 obtain ⟨H,⟨o,mp,a1,_,_⟩,a2,a3,a4⟩:=h.set (A':=mS enc G1 m S') hi;refine a4 (H.set m o') _ ⟨o',mp',al _ _ _,ho,hs⟩ (λx hx=> ?_) (λx p hx=> ?_) (λx p hx hn=> ?_)
 ·by_cases e:x=m
  ·rw [e,a1];exact .inl (by simp)
  ·rw [av _ _ e] at hx;exact .inl hx
 ·by_cases e:x=m
  ·rw [e,al] at hx ⊢;exact hx
  ·rw [av _ _ e] at hx ⊢;exact a3 _ _ hx
 ·have e:x≠m:=λe=>by rw [e,a1] at hn;cases hn
  rw [av _ _ e];exact hx
end
theorem xW:fY prog 95 aM (.agg zD):=⟨_,_,underlying95,Ii,IC⟩
theorem GJ:fY prog 113 bU (.agg zD):=⟨_,_,underlying113,Ii,TB⟩
theorem bq {F:PH} {w:Γ} {d:Dia} (hd:DV F w d):ai prog 65 #[.agg w,vi 0] F λr F'=>r=.agg w/\F.le F':=by refine UJ ?_;unfold So;refine fresh λb2 F1 l1 q2 _=> ?_;refine (St.start F1).new λb4 F2 h=>⟨λhc=>absurd rfl hc,λ_=>⟨w,hd.size,ac (h.le _ _ q2),?_⟩⟩;refine h.put0 (w':=w) hd.size rfl hd.st λF3 h=>⟨w,hd.size,ac (h.ptAt (i:=0) rfl),rfl,aa l1 h.le⟩
section
variable {G G0 F:PH} {As:List (Ψ)} {m:Nat} {k:Nat}
theorem fC {S:Int->Tr} (h:St G F (mS aM G0 m S::As)) (l0:G0.le G) (n:Int):
  ai prog 66 #[.map (some m),vi n] F λr F'=>∃G' w,r=.agg w/\DV G' w (dia (S n))/\G.le G'/\St G' F' (mS aM G0 m S::As):=by
 refine UK ?_;unfold Sq;refine h.new λb4 F1 h=> ?_;obtain ⟨o,mp,h1,h2,h3⟩:=h.mS_at (i:=1) rfl;have hlk:=bL (F:=F1) xW h1 h2 n true;rcases h3 n with ⟨e1,e2⟩|⟨w,e1,e2⟩
 ·rw [e1] at hlk;refine ⟨_,_,hlk,?_⟩;refine h.new λb5 F2 h=> ?_;refine h.put0 (w':=zD) rfl rfl (by simp [ak]) λF3 h=>⟨λhc=>(by cases hc),λ_=> ?_⟩;refine (h.call (di false)).mono ?_;rintro _ F4 ⟨G',⟨w,rfl,hw,l1⟩,h⟩;refine ⟨w,rfl,?_⟩;refine h.put1 (w':=w) hw.size rfl hw.st λF5 h=>⟨w,hw.size,ac (h.ptAt (i:=1) rfl),?_⟩;exact ⟨G',w,rfl,by rw [e2];exact hw,l1,h.tail.tail⟩
 ·rw [e1] at hlk;refine ⟨_,_,hlk,?_⟩;have hw:=e2.le l0;refine h.new λb5 F2 h=> ?_;refine h.put0 (w':=w) hw.size rfl hw.st λF3 h=>⟨λ_=>⟨w,hw.size,ac (h.ptAt (i:=0) rfl),?_⟩,λhc=>(by cases hc)⟩;refine h.put1 (w':=w) hw.size rfl hw.st λF5 h=>⟨w,hw.size,ac (h.ptAt (i:=1) rfl),?_⟩;exact ⟨G,w,rfl,hw,aq _,h.tail.tail⟩
theorem sj {S:Int×Int->Tr} (h:St G F (mS bU G0 m S::As)) (l0:G0.le G) (n:Int×Int):
  ai prog 75 #[.map (some m),.agg (vn n)] F λr F'=>∃G' w,r=.agg w/\DV G' w (dia (S n))/\G.le G'/\St G' F' (mS bU G0 m S::As):=by
 refine SA ?_;unfold Nt;refine h.new λb3 Fa h=> ?_;refine h.new λb4 F1 h=> ?_;refine ⟨_,rfl,ac (h.ptAt (i:=1) rfl),?_⟩;obtain ⟨o,mp,h1,h2,h3⟩:=h.mS_at (i:=2) rfl;have hlk:=bL (F:=F1) GJ h1 h2 n true;rcases h3 n with ⟨e1,e2⟩|⟨w,e1,e2⟩
 ·rw [e1] at hlk;refine ⟨_,_,hlk,?_⟩;refine h.new λb5 F2 h=> ?_;refine h.put0 (w':=zD) rfl rfl (by simp [ak]) λF3 h=>⟨λhc=>(by cases hc),λ_=> ?_⟩;refine (h.call (di false)).mono ?_;rintro _ F4 ⟨G',⟨w,rfl,hw,l1⟩,h⟩;refine ⟨w,rfl,?_⟩;refine h.put1 (w':=w) hw.size rfl hw.st λF5 h=>⟨w,hw.size,ac (h.ptAt (i:=1) rfl),?_⟩;exact ⟨G',w,rfl,by rw [e2];exact hw,l1,h.tail.tail.tail⟩
 ·rw [e1] at hlk;refine ⟨_,_,hlk,?_⟩;have hw:=e2.le l0;refine h.new λb5 F2 h=> ?_;refine h.put0 (w':=w) hw.size rfl hw.st λF3 h=>⟨λ_=>⟨w,hw.size,ac (h.ptAt (i:=0) rfl),?_⟩,λhc=>(by cases hc)⟩;refine h.put1 (w':=w) hw.size rfl hw.st λF5 h=>⟨w,hw.size,ac (h.ptAt (i:=1) rfl),?_⟩;exact ⟨G,w,rfl,hw,aq _,h.tail.tail.tail⟩
theorem wl {a b:Tr} {u w:Γ} (hk:k<=6) (ha:Sx k a) (hb:Sx k b) (hu:DV F u (dia a)) (hw:DV F w (dia b)):
  ai prog 28 #[.agg u,.agg w] F λr F'=>∃x,r=.tuple #[.agg x,vi 0]/\DV F' x (dia (ap2 oOr a b))/\F.le F':=by
 refine (IM hu hw).mono ?_;rintro r F' ⟨⟨x,rfl,hx⟩,l⟩;rw [FN (ha.small hk) (hb.small hk) ((ha.ap2 (o:=oOr) hb).small hk) (bA ha.1 hb.1).2] at hx ⊢;exact ⟨x,rfl,hx,l⟩
theorem iK {a b:Tr} {u w:Γ} (hk:k<=6) (ha:Sx k a) (hb:Sx k b) (hu:DV F u (dia a)) (hw:DV F w (dia b)):
  ai prog 35 #[.agg u,.agg w] F λr F'=>∃x,r=.tuple #[.agg x,vi 0]/\DV F' x (dia (ap2 bj a b))/\F.le F':=by
 refine (FR hu hw).mono ?_;rintro r F' ⟨⟨x,rfl,hx⟩,l⟩;rw [FN (ha.small hk) (hb.small hk) ((ha.ap2 (o:=bj) hb).small hk) (bA ha.1 hb.1).2] at hx ⊢;exact ⟨x,rfl,hx,l⟩
theorem dU {t:Tr} (h:t.ok):(dia t).2=0↔t=leaf false:=by
 refine ⟨λhe=> ?_,λhe=>by rw [he];rfl⟩;have h0:num (aL t) t=0:=by have:((num (aL t) t:Nat):Int)=0:=he;omega
 have hl:=pn (S:=aL t) (t:=t) (by omega);cases t with
 |node _ _ _=>cases hl
 |leaf b=>
  cases b with
  |false=>rfl
  |true=>cases h0
theorem wm {a:Tr} (ha:a.ok):ap2 oOr a (leaf false)=a:=eL (bA ha (b:=leaf false) trivial).1 ha λc=>by rw [(bA ha (b:=leaf false) trivial).2];exact WM _
theorem dD {κ:Type} [DecidableEq κ] {S:κ->Tr} (hS:Sxs k S) (n:κ):cC S n (leaf false)=S:=by unfold cC;rw [wm (hS n).1,tc]
theorem jZ {κ:Type} [DecidableEq κ] {S:κ->Tr} {n:κ} {d:Tr}:cC S n d=S↔ap2 oOr (S n) d=S n:=by
 constructor
 ·intro h;have:=congrFun h n;unfold cC eU at this;rwa [if_pos rfl] at this
 ·intro h;unfold cC;rw [h,tc]
theorem uo {S:Int->Tr} {b2 b4:Nat} {ch:Bool} {w:Γ} {d:Tr} (h:St G F (mS aM G0 m S::pt b4 (.cells #[.bool ch] 4)::As)) (l0:G0.le G) (hk:k<=6) (hS:Sxs k S) (hx:Sx k d) (hd:DV G w (dia d))
  (h2:G.cell ⟨b2,0,none⟩=some (.map (some m))) (n:Int):
  ai prog 124 #[vi n,.agg w,.pointer (some ⟨b2,0,none⟩),.pointer (some ⟨b4,0,none⟩)] F λr F'=>∃G' ch',r=.tuple #[]/\(ch'=true↔ch=true\/cC S n d≠S)/\G.le G'/\
   St G' F' (mS aM G' m (cC S n d)::pt b4 (.cells #[.bool ch'] 4)::As):=by
 refine SE ?_;unfold LI;have up:∀{G1 G2 F':PH} {S':Int->Tr} {As':List (Ψ)},St G2 F' (mS aM G1 m S'::As')->G1.le G2->St G2 F' (mS aM G2 m S'::As'):=λ{G1 G2 F' S' As'} h l=>h.imp 0 rfl λH _ ⟨o,mp,a1,a2,a3⟩=>⟨o,mp,a1,a2,a3.le l⟩;obtain ⟨s,rfl,_⟩:=id hd;refine h.newG λb5 G1 F1 l1 q5 _ h=>⟨_,ld (h.le _ _ q5) rfl,λh0=> ?_,λh0=> ?_⟩
 ·have e:=(dU hx.1).1 h0;refine ⟨G1,ch,rfl,?_,l1,?_⟩
  ·rw [e,dD hS];simp
  ·rw [e,dD hS];exact up h (aa l0 l1)
 ·refine ⟨_,rfl,_,aH (aa l1 h.le) h2,?_⟩;refine (fC h (aa l0 l1) n).mono ?_;rintro _ F2 ⟨G2,u,rfl,hu,l2,h⟩;refine ⟨u,rfl,?_⟩;refine h.var hu.st (λb6 G3 F3 l3 q6 h=> ?_) rfl hu.size;have l13:=aa l2 l3;refine ⟨u,hu.size,ac (h.le _ _ q6),_,rfl,ac (h.le _ _ (l13 _ _ q5)),?_⟩;refine h.run (P:=λr G'=>∃x,r=.tuple #[.agg x,vi 0]/\DV G' x (dia (ap2 oOr (S n) d))) ((wl hk (hS n) hx (hu.le l3) (hd.le (aa l1 l13))).mono λr F' ⟨x,a,b,c⟩=>⟨⟨x,a,b⟩,c⟩) λ_ G4 F4 hr l4 h=> ?_;obtain ⟨x,rfl,hxx⟩:=hr;refine ⟨_,_,rfl,?_⟩;refine h.runv (bq hxx) λG5 F5 l5 h=>⟨_,rfl,?_⟩;refine h.var hxx.st (λb7 G6 F6 l6 q7 h=> ?_) rfl hxx.size;have l36:=aa l4 (aa l5 l6);refine ⟨u,hu.size,ac (h.le _ _ (l36 _ _ q6)),x,hxx.size,ac (h.le _ _ q7),?_⟩;refine h.runv (jQ (hu.le (aa l3 l36)) (hxx.le (aa l5 l6)) (pF ((hS n).small hk))) λG7 F7 l7 h=>⟨_,rfl,?_⟩;have l17:=aa l13 (aa l36 l7);have kk:=(hS n).ap2 (o:=oOr) hx;refine ⟨λhne=> ?_,λhe=> ?_⟩
  ·have hne:ap2 oOr (S n) d≠S n:=λe=>by rw [e,decide_eq_true rfl] at hne;cases hne
   refine ⟨_,aH (aa (aa l1 l17) h.le) h2,x,hxx.size,ac (h.le _ _ (l7 _ _ q7)),?_⟩;obtain ⟨o,mp,m1,m2,m3⟩:=h.mS_at (i:=0) rfl;refine aX xW m1 m2 n (.agg x) λo' ho'=> ?_;have hxx7:=hxx.le (aa l5 (aa l6 l7));have h:=h.mS_set 0 rfl (G1:=G7) (S':=cC S n d) ho' ((m3.le (aa (aa l0 l1) l17)).put hxx7);refine ⟨_,rfl,h.set1 (w':= #[.bool true]) (by show 0<1;decide) rfl λF8 h=> ?_⟩;exact ⟨G7,true,rfl,⟨λ_=> .inr λe=>hne (jZ.1 e),λ_=>rfl⟩,aa l1 l17,h⟩
  ·have e:ap2 oOr (S n) d=S n:=by
    have:decide (dia (S n)=dia (ap2 oOr (S n) d))=true:=by simpa using he
    exact (pq (hS n).1 kk.1 (of_decide_eq_true this)).symm
   have e2:=jZ.2 e;refine ⟨G7,ch,rfl,?_,aa l1 l17,?_⟩
   ·rw [e2];simp
   ·rw [e2];exact up h (aa (aa l0 l1) l17)
end
theorem uq (S:Int->Tr) (s:Sy):∀(r:List Sy) (d:Tr),dF S d (r++[s])=if s.t=true then dF S d r else ap2 bj (dF S d r) (S s.i)
 |[],d=>rfl
 |x::r,d=>by rw [VF];unfold dF;exact uq S s r _
theorem gJ {a:Tr} (ha:a.ok):ap2 bj (leaf false) a=leaf false:=eL (bA (a:=leaf false) trivial ha).1 trivial λc=>by rw [(bA (a:=leaf false) trivial ha).2];rfl
theorem fb {α:Type} {r:List α} {i:Nat} {x:α} (h:r[i]? =some x):r.take (i+1)=r.take i++[x]:=by rw [V7,h];rfl
section
variable {G G0 F:PH} {As:List (Ψ)} {m:Nat} {k:Nat}
theorem ia {S:Int->Tr} (h:St G F (mS aM G0 m S::As)) (l0:G0.le G) (hk:k<=6) (hS:Sxs k S) {d:Tr} {w:Γ} (hx:Sx k d) (hd:DV G w (dia d)) {sl:Sl} {r:List Sy} (hr:RL G sl r) (hl:r.length<=1000000):
  ai prog 67 #[.agg w,sl.v,.map (some m)] F λres F'=>∃G' u,res=.agg u/\DV G' u (dia (dF S d r))/\G.le G'/\St G' F' (mS aM G0 m S::As):=by
 have elen:=hr.len (by decide);refine UL ?_;unfold Sr;refine h.new λb3 F1 h=>h.new λb6 F2 h=> ?_;refine bz (At · (some m) b3 b6 sl _) r.length (λi F'=>∃(G':PH) (u:Γ),G.le G'/\DV G' u (dia (dF S d (r.take i)))/\St G' F' (pt b6 (.cells zD 31)::pt b3 (.cells u 31)::mS aM G0 m S::As)) ⟨G,w,aq _,by rw [Wi];exact hd,h⟩ ?_;rintro i F3 N hi ⟨G1,u,l1,hu,h⟩ next;unfold At;obtain ⟨fx,_⟩:=bx hS (r.take i) hx;refine ⟨λhlt=> ?_,λhge=> ?_⟩
 ·have hlt:i<r.length:=by omega
  refine ixc ((hr.le l1).le h.le) (by decide) (by omega) (by omega) λa c s hs hrow hc=>⟨c,Mem.len hc,hrow,?_⟩;rw [N4] at hs;obtain rfl:c=s.arr:=hc;have et:=fb hs;have hsn:=uq S s (r.take i) d;refine h.var (by simp [ak]) (λb8 G2 F4 l2 q8 h=>⟨_,ld (h.le _ _ q8) rfl,?_⟩) rfl rfl;have fin:∀{G' F':PH} {u':Γ},G1.le G'->DV G' u' (dia (dF S d (r.take (i+1))))->St G' F' (pt b6 (.cells zD 31)::pt b3 (.cells u' 31)::mS aM G0 m S::As)->
    wB N (some m) b3 b6 sl (i:Int) (λres F'=>∃G' u,res=.agg u/\DV G' u (dia (dF S d r))/\G.le G'/\St G' F' (mS aM G0 m S::As)) F':=λ{G' F' u'} l hu' h=>by
   unfold wB;rw [aI hlt (by omega)];exact next _ hlt ⟨G',u',aa l1 l,hu',h⟩
  refine ⟨λht=> ?_,λht=> ?_⟩
  ·have ht:s.t=false:=by simpa using ht
   rw [ht,if_neg Wc] at hsn;obtain ⟨su,rfl,_⟩:=id hu;refine ⟨_,h.ld1 rfl,?_⟩;unfold wC;refine ⟨λhne=>⟨_,rfl,ac (h.ptAt (i:=1) rfl),_,ld (h.le _ _ q8) rfl,?_⟩,λhe=> ?_⟩
   ·refine (fC h.front2 (aa l0 (aa l1 l2)) s.i).mono ?_;rintro _ F5 ⟨G3,x,rfl,hxx,l3,h⟩;have h:=h.back2;have hu3:=hu.le (aa l2 l3);refine ⟨x,rfl,ac (h.ptAt (i:=1) rfl),?_⟩;refine h.run (P:=λr' G'=>∃y,r'=.tuple #[.agg y,vi 0]/\DV G' y (dia (ap2 bj (dF S d (r.take i)) (S s.i)))) ((iK hk fx (hS s.i) hu3 hxx).mono λr F' ⟨x,a,b,c⟩=>⟨⟨x,a,b⟩,c⟩) λ_ G4 F6 hr4 l4 h=> ?_;obtain ⟨y,rfl,hy⟩:=hr4;refine ⟨_,_,rfl,?_⟩;refine h.runv (bq hy) λG5 F7 l5 h=>⟨_,rfl,?_⟩;refine h.put1 (w':=y) hy.size rfl hy.st λF8 h=> ?_;refine fin (aa l2 (aa l3 (aa l4 l5))) ?_ h;rw [et,hsn];exact hy.le l5
   ·have e:dF S d (r.take i)=leaf false:=(dU fx.1).1 (by simpa using he);refine fin l2 ?_ h;rw [et,hsn,e,gJ (hS _).1,<- e];exact hu.le l2
  ·have ht:s.t=true:=by simpa using ht
   rw [ht,if_pos rfl] at hsn;unfold wC;refine ⟨λhc=>(by cases hc),λ_=>fin l2 ?_ h⟩;rw [et,hsn];exact hu.le l2
 ·have e:i=r.length:=by omega
  subst e;rw [U7] at hu;unfold Hb;refine ⟨u,hu.size,ac (h.ptAt (i:=1) rfl),?_⟩;refine h.put0 (w':=u) hu.size rfl hu.st λF5 h=>⟨u,hu.size,ac (h.ptAt (i:=0) rfl),?_⟩;exact ⟨G1,u,rfl,hu,l1,h.tail.tail⟩
end
set_option maxRecDepth 100000
theorem Jj (p:Addr) (w:World):CallsD prog 112 #[.pointer (some p)] .returning w λe u' w'=>(∃v,e=.returned v)/\u'=.returning/\w'=w:=by refine callsD_of_wpS func112 rfl λc₀ cs hu=> ?_;apply wpS_seq;apply wpS_region;simp [wpOpsS,go_sem,recoverD,hu,ntmps112,Exit.thenS];apply wpS_seq;apply wpS_region;simp [wpOpsS,go_sem,Exit.thenS];refine wpS_cond (t:=false) (by simp [Act.eval,Array.replicate]) ?_;simp only [Vu,if_false];refine wpS_of_wp (wp_skip ?_);cases c₀;simp_all [bodyPostS,results,results112]
theorem Jk (p:Addr):yT prog ⟨.fn (.func 112) #[.pointer (some p)],#[]++[].toArray⟩:=
 ⟨_,_,112,#[.pointer (some p)],rfl,λw=>⟨by simp [go_sem],Jj p w⟩⟩
structure OkK (g:Gr) (k:Nat):Prop where
 ok:OkG g
 len:g.conds.length=k
 le:k<=6
theorem Ai {d:Dia} {n:Nat} (h:ij d n):Sx n (tre d)/\d=dia (tre d):=by obtain ⟨t,h1,h2,h3,_,h5⟩:=tK h;rw [h3];exact ⟨⟨h1,h5⟩,h2⟩
theorem sk {n:Nat}:∀(l:List Tk) (done:List ByteArray),fk n done l->∀t∈l,∃d,DP n d t
 |[],_,_,_,h=>by cases h
 |t::l,done,⟨h1,h2⟩,x,hx=>by
  rcases UT.1 hx with rfl|hx
  ·exact ⟨_,h1⟩
  ·exact sk l _ h2 x hx
theorem so {g:Gr}:∀(l:List Pr) (done:List ByteArray),dM g done l=0->∀p∈l,ig g p/\∃d,DW g d p
 |[],_,_,_,h=>by cases h
 |p::l,done,h,x,hx=>by
  unfold dM at h;by_cases h1:ig g p
  ·rw [if_neg (not_not_intro h1)] at h;by_cases h2:DW g done p
   ·rw [if_neg (not_not_intro h2)] at h;rcases UT.1 hx with rfl|hx
    ·exact ⟨h1,_,h2⟩
    ·exact so l _ h x hx
   ·rw [if_pos h2] at h;cases h
  ·rw [if_pos h1] at h;cases h
section
variable {g:Gr} {k:Nat}
theorem OkK.fam (h:OkK g k):Sx k (tre g.fam)/\g.fam=dia (tre g.fam):=by have:=Ai h.ok.fam.2.2.1;rwa [h.len] at this
theorem OkK.tok (h:OkK g k) {t:Tk} (ht:t∈g.toks):Sx k (tre t.cond)/\t.cond=dia (tre t.cond):=by obtain ⟨d,_,_,_,_,h5,_⟩:=sk _ _ h.ok.toks t ht;have:=Ai h5;rwa [h.len] at this
theorem OkK.prod (h:OkK g k) {x:Pr} (hx:x∈g.prods):Sx k (tre x.cond)/\x.cond=dia (tre x.cond)/\ig g x:=by obtain ⟨h1,d,_,_,h3,_⟩:=so _ _ h.ok.prods x hx;have:=Ai h3;rw [h.len] at this;exact ⟨this.1,this.2,h1⟩
noncomputable def ja (g:Gr) (i:Int):Tr:=match g.toks[i.toNat]? with
 |some t=>tre t.cond
 |none=>leaf false
theorem OkK.tkd (h:OkK g k) (i:Int):Sx k (ja g i):=by
 unfold ja;split
 ·rename_i t ht;exact (h.tok (UY ht)).1
 ·exact Sx.leaf k false
noncomputable def kU (g:Gr):Tr->List Sy->Tr
 |d,[]=>d
 |d,s::r=>kU g (if s.t=true then ap2 bj d (ja g s.i) else d) r
theorem ur (s:Sy):∀(r:List Sy) (d:Tr),kU g d (r++[s])=if s.t=true then ap2 bj (kU g d r) (ja g s.i) else kU g d r
 |[],d=>rfl
 |x::r,d=>by rw [VF];unfold kU;exact ur s r _
theorem gc (h:OkK g k):∀(r:List Sy) {d:Tr},Sx k d->Sx k (kU g d r)/\∀c,(kU g d r).ev c=(d.ev c && r.all λs=> !s.t || (ja g s.i).ev c)
 |[],d,hd=>⟨hd,λc=>by simp [kU]⟩
 |s::r,d,hd=>by
  unfold kU;by_cases hs:s.t=true
  ·rw [if_pos hs];obtain ⟨h1,h2⟩:=gc h r (hd.ap2 (o:=bj) (h.tkd s.i));refine ⟨h1,λc=> ?_⟩;rw [h2,WC,(bA hd.1 (h.tkd s.i).1).2,hs,Bool.and_assoc];rfl
  ·rw [if_neg hs];obtain ⟨h1,h2⟩:=gc h r hd;exact ⟨h1,λc=>by rw [h2,WC,VV.2 hs];simp⟩
noncomputable def aK (g:Gr) (i:Nat):Tr:=match g.prods[i]? with
 |some x=>kU g (ap2 bj (tre g.fam) (tre x.cond)) x.right
 |none=>leaf false
theorem OkK.prs (h:OkK g k) (i:Nat):Sx k (aK g i):=by
 unfold aK;split
 ·rename_i x hx;exact (gc h _ (h.fam.1.ap2 (o:=bj) (h.prod (UY hx)).1)).1
 ·exact Sx.leaf k false
theorem OkK.prs_ev (h:OkK g k) {i:Nat} {x:Pr} (hx:g.prods[i]? =some x) (c:Cf):(aK g i).ev c=((tre g.fam).ev c && (tre x.cond).ev c && x.right.all λs=> !s.t || (ja g s.i).ev c):=by unfold aK;rw [hx];have hp:=(h.prod (UY hx)).1;dsimp only;rw [(gc h _ (h.fam.1.ap2 (o:=bj) hp)).2,(bA h.fam.1.1 hp.1).2]
end
instance:Mem Dia where
 n:=2
 rep F d c:=DV F c d
 len h:=h.size
 le hl h:=h.le hl
 st h:=h.st
theorem Us:∃b z,SlT 39 31 2 b z:=⟨_,_,underlying39,OG,Ii,rfl,by decide,by decide⟩
abbrev anA (g:Gr) (c n t s p l f q:Sl):Γ:= #[c.v,n.v,vi g.fam.2,t.v,s.v,p.v,vi g.start,l.v,f.v,q.v]
noncomputable def oU (g:Gr) (n:Nat):List Dia:=(List.range n).map λi=>dia (aK g i)
theorem Dn (g:Gr) (n:Nat):oU g (n+1)=oU g n++[dia (aK g n)]:=by unfold oU;rw [Wv,Vm];rfl
theorem jy (g:Gr) (n:Nat):(oU g n).length=n:=by unfold oU;rw [U6,Vw]
structure AnV (F:PH) (b:Nat) (g:Gr):Prop where
 ex:∃c n t s p l f q,F b=some (.cells (anA g c n t s p l f q) 107)/\GS F g c n t s p l f/\RL F q (oU g g.prods.length)
theorem AnV.le {F G:PH} {b:Nat} {g:Gr} (h:AnV F b g) (l:F.le G):AnV G b g:=by obtain ⟨c,n,t,s,p,lv,f,q,h1,h2,h3⟩:=h;exact ⟨c,n,t,s,p,lv,f,q,l _ _ h1,h2.le l,h3.le l⟩
theorem GK (x:Addr) (i j:Nat):Addr.add (Addr.add x i) j=Addr.add x (i+j):=by obtain ⟨a,o,p⟩:=x;by_cases hi:i=0<;>by_cases hj:j=0<;>simp [Addr.add,hi,hj,Nat.add_assoc]
section
variable {G F:PH} {As:List (Ψ)} {g:Gr} {k:Nat}
theorem RZ (hk:OkK g k) {N1:Ω} {rv:Value} {b2 b4 b20 b9 i:Nat} {p r:Sl} {R:VR} {c n t s p' l f:Sl} {x:Pr} (hx:g.prods[i]? =some x) (q2:G b2=some (.cells (g.arr c n t s p' l f) 37)) (ht:RL G t g.toks) (hr:RL G r x.right) (hl:x.right.length<=1000000)
  {w:Γ} {d:Tr} (hd:Sx k d) (hw:DV G w (dia d)) (h:St G F (pt b9 (.cells w 31)::As))
  (fin:∀G' F' w',G.le G'->DV G' w' (dia (kU g d x.right))->St G' F' (pt b9 (.cells w' 31)::As)->Aj N1 rv b2 b4 b20 b9 p (i:Int) R F'):
  ∃(I2:Nat->Ω) (m2:Nat),I2 m2 (0:Int) F/\∀m2 v_39 F,I2 m2 v_39 F->wo N1 (λy2_0 F=>∃m',m'<m2/\I2 m' y2_0 F) rv b2 b4 b20 b9 p (i:Int) r R v_39 F:=by
 have elen:=hr.len (by decide);have hsy:=(hk.prod (UY hx)).2.2.2;refine bz (wo N1 · rv b2 b4 b20 b9 p (i:Int) r R) x.right.length (λj F'=>∃(G':PH) (u:Γ),G.le G'/\DV G' u (dia (kU g d (x.right.take j)))/\St G' F' (pt b9 (.cells u 31)::As)) ⟨G,w,aq _,by rw [Wi];exact hw,h⟩ ?_;rintro j F3 N hj ⟨G1,u,l1,hu,h⟩ next;obtain ⟨fx,_⟩:=gc hk (x.right.take j) hd;unfold wo;refine ⟨λhlt=> ?_,λhge=> ?_⟩
 ·have hlt:j<x.right.length:=by omega
  refine ixc ((hr.le l1).le h.le) (by decide) (by omega) (by omega) λa cc sy hs hrow hc=>⟨cc,Mem.len hc,hrow,?_⟩;rw [N4] at hs;obtain rfl:cc=sy.arr:=hc;have et:=fb hs;have hsn:=ur (g:=g) sy (x.right.take j) d;obtain ⟨s0,_,s2⟩:=hsy sy (UY hs);refine h.var (by simp [ak]) (λb11 G2 F4 l2 q11 h=>⟨_,ld (h.le _ _ q11) rfl,?_⟩) rfl rfl;have fin2:∀{G' F':PH} {u':Γ},G1.le G'->DV G' u' (dia (kU g d (x.right.take (j+1))))->St G' F' (pt b9 (.cells u' 31)::As)->
    wn N1 N rv b2 b4 b20 b9 p (i:Int) r (j:Int) R F':=λ{G' F' u'} l hu' h=>by
   unfold wn;rw [aI hlt (by omega)];exact next _ hlt ⟨G',u',aa l1 l,hu',h⟩
  refine ⟨λhst=> ?_,λhst=> ?_⟩
  ·have hst:sy.t=true:=hst;rw [if_pos hst] at hsn;obtain ⟨tk,htk,_⟩:=s2 hst;have ed:ja g sy.i=tre tk.cond:=by unfold ja;rw [htk]
   obtain ⟨tx,td⟩:=hk.tok (UY htk);have ht2:=ht.le (aa l1 l2);have etl:=ht2.len (by decide);have hti:sy.i.toNat<g.toks.length:=(N6.1 htk).1;refine ⟨u,hu.size,ac (h.ptAt (i:=0) rfl),_,ld (h.le _ _ (l2 _ _ (l1 _ _ q2))) rfl,_,ld (h.le _ _ q11) rfl,?_⟩;refine h.ix ht2 (by decide) s0 (by omega) λa2 c2 y hy hrow2 hc2=> ?_;rw [htk] at hy;obtain rfl:=Vl hy;obtain ⟨pp,nn,rfl,_,hn2⟩:=hc2;have hdv:DV G2 #[nn.v,vi tk.cond.2] (dia (ja g sy.i)):=by rw [ed,<- td];exact DV.mk hn2
   refine ⟨#[nn.v,vi tk.cond.2],rfl,λq hq=> ?_,?_⟩
   ·have hq2:q<2:=hq;have:=hrow2 (5+q) (by show 5+q<7;omega);rw [GK];refine this.trans ?_;rcases (show q=0\/q=1 by omega) with rfl|rfl<;>rfl
   ·refine h.run (P:=λr' G'=>∃y,r'=.tuple #[.agg y,vi 0]/\DV G' y (dia (ap2 bj (kU g d (x.right.take j)) (ja g sy.i)))) ((iK hk.le fx (hk.tkd sy.i) (hu.le l2) hdv).mono λr F' ⟨x,a,b,c⟩=>⟨⟨x,a,b⟩,c⟩) λ_ G4 F6 hr4 l4 h=> ?_;obtain ⟨y,rfl,hy⟩:=hr4;refine ⟨_,_,rfl,ld (h.le _ _ (l4 _ _ q11)) rfl,ld (h.le _ _ (l4 _ _ (l2 _ _ (l1 _ _ q2)))) rfl,?_⟩;refine h.runv (bq hy) λG5 F7 l5 h=>⟨_,rfl,?_⟩;refine ⟨ld (h.le _ _ (l5 _ _ (l4 _ _ q11))) rfl,ld (h.le _ _ (l5 _ _ (l4 _ _ (l2 _ _ (l1 _ _ q2))))) rfl,?_⟩;refine h.put0 (w':=y) hy.size hu.size hy.st λF8 h=> ?_;refine fin2 (aa l2 (aa l4 l5)) ?_ h;rw [et,hsn];exact hy.le l5
  ·have hst:sy.t≠true:=λe=>by rw [show sy.t=true from e] at hst;cases hst
   rw [if_neg hst] at hsn;refine fin2 l2 ?_ h;rw [et,hsn];exact hu.le l2
 ·have e:j=x.right.length:=by omega
  subst e;rw [U7] at hu;exact fin G1 _ u l1 hu h
end
section
variable {G F:PH} {As:List (Ψ)} {Bs:PH->List (Ψ)} {g:Gr} {k:Nat}
theorem St.rot {A:Ψ} (h:St G F (A::As)):St G F (As++[A]):=by
 refine h.pick (λi=>if i=As.length then 0 else i+1) (λi j _ _ e=> ?_) (λi hi=> ?_)
 ·split at e<;>split at e<;>omega
 ·rw [UV,Va] at hi;split
  ·rename_i e;rw [e,Vn (UW _),Nat.sub_self];rfl
  ·rw [U9 (by omega)];rfl
theorem St.unrot {A:Ψ} (h:St G F (As++[A])):St G F (A::As):=by
 refine h.pick (λi=>if i=0 then As.length else i - 1) (λi j hi hj e=> ?_) (λi hi=> ?_)
 ·rw [Vf] at hi hj;split at e<;>split at e<;>omega
 ·rw [Vf] at hi;split
  ·rename_i e;rw [e,Vn (UW _),Nat.sub_self];rfl
  ·rename_i e;obtain ⟨j,rfl⟩:∃j,i=j+1:=⟨i - 1,by omega⟩;rw [Nat.add_sub_cancel,U9 (by omega)];rfl
theorem eC {v:Γ} (hT:Tab G) (hg:GV G v g) (hz:Sz g) (hk:OkK g k) (hl:∀x∈g.prods,x.right.length<=1000000) (hp:g.prods.length<=1000000) (h:St G F As) {kr:Nat} {fst cap:Γ} (cb:aE prog kr=true)
  (run:∀G' b F',G.le G'->AnV G' b g->St G' F' As->ai prog kr (fst++ #[.pointer (some ⟨b,0,none⟩)]++cap) F' λr F''=>∃G'',r=.tuple #[]/\G'.le G''/\St G'' F'' (Bs G'')):
  ai prog 51 #[.agg v,.func (.func kr) fst cap] F λr F'=>r=vi 0/\∃G',G.le G'/\St G' F' (Bs G'):=by
 obtain ⟨_,_,T⟩:=Us;have hc:=lu.2 hk.ok;refine Uz ?_;unfold Sa;refine h.newG λb2 G1 F1 l1 q2 _ h=>h.new λb4 F2 h=>⟨v,hg.size,ac (h.le _ _ q2),?_⟩;refine h.run (ji (hT.le l1) (hg.le l1) hz) λ_ G3 F3 hr l3 h=> ?_;rw [hr,hc];refine ⟨_,rfl,λhn=>absurd rfl hn,λ_=>⟨Jk _,v,hg.size,ac (h.le _ _ (l3 _ _ q2)),hg.size,?_⟩⟩;have l13:=aa l1 l3;obtain ⟨c,n,t,s,p,lv,f,rfl,hs⟩:=hg.le l13;have q2:=l3 _ _ q2;refine h.new λb20 F4 h=> ?_;rw [show wr (#[.slice none 0 0,.slice none 0 0,vi 0,.slice none 0 0,.slice none 0 0,.slice none 0 0,vi 0,.slice none 0 0,.slice none 0 0,.slice none 0 0]:Γ) 0 (g.arr c n t s p lv f).toList=anA g c n t s p lv f Sl.nil by kernel_rfl] at h;refine ⟨_,ld (h.le _ _ q2) rfl,?_⟩;have h:=h.nilOwn 31 2;have ep:=hs.p.len (by decide)
 refine bz (Ak · (.func (.func kr) fst cap) b2 b4 b20 p _) g.prods.length (λi F'=>∃(G':PH) (sl:Sl) (vs:List Γ),G3.le G'/\cN G' (oU g i) vs/\
  St G' F' (own sl 31 2 (cat vs)::pt b20 (.cells (anA g c n t s p lv f sl) 107)::pt b4 (.cells #[vi 0] 40)::As)) ⟨G3,Sl.nil,[],aq _,.nil,h⟩ ?_
 rintro i F5 N hi ⟨G4,sl,vs,l4,hv,h⟩ next;have hs4:=hs.le l4;unfold Ak;refine ⟨λhlt=> ?_,λhge=> ?_⟩
 ·have hlt:i<g.prods.length:=by omega
  refine h.ix hs4.p (by decide) (by omega) (by omega) λa c8 x hx hrow hc8=>⟨c8,Mem.len hc8,hrow,?_⟩;rw [N4] at hx;have hxm:=UY hx;obtain ⟨hxc,hxd,_⟩:=hk.prod hxm;refine h.var (Mem.st hc8) (λb8 G5 F6 l5 q8 h=> ?_) rfl (Mem.len hc8);obtain ⟨r8,n8,l8,rfl,hr8,hn8,_⟩:=hc8;have hs5:=hs4.le l5;have q25:=l5 _ _ (l4 _ _ q2);have d1:DV G5 #[n.v,vi g.fam.2] (dia (tre g.fam)):=by rw [<- hk.fam.2];exact DV.mk hs5.n
  have d2:DV G5 #[n8.v,vi x.cond.2] (dia (tre x.cond)):=by rw [<- hxd];exact DV.mk (hn8.le l5)
  refine ⟨#[n.v,vi g.fam.2],rfl,kD (h.le _ _ q25) rfl,#[n8.v,vi x.cond.2],rfl,kD (h.le _ _ q8) rfl,?_⟩;refine h.run (P:=λr' G'=>∃y,r'=.tuple #[.agg y,vi 0]/\DV G' y (dia (ap2 bj (tre g.fam) (tre x.cond)))) ((iK hk.le hk.fam.1 hxc d1 d2).mono λr F' ⟨x,a,b,c⟩=>⟨⟨x,a,b⟩,c⟩) λ_ G6 F7 hr6 l6 h=> ?_;obtain ⟨y,rfl,hy⟩:=hr6;refine ⟨_,_,rfl,?_⟩;refine h.runv (bq hy) λG7 F8 l7 h=>⟨_,rfl,?_⟩;have l57:=aa l6 l7;refine h.new λb9 F9 h=> ?_;refine h.put0 (w':=y) hy.size rfl hy.st λF10 h=>⟨_,ld (h.le _ _ (l57 _ _ q8)) rfl,?_⟩;refine RZ hk hx (l57 _ _ q25) (hs5.le l57).t (hr8.le (aa l5 l57)) (hl x hxm) (hk.fam.1.ap2 (o:=bj) hxc) (hy.le l7) h λG8 F11 w' l8' hw h=> ?_;unfold Aj;refine ⟨_,h.ld2 rfl,w',hw.size,ac (h.ptAt (i:=0) rfl),hw.size,?_⟩;have l58:=aa l57 l8';have hv8:=hv.le (aa l5 l58);have hsl:sl.len=i:=by have:=RL.len ⟨vs,hv8.le h.le,cf.rd (h.ownAt (i:=1) rfl).1⟩ (by decide);rw [jy] at this;exact this
  refine h.push1 T hw.size hw.st (by omega) λs' G9 F12 l9 h hl'=> ?_;refine h.set2 (w':=anA g c n t s p lv f s') (by show 9<10;decide) rfl λF13 h=> ?_;unfold GP;rw [aI hlt (by omega)];refine next _ hlt ⟨G9,s',vs++[w'],aa l4 (aa l5 (aa l58 l9)),?_,?_⟩
  ·rw [Dn];have e:aK g i=kU g (ap2 bj (tre g.fam) (tre x.cond)) x.right:=by unfold aK;rw [hx]
   rw [e];exact (hv8.append (.cons hw .nil)).le l9
  ·rw [bF,bV];exact h.tail
 ·have e:i=g.prods.length:=by omega
  subst e;unfold GO;obtain ⟨G5,l5,hd,h⟩:=h.pinO;obtain ⟨G6,l6,⟨H,hA,hH⟩,h⟩:=h.pin;have q20:=hH _ _ hA;have lAll:=aa l4 (aa l5 l6);have hAn:AnV G6 b20 g:=⟨c,n,t,s,p,lv,f,sl,q20,hs.le lAll,⟨vs,hv.le (aa l5 l6),hd.le l6⟩⟩;refine ⟨kr,fst,cap,rfl,cb,?_⟩;refine (h.rot.callL (Bs':=λ_ G'=>Bs G') (P:=λr _=>r=.tuple #[]) λF1 h1=>run G6 b20 F1 (aa l13 lAll) hAn h1).mono ?_;rintro r F7 ⟨G7,rfl,l7,h⟩;refine ⟨rfl,?_⟩;have h:=h.unrot;refine h.set0 (w':= #[vi 0]) (by show 0<1;decide) rfl λF8 h=>⟨_,h.ld0 rfl,rfl,G7,aa l13 (aa lAll l7),h.tail⟩
end
theorem GL:aE prog 124=true:=by kernel_rfl
section
variable {G G0 F:PH} {m k:Nat} {σ:Type}
structure Nr (G:PH) (k m:Nat) (kr:Nat) (fst cap:Γ) (keys:Φ) (Inv:(Int->Tr)->Prop) (rnd:(Int->Tr)->Int->Tr) (aux:(Int->Tr)->σ) (As:PH->σ->List (Ψ)):Prop where
 cb:aE prog kr=true
 sx:∀S,Sxs k S->Inv S->Sxs k (rnd S)/\Inv (rnd S)/\Lt' S (rnd S)/\∀n,rnd S n≠S n->n∈keys
 run:∀G' F' S x b2 b4,G.le G'->Sxs k S->Inv S->G'.cell ⟨b2,0,none⟩=some (.map (some m))->St G' F' (mS aM G' m S::pt b4 (.cells #[.bool false] 4)::As G' x)->
  ai prog kr (fst++ #[.func (.func 124) #[] #[.pointer (some ⟨b2,0,none⟩),.pointer (some ⟨b4,0,none⟩)]]++cap) F' λr F''=>∃G'' ch,r=.tuple #[]/\G'.le G''/\(ch=true↔rnd S≠S)/\
   St G'' F'' (mS aM G'' m (rnd S)::pt b4 (.cells #[.bool ch] 4)::As G'' (aux S))
theorem ut {kr:Nat} {fst cap:Γ} {keys:Φ} {Inv:(Int->Tr)->Prop} {rnd:(Int->Tr)->Int->Tr} {aux:(Int->Tr)->σ} {As:PH->σ->List (Ψ)} (Rn:Nr G k m kr fst cap keys Inv rnd aux As)
  (up:∀G' G'' F' x S,G'.le G''->St G'' F' (mS aM G' m S::As G' x)->St G'' F' (mS aM G'' m S::As G'' x)) {S:Int->Tr} {x:σ} (hS:Sxs k S) (hI:Inv S) (h:St G F (mS aM G m S::As G x)):
  ai prog 63 #[.map (some m),.func (.func kr) fst cap] F λr F'=>∃G' S',r=.tuple #[]/\G.le G'/\Sxs k S'/\Inv S'/\rnd S'=S'/\St G' F' (mS aM G' m S'::As G' (aux S')):=by
 refine UH ?_;unfold Sk;refine h.newG λb2 G1 F1 l1 q2 _ h=> ?_;have h:=up G G1 F1 x S l1 h;refine h.new λb4 F2 h=> ?_;refine h.set0 (w':= #[.bool true]) (by show 0<1;decide) rfl λF3 h=> ?_
 refine ⟨λq p F'=>∃(b:Nat) (G':PH) (S':Int->Tr) (y:σ) (ch:Bool),p=some (Addr.mk b 0 none)/\q=mu k keys S'+(if ch=true then 1 else 0)/\G1.le G'/\Sxs k S'/\Inv S'/\(ch=false->rnd S'=S'/\y=aux S')/\
  St G' F' (pt b (.cells #[.bool ch] 4)::mS aM G' m S'::As G' y),mu k keys S+1,⟨b4,G1,S,x,true,rfl,rfl,aq _,hS,hI,λhc=>(by cases hc),h⟩,?_⟩
 rintro q p F4 ⟨b,G2,S2,y,ch,rfl,rfl,l2,hS2,hI2,hc2,h⟩;unfold GZ;refine ⟨_,rfl,ch,h.ld0 rfl,λht=> ?_,λhf=> ?_⟩
 ·subst ht;refine h.set0 (w':= #[.bool false]) (by show 0<1;decide) rfl λF5 h=>⟨kr,fst,cap,rfl,Rn.cb,?_⟩;obtain ⟨s1,s2,s3,s4⟩:=Rn.sx S2 hS2 hI2;refine (Rn.run G2 F5 S2 y b2 b (aa l1 l2) hS2 hI2 (ld (l2 _ _ q2) rfl) h.swap).mono ?_;rintro _ F6 ⟨G3,ch',rfl,l3,hch,h⟩;refine ⟨rfl,ch',h.ld1 rfl,?_⟩;have h:=h.swap;refine h.new λb5 F7 h=> ?_;refine h.set0 (w':= #[.bool ch']) (by show 0<1;decide) rfl λF8 h=> ?_;refine ⟨mu k keys (rnd S2)+(if ch'=true then 1 else 0),?_,b5,G3,rnd S2,aux S2,ch',rfl,rfl,aa l2 l3,s1,s2,λhf=> ?_,h.swap.tail.swap.swap⟩
  ·obtain ⟨m1,m2⟩:=AD hS2 s1 s3 keys;rw [if_pos rfl];by_cases hc:ch'=true
   ·rw [if_pos hc];have hne:=hch.1 hc;obtain ⟨n,hn⟩:∃n,rnd S2 n≠S2 n:=Classical.not_forall.1 λha=>hne (funext ha);have:=m2 n (s4 n hn) (Ne.symm hn);omega
   ·rw [if_neg hc];omega
  ·have e:rnd S2=S2:=Classical.not_not.1 λhne=>by rw [hch.2 hne] at hf;cases hf
   exact ⟨by rw [e,e],by rw [e]⟩
 ·subst hf;obtain ⟨e1,e2⟩:=hc2 rfl;exact ⟨G2,S2,rfl,aa l1 l2,hS2,hI2,e1,by rw [<- e2];exact h.tail⟩
end
abbrev sq (b2 b4:Nat):Value:=.func (.func 124) #[] #[.pointer (some ⟨b2,0,none⟩),.pointer (some ⟨b4,0,none⟩)]
theorem iL {κ:Type} {k:Nat} {S T U:κ->Tr} (hS:Sxs k S) (hT:Sxs k T) (hU:Sxs k U) (h1:Lt' S T) (h2:Lt' T U):(T≠S\/U≠T)↔U≠S:=by
 constructor
 ·rintro h rfl;have e:T=U:=Lt'.antisymm hT hU h2 h1;rcases h with h|h
  ·exact h e
  ·exact h e.symm
 ·intro h;by_cases e:T=S
  ·exact .inr λe2=>h (e2.trans e)
  ·exact .inl e
theorem uu {st:Bool} {x:Pr}:gh st x=true↔st=true/\∃s∈x.right,s.t=true:=by unfold gh;rw [Vj,VZ]
section
variable {G F:PH} {As:List (Ψ)} {g:Gr} {k m:Nat} {st:Bool}
structure DrE (G:PH) (g:Gr) (st:Bool) (m ban b1 b3 b5 b2:Nat):Prop where
 q1:G b1=some (.cells #[.pointer (some ⟨ban,0,none⟩)] 93)
 q3:G b3=some (.cells #[.bool st] 4)
 q5:G b5=some (.cells #[.map (some m)] 95)
 q2:G.cell ⟨b2,0,none⟩=some (.map (some m))
 an:AnV G ban g
theorem DrE.le {G G':PH} {ban b1 b3 b5 b2:Nat} (h:DrE G g st m ban b1 b3 b5 b2) (l:G.le G'):DrE G' g st m ban b1 b3 b5 b2:=⟨l _ _ h.q1,l _ _ h.q3,l _ _ h.q5,aH l h.q2,h.an.le l⟩
theorem Jl {ban b1 b3 b5 b2 b4:Nat} (hk:OkK g k) (hl:∀x∈g.prods,x.right.length<=1000000) (hp:g.prods.length<=1000000) (E:DrE G g st m ban b1 b3 b5 b2) {S:Int->Tr} (hS:Sxs k S)
  (h:St G F (mS aM G m S::pt b4 (.cells #[.bool false] 4)::As)):
  ai prog 113 #[sq b2 b4,.pointer (some ⟨b1,0,none⟩),.pointer (some ⟨b3,0,none⟩),.pointer (some ⟨b5,0,none⟩)] F λr F''=>∃G'' ch,r=.tuple #[]/\G.le G''/\(ch=true↔iX st (aK g) 0 g.prods S≠S)/\
   St G'' F'' (mS aM G'' m (iX st (aK g) 0 g.prods S)::pt b4 (.cells #[.bool ch] 4)::As):=by
 obtain ⟨c,n,t,s,p,lv,f,q,qa,hs,hq⟩:=E.an.ex;have ep:=hs.p.len (by decide);have eq:=hq.len (by decide);rw [jy] at eq;refine SC ?_;unfold LF;refine ⟨_,rfl,_,ld (h.le _ _ E.q1) rfl,_,rfl,_,by rw [aB];exact ld (h.le _ _ qa) rfl,?_⟩
 refine bz (wG · (sq b2 b4) (Addr.mk b1 0 none) _ _ p _) g.prods.length (λi F'=>∃(G':PH) (S':Int->Tr) (ch:Bool),G.le G'/\Sxs k S'/\Lt' S S'/\iX st (aK g) 0 g.prods S=iX st (aK g) i (g.prods.drop i) S'/\(ch=true↔S'≠S)/\
  St G' F' (mS aM G' m S'::pt b4 (.cells #[.bool ch] 4)::As)) ⟨G,S,false,aq _,hS,Lt'.refl S,by rw [Vz],by simp,h⟩ ?_
 rintro i F1 N hi ⟨G1,S1,ch,l1,hS1,hle,hrd,hch,h⟩ next;have E1:=E.le l1;have up:∀{G1 G2 F':PH} {S':Int->Tr} {As':List (Ψ)},St G2 F' (mS aM G1 m S'::As')->G1.le G2->St G2 F' (mS aM G2 m S'::As'):=λ{G1 G2 F' S' As'} h l=>h.imp 0 rfl λH _ ⟨o,mp,a1,a2,a3⟩=>⟨o,mp,a1,a2,a3.le l⟩;unfold wG;refine ⟨λhlt=> ?_,λhge=> ?_⟩
 ·have hlt:i<g.prods.length:=by omega
  have hs1:=hs.le l1;refine h.ix hs1.p (by decide) (by omega) (by omega) λa c6 x hx hrow hc6=>⟨c6,Mem.len hc6,hrow,?_⟩;rw [N4] at hx;have hxm:=UY hx;have edrop:g.prods.drop i=x::g.prods.drop (i+1):=cL hx;obtain ⟨a1,a2⟩:=gi (st:=st) hS1 (hk.prs i) x;refine h.var (Mem.st hc6) (λb6 G2 F2 l2 q6 h=> ?_) rfl (Mem.len hc6);obtain ⟨r,n6,l6,rfl,hr,hn6,_⟩:=hc6;have er:=(hr.le l2).len (by decide);refine ⟨_,ld (h.le _ _ q6) rfl,?_⟩;have goOn:∀{G' F':PH} {ch':Bool} {S':Int->Tr},G2.le G'->S'=(if gh st x=true then S1 else cC S1 x.left (dF S1 (aK g i) x.right))->(ch'=true↔ch=true\/S'≠S1)->St G' F' (mS aM G' m S'::pt b4 (.cells #[.bool ch'] 4)::As)->
    pW N (sq b2 b4) (Addr.mk b1 0 none) (some (Addr.mk b3 0 none)) (some (Addr.mk b5 0 none)) p (i:Int) (λr F''=>∃G'' ch,r=.tuple #[]/\G.le G''/\(ch=true↔iX st (aK g) 0 g.prods S≠S)/\
   St G'' F'' (mS aM G'' m (iX st (aK g) 0 g.prods S)::pt b4 (.cells #[.bool ch] 4)::As)) F':=λ{G' F' ch' S'} l e hch' h=>by
   unfold pW;rw [aI hlt (by omega)];subst e;refine next _ hlt ⟨G',_,ch',aa l1 (aa l2 l),a1,hle.trans a2,?_,?_,h⟩
   ·rw [hrd,edrop];rfl
   ·rw [hch',hch];exact iL hS hS1 a1 hle a2
  refine bz (wF N · (sq b2 b4) (Addr.mk b1 0 none) (some (Addr.mk b3 0 none)) (some (Addr.mk b5 0 none)) (i:Int) b6 p r _) x.right.length (λj F'=>∃G':PH,G2.le G'/\(st=true->∀(j':Nat) (y:Sy),j'<j->x.right[j']? =some y->y.t=false)/\
   St G' F' (mS aM G' m S1::pt b4 (.cells #[.bool ch] 4)::As)) ⟨G2,aq _,λ_ j' y hj=>by omega,up h l2⟩ ?_
  rintro j F3 N2 hj ⟨G3,l3,hno,h⟩ next2;unfold wF;have E3:=E1.le (aa l2 l3);refine ⟨λhjl=> ?_,λhjg=> ?_⟩
  ·have hjl:j<x.right.length:=by omega
   refine h.ix (hr.le (aa l2 l3)) (by decide) (by omega) (by omega) λa8 c8 y hy hrow8 hc8=>⟨c8,Mem.len hc8,hrow8,?_⟩;rw [N4] at hy;obtain rfl:c8=y.arr:=hc8;refine h.var (by simp [ak]) (λb8 G4 F4 l4 q8 h=>⟨_,ld (h.le _ _ q8) rfl,λhyt=> ?_,λhyt=> ?_⟩) rfl rfl
   ·have hyt:y.t=true:=hyt;refine ⟨_,rfl,_,ld (h.le _ _ (l4 _ _ E3.q3)) rfl,λhst=> ?_,λhst=> ?_⟩
    ·refine goOn (aa l3 l4) (S':=S1) ?_ (by simp) (up h l4);rw [if_pos (uu.2 ⟨hst,y,UY hy,hyt⟩)]
    ·unfold pX;rw [aI hjl (by have:=hl x hxm;omega)];exact next2 _ hjl ⟨G4,aa l3 l4,λh=>(by rw [show st=false from hst] at h;cases h),up h l4⟩
   ·unfold pX;rw [aI hjl (by have:=hl x hxm;omega)];refine next2 _ hjl ⟨G4,aa l3 l4,λhst j' z hj' hz=> ?_,up h l4⟩;by_cases e:j'=j
    ·subst e;rw [hy] at hz;cases hz;exact hyt
    ·exact hno hst j' z (by omega) hz
  ·have hj:j=x.right.length:=by omega
   subst hj;have hskip:¬gh st x=true:=λhsk=>by obtain ⟨h1,y,hy,hyt⟩:=uu.1 hsk;obtain ⟨j',hj'⟩:=List.getElem?_of_mem hy;have:=hno h1 j' y (N6.1 hj').1 hj';rw [hyt] at this;cases this
   unfold B9;have l13:=aa l1 (aa l2 l3);have qa3:=l13 _ _ qa;have q63:=l3 _ _ q6;refine ⟨_,ld (h.le _ _ q63) rfl,_,ld (h.le _ _ E3.q1) rfl,_,rfl,_,by rw [aB];exact ld (h.le _ _ qa3) rfl,?_⟩;refine h.ix (hq.le l13) (by decide) (by omega) (by omega) λa9 c9 dd hdd hrow9 hc9=>⟨c9,Mem.len hc9,hrow9,?_⟩;rw [N4] at hdd;have hdd:dd=dia (aK g i):=by unfold oU at hdd;rw [U5,Vy hlt] at hdd;exact (Vl hdd).symm
   have hc9:DV G3 c9 (dia (aK g i)):=by rw [<- hdd];exact hc9
   refine ⟨_,ld (h.le _ _ q63) rfl,_,rfl,_,ld (h.le _ _ E3.q5) rfl,?_⟩;refine (ia h (aq _) hk.le hS1 (hk.prs i) hc9 (hr.le (aa l2 l3)) (hl x hxm)).mono ?_;rintro _ F5 ⟨G5,u,rfl,hu,l5,h⟩;have E5:=E3.le l5;refine ⟨u,rfl,by rw [aB];exact ld (h.le _ _ (l5 _ _ qa3)) rfl,ld (h.le _ _ E5.q1) rfl,ld (h.le _ _ (l5 _ _ q63)) rfl,_,_,_,rfl,GL,?_⟩;refine (uo h l5 hk.le hS1 (bx hS1 x.right (hk.prs i)).1 hu E5.q2 x.left).mono ?_;rintro _ F6 ⟨G6,ch',rfl,hch',l6,h⟩;refine ⟨rfl,by rw [aB];exact ld (h.le _ _ (l6 _ _ (l5 _ _ qa3))) rfl,ld (h.le _ _ (l6 _ _ E5.q1)) rfl,?_⟩;exact goOn (aa l3 (aa l5 l6)) (by rw [if_neg hskip]) hch' h
 ·have e:i=g.prods.length:=by omega
  subst e;rw [VO] at hrd;have hrd:iX st (aK g) 0 g.prods S=S1:=hrd;rw [hrd];exact ⟨G1,ch,rfl,l1,hch,h⟩
end
end Go.Proofs.YtcemhghkipgdiaaGreatDoor
