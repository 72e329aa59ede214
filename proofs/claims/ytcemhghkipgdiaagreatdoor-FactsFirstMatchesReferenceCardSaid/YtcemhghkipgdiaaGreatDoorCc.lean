/-
  Package facts: Cyclic, Check.
-/
import Derived.Test.YtcemhghkipgdiaaGreatDoorAk
import Derived.MapKept
open Option renaming some->Y3,none->Y5
open Go.Obj renaming cells->Y4
open Bool renaming false->Y6,true->Y8
open Go.Value renaming agg->Y9,bool->Za,pointer->Ze,tuple->Zh
open Go.Addr renaming add->Zb,mk->Zc
noncomputable section
namespace Go.Proofs.YtcemhghkipgdiaaGreatDoor
open Go Go.Proofs.Tryz Tr
open Sl renaming v->Y7,nil->Zi,mk->Zj
set_option maxRecDepth 10000
theorem IQ:aC prog 124=Y8:=by kernel_rfl
section
variable {G G0 F:PH} {m k:Nat} {σ:Type}
structure PJ (G:PH) (k m:Nat) (kr:Nat) (fst cap:Γ) (keys:Φ) (Inv:(Int->Tr)->Prop) (rnd:(Int->Tr)->Int->Tr) (aux:(Int->Tr)->σ) (As:PH->σ->List (Ψ)):Prop where
 cb:aC prog kr=Y8
 sx:∀S,Sxs k S->Inv S->Sxs k (rnd S)/\Inv (rnd S)/\Lt' S (rnd S)/\∀n,rnd S n≠S n->n∈keys
 run:∀G' F' S x b2 b4,G.le G'->Sxs k S->Inv S->G'.cell ⟨b2,0,Y5⟩=Y3 (.map (Y3 m))->St G' F' (mS aH G' m S::pt b4 (Y4 #[Za Y6] 4)::As G' x)->
  ai prog kr (fst++ #[.func (.func 124) #[] #[Ze (Y3 ⟨b2,0,Y5⟩),Ze (Y3 ⟨b4,0,Y5⟩)]]++cap) F' λr F''=>∃G'' ch,r=Zh #[]/\G'.le G''/\(ch=Y8↔rnd S≠S)/\
   St G'' F'' (mS aH G'' m (rnd S)::pt b4 (Y4 #[Za ch] 4)::As G'' (aux S))
theorem uJ {kr:Nat} {fst cap:Γ} {keys:Φ} {Inv:(Int->Tr)->Prop} {rnd:(Int->Tr)->Int->Tr} {aux:(Int->Tr)->σ} {As:PH->σ->List (Ψ)} (Rn:PJ G k m kr fst cap keys Inv rnd aux As)
  (up:∀G' G'' F' x S,G'.le G''->St G'' F' (mS aH G' m S::As G' x)->St G'' F' (mS aH G'' m S::As G'' x)) {S:Int->Tr} {x:σ} (hS:Sxs k S) (hI:Inv S) (h:St G F (mS aH G m S::As G x)):
  ν 63 #[.map (Y3 m),.func (.func kr) fst cap] F λr F'=>∃G' S',r=Zh #[]/\G.le G'/\Sxs k S'/\Inv S'/\rnd S'=S'/\St G' F' (mS aH G' m S'::As G' (aux S')):=by
 refine Vs ?_;unfold Qk;refine h.newG λb2 G1 F1 l1 q2 _ h=> ?_;have h:=up G G1 F1 x S l1 h;refine h.new λb4 F2 h=> ?_;refine h.set0 (w':= #[Za Y8]) (Zn rfl) rfl λF3 h=> ?_
 refine ⟨λq p F'=>∃(b:Nat) (G':PH) (S':Int->Tr) (y:σ) (ch:Bool),p=Y3 (Zc b 0 Y5)/\q=mu k keys S'+(if ch=Y8 then 1 else 0)/\G1.le G'/\Sxs k S'/\Inv S'/\(ch=Y6->rnd S'=S'/\y=aux S')/\
  St G' F' (pt b (Y4 #[Za ch] 4)::mS aH G' m S'::As G' y),mu k keys S+1,⟨b4,G1,S,x,Y8,rfl,rfl,am _,hS,hI,λhc=>(by cases hc),h⟩,?_⟩
 rintro q p F4 ⟨b,G2,S2,y,ch,rfl,rfl,l2,hS2,hI2,hc2,h⟩;unfold Fl;refine ⟨_,rfl,ch,h.ld0 rfl,λht=> ?_,λhf=> ?_⟩
 ·subst ht;refine h.set0 (w':= #[Za Y6]) (Zn rfl) rfl λF5 h=>⟨kr,fst,cap,rfl,Rn.cb,?_⟩;obtain ⟨s1,s2,s3,s4⟩:=Rn.sx S2 hS2 hI2;refine (Rn.run G2 F5 S2 y b2 b (aa l1 l2) hS2 hI2 (ld (l2 _ _ q2) rfl) h.swap).mono ?_;rintro _ F6 ⟨G3,ch',rfl,l3,hch,h⟩;refine ⟨rfl,ch',h.ld1 rfl,?_⟩;have h:=h.swap;refine h.new λb5 F7 h=> ?_;refine h.set0 (w':= #[Za ch']) (Zn rfl) rfl λF8 h=> ?_;refine ⟨mu k keys (rnd S2)+(if ch'=Y8 then 1 else 0),?_,b5,G3,rnd S2,aux S2,ch',rfl,rfl,aa l2 l3,s1,s2,λhf=> ?_,h.swap.tail.swap.swap⟩
  ·obtain ⟨m1,m2⟩:=xv hS2 s1 s3 keys;rw [Χ rfl];by_cases hc:ch'=Y8
   ·rw [Χ hc];have hne:=hch.1 hc;obtain ⟨n,hn⟩:∃n,rnd S2 n≠S2 n:=Classical.not_forall.1 λha=>hne (funext ha);have:=m2 n (s4 n hn) (Ne.symm hn);omega
   ·rw [Υ hc];omega
  ·have e:rnd S2=S2:=Classical.not_not.1 λhne=>by rw [hch.2 hne] at hf;cases hf
   exact ⟨by rw [e,e],by rw [e]⟩
 ·subst hf;obtain ⟨e1,e2⟩:=hc2 rfl;exact ⟨G2,S2,rfl,aa l1 l2,hS2,hI2,e1,by rw [<- e2];exact h.tail⟩
end
abbrev sV (b2 b4:Nat):Value:=.func (.func 124) #[] #[Ze (Y3 ⟨b2,0,Y5⟩),Ze (Y3 ⟨b4,0,Y5⟩)]
theorem iX {κ:Type} {k:Nat} {S T U:κ->Tr} (hS:Sxs k S) (hT:Sxs k T) (hU:Sxs k U) (h1:Lt' S T) (h2:Lt' T U):(T≠S\/U≠T)↔U≠S:=by
 constructor
 ·rintro h rfl;have e:T=U:=Lt'.antisymm hT hU h2 h1;rcases h with h|h
  ·exact h e
  ·exact h e.symm
 ·intro h;by_cases e:T=S
  ·exact .inr λe2=>h (e2.trans e)
  ·exact .inl e
theorem uK {st:Bool} {x:Pr}:gr st x=Y8↔st=Y8/\∃s∈x.right,s.t=Y8:=by unfold gr;rw [Xq,X5]
section
variable {G F:PH} {As:List (Ψ)} {g:Gr} {k m:Nat} {st:Bool}
structure DrE (G:PH) (g:Gr) (st:Bool) (m ban b1 b3 b5 b2:Nat):Prop where
 q1:G b1=Y3 (Y4 #[Ze (Y3 ⟨ban,0,Y5⟩)] 93)
 q3:G b3=Y3 (Y4 #[Za st] 4)
 q5:G b5=Y3 (Y4 #[.map (Y3 m)] 95)
 q2:G.cell ⟨b2,0,Y5⟩=Y3 (.map (Y3 m))
 an:AnV G ban g
theorem DrE.le {G G':PH} {ban b1 b3 b5 b2:Nat} (h:DrE G g st m ban b1 b3 b5 b2) (l:G.le G'):DrE G' g st m ban b1 b3 b5 b2:=⟨l _ _ h.q1,l _ _ h.q3,l _ _ h.q5,aI l h.q2,h.an.le l⟩
theorem KZ {ban b1 b3 b5 b2 b4:Nat} (hk:OkK g k) (hl:∀x∈g.YV,x.right.length<=1000000) (hp:g.YV.length<=1000000) (E:DrE G g st m ban b1 b3 b5 b2) {S:Int->Tr} (hS:Sxs k S)
  (h:St G F (mS aH G m S::pt b4 (Y4 #[Za Y6] 4)::As)):
  ν 113 #[sV b2 b4,.pointer (Y3 ⟨b1,0,Y5⟩),Ze (Y3 ⟨b3,0,Y5⟩),Ze (Y3 ⟨b5,0,Y5⟩)] F λr F''=>∃G'' ch,r=Zh #[]/\G.le G''/\(ch=Y8↔jb st (aD g) 0 g.YV S≠S)/\
   St G'' F'' (mS aH G'' m (jb st (aD g) 0 g.YV S)::pt b4 (Y4 #[Za ch] 4)::As):=by
 obtain ⟨c,n,t,s,p,lv,f,q,qa,hs,hq⟩:=E.an.ex;have ep:=hs.p.len;have eq:=hq.len;rw [jo] at eq;refine Qv ?_;unfold Lz;refine ⟨_,rfl,_,ld (h.le _ _ E.q1) rfl,_,rfl,_,by rw [aE];exact ld (h.le _ _ qa) rfl,?_⟩
 refine bh (vm · (sV b2 b4) (Zc b1 0 Y5) _ _ p _) g.YV.length (λi F'=>∃(G':PH) (S':Int->Tr) (ch:Bool),G.le G'/\Sxs k S'/\Lt' S S'/\jb st (aD g) 0 g.YV S=jb st (aD g) i (g.YV.drop i) S'/\(ch=Y8↔S'≠S)/\
  St G' F' (mS aH G' m S'::pt b4 (Y4 #[Za ch] 4)::As)) ⟨G,S,Y6,am _,hS,Lt'.refl S,by rw [XK],by simp,h⟩ ?_
 rintro i F1 N hi ⟨G1,S1,ch,l1,hS1,hle,hrd,hch,h⟩ next;have E1:=E.le l1;have up:∀{G1 G2 F':PH} {S':Int->Tr} {As':List (Ψ)},St G2 F' (mS aH G1 m S'::As')->G1.le G2->St G2 F' (mS aH G2 m S'::As'):=λ{G1 G2 F' S' As'} h l=>h.imp 0 rfl λH _ ⟨o,mp,a1,a2,a3⟩=>⟨o,mp,a1,a2,a3.le l⟩;unfold vm;refine ⟨λhlt=> ?_,λhge=> ?_⟩
 ·have hlt:i<g.YV.length:=by omega
  have hs1:=hs.le l1;refine h.ix hs1.p (by decide) (by omega) (by omega) λa c6 x hx hrow hc6=>⟨c6,Mem.len hc6,hrow,?_⟩;rw [N4] at hx;have hxm:=W7 hx;have edrop:g.YV.drop i=x::g.YV.drop (i+1):=bP hx;obtain ⟨a1,a2⟩:=gu (st:=st) hS1 (hk.prs i) x;refine h.var (Mem.st hc6) (λb6 G2 F2 l2 q6 h=> ?_) rfl (Mem.len hc6);obtain ⟨r,n6,l6,rfl,hr,hn6,_⟩:=hc6;have er:=(hr.le l2).len;refine ⟨_,ld (h.le _ _ q6) rfl,?_⟩;have goOn:∀{G' F':PH} {ch':Bool} {S':Int->Tr},G2.le G'->S'=(if gr st x=Y8 then S1 else bo S1 x.left (dG S1 (aD g i) x.right))->(ch'=Y8↔ch=Y8\/S'≠S1)->St G' F' (mS aH G' m S'::pt b4 (Y4 #[Za ch'] 4)::As)->
    o7 N (sV b2 b4) (Zc b1 0 Y5) (Y3 (Zc b3 0 Y5)) (Y3 (Zc b5 0 Y5)) p (i:Int) (λr F''=>∃G'' ch,r=Zh #[]/\G.le G''/\(ch=Y8↔jb st (aD g) 0 g.YV S≠S)/\
   St G'' F'' (mS aH G'' m (jb st (aD g) 0 g.YV S)::pt b4 (Y4 #[Za ch] 4)::As)) F':=λ{G' F' ch' S'} l e hch' h=>by
   unfold o7;rw [aA hlt];subst e;refine next _ hlt ⟨G',_,ch',aa l1 (aa l2 l),a1,hle.trans a2,?_,?_,h⟩
   ·rw [hrd,edrop];rfl
   ·rw [hch',hch];exact iX hS hS1 a1 hle a2
  refine bh (vl N · (sV b2 b4) (Zc b1 0 Y5) (Y3 (Zc b3 0 Y5)) (Y3 (Zc b5 0 Y5)) (i:Int) b6 p r _) x.right.length (λj F'=>∃G':PH,G2.le G'/\(st=Y8->∀(j':Nat) (y:Sy),j'<j->x.right[j']? =Y3 y->y.t=Y6)/\
   St G' F' (mS aH G' m S1::pt b4 (Y4 #[Za ch] 4)::As)) ⟨G2,am _,λ_ j' y hj=>by omega,up h l2⟩ ?_
  rintro j F3 N2 hj ⟨G3,l3,hno,h⟩ next2;unfold vl;have E3:=E1.le (aa l2 l3);refine ⟨λhjl=> ?_,λhjg=> ?_⟩
  ·have hjl:j<x.right.length:=by omega
   refine h.ix (hr.le (aa l2 l3)) (by decide) (by omega) (by omega) λa8 c8 y hy hrow8 hc8=>⟨c8,Mem.len hc8,hrow8,?_⟩;rw [N4] at hy;obtain rfl:c8=y.arr:=hc8;refine h.var (by simp [ak]) (λb8 G4 F4 l4 q8 h=>⟨_,ld (h.le _ _ q8) rfl,λhyt=> ?_,λhyt=> ?_⟩) rfl rfl
   ·have hyt:y.t=Y8:=hyt;refine ⟨_,rfl,_,ld (h.le _ _ (l4 _ _ E3.q3)) rfl,λhst=> ?_,λhst=> ?_⟩
    ·refine goOn (aa l3 l4) (S':=S1) ?_ (by simp) (up h l4);rw [Χ (uK.2 ⟨hst,y,W7 hy,hyt⟩)]
    ·unfold o8;rw [aA hjl (by have:=hl x hxm;omega)];exact next2 _ hjl ⟨G4,aa l3 l4,λh=>(by rw [show st=Y6 from hst] at h;cases h),up h l4⟩
   ·unfold o8;rw [aA hjl (by have:=hl x hxm;omega)];refine next2 _ hjl ⟨G4,aa l3 l4,λhst j' z hj' hz=> ?_,up h l4⟩;by_cases e:j'=j
    ·subst e;rw [hy] at hz;cases hz;exact hyt
    ·exact hno hst j' z (by omega) hz
  ·have hj:j=x.right.length:=by omega
   subst hj;have hskip:¬gr st x=Y8:=λhsk=>by obtain ⟨h1,y,hy,hyt⟩:=uK.1 hsk;obtain ⟨j',hj'⟩:=List.getElem?_of_mem hy;have:=hno h1 j' y (N6.1 hj').1 hj';rw [hyt] at this;cases this
   unfold Bx;have l13:=aa l1 (aa l2 l3);have qa3:=l13 _ _ qa;have q63:=l3 _ _ q6;refine ⟨_,ld (h.le _ _ q63) rfl,_,ld (h.le _ _ E3.q1) rfl,_,rfl,_,by rw [aE];exact ld (h.le _ _ qa3) rfl,?_⟩;refine h.ix (hq.le l13) (by decide) (by omega) (by omega) λa9 c9 dd hdd hrow9 hc9=>⟨c9,Mem.len hc9,hrow9,?_⟩;rw [N4] at hdd;have hdd:dd=dia (aD g i):=by unfold oO at hdd;rw [Xj,XF hlt] at hdd;exact (Xy hdd).symm
   have hc9:DV G3 c9 (dia (aD g i)):=by rw [<- hdd];exact hc9
   refine ⟨_,ld (h.le _ _ q63) rfl,_,rfl,_,ld (h.le _ _ E3.q5) rfl,?_⟩;refine (gR h (am _) hk.le hS1 (hk.prs i) hc9 (hr.le (aa l2 l3)) (hl x hxm)).mono ?_;rintro _ F5 ⟨G5,u,rfl,hu,l5,h⟩;have E5:=E3.le l5;refine ⟨u,rfl,by rw [aE];exact ld (h.le _ _ (l5 _ _ qa3)) rfl,ld (h.le _ _ E5.q1) rfl,ld (h.le _ _ (l5 _ _ q63)) rfl,_,_,_,rfl,IQ,?_⟩;refine (tK h l5 hk.le hS1 (bz hS1 x.right (hk.prs i)).1 hu E5.q2 x.left).mono ?_;rintro _ F6 ⟨G6,ch',rfl,hch',l6,h⟩;refine ⟨rfl,by rw [aE];exact ld (h.le _ _ (l6 _ _ (l5 _ _ qa3))) rfl,ld (h.le _ _ (l6 _ _ E5.q1)) rfl,?_⟩;exact goOn (aa l3 (aa l5 l6)) (by rw [Υ hskip]) hch' h
 ·have e:i=g.YV.length:=by omega
  subst e;rw [XQ] at hrd;have hrd:jb st (aD g) 0 g.YV S=S1:=hrd;rw [hrd];exact ⟨G1,ch,rfl,l1,hch,h⟩
end
theorem PK:aC prog 113=Y8:=by kernel_rfl
section
variable {G F:PH} {As:List (Ψ)} {g:Gr} {k m:Nat} {st:Bool}
theorem St.toMap {κ:Type} [DecidableEq κ] (enc:κ->ξ) (h:St G F (pt m (.map #[] 0)::As)):St G F (mS enc G m (λ_=>Y0 Y6)::As):=
 h.imp (A':=mS enc G m (λ_=>Y0 Y6)) 0 rfl λH _ hH=>⟨_,_,hH,eJ.empty enc,jl.empty G⟩
theorem K9 {ban b1 b3 b5:Nat} (hk:OkK g k) (hl:∀x∈g.YV,x.right.length<=1000000) (hp:g.YV.length<=1000000) (q1:G b1=Y3 (Y4 #[Ze (Y3 ⟨ban,0,Y5⟩)] 93)) (q3:G b3=Y3 (Y4 #[Za st] 4))
  (q5:G b5=Y3 (Y4 #[.map (Y3 m)] 95)) (hAn:AnV G ban g):
  PJ G k m 113 #[] #[Ze (Y3 ⟨b1,0,Y5⟩),Ze (Y3 ⟨b3,0,Y5⟩),Ze (Y3 ⟨b5,0,Y5⟩)] (g.YV.map (·.left)) (Snd g.YV (aD g) st) (jb st (aD g) 0 g.YV) (λ_=>()) (λ_ _=>As) where
 cb:=PK
 sx S hS hI:=by obtain ⟨a1,a2,a3⟩:=kI (st:=st) hk.prs g.YV 0 hS;refine ⟨a1,xw hk.prs g.YV 0 (λj x hj=>by rw [Xm];exact hj) hS hI,a2,λn hn=> ?_⟩;obtain ⟨x,hx,e⟩:=a3 n hn;exact Xi.2 ⟨x,hx,e⟩
 run G' F' S x b2 b4 l hS hI hc h:=by
  have e:(#[]++ #[sV b2 b4]++ #[Ze (Y3 ⟨b1,0,Y5⟩),Ze (Y3 ⟨b3,0,Y5⟩),Ze (Y3 ⟨b5,0,Y5⟩)]:Γ)= #[sV b2 b4,.pointer (Y3 ⟨b1,0,Y5⟩),Ze (Y3 ⟨b3,0,Y5⟩),Ze (Y3 ⟨b5,0,Y5⟩)]:=by simp
  rw [e];refine (KZ hk hl hp ⟨l _ _ q1,l _ _ q3,l _ _ q5,hc,hAn.le l⟩ hS h).mono ?_;rintro r F'' ⟨G'',ch,h1,h2,h3,h4⟩;exact ⟨G'',ch,h1,h2,h3,h4⟩
theorem cX {ban:Nat} (hk:OkK g k) (hl:∀x∈g.YV,x.right.length<=1000000) (hp:g.YV.length<=1000000) (hAn:AnV G ban g) (h:St G F As):
  ν 54 #[Ze (Y3 ⟨ban,0,Y5⟩),Za st] F λr F'=>∃G' mm S,r=.map (Y3 mm)/\G.le G'/\bX k g.YV (aD g) st S/\St G' F' (mS aH G' mm S::As):=by
 refine Vn ?_;unfold Qf;refine h.newG λb1 G1 F1 l1 q1 _ h=>h.newG λb3 G2 F2 l2 q3 _ h=>h.new λmm F3 h=> ?_;have h:=h.toMap aH;refine h.new λb5 F4 h=> ?_;refine h.set0 (w':= #[.map (Y3 mm)]) (Zn rfl) rfl λF5 h=> ?_;obtain ⟨G3,l3,⟨H,hA,hH⟩,h⟩:=h.pin;have q5:=hH _ _ hA;have l13:=aa l1 (aa l2 l3);have up:∀(G' G'' F':PH) (x:Unit) (S:Int->Tr),G'.le G''->St G'' F' (mS aH G' mm S::As)->St G'' F' (mS aH G'' mm S::As):=λG' G'' F' _ S l h=>h.imp 0 rfl λH _ ⟨o,mp,a1,a2,a3⟩=>⟨o,mp,a1,a2,a3.le l⟩;have h:=up _ _ _ () _ l3 h;refine ⟨_,ld (h.le _ _ q5) rfl,?_⟩;refine (uJ (K9 (As:=As) hk hl hp (l3 _ _ (l2 _ _ q1)) (l3 _ _ q3) q5 (hAn.le l13)) up (x:=()) (λ_=>Sx.Y0 k Y6) (λn c hc=>by cases hc) h).mono ?_;rintro _ F6 ⟨G6,S,rfl,l6,hS,hI,he,h⟩;exact ⟨rfl,_,ld (h.le _ _ (l6 _ _ q5)) rfl,G6,mm,S,rfl,aa l13 l6,EY hk.prs hS hI he,h⟩
end
theorem U5:∃b z,SlT 29 124 3 b z:=⟨_,_,underlying29,yt,yu,rfl,by decide,by decide⟩
def bK (S:Int->Tr) (n:Nat):List Dia:=(List.range n).map λ(i:Nat)=>dia (S (i:Int))
theorem uL (S:Int->Tr) (n:Nat):bK S (n+1)=bK S n++[dia (S n)]:=by unfold bK;rw [Yw,Xt];rfl
theorem La {w:Γ} {i n:Nat} {v:Γ} (hv:v.size=2) (hw:w.size=n*2) (hi:i<n):(wr w (i*2) v.toList).size=n*2/\(wr w (i*2) v.toList).toList.take ((i+1)*2)=w.toList.take (i*2)++v.toList:=by
 have hl:w.toList.length=n*2:=hw;have hvl:v.toList.length=2:=hv;have e:=dM v.toList w.toList (i*2) (by omega);rw [show w.toList.toArray=w by simp] at e;refine ⟨?_,?_⟩
 ·have:(wr w (i*2) v.toList).toList.length=n*2:=by rw [e];simp only [Xa,Xe,YR];omega
  exact this
 ·rw [e,Xs (by simp only [Xa,Xe];omega)];exact Xf (by simp only [Xa,Xe];omega)
section
variable {G F:PH} {As:List (Ψ)} {k m:Nat}
theorem fE {S:Int->Tr} (h:St G F (mS aH G m S::As)) (hk:k<=6) (n:Nat) (hS:∀i:Nat,i<n->Sx k (S i)) (hn:n<=1000000):
  ν 53 #[.map (Y3 m),vi n] F λr F'=>∃G' sl,r=Y7 sl/\G.le G'/\RL G' sl (bK S n)/\St G' F' As:=by
 obtain ⟨_,_,T⟩:=U5;refine Vm ?_;unfold Qe;refine bU underlying39 Pg HQ rfl (by omega) (YK _) (by omega) (by omega) ?_;refine λb hb=>⟨_,rfl,?_⟩;rw [N4];have hz:(Builtin.zeroCells (Value.agg zD).cells n).size=n*2:=by simp [Builtin.zeroCells,Value.cells]
 generalize Builtin.zeroCells (Value.cells _) n=z0 at hz ⊢;revert b hb;refine h.new (K:=λb F'=>Lp (0:Int) F' λN v F=>u7 N (Y3 m) ⟨Y3 ⟨b,0,Y5⟩,n,n⟩ _ v F) λb F1 h=> ?_
 refine bh (u7 · (Y3 m) ⟨Y3 ⟨b,0,Y5⟩,n,n⟩ _) n (λi F'=>∃(G':PH) (cur:Γ) (vs:List Γ),G.le G'/\cur.size=n*2/\cZ G' (bK S i) vs/\cur.toList.take (i*2)=cat vs/\
  St G' F' (pt b (Y4 cur 31)::mS aH G m S::As)) ⟨G,z0,[],am _,hz,.nil,by simp [cat],h⟩ ?_
 rintro i F2 N hi ⟨G1,cur,vs,l1,hcs,hv,hc,h⟩ next;unfold u7;refine ⟨λhlt=> ?_,λhge=> ?_⟩
 ·have hlt:i<n:=by have:(i:Int)<(n:Int):=hlt;omega
  refine (fo h.swap l1 (i:Int)).mono ?_;rintro _ F3 ⟨G2,u,rfl,hu,l2,h⟩;refine ⟨u,rfl,?_⟩;refine h.var hu.st (λb7 G3 F4 l3 q7 h=> ?_) rfl hu.size;obtain ⟨sd,rfl,hrd⟩:=hu;refine ⟨_,ld (h.le _ _ q7) rfl,_,ld (h.le _ _ q7) rfl,?_⟩;have hlen:=hrd.blen;have hsm:=(hS i hlt).len hk;have hsm:(dia (S (i:Int))).1.length<=63:=by show (brs _).length<=63;rw [aN];exact hsm
  have h:=h.nilOwn 124 3;refine h.app0 T (((hrd.le l3).le h.le)) (ii _) (by show 0+sd.len<=_;omega) λs' F5 h hl'=> ?_;rw [XM] at h;obtain ⟨G4,l4,hs',h⟩:=h.pinO;have h:=h.swap;refine ⟨ld (h.le _ _ (l4 _ _ q7)) rfl,_,rfl,by omega,by show (i:Int)<(n:Int);omega,?_⟩;dsimp only;rw [aE,N4,Xm];obtain ⟨e1,e2⟩:=La (v:= #[s'.v,vi (dia (S (i:Int))).2]) rfl hcs hlt;refine h.putR0 (w':=wr cur (i*2) (#[s'.v,vi (dia (S (i:Int))).2]:Γ).toList) rfl (by simp [ak,Y7]) (show i*2+2<=cur.size by rw [hcs];omega) rfl λF6 h=> ?_;rw [aA hlt];have l14:=aa l2 (aa l3 l4);refine next _ hlt ⟨G4,_,vs++[#[s'.v,vi (dia (S (i:Int))).2]],aa l1 l14,e1,?_,?_,h⟩
  ·rw [uL];exact (hv.le l14).append (.cons (DV.mk (RL.brs.2 hs')) .nil)
  ·rw [e2,hc,bY,cJ]
 ·have e:i=n:=by have:¬(i:Int)<(n:Int):=hge;omega
  subst e;unfold Fb;obtain ⟨G2,l2,⟨H,hA,hH⟩,h⟩:=h.pin;have q:=hH _ _ hA;have hcl:=(hv.le l2).cat_len;have hll:(bK S i).length=i:=by unfold bK;rw [Xd,XI]
  exact ⟨G2,_,rfl,aa l1 l2,⟨vs,hv.le l2,RdS.new q hc (by rw [hcl,hll]) (W8 _)⟩,h.tail⟩
end
section
variable {G F:PH} {As:List (Ψ)} {g:Gr} {k:Nat}
def IR (g:Gr) (k:Nat) (st:Bool) (b:Nat) (G:PH):List (Ψ):=[λH=>∃sl S,bX k g.YV (aD g) st S/\RL G sl (bK S g.YW.length)/\H b=Y3 (Y4 #[Y7 sl] 39)]
theorem uM {st:Bool} {b:Nat} (h:St G F (IR g k st b G)):∃sl S,bX k g.YV (aD g) st S/\RL G sl (bK S g.YW.length)/\St G F [pt b (Y4 #[Y7 sl] 39)]:=by obtain ⟨H1,h1⟩:=h.get (i:=0) rfl;obtain ⟨sl,S,e1,e2,e3⟩:=h1.1;refine ⟨sl,S,e1,e2,h.imp (A':=pt b (Y4 #[Y7 sl] 39)) 0 rfl λH' hl hH'=> ?_⟩;obtain ⟨sl',S',f1,f2,f3⟩:=hH';have i1:=h1.2.2 _ _ e3;have i2:=hl _ _ f3;rw [i1] at i2;show H' b=_;rw [f3,<- i2]
theorem yN:aC prog 52=Y8:=by kernel_rfl
theorem tF:aC prog 57=Y8:=by kernel_rfl
theorem sW {v:Γ} {ban b1 b2:Nat} (hk:OkK g k) (hl:∀x∈g.YV,x.right.length<=1000000) (hp:g.YV.length<=1000000) (hs:g.YW.length<=1000000) (hAn:AnV G ban g) (q1:G b1=Y3 (Y4 v 37)) (hg:GV G v g)
  (h:St G F [pt b2 (Y4 #[Y7 Zi] 39)]):ν 52 #[Ze (Y3 ⟨ban,0,Y5⟩),Ze (Y3 ⟨b1,0,Y5⟩),Ze (Y3 ⟨b2,0,Y5⟩)] F λr F'=>∃G',r=Zh #[]/\G.le G'/\St G' F' (IR g k Y8 b2 G'):=by
 obtain ⟨c,n,t,s,p,l,f,rfl,hgs⟩:=hg;have es:=hgs.s.len;refine Vl ?_;unfold Qd;refine ⟨_,rfl,_,by rw [aE];exact ld (h.le _ _ q1) rfl,?_⟩;refine (cX hk hl hp hAn h).mono ?_;rintro _ F1 ⟨G1,mm,S,rfl,l1,hS,h⟩;refine ⟨_,rfl,by rw [aE];exact ld (h.le _ _ (l1 _ _ q1)) rfl,?_⟩;rw [es];refine (fE h hk.le g.YW.length (λi _=>hS.sx i) hs).mono ?_;rintro _ F2 ⟨G2,sl,rfl,l2,hsl,h⟩;refine ⟨_,rfl,by rw [aE];exact ld (h.le _ _ (l2 _ _ (l1 _ _ q1))) rfl,_,rfl,?_⟩;refine h.set0 (w':= #[Y7 sl]) (Zn rfl) rfl λF3 h=>⟨G2,rfl,aa l1 l2,?_⟩;exact h.imp 0 rfl λH _ hH=>⟨sl,S,hS,hsl,hH⟩
theorem xh {v:Γ} (hT:Tab F) (hg:GV F v g) (hz:Sz g) (hk:OkK g k) (hl:∀x∈g.YV,x.right.length<=1000000) (hp:g.YV.length<=1000000) (hs:g.YW.length<=1000000):
  ν 14 #[Y9 v] F λr F'=>(∃sl S,r=Zh #[Y7 sl,vi 0]/\bX k g.YV (aD g) Y8 S/\RL F' sl (bK S g.YW.length))/\F.le F':=by
 refine Ve ?_;unfold P0;refine (St.start F).newG λb1 G1 F1 l1 q1 _ h=>h.new λb2 F2 h=>⟨v,hg.size,ac (h.le _ _ q1),?_⟩;refine (eG (kr:=52) (fst:= #[]) (cap:= #[Ze (Y3 ⟨b1,0,Y5⟩),Ze (Y3 ⟨b2,0,Y5⟩)]) (Bs:=IR g k Y8 b2) (hT.le l1) (hg.le l1) hz hk hl hp h yN λG' ban F' l hAn h=> ?_).mono ?_
 ·rw [xB];exact sW hk hl hp hs hAn (l _ _ q1) ((hg.le l1).le l) h
 rintro _ F3 ⟨rfl,G3,l3,h⟩;obtain ⟨sl,S,h1,h2,h⟩:=uM h;refine ⟨_,rfl,sl,h.ld0 rfl,?_⟩;refine h.set0 (w':= #[Y7 sl]) (Zn rfl) rfl λF4 h=>⟨_,h.ld0 rfl,⟨sl,S,rfl,h1,h2.le h.le⟩,aa l1 (aa l3 h.le)⟩
end
section
variable {G F:PH} {g:Gr} {k:Nat}
theorem nQ {v:Γ} {ban b1 b2:Nat} (hk:OkK g k) (hl:∀x∈g.YV,x.right.length<=1000000) (hp:g.YV.length<=1000000) (hs:g.YW.length<=1000000) (hAn:AnV G ban g) (q1:G b1=Y3 (Y4 v 37)) (hg:GV G v g)
  (h:St G F [pt b2 (Y4 #[Y7 Zi] 39)]):ν 57 #[Ze (Y3 ⟨ban,0,Y5⟩),Ze (Y3 ⟨b1,0,Y5⟩),Ze (Y3 ⟨b2,0,Y5⟩)] F λr F'=>∃G',r=Zh #[]/\G.le G'/\St G' F' (IR g k Y6 b2 G'):=by
 obtain ⟨c,n,t,s,p,l,f,rfl,hgs⟩:=hg;have es:=hgs.s.len;refine Vo ?_;unfold Qg;refine ⟨_,rfl,_,by rw [aE];exact ld (h.le _ _ q1) rfl,?_⟩;refine (cX hk hl hp hAn h).mono ?_;rintro _ F1 ⟨G1,mm,S,rfl,l1,hS,h⟩;refine ⟨_,rfl,by rw [aE];exact ld (h.le _ _ (l1 _ _ q1)) rfl,?_⟩;rw [es];refine (fE h hk.le g.YW.length (λi _=>hS.sx i) hs).mono ?_;rintro _ F2 ⟨G2,sl,rfl,l2,hsl,h⟩;refine ⟨_,rfl,by rw [aE];exact ld (h.le _ _ (l2 _ _ (l1 _ _ q1))) rfl,_,rfl,?_⟩;refine h.set0 (w':= #[Y7 sl]) (Zn rfl) rfl λF3 h=>⟨G2,rfl,aa l1 l2,?_⟩;exact h.imp 0 rfl λH _ hH=>⟨sl,S,hS,hsl,hH⟩
theorem sX {v:Γ} (hT:Tab F) (hg:GV F v g) (hz:Sz g) (hk:OkK g k) (hl:∀x∈g.YV,x.right.length<=1000000) (hp:g.YV.length<=1000000) (hs:g.YW.length<=1000000):
  ν 16 #[Y9 v] F λr F'=>(∃sl S,r=Zh #[Y7 sl,vi 0]/\bX k g.YV (aD g) Y6 S/\RL F' sl (bK S g.YW.length))/\F.le F':=by
 refine Vf ?_;unfold P5;refine (St.start F).newG λb1 G1 F1 l1 q1 _ h=>h.new λb2 F2 h=>⟨v,hg.size,ac (h.le _ _ q1),?_⟩;refine (eG (kr:=57) (fst:= #[]) (cap:= #[Ze (Y3 ⟨b1,0,Y5⟩),Ze (Y3 ⟨b2,0,Y5⟩)]) (Bs:=IR g k Y6 b2) (hT.le l1) (hg.le l1) hz hk hl hp h tF λG' ban F' l hAn h=> ?_).mono ?_
 ·rw [xB];exact nQ hk hl hp hs hAn (l _ _ q1) ((hg.le l1).le l) h
 rintro _ F3 ⟨rfl,G3,l3,h⟩;obtain ⟨sl,S,h1,h2,h⟩:=uM h;refine ⟨_,rfl,sl,h.ld0 rfl,?_⟩;refine h.set0 (w':= #[Y7 sl]) (Zn rfl) rfl λF4 h=>⟨_,h.ld0 rfl,⟨sl,S,rfl,h1,h2.le h.le⟩,aa l1 (aa l3 h.le)⟩
end
section
variable {l l':List Pr} {P P':Nat->Tr} {c c':Cf} {st:Bool}
theorem Der.up {n:Int} (d:Der l P Y8 c n):Der l P Y6 c n:=by
 induction d with
 |mk i x hi hp _ _ ih=>exact .mk i x hi hp (λ_ _ _=>rfl) ih
theorem Der.inv {n:Int}:Der l P st c n↔∃i x,l[i]? =Y3 x/\x.left=n/\(P i).ev c=Y8/\(∀s∈x.right,s.t=Y8->st=Y6)/\∀s∈x.right,s.t=Y6->Der l P st c s.i:=by
 constructor
 ·rintro ⟨i,x,h1,h2,h3,h4⟩;exact ⟨i,x,h1,rfl,h2,h3,h4⟩
 ·rintro ⟨i,x,h1,rfl,h2,h3,h4⟩;exact .mk i x h1 h2 h3 h4
theorem Fst.der {n t:Int} (f:Fst l P c n t):Der l P Y6 c n:=by
 cases f with
 |tok i j x s hi hp hd=>exact .mk i x hi hp (λ_ _ _=>rfl) hd
 |non i j x s t hi hp hd=>exact .mk i x hi hp (λ_ _ _=>rfl) hd
theorem Fst.pres {n t:Int} (f:Fst l P c n t):∃i x,l[i]? =Y3 x/\x.left=n/\(P i).ev c=Y8/\x.right≠[]:=by
 cases f with
 |tok i j x s hi hp hd hj=>exact ⟨i,x,hi,rfl,hp,λe=>by rw [e] at hj;cases hj⟩
 |non i j x s t hi hp hd hj=>exact ⟨i,x,hi,rfl,hp,λe=>by rw [e] at hj;cases hj⟩
theorem Fst.tok_mem {n t:Int} (f:Fst l P c n t):∃x∈l,∃s∈x.right,s.t=Y8/\s.i=t:=by
 induction f with
 |tok i j x s hi _ _ hj _ hs=>exact ⟨x,W7 hi,s,W7 hj,hs,rfl⟩
 |non _ _ _ _ _ _ _ _ _ _ _ _ ih=>exact ih
end
structure U6 (k:Nat) (l:List Pr) (P:Nat->Tr) (fam:Tr) (start:Int) (U:Nat->Tr):Prop where
 sx:∀i,Sx k (U i)
 iff:∀i c,i<l.length->((U i).ev c=Y8↔Use l P fam start c i)
def PL (U:Nat->Tr) (n:Nat):List Dia:=(List.range n).map λi=>dia (U i)
structure mT (k n:Nat) (l:List Pr) (P:Nat->Tr) (C:Int->Tr):Prop where
 sx:Sxs k C
 iff:∀(i:Nat) c,i<n->((C i).ev c=Y8↔Tg (Stp l P c) i i)
section
end
theorem St.exI {α:Type} {G F:PH} {As:List (Ψ)} {A:α->Ψ} (h:St G F As) (i:Nat) (hi:As[i]? =Y3 λH=>∃x,A x H):∃x,St G F (As.set i (A x)):=by
 obtain ⟨hl,Hs,h1,h2⟩:=h;obtain ⟨⟨x,hx⟩,hd,hle⟩:=h1 i _ hi;refine ⟨x,hl,Hs,λj B hj=> ?_,λj k hj hk=>h2 j k (by simpa using hj) (by simpa using hk)⟩;by_cases e:j=i
 ·subst e;rw [X0 (N6.1 hi).1] at hj;cases hj;exact ⟨hx,hd,hle⟩
 ·rw [Ys (Ne.symm e)] at hj;exact h1 j B hj
theorem St.prI {P:Prop} {G F:PH} {As:List (Ψ)} {A:Ψ} (h:St G F As) (i:Nat) (hi:As[i]? =Y3 λH=>P/\A H):P/\St G F (As.set i A):=by obtain ⟨H,⟨hp,_⟩,_⟩:=h.get hi;exact ⟨hp,h.imp i hi λ_ _ h=>h.2⟩
theorem St.hd {G F:PH} {As:List (Ψ)} {A:Ψ} (h:St G F (A::As)):St G F [A]:=h.pick id (λ_ _ _ _ e=>e) λi hi=>by
 cases i with
 |zero=>rfl
 |succ i=>simp at hi
def im (P:Nat->Tr) (D:Int->Tr):Nat->List Pr->(Int->Tr)->Nat->Tr
 |_,[],_,_=>Y0 Y6
 |i,x::l,S,j=>if j=i then fN P D S i x else im P D (i+1) l (eE (fN P D S i x) x.right S) j
section
variable {k:Nat} {l:List Pr} {P:Nat->Tr} {D:Int->Tr}
theorem yO {d:Tr} {n:Int}:∀{r:List Sy} {S:Int->Tr},eE d r S n≠S n->∃s∈r,s.i=n
 |[],S,h=>absurd rfl h
 |s::r,S,h=>by
  by_cases e:s.i=n
  ·exact ⟨s,by simp,e⟩
  ·unfold eE at h;have e2:(if s.t=Y8 then S else bo S s.i d) n=S n:=by
    split
    ·rfl
    ·unfold bo dx;rw [Υ (Ne.symm e)]
   rw [<- e2] at h;obtain ⟨y,hy,h⟩:=yO h;exact ⟨y,Xo _ hy,h⟩
theorem Dr {n:Int}:∀{l:List Pr} {i:Nat} {S:Int->Tr},f7 P D i l S n≠S n->n∈l.flatMap λx=>x.right.map (·.i)
 |[],i,S,h=>absurd rfl h
 |x::l,i,S,h=>by
  rw [XS,W9];by_cases e:eE (fN P D S i x) x.right S n=S n
  ·unfold f7 at h;rw [<- e] at h;exact .inr (Dr h)
  ·obtain ⟨s,hs,h⟩:=yO e;exact .inl (Xi.2 ⟨s,hs,h⟩)
theorem sY (hP:∀i,Sx k (P i)) (hD:Sxs k D) {S:Int->Tr} (hS:Sxs k S) (i:Nat) (x:Pr):Sx k (fN P D S i x)/\Sxs k (eE (fN P D S i x) x.right S)/\Lt' S (eE (fN P D S i x) x.right S):=by obtain ⟨u1,_⟩:=ee hP hD hS i x;obtain ⟨a1,a2⟩:=eF u1 x.right hS;exact ⟨u1,a1,λn c h=>(a2 n c).2 (.inl h)⟩
theorem uN (hP:∀i,Sx k (P i)) (hD:Sxs k D):∀(l:List Pr) (i:Nat) {S:Int->Tr},Sxs k S->f7 P D i l S=S->∀(j:Nat) (x:Pr),l[j]? =Y3 x->im P D i l S (i+j)=fN P D S (i+j) x
 |[],_,_,_,_,j,_,h=>by simp at h
 |y::l,i,S,hS,he,j,x,hj=>by
  obtain ⟨u1,a1,a2⟩:=sY hP hD hS i y;unfold f7 at he;obtain ⟨b1,b2⟩:=ip hP hD l (i+1) a1;have e1:eE (fN P D S i y) y.right S=S:=by refine Lt'.antisymm a1 hS ?_ a2;rw [he] at b2;exact b2
  rw [e1] at he;unfold im;cases j with
  |zero=>cases hj;rw [Χ (by omega),Yy]
  |succ j=>rw [Υ (by omega),e1];have:=uN hP hD l (i+1) hS he j x (by simpa using hj);rw [show i+(j+1)=i+1+j by omega];exact this
end
section
variable {G F Gd:PH} {g:Gr} {k m mu ms:Nat} {D:Int->Tr}
def kH (n mu:Nat) (G:PH) (x:Nat->Tr):Ψ:=λH=>∃U:Int->Tr,(∀i:Nat,i<n->U i=x i)/\mS aH G mu U H
theorem mS.le {κ:Type} [DecidableEq κ] {enc:κ->ξ} {G G':PH} {m:Nat} {S:κ->Tr} {H:PH} (h:mS enc G m S H) (l:G.le G'):mS enc G' m S H:=by obtain ⟨o,mp,h1,h2,h3⟩:=h;exact ⟨o,mp,h1,h2,h3.le l⟩
structure UsE (G:PH) (g:Gr) (ms mu m ban bg b5 b3 b4 b6 b2:Nat):Prop where
 qg:∃v,G bg=Y3 (Y4 v 37)/\GV G v g
 q5:G b5=Y3 (Y4 #[.map (Y3 m)] 95)
 q3:G b3=Y3 (Y4 #[Ze (Y3 ⟨ban,0,Y5⟩)] 93)
 q4:G b4=Y3 (Y4 #[.map (Y3 ms)] 95)
 q6:G b6=Y3 (Y4 #[.map (Y3 mu)] 95)
 q2:G.cell ⟨b2,0,Y5⟩=Y3 (.map (Y3 m))
 an:AnV G ban g
theorem UsE.le {G G':PH} {ban bg b5 b3 b4 b6 b2:Nat} (h:UsE G g ms mu m ban bg b5 b3 b4 b6 b2) (l:G.le G'):UsE G' g ms mu m ban bg b5 b3 b4 b6 b2:=
 ⟨by obtain ⟨v,h1,h2⟩:=h.qg;exact ⟨v,l _ _ h1,h2.le l⟩,l _ _ h.q5,l _ _ h.q3,l _ _ h.q4,l _ _ h.q6,aI l h.q2,h.an.le l⟩
def nR {κ:Type} [DecidableEq κ] (enc:κ->ξ) (G:PH) (m bf:Nat) (S S':κ->Tr) (Bs:PH->List (Ψ)):VR:=λr F'=>∃G' ch,r=Zh #[]/\G.le G'/\(ch=Y8↔S'≠S)/\St G' F' (mS enc G' m S'::pt bf (Y4 #[Za ch] 4)::Bs G')
theorem Lc {ban bg b5 b3 b4 b6 b2 bf:Nat} (hk:OkK g k) (hD:Sxs k D) (lD:Gd.le G) (hl:∀x∈g.YV,x.right.length<=1000000) (hp:g.YV.length<=1000000) (E:UsE G g ms mu m ban bg b5 b3 b4 b6 b2) {S:Int->Tr} (hS:Sxs k S) {x0:Nat->Tr}
  (h:St G F [mS aH G m S,pt bf (Y4 #[Za Y6] 4),kH g.YV.length mu G x0,mS aH Gd ms D]):
  ν 64 #[sV b2 bf,Ze (Y3 ⟨bg,0,Y5⟩),Ze (Y3 ⟨b5,0,Y5⟩),Ze (Y3 ⟨b3,0,Y5⟩),Ze (Y3 ⟨b4,0,Y5⟩),Ze (Y3 ⟨b6,0,Y5⟩)] F
   (nR aH G m bf S (f7 (aD g) D 0 g.YV S) λG'=>[kH g.YV.length mu G' (im (aD g) D 0 g.YV S),mS aH Gd ms D]):=by
 obtain ⟨vg,qg,c,n,t,s,p,lv,f,rfl,hs⟩:=E.qg;obtain ⟨c',n',t',s',p',lv',f',q,qa,hs',hq⟩:=E.an.ex;have ep:=hs.p.len;have eq:=hq.len;rw [jo] at eq;refine Vt ?_;unfold Ql;refine ⟨_,rfl,_,by rw [aE];exact ld (h.le _ _ qg) rfl,?_⟩;obtain ⟨U0,h⟩:=h.exI 2 rfl;obtain ⟨_,h⟩:=h.prI 2 rfl;have h:St G F [mS aH G m S,pt bf (Y4 #[Za Y6] 4),mS aH G mu U0,mS aH Gd ms D]:=h
 refine bh (zj · (sV b2 bf) _ _ _ _ p _) g.YV.length (λi F'=>∃(G':PH) (S' U:Int->Tr) (ch:Bool),G.le G'/\Sxs k S'/\Lt' S S'/\f7 (aD g) D 0 g.YV S=f7 (aD g) D i (g.YV.drop i) S'/\(ch=Y8↔S'≠S)/\
  (∀j:Nat,j<g.YV.length->im (aD g) D 0 g.YV S j=if j<i then U j else im (aD g) D i (g.YV.drop i) S' j)/\
  ∃Bs,St G' F' ([mS aH G' m S',pt bf (Y4 #[Za ch] 4),mS aH G' mu U,mS aH Gd ms D]++Bs)) ⟨G,S,U0,Y6,am _,hS,Lt'.refl S,by rw [XK],by simp,λj _=>by rw [Υ (by omega),XK],[],h⟩ ?_
 rintro i F1 N hi ⟨G1,S1,U,ch,l1,hS1,hle,hrd,hch,hus,Bs,h⟩ next;replace h:St G1 F1 [mS aH G1 m S1,pt bf (Y4 #[Za ch] 4),mS aH G1 mu U,mS aH Gd ms D]:=h.pick id (λ_ _ _ _ e=>e) λi hi=>by rw [id,Xh hi]
 have E1:=E.le l1;unfold zj;refine ⟨λhlt=> ?_,λhge=> ?_⟩
 ·have hlt:i<g.YV.length:=by omega
  have hs1:=hs.le l1;refine h.ix hs1.p (by decide) (by omega) (by omega) λa c6 x hx hrow hc6=>⟨c6,Mem.len hc6,hrow,?_⟩;rw [N4] at hx;have hxm:=W7 hx;have edrop:g.YV.drop i=x::g.YV.drop (i+1):=bP hx;obtain ⟨hu,a1,a2⟩:=sY (D:=D) hk.prs hD hS1 i x;refine h.var (Mem.st hc6) (λb8 G2 F2 l2 q8 h=> ?_) rfl (Mem.len hc6);obtain ⟨r,n8,l8,rfl,hr,hn8,_⟩:=hc6;have l12:=aa l1 l2;have E2:=E1.le l2;have qa2:=l12 _ _ qa;have er:=(hr.le l2).len;refine ⟨_,rfl,_,ld (h.le _ _ E2.q5) rfl,_,ld (h.le _ _ q8) rfl,_,rfl,_,ld (h.le _ _ E2.q3) rfl,_,rfl,_,by rw [aE];exact ld (h.le _ _ qa2) rfl,?_⟩;refine ixc (hq.le l12) (by decide) (by omega) (by omega) λa9 c9 dd hdd hrow9 hc9=>⟨c9,Mem.len hc9,aU h.le hrow9,?_⟩;rw [N4] at hdd;have hdd:dd=dia (aD g i):=by unfold oO at hdd;rw [Xj,XF hlt] at hdd;exact (Xy hdd).symm
  have hc9:DV G2 c9 (dia (aD g i)):=by rw [<- hdd];exact hc9
  have hand:=(hS1 x.left).ap2 (o:=aY) (hk.prs i);have fin:∀{G' F':PH} {y:Γ} {b9:Nat},G2.le G'->DV G' y (dia (ap2 aY (S1 x.left) (aD g i)))->St G' F' [pt b9 (Y4 y 31),mS aH G1 m S1,pt bf (Y4 #[Za ch] 4),mS aH G1 mu U,mS aH Gd ms D]->
    kK N (sV b2 bf) (Y3 (Zc b5 0 Y5)) (Y3 (Zc b3 0 Y5)) (Y3 (Zc b4 0 Y5)) (Y3 (Zc b6 0 Y5)) (i:Int) b8 p (Y3 (Zc b9 0 Y5))
     (nR aH G m bf S (f7 (aD g) D 0 g.YV S) λG'=>[kH g.YV.length mu G' (im (aD g) D 0 g.YV S),mS aH Gd ms D]) F':=λ{G' F' y b9} l hy h=>by
   unfold kK;have E3:=E2.le l;have q83:=l _ _ q8;refine ⟨_,rfl,y,hy.size,ac (h.ptAt (i:=0) rfl),_,ld (h.le _ _ q83) rfl,_,rfl,_,ld (h.le _ _ E3.q4) rfl,?_⟩;refine (gR h.front4 (aa lD (aa l12 l)) hk.le hD hand hy (hr.le (aa l2 l)) (hl x hxm)).mono ?_;rintro _ F5 ⟨G5,u,rfl,hu5,l5,h⟩;have h:=h.back4;have E5:=E3.le l5;have q85:=l5 _ _ q83;refine ⟨u,rfl,?_⟩;refine h.put0 (w':=u) hu5.size hy.size hu5.st λF6 h=> ?_;refine ⟨_,rfl,_,ld (h.le _ _ E5.q6) rfl,u,hu5.size,ac (h.ptAt (i:=0) rfl),?_⟩;obtain ⟨o,mp,m1,m2,m3⟩:=h.mS_at (i:=3) rfl;have l15:=aa l2 (aa l l5);refine aV xA m1 m2 (i:Int) (Y9 u) λo' ho'=> ?_;have h:=h.mS_set 3 rfl (G1:=G5) (S':=dx U (i:Int) (fN (aD g) D S1 i x)) ho' ((m3.le l15).put hu5);refine ⟨_,ld (h.le _ _ q85) rfl,?_⟩;refine bh (zi N · (sV b2 bf) (Y3 (Zc b5 0 Y5)) (Y3 (Zc b3 0 Y5)) (Zc b4 0 Y5) (Zc b6 0 Y5) (Zc b9 0 Y5) p (i:Int) r _) x.right.length
    (λj F'=>∃(G':PH) (S2:Int->Tr) (ch2:Bool),G5.le G'/\Sxs k S2/\Lt' S1 S2/\eE (fN (aD g) D S1 i x) x.right S1=eE (fN (aD g) D S1 i x) (x.right.drop j) S2/\(ch2=Y8↔ch=Y8\/S2≠S1)/\
     St G' F' [mS aH G' m S2,pt bf (Y4 #[Za ch2] 4),mS aH G' mu (dx U (i:Int) (fN (aD g) D S1 i x)),mS aH Gd ms D,pt b9 (Y4 u 31)])
    ⟨G5,S1,ch,am _,hS1,Lt'.refl _,by rw [XK],by simp,h.rot.imp 0 rfl λ_ _ hH=>hH.le l15⟩ ?_
   rintro j F7 N2 hj ⟨G6,S2,ch2,l6,hS2,hle2,had,hch2,h⟩ next2;unfold zi;refine ⟨λhjl=> ?_,λhjg=> ?_⟩
   ·have hjl:j<x.right.length:=by omega
    refine ixc (hr.le (aa l2 (aa l (aa l5 l6)))) (by decide) (by omega) (by omega) λa8 c8 sy hsy hrow8 hc8=>⟨c8,Mem.len hc8,aU h.le hrow8,?_⟩;rw [N4] at hsy;obtain rfl:c8=sy.arr:=hc8;have edr:x.right.drop j=sy::x.right.drop (j+1):=bP hsy;refine h.var (by simp [ak]) (λb11 G7 F8 l7 q11 h=>⟨_,ld (h.le _ _ q11) rfl,λhyt=> ?_,λhyt=> ?_⟩) rfl rfl
    ·have hyt:sy.t=Y6:=by simpa using hyt
     have E7:=E5.le (aa l6 l7);refine ⟨_,ld (h.le _ _ q11) rfl,u,hu5.size,ac (h.ptAt (i:=4) rfl),_,_,_,rfl,IQ,?_⟩;refine (tK h l7 hk.le hS2 hu (hu5.le (aa l6 l7)) E7.q2 sy.i).mono ?_;rintro _ F9 ⟨G8,ch3,rfl,hch3,l8,h⟩;refine ⟨rfl,?_⟩;unfold ve;rw [aA hjl (by have:=hl x hxm;omega)];refine next2 _ hjl ⟨G8,_,ch3,aa l6 (aa l7 l8),cO hS2 hu,hle2.trans (d6 hS2 hu),?_,?_,h.imp 2 rfl λ_ _ hH=>hH.le (aa l7 l8)⟩
     ·rw [had,edr];show eE _ (x.right.drop (j+1)) (if sy.t=Y8 then S2 else bo S2 sy.i _)=_;rw [hyt,Υ Ym]
     ·rw [hch3,hch2,or_assoc,iX hS1 hS2 (cO hS2 hu) hle2 (d6 hS2 hu)]
    ·have hyt:sy.t=Y8:=by simpa using hyt
     unfold ve;rw [aA hjl (by have:=hl x hxm;omega)];refine next2 _ hjl ⟨G7,S2,ch2,aa l6 l7,hS2,hle2,?_,hch2,(h.imp 2 rfl λ_ _ hH=>hH.le l7).imp 0 rfl λ_ _ hH=>hH.le l7⟩;rw [had,edr];show eE _ (x.right.drop (j+1)) (if sy.t=Y8 then S2 else bo S2 sy.i _)=_;rw [hyt,Χ rfl]
   ·have hj:j=x.right.length:=by omega
    subst hj;rw [XQ] at had;have had:eE (fN (aD g) D S1 i x) x.right S1=S2:=had;unfold Fm;rw [aA hlt];rw [had] at a1 a2;refine next _ hlt ⟨G6,S2,_,ch2,aa l12 (aa l (aa l5 l6)),hS2,hle.trans hle2,?_,?_,λj' hj'=> ?_,[pt b9 (Y4 u 31)],h⟩
    ·rw [hrd,edrop];show f7 _ _ (i+1) _ (eE (fN (aD g) D S1 i x) x.right S1)=_;rw [had]
    ·rw [hch2,hch,iX hS hS1 hS2 hle hle2]
    ·rw [hus j' hj',edrop];have e3:∀j',im (aD g) D i (x::g.YV.drop (i+1)) S1 j'=if j'=i then fN (aD g) D S1 i x else im (aD g) D (i+1) (g.YV.drop (i+1)) (eE (fN (aD g) D S1 i x) x.right S1) j':=λ_=>rfl
     rw [e3,had];unfold dx;by_cases c1:j'<i
     ·rw [Χ c1,Χ (by omega),Υ (by omega)]
     ·by_cases c2:j'=i
      ·rw [Υ c1,Χ c2,Χ (by omega),Χ (by omega)]
      ·rw [Υ c1,Υ c2,Υ (by omega)]
  have mk:∀{G' F':PH} {w y:Γ} {b9:Nat},w.size=2->G2.le G'->DV G' y (dia (ap2 aY (S1 x.left) (aD g i)))->St G' F' [pt b9 (Y4 w 31),mS aH G1 m S1,pt bf (Y4 #[Za ch] 4),mS aH G1 mu U,mS aH Gd ms D]->
    au F' (Zc b9 0 Y5) 2 y λF=>kK N (sV b2 bf) (Y3 (Zc b5 0 Y5)) (Y3 (Zc b3 0 Y5)) (Y3 (Zc b4 0 Y5)) (Y3 (Zc b6 0 Y5)) (i:Int) b8 p (Y3 (Zc b9 0 Y5))
     (nR aH G m bf S (f7 (aD g) D 0 g.YV S) λG'=>[kH g.YV.length mu G' (im (aD g) D 0 g.YV S),mS aH Gd ms D]) F:=λhw l hy h=>h.put0 hy.size hw hy.st λF' h=>fin l hy h
  have hA:∀{G':PH} {w:Γ},G2.le G'->DV G' w (dia (S1 x.left))->ν 35 #[Y9 w,Y9 c9] G' λr G''=>(∃y,r=Zh #[Y9 y,vi 0]/\DV G'' y (dia (ap2 aY (S1 x.left) (aD g i))))/\G'.le G'':=
   λl hw=>(iw hk.le (hS1 x.left) (hk.prs i) hw (hc9.le l)).mono λr F' ⟨x,a,b,c⟩=>⟨⟨x,a,b⟩,c⟩
  have at9:∀{G' F':PH} {As:List (Ψ)},G2.le G'->St G' F' As->F'.cell (Zb (Zc ban 0 Y5) 9)=Y3 (Y7 q):=λl h=>by rw [aE];exact ld (h.le _ _ (l _ _ qa2)) rfl
  have a3:∀{G' F':PH} {As:List (Ψ)},G2.le G'->St G' F' As->F'.cell (Zc b3 0 Y5)=Y3 (Ze (Y3 ⟨ban,0,Y5⟩)):=λl h=>ld (h.le _ _ (E2.le l).q3) rfl;refine ⟨?_,?_⟩
  ·refine (fo h l2 x.left).mono ?_;rintro _ F3 ⟨G3,w,rfl,hw,l3,h⟩;refine ⟨w,rfl,aU (aa l3 h.le) hrow9,at9 l3 h,a3 l3 h,?_,?_⟩
   ·refine h.run (hA l3 hw) λ_ G4 F4 hr4 l4 h=> ?_;obtain ⟨y,rfl,hy⟩:=hr4;have l34:=aa l3 l4;refine ⟨_,_,rfl,at9 l34 h,a3 l34 h,?_,?_⟩
    ·refine h.runv (bx hy) λG5 F5 l5 h=>⟨_,rfl,at9 (aa l34 l5) h,a3 (aa l34 l5) h,?_⟩;exact h.new λb9 F6 h=>mk rfl (aa l34 l5) (hy.le l5) h
    ·refine h.new λb9 F5 h=> ?_;exact h.runv (bx hy) λG5 F6 l5 h=>⟨_,rfl,at9 (aa l34 l5) h,a3 (aa l34 l5) h,mk rfl (aa l34 l5) (hy.le l5) h⟩
   ·refine h.new λb9 F4 h=> ?_;refine h.run (hA l3 hw) λ_ G4 F5 hr4 l4 h=> ?_;obtain ⟨y,rfl,hy⟩:=hr4;have l34:=aa l3 l4;refine ⟨_,_,rfl,at9 l34 h,a3 l34 h,?_⟩;exact h.runv (bx hy) λG5 F6 l5 h=>⟨_,rfl,at9 (aa l34 l5) h,a3 (aa l34 l5) h,mk rfl (aa l34 l5) (hy.le l5) h⟩
  ·refine h.new λb9 F3 h=> ?_;refine (fo h.swap l2 x.left).mono ?_;rintro _ F4 ⟨G3,w,rfl,hw,l3,h⟩;have h:=h.swap;refine ⟨w,rfl,aU (aa l3 h.le) hrow9,at9 l3 h,a3 l3 h,?_⟩;refine h.run (hA l3 hw) λ_ G4 F5 hr4 l4 h=> ?_;obtain ⟨y,rfl,hy⟩:=hr4;have l34:=aa l3 l4;refine ⟨_,_,rfl,at9 l34 h,a3 l34 h,?_⟩;exact h.runv (bx hy) λG5 F6 l5 h=>⟨_,rfl,at9 (aa l34 l5) h,a3 (aa l34 l5) h,mk rfl (aa l34 l5) (hy.le l5) h⟩
 ·have e:i=g.YV.length:=by omega
  subst e;rw [XQ] at hrd hus;have hrd:f7 (aD g) D 0 g.YV S=S1:=hrd;rw [hrd];refine ⟨G1,ch,rfl,l1,hch,h.imp 2 rfl λH _ hH=>⟨U,λj hj=> ?_,hH⟩⟩;rw [hus j hj,Χ hj]
end
theorem Ld:aC prog 64=Y8:=by kernel_rfl
theorem PM:aC prog 62=Y8:=by kernel_rfl
theorem St.var1 {G F:PH} {As:List (Ψ)} (h:St G F As) {z v:ξ} {e:TypeId} {K:Nat->Ψ} (k:∀b G' F',G.le G'->G' b=Y3 (Y4 #[v] e)->St G' F' As->K b F'):∀b,F b=Y5->atF (F.set b (Y4 #[z] e)) λF=>sto F (Zc b 0 Y5) v (K b):=by refine h.new λb F1 h=> ?_;refine h.set0 (w':= #[v]) (Zn rfl) rfl λF2 h=> ?_;exact h.pinb λG' l q h=>k b G' F2 l q h
def IS (A:List Dia->Prop) (b:Nat) (G:PH):List (Ψ):=[λH=>∃sl ds,A ds/\RL G sl ds/\H b=Y3 (Y4 #[Y7 sl] 39)]
theorem uO {A:List Dia->Prop} {b:Nat} {G F:PH} (h:St G F (IS A b G)):∃sl ds,A ds/\RL G sl ds/\St G F [pt b (Y4 #[Y7 sl] 39)]:=by obtain ⟨sl,h⟩:=h.exI 0 rfl;obtain ⟨ds,h⟩:=h.exI 0 rfl;obtain ⟨e1,h⟩:=h.prI 0 rfl;obtain ⟨e2,h⟩:=h.prI 0 rfl;exact ⟨sl,ds,e1,e2,h⟩
def PN (k:Nat) (g:Gr) (ds:List Dia):Prop:=∃U,U6 k g.YV (aD g) (tre g.fam) g.start U/\ds=PL U g.YV.length
section
variable {G F Gd:PH} {g:Gr} {k m mu ms:Nat} {D:Int->Tr}
def W1 (g:Gr) (S:Int->Tr):Prop:=(∀n c,(S n).ev c=Y8->Rch g.YV (aD g) (tre g.fam) g.start c n)/\∀c,(tre g.fam).ev c=Y8->(S g.start).ev c=Y8
theorem Le {ban bg b5 b3 b4 b6:Nat} (hk:OkK g k) (hD:bX k g.YV (aD g) Y6 D) (lD:Gd.le G) (hl:∀x∈g.YV,x.right.length<=1000000) (hp:g.YV.length<=1000000)
  (E:∀G' b2,G.le G'->G'.cell ⟨b2,0,Y5⟩=Y3 (.map (Y3 m))->UsE G' g ms mu m ban bg b5 b3 b4 b6 b2):
  PJ G k m 64 #[] #[Ze (Y3 ⟨bg,0,Y5⟩),Ze (Y3 ⟨b5,0,Y5⟩),Ze (Y3 ⟨b3,0,Y5⟩),Ze (Y3 ⟨b4,0,Y5⟩),Ze (Y3 ⟨b6,0,Y5⟩)]
   (g.YV.flatMap λx=>x.right.map (·.i)) (W1 g) (f7 (aD g) D 0 g.YV) (im (aD g) D 0 g.YV) (λG' x=>[kH g.YV.length mu G' x,mS aH Gd ms D]) where
 cb:=Ld
 sx S hS hI:=by obtain ⟨a1,a2⟩:=ip hk.prs hD.sx g.YV 0 hS;exact ⟨a1,⟨xx hk.prs hD g.YV 0 (λj x hj=>by rw [Xm];exact hj) hS hI.1,λc hc=>a2 _ c (hI.2 c hc)⟩,a2,λn hn=>Dr hn⟩
 run G' F' S x b2 b4 l hS hI hc h:=by
  have e:∀(a:ξ) (v:Γ),(#[]++ #[a]++v:Γ)= #[a]++v:=λa v=>by simp
  rw [e];exact Lc hk hD.sx (aa lD l) hl hp (E G' b2 l hc) hS h
theorem xj {v:Γ} {ban b1 b2:Nat} (hk:OkK g k) (hl:∀x∈g.YV,x.right.length<=1000000) (hp:g.YV.length<=1000000) (hAn:AnV G ban g) (q1:G b1=Y3 (Y4 v 37)) (hg:GV G v g)
  (h:St G F [pt b2 (Y4 #[Y7 Zi] 39)]):ν 62 #[Ze (Y3 ⟨ban,0,Y5⟩),Ze (Y3 ⟨b1,0,Y5⟩),Ze (Y3 ⟨b2,0,Y5⟩)] F λr F'=>∃G',r=Zh #[]/\G.le G'/\St G' F' (IS (PN k g) b2 G'):=by
 have hg0:=hg;obtain ⟨c,n,t,s,p,lv,f,rfl,hgs⟩:=hg;have ep:=hgs.p.len;refine Vr ?_;unfold Qj;refine h.newG λb3 G1 F1 l1 q3 _ h=>⟨_,ld (h.le _ _ q3) rfl,?_⟩;refine (cX hk hl hp (hAn.le l1) h).mono ?_;rintro _ F2 ⟨G2,ms,D,rfl,l2,hD,h⟩;refine ⟨_,rfl,?_⟩;refine h.var1 λb4 G3 F3 l3 q4 h=> ?_;refine h.new λm F4 h=> ?_;have h:=h.toMap aH;have l13:=aa l1 (aa l2 l3);have q13:=l13 _ _ q1;have hk0:=hk.fam;have hfam:DV G3 #[n.v,vi g.fam.2] (dia (tre g.fam)):=by rw [<- hk.fam.2];exact DV.mk (hgs.n.le l13)
 refine ⟨_,rfl,_,by rw [aE];exact ld (h.le _ _ q13) rfl,#[n.v,vi g.fam.2],rfl,by rw [aE];exact je (h.le _ _ q13) rfl,?_⟩;obtain ⟨o,mp,m1,m2,m3⟩:=h.mS_at (i:=0) rfl;refine aV xA m1 m2 g.start (Y9 #[n.v,vi g.fam.2]) λo' ho'=> ?_;have h:=h.mS_set 0 rfl (G1:=G3) (S':=dx (λ_=>Y0 Y6) g.start (tre g.fam)) ho' (m3.put hfam);refine h.var1 λb5 G4 F5 l4 q5 h=> ?_;refine h.new λmu F6 h=> ?_;have h:=h.toMap aH;refine h.var1 λb6 G5 F7 l5 q6 h=> ?_;refine ⟨_,ld (h.le _ _ (l5 _ _ q5)) rfl,?_⟩;have l35:=aa l3 (aa l4 l5);have lD:G2.le G5:=l35;have h0:St G5 F7 ([mS aH G5 m (dx (λ_=>Y0 Y6) g.start (tre g.fam)),kH g.YV.length mu G5 (λ_=>Y0 Y6),mS aH G2 ms D]++[pt b2 (Y4 #[Y7 Zi] 39)]):=by have h1:=h.swap.imp 0 rfl λ_ _ hH=>hH.le (aa l4 l5);exact h1.imp (A':=kH g.YV.length mu G5 (λ_=>Y0 Y6)) 1 rfl λH _ hH=>⟨_,λ_ _=>rfl,hH.le l5⟩
 have hS0:Sxs k (dx (λ_=>Y0 Y6) g.start (tre g.fam)):=Sxs.upd (λ_=>Sx.Y0 k Y6) hk.fam.1;have l1':=aa l13 (aa l4 l5)
 have hrn:=Le (G:=G5) (Gd:=G2) (m:=m) (mu:=mu) (ms:=ms) (ban:=ban) (bg:=b1) (b5:=b5) (b3:=b3) (b4:=b4) (b6:=b6) hk hD lD hl hp (λG' b2 l hc=>
  ⟨⟨_,(aa l1' l) _ _ q1,hg0.le (aa l1' l)⟩,l _ _ (l5 _ _ q5),l _ _ (l35 _ _ (l2 _ _ q3)),l _ _ (l5 _ _ (l4 _ _ q4)),l _ _ q6,hc,hAn.le (aa l1' l)⟩)
 refine (h0.callL (P:=λr _=>r=Zh #[]) (Bs':=λ_ G'=>[λH=>∃S U:Int->Tr,(Bw k g.YV (aD g) (tre g.fam) g.start S/\(∀i:Nat,i<g.YV.length->U i=im (aD g) D 0 g.YV S i)/\f7 (aD g) D 0 g.YV S=S)/\mS aH G' mu U H]) λF1 h1=> ?_).mono ?_
 ·have up:∀(G' G'' F':PH) (x:Nat->Tr) (S:Int->Tr),G'.le G''->St G'' F' (mS aH G' m S::[kH g.YV.length mu G' x,mS aH G2 ms D])->St G'' F' (mS aH G'' m S::[kH g.YV.length mu G'' x,mS aH G2 ms D]):=λG' G'' F' x S l h=>
   (h.imp 0 rfl λH _ hH=>hH.le l).imp 1 rfl λH _ ⟨U,e,hH⟩=>⟨U,e,hH.le l⟩
  refine (uJ (As:=λG' x=>[kH g.YV.length mu G' x,mS aH G2 ms D]) hrn up (x:=λ_=>Y0 Y6) hS0 ⟨λi c hc=> ?_,λc hc=> ?_⟩ h1).mono ?_
  ·unfold dx at hc;split at hc
   ·rename_i e;rw [e];exact .start hc
   ·cases hc
  ·unfold dx;rw [Χ rfl];exact hc
  ·rintro _ F8 ⟨G8,S,rfl,l8,hS,hI,he,h⟩;have hR:=EZ hk.prs hD hS hI.1 hI.2 he;have h:=h.tail.hd
   exact ⟨G8,rfl,l8,h.imp (A':=λH=>∃S U:Int->Tr,(Bw k g.YV (aD g) (tre g.fam) g.start S/\(∀i:Nat,i<g.YV.length->U i=im (aD g) D 0 g.YV S i)/\f7 (aD g) D 0 g.YV S=S)/\mS aH G8 mu U H) 0 rfl
    λH _ ⟨U,e,hH⟩=>⟨S,U,⟨hR,e,he⟩,hH⟩⟩
 rintro _ F9 ⟨G9,rfl,l9,h⟩;obtain ⟨S,h⟩:=h.exI 0 rfl;obtain ⟨U,h⟩:=h.exI 0 rfl;obtain ⟨⟨hR,hU,he⟩,h⟩:=h.prI 0 rfl;have hUx:∀(i:Nat) (x:Pr),g.YV[i]? =Y3 x->U i=fN (aD g) D S i x:=λi x hi=>by have:=uN hk.prs hD.sx g.YV 0 hR.sx he i x hi;rw [Xm] at this;rw [hU i (N6.1 hi).1,this]
 have hUs:∀i:Nat,i<g.YV.length->Sx k (U i):=λi hi=>by rw [hUx i _ (N5 hi)];exact (ee hk.prs hD.sx hR.sx i _).1
 refine ⟨rfl,_,ld (h.le _ _ (l9 _ _ q6)) rfl,?_⟩;refine ⟨_,by rw [aE];exact ld (h.le _ _ (l9 _ _ (l5 _ _ (l4 _ _ q13)))) rfl,?_⟩;dsimp only;rw [ep];refine (fE h hk.le g.YV.length hUs hp).mono ?_;rintro _ F10 ⟨G10,sl,rfl,l10,hsl,h⟩;refine ⟨_,rfl,_,rfl,?_⟩;refine h.set0 (w':= #[Y7 sl]) (Zn rfl) rfl λF11 h=>⟨G10,rfl,aa l1' (aa l9 l10),?_⟩;refine h.imp 0 rfl λH _ hH=>⟨sl,_,⟨λi=>if i<g.YV.length then U i else Y0 Y6,⟨λi=> ?_,λi c hi=> ?_⟩,?_⟩,hsl,hH⟩
 ·split
  ·rename_i hi;exact hUs i hi
  ·exact Sx.Y0 k Y6
 ·rw [Χ hi,hUx i _ (N5 hi)];exact Jn hk.prs hD hR (N5 hi) c
 ·unfold bK PL;refine Yx λi hi=> ?_;dsimp only;rw [if_pos (XN.1 hi)]
theorem Bn {v:Γ} (hT:Tab F) (hg:GV F v g) (hz:Sz g) (hk:OkK g k) (hl:∀x∈g.YV,x.right.length<=1000000) (hp:g.YV.length<=1000000):
  ν 21 #[Y9 v] F λr F'=>(∃sl ds,r=Zh #[Y7 sl,vi 0]/\PN k g ds/\RL F' sl ds)/\F.le F':=by
 refine Vh ?_;unfold P7;refine (St.start F).newG λb1 G1 F1 l1 q1 _ h=>h.new λb2 F2 h=>⟨v,hg.size,ac (h.le _ _ q1),?_⟩;refine (eG (kr:=62) (fst:= #[]) (cap:= #[Ze (Y3 ⟨b1,0,Y5⟩),Ze (Y3 ⟨b2,0,Y5⟩)]) (Bs:=IS (PN k g) b2) (hT.le l1) (hg.le l1) hz hk hl hp h PM λG' ban F' l hAn h=> ?_).mono ?_
 ·rw [xB];exact xj hk hl hp hAn (l _ _ q1) ((hg.le l1).le l) h
 rintro _ F3 ⟨rfl,G3,l3,h⟩;obtain ⟨sl,ds,h1,h2,h⟩:=uO h;refine ⟨_,rfl,sl,h.ld0 rfl,?_⟩;refine h.set0 (w':= #[Y7 sl]) (Zn rfl) rfl λF4 h=>⟨_,h.ld0 rfl,⟨sl,ds,rfl,h1,h2.le h.le⟩,aa l1 (aa l3 h.le)⟩
end
section
variable {G G0 F:PH} {As:List (Ψ)} {m:Nat} {k:Nat}
theorem uP {S:Int×Int->Tr} {b2 b4:Nat} {ch:Bool} {w:Γ} {d:Tr} (h:St G F (mS bT G0 m S::pt b4 (Y4 #[Za ch] 4)::As)) (l0:G0.le G) (hk:k<=6) (hS:Sxs k S) (hx:Sx k d) (hd:DV G w (dia d))
  (h2:G.cell ⟨b2,0,Y5⟩=Y3 (.map (Y3 m))) (n:Int×Int):
  ν 125 #[Y9 (wx n),Y9 w,Ze (Y3 ⟨b2,0,Y5⟩),Ze (Y3 ⟨b4,0,Y5⟩)] F λr F'=>∃G' ch',r=Zh #[]/\(ch'=Y8↔ch=Y8\/bo S n d≠S)/\G.le G'/\
   St G' F' (mS bT G' m (bo S n d)::pt b4 (Y4 #[Za ch'] 4)::As):=by
 refine Qy ?_;unfold LC;have up:∀{G1 G2 F':PH} {S':Int×Int->Tr} {As':List (Ψ)},St G2 F' (mS bT G1 m S'::As')->G1.le G2->St G2 F' (mS bT G2 m S'::As'):=λ{G1 G2 F' S' As'} h l=>h.imp 0 rfl λH _ ⟨o,mp,a1,a2,a3⟩=>⟨o,mp,a1,a2,a3.le l⟩;obtain ⟨s,rfl,_⟩:=id hd;refine h.newG λbk Gk Fk lk qk _ h=> ?_;have hd:=hd.le lk;have h2:=aI lk h2;have l0:=aa l0 lk;refine h.newG λb5 G1 F1 l1 q5 _ h=>⟨_,ld (h.le _ _ q5) rfl,λh0=> ?_,λh0=> ?_⟩
 ·have e:=(fq hx.1).1 h0;refine ⟨G1,ch,rfl,?_,aa lk l1,?_⟩
  ·rw [e,dy hS];simp
  ·rw [e,dy hS];exact up h (aa l0 l1)
 ·refine ⟨_,rfl,_,aI (aa l1 h.le) h2,_,rfl,ac (h.le _ _ (l1 _ _ qk)),?_⟩;refine (qG h (aa l0 l1) n).mono ?_;rintro _ F2 ⟨G2,u,rfl,hu,l2,h⟩;refine ⟨u,rfl,?_⟩;refine h.var hu.st (λb6 G3 F3 l3 q6 h=> ?_) rfl hu.size;have l13:=aa l2 l3;refine ⟨u,hu.size,ac (h.le _ _ q6),_,rfl,ac (h.le _ _ (l13 _ _ q5)),?_⟩;refine h.run (P:=λr G'=>∃x,r=Zh #[Y9 x,vi 0]/\DV G' x (dia (ap2 oOr (S n) d))) ((vo hk (hS n) hx (hu.le l3) (hd.le (aa l1 l13))).mono λr F' ⟨x,a,b,c⟩=>⟨⟨x,a,b⟩,c⟩) λ_ G4 F4 hr l4 h=> ?_;obtain ⟨x,rfl,hxx⟩:=hr;refine ⟨_,_,rfl,?_⟩;refine h.runv (bx hxx) λG5 F5 l5 h=>⟨_,rfl,?_⟩;refine h.var hxx.st (λb7 G6 F6 l6 q7 h=> ?_) rfl hxx.size;have l36:=aa l4 (aa l5 l6);refine ⟨u,hu.size,ac (h.le _ _ (l36 _ _ q6)),x,hxx.size,ac (h.le _ _ q7),?_⟩;refine h.runv (jU (hu.le (aa l3 l36)) (hxx.le (aa l5 l6)) (pI ((hS n).small hk))) λG7 F7 l7 h=>⟨_,rfl,?_⟩;have l17:=aa l13 (aa l36 l7);have kk:=(hS n).ap2 (o:=oOr) hx;refine ⟨λhne=> ?_,λhe=> ?_⟩
  ·have hne:ap2 oOr (S n) d≠S n:=λe=>by rw [e,ζ rfl] at hne;cases hne
   refine ⟨_,aI (aa (aa l1 l17) h.le) h2,_,rfl,ac (h.le _ _ (l17 _ _ (l1 _ _ qk))),x,hxx.size,ac (h.le _ _ (l7 _ _ q7)),?_⟩;obtain ⟨o,mp,m1,m2,m3⟩:=h.mS_at (i:=0) rfl;refine aV Fw m1 m2 n (Y9 x) λo' ho'=> ?_;have hxx7:=hxx.le (aa l5 (aa l6 l7));have h:=h.mS_set 0 rfl (G1:=G7) (S':=bo S n d) ho' ((m3.le (aa (aa l0 l1) l17)).put hxx7);refine ⟨_,rfl,h.set1 (w':= #[Za Y8]) (Zn rfl) rfl λF8 h=> ?_⟩;exact ⟨G7,Y8,rfl,⟨λ_=> .inr λe=>hne (jH.1 e),λ_=>rfl⟩,aa lk (aa l1 l17),h⟩
  ·have e:ap2 oOr (S n) d=S n:=by
    have:decide (dia (S n)=dia (ap2 oOr (S n) d))=Y8:=by simpa using he
    exact (mL (hS n).1 kk.1 (ε this)).symm
   have e2:=jH.2 e;refine ⟨G7,ch,rfl,?_,aa lk (aa l1 l17),?_⟩
   ·rw [e2];simp
   ·rw [e2];exact up h (aa (aa l0 l1) l17)
end
theorem IT:aC prog 125=Y8:=by kernel_rfl
section
variable {G G0 F:PH} {m k:Nat} {σ:Type}
structure U7 (G:PH) (k m:Nat) (kr:Nat) (fst cap:Γ) (keys:List (Int×Int)) (Inv:(Int×Int->Tr)->Prop) (rnd:(Int×Int->Tr)->Int×Int->Tr) (aux:(Int×Int->Tr)->σ) (As:PH->σ->List (Ψ)):Prop where
 cb:aC prog kr=Y8
 sx:∀S,Sxs k S->Inv S->Sxs k (rnd S)/\Inv (rnd S)/\Lt' S (rnd S)/\∀n,rnd S n≠S n->n∈keys
 run:∀G' F' S x b2 b4,G.le G'->Sxs k S->Inv S->G'.cell ⟨b2,0,Y5⟩=Y3 (.map (Y3 m))->St G' F' (mS bT G' m S::pt b4 (Y4 #[Za Y6] 4)::As G' x)->
  ai prog kr (fst++ #[.func (.func 125) #[] #[Ze (Y3 ⟨b2,0,Y5⟩),Ze (Y3 ⟨b4,0,Y5⟩)]]++cap) F' λr F''=>∃G'' ch,r=Zh #[]/\G'.le G''/\(ch=Y8↔rnd S≠S)/\
   St G'' F'' (mS bT G'' m (rnd S)::pt b4 (Y4 #[Za ch] 4)::As G'' (aux S))
theorem EG {kr:Nat} {fst cap:Γ} {keys:List (Int×Int)} {Inv:(Int×Int->Tr)->Prop} {rnd:(Int×Int->Tr)->Int×Int->Tr} {aux:(Int×Int->Tr)->σ} {As:PH->σ->List (Ψ)} (Rn:U7 G k m kr fst cap keys Inv rnd aux As)
  (up:∀G' G'' F' x S,G'.le G''->St G'' F' (mS bT G' m S::As G' x)->St G'' F' (mS bT G'' m S::As G'' x)) {S:Int×Int->Tr} {x:σ} (hS:Sxs k S) (hI:Inv S) (h:St G F (mS bT G m S::As G x)):
  ν 73 #[.map (Y3 m),.func (.func kr) fst cap] F λr F'=>∃G' S',r=Zh #[]/\G.le G'/\Sxs k S'/\Inv S'/\rnd S'=S'/\St G' F' (mS bT G' m S'::As G' (aux S')):=by
 refine Vz ?_;unfold Qr;refine h.newG λb2 G1 F1 l1 q2 _ h=> ?_;have h:=up G G1 F1 x S l1 h;refine h.new λb4 F2 h=> ?_;refine h.set0 (w':= #[Za Y8]) (Zn rfl) rfl λF3 h=> ?_
 refine ⟨λq p F'=>∃(b:Nat) (G':PH) (S':Int×Int->Tr) (y:σ) (ch:Bool),p=Y3 (Zc b 0 Y5)/\q=mu k keys S'+(if ch=Y8 then 1 else 0)/\G1.le G'/\Sxs k S'/\Inv S'/\(ch=Y6->rnd S'=S'/\y=aux S')/\
  St G' F' (pt b (Y4 #[Za ch] 4)::mS bT G' m S'::As G' y),mu k keys S+1,⟨b4,G1,S,x,Y8,rfl,rfl,am _,hS,hI,λhc=>(by cases hc),h⟩,?_⟩
 rintro q p F4 ⟨b,G2,S2,y,ch,rfl,rfl,l2,hS2,hI2,hc2,h⟩;unfold Ft;refine ⟨_,rfl,ch,h.ld0 rfl,λht=> ?_,λhf=> ?_⟩
 ·subst ht;refine h.set0 (w':= #[Za Y6]) (Zn rfl) rfl λF5 h=>⟨kr,fst,cap,rfl,Rn.cb,?_⟩;obtain ⟨s1,s2,s3,s4⟩:=Rn.sx S2 hS2 hI2;refine (Rn.run G2 F5 S2 y b2 b (aa l1 l2) hS2 hI2 (ld (l2 _ _ q2) rfl) h.swap).mono ?_;rintro _ F6 ⟨G3,ch',rfl,l3,hch,h⟩;refine ⟨rfl,ch',h.ld1 rfl,?_⟩;have h:=h.swap;refine h.new λb5 F7 h=> ?_;refine h.set0 (w':= #[Za ch']) (Zn rfl) rfl λF8 h=> ?_;refine ⟨mu k keys (rnd S2)+(if ch'=Y8 then 1 else 0),?_,b5,G3,rnd S2,aux S2,ch',rfl,rfl,aa l2 l3,s1,s2,λhf=> ?_,h.swap.tail.swap.swap⟩
  ·obtain ⟨m1,m2⟩:=xv hS2 s1 s3 keys;rw [Χ rfl];by_cases hc:ch'=Y8
   ·rw [Χ hc];have hne:=hch.1 hc;obtain ⟨n,hn⟩:∃n,rnd S2 n≠S2 n:=Classical.not_forall.1 λha=>hne (funext ha);have:=m2 n (s4 n hn) (Ne.symm hn);omega
   ·rw [Υ hc];omega
  ·have e:rnd S2=S2:=Classical.not_not.1 λhne=>by rw [hch.2 hne] at hf;cases hf
   exact ⟨by rw [e,e],by rw [e]⟩
 ·subst hf;obtain ⟨e1,e2⟩:=hc2 rfl;exact ⟨G2,S2,rfl,aa l1 l2,hS2,hI2,e1,by rw [<- e2];exact h.tail⟩
end
abbrev uQ (b2 b4:Nat):Value:=.func (.func 125) #[] #[Ze (Y3 ⟨b2,0,Y5⟩),Ze (Y3 ⟨b4,0,Y5⟩)]
def dv (n:Nat):Φ:=(List.range n).map λi:Nat=>(i:Int)
theorem sZ {n i:Nat} (h:i<n):(dv n)[i]? =Y3 (i:Int):=by unfold dv;rw [Xj,XF h];rfl
theorem IU (n:Nat):(dv n).length=n:=by unfold dv;rw [Xd,XI]
theorem tG {a:Tr} (ha:a.ok):ap2 aY a (Y0 Y6)=Y0 Y6:=eQ (bq (b:=Y0 Y6) ha trivial).1 trivial λc=>by rw [(bq (b:=Y0 Y6) ha trivial).2];exact Bool.and_false _
section
variable {k:Nat} {N:Int->Tr} {ts:Φ} {b:Int}
theorem oL (a:Int):∀(ts:Φ) {S:Int×Int->Tr},Sxs k S->eK (Y0 Y6) a b ts S=S
 |[],S,_=>rfl
 |t::ts,S,hS=>by unfold eK;rw [gJ (hS _).1,dy hS];exact oL a ts hS
theorem s8 (hN:Sxs k N):∀(r:List Sy) {S:Int×Int->Tr},Sxs k S->fO N ts b (Y0 Y6) r S=S
 |[],S,_=>rfl
 |s::r,S,hS=>by
  unfold fO;split
  ·exact dy hS _
  ·rw [oL s.i ts hS,gJ (hN _).1];exact s8 hN r hS
end
section
variable {G F Gd Gn:PH} {g:Gr} {k m mn md:Nat} {N D:Int->Tr}
structure FsE (G:PH) (g:Gr) (mn md m ban bg b3 b5 b6 b4 b2:Nat):Prop where
 qg:∃v,G bg=Y3 (Y4 v 37)/\GV G v g
 q3:G b3=Y3 (Y4 #[Ze (Y3 ⟨ban,0,Y5⟩)] 93)
 q5:G b5=Y3 (Y4 #[.map (Y3 md)] 95)
 q6:G b6=Y3 (Y4 #[.map (Y3 m)] 113)
 q4:G b4=Y3 (Y4 #[.map (Y3 mn)] 95)
 q2:G.cell ⟨b2,0,Y5⟩=Y3 (.map (Y3 m))
 an:AnV G ban g
theorem FsE.le {G G':PH} {ban bg b3 b5 b6 b4 b2:Nat} (h:FsE G g mn md m ban bg b3 b5 b6 b4 b2) (l:G.le G'):FsE G' g mn md m ban bg b3 b5 b6 b4 b2:=
 ⟨by obtain ⟨v,h1,h2⟩:=h.qg;exact ⟨v,l _ _ h1,h2.le l⟩,l _ _ h.q3,l _ _ h.q5,l _ _ h.q6,l _ _ h.q4,aI l h.q2,h.an.le l⟩
theorem Lf {ban bg b3 b5 b6 b4 b2 bf:Nat} (hk:OkK g k) (hN:Sxs k N) (hD:Sxs k D) (lN:Gn.le G) (lD:Gd.le G) (hl:∀x∈g.YV,x.right.length<=1000000) (hp:g.YV.length<=1000000) (ht:g.YX.length<=1000000)
  (E:FsE G g mn md m ban bg b3 b5 b6 b4 b2) {S:Int×Int->Tr} (hS:Sxs k S) (h:St G F [mS bT G m S,pt bf (Y4 #[Za Y6] 4),mS aH Gn mn N,mS aH Gd md D]):
  ν 74 #[uQ b2 bf,Ze (Y3 ⟨bg,0,Y5⟩),Ze (Y3 ⟨b3,0,Y5⟩),Ze (Y3 ⟨b5,0,Y5⟩),Ze (Y3 ⟨b6,0,Y5⟩),Ze (Y3 ⟨b4,0,Y5⟩)] F
   (nR bT G m bf S (iq (aD g) N D (dv g.YX.length) 0 g.YV S) λ_=>[mS aH Gn mn N,mS aH Gd md D]):=by
 obtain ⟨vg,qg,c,n,t,s,p,lv,f,rfl,hs⟩:=E.qg;obtain ⟨c',n',t',s',p',lv',f',q,qa,hs',hq⟩:=E.an.ex;have ep:=hs.p.len;have et:=hs.t.len;have eq:=hq.len;rw [jo] at eq;refine VA ?_;unfold Qt;refine ⟨_,rfl,_,by rw [aE];exact ld (h.le _ _ qg) rfl,?_⟩
 refine bh (zq · (uQ b2 bf) (Zc bg 0 Y5) _ _ _ _ p _) g.YV.length (λi F'=>∃(G':PH) (S':Int×Int->Tr) (ch:Bool),G.le G'/\Sxs k S'/\Lt' S S'/\iq (aD g) N D (dv g.YX.length) 0 g.YV S=iq (aD g) N D (dv g.YX.length) i (g.YV.drop i) S'/\
  (ch=Y8↔S'≠S)/\∃Bs,St G' F' ([mS bT G' m S',pt bf (Y4 #[Za ch] 4),mS aH Gn mn N,mS aH Gd md D]++Bs)) ⟨G,S,Y6,am _,hS,Lt'.refl S,by rw [XK],by simp,[],h⟩ ?_
 rintro i F1 N1 hi ⟨G1,S1,ch,l1,hS1,hle,hrd,hch,Bs,h⟩ next;replace h:St G1 F1 [mS bT G1 m S1,pt bf (Y4 #[Za ch] 4),mS aH Gn mn N,mS aH Gd md D]:=h.pick id (λ_ _ _ _ e=>e) λi hi=>by rw [id,Xh hi]
 have E1:=E.le l1;unfold zq;refine ⟨λhlt=> ?_,λhge=> ?_⟩
 ·have hlt:i<g.YV.length:=by omega
  have hs1:=hs.le l1;refine h.ix hs1.p (by decide) (by omega) (by omega) λa c6 x hx hrow hc6=>⟨c6,Mem.len hc6,hrow,?_⟩;rw [N4] at hx;have hxm:=W7 hx;have hlx:=hl x hxm;have edrop:g.YV.drop i=x::g.YV.drop (i+1):=bP hx;obtain ⟨hd0,_⟩:=bz hD x.right (hk.prs i);refine h.var (Mem.st hc6) (λb8 G2 F2 l2 q8 h=> ?_) rfl (Mem.len hc6);obtain ⟨r,n8,l8,rfl,hr,hn8,_⟩:=hc6;have l12:=aa l1 l2;have E2:=E1.le l2;have qa2:=l12 _ _ qa;have er:=(hr.le l2).len;have at9:∀{G' F':PH} {As:List (Ψ)},G2.le G'->St G' F' As->F'.cell (Zb (Zc ban 0 Y5) 9)=Y3 (Y7 q):=λl h=>by rw [aE];exact ld (h.le _ _ (l _ _ qa2)) rfl
  have a3:∀{G' F':PH} {As:List (Ψ)},G2.le G'->St G' F' As->F'.cell (Zc b3 0 Y5)=Y3 (Ze (Y3 ⟨ban,0,Y5⟩)):=λl h=>ld (h.le _ _ (E2.le l).q3) rfl;refine ⟨_,rfl,_,a3 (am _) h,_,rfl,_,at9 (am _) h,?_⟩;refine ixc (hq.le l12) (by decide) (by omega) (by omega) λa9 c9 dd hdd hrow9 hc9=>⟨c9,Mem.len hc9,aU h.le hrow9,?_⟩;rw [N4] at hdd;have hdd:dd=dia (aD g i):=by unfold oO at hdd;rw [Xj,XF hlt] at hdd;exact (Xy hdd).symm
  have hc9:DV G2 c9 (dia (aD g i)):=by rw [<- hdd];exact hc9
  refine ⟨_,ld (h.le _ _ q8) rfl,_,rfl,_,ld (h.le _ _ E2.q5) rfl,?_⟩;have fin1:∀{G' F':PH} {S2:Int×Int->Tr} {ch2:Bool} {Bs:List (Ψ)},G2.le G'->Sxs k S2->Lt' S1 S2->fO N (dv g.YX.length) x.left (dG D (aD g i) x.right) x.right S1=S2->(ch2=Y8↔ch=Y8\/S2≠S1)->
    St G' F' ([mS bT G' m S2,pt bf (Y4 #[Za ch2] 4),mS aH Gn mn N,mS aH Gd md D]++Bs)->
    qF N1 (uQ b2 bf) (Zc bg 0 Y5) (Y3 (Zc b3 0 Y5)) (Y3 (Zc b5 0 Y5)) (Y3 (Zc b6 0 Y5)) (Y3 (Zc b4 0 Y5)) p (i:Int)
     (nR bT G m bf S (iq (aD g) N D (dv g.YX.length) 0 g.YV S) λ_=>[mS aH Gn mn N,mS aH Gd md D]) F':=λ{G' F' S2 ch2 Bs} l hS2 hle2 he hch2 h=>by
   unfold qF;rw [aA hlt];refine next _ hlt ⟨G',S2,ch2,aa l12 l,hS2,hle.trans hle2,?_,?_,Bs,h⟩
   ·rw [hrd,edrop];show iq _ _ _ _ (i+1) _ (fO N (dv g.YX.length) x.left (dG D (aD g i) x.right) x.right S1)=_;rw [he]
   ·rw [hch2,hch,iX hS hS1 hS2 hle hle2]
  have fin:∀{G' F':PH} {y:Γ} {b9:Nat},G2.le G'->DV G' y (dia (dG D (aD g i) x.right))->St G' F' [mS bT G1 m S1,pt bf (Y4 #[Za ch] 4),mS aH Gn mn N,mS aH Gd md D,pt b9 (Y4 y 31)]->
    vk N1 (uQ b2 bf) (Zc bg 0 Y5) (Y3 (Zc b3 0 Y5)) (Y3 (Zc b5 0 Y5)) (Y3 (Zc b6 0 Y5)) (Y3 (Zc b4 0 Y5)) b8 p (i:Int) (Y3 (Zc b9 0 Y5))
     (nR bT G m bf S (iq (aD g) N D (dv g.YX.length) 0 g.YV S) λ_=>[mS aH Gn mn N,mS aH Gd md D]) F':=λ{G' F' y b9} l hy h=>by
   unfold vk;refine ⟨_,ld (h.le _ _ (l _ _ q8)) rfl,?_⟩;refine bh (zp N1 · (uQ b2 bf) (Zc bg 0 Y5) (Y3 (Zc b3 0 Y5)) (Y3 (Zc b5 0 Y5)) (Y3 (Zc b6 0 Y5)) (Y3 (Zc b4 0 Y5)) b8 (Y3 (Zc b9 0 Y5)) p (i:Int) r _) x.right.length
    (λj F'=>∃(G':PH) (S2:Int×Int->Tr) (ch2:Bool) (d:Tr) (y:Γ),G2.le G'/\Sxs k S2/\Lt' S1 S2/\Sx k d/\DV G' y (dia d)/\fO N (dv g.YX.length) x.left (dG D (aD g i) x.right) x.right S1=fO N (dv g.YX.length) x.left d (x.right.drop j) S2/\
     (ch2=Y8↔ch=Y8\/S2≠S1)/\St G' F' [mS bT G' m S2,pt bf (Y4 #[Za ch2] 4),mS aH Gn mn N,mS aH Gd md D,pt b9 (Y4 y 31)])
    ⟨G',S1,ch,_,y,l,hS1,Lt'.refl _,hd0,hy,by rw [XK],by simp,h.imp 0 rfl λ_ _ hH=>hH.le (aa l2 l)⟩ ?_
   rintro j F3 N2 hj ⟨G3,S2,ch2,d,y,l3,hS2,hle2,hd,hy,hfi,hch2,h⟩ next2;unfold zp;refine ⟨λhjl=> ?_,λhjg=> ?_⟩
   ·have hjl:j<x.right.length:=by omega
    refine ixc (hr.le (aa l2 l3)) (by decide) (by omega) (by omega) λa8 c8 sy hsy hrow8 hc8=>⟨c8,Mem.len hc8,aU h.le hrow8,?_⟩;rw [N4] at hsy;obtain rfl:c8=sy.arr:=hc8;have edr:x.right.drop j=sy::x.right.drop (j+1):=bP hsy;rw [edr] at hfi;refine h.var (by simp [ak]) (λb11 G4 F4 l4 q11 h=>⟨_,rfl,?_⟩) rfl rfl;have l34:=aa l3 l4;have hy4:=hy.le l4;obtain ⟨sd,ey,hsd⟩:=id hy;refine ⟨_,by rw [aE];exact ld (h.ptAt (i:=4) rfl) (by rw [ey];rfl),λh0=> ?_,λh0=> ?_⟩
    ·have e:=(fq hd.1).1 h0;refine fin1 (Bs:=[pt b9 (Y4 y 31)]) l34 hS2 hle2 ?_ hch2 (h.imp 0 rfl λ_ _ hH=>hH.le l4);rw [hfi,e];exact s8 hN _ hS2
    ·refine ⟨_,ld (h.le _ _ q11) rfl,λhyt=> ?_,λhyt=> ?_⟩
     ·have hyt:sy.t=Y8:=hyt;refine ⟨_,ld (h.le _ _ (l34 _ _ q8)) rfl,_,ld (h.le _ _ q11) rfl,y,hy.size,ac (h.ptAt (i:=4) rfl),_,_,_,rfl,IT,?_⟩;refine (uP h l4 hk.le hS2 hd hy4 (E2.le l34).q2 (x.left,sy.i)).mono ?_;rintro _ F5 ⟨G5,ch3,rfl,hch3,l5,h⟩;refine ⟨rfl,?_⟩;refine fin1 (Bs:=[pt b9 (Y4 y 31)]) (aa l34 l5) (cO hS2 hd) (hle2.trans (d6 hS2 hd)) ?_ ?_ h
      ·rw [hfi];unfold fO;rw [Χ hyt]
      ·rw [hch3,hch2,or_assoc,iX hS1 hS2 (cO hS2 hd) hle2 (d6 hS2 hd)]
     ·have hyt:sy.t=Y6:=hyt;refine ⟨_,by rw [aE];exact ld (h.le _ _ (l34 _ _ (l12 _ _ qg))) rfl,?_⟩;have hfi2:fO N (dv g.YX.length) x.left d (sy::x.right.drop (j+1)) S2=fO N (dv g.YX.length) x.left (ap2 aY d (N sy.i)) (x.right.drop (j+1)) (eK d sy.i x.left (dv g.YX.length) S2):=by rw [fO,Υ (by rw [hyt];decide)]
      rw [hfi2] at hfi;refine bh (zo N1 N2 · (uQ b2 bf) (Zc bg 0 Y5) (Y3 (Zc b3 0 Y5)) (Y3 (Zc b5 0 Y5)) (Y3 (Zc b6 0 Y5)) (Y3 (Zc b4 0 Y5)) b8 (Zc b9 0 Y5) b11 p (i:Int) r (j:Int) t _) g.YX.length
       (λq F'=>∃(G':PH) (S3:Int×Int->Tr) (ch3:Bool),G4.le G'/\Sxs k S3/\Lt' S2 S3/\eK d sy.i x.left (dv g.YX.length) S2=eK d sy.i x.left ((dv g.YX.length).drop q) S3/\(ch3=Y8↔ch2=Y8\/S3≠S2)/\
        ∃Bs,St G' F' ([mS bT G' m S3,pt bf (Y4 #[Za ch3] 4),mS aH Gn mn N,mS aH Gd md D,pt b9 (Y4 y 31)]++Bs))
       ⟨G4,S2,ch2,am _,hS2,Lt'.refl _,by rw [XK],by simp,[],h.imp 0 rfl λ_ _ hH=>hH.le l4⟩ ?_
      rintro q F5 N3 hq3 ⟨G5,S3,ch3,l5,hS3,hle3,hcp,hch3,Bs,h⟩ next3;replace h:St G5 F5 [mS bT G5 m S3,pt bf (Y4 #[Za ch3] 4),mS aH Gn mn N,mS aH Gd md D,pt b9 (Y4 y 31)]:=h.pick id (λ_ _ _ _ e=>e) λi hi=>by rw [id,Xh hi]
      have l35:=aa l34 l5;have q115:=l5 _ _ q11;unfold zo;refine ⟨λhql=> ?_,λhqg=> ?_⟩
      ·have hql:q<g.YX.length:=by omega
       have edq:(dv g.YX.length).drop q=(q:Int)::(dv g.YX.length).drop (q+1):=bP (sZ hql);have hcx:Sx k (ap2 aY d (S3 (sy.i,(q:Int)))):=hd.ap2 (o:=aY) (hS3 _);have hcq:eK d sy.i x.left ((dv g.YX.length).drop q) S3=eK d sy.i x.left ((dv g.YX.length).drop (q+1)) (bo S3 (x.left,(q:Int)) (ap2 aY d (S3 (sy.i,(q:Int))))):=by rw [edq];rfl
       rw [hcq] at hcp;refine ⟨_,rfl,_,ld (h.le _ _ (E2.le l35).q6) rfl,_,ld (h.le _ _ q115) rfl,?_⟩;refine (qG h (am _) (sy.i,(q:Int))).mono ?_;rintro _ F6 ⟨G6,u,rfl,hu,l6,h⟩;refine ⟨u,rfl,?_⟩;refine h.var hu.st (λb13 G7 F7 l7 q13 h=> ?_) rfl hu.size;obtain ⟨su,eu,hsu⟩:=id hu;have l57:=aa l6 l7;have l37:=aa l35 l57;refine ⟨_,ld (h.le _ _ q13) (by rw [eu];rfl),λh0=> ?_,λh0=> ?_⟩
       ·refine ⟨_,ld (h.le _ _ (l37 _ _ q8)) rfl,y,hy.size,ac (h.ptAt (i:=4) rfl),u,hu.size,ac (h.le _ _ q13),?_⟩;refine h.run (P:=λr' G'=>∃y,r'=Zh #[Y9 y,vi 0]/\DV G' y (dia (ap2 aY d (S3 (sy.i,(q:Int)))))) ((iw hk.le hd (hS3 _) (hy.le (aa l4 (aa l5 l57))) (hu.le l7)).mono λr F' ⟨x,a,b,c⟩=>⟨⟨x,a,b⟩,c⟩) λ_ G8 F8 hr8 l8 h=> ?_;obtain ⟨z,rfl,hz⟩:=hr8;refine ⟨_,_,rfl,ld (h.le _ _ (l8 _ _ (l37 _ _ q8))) rfl,?_⟩;refine h.runv (bx hz) λG9 F9 l9 h=>⟨_,rfl,ld (h.le _ _ (l9 _ _ (l8 _ _ (l37 _ _ q8)))) rfl,_,_,_,rfl,IT,?_⟩;have l59:=aa l57 (aa l8 l9);refine (uP h l59 hk.le hS3 hcx (hz.le l9) (E2.le (aa l35 l59)).q2 (x.left,(q:Int))).mono ?_;rintro _ F10 ⟨G10,ch4,rfl,hch4,l10,h⟩;refine ⟨rfl,ld (h.le _ _ (l10 _ _ (l9 _ _ (l8 _ _ (l37 _ _ q8))))) rfl,?_⟩;unfold vj;rw [aA hql];refine next3 _ hql ⟨G10,_,ch4,aa l5 (aa l59 l10),cO hS3 hcx,hle3.trans (d6 hS3 hcx),hcp,?_,[],h⟩;rw [hch4,hch3,or_assoc,iX hS2 hS3 (cO hS3 hcx) hle3 (d6 hS3 hcx)]
       ·have e:S3 (sy.i,(q:Int))=Y0 Y6:=(fq (hS3 _).1).1 (by simpa using h0);rw [e,tG hd.1,dy hS3] at hcp;unfold vj;rw [aA hql];exact next3 _ hql ⟨G7,S3,ch3,aa l5 l57,hS3,hle3,hcp,hch3,[],h.imp 0 rfl λ_ _ hH=>hH.le l57⟩
      ·have hq:q=g.YX.length:=by omega
       subst hq;rw [List.drop_of_length_le (by rw [IU];exact W8 _)] at hcp;have hcp:eK d sy.i x.left (dv g.YX.length) S2=S3:=hcp;unfold Fv;refine ⟨y,hy.size,ac (h.ptAt (i:=4) rfl),_,rfl,_,ld (h.le _ _ (E2.le l35).q4) rfl,_,ld (h.le _ _ q115) rfl,?_⟩;refine (fo h.front2 (aa lN (aa l12 l35)) sy.i).mono ?_;rintro _ F6 ⟨G6,u,rfl,hu,l6,h⟩;have h:=h.back2;refine ⟨u,rfl,ac (h.ptAt (i:=4) rfl),?_⟩;refine h.run (P:=λr' G'=>∃y,r'=Zh #[Y9 y,vi 0]/\DV G' y (dia (ap2 aY d (N sy.i)))) ((iw hk.le hd (hN _) (hy.le (aa l4 (aa l5 l6))) hu).mono λr F' ⟨x,a,b,c⟩=>⟨⟨x,a,b⟩,c⟩) λ_ G7 F7 hr7 l7 h=> ?_;obtain ⟨z,rfl,hz⟩:=hr7;refine ⟨_,_,rfl,?_⟩;refine h.runv (bx hz) λG8 F8 l8 h=>⟨_,rfl,?_⟩;refine h.put4 (w':=z) hz.size hy.size hz.st λF9 h=> ?_;unfold Fu;rw [aA hjl];have l58:=aa l6 (aa l7 l8);refine next2 _ hjl ⟨G8,S3,ch3,_,z,aa l35 l58,hS3,hle2.trans hle3,hd.ap2 (o:=aY) (hN sy.i),hz.le l8,?_,?_,h.imp 0 rfl λ_ _ hH=>hH.le l58⟩
       ·rw [hfi,hcp]
       ·rw [hch3,hch2,or_assoc,iX hS1 hS2 hS3 hle2 hle3]
   ·have hj:j=x.right.length:=by omega
    subst hj;rw [XQ] at hfi;exact fin1 (Bs:=[pt b9 (Y4 y 31)]) l3 hS2 hle2 hfi hch2 h
  refine ⟨?_,?_⟩
  ·refine (gR h.front3 (aa lD l12) hk.le hD (hk.prs i) hc9 (hr.le l2) hlx).mono ?_;rintro _ F3 ⟨G3,u,rfl,hu,l3,h⟩;have h:=h.back3;refine ⟨u,rfl,at9 l3 h,a3 l3 h,?_⟩;refine h.new λb9 F4 h=> ?_;exact h.put0 (w':=u) hu.size rfl hu.st λF5 h=>fin l3 hu h.rot
  ·refine h.new λb9 F3 h=> ?_;refine (gR h.front4 (aa lD l12) hk.le hD (hk.prs i) hc9 (hr.le l2) hlx).mono ?_;rintro _ F4 ⟨G3,u,rfl,hu,l3,h⟩;have h:=h.back4;refine ⟨u,rfl,at9 l3 h,a3 l3 h,?_⟩;exact h.put0 (w':=u) hu.size rfl hu.st λF5 h=>fin l3 hu h.rot
 ·have e:i=g.YV.length:=by omega
  subst e;rw [XQ] at hrd;have hrd:iq (aD g) N D (dv g.YX.length) 0 g.YV S=S1:=hrd;rw [hrd];exact ⟨G1,ch,rfl,l1,hch,h⟩
end
theorem Lh:aC prog 74=Y8:=by kernel_rfl
theorem PO:aC prog 72=Y8:=by kernel_rfl
instance:Mem (List Dia) where
 n:=1
 rep F x c:=∃s:Sl,c= #[s.v]/\RL F s x
 len h:=by obtain ⟨s,rfl,_⟩:=h;rfl
 le hl h:=by obtain ⟨s,h1,h2⟩:=h;exact ⟨s,h1,h2.le hl⟩
 st h:=by obtain ⟨s,rfl,_⟩:=h;simp [ak,Y7]
theorem NT:∃b z,SlT 46 39 1 b z:=⟨_,_,underlying46,WC,WE,rfl,by decide,by decide⟩
def PP (A:List (List Dia)->Prop) (b:Nat) (G:PH):List (Ψ):=[λH=>∃sl ds,A ds/\RL G sl ds/\H b=Y3 (Y4 #[Y7 sl] 46)]
theorem EH {A:List (List Dia)->Prop} {b:Nat} {G F:PH} (h:St G F (PP A b G)):∃sl ds,A ds/\RL G sl ds/\St G F [pt b (Y4 #[Y7 sl] 46)]:=by obtain ⟨sl,h⟩:=h.exI 0 rfl;obtain ⟨ds,h⟩:=h.exI 0 rfl;obtain ⟨e1,h⟩:=h.prI 0 rfl;obtain ⟨e2,h⟩:=h.prI 0 rfl;exact ⟨sl,ds,e1,e2,h⟩
def nS (S:Int×Int->Tr) (nt:Nat) (n:Nat):List Dia:=(List.range nt).map λt:Nat=>dia (S ((n:Int),(t:Int)))
def io (S:Int×Int->Tr) (nt nn:Nat):List (List Dia):=(List.range nn).map (nS S nt)
theorem s9 (S:Int×Int->Tr) (nt n:Nat):io S nt (n+1)=io S nt n++[nS S nt n]:=by unfold io;rw [Yw,Xt];rfl
theorem uR (S:Int×Int->Tr) (nt n:Nat):(io S nt n).length=n:=by unfold io;rw [Xd,XI]
def IV (k:Nat) (g:Gr) (ds:List (List Dia)):Prop:=∃S,od k g.YV (aD g) S/\ds=io S g.YX.length g.YW.length
section
variable {G F Gd Gn:PH} {g:Gr} {k m mn md:Nat} {N D:Int->Tr}
theorem Ds {κ:Type} [DecidableEq κ] {S:κ->Tr} {n i:κ} {d:Tr} (h:bo S n d i≠S i):i=n:=by
 unfold bo dx at h;by_cases e:i=n
 ·exact e
 ·rw [Υ e] at h;exact absurd rfl h
theorem uS {d:Tr} {a b:Int} {n:Int×Int}:∀{ts:Φ} {S:Int×Int->Tr},eK d a b ts S n≠S n->n.1=b/\n.2∈ts
 |[],S,h=>absurd rfl h
 |t::ts,S,h=>by
  unfold eK at h;by_cases e:bo S (b,t) (ap2 aY d (S (a,t))) n=S n
  ·rw [<- e] at h;exact (uS h).imp id (Xo _)
  ·have:=Ds e;exact ⟨by rw [this],by rw [this];simp⟩
theorem yP {ts:Φ} {b:Int} {n:Int×Int}:∀{r:List Sy} {d:Tr} {S:Int×Int->Tr},fO N ts b d r S n≠S n->n.1=b/\(n.2∈ts\/∃s∈r,s.i=n.2)
 |[],d,S,h=>absurd rfl h
 |s::r,d,S,h=>by
  unfold fO at h;by_cases hs:s.t=Y8
  ·rw [Χ hs] at h;have:=Ds h;exact ⟨by rw [this],.inr ⟨s,by simp,by rw [this]⟩⟩
  ·rw [Υ hs] at h;by_cases e:eK d s.i b ts S n=S n
   ·rw [<- e] at h;obtain ⟨h1,h2⟩:=yP h;exact ⟨h1,h2.imp id λ⟨y,hy,e⟩=>⟨y,Xo _ hy,e⟩⟩
   ·obtain ⟨h1,h2⟩:=uS e;exact ⟨h1,.inl h2⟩
def IW (l:List Pr) (ts:Φ):List (Int×Int):=l.flatMap λx=>(ts++x.right.map (·.i)).map λt=>(x.left,t)
theorem yQ {P:Nat->Tr} {ts:Φ} {n:Int×Int}:∀{l:List Pr} {i:Nat} {S:Int×Int->Tr},iq P N D ts i l S n≠S n->n∈IW l ts
 |[],i,S,h=>absurd rfl h
 |x::l,i,S,h=>by
  unfold IW;rw [XS,W9];by_cases e:fO N ts x.left (dG D (P i) x.right) x.right S n=S n
  ·unfold iq at h;rw [<- e] at h;exact .inr (yQ h)
  ·obtain ⟨h1,h2⟩:=yP e;refine .inl (Xi.2 ⟨n.2,?_,by rw [<- h1]⟩);rw [W9,Xi];exact h2
theorem Lj {ban bg b3 b5 b6 b4:Nat} (hk:OkK g k) (hN:bX k g.YV (aD g) Y8 N) (hD:bX k g.YV (aD g) Y6 D) (lN:Gn.le G) (lD:Gd.le G) (hl:∀x∈g.YV,x.right.length<=1000000) (hp:g.YV.length<=1000000) (ht:g.YX.length<=1000000)
  (E:∀G' b2,G.le G'->G'.cell ⟨b2,0,Y5⟩=Y3 (.map (Y3 m))->FsE G' g mn md m ban bg b3 b5 b6 b4 b2):
  U7 G k m 74 #[] #[Ze (Y3 ⟨bg,0,Y5⟩),Ze (Y3 ⟨b3,0,Y5⟩),Ze (Y3 ⟨b5,0,Y5⟩),Ze (Y3 ⟨b6,0,Y5⟩),Ze (Y3 ⟨b4,0,Y5⟩)]
   (IW g.YV (dv g.YX.length)) (λS=>∀n c,(S n).ev c=Y8->Fst g.YV (aD g) c n.1 n.2) (iq (aD g) N D (dv g.YX.length) 0 g.YV) (λ_=>()) (λ_ _=>[mS aH Gn mn N,mS aH Gd md D]) where
 cb:=Lh
 sx S hS hI:=by obtain ⟨a1,a2⟩:=kJ hk.prs hN.sx hD.sx (dv g.YX.length) g.YV 0 hS;exact ⟨a1,xz hk.prs hN hD (dv g.YX.length) g.YV 0 (λj x hj=>by rw [Xm];exact hj) hS hI,a2,λn hn=>yQ hn⟩
 run G' F' S x b2 b4 l hS hI hc h:=by
  have e:∀(a:ξ) (v:Γ),(#[]++ #[a]++v:Γ)= #[a]++v:=λa v=>by simp
  rw [e];exact Lf hk hN.sx hD.sx (aa lN l) (aa lD l) hl hp ht (E G' b2 l hc) hS h
theorem yR {v:Γ} {ban b1 b2:Nat} (hk:OkK g k) (hl:∀x∈g.YV,x.right.length<=1000000) (hp:g.YV.length<=1000000) (ht:g.YX.length<=1000000) (hs:g.YW.length<=1000000) (hAn:AnV G ban g) (q1:G b1=Y3 (Y4 v 37)) (hg:GV G v g)
  (h:St G F [pt b2 (Y4 #[Y7 Zi] 46)]):ν 72 #[Ze (Y3 ⟨ban,0,Y5⟩),Ze (Y3 ⟨b1,0,Y5⟩),Ze (Y3 ⟨b2,0,Y5⟩)] F λr F'=>∃G',r=Zh #[]/\G.le G'/\St G' F' (PP (IV k g) b2 G'):=by
 obtain ⟨_,_,T⟩:=NT;have hg0:=hg;obtain ⟨c,n,t,s,p,lv,f,rfl,hgs⟩:=hg;have es:=hgs.s.len;have et:=hgs.t.len;refine Vy ?_;unfold Qq;refine h.newG λb3 G1 F1 l1 q3 _ h=>⟨_,ld (h.le _ _ q3) rfl,?_⟩;refine (cX hk hl hp (hAn.le l1) h).mono ?_;rintro _ F2 ⟨G2,mn,N,rfl,l2,hN,h⟩;refine ⟨_,rfl,?_⟩;refine h.var1 λb4 G3 F3 l3 q4 h=> ?_;have l13:=aa l1 (aa l2 l3);refine ⟨_,ld (h.le _ _ (l3 _ _ (l2 _ _ q3))) rfl,?_⟩;refine (cX hk hl hp (hAn.le l13) h).mono ?_;rintro _ F4 ⟨G4,md,D,rfl,l4,hD,h⟩;refine ⟨_,rfl,?_⟩;refine h.var1 λb5 G5 F5 l5 q5 h=> ?_;refine h.new λm F6 h=> ?_;have h:=h.toMap bT;refine h.var1 λb6 G6 F7 l6 q6 h=> ?_;refine ⟨_,ld (h.le _ _ q6) rfl,?_⟩;have l36:=aa l4 (aa l5 l6);have l16:=aa l13 l36;have h0:St G6 F7 ([mS bT G6 m (λ_=>Y0 Y6),mS aH G2 mn N,mS aH G4 md D]++[pt b2 (Y4 #[Y7 Zi] 46)]):=
  ((h.imp 0 rfl λ_ _ hH=>hH.le l6).front2).swap
 have hrn:=Lj (G:=G6) (Gd:=G4) (Gn:=G2) (m:=m) (mn:=mn) (md:=md) (ban:=ban) (bg:=b1) (b3:=b3) (b5:=b5) (b6:=b6) (b4:=b4) hk hN hD (aa l3 l36) (aa l5 l6) hl hp ht (λG' b2 l hc=>
  ⟨⟨_,(aa l16 l) _ _ q1,hg0.le (aa l16 l)⟩,l _ _ (l36 _ _ (l3 _ _ (l2 _ _ q3))),l _ _ (l6 _ _ q5),l _ _ q6,l _ _ (l36 _ _ q4),hc,hAn.le (aa l16 l)⟩)
 refine (h0.callL (P:=λr _=>r=Zh #[]) (Bs':=λ_ G'=>[λH=>∃S,od k g.YV (aD g) S/\mS bT G' m S H]) λF1 h1=> ?_).mono ?_
 ·have up:∀(G' G'' F':PH) (x:Unit) (S:Int×Int->Tr),G'.le G''->St G'' F' (mS bT G' m S::[mS aH G2 mn N,mS aH G4 md D])->St G'' F' (mS bT G'' m S::[mS aH G2 mn N,mS aH G4 md D]):=λG' G'' F' x S l h=>h.imp 0 rfl λH _ hH=>hH.le l;refine (EG (As:=λ_ _=>[mS aH G2 mn N,mS aH G4 md D]) hrn up (x:=()) (λ_=>Sx.Y0 k Y6) (λn c hc=>(by cases hc)) h1).mono ?_;rintro _ F8 ⟨G8,S,rfl,l8,hS,hI,he,h⟩;have hF:od k g.YV (aD g) S:=E6 (λx hx s hs hst=> ?_) hk.prs hN hD hS hI he
  ·exact ⟨G8,rfl,l8,h.hd.imp (A':=λH=>∃S,od k g.YV (aD g) S/\mS bT G8 m S H) 0 rfl λH _ hH=>⟨S,hF,hH⟩⟩
  ·obtain ⟨h0,_,h2⟩:=(hk.prod hx).2.2.2 s hs;obtain ⟨tk,htk,_⟩:=h2 hst;have hlt:=(N6.1 htk).1;have:=W7 (sZ hlt);rwa [Int.toNat_of_nonneg h0] at this
 rintro _ F9 ⟨G9,rfl,l9,h⟩;obtain ⟨S,h⟩:=h.exI 0 rfl;obtain ⟨hF,h⟩:=h.prI 0 rfl;have l19:=aa l16 l9;have q19:=l19 _ _ q1;have q69:=l9 _ _ q6;refine ⟨rfl,_,rfl,_,by rw [aE];exact ld (h.le _ _ q19) rfl,?_⟩;have h:=h.nilOwn 39 1;have h:St G9 F9 [own Zi 39 1 (cat []),mS bT G9 m S,pt b2 (Y4 #[Y7 Zi] 46)]:=h
 refine bh (zn · (Zc b1 0 Y5) (Y3 (Zc b2 0 Y5)) b6 s _) g.YW.length (λi F'=>∃(G':PH) (sl:Sl) (vs:List Γ),G9.le G'/\cZ G' (io S g.YX.length i) vs/\
  St G' F' [own sl 39 1 (cat vs),mS bT G9 m S,pt b2 (Y4 #[Y7 sl] 46)]) ⟨G9,Zi,[],am _,.nil,h⟩ ?_
 rintro i F10 N1 hi ⟨G10,sl,vs,l10,hv,h⟩ next;unfold zn;have q110:=l10 _ _ q19;refine ⟨λhlt=> ?_,λhge=> ?_⟩
 ·have hlt:i<g.YW.length:=by omega
  refine h.new λb24 F11 h=> ?_;have h:=h.toMap aH;refine ⟨_,by rw [aE];exact ld (h.le _ _ q110) rfl,?_⟩
  refine bh (zl N1 · (Zc b1 0 Y5) (Y3 (Zc b2 0 Y5)) b6 (i:Int) b24 s t _) g.YX.length (λq F'=>∃(G':PH) (U:Int->Tr),G10.le G'/\(∀q':Nat,q'<q->U q'=S ((i:Int),(q':Int)))/\
   St G' F' [mS aH G' b24 U,own sl 39 1 (cat vs),mS bT G9 m S,pt b2 (Y4 #[Y7 sl] 46)]) ⟨G10,_,am _,λq' hq'=>by omega,h⟩ ?_
  rintro q F12 N2 hq ⟨G12,U,l12,hU,h⟩ next2;unfold zl;refine ⟨λhql=> ?_,λhqg=> ?_⟩
  ·have hql:q<g.YX.length:=by omega
   refine ⟨_,ld (h.le _ _ (l12 _ _ (l10 _ _ q69))) rfl,?_⟩;refine (qG h.front2 (aa l10 l12) ((i:Int),(q:Int))).mono ?_;rintro _ F13 ⟨G13,w,rfl,hw,l13',h⟩;have h:=h.back2;refine ⟨w,rfl,?_⟩;obtain ⟨o,mp,m1,m2,m3⟩:=h.mS_at (i:=0) rfl;refine aV xA m1 m2 (q:Int) (Y9 w) λo' ho'=> ?_;have h:=h.mS_set 0 rfl (G1:=G13) (S':=dx U (q:Int) (S ((i:Int),(q:Int)))) ho' ((m3.le l13').put hw);rw [aA hql];refine next2 _ hql ⟨G13,_,aa l12 l13',λq' hq'=> ?_,h⟩;unfold dx;by_cases e:q'=q
   ·rw [e,Χ rfl]
   ·rw [Υ (by omega),hU q' (by omega)]
  ·have hq:q=g.YX.length:=by omega
   subst hq;unfold Fs;have q112:=l12 _ _ q110;refine ⟨_,rfl,_,ld (h.ptAt (i:=3) rfl) rfl,_,by rw [aE];exact ld (h.le _ _ q112) rfl,?_⟩;dsimp only;rw [et];refine (fE h hk.le g.YX.length (λq hq=>by rw [hU q hq];exact hF.sx _) ht).mono ?_;rintro _ F13 ⟨G13,rs,rfl,l13',hrs,h⟩;have q113:=l13' _ _ q112;refine ⟨_,rfl,by rw [aE];exact ld (h.le _ _ q113) rfl,ld (h.ptAt (i:=2) rfl) rfl,?_⟩;have erow:bK U g.YX.length=nS S g.YX.length i:=by unfold bK nS;refine Yx λq hq=> ?_;rw [hU q (XN.1 hq)]
   rw [erow] at hrs;have hlen:sl.len=i:=by have:=RL.len ⟨vs,(hv.le (aa l12 l13')).le h.le,bV.rd (h.ownAt (i:=0) rfl).1⟩ (by decide);rw [uR] at this;exact this
   refine h.push0 T (c:= #[rs.v]) rfl (by simp [ak,Y7]) (by omega) λs' G14 F14 l14 h hl'=> ?_;refine ⟨by rw [aE];exact ld (h.le _ _ (l14 _ _ q113)) rfl,?_⟩;refine h.set2 (w':= #[Y7 s']) (Zn rfl) rfl λF15 h=> ?_;unfold Fq;rw [aA hlt];refine next _ hlt ⟨G14,s',vs++[#[rs.v]],aa l10 (aa l12 (aa l13' l14)),?_,?_⟩
   ·rw [s9];exact (hv.le (aa l12 (aa l13' l14))).append (.cons ⟨rs,rfl,hrs.le l14⟩ .nil)
   ·rw [bY,cJ];exact h
 ·have e:i=g.YW.length:=by omega
  subst e;obtain ⟨G11,l11,hd,h⟩:=h.pinO;refine ⟨G11,rfl,aa l19 (aa l10 l11),?_⟩;exact (h.swap.hd).imp 0 rfl λH _ hH=>⟨sl,_,⟨S,hF,rfl⟩,⟨vs,hv.le l11,hd⟩,hH⟩
theorem uT {v:Γ} (hT:Tab F) (hg:GV F v g) (hz:Sz g) (hk:OkK g k) (hl:∀x∈g.YV,x.right.length<=1000000) (hp:g.YV.length<=1000000) (ht:g.YX.length<=1000000) (hs:g.YW.length<=1000000):
  ν 25 #[Y9 v] F λr F'=>(∃sl ds,r=Zh #[Y7 sl,vi 0]/\IV k g ds/\RL F' sl ds)/\F.le F':=by
 refine Vj ?_;unfold Qb;refine (St.start F).newG λb1 G1 F1 l1 q1 _ h=>h.new λb2 F2 h=>⟨v,hg.size,ac (h.le _ _ q1),?_⟩;refine (eG (kr:=72) (fst:= #[]) (cap:= #[Ze (Y3 ⟨b1,0,Y5⟩),Ze (Y3 ⟨b2,0,Y5⟩)]) (Bs:=PP (IV k g) b2) (hT.le l1) (hg.le l1) hz hk hl hp h PO λG' ban F' l hAn h=> ?_).mono ?_
 ·rw [xB];exact yR hk hl hp ht hs hAn (l _ _ q1) ((hg.le l1).le l) h
 rintro _ F3 ⟨rfl,G3,l3,h⟩;obtain ⟨sl,ds,h1,h2,h⟩:=EH h;refine ⟨_,rfl,sl,h.ld0 rfl,?_⟩;refine h.set0 (w':= #[Y7 sl]) (Zn rfl) rfl λF4 h=>⟨_,h.ld0 rfl,⟨sl,ds,rfl,h1,h2.le h.le⟩,aa l1 (aa l3 h.le)⟩
end
theorem gI {α:Type} [DecidableEq α]:∀{l m:List α},l.Nodup->(∀x∈l,x∈m)->l.length<=m.length
 |[],_,_,_=>Yz _
 |x::l,m,h,hs=>by rw [X1] at h;have hx:=hs x (by simp);have:=gI (m:=m.erase x) h.2 λy hy=>(List.mem_erase_of_ne λe=>h.1 (by rw [<- e];exact hy)).2 (hs y (Xo _ hy));rw [List.length_erase_of_mem hx] at this;have h0:0<m.length:=List.length_pos_of_mem hx;rw [Xl];omega
theorem j9 {K:Type} [DecidableEq K] {k:K} {v:ξ}:∀{L:List (K×ξ)},(L.map (·.1)).Nodup->(lk k L=Y3 v↔(k,v)∈L)
 |[],_=>by simp [lk]
 |p::L,h=>by
  rw [Xw,X1] at h;unfold lk;by_cases e:k=p.1
  ·rw [Χ e];constructor
   ·intro h';cases h';rw [e];exact Ya ..
   ·intro h';rcases W6.1 h' with h'|h'
    ·rw [<- h']
    ·exact absurd (Xi.2 ⟨_,h',e⟩) h.1
  ·rw [Υ e,j9 h.2,W6];exact ⟨.inr,λh'=>h'.resolve_left λh'=>e (by rw [<- h'])⟩
theorem uU {K:Type} [DecidableEq K] (k:K):∀(L:List (K×ξ)) (i:Nat),fnd k L i=Y5->∀p∈L,p.1≠k
 |[],_,_,p,h=>by cases h
 |q::L,i,h,p,hp=>by
  unfold fnd at h;split at h
  ·cases h
  ·rename_i hn;rcases W6.1 hp with rfl|hp
   ·exact λe=>hn e.symm
   ·exact uU k L _ h p hp
section
variable {K:Type} [DecidableEq K] {enc:K->ξ} {m:K->Option ξ} {F:PH} {r:Nat}
structure ta (enc:K->Value) (m:K->Option Value) (es:Array MapEntry) (c:Nat) (L:List (K×Value)):Prop where
 eq:es.toList.map (λe=>(e.key,e.val))=L.map (λp=>(enc p.1,p.2))
 lk:∀k,m k=lk k L
 st:MapKept.Stamped es c
def yS (enc:K->ξ) (m:K->Option ξ) (o:Obj):Prop:=∃es c L,o=.map es c/\ta enc m es c L
theorem yS.mapO {o:Obj} (h:yS enc m o):eJ enc m o:=by obtain ⟨es,c,L,rfl,h⟩:=h;exact ⟨es,c,L,rfl,h.eq,h.lk⟩
theorem yS.empty (enc:K->ξ):yS enc (λ_=>Y5) (.map #[] 0):=⟨#[],0,[],rfl,rfl,λ_=>rfl,MapKept.stamped_empty 0⟩
theorem ta.len {es:Array MapEntry} {c:Nat} {L:List (K×ξ)} (h:ta enc m es c L):es.size=L.length:=by simpa using congrArg List.length h.eq
theorem ta.nodup {es:Array MapEntry} {c:Nat} {L:List (K×ξ)} (h:ta enc m es c L):(L.map (·.1)).Nodup:=by
 have h3:=h.st.2.2;have e:es.toList.map (·.key)=(L.map (·.1)).map enc:=by have:=congrArg (List.map Prod.fst) h.eq;simpa [List.map_map,Function.comp_def] using this
 rw [e] at h3;exact (List.pairwise_map.1 h3).imp λhne e=>hne (by rw [e])
theorem ta.entry {es:Array MapEntry} {c:Nat} {L:List (K×ξ)} (h:ta enc m es c L) {e:MapEntry} (he:e∈es.toList):∃k,e.key=enc k/\m k=Y3 e.val:=by
 have h1:(e.key,e.val)∈es.toList.map (λe=>(e.key,e.val)):=Xi.2 ⟨e,he,rfl⟩;rw [h.eq] at h1;obtain ⟨p,hp,h2⟩:=Xi.1 h1;injection h2 with h2 h3
 exact ⟨p.1,h2.symm,by rw [h.lk,<- h3];exact (j9 h.nodup).2 hp⟩
theorem ta.of {es:Array MapEntry} {c:Nat} {L:List (K×ξ)} (h:ta enc m es c L) {k:K} {v:ξ} (hk:m k=Y3 v):∃e∈es.toList,e.key=enc k/\e.val=v:=by
 rw [h.lk,j9 h.nodup] at hk;have h1:(enc k,v)∈L.map λp=>(enc p.1,p.2):=Xi.2 ⟨_,hk,rfl⟩;rw [<- h.eq] at h1;obtain ⟨e,he,h2⟩:=Xi.1 h1;injection h2 with h2 h3
 exact ⟨e,he,h2,h3⟩
variable {P:Program} {mt:TypeId} {z:ξ}
theorem EI (hm:gj P mt enc z) (inj:∀a b,enc a=enc b->a=b) {o:Obj} (hr:F r=Y3 o) (ho:yS enc m o) (k:K) (v:ξ) {Q:Unit->Ψ}
  (h:∀o',yS enc (λk'=>if k'=k then Y3 v else m k') o'->Q () (F.set r o')):aF P (Instr.mapUpdate mt (.map (Y3 r)) (enc k) v) F Q:=by
 obtain ⟨kt,e,h1,h2,hk⟩:=hm.ex;have hnc:=ho.mapO.not_cells;obtain ⟨es,c,L,rfl,hL⟩:=ho;have h3:=hL.eq;have hf:=mJ k v L 0;have hn:=mI k v L 0;unfold Instr.mapUpdate;simp only [aB,bZ h1];refine ⟨_,hr,hnc,?_⟩;rw [show (Sem.pure (Obj.map es c):Sem Obj)=pure (Obj.map es c) from rfl];simp only [aJ,aB];refine ij _ _ _ _ (hk.chk F _ k) ?_;refine ij _ _ _ _ (gD hk k _ _ h3) ?_;have hmm:∀k',(if k'=k then Y3 v else m k')=lk k' (upL k v L):=λk'=>by rw [AL,hL.lk]
 cases hfd:fnd k L 0 with
 |none=>
  refine ⟨_,hr,hnc,h _ ⟨_,_,upL k v L,rfl,?_,hmm,MapKept.stamped_push hL.st λx hx=> ?_⟩⟩
  ·rw [(hn hfd).2];simp [h3]
  ·obtain ⟨k',e1,e2⟩:=hL.entry hx;rw [e1];intro e';have:=inj _ _ e';rw [hL.lk,j9 hL.nodup] at e2;exact uU k L 0 hfd _ e2 this
 |some q=>
  obtain ⟨j,w⟩:=q;obtain ⟨d,hj,hd,h5,h6,h7⟩:=hf j w hfd;obtain rfl:j=d:=by omega
  have hlen:=hL.len;have hjk:∀e∈es.toList,es[j]? =Y3 e->enc k=e.key:=λe _ he=>by
   have:=congrArg (λl=>l[j]?) h3;simp only [Xj,h5,XT,Yk,he] at this;injection this with this
   injection this with this _
   exact this.symm
  have hkey:(es[j]?.map (·.key)).getD (enc k)=enc k:=by
   have:=congrArg (λl=>l[j]?) h3;simp only [Xj,h5,XT] at this;have hj2:j<es.size:=by omega
   simp [hj2] at this ⊢;exact this.1
  simp only [aB,hkey,Instr.keyThatStays,hk.same,if_true,aJ];refine ⟨_,hr,hnc,h _ ⟨_,_,upL k v L,rfl,?_,hmm,MapKept.stamped_modify hL.st j _ (λ_ _=>rfl) (λe he1 he2=>hjk e he1 he2)⟩⟩;rw [h7];apply XR;intro i;have h3i:=congrArg (λl=>l[i]?) h3;simp only [Xj] at h3i;simp only [Array.toList_modify,Xj,Yr,Yt];by_cases hi:j=i
  ·subst hi;have hj2:j<es.toList.length:=by simpa [hlen] using hd
   rw [N5 hj2];simp [hd]
  ·simp only [hi,if_false];simpa using h3i
end
section
variable {F:PH} {r:Nat}
theorem nT {n:Nat} (hn:0<n) {F:PH} {Q:Nat->Ψ} (h:∀i,i<n->Q i F):aF prog (choose (.mapNext n)) F Q:=by
 unfold choose;unfold aF;by_cases hf:(Question.mapNext n).forced=Y8
 ·rw [Χ hf];exact h 0 hn
 ·rw [Υ hf];intro t;exact h (t % n) (X8 _ hn)
theorem Bo {es:Array MapEntry} {c b:Nat} {bG:Array Nat} {ty:TypeId} (hr:F r=Y3 (.map es c)) (hst:MapKept.Stamped es c) (hb:F b=Y3 (.mapIter (Y3 r) c bG c)) {Q:ξ->Ψ}
  (h0:(∀e∈es.toList,bG.contains e.born=Y8)->Q (Zh #[Za Y6]) F)
  (h1:∀e∈es.toList,bG.contains e.born=Y6->Q (Zh #[Za Y8,e.key,e.val]) (F.set b (.mapIter (Y3 r) c (bG.push e.born) c))):
  aF prog (Instr.next (Ze (Y3 ⟨b,0,Y5⟩)) Y6 ty) F Q:=by
 unfold Instr.next;simp only [aB];refine ⟨_,hb,λ_ _ _ h=>(by cases h),?_⟩;rw [show (Sem.pure (Obj.mapIter (Y3 r) c bG c):Sem Obj)=pure (Obj.mapIter (Y3 r) c bG c) from rfl];simp only [aJ,aB];refine ⟨_,hr,λ_ _ _ h=>(by cases h),?_⟩;rw [show (Sem.pure (Obj.map es c):Sem Obj)=pure (Obj.map es c) from rfl];simp only [aJ];have hall:(es.all λe=>decide (e.born≥c))=Y6\/es.isEmpty=Y8:=by
  by_cases he:es.isEmpty=Y8
  ·exact .inr he
  ·left;rw [XZ];intro hc;rw [Array.all_eq_true'] at hc;have hne:es.toList≠[]:=λe=>he (by rw [Array.isEmpty_iff];exact Array.toList_eq_nil_iff.1 e);obtain ⟨x,hx⟩:=List.exists_mem_of_ne_nil _ hne;have h2:=hst.1 x hx;have h3:=hc x (Array.mem_def.2 hx);simp at h3;omega
 have hif:(!bG.isEmpty && !es.isEmpty && es.all λe=>decide (e.born≥c))=Y6:=by rcases hall with h|h<;>simp [h]
 rw [hif];simp only [XE,if_false,aB]
 refine nT (by
  rw [Array.size_append];by_cases ho:((es.filter λe=> !bG.contains e.born).filter λx=>decide (x.born<c)).isEmpty=Y8
  ·rw [Χ ho];exact Nat.lt_of_lt_of_le Nat.zero_lt_one (Nat.le_add_right _ _)
  ·rw [Υ ho];have:0<((es.filter λe=> !bG.contains e.born).filter λx=>decide (x.born<c)).size:=by
    rcases Yl ((es.filter λe=> !bG.contains e.born).filter λx=>decide (x.born<c)).size with h|h
    ·exact absurd (by simpa [Array.isEmpty] using h) ho
    ·exact h
   rw [Array.size_map,Array.size_append]
   omega) λi hi=> ?_
 rw [Xu hi];have hmem:=Array.getElem_mem hi;revert hmem;generalize ((if ((es.filter λe=> !bG.contains e.born).filter λx=>decide (x.born<c)).isEmpty=Y8 then #[Y5] else #[])++Array.map Y3 ((es.filter λe=> !bG.contains e.born).filter (λx=>decide (x.born<c))++(es.filter λe=> !bG.contains e.born).filter λx=>decide (x.born≥c)))[i]=y;intro hmem;rw [Array.mem_append] at hmem;cases y with
 |none=>
  simp only [aJ];refine h0 λe he=> ?_;have h3:=hst.1 e he;rcases hmem with hmem|hmem
  ·by_cases ho:((es.filter λe=> !bG.contains e.born).filter λx=>decide (x.born<c)).isEmpty=Y8
   ·cases hs:bG.contains e.born with
    |true=>rfl
    |false=>
     exfalso;have hin:e∈(es.filter λe=> !bG.contains e.born).filter λx=>decide (x.born<c):=by rw [Array.mem_filter,Array.mem_filter];exact ⟨⟨Array.mem_def.2 he,by rw [hs];rfl⟩,by simpa using h3⟩
     rw [Array.isEmpty_iff] at ho;rw [ho] at hin;exact absurd hin (by simp)
   ·rw [Υ ho] at hmem;exact absurd hmem (by simp)
  ·rw [Array.mem_map] at hmem;obtain ⟨_,_,h⟩:=hmem;cases h
 |some e=>
  have hin:e∈es/\bG.contains e.born=Y6:=by
   rcases hmem with hmem|hmem
   ·split at hmem
    ·simp at hmem
    ·simp at hmem
   ·rw [Array.mem_map] at hmem;obtain ⟨e',he',h⟩:=hmem;injection h with h
    subst h;simp only [Array.mem_append,Array.mem_filter] at he';rcases he' with h|h
    ·exact ⟨h.1.1,by simpa using h.1.2⟩
    ·exact ⟨h.1.1,by simpa using h.1.2⟩
  simp only [aB,aJ];refine ⟨_,hb,λ_ _ _ h=>(by cases h),h1 e (Array.mem_def.1 hin.1) hin.2⟩
theorem yT {mt kt e:TypeId} (hm:prog.underlying mt=Y3 (.map kt e)) {es:Array MapEntry} {c:Nat} (hr:F r=Y3 (.map es c)) {Q:ξ->Ψ} (h:∀b,F b=Y5->Q (.pointer (Y3 ⟨b,0,Y5⟩)) (F.set b (.mapIter (Y3 r) c #[] c))):aF prog (Instr.range mt (.map (Y3 r))) F Q:=by unfold Instr.range;simp only [aB,bZ hm];refine ⟨_,hr,λ_ _ _ h=>(by cases h),?_⟩;rw [show (Sem.pure (Obj.map es c):Sem Obj)=pure (Obj.map es c) from rfl];simp only [aJ,aB,newObj,aF];exact h
theorem tc:∀{l:List MapEntry},(l.map (·.born)).Nodup->∀{a b},a∈l->b∈l->a.born=b.born->a=b
 |[],_,_,_,ha,_,_=>by simp at ha
 |x::l,h,a,b,ha,hb,e=>by
  rw [Xw,X1] at h;rcases W6.1 ha with ha|ha<;>rcases W6.1 hb with hb|hb
  ·rw [ha,hb]
  ·exact absurd (Xi.2 ⟨b,hb,by rw [<- e,ha]⟩) h.1
  ·exact absurd (Xi.2 ⟨a,ha,by rw [e,hb]⟩) h.1
  ·exact tc h.2 ha hb e
theorem EJ {F:PH} {es:Array MapEntry} {c r b:Nat} {bG:Array Nat} {e:MapEntry} (hr:F r=Y3 (.map es c)) (hst:MapKept.Stamped es c) (hb:F b=Y3 (.mapIter (Y3 r) c (bG.push e.born) c)) (he:e∈es.toList):
  rdo prog (Instr.entry (Ze (Y3 ⟨b,0,Y5⟩))) F (Zh #[e.key,e.val]):=by
 unfold Instr.entry;simp only [aj];refine ⟨_,⟨_,hb,λ_ _ _ h=>(by cases h),rfl⟩,?_⟩;simp only [Array.back?_push];simp only [aj];refine ⟨_,⟨_,hr,λ_ _ _ h=>(by cases h),rfl⟩,?_⟩;simp only [bne_self_eq_false,XE,if_false];have hf:es.find? (λx=>x.born==e.born)=Y3 e:=by
  cases h:es.find? (λx=>x.born==e.born) with
  |none=>rw [Array.find?_eq_none] at h;exact absurd (show (e.born==e.born)=Y8 by simp) (h e (Array.mem_def.2 he))
  |some y=>have h1:=Array.mem_of_find?_eq_some h;have h2:=Array.find?_some h;rw [tc hst.2.1 (Array.mem_def.1 h1) he (by simpa using h2)]
 rw [hf];rfl
end
section
variable {K:Type} [DecidableEq K] {enc:K->ξ} {m:K->Option ξ} {G F:PH} {As:List (Ψ)} {r b c:Nat} {es:Array MapEntry} {L:List (K×ξ)}
theorem St.newB (h:St G F As) {b:Nat} (hb:F b=Y5) (o:Obj):St G (F.set b o) (pt b o::As):=h.push (H:=PH.set (λ_=>Y5) b o) (al _ _ _) (λx hx=>by
 by_cases e:x=b
 ·rw [e];exact hb
 ·rw [az _ _ e] at hx;exact absurd rfl hx) (λx p hx=>by
 by_cases e:x=b
 ·rw [e,al] at hx ⊢;exact hx
 ·rw [az _ _ e] at hx;cases hx) (ae o hb)
def itG (enc:K->ξ) (r b:Nat) (es:Array MapEntry) (c:Nat) (ks:List K):Ψ:=λH=>∃done:List MapEntry,done.map (·.key)=ks.map enc/\(∀e∈done,e∈es.toList)/\H b=Y3 (.mapIter (Y3 r) c (done.map (·.born)).toArray c)
theorem St.rangeG {mt kt e:TypeId} (hm:prog.underlying mt=Y3 (.map kt e)) (h:St G F As) (enc:K->ξ) (hr:F r=Y3 (.map es c)) {C:Nat->Ψ} (k:∀b F',St G F' (itG enc r b es c []::As)->C b F'):
  aF prog (Instr.range mt (.map (Y3 r))) F λv F=>∃b,v=Ze (Y3 ⟨b,0,Y5⟩)/\C b F:=by
 have _:=(inferInstance:DecidableEq K);refine yT hm hr λb hb=>⟨b,rfl,?_⟩;have:=h.newB hb (.mapIter (Y3 r) c #[] c);exact k b _ (this.imp 0 rfl λH _ hH=>⟨[],rfl,λ_ h=>(by cases h),hH⟩)
theorem St.nextG (hL:ta enc m es c L) (inj:∀a b,enc a=enc b->a=b) {ks:List K} (h:St G F (itG enc r b es c ks::As)) (hn:ks.Nodup) (hs:∀k∈ks,∃v,m k=Y3 v) (hr:F r=Y3 (.map es c)) {ty:TypeId} {Q:ξ->Ψ}
  (fin:(∀k v,m k=Y3 v->k∈ks)->Q (Zh #[Za Y6]) F)
  (step:∀k v F',m k=Y3 v->k ∉ ks->ks.length<es.size->St G F' (itG enc r b es c (ks++[k])::As)->F' r=Y3 (.map es c)->rdo prog (Instr.entry (Ze (Y3 ⟨b,0,Y5⟩))) F' (Zh #[enc k,v])->Q (Zh #[Za Y8,enc k,v]) F'):
  aF prog (Instr.next (Ze (Y3 ⟨b,0,Y5⟩)) Y6 ty) F Q:=by
 obtain ⟨H,⟨done,h1,h2,h3⟩,hd,hle,hset⟩:=h.set (i:=0) (A':=itG enc r b es c ks) rfl;clear hset;have hb:=hle _ _ h3;have hkey:∀e∈es.toList,e∈done↔∃k∈ks,e.key=enc k:=λe he=>by
  constructor
  ·intro hi;have:e.key∈done.map (·.key):=Xi.2 ⟨e,hi,rfl⟩;rw [h1] at this;obtain ⟨k,hk,e'⟩:=Xi.1 this;exact ⟨k,hk,e'.symm⟩
  ·rintro ⟨k,hk,e'⟩;have:enc k∈ks.map enc:=Xi.2 ⟨k,hk,rfl⟩;rw [<- h1] at this;obtain ⟨x,hx,e2⟩:=Xi.1 this;have:x=e:=pO hL.st.2.2 (h2 x hx) he (by rw [e2,e']);rw [<- this];exact hx
 have hseen:∀e∈es.toList,((done.map (·.born)).toArray.contains e.born=Y8↔e∈done):=λe he=>by
  rw [Array.contains_iff_mem,Array.mem_def];constructor
  ·intro hi;obtain ⟨a,ha,e'⟩:=Xi.1 hi;rw [<- tc hL.st.2.1 (h2 a ha) he e'];exact ha
  ·intro hi;exact Xi.2 ⟨e,hi,rfl⟩
 refine Bo hr hL.st hb (λhall=>fin λk v hk=> ?_) λe he hnew=> ?_
 ·obtain ⟨e,he,e1,_⟩:=hL.of hk;obtain ⟨k',hk',e2⟩:=(hkey e he).1 ((hseen e he).1 (hall e he));rw [inj k k' (by rw [<- e1,e2])];exact hk'
 ·obtain ⟨k,e1,e2⟩:=hL.entry he;have hnd:e ∉ done:=λhi=>by rw [(hseen e he).2 hi] at hnew;cases hnew
  have hk:k ∉ ks:=λhi=>hnd ((hkey e he).2 ⟨k,hi,e1⟩);have hne:r≠b:=λe'=>by rw [e',hb] at hr;cases hr
  have hr':(F.set b (.mapIter (Y3 r) c ((done.map (·.born)).toArray.push e.born) c)) r=Y3 (.map es c):=by rw [az _ _ hne];exact hr
  have hlt:ks.length<es.size:=by
   have hsub:∀x∈ks++[k],x∈L.map (·.1):=λx hx=>by
    have:∃v,m x=Y3 v:=by
     rcases W9.1 hx with hx|hx
     ·exact hs x hx
     ·rw [W5.1 hx];exact ⟨_,e2⟩
    obtain ⟨v,hv⟩:=this;rw [hL.lk,j9 hL.nodup] at hv;exact Xi.2 ⟨_,hv,rfl⟩
   have hnn:(ks++[k]).Nodup:=by rw [Xv];exact ⟨hn,by simp,λa ha b' hb' e'=>hk (by rw [W5.1 hb'] at e';rw [<- e'];exact ha)⟩
   have:=gI hnn hsub;rw [Xa,Xk,Xd,<- hL.len] at this;omega
  have hst:St G (F.set b (.mapIter (Y3 r) c ((done.map (·.born)).toArray.push e.born) c)) (itG enc r b es c (ks++[k])::As):=by
   obtain ⟨H2,⟨d2,g1,g2,g3⟩,gd,gle,gset⟩:=h.set (i:=0) (A':=itG enc r b es c (ks++[k])) rfl;have ed:d2.map (·.born)=done.map (·.born):=by
    have:=gle _ _ g3;rw [hb] at this;injection this with this
    injection this with _ _ this _
    simpa using this.symm
   refine gset (H2.set b (.mapIter (Y3 r) c ((done.map (·.born)).toArray.push e.born) c)) _ ⟨d2++[e],by simp [g1,e1],λx hx=> ?_,?_⟩ (λx hx=> ?_) (λx p hx=> ?_) (λx p hx hn=> ?_)
   ·rcases W9.1 hx with hx|hx
    ·exact g2 x hx
    ·rw [W5.1 hx];exact he
   ·rw [al,Xt,ed];simp
   ·by_cases e':x=b
    ·rw [e',g3];exact .inl (by simp)
    ·rw [az _ _ e'] at hx;exact .inl hx
   ·by_cases e':x=b
    ·rw [e',al] at hx ⊢;exact hx
    ·rw [az _ _ e'] at hx ⊢;exact gle _ _ hx
   ·have e':x≠b:=λe'=>by rw [e',g3] at hn;cases hn
    rw [az _ _ e'];exact hx
  have hent:=EJ (e:=e) hr' hL.st (al F b (.mapIter (Y3 r) c ((done.map (·.born)).toArray.push e.born) c)) he;rw [e1] at hent ⊢;exact step k e.val _ e2 hk hlt hst hr' hent
where
 pO:∀{l:List MapEntry},(l.map (·.key)).Nodup->∀{a b:MapEntry},a∈l->b∈l->a.key=b.key->a=b
  |[],_,_,_,ha,_,_=>by simp at ha
  |x::l,h,a,b,ha,hb,e=>by
   rw [Xw,X1] at h;rcases W6.1 ha with ha|ha<;>rcases W6.1 hb with hb|hb
   ·rw [ha,hb]
   ·exact absurd (Xi.2 ⟨b,hb,by rw [<- e,ha]⟩) h.1
   ·exact absurd (Xi.2 ⟨a,ha,by rw [e,hb]⟩) h.1
   ·exact pO h.2 ha hb e
end
section
variable {k:Nat} {l:List Pr} {P:Nat->Tr} {N:Int->Tr}
def nU (N:Int->Tr) (Pi:Tr) (r:List Sy) (j:Nat):Tr:=if (r.eraseIdx j).any (·.t)=Y8 then Y0 Y6 else dG N Pi (r.eraseIdx j)
def te (N:Int->Tr) (Pi:Tr) (x:Pr):Nat->List Sy->(Int×Int->Tr)->Int×Int->Tr
 |_,[],S=>S
 |j,s::r,S=>te N Pi x (j+1) r (if s.t=Y8 then S else bo S (x.left,s.i) (nU N Pi x.right j))
def tH (N:Int->Tr) (P:Nat->Tr):Nat->List Pr->(Int×Int->Tr)->Int×Int->Tr
 |_,[],S=>S
 |i,x::l,S=>tH N P (i+1) l (te N (P i) x 0 x.right S)
theorem iY (hN:Sxs k N) {Pi:Tr} (hP:Sx k Pi) (r:List Sy) (j:Nat):Sx k (nU N Pi r j)/\∀c,(nU N Pi r j).ev c=Y8↔Pi.ev c=Y8/\∀m y,m≠j->r[m]? =Y3 y->y.t=Y6/\(N y.i).ev c=Y8:=by
 obtain ⟨h1,h2⟩:=bz hN (r.eraseIdx j) hP;unfold nU;by_cases ht:(r.eraseIdx j).any (·.t)=Y8
 ·rw [Χ ht];refine ⟨Sx.Y0 k Y6,λc=>⟨λh=>(by cases h),λh=> ?_⟩⟩;rw [X5] at ht;obtain ⟨y,hy,hyt⟩:=ht;obtain ⟨m,hm,hmy⟩:=List.mem_eraseIdx_iff_getElem?.1 hy;have:=(h.2 m y hm hmy).1;rw [hyt] at this;cases this
 ·rw [Υ ht];refine ⟨h1,λc=> ?_⟩;rw [h2,Xq,XD];refine and_congr_right λ_=>⟨λh m y hm hmy=> ?_,λh y hy=> ?_⟩
  ·have hy:y∈r.eraseIdx j:=List.mem_eraseIdx_iff_getElem?.2 ⟨m,hm,hmy⟩;have hyt:y.t=Y6:=by
    cases e:y.t with
    |false=>rfl
    |true=>exact absurd (X5.2 ⟨y,hy,e⟩) ht
   have:=h y hy;rw [hyt,YM] at this;exact ⟨hyt,this⟩
  ·obtain ⟨m,hm,hmy⟩:=List.mem_eraseIdx_iff_getElem?.1 hy;rw [(h m y hm hmy).2,Bool.or_true]
theorem kZ (hN:Sxs k N) {Pi:Tr} (hP:Sx k Pi) (x:Pr):∀(r:List Sy) (j:Nat) {S:Int×Int->Tr},Sxs k S->Sxs k (te N Pi x j r S)/\
  ∀n c,(te N Pi x j r S n).ev c=Y8↔(S n).ev c=Y8\/∃m s,r[m]? =Y3 s/\s.t=Y6/\n=(x.left,s.i)/\(nU N Pi x.right (j+m)).ev c=Y8
 |[],j,S,hS=>⟨hS,λn c=>⟨.inl,λh=>h.resolve_right λ⟨m,s,h,_⟩=>(by simp at h)⟩⟩
 |s::r,j,S,hS=>by
  have hd:=(iY hN hP x.right j).1;unfold te;have shift:∀(n:Int×Int) (c:Cf),(∃m y,(s::r)[m]? =Y3 y/\y.t=Y6/\n=(x.left,y.i)/\(nU N Pi x.right (j+m)).ev c=Y8)↔(s.t=Y6/\n=(x.left,s.i)/\(nU N Pi x.right j).ev c=Y8)\/∃m y,r[m]? =Y3 y/\y.t=Y6/\n=(x.left,y.i)/\(nU N Pi x.right (j+1+m)).ev c=Y8:=λn c=>by
   constructor
   ·rintro ⟨m,y,h1,h2,h3,h4⟩;cases m with
    |zero=>cases h1;exact .inl ⟨h2,h3,h4⟩
    |succ m=>exact .inr ⟨m,y,by simpa using h1,h2,h3,by rw [show j+1+m=j+(m+1) by omega];exact h4⟩
   ·rintro (⟨h2,h3,h4⟩|⟨m,y,h1,h2,h3,h4⟩)
    ·exact ⟨0,s,rfl,h2,h3,h4⟩
    ·exact ⟨m+1,y,by simpa using h1,h2,h3,by rw [show j+(m+1)=j+1+m by omega];exact h4⟩
  by_cases hs:s.t=Y8
  ·rw [Χ hs];obtain ⟨h1,h2⟩:=kZ hN hP x r (j+1) hS;refine ⟨h1,λn c=> ?_⟩;rw [h2,shift];refine or_congr_right ⟨.inr,λh=>h.resolve_left λ⟨h,_⟩=>(by rw [hs] at h;cases h)⟩
  ·rw [Υ hs];obtain ⟨h1,h2⟩:=kZ hN hP x r (j+1) (cO hS hd (n:=(x.left,s.i)));refine ⟨h1,λn c=> ?_⟩;rw [h2,shift,dZ hS hd,X9,Xq,δ,or_assoc];refine or_congr_right (or_congr_left ⟨λh=>⟨XZ.2 hs,h⟩,λh=>h.2⟩)
theorem tf (hN:Sxs k N) (hP:∀i,Sx k (P i)):∀(l:List Pr) (i:Nat) {S:Int×Int->Tr},Sxs k S->Sxs k (tH N P i l S)/\
  ∀n c,(tH N P i l S n).ev c=Y8↔(S n).ev c=Y8\/∃(m:Nat) (x:Pr) (j:Nat) (s:Sy),l[m]? =Y3 x/\x.right[j]? =Y3 s/\s.t=Y6/\n=(x.left,s.i)/\(nU N (P (i+m)) x.right j).ev c=Y8
 |[],i,S,hS=>⟨hS,λn c=>⟨.inl,λh=>h.resolve_right λ⟨m,x,j,s,h,_⟩=>(by simp at h)⟩⟩
 |x::l,i,S,hS=>by
  obtain ⟨g1,g2⟩:=kZ hN (hP i) x x.right 0 hS;unfold tH;obtain ⟨h1,h2⟩:=tf hN hP l (i+1) g1;refine ⟨h1,λn c=> ?_⟩;rw [h2,g2,or_assoc];refine or_congr_right ?_;constructor
  ·rintro (⟨j,s,a,b,d,e⟩|⟨m,y,j,s,a,b,d,e,f⟩)
   ·exact ⟨0,x,j,s,rfl,a,b,d,by rw [Xm] at e;exact e⟩
   ·exact ⟨m+1,y,j,s,by simpa using a,b,d,e,by rw [show i+(m+1)=i+1+m by omega];exact f⟩
  ·rintro ⟨m,y,j,s,a,b,d,e,f⟩;cases m with
   |zero=>cases a;exact .inl ⟨j,s,b,d,e,by rw [Xm];exact f⟩
   |succ m=>exact .inr ⟨m,y,j,s,by simpa using a,b,d,e,by rw [show i+1+m=i+(m+1) by omega];exact f⟩
structure yU (k:Nat) (l:List Pr) (P:Nat->Tr) (S:Int×Int->Tr):Prop where
 sx:Sxs k S
 iff:∀n c,(S n).ev c=Y8↔Stp l P c n.1 n.2
theorem Ll (hN:bX k l P Y8 N) (hP:∀i,Sx k (P i)):yU k l P (tH N P 0 l λ_=>Y0 Y6):=by
 obtain ⟨h1,h2⟩:=tf hN.sx hP l 0 (S:=λ_=>Y0 Y6) λ_=>Sx.Y0 k Y6;refine ⟨h1,λn c=>(h2 n c).trans ?_⟩;constructor
 ·rintro (h|⟨m,x,j,s,a,b,d,e,f⟩)
  ·cases h
  ·rw [Xm] at f;obtain ⟨f1,f2⟩:=((iY hN.sx (hP m) x.right j).2 c).1 f;rw [e];exact ⟨m,j,x,s,a,b,d,rfl,rfl,f1,λq y hq hy=>(f2 q y hq hy).imp id (hN.iff _ _).1⟩
 ·rintro ⟨i,j,x,s,a,b,d,e,f,g,h⟩;refine .inr ⟨i,x,j,s,a,b,d,Prod.ext e.symm f.symm,?_⟩;rw [Xm];exact ((iY hN.sx (hP i) x.right j).2 c).2 ⟨g,λq y hq hy=>(h q y hq hy).imp id (hN.iff _ _).2⟩
def ja (l:List Pr):List (Int×Int):=l.flatMap λx=>x.right.map λs=>(x.left,s.i)
theorem EL {l:List Pr} (h:∀x∈l,x.right.length<=16):(ja l).length<=l.length*16:=by
 induction l with
 |nil=>exact W8 _
 |cons x l ih=>have h1:=h x (by simp);have h2:=ih λy hy=>h y (Xo _ hy);unfold ja at*;rw [XS,Xa,Xd,Xl];omega
variable {T:Int×Int->Tr} {fam:Tr} {n:Int}
structure Bfs (k:Nat) (l:List Pr) (P:Nat->Tr) (T:Int×Int->Tr) (fam:Tr) (n:Int) (R:Int->Tr) (q:Φ):Prop where
 sx:Sxs k R
 snd:∀m c,(R m).ev c=Y8->Tg (Stp l P c) n m
 YZ:∀m c,fam.ev c=Y8->(T (n,m)).ev c=Y8->(R m).ev c=Y8
 clos:∀m,m≠n->m ∉ q->∀m' c,(R m).ev c=Y8->(T (m,m')).ev c=Y8->(R m').ev c=Y8
structure Vis (k:Nat) (keys:Φ) (T:Int×Int->Tr) (a:Int) (d:Tr) (R R':Int->Tr) (ps:Φ):Prop where
 sx:Sxs k R'
 le:Lt' R R'
 snd:∀m c,(R' m).ev c=Y8->(R m).ev c=Y8\/(d.ev c=Y8/\(T (a,m)).ev c=Y8)
 cpl:∀m c,d.ev c=Y8->(T (a,m)).ev c=Y8->(R' m).ev c=Y8
 pu:∀m,R' m≠R m->m∈ps
 mu:mu k keys R'+ps.length<=mu k keys R
theorem Bfs.start (hT:yU k l P T) {R:Int->Tr} {ps keys:Φ} (hv:Vis k keys T n fam (λ_=>Y0 Y6) R ps):Bfs k l P T fam n R ps:=by
 refine ⟨hv.sx,λm c hc=> ?_,hv.cpl,λm _ hm m' c hc _=> ?_⟩
 ·rcases hv.snd m c hc with h|⟨_,h⟩
  ·cases h
  ·exact .one ((hT.iff _ _).1 h)
 ·have:R m=Y0 Y6:=Classical.not_not.1 λe=>hm (hv.pu m e);rw [this] at hc;cases hc
theorem Bfs.visit (hT:yU k l P T) {R R':Int->Tr} {m:Int} {q ps keys:Φ} (h:Bfs k l P T fam n R (m::q)) (hv:Vis k keys T m (R m) R R' ps):Bfs k l P T fam n R' (q++ps):=by
 refine ⟨hv.sx,λm' c hc=> ?_,λm' c hf ht=>hv.le _ _ (h.YZ m' c hf ht),λa ha hq m' c hc ht=> ?_⟩
 ·rcases hv.snd m' c hc with h'|⟨h1,h2⟩
  ·exact h.snd m' c h'
  ·exact .snoc (h.snd m c h1) ((hT.iff _ _).1 h2)
 ·have hq1:a ∉ q:=λe=>hq (W9.2 (.inl e));have e:R' a=R a:=Classical.not_not.1 λe=>hq (W9.2 (.inr (hv.pu a e)));rw [e] at hc;by_cases ea:a=m
  ·rw [ea] at hc ht;exact hv.cpl m' c hc ht
  ·exact hv.le _ _ (h.clos a ha (λhm=>(W6.1 hm).elim ea hq1) m' c hc ht)
theorem Bfs.skip {R:Int->Tr} {q:Φ} (h:Bfs k l P T fam n R (n::q)):Bfs k l P T fam n R q:=
 ⟨h.sx,h.snd,h.YZ,λm hm hq=>h.clos m hm λe=>(W6.1 e).elim hm hq⟩
theorem Bfs.fin (hT:yU k l P T) (hf:∀a b c,Stp l P c a b->fam.ev c=Y8) {R:Int->Tr} (h:Bfs k l P T fam n R []) (c:Cf):(R n).ev c=Y8↔Tg (Stp l P c) n n:=by
 refine ⟨h.snd n c,λt=> ?_⟩;have key:∀{m:Int},Tg (Stp l P c) n m->(R m).ev c=Y8:=λ{m} t=>by
  induction t with
  |one h1=>exact h.YZ _ c (hf _ _ _ h1) ((hT.iff (n,_) c).2 h1)
  | @snoc b d _ h1 ih=>
   by_cases e:b=n
   ·rw [e] at h1;exact h.YZ _ c (hf _ _ _ h1) ((hT.iff (n,d) c).2 h1)
   ·exact h.clos b e (by simp) d c ih ((hT.iff (b,d) c).2 h1)
 exact key t
end
section
variable {g:Gr} {k:Nat}
theorem OkK.fam_of (h:OkK g k) {i:Nat} {c:Cf} (hp:(aD g i).ev c=Y8):(tre g.fam).ev c=Y8:=by
 cases hx:g.YV[i]? with
 |none=>
  have:aD g i=Y0 Y6:=by unfold aD;rw [hx]
  rw [this] at hp;cases hp
 |some x=>rw [h.prs_ev hx,Xq,Xq] at hp;exact hp.1.1
theorem OkK.stp_fam (h:OkK g k) {c:Cf} {a b:Int} (s:Stp g.YV (aD g) c a b):(tre g.fam).ev c=Y8:=by obtain ⟨i,_,_,_,_,_,_,_,_,hp,_⟩:=s;exact h.fam_of hp
end
def que (e:TypeId) (s:Sl) (vs:Ξ):Ψ:=λH=>∃b o cur,s.YZ=Y3 ⟨b,o,Y5⟩/\H b=Y3 (Y4 cur e (0,0))/\o+s.cap<=cur.size/\s.len<=s.cap/\vs.length=s.len/\(cur.toList.drop o).take s.len=vs
section
variable {G F H:PH} {As:List (Ψ)} {e:TypeId} {s:Sl} {vs:Ξ}
theorem PQ (h:que e s vs H):RdS H s 1 vs:=by obtain ⟨b,o,cur,h1,h2,h3,h4,h5,h6⟩:=h;refine ⟨by omega,h4,λ_=>⟨b,o,h1,λi hi=> ?_⟩⟩;rw [aq h2];have:=congrArg (λl=>l[i]?) h6;simp only [XG (show i<s.len by omega),List.getElem?_drop,Yk] at this;rw [this,N5 hi]
theorem Lm {v:ξ} (h:que e s (v::vs) H):que e (Sl.cut s 1 1 s.len s.cap) vs H:=by
 obtain ⟨b,o,cur,h1,h2,h3,h4,h5,h6⟩:=h;rw [Xl] at h5;by_cases hc:s.cap=1
 ·have hvs:vs=[]:=Xp (by omega);refine ⟨b,o,cur,by unfold Sl.cut;rw [if_pos hc];exact h1,h2,by unfold Sl.cut;dsimp only;omega,by unfold Sl.cut;dsimp only;omega,by unfold Sl.cut;dsimp only;omega,?_⟩;unfold Sl.cut;dsimp only;rw [hvs,show s.len - 1=0 by omega,XY]
 ·refine ⟨b,o+1,cur,?_,h2,by unfold Sl.cut;dsimp only;omega,by unfold Sl.cut;dsimp only;omega,by unfold Sl.cut;dsimp only;omega,?_⟩
  ·unfold Sl.cut;rw [Υ hc,h1];rfl
  ·unfold Sl.cut;dsimp only;have:=congrArg (λl=>l.drop 1) h6;simp only [List.drop_take,List.drop_drop,YO,XK] at this;exact this
theorem EM {b:Nat} (h:H b=Y3 (Y4 #[] e)):que e (Zj (Y3 (Zc b 0 Y5)) 0 0) [] H:=⟨b,0,#[],rfl,h,by simp,W8 _,rfl,by simp⟩
theorem St.queAt (h:St G F As) {i:Nat} (hi:As[i]? =Y3 (que e s vs)):RdS F s 1 vs:=by obtain ⟨H,h1,_,h3⟩:=h.get hi;exact (PQ h1).le h3
theorem St.quePush {t bytes:Nat} {z:ξ} (T:SlT t e 1 bytes z) {x:Sl} {v:ξ} {ty:TypeId} (h:St G F As) (i:Nat) (hi:As[i]? =Y3 (que e s vs)) (hx:RdS F x 1 [v]) (hst:ak v) (hlen:s.len<=400000000000) {K:Sl->Ψ}
  (k:∀s' F',St G F' (As.set i (que e s' (vs++[v])))->s'.len=s.len+1->K s' F'):aF prog (Builtin.append_ #[t,t] ty #[s.v,x.v]) F λr F=>∃s':Sl,r=Y7 s'/\K s' F:=by
 have hxl:x.len=1:=by have:=hx.len;rw [Xk] at this;omega
 have hq:=h.queAt hi;have hql:=hq.len;have put:∀{s':Sl} {b:Nat} {ob:Obj},que e s' (vs++[v]) (F.set b ob)->s'.len=s.len+1->(∀a,s'.YZ=Y3 a->a.block=b)->((∃a,s.YZ=Y3 a/\a.block=b)\/F b=Y5)->K s' (F.set b ob):=λ{s' b ob} hq' hl' hbase hb=>by
  obtain ⟨H,a1,a2,a3,a4⟩:=h.set (A':=que e s' (vs++[v])) hi;have hb':H b≠Y5\/F b=Y5:=by
   rcases hb with ⟨a,ha,rfl⟩|hb
   ·obtain ⟨b0,o0,c0,e1,e2,_⟩:=a1;rw [e1] at ha;cases ha;exact .inl (by rw [e2];simp)
   ·exact .inr hb
  refine k s' _ (a4 (PH.set (λ_=>Y5) b ob) _ ?_ (λx hx=> ?_) (λx p hx=> ?_) (λx p hx hn=> ?_)) hl'
  ·obtain ⟨b1,o1,c1,e1,e2,e3⟩:=hq';have:b1=b:=hbase _ e1;subst this;rw [al] at e2;exact ⟨b1,o1,c1,e1,by rw [al];exact e2,e3⟩
  ·by_cases e':x=b
   ·rw [e'];exact hb'
   ·rw [az _ _ e'] at hx;exact absurd rfl hx
  ·by_cases e':x=b
   ·rw [e',al] at hx ⊢;exact hx
   ·rw [az _ _ e'] at hx;cases hx
  ·have e':x≠b:=λe'=>by
    subst e';rcases hb' with h|h
    ·exact h hn
    ·rw [h] at hx;cases hx
   rw [az _ _ e'];exact hx
 refine jE T.ht T.hsz T.hz T.hzs hq hx (λw hw=>by rw [W5.1 hw];exact hst) (FG T.hb (by omega)) (by omega) (λh0 _=>by omega) (λ_ hroom=> ?_) (λhgt cap b hc hb=> ?_)
 ·obtain ⟨H,a1,_,a3⟩:=h.get hi;obtain ⟨b,o,cur,h1,h2,h3,h4,h5,h6⟩:=a1;have hcl:cur.toList.length=cur.size:=Xb;refine ⟨b,o,cur,e,h1,a3 _ _ h2,by omega,_,rfl,put ⟨b,o,_,h1,al _ _ _,by rw [d7];exact h3,hroom,by rw [Xa,Xk,h5,hxl],?_⟩ (by rw [hxl]) (λa ha=>by rw [h1] at ha;cases ha;rfl) (.inl ⟨_,h1,rfl⟩)⟩;have hw:=dM [v] cur.toList (o+s.len*1) (by rw [Xk];omega);rw [show cur.toList.toArray=cur by simp] at hw;rw [hw];dsimp only;rw [hxl,Xz];have e1:(List.take (o+s.len) cur.toList).drop o=vs:=by rw [<- h6,List.drop_take,Yu]
  rw [XA,List.drop_append_of_le_length (by rw [Xe];omega),e1];rw [<- XA,Xs (by rw [Xa,Xk];omega),Xf (by rw [Xa,Xk];omega)]
 ·refine ⟨_,rfl,put ⟨b,0,_,rfl,al _ _ _,?_,hc,by rw [Xa,Xk];show vs.length+1=s.len+x.len;omega,?_⟩ (by rw [hxl]) (λa ha=>by cases ha;rfl) (.inr hb)⟩
  ·simp [Builtin.zeroCells,T.hzs];omega
  ·simp only [List.append_toArray,Array.toList_append,XK,hxl];rw [Xs (by rw [Xa,Xk];omega),Xf (by rw [Xa,Xk];omega)]
end
theorem PR:∃b z,SlT 67 3 1 b z:=⟨_,_,underlying67,sz3,zr3,rfl,by decide,by decide⟩
theorem W2:bO prog 67=Y3 (Y7 Zi):=by kernel_rfl
theorem PS:gj prog 164 aH (Y7 Zi):=⟨_,_,underlying164,W2,JK⟩
section
variable {G F:PH} {As:List (Ψ)} {k b14 b18 b4 b19 mn mr mt:Nat} {nx:Int->Φ} {T:Int×Int->Tr}
structure CyE (G:PH) (b14 mn b4 mt:Nat) (nx:Int->Φ) (T:Int×Int->Tr):Prop where
 q14:G b14=Y3 (Y4 #[.map (Y3 mn)] 164)
 q4:G b4=Y3 (Y4 #[.map (Y3 mt)] 113)
 nx:∃o mp,G mn=Y3 o/\eJ aH mp o/\∀a,(mp a=Y5/\nx a=[])\/∃s,mp a=Y3 (Y7 s)/\RL G s (nx a)
 st:∃o mp,G mt=Y3 o/\eJ bT mp o/\jl G T mp
theorem CyE.le {G':PH} (h:CyE G b14 mn b4 mt nx T) (l:G.le G'):CyE G' b14 mn b4 mt nx T:=by obtain ⟨h1,h2,⟨o,mp,h3,h4,h5⟩,⟨o',mp',h6,h7,h8⟩⟩:=h;refine ⟨l _ _ h1,l _ _ h2,⟨o,mp,l _ _ h3,h4,λa=>(h5 a).imp id λ⟨s,a,b⟩=>⟨s,a,b.le l⟩⟩,⟨o',mp',l _ _ h6,h7,h8.le l⟩⟩
theorem CyE.look (h:CyE G b14 mn b4 mt nx T) (l:G.le F) (a:Int):∃s,rdo prog (Instr.lookup 164 (.map (Y3 mn)) (vi a) Y6) F (Y7 s)/\RL G s (nx a):=by
 obtain ⟨o,mp,h3,h4,h5⟩:=h.nx;have hl:=bJ (F:=F) PS (l _ _ h3) h4 a Y6;rcases h5 a with ⟨e1,e2⟩|⟨s,e1,e2⟩
 ·rw [e1] at hl;exact ⟨Zi,hl,by rw [e2];exact RL.nil G⟩
 ·rw [e1] at hl;exact ⟨s,hl,e2⟩
theorem CyE.step (h:CyE G b14 mn b4 mt nx T) (l:G.le F) (n:Int×Int):∃w,rdo prog (Instr.lookup 113 (.map (Y3 mt)) (Y9 (wx n)) Y6) F (Y9 w)/\(DV G w (dia (T n))):=by
 obtain ⟨o,mp,h3,h4,h5⟩:=h.st;have hl:=bJ (F:=F) Fw (l _ _ h3) h4 n Y6;rcases h5 n with ⟨e1,e2⟩|⟨w,e1,e2⟩
 ·rw [e1] at hl;exact ⟨zD,hl,by rw [e2];exact DV.mk (s:=Zi) (d:=dia (Y0 Y6)) (RL.nil G)⟩
 ·rw [e1] at hl;exact ⟨w,hl,e2⟩
structure IX (k:Nat) (keys:Φ) (T:Int×Int->Tr) (a:Int) (d:Tr) (l:Φ) (R R':Int->Tr) (ps:Φ):Prop where
 sx:Sxs k R'
 le:Lt' R R'
 snd:∀m c,(R' m).ev c=Y8->(R m).ev c=Y8\/(d.ev c=Y8/\(T (a,m)).ev c=Y8)
 cpl:∀m∈l,∀c,d.ev c=Y8->(T (a,m)).ev c=Y8->(R' m).ev c=Y8
 pu:∀m,R' m≠R m->m∈ps
 mu:mu k keys R'+ps.length<=mu k keys R
theorem IX.add {keys:Φ} {a:Int} {d:Tr} {l:Φ} {R R':Int->Tr} {ps:Φ} (h:IX k keys T a d l R R' ps) (hT:Sxs k T) (hd:Sx k d) {m:Int} (hm:m∈keys):
  (bo R' m (ap2 aY d (T (a,m)))≠R'->IX k keys T a d (l++[m]) R (bo R' m (ap2 aY d (T (a,m)))) (ps++[m]))/\(bo R' m (ap2 aY d (T (a,m)))=R'->IX k keys T a d (l++[m]) R R' ps):=by
 have hx:Sx k (ap2 aY d (T (a,m))):=hd.ap2 (o:=aY) (hT _);have ex:∀c,(ap2 aY d (T (a,m))).ev c=(d.ev c && (T (a,m)).ev c):=(bq hd.1 (hT _).1).2;have key:∀i c,(bo R' m (ap2 aY d (T (a,m))) i).ev c=Y8↔(R' i).ev c=Y8\/(i=m/\d.ev c=Y8/\(T (a,m)).ev c=Y8):=λi c=>by rw [dZ h.sx hx,ex,X9,Xq,Xq,δ]
 have cp:∀i∈l++[m],∀c,d.ev c=Y8->(T (a,i)).ev c=Y8->(bo R' m (ap2 aY d (T (a,m))) i).ev c=Y8:=λi hi c h1 h2=>by
  rcases W9.1 hi with hi|hi
  ·exact (key i c).2 (.inl (h.cpl i hi c h1 h2))
  ·have:=W5.1 hi;subst this;exact (key i c).2 (.inr ⟨rfl,h1,h2⟩)
 have hsx:=cO h.sx hx (n:=m);constructor
 ·intro hne;refine ⟨hsx,h.le.trans (d6 h.sx hx),λi c hc=> ?_,cp,λi hi=> ?_,?_⟩
  ·rcases (key i c).1 hc with hc|⟨rfl,h1,h2⟩
   ·exact h.snd i c hc
   ·exact .inr ⟨h1,h2⟩
  ·by_cases e:i=m
   ·rw [e];simp
   ·have:bo R' m (ap2 aY d (T (a,m))) i=R' i:=by unfold bo dx;rw [Υ e]
    rw [this] at hi;exact W9.2 (.inl (h.pu i hi))
  ·have h1:=(xv h.sx hsx (d6 h.sx hx) keys).2 m hm λe=>hne (by
    funext i;by_cases ei:i=m
    ·rw [ei];exact e.symm
    ·unfold bo dx;rw [Υ ei])
   have:=h.mu;rw [Xa,Xk];omega
 ·intro he;rw [he] at cp;exact ⟨h.sx,h.le,h.snd,cp,h.pu,h.mu⟩
theorem oM {n:Int} {d:Tr} {w:Γ} {R:Int->Tr} {qs:Sl} {q keys:Φ} (hk:k<=6) (E:CyE G b14 mn b4 mt nx T) (q18:G b18=Y3 (Y4 #[.map (Y3 mr)] 95)) (hT:Sxs k T) (hd:Sx k d) (hw:DV G w (dia d)) (hR:Sxs k R)
  (hn:∀m,T (n,m)≠Y0 Y6->m∈nx n) (hk2:∀m∈nx n,m∈keys) (hl:(nx n).length<=1000000) (hq:q.length<=100000000)
  (h:St G F (mS aH G mr R::pt b19 (Y4 #[Y7 qs] 67)::que 3 qs (q.map vi)::As)):
  ν 121 #[vi n,Y9 w,Ze (Y3 ⟨b14,0,Y5⟩),Ze (Y3 ⟨b18,0,Y5⟩),Ze (Y3 ⟨b4,0,Y5⟩),Ze (Y3 ⟨b19,0,Y5⟩)] F λr F'=>∃G' R' ps qs',r=Zh #[]/\G.le G'/\Vis k keys T n d R R' ps/\
   St G' F' (mS aH G' mr R'::pt b19 (Y4 #[Y7 qs'] 67)::que 3 qs' ((q++ps).map vi)::As):=by
 obtain ⟨_,_,TI⟩:=PR;refine Qw ?_;unfold LA;refine h.newG λb7 G1 F1 l1 q7 _ h=> ?_;have E1:=E.le l1;obtain ⟨sn,hlk,hsn⟩:=E1.look h.le n;refine ⟨_,rfl,_,ld (h.le _ _ E1.q14) rfl,sn,hlk,?_⟩;have hsl:=hsn.len
 refine bh (vn · n _ _ _ b7 sn _) (nx n).length (λi F'=>∃(G':PH) (R':Int->Tr) (ps:Φ) (qs':Sl),G1.le G'/\ps.length<=i/\IX k keys T n d ((nx n).take i) R R' ps/\∃Bs,
  St G' F' ((mS aH G' mr R'::pt b19 (Y4 #[Y7 qs'] 67)::que 3 qs' ((q++ps).map vi)::As)++Bs)) ⟨G1,R,[],qs,am _,W8 _,⟨hR,Lt'.refl R,λm c h=> .inl h,λm hm=>(by simp at hm),λm h=>absurd rfl h,W8 _⟩,[],
   by rw [XH,XH];exact h.imp 0 rfl λ_ _ hH=>hH.le l1⟩ ?_
 rintro i F2 N hi ⟨G2,R2,ps,qs2,l2,hpl,hv,Bs,h⟩ next;replace h:St G2 F2 (mS aH G2 mr R2::pt b19 (Y4 #[Y7 qs2] 67)::que 3 qs2 ((q++ps).map vi)::As):=h.pick id (λ_ _ _ _ e=>e) λi hi=>by rw [id,Xh hi]
 unfold vn;refine ⟨λhlt=> ?_,λhge=> ?_⟩
 ·have hlt:i<(nx n).length:=by omega
  refine ixc (hsn.le l2) (by decide) (by omega) (by omega) λa18 c18 m hm hrow hc=> ?_;rw [N4] at hm;obtain rfl:c18= #[vi m]:=hc;have hmm:=W7 hm;refine ⟨m,aQ (aU h.le hrow) rfl,_,rfl,_,ld (h.le _ _ (l2 _ _ (l1 _ _ q18))) rfl,?_⟩;refine (fo h (am _) m).mono ?_;rintro _ F3 ⟨G3,u,rfl,hu,l3,h⟩;refine ⟨u,rfl,?_⟩;refine h.var hu.st (λb10 G4 F4 l4 q10 h=> ?_) rfl hu.size;have l14:=aa l2 (aa l3 l4);have E4:=E1.le l14;have hu4:=hu.le l4;obtain ⟨v,hlv,hv4⟩:=E4.step h.le (n,m);refine ⟨u,hu.size,ac (h.le _ _ q10),w,hw.size,ac (h.le _ _ (l14 _ _ q7)),_,rfl,_,ld (h.le _ _ E4.q4) rfl,v,hlv,?_⟩;have hx:Sx k (ap2 aY d (T (n,m))):=hd.ap2 (o:=aY) (hT _);have hA:∀{G':PH},G4.le G'->ν 35 #[Y9 w,Y9 v] G' λr G''=>(∃y,r=Zh #[Y9 y,vi 0]/\DV G'' y (dia (ap2 aY d (T (n,m)))))/\G'.le G'':=
   λl=>(iw hk hd (hT _) (hw.le (aa l1 (aa l14 l))) (hv4.le l)).mono λr F' ⟨x,a,b,c⟩=>⟨⟨x,a,b⟩,c⟩
  have hO:∀{G':PH} {y:Γ},G4.le G'->DV G' y (dia (ap2 aY d (T (n,m))))->ν 28 #[Y9 u,Y9 y] G' λr G''=>(∃y,r=Zh #[Y9 y,vi 0]/\DV G'' y (dia (ap2 oOr (R2 m) (ap2 aY d (T (n,m))))))/\G'.le G'':=
   λl hy=>(vo hk (hv.sx m) hx (hu4.le l) hy).mono λr F' ⟨x,a,b,c⟩=>⟨⟨x,a,b⟩,c⟩
  obtain ⟨va1,va2⟩:=hv.add hT hd (hk2 m hmm);have et:=dz hm;have fin:∀{G' F':PH} {y w0:Γ} {b11:Nat},w0.size=2->G4.le G'->DV G' y (dia (ap2 oOr (R2 m) (ap2 aY d (T (n,m)))))->St G' F' (pt b11 (Y4 w0 31)::mS aH G2 mr R2::pt b19 (Y4 #[Y7 qs2] 67)::que 3 qs2 ((q++ps).map vi)::As)->
    au F' (Zc b11 0 Y5) 2 y λF=>iv N n (Zc b18 0 Y5) (Y3 (Zc b4 0 Y5)) (Y3 (Zc b19 0 Y5)) b7 m b10 sn (i:Int) (Y3 (Zc b11 0 Y5)) (λr F'=>∃G' R' ps qs',r=Zh #[]/\G.le G'/\Vis k keys T n d R R' ps/\
     St G' F' (mS aH G' mr R'::pt b19 (Y4 #[Y7 qs'] 67)::que 3 qs' ((q++ps).map vi)::As)) F:=λ{G' F' y w0 b11} hw0 l hy h=>by
   refine h.put0 hy.size hw0 hy.st λF5 h=> ?_;unfold iv;refine ⟨u,hu.size,ac (h.le _ _ (l _ _ q10)),_,rfl,y,hy.size,ac (h.ptAt (i:=0) rfl),?_⟩;refine h.runv (jU (hu4.le l) hy (pI ((hv.sx m).small hk))) λG6 F6 l6 h=>⟨_,rfl,?_⟩;have kk:=(hv.sx m).ap2 (o:=oOr) hx;have l26:=aa (aa l3 l4) (aa l l6);refine ⟨λhne=> ?_,λhe=> ?_⟩
   ·have hne:ap2 oOr (R2 m) (ap2 aY d (T (n,m)))≠R2 m:=λe=>by rw [e,ζ rfl] at hne;cases hne
    refine ⟨_,ld (h.le _ _ (aa l2 l26 _ _ (l1 _ _ q18))) rfl,y,hy.size,ac (h.ptAt (i:=0) rfl),?_⟩;obtain ⟨o,mp,m1,m2,m3⟩:=h.mS_at (i:=1) rfl;refine aV xA m1 m2 m (Y9 y) λo' ho'=> ?_;have h:=h.mS_set 1 rfl (G1:=G6) (S':=bo R2 m (ap2 aY d (T (n,m)))) ho' ((m3.le l26).put (hy.le l6));refine ⟨_,rfl,qs2,ld (h.ptAt (i:=2) rfl) rfl,?_⟩;have hql:qs2.len=(q++ps).length:=by have:=(h.queAt (i:=3) rfl).len;rw [Xd,Xz] at this;exact this.symm
    rw [Xa] at hql;refine h.newG λb47 G7 F7 l7 q47 _ h=> ?_;refine h.quePush TI 3 rfl (RdS.new (h.le _ _ q47) rfl rfl (W8 _)) (by simp [ak]) (by omega) λs' F8 h hs'=> ?_;refine h.set2 (w':= #[Y7 s']) (Zn rfl) rfl λF9 h=> ?_;unfold pc;rw [aA hlt];refine next _ hlt ⟨G7,_,ps++[m],s',aa l2 (aa l26 l7),by rw [Xa,Xk];omega,by rw [et];exact va1 λe=>hne (jH.1 e),[pt b11 (Y4 y 31)],?_⟩;rw [<- XA,Xt (l₁:=q++ps)];exact (h.imp 1 rfl λ_ _ hH=>mS.le hH l7).rot
   ·have e:ap2 oOr (R2 m) (ap2 aY d (T (n,m)))=R2 m:=by
     have:decide (dia (R2 m)=dia (ap2 oOr (R2 m) (ap2 aY d (T (n,m)))))=Y8:=by simpa using he
     exact (mL (hv.sx m).1 kk.1 (ε this)).symm
    unfold pc;rw [aA hlt];refine next _ hlt ⟨G6,R2,ps,qs2,aa l2 l26,by omega,by rw [et];exact va2 (jH.2 e),[pt b11 (Y4 y 31)],?_⟩;exact (h.imp 1 rfl λ_ _ hH=>mS.le hH l26).rot
  have c4:∀{G' F':PH} {As:List (Ψ)},G4.le G'->St G' F' As->F'.cell (Zc b4 0 Y5)=Y3 (.map (Y3 mt)):=λl h=>ld (h.le _ _ (E4.le l).q4) rfl;have r10:∀{G' F':PH} {As:List (Ψ)},G4.le G'->St G' F' As->F'.row (Zc b10 0 Y5) u:=λl h=>ac (h.le _ _ (l _ _ q10));refine ⟨?_,?_⟩
  ·refine h.run (hA (am _)) λ_ G5 F5 hr5 l5 h=> ?_;obtain ⟨y,rfl,hy⟩:=hr5;refine ⟨_,_,rfl,c4 l5 h,r10 l5 h,?_,?_⟩
   ·refine h.runv (bx hy) λG6 F6 l6 h=>⟨_,rfl,c4 (aa l5 l6) h,r10 (aa l5 l6) h,?_,?_⟩
    ·refine h.run (hO (aa l5 l6) (hy.le l6)) λ_ G7 F7 hr7 l7 h=> ?_;obtain ⟨z,rfl,hz⟩:=hr7;have l57:=aa (aa l5 l6) l7;refine ⟨_,_,rfl,c4 l57 h,?_,?_⟩
     ·refine h.runv (bx hz) λG8 F8 l8 h=>⟨_,rfl,c4 (aa l57 l8) h,?_⟩;exact h.new λb11 F9 h=>fin rfl (aa l57 l8) (hz.le l8) h
     ·refine h.new λb11 F8 h=> ?_;exact h.runv (bx hz) λG8 F8 l8 h=>⟨_,rfl,c4 (aa l57 l8) h,fin rfl (aa l57 l8) (hz.le l8) h⟩
    ·refine h.new λb11 F7 h=> ?_;refine h.run (hO (aa l5 l6) (hy.le l6)) λ_ G7 F7 hr7 l7 h=> ?_;obtain ⟨z,rfl,hz⟩:=hr7;refine ⟨_,_,rfl,c4 (aa (aa l5 l6) l7) h,?_⟩;exact h.runv (bx hz) λG8 F8 l8 h=>⟨_,rfl,c4 (aa (aa l5 l6) (aa l7 l8)) h,fin rfl (aa (aa l5 l6) (aa l7 l8)) (hz.le l8) h⟩
   ·refine h.new λb11 F6 h=> ?_;refine h.runv (bx hy) λG6 F6 l6 h=>⟨_,rfl,c4 (aa l5 l6) h,r10 (aa l5 l6) h,?_⟩;refine h.run (hO (aa l5 l6) (hy.le l6)) λ_ G7 F7 hr7 l7 h=> ?_;obtain ⟨z,rfl,hz⟩:=hr7;refine ⟨_,_,rfl,c4 (aa (aa l5 l6) l7) h,?_⟩;exact h.runv (bx hz) λG8 F8 l8 h=>⟨_,rfl,c4 (aa (aa l5 l6) (aa l7 l8)) h,fin rfl (aa (aa l5 l6) (aa l7 l8)) (hz.le l8) h⟩
  ·refine h.new λb11 F5 h=> ?_;refine h.run (hA (am _)) λ_ G5 F5 hr5 l5 h=> ?_;obtain ⟨y,rfl,hy⟩:=hr5;refine ⟨_,_,rfl,c4 l5 h,r10 l5 h,?_⟩;refine h.runv (bx hy) λG6 F6 l6 h=>⟨_,rfl,c4 (aa l5 l6) h,r10 (aa l5 l6) h,?_⟩;refine h.run (hO (aa l5 l6) (hy.le l6)) λ_ G7 F7 hr7 l7 h=> ?_;obtain ⟨z,rfl,hz⟩:=hr7;refine ⟨_,_,rfl,c4 (aa (aa l5 l6) l7) h,?_⟩;exact h.runv (bx hz) λG8 F8 l8 h=>⟨_,rfl,c4 (aa (aa l5 l6) (aa l7 l8)) h,fin rfl (aa (aa l5 l6) (aa l7 l8)) (hz.le l8) h⟩
 ·have e:i=(nx n).length:=by omega
  subst e;rw [Xg] at hv;exact ⟨G2,R2,ps,qs2,rfl,aa l1 l2,⟨hv.sx,hv.le,hv.snd,λm c h1 h2=>hv.cpl m (hn m λe=>by rw [e] at h2;cases h2) c h1 h2,hv.pu,hv.mu⟩,h⟩
end
section
end
theorem RL.cut {α:Type} [Mem α] {G:PH} {s:Sl} {l:List α} {n k:Nat} (h:RL G s l) (hn:Mem.n α=n) (hk:k<=s.len):RL G (Sl.cut s n 0 k s.cap) (l.take k):=by subst hn;obtain ⟨vs,hr,hd⟩:=h;refine ⟨vs.take k,hr.take k,?_⟩;have:=hd.cut (l:=0) (r:=k) (m:=s.cap) (by omega) hk (by have:=hd.cap;omega);rw [Yf,XK,Yn,hr.cat_take] at this;exact this
section
variable {F G F1:PH} {b8 b9:Nat} {g:Gr} {c m t s p l f:Sl} {part:Nat} {d:Dia} {kc kt kn kp:Nat} {tk:Tk} {pr:Pr}
structure KK (F G:PH) (g:Gr) (c m t s p l f:Sl) (b8:Nat):Prop where
 lF:F.le G
 hT:Tab G
 gs:GS G g c m t s p l f
 q8:G b8=Y3 (Y4 (g.arr c m t s p l f) 37)
 mg:MG g
 bd:Bd g 18 10
theorem KK.le {G':PH} (h:KK F G g c m t s p l f b8) (hl:G.le G'):KK F G' g c m t s p l f b8:=⟨aa h.lF hl,h.hT.le hl,h.gs.le hl,hl _ _ h.q8,h.mg,h.bd⟩
end
theorem RL.cutD {α:Type} [Mem α] {G:PH} {s:Sl} {l:List α} {n k:Nat} (h:RL G s l) (hn:Mem.n α=n) (h0:0<n) (hk:k<=s.len):RL G (Sl.cut s n k s.len s.cap) (l.drop k):=by subst hn;have hl:=h.len h0;obtain ⟨vs,hr,hd⟩:=h;refine ⟨vs.drop k,hr.drop k,?_⟩;have:=hd.cut (l:=k) (r:=s.len) (m:=s.cap) hk (W8 _) hd.cap;rw [hr.cat_drop,Xf (by rw [(hr.drop k).cat_len,YR,hl];exact W8 _)] at this;exact this
theorem NU:∃b z,SlT 50 63 2 b z:=⟨_,_,underlying50,Uy,UC,rfl,by decide,by decide⟩
theorem yV:∀a b:Int×Int,bT a=bT b->a=b:=λa b h=>by
 injection h with h
 have h:=congrArg Array.toList h;simp at h;exact Prod.ext h.1 h.2
theorem yW:∀a b:Int,aH a=aH b->a=b:=λa b h=>by have h:(vi a)=vi b:=h;injection h
section
variable {κ:Type} [DecidableEq κ] {enc:κ->ξ} {G G0 G1 F:PH} {As:List (Ψ)} {m:Nat} {S S':κ->Tr} {K:List κ} {A:Ψ}
theorem St.mA_at (h:St G F As) {i:Nat} (hi:As[i]? =Y3 A) (hA:∀H,A H->mS enc G0 m S H):∃o mp,F m=Y3 o/\eJ enc mp o/\jl G0 S mp:=by obtain ⟨H,hH,_,h4⟩:=h.get hi;obtain ⟨o,mp,h1,h2,h3⟩:=hA H hH;exact ⟨o,mp,h4 _ _ h1,h2,h3⟩
def mG (enc:κ->ξ) (K:List κ) (G:PH) (m:Nat) (S:κ->Tr):Ψ:=λH=>∃o mp,H m=Y3 o/\yS enc mp o/\jl G S mp/\∀n,mp n≠Y5->n∈K
theorem mG.mS {H:PH} (h:mG enc K G m S H):mS enc G m S H:=by obtain ⟨o,mp,h1,h2,h3,_⟩:=h;exact ⟨o,mp,h1,h2.mapO,h3⟩
theorem mG.le {H:PH} (h:mG enc K G0 m S H) (l:G0.le G1):mG enc K G1 m S H:=by obtain ⟨o,mp,h1,h2,h3,h4⟩:=h;exact ⟨o,mp,h1,h2,h3.le l,h4⟩
theorem St.mG_new (enc:κ->ξ) (K:List κ) (h:St G F (pt m (.map #[] 0)::As)):St G F (mG enc K G m (λ_=>Y0 Y6)::As):=
 h.imp (A':=mG enc K G m (λ_=>Y0 Y6)) 0 rfl λH _ hH=>⟨_,_,hH,yS.empty enc,jl.empty G,λ_ h=>absurd rfl h⟩
theorem St.mG_put {mt:TypeId} {z:ξ} (hm:gj prog mt enc z) (inj:∀a b,enc a=enc b->a=b) (h:St G F As) (i:Nat) (hi:As[i]? =Y3 (mG enc K G0 m S)) (l0:G0.le G) {n:κ} (hn:n∈K) {w:Γ} {t:Tr} (hw:DV G w (dia t)) {C:Ψ}
  (k:∀F',St G F' (As.set i (mG enc K G m (dx S n t)))->C F'):aF prog (Instr.mapUpdate mt (.map (Y3 m)) (enc n) (Y9 w)) F λ_ F=>C F:=by
 obtain ⟨H,⟨o,mp,a1,a2,a3,a4⟩,b2,b3,b4⟩:=h.set (A':=mG enc K G m (dx S n t)) hi;refine EI hm inj (b3 _ _ a1) a2 n (Y9 w) λo' ho'=>k _ ?_;refine b4 (H.set m o') _ ⟨o',_,al _ _ _,ho',(a3.le l0).put hw,λx hx=> ?_⟩ (λx hx=> ?_) (λx p hx=> ?_) (λx p hx hn=> ?_)
 ·by_cases e:x=n
  ·rw [e];exact hn
  ·rw [Υ e] at hx;exact a4 x hx
 ·by_cases e:x=m
  ·rw [e,a1];exact .inl (by simp)
  ·rw [az _ _ e] at hx;exact .inl hx
 ·by_cases e:x=m
  ·rw [e,al] at hx ⊢;exact hx
  ·rw [az _ _ e] at hx ⊢;exact b3 _ _ hx
 ·have e:x≠m:=λe=>by rw [e,a1] at hn;cases hn
  rw [az _ _ e];exact hx
end
section
variable {G G0 F:PH} {As:List (Ψ)} {m:Nat} {k:Nat} {A:Ψ}
theorem EN {S:Int×Int->Tr} (hA:∀H,A H->mS bT G0 m S H) (h:St G F (A::As)) (l0:G0.le G) (n:Int×Int):
  ν 75 #[.map (Y3 m),Y9 (wx n)] F λr F'=>∃G' w,r=Y9 w/\DV G' w (dia (S n))/\G.le G'/\St G' F' (A::As):=by
 refine Qu ?_;unfold NZ;refine h.new λb3 Fa h=> ?_;refine h.new λb4 F1 h=> ?_;refine ⟨_,rfl,ac (h.ptAt (i:=1) rfl),?_⟩;obtain ⟨o,mp,h1,h2,h3⟩:=h.mA_at (i:=2) rfl hA;have hlk:=bJ (F:=F1) Fw h1 h2 n Y8;rcases h3 n with ⟨e1,e2⟩|⟨w,e1,e2⟩
 ·rw [e1] at hlk;refine ⟨_,_,hlk,?_⟩;refine h.new λb5 F2 h=> ?_;refine h.put0 (w':=zD) rfl rfl (by simp [ak]) λF3 h=>⟨λhc=>(by cases hc),λ_=> ?_⟩;refine (h.call (fg Y6)).mono ?_;rintro _ F4 ⟨G',⟨w,rfl,hw,l1⟩,h⟩;refine ⟨w,rfl,?_⟩;refine h.put1 (w':=w) hw.size rfl hw.st λF5 h=>⟨w,hw.size,ac (h.ptAt (i:=1) rfl),?_⟩;exact ⟨G',w,rfl,by rw [e2];exact hw,l1,h.tail.tail.tail⟩
 ·rw [e1] at hlk;refine ⟨_,_,hlk,?_⟩;have hw:=e2.le l0;refine h.new λb5 F2 h=> ?_;refine h.put0 (w':=w) hw.size rfl hw.st λF3 h=>⟨λ_=>⟨w,hw.size,ac (h.ptAt (i:=0) rfl),?_⟩,λhc=>(by cases hc)⟩;refine h.put1 (w':=w) hw.size rfl hw.st λF5 h=>⟨w,hw.size,ac (h.ptAt (i:=1) rfl),?_⟩;exact ⟨G,w,rfl,hw,am _,h.tail.tail.tail⟩
end
section
variable {G F Gn:PH} {g:Gr} {k ms mn ban b4:Nat} {N:Int->Tr} {R:VR}
theorem U8 {q p:Sl} (hk:OkK g k) (hN:Sxs k N) (lN:Gn.le G) (hl:∀x∈g.YV,x.right.length<=1000000) (hp:g.YV.length<=1000000) (hrp:RL G p g.YV) (qa:∃c n t s p l f,G ban=Y3 (Y4 (anA g c n t s p l f q) 107)) (hq:RL G q (oO g g.YV.length))
  (q4:G b4=Y3 (Y4 #[.map (Y3 ms)] 113)) (h:St G F [mG bT (ja g.YV) G ms (λ_=>Y0 Y6),mS aH Gn mn N])
  (fin:∀G' F',G.le G'->St G' F' [mG bT (ja g.YV) G' ms (tH N (aD g) 0 g.YV λ_=>Y0 Y6)]->vb (Y3 (Zc ban 0 Y5)) b4 R F'):
  Lp (0:Int) F λN v F=>vd N (Zc ban 0 Y5) (Y3 mn) b4 p R v F:=by
 obtain ⟨_,_,T⟩:=NU;obtain ⟨c',n',t',s',p',l',f',qa⟩:=qa;have ep:=hrp.len;have eq:=hq.len;rw [jo] at eq
 refine bh (vd · (Zc ban 0 Y5) (Y3 mn) b4 p R) g.YV.length (λi F'=>∃(G':PH) (S:Int×Int->Tr),G.le G'/\Sxs k S/\(tH N (aD g) 0 g.YV λ_=>Y0 Y6)=tH N (aD g) i (g.YV.drop i) S/\
  St G' F' [mG bT (ja g.YV) G' ms S,mS aH Gn mn N]) ⟨G,_,am _,λ_=>Sx.Y0 k Y6,by rw [XK],h⟩ ?_
 rintro i F1 N1 hi ⟨G1,S1,l1,hS1,hst,h⟩ next;unfold vd;refine ⟨λhlt=> ?_,λhge=> ?_⟩
 ·have hlt:i<g.YV.length:=by omega
  refine h.ix (hrp.le l1) (by decide) (by omega) (by omega) λa c6 x hx hrow hc6=>⟨c6,Mem.len hc6,hrow,?_⟩;rw [N4] at hx;have hxm:=W7 hx;have hlx:=hl x hxm;have edrop:g.YV.drop i=x::g.YV.drop (i+1):=bP hx;refine h.var (Mem.st hc6) (λb6 G2 F2 l2 q6 h=> ?_) rfl (Mem.len hc6);obtain ⟨r,n6,l6,rfl,hr,hn6,_⟩:=hc6;have l12:=aa l1 l2;have hr2:=hr.le l2;have er:=hr2.len;have erc:=hr2.cap;refine ⟨_,ld (h.le _ _ q6) rfl,?_⟩
  refine bh (zh N1 · (Zc ban 0 Y5) (Y3 mn) b4 (i:Int) b6 p r R) x.right.length (λj F'=>∃(G':PH) (S2:Int×Int->Tr),G2.le G'/\Sxs k S2/\te N (aD g i) x 0 x.right S1=te N (aD g i) x j (x.right.drop j) S2/\
   ∃Bs,St G' F' ([mG bT (ja g.YV) G' ms S2,mS aH Gn mn N]++Bs)) ⟨G2,S1,am _,hS1,by rw [XK],[],h.imp 0 rfl λ_ _ hH=>mG.le hH l2⟩ ?_
  rintro j F3 N2 hj ⟨G3,S2,l3,hS2,hsx,Bs,h⟩ next2;replace h:St G3 F3 [mG bT (ja g.YV) G3 ms S2,mS aH Gn mn N]:=h.pick id (λ_ _ _ _ e=>e) λi hi=>by rw [id,Xh hi]
  unfold zh;refine ⟨λhjl=> ?_,λhjg=> ?_⟩
  ·have hjl:j<x.right.length:=by omega
   refine ixc (hr2.le l3) (by decide) (by omega) (by omega) λa8 c8 sy hsy hrow8 hc8=>⟨c8,Mem.len hc8,aU h.le hrow8,?_⟩;rw [N4] at hsy;obtain rfl:c8=sy.arr:=hc8;have edr:x.right.drop j=sy::x.right.drop (j+1):=bP hsy;refine h.var (by simp [ak]) (λb8 G4 F4 l4 q8 h=>⟨_,ld (h.le _ _ q8) rfl,λhyt=> ?_,λhyt=> ?_⟩) rfl rfl
   ·have hyt:sy.t=Y8:=hyt;unfold mY;rw [aA hjl];refine next2 _ hjl ⟨G4,S2,aa l3 l4,hS2,?_,[],h.imp 0 rfl λ_ _ hH=>mG.le hH l4⟩;rw [hsx,edr];show te N (aD g i) x (j+1) _ (if sy.t=Y8 then S2 else _)=_;rw [Χ hyt]
   ·have hyt:sy.t=Y6:=hyt;have l34:=aa l3 l4;have q64:=l34 _ _ q6;have hr4:=hr2.le l34;have hw1:IntKind.i64.wrap ((j:Int)+1)=((j+1:Nat):Int):=aA hjl;refine ⟨_,ld (h.le _ _ q64) rfl,by omega,by omega,by rw [N4];omega,_,ld (h.le _ _ q64) rfl,?_⟩;dsimp only;rw [hw1];refine ⟨by omega,by rw [N4];omega,erc,?_⟩;simp only [N4];obtain ⟨v1,ha1,hb1⟩:=hr4.cut (n:=2) rfl (k:=j) (by omega);obtain ⟨v2,ha2,hb2⟩:=hr4.cutD (n:=2) rfl (by decide) (k:=j+1) (by omega);refine h.new λb46 F5 h=> ?_;have h:=h.imp (A':=own (Zj (Y3 (Zc b46 0 Y5)) 0 0) 63 2 []) 0 rfl λH _ hH=>fY hH;have hcl1:(Sl.cut r 2 0 j r.cap).len=j:=by unfold Sl.cut;dsimp only;omega
    have hcl2:(Sl.cut r 2 (j+1) r.len r.cap).len=r.len - (j+1):=rfl;refine h.app0 T (hb1.le h.le) ha1.st (by rw [hcl1];show 0+j<=_;omega) λs1 F6 h hs1=> ?_;rw [XM] at h;refine ⟨ld (h.le _ _ q64) rfl,ld (h.le _ _ q64) rfl,?_⟩;have hs1:s1.len=0+j:=by rw [hs1,hcl1]
    refine h.app0 T (hb2.le h.le) ha2.st (by rw [hcl2];omega) λs2 F7 h hs2=> ?_;refine ⟨ld (h.le _ _ q64) rfl,ld (h.le _ _ q64) rfl,?_⟩;obtain ⟨G5,l5,hd5,h⟩:=h.pinO;have hoth:RL G5 s2 (x.right.eraseIdx j):=by rw [List.eraseIdx_eq_take_drop_succ];refine ⟨v1++v2,(ha1.le l5).append (ha2.le l5),?_⟩;rw [bY];exact hd5
    have hol:(x.right.eraseIdx j).length<=1000000:=by have:=List.length_eraseIdx_le x.right j;omega
    have eol:=hoth.len;have l15:=aa l12 (aa l34 l5);refine ⟨_,by rw [aE];exact ld (h.le _ _ (l15 _ _ qa)) rfl,?_⟩;refine ixc (hq.le l15) (by decide) (by omega) (by omega) λa9 c9 dd hdd hrow9 hc9=>⟨c9,Mem.len hc9,aU h.le hrow9,?_⟩;rw [N4] at hdd;have hdd:dd=dia (aD g i):=by unfold oO at hdd;rw [Xj,XF hlt] at hdd;exact (Xy hdd).symm
    have hc9:DV G5 c9 (dia (aD g i)):=by rw [<- hdd];exact hc9
    refine (gR h.swap (aa lN l15) hk.le hN (hk.prs i) hc9 hoth hol).mono ?_;rintro _ F8 ⟨G6,u,rfl,hu,l6,h⟩;have h:=h.swap;refine ⟨u,rfl,?_⟩;refine h.new λb10 F9 h=> ?_;refine h.put0 (w':=u) hu.size rfl hu.st λF10 h=> ?_;obtain ⟨hal,_⟩:=bz hN (x.right.eraseIdx j) (hk.prs i);obtain ⟨hsd,_⟩:=iY hN (hk.prs i) x.right j;have l56:=aa l5 l6
    refine bh (zg N1 N2 · (Zc ban 0 Y5) (Y3 mn) b4 (i:Int) b6 b8 b10 p r (j:Int) s2 R) (x.right.eraseIdx j).length (λe F'=>∃(G':PH) (y:Γ),G6.le G'/\
     DV G' y (dia (if ((x.right.eraseIdx j).take e).any (·.t)=Y8 then Y0 Y6 else dG N (aD g i) (x.right.eraseIdx j)))/\St G' F' [pt b10 (Y4 y 31),mG bT (ja g.YV) G3 ms S2,mS aH Gn mn N]) ⟨G6,u,am _,by rw [XY];exact hu,h⟩ ?_
    rintro e F11 N3 he ⟨G7,y,l7,hy,h⟩ next3;unfold zg;have l57:=aa l6 l7;refine ⟨λhel=> ?_,λheg=> ?_⟩
    ·have hel:e<(x.right.eraseIdx j).length:=by omega
     refine ixc (hoth.le l57) (by decide) (by omega) (by omega) λa12 c12 sz hsz hrow12 hc12=>⟨c12,Mem.len hc12,aU h.le hrow12,?_⟩;rw [N4] at hsz;obtain rfl:c12=sz.arr:=hc12;have et:=dz hsz;refine h.var (by simp [ak]) (λb12 G8 F12 l8 q12 h=>⟨_,ld (h.le _ _ q12) rfl,λhzt=> ?_,λhzt=> ?_⟩) rfl rfl
     ·have hzt:sz.t=Y8:=hzt;refine (h.call (fg Y6)).mono ?_;rintro _ F13 ⟨G9,⟨w,rfl,hw,l9⟩,h⟩;refine ⟨w,rfl,?_⟩;refine h.put0 (w':=w) hw.size hy.size hw.st λF14 h=> ?_;unfold vc;rw [aA hel];refine next3 _ hel ⟨G9,w,aa l7 (aa l8 l9),?_,h⟩;rw [et,List.any_append,List.any_cons,hzt,Bool.true_or,Bool.or_true,Χ rfl];exact hw
     ·have hzt:sz.t=Y6:=hzt;unfold vc;rw [aA hel];refine next3 _ hel ⟨G8,y,aa l7 l8,?_,h⟩;rw [et,List.any_append,List.any_cons,hzt,List.any_nil,YT,YT];exact hy.le l8
    ·have he:e=(x.right.eraseIdx j).length:=by omega
     subst he;rw [Xg] at hy;have hy:DV G7 y (dia (nU N (aD g i) x.right j)):=hy;have l37:=aa l4 (aa l5 l57);have go:∀{G' F':PH} {Bs:List (Ψ)},G7.le G'->St G' F' ([mG bT (ja g.YV) G' ms (bo S2 (x.left,sy.i) (nU N (aD g i) x.right j)),mS aH Gn mn N]++Bs)->mY N1 N2 (Zc ban 0 Y5) (Y3 mn) b4 (i:Int) b6 p r (j:Int) R F':=λ{G' F' Bs} l h=>by unfold mY;rw [hw1];refine next2 _ hjl ⟨G',_,aa l3 (aa l37 l),cO hS2 hsd,?_,Bs,h⟩;rw [hsx,edr];show te N (aD g i) x (j+1) _ (if sy.t=Y8 then S2 else _)=_;rw [hyt,Υ Ym]
     unfold Fj;obtain ⟨sd,ey,_⟩:=id hy;have q67:=aa (aa l3 l37) (am _) _ _ q6;refine ⟨_,ld (h.ptAt (i:=0) rfl) (by rw [ey];rfl),λh0=> ?_,λh0=> ?_⟩
     ·refine ⟨_,ld (h.le _ _ q67) rfl,_,ld (h.le _ _ (aa l5 l57 _ _ q8)) rfl,?_⟩;refine h.var (by simp [ak]) (λb13 G8 F12 l8 q13 h=> ?_) rfl rfl;have l18:=aa l15 (aa l57 l8);have q48:=l18 _ _ q4;have key:(x.left,sy.i)∈ja g.YV:=YC.2 ⟨x,hxm,Xi.2 ⟨sy,W7 hsy,rfl⟩⟩;refine ⟨_,ld (h.le _ _ q48) rfl,_,rfl,ac (h.le _ _ q13),_,ld (h.le _ _ q48) rfl,_,rfl,ac (h.le _ _ q13),y,hy.size,ac (h.ptAt (i:=0) rfl),?_⟩;refine (EN (λH hH=>mG.mS hH) h.swap (aa l37 l8) (x.left,sy.i)).mono ?_;rintro _ F13 ⟨G9,w,rfl,hw,l9,h⟩;have h:=h.swap;have q139:=l9 _ _ q13;have q49:=l9 _ _ q48;refine ⟨w,rfl,ac (h.ptAt (i:=0) rfl),ac (h.le _ _ q139),ld (h.le _ _ q49) rfl,?_⟩;refine h.run (P:=λr' G'=>∃z,r'=Zh #[Y9 z,vi 0]/\DV G' z (dia (ap2 oOr (S2 (x.left,sy.i)) (nU N (aD g i) x.right j)))) ((vo hk.le (hS2 _) hsd hw (hy.le (aa l8 l9))).mono λr F' ⟨x,a,b,c⟩=>⟨⟨x,a,b⟩,c⟩) λ_ G10 F14 hr10 l10 h=> ?_;obtain ⟨z,rfl,hz⟩:=hr10;refine ⟨_,_,rfl,ac (h.le _ _ (l10 _ _ q139)),ld (h.le _ _ (l10 _ _ q49)) rfl,?_⟩;refine h.runv (bx hz) λG11 F15 l11 h=>⟨_,rfl,ac (h.le _ _ (l11 _ _ (l10 _ _ q139))),ld (h.le _ _ (l11 _ _ (l10 _ _ q49))) rfl,?_⟩;have l711:=aa l8 (aa l9 (aa l10 l11));refine h.mG_put Fw yV 1 rfl (aa l37 l711) key (hz.le l11) λF16 h=> ?_;exact go (Bs:=[pt b10 (Y4 y 31)]) l711 h.rot
     ·have e0:nU N (aD g i) x.right j=Y0 Y6:=(fq hsd.1).1 (by simpa using h0);refine go (Bs:=[pt b10 (Y4 y 31)]) (am _) ?_;rw [e0,dy hS2];exact (h.imp 1 rfl λ_ _ hH=>mG.le hH l37).rot
  ·have hj:j=x.right.length:=by omega
   subst hj;rw [XQ] at hsx;have hsx:te N (aD g i) x 0 x.right S1=S2:=hsx;unfold Fh;rw [aA hlt];refine next _ hlt ⟨G3,S2,aa l12 l3,hS2,?_,h⟩;rw [hst,edrop];show tH N (aD g) (i+1) _ (te N (aD g i) x 0 x.right S1)=_;rw [hsx]
 ·have e:i=g.YV.length:=by omega
  subst e;rw [XQ] at hst;have hst:(tH N (aD g) 0 g.YV λ_=>Y0 Y6)=S1:=hst;refine fin G1 F1 l1 ?_;rw [hst];exact h.hd
end
abbrev Ns:=List (Int×Sl×Φ)
def nsF:Ns->Int->Option ξ
 |[],_=>Y5
 |e::l,a=>if a=e.1 then Y3 e.2.1.v else nsF l a
def nsL:Ns->Int->Φ
 |[],_=>[]
 |e::l,a=>if a=e.1 then e.2.2 else nsL l a
theorem tj {e:Int×Sl×Φ} {l:Ns} {a:Int} (h:a=e.1):nsF (e::l) a=Y3 e.2.1.v:=Χ h
theorem nV {e:Int×Sl×Φ} {l:Ns} {a:Int} (h:a≠e.1):nsF (e::l) a=nsF l a:=Υ h
theorem nW {e:Int×Sl×Φ} {l:Ns} {a:Int} (h:a=e.1):nsL (e::l) a=e.2.2:=Χ h
theorem lf {e:Int×Sl×Φ} {l:Ns} {a:Int} (h:a≠e.1):nsL (e::l) a=nsL l a:=Υ h
def nsO (l:Ns):List (Ψ):=l.map λe=>own e.2.1 3 1 (e.2.2.map vi)
section
variable {G F:PH}
theorem St.init {As Bs:List (Ψ)} (h:St G F (As++Bs)):St G F As:=h.pick id (λ_ _ _ _ e=>e) λi hi=>by rw [id,Xh hi]
theorem St.mid {A:Ψ} {Ps Qs:List (Ψ)} (h:St G F (Ps++A::Qs)):St G F (A::(Ps++Qs)):=by
 refine h.pick (λi=>if i=0 then Ps.length else if i<=Ps.length then i - 1 else i) (λi j _ _ e=> ?_) (λi hi=> ?_)
 ·split at e<;>split at e<;>(try split at e)<;>(try split at e)<;>omega
 ·by_cases h0:i=0
  ·rw [Χ h0,h0,Xn (W8 _),Nat.sub_self];rfl
  ·obtain ⟨j,rfl⟩:∃j,i=j+1:=⟨i - 1,by omega⟩;rw [Υ h0];by_cases h1:j+1<=Ps.length
   ·rw [Χ h1,Nat.add_sub_cancel,XB,Xh (by omega),Xh (by omega)]
   ·rw [Υ h1,XB,Xn (by omega),Xn (by omega)];rw [show j+1 - Ps.length=(j - Ps.length)+1 by omega,XB]
theorem Dt (a:Int):∀(l:Ns) (Ps:List (Ψ)),(l.map (·.1)).Nodup->St G F (Ps++nsO l)->∃s l',St G F (own s 3 1 ((nsL l a).map vi)::(Ps++nsO l'))/\(nsF l a).getD (Y7 Zi)=s.v/\
  (∀k,k≠a->nsF l' k=nsF l k/\nsL l' k=nsL l k)/\(l'.map (·.1)).Sublist (l.map (·.1))/\a ∉ l'.map (·.1)
 |[],Ps,_,h=>⟨Zi,[],h.nilOwn _ _,rfl,λ_ _=>⟨rfl,rfl⟩,List.Sublist.refl _,by simp⟩
 |e::l,Ps,hn,h=>by
  rw [Xw,X1] at hn;by_cases he:a=e.1
  ·have h':St G F (Ps++own e.2.1 3 1 (e.2.2.map vi)::nsO l):=h;refine ⟨e.2.1,l,?_,?_,λk hk=> ?_,?_,by rw [he];exact hn.1⟩
   ·have:=h'.mid;rw [nW he];exact this
   ·rw [tj he];rfl
   ·have hk':k≠e.1:=by rw [<- he];exact hk
    exact ⟨(nV hk').symm,(lf hk').symm⟩
   ·rw [Xw];exact List.sublist_cons_self _ _
  ·have h':St G F ((Ps++[own e.2.1 3 1 (e.2.2.map vi)])++nsO l):=by rw [XA];exact h
   obtain ⟨s,l',h1,h2,h3,h4,h5⟩:=Dt a l _ hn.2 h';refine ⟨s,e::l',?_,?_,λk hk=> ?_,?_,?_⟩
   ·rw [XA] at h1;rw [lf he];exact h1
   ·rw [nV he];exact h2
   ·obtain ⟨g1,g2⟩:=h3 k hk;by_cases ke:k=e.1
    ·rw [tj ke,tj ke,nW ke,nW ke];exact ⟨rfl,rfl⟩
    ·rw [nV ke,nV ke,lf ke,lf ke];exact ⟨g1,g2⟩
   ·rw [Xw,Xw];exact h4.cons_cons _
   ·rw [Xw,W6,not_or];exact ⟨he,h5⟩
theorem IY:∀(l:Ns) {G:PH},St G F (nsO l)->∃G',G.le G'/\(∀e∈l,RL G' e.2.1 e.2.2)/\St G' F []
 |[],G,h=>⟨G,am _,λ_ h=>(by cases h),h⟩
 |e::l,G,h=>by
  have h':St G F (own e.2.1 3 1 (e.2.2.map vi)::nsO l):=h;obtain ⟨G1,l1,hd,h1⟩:=h'.pinO;obtain ⟨G2,l2,hall,h2⟩:=IY l h1;refine ⟨G2,aa l1 l2,λx hx=> ?_,h2⟩;rcases W6.1 hx with rfl|hx
  ·exact RL.ints.2 (hd.le l2)
  ·exact hall x hx
theorem IZ {a:Int}:∀{l:Ns},(nsF l a=Y5/\nsL l a=[])\/∃e∈l,nsF l a=Y3 e.2.1.v/\nsL l a=e.2.2
 |[]=> .inl ⟨rfl,rfl⟩
 |e::l=>by
  by_cases he:a=e.1
  ·rw [tj he,nW he];exact .inr ⟨e,by simp,rfl,rfl⟩
  ·rw [nV he,lf he];rcases IZ (a:=a) (l:=l) with h|⟨x,hx,h⟩
   ·exact .inl h
   ·exact .inr ⟨x,Xo _ hx,h⟩
end
section
variable {G F:PH} {g:Gr} {ms b4:Nat} {a0:Θ} {T:Int×Int->Tr} {R:VR} {K:List (Int×Int)}
theorem U9 {es:Array MapEntry} {c:Nat} {L:List ((Int×Int)×ξ)} {mp:Int×Int->Option ξ} (q4:G b4=Y3 (Y4 #[.map (Y3 ms)] 113)) (qs:G ms=Y3 (.map es c)) (hL:ta bT mp es c L) (hS:jl G T mp) (hK:∀n,mp n≠Y5->n∈K) (hKl:K.length<=1000000)
  (h:St G F []) (fin:∀G' F' b14 mn nx,G.le G'->CyE G' b14 mn b4 ms nx T->(∀a b,T (a,b)≠Y0 Y6->b∈nx a)->(∀a b,b∈nx a->(a,b)∈K)->(∀a,(nx a).length<=K.length)->St G' F' []->va a0 b4 b14 R F'):
  vb a0 b4 R F:=by
 obtain ⟨_,_,TI⟩:=PR;unfold vb;refine h.newMap aH λmn F1 h=> ?_;refine h.var1 λb14 G1 F2 l1 q14 h=> ?_;have hesl:es.size<=K.length:=by rw [hL.len,<- Xd (f:=(·.1))];refine gI hL.nodup λx hx=> ?_;obtain ⟨p,hp,rfl⟩:=Xi.1 hx;refine hK _ ?_;rw [hL.lk,(j9 hL.nodup).2 hp];simp
 refine ⟨_,ld (h.le _ _ (l1 _ _ q4)) rfl,?_⟩;refine h.rangeG underlying113 bT (h.le _ _ (l1 _ _ qs)) λb100 F3 h=> ?_
 refine ⟨λq F'=>∃(G':PH) (ks:List (Int×Int)) (l:Ns),q=es.size - ks.length/\G1.le G'/\ks.Nodup/\(∀n∈ks,∃v,mp n=Y3 v)/\(l.map (·.1)).Nodup/\(∀a b,b∈nsL l a↔(a,b)∈ks)/\(∀a,(nsL l a).length<=ks.length)/\
  ∃Bs,St G' F' ([itG bT ms b100 es c ks,mpE mn aH (nsF l)]++nsO l++Bs),es.size,⟨G1,[],[],rfl,am _,List.nodup_nil,λ_ h=>(by cases h),List.nodup_nil,λa b=>by simp [nsL],λa=>by simp [nsL],[],h⟩,?_⟩
 rintro q F4 ⟨G2,ks,l,rfl,l2,hkn,hks,hln,hlk,hll,Bs,h⟩;replace h:St G2 F4 (itG bT ms b100 es c ks::mpE mn aH (nsF l)::nsO l):=St.init (As:=[itG bT ms b100 es c ks,mpE mn aH (nsF l)]++nsO l) h;unfold Ff;have l12:=aa l1 l2;refine h.nextG hL yV hkn hks (h.le _ _ (l12 _ _ qs)) (λhall=> ?_) λn v F5 hnv hnk hlt h hr hent=> ?_
 ·refine ⟨_,rfl,Y6,rfl,λhc=>(by cases hc),λ_=> ?_⟩;have h1:=h.tail;obtain ⟨G3,l3,⟨H,⟨o,e1,e2⟩,hH⟩,h2⟩:=h1.pin;obtain ⟨G4,l4,hRL,h3⟩:=IY l h2;have l24:=aa l2 (aa l3 l4);have l14:=aa l1 l24;refine fin G4 F4 b14 mn (nsL l) l14 ⟨l24 _ _ q14,l14 _ _ q4,⟨o,_,l4 _ _ (hH _ _ e1),e2,λa=> ?_⟩,⟨_,mp,l14 _ _ qs,⟨es,c,L,rfl,hL.eq,hL.lk⟩,hS.le l14⟩⟩ (λa b hT=> ?_) (λa b hb=> ?_) (λa=> ?_) h3
  ·rcases IZ (a:=a) (l:=l) with h|⟨e,he,g1,g2⟩
   ·exact .inl h
   ·exact .inr ⟨e.2.1,g1,by rw [g2];exact hRL e he⟩
  ·refine (hlk a b).2 ?_;rcases hS (a,b) with ⟨_,e⟩|⟨w,e,_⟩
   ·exact absurd e hT
   ·exact hall _ _ e
  ·obtain ⟨v,hv⟩:=hks _ ((hlk a b).1 hb);exact hK _ (by rw [hv];simp)
  ·have hsub:ks.length<=K.length:=gI hkn λx hx=>by obtain ⟨v,hv⟩:=hks x hx;exact hK _ (by rw [hv];simp)
   exact X4 (hll a) hsub
 ·refine ⟨_,rfl,Y8,rfl,λ_=> ?_,λhc=>(by cases hc)⟩;refine ⟨_,hent,wx n,rfl,?_⟩;refine h.var (by simp [ak]) (λb15 G3 F6 l3 q15 h=> ?_) rfl rfl;have l13:=aa l2 l3;have q143:=l13 _ _ q14;have c0:∀{G' F':PH} {As:List (Ψ)},G3.le G'->St G' F' As->F'.cell (Zb (Zc b15 0 Y5) (Int.toNat (0:Int)*1))=Y3 (vi n.1):=λl h=>by rw [aE];exact ld (h.le _ _ (l _ _ q15)) rfl
  have c14:∀{G' F':PH} {As:List (Ψ)},G3.le G'->St G' F' As->F'.cell (Zc b14 0 Y5)=Y3 (.map (Y3 mn)):=λl h=>ld (h.le _ _ (l _ _ q143)) rfl;obtain ⟨s,l',h,hsv,hoth,hsl,hna⟩:=Dt n.1 l [itG bT ms b100 es c (ks++[n]),mpE mn aH (nsF l)] hln h;have h:St G3 F6 (own s 3 1 ((nsL l n.1).map vi)::itG bT ms b100 es c (ks++[n])::mpE mn aH (nsF l)::nsO l'):=h;have hlook:=h.lookAt (i:=2) rfl PS n.1 Y6;rw [Υ Ym,hsv] at hlook;refine ⟨_,c14 (am _) h,by decide,by decide,_,c0 (am _) h,_,c14 (am _) h,by decide,by decide,_,c0 (am _) h,s,hlook,by decide,by decide,n.2,?_,?_⟩
  ·rw [aE];exact ld (h.le _ _ q15) rfl
  ·have hslen:s.len=(nsL l n.1).length:=by have:=(bV.rd (h.ownAt (i:=0) rfl).1).len;rw [Xd,Xz] at this;exact this.symm
   have hbl:=hll n.1;refine h.push0 TI (c:= #[vi n.2]) rfl (by simp [ak]) (by omega) λs' G4 F7 l4 h hs'=> ?_;refine ⟨c0 l4 h,c14 l4 h,c0 l4 h,c14 l4 h,?_⟩;refine h.updAt 2 rfl PS n.1 (Y7 s') λF8 h=> ?_;have hln':((n.1,s',nsL l n.1++[n.2])::l').map (·.1)=n.1::l'.map (·.1):=rfl;refine ⟨es.size - (ks++[n]).length,by rw [Xa,Xk];omega,G4,ks++[n],(n.1,s',nsL l n.1++[n.2])::l',rfl,aa l13 l4,?_,λx hx=> ?_,?_,λa b=> ?_,λa=> ?_,[],?_⟩
   ·rw [Xv];exact ⟨hkn,by simp,λa ha b hb e=>hnk (by rw [W5.1 hb] at e;rw [<- e];exact ha)⟩
   ·rcases W9.1 hx with hx|hx
    ·exact hks x hx
    ·rw [W5.1 hx];exact ⟨v,hnv⟩
   ·rw [hln',X1];exact ⟨hna,hsl.nodup hln⟩
   ·by_cases e:a=n.1
    ·rw [nW e,W9,W5,W9,W5,e,hlk];exact or_congr_right ⟨λh=>by rw [h],λh=>congrArg Prod.snd h⟩
    ·rw [lf e,(hoth a e).2,hlk,W9,W5];exact ⟨.inl,λh=>h.resolve_right λh=>e (congrArg Prod.fst h)⟩
   ·have:=hll a;by_cases e:a=n.1
    ·rw [nW e,Xa,Xa,Xk,Xk];omega
    ·rw [lf e,(hoth a e).2,Xa];omega
   ·have em:(λk'=>if k'=n.1 then Y3 (Y7 s') else nsF l k')=nsF ((n.1,s',nsL l n.1++[n.2])::l'):=by
     funext k';by_cases e:k'=n.1
     ·rw [Χ e,tj e]
     ·rw [Υ e,nV e,(hoth k' e).1]
    rw [em] at h;have h2:=h.back2;rw [XH];have e3:nsO ((n.1,s',nsL l n.1++[n.2])::l')=own s' 3 1 ((nsL l n.1).map vi++[vi n.2])::nsO l':=by unfold nsO;rw [Xw,Xt];rfl
    rw [e3];exact h2
end
theorem yX {κ:Type} (k:Nat) (S:κ->Tr):∀keys:List κ,mu k keys S<=keys.length*2 ^ k
 |[]=>Yz _
 |x::l=>by
  have:=yX k S l;have e:mu k (x::l) S=(2 ^ k - wt k (S x))+mu k l S:=by unfold mu;rw [Xw,List.sum_cons]
  rw [e,Xl,YJ,YA,Nat.add_comm];exact Nat.add_le_add this (Nat.sub_le _ _)
theorem RdS.at6 {F:PH} {s:Sl} {vs:Ξ} (h:RdS F s 1 vs) {i:Nat} {v:ξ} (hi:vs[i]? =Y3 v):∃a,s.YZ=Y3 a/\0<=(i:Int)/\(i:Int)<(s.len:Int)/\F.cell (Zb a (Int.toNat (i:Int)*1))=Y3 v:=by obtain ⟨hlt,rfl⟩:=N6.1 hi;have hl:=h.len;obtain ⟨b,o,h1,h2⟩:=h.cells (by omega);refine ⟨_,h1,by omega,by omega,?_⟩;rw [N4,Xz,aE];exact h2 i hlt
theorem Lu {G G0 F:PH} {As:List (Ψ)} {m i:Nat} {S:Int->Tr} (h:St G F As) (hi:As[i]? =Y3 (mS aH G0 m S)) (l0:G0.le G) (n:Int):∃w,rdo prog (Instr.lookup 95 (.map (Y3 m)) (vi n) Y6) F (Y9 w)/\DV G w (dia (S n)):=by
 obtain ⟨o,mp,h1,h2,h3⟩:=h.mS_at hi;have hl:=bJ (F:=F) xA h1 h2 n Y6;rcases h3 n with ⟨e1,e2⟩|⟨w,e1,e2⟩
 ·rw [e1] at hl;exact ⟨zD,hl,by rw [e2];exact DV.mk (s:=Zi) (d:=dia (Y0 Y6)) (RL.nil G)⟩
 ·rw [e1] at hl;exact ⟨w,hl,e2.le l0⟩
section
variable {G F:PH} {g:Gr} {k ms mn ban b4 b14:Nat} {T:Int×Int->Tr} {nx:Int->Φ} {R:VR}
theorem Va {K:List (Int×Int)} (hk:OkK g k) (hn:g.YW.length<=1000000) (hAn:AnV G ban g) (E:CyE G b14 mn b4 ms nx T) (hT:yU k g.YV (aD g) T) (h1:∀a b,T (a,b)≠Y0 Y6->b∈nx a) (h2:∀a b,b∈nx a->(a,b)∈K) (h3:∀a,(nx a).length<=K.length) (hKl:K.length<=1000000)
  (h:St G F []) (fin:∀G' F' mo C,G.le G'->mT k g.YW.length g.YV (aD g) C->St G' F' [mG aH (dv g.YW.length) G' mo C]->R (.map (Y3 mo)) F'):
  va (Y3 (Zc ban 0 Y5)) b4 b14 R F:=by
 obtain ⟨_,_,TI⟩:=PR;obtain ⟨c,n,t,s,p,lv,f,q,qa,hs,hq⟩:=hAn.ex;have es:=hs.s.len;have hfam:DV G #[n.v,vi g.fam.2] (dia (tre g.fam)):=by rw [<- hk.fam.2];exact DV.mk hs.n
 have hkeys:∀a,∀m∈nx a,m∈K.map (·.2):=λa m hm=>Xi.2 ⟨_,h2 a m hm,rfl⟩;have hkl:(K.map (·.2)).length*2 ^ k<=64000000:=by rw [Xd];have:2 ^ k<=64:=X4 (XO (by decide) hk.le) (by decide);exact X4 (Nat.mul_le_mul hKl this) (by decide)
 unfold va;refine h.new λmo F1 h=> ?_;have h:=h.mG_new aH (dv g.YW.length);refine ⟨_,rfl,_,by rw [aE];exact ld (h.le _ _ qa) rfl,?_⟩
 refine bh (ze · (Zc ban 0 Y5) b4 b14 mo s R) g.YW.length (λi F'=>∃(G':PH) (C:Int->Tr),G.le G'/\Sxs k C/\(∀(a:Nat) c,a<i->((C a).ev c=Y8↔Tg (Stp g.YV (aD g) c) a a))/\(∀a:Nat,i<=a->C a=Y0 Y6)/\
  ∃Bs,St G' F' (mG aH (dv g.YW.length) G' mo C::Bs)) ⟨G,_,am _,λ_=>Sx.Y0 k Y6,λa c ha=>by omega,λ_ _=>rfl,[],h⟩ ?_
 rintro i F2 N1 hi ⟨G2,C,l2,hC,hC1,hC2,Bs,h⟩ next;have h:=h.hd;have E2:=E.le l2;unfold ze;refine ⟨λhlt=> ?_,λhge=> ?_⟩
 ·have hlt:i<g.YW.length:=by omega
  obtain ⟨sn,hlk,hsn⟩:=E2.look h.le (i:Int);have hsl:=hsn.len;refine ⟨_,ld (h.le _ _ E2.q14) rfl,sn,hlk,λh0=> ?_,λh0=> ?_⟩
  ·have e0:nx (i:Int)=[]:=Xp (by omega);unfold u9;rw [aA hlt];refine next _ hlt ⟨G2,C,l2,hC,λa c ha=> ?_,λa ha=>hC2 a (by omega),[],h⟩;by_cases e:a=i
   ·subst e;rw [hC2 a (W8 _)];refine ⟨λh=>(by cases h),λtg=> ?_⟩;obtain ⟨d,hd⟩:=tg.head;have:=(hT.iff ((a:Int),d) c).2 hd;have hin:=h1 a d λe=>by rw [e] at this;cases this
    rw [e0] at hin;cases hin
   ·exact hC1 a c (by omega)
  ·refine h.new λmr F3 h=> ?_;have h:=h.toMap aH;refine h.var1 λb18 G3 F4 l3 q18 h=> ?_;refine h.new λb132 F5 h=> ?_;have h:=h.imp (A':=que 3 (Zj (Y3 (Zc b132 0 Y5)) 0 0) []) 0 rfl λH _ hH=>EM hH;refine h.new λb19 F6 h=> ?_;refine h.set0 (w':= #[Y7 (Zj (Y3 (Zc b132 0 Y5)) 0 0)]) (Zn rfl) rfl λF7 h=> ?_;have l23:=aa l2 l3;refine ⟨#[n.v,vi g.fam.2],rfl,by rw [aE];exact je (h.le _ _ (l23 _ _ qa)) rfl,?_⟩;have h:St G3 F7 (mS aH G3 mr (λ_=>Y0 Y6)::pt b19 (Y4 #[Y7 (Zj (Y3 (Zc b132 0 Y5)) 0 0)] 67)::que 3 (Zj (Y3 (Zc b132 0 Y5)) 0 0) (([]:Φ).map vi)::[mG aH (dv g.YW.length) G2 mo C]):=
    (h.front2).imp 0 rfl λ_ _ hH=>mS.le hH l3
   refine (oM (keys:=K.map (·.2)) hk.le (E.le l23) q18 hT.sx hk.fam.1 (hfam.le l23) (λ_=>Sx.Y0 k Y6) (λm=>h1 _ m) (λm=>hkeys _ m) (by have:=h3 i;omega) (by simp) h).mono ?_;rintro _ F8 ⟨G4,R4,ps,qs4,rfl,l4,hv,h⟩;have l34:=aa l23 l4;refine ⟨rfl,?_⟩;have hmu0:=yX k (λ_:Int=>Y0 Y6) (K.map (·.2))
   refine ⟨λq F'=>∃(G':PH) (R':Int->Tr) (qq:Φ) (qs':Sl),q=mu k (K.map (·.2)) R'+qq.length/\G4.le G'/\q<=64000000/\Bfs k g.YV (aD g) T (tre g.fam) i R' qq/\
    St G' F' (mS aH G' mr R'::pt b19 (Y4 #[Y7 qs'] 67)::que 3 qs' (qq.map vi)::[mG aH (dv g.YW.length) G2 mo C]),_,⟨G4,R4,ps,qs4,rfl,am _,by have:=hv.mu;omega,Bfs.start hT hv,h⟩,?_⟩
   rintro q F9 ⟨G5,R5,qq,qs5,rfl,l5,hq5,hb,h⟩;have l35:=aa l34 l5;have q185:=l5 _ _ (l4 _ _ q18);have hqd:=h.queAt (i:=2) rfl;have hql:=hqd.len;rw [Xd,Xz] at hql;have hqc:=hqd.cap;unfold Fe;refine ⟨_,ld (h.ptAt (i:=1) rfl) rfl,λhpos=> ?_,λhz=> ?_⟩
   ·cases qq with
    |nil=>rw [List.length_nil] at hql;omega
    |cons m qq=>
     obtain ⟨a,g1,g2,g3,g4⟩:=hqd.at6 (i:=0) (v:=vi m) rfl;refine ⟨_,ld (h.ptAt (i:=1) rfl) rfl,a,g1,g2,g3,m,g4,_,ld (h.ptAt (i:=1) rfl) rfl,by omega,hqc,?_⟩;refine h.set1 (w':= #[Y7 (Sl.cut qs5 1 1 qs5.len qs5.cap)]) (Zn rfl) rfl λF10 h=> ?_;have h:=h.imp (A':=que 3 (Sl.cut qs5 1 1 qs5.len qs5.cap) (qq.map vi)) 2 rfl λH _ hH=>Lm hH;rw [Xl] at hq5;refine ⟨λhne=> ?_,λhe=> ?_⟩
     ·obtain ⟨w,hlw,hw⟩:=Lu h (i:=0) rfl (am _) m;refine ⟨_,ld (h.le _ _ q185) rfl,w,hlw,?_⟩;refine (oM (keys:=K.map (·.2)) hk.le (E.le l35) q185 hT.sx (hb.sx m) hw hb.sx (λm'=>h1 _ m') (λm'=>hkeys _ m') (by have:=h3 m;omega) (by omega) h).mono ?_;rintro _ F11 ⟨G6,R6,ps6,qs6,rfl,l6,hv6,h⟩;have:=hv6.mu;exact ⟨rfl,_,by rw [Xl];show mu k (K.map (·.2)) R6+(qq++ps6).length<_;rw [Xa];omega,G6,R6,qq++ps6,qs6,rfl,aa l5 l6,by rw [Xa];omega,hb.visit hT hv6,h⟩
     ·have he:m=(i:Int):=by simpa using he
      subst he;exact ⟨_,by rw [Xl];show mu k (K.map (·.2)) R5+qq.length<_;omega,G5,R5,qq,_,rfl,l5,by omega,hb.skip,h⟩
   ·have e0:qq=[]:=Xp (by omega);subst e0;unfold Fd;refine ⟨_,ld (h.le _ _ q185) rfl,?_⟩;refine (fo h (am _) (i:Int)).mono ?_;rintro _ F10 ⟨G6,w,rfl,hw,l6,h⟩;refine ⟨w,rfl,?_⟩;have l26:G2.le G6:=aa l3 (aa l4 (aa l5 l6));refine h.mG_put xA yW 3 rfl l26 (W7 (sZ hlt)) hw λF11 h=> ?_;unfold u9;rw [aA hlt];refine next _ hlt ⟨G6,_,aa l2 l26,hC.upd (hb.sx _),λa c ha=> ?_,λa ha=> ?_,_,h.front3⟩
    ·unfold dx;by_cases e:a=i
     ·rw [Χ (by rw [e]),e];exact hb.fin hT (λa b c=>hk.stp_fam) c
     ·rw [Υ (by omega)];exact hC1 a c (by omega)
    ·unfold dx;rw [Υ (by omega)];exact hC2 a (by omega)
 ·have e:i=g.YW.length:=by omega
  subst e;unfold Fc;exact fin G2 F2 mo C l2 ⟨hC,λa c ha=>hC1 a c ha⟩ h
end
section
variable {G F:PH} {g:Gr} {k:Nat}
theorem dp (h:OkG g):g.YV.length<=2000/\g.YW.length<=2000/\g.YX.length<=256/\∀x∈g.YV,x.right.length<=16:=by have hl:=h.large;unfold bM at hl;rw [Bool.or_eq_false_iff,List.any_eq_false] at hl;have:=η hl.1;refine ⟨by omega,by omega,by omega,λx hx=> ?_⟩;have h2:=hl.2 x hx;rw [δ] at h2;omega
theorem yY {ban:Nat} (hk:OkK g k) (hAn:AnV G ban g) (h:St G F []):
  ν 59 #[Ze (Y3 ⟨ban,0,Y5⟩)] F λr F'=>∃G' mo C,r=.map (Y3 mo)/\G.le G'/\mT k g.YW.length g.YV (aD g) C/\St G' F' [mG aH (dv g.YW.length) G' mo C]:=by
 obtain ⟨o1,o2,o3,o4⟩:=dp hk.ok;have hl:∀x∈g.YV,x.right.length<=1000000:=λx hx=>by have:=o4 x hx;omega
 have hKl:(ja g.YV).length<=1000000:=by have:=EL o4;omega
 refine Vq ?_;unfold Qi;refine (cX hk hl (by omega) hAn h).mono ?_;rintro _ F1 ⟨G1,mnn,N,rfl,l1,hN,h⟩;refine ⟨_,rfl,?_⟩;refine h.new λms F2 h=> ?_;have h:=h.mG_new bT (ja g.YV);refine h.var1 λb4 G2 F3 l2 q4 h=> ?_;obtain ⟨c,n,t,s,p,lv,f,q,qa,hs,hq⟩:=(hAn.le (aa l1 l2)).ex;refine ⟨_,rfl,_,by rw [aE];exact ld (h.le _ _ qa) rfl,?_⟩;refine U8 hk hN.sx l2 hl (by omega) hs.p ⟨c,n,t,s,p,lv,f,qa⟩ hq q4 (h.imp 0 rfl λ_ _ hH=>mG.le hH l2) λG3 F4 l3 h=> ?_;obtain ⟨G4,l4,⟨H,⟨o,mp,e1,⟨es,cc,L,rfl,hL⟩,e3,e4⟩,hH⟩,h⟩:=h.pin;refine U9 (l4 _ _ (l3 _ _ q4)) (hH _ _ e1) hL (e3.le l4) e4 hKl h λG5 F5 b14 mn nx l5 E5 g1 g2 g3 h=> ?_;have l15:=aa l1 (aa l2 (aa l3 (aa l4 l5)));refine Va hk (by omega) (hAn.le l15) E5 (Ll hN hk.prs) g1 g2 g3 hKl h λG6 F6 mo C l6 hC h=> ?_;exact ⟨G6,mo,C,rfl,aa l15 l6,hC,h⟩
end
theorem PT:aC prog 58=Y8:=by kernel_rfl
theorem PU:aC prog 71=Y8:=by kernel_rfl
def PV (k:Nat) (g:Gr) (ds:List Dia):Prop:=∃C,mT k g.YW.length g.YV (aD g) C/\ds=bK C g.YW.length
def lh (g:Gr):Prop:=∃(n:Nat) (c:Cf),n<g.YW.length/\Tg (Stp g.YV (aD g) c) n n
section
variable {G F:PH} {g:Gr} {k:Nat}
theorem mU {ban:Nat} {As:List (Ψ)} (hk:OkK g k) (hAn:AnV G ban g) (h:St G F As):
  ν 59 #[Ze (Y3 ⟨ban,0,Y5⟩)] F λr F'=>∃G' mo C,r=.map (Y3 mo)/\G.le G'/\mT k g.YW.length g.YV (aD g) C/\St G' F' (mG aH (dv g.YW.length) G' mo C::As):=by
 have h0:St G F ([]++As):=h;refine (h0.callL (P:=λr G'=>∃mo C,r=.map (Y3 mo)/\mT k g.YW.length g.YV (aD g) C) (Bs':=λr G'=>[λH=>∃mo C,(r=.map (Y3 mo)/\mT k g.YW.length g.YV (aD g) C)/\mG aH (dv g.YW.length) G' mo C H]) λF1 h1=> ?_).mono ?_
 ·refine (yY hk hAn h1).mono ?_;rintro r F2 ⟨G',mo,C,h1,h2,h3,h4⟩;exact ⟨G',⟨mo,C,h1,h3⟩,h2,h4.imp 0 rfl λH _ hH=>⟨mo,C,⟨h1,h3⟩,hH⟩⟩
 ·rintro r F2 ⟨G',_,h2,h⟩;obtain ⟨mo,h⟩:=h.exI 0 rfl;obtain ⟨C,h⟩:=h.exI 0 rfl;obtain ⟨⟨e1,e2⟩,h⟩:=h.prI 0 rfl;exact ⟨G',mo,C,e1,h2,e2,h⟩
theorem xk {v:Γ} {ban b1 b2:Nat} (hk:OkK g k) (hAn:AnV G ban g) (q1:G b1=Y3 (Y4 v 37)) (hg:GV G v g)
  (h:St G F [pt b2 (Y4 #[Y7 Zi] 39)]):ν 58 #[Ze (Y3 ⟨ban,0,Y5⟩),Ze (Y3 ⟨b1,0,Y5⟩),Ze (Y3 ⟨b2,0,Y5⟩)] F λr F'=>∃G',r=Zh #[]/\G.le G'/\St G' F' (IS (PV k g) b2 G'):=by
 obtain ⟨o1,o2,o3,o4⟩:=dp hk.ok;obtain ⟨c,n,t,s,p,l,f,rfl,hgs⟩:=hg;have es:=hgs.s.len;refine Vp ?_;unfold Qh;refine ⟨_,rfl,_,by rw [aE];exact ld (h.le _ _ q1) rfl,?_⟩;refine (mU hk hAn h).mono ?_;rintro _ F1 ⟨G1,mo,C,rfl,l1,hC,h⟩;have h:=h.imp 0 rfl λ_ _ hH=>mG.mS hH;refine ⟨_,rfl,by rw [aE];exact ld (h.le _ _ (l1 _ _ q1)) rfl,?_⟩;rw [es];refine (fE h hk.le g.YW.length (λi _=>hC.sx i) (by omega)).mono ?_;rintro _ F2 ⟨G2,sl,rfl,l2,hsl,h⟩;refine ⟨_,rfl,by rw [aE];exact ld (h.le _ _ (l2 _ _ (l1 _ _ q1))) rfl,_,rfl,?_⟩;refine h.set0 (w':= #[Y7 sl]) (Zn rfl) rfl λF3 h=>⟨G2,rfl,aa l1 l2,?_⟩;exact h.imp 0 rfl λH _ hH=>⟨sl,_,⟨C,hC,rfl⟩,hsl,hH⟩
theorem tn {v:Γ} (hT:Tab F) (hg:GV F v g) (hz:Sz g) (hk:OkK g k):
  ν 19 #[Y9 v] F λr F'=>(∃sl ds,r=Zh #[Y7 sl,vi 0]/\PV k g ds/\RL F' sl ds)/\F.le F':=by
 obtain ⟨o1,o2,o3,o4⟩:=dp hk.ok;refine Vg ?_;unfold P6;refine (St.start F).newG λb1 G1 F1 l1 q1 _ h=>h.new λb2 F2 h=>⟨v,hg.size,ac (h.le _ _ q1),?_⟩;refine (eG (kr:=58) (fst:= #[]) (cap:= #[Ze (Y3 ⟨b1,0,Y5⟩),Ze (Y3 ⟨b2,0,Y5⟩)]) (Bs:=IS (PV k g) b2) (hT.le l1) (hg.le l1) hz hk (λx hx=>by have:=o4 x hx;omega) (by omega) h PT λG' ban F' l hAn h=> ?_).mono ?_
 ·rw [xB];exact xk hk hAn (l _ _ q1) ((hg.le l1).le l) h
 rintro _ F3 ⟨rfl,G3,l3,h⟩;obtain ⟨sl,ds,h1,h2,h⟩:=uO h;refine ⟨_,rfl,sl,h.ld0 rfl,?_⟩;refine h.set0 (w':= #[Y7 sl]) (Zn rfl) rfl λF4 h=>⟨_,h.ld0 rfl,⟨sl,ds,rfl,h1,h2.le h.le⟩,aa l1 (aa l3 h.le)⟩
theorem Lw {C:Int->Tr} (hC:mT k g.YW.length g.YV (aD g) C):(∃n:Nat,n<g.YW.length/\C n≠Y0 Y6)↔lh g:=by
 constructor
 ·rintro ⟨n,hn,hne⟩;have hex:¬∀c,(C n).ev c=(Y0 Y6).ev c:=λh=>hne (eQ (hC.sx n).1 trivial h);obtain ⟨c,hc⟩:=Classical.not_forall.1 hex;refine ⟨n,c,hn,(hC.iff n c hn).1 ?_⟩;cases e:(C n).ev c with
  |true=>rfl
  |false=>rw [e] at hc;exact absurd rfl hc
 ·rintro ⟨n,c,hn,h⟩;have:=(hC.iff n c hn).2 h;exact ⟨n,hn,λe=>by rw [e] at this;cases this⟩
def Vb (A:Bool->Prop) (b:Nat) (G:PH):List (Ψ):=[λH=>∃q,A q/\H b=Y3 (Y4 #[Za q] 4)]
theorem yZ {ban b3:Nat} (hk:OkK g k) (hAn:AnV G ban g)
  (h:St G F [pt b3 (Y4 #[Za Y6] 4)]):ν 71 #[Ze (Y3 ⟨ban,0,Y5⟩),Ze (Y3 ⟨b3,0,Y5⟩)] F λr F'=>∃G',r=Zh #[]/\G.le G'/\St G' F' (Vb (λq=>q=Y8↔lh g) b3 G'):=by
 refine Vx ?_;unfold Qp;refine (mU hk hAn h).mono ?_;rintro _ F1 ⟨G1,mo,C,rfl,l1,hC,h⟩;refine ⟨_,rfl,?_⟩;obtain ⟨G2,l2,⟨H,⟨o,mp,e1,⟨es,c,L,rfl,hL⟩,e3,e4⟩,hH⟩,h⟩:=h.pin;have qo:=hH _ _ e1;have hS:=e3.le l2;refine h.rangeG underlying95 aH (h.le _ _ qo) λb7 F2 h=> ?_
 refine ⟨λq F'=>∃(G':PH) (ks:Φ) (fd:Bool),q=es.size - ks.length/\G2.le G'/\ks.Nodup/\(∀n∈ks,∃v,mp n=Y3 v)/\(fd=Y8↔∃n∈ks,C n≠Y0 Y6)/\
  St G' F' [itG aH mo b7 es c ks,pt b3 (Y4 #[Za fd] 4)],_,⟨G2,[],Y6,rfl,am _,List.nodup_nil,λ_ h=>(by cases h),by simp,h⟩,?_⟩
 rintro q F3 ⟨G3,ks,fd,rfl,l3,hkn,hks,hfd,h⟩;unfold Fp;refine h.nextG hL yW hkn hks (h.le _ _ (l3 _ _ qo)) (λhall=> ?_) λn v F4 hnv hnk hlt h hr hent=> ?_
 ·refine ⟨_,rfl,Y6,rfl,λhc=>(by cases hc),λ_=> ?_⟩;refine ⟨G3,rfl,aa l1 (aa l2 l3),h.tail.imp 0 rfl λH _ hH=>⟨fd,?_,hH⟩⟩;dsimp only;rw [hfd,<- Lw hC];constructor
  ·rintro ⟨n,hn,hne⟩;obtain ⟨v,hv⟩:=hks n hn;have hm:=e4 n (by rw [hv];simp);obtain ⟨i,hi,rfl⟩:=Xi.1 hm;exact ⟨i,XN.1 hi,hne⟩
  ·rintro ⟨n,hn,hne⟩;rcases hS (n:Int) with ⟨_,e⟩|⟨w,e,_⟩
   ·exact absurd e hne
   ·exact ⟨n,hall _ _ e,hne⟩
 ·refine ⟨_,rfl,Y8,rfl,λ_=> ?_,λhc=>(by cases hc)⟩;have hw:∃w,v=Y9 w/\DV G2 w (dia (C n)):=by
   rcases hS n with ⟨e,_⟩|⟨w,e,hw⟩
   ·rw [e] at hnv;cases hnv
   ·rw [e] at hnv;cases hnv;exact ⟨w,rfl,hw⟩
  obtain ⟨w,rfl,hw⟩:=hw;refine ⟨_,hent,w,rfl,?_⟩;refine h.var hw.st (λb4 G4 F5 l4 q4 h=> ?_) rfl hw.size;have l34:=aa l3 l4;have nd:(ks++[n]).Nodup:=by rw [Xv];exact ⟨hkn,by simp,λa ha b hb e=>hnk (by rw [W5.1 hb] at e;rw [<- e];exact ha)⟩
  have hks':∀x∈ks++[n],∃v,mp x=Y3 v:=λx hx=>by
   rcases W9.1 hx with hx|hx
   ·exact hks x hx
   ·rw [W5.1 hx];exact ⟨_,hnv⟩
  have ms:es.size - (ks++[n]).length<es.size - ks.length:=by rw [Xa,Xk];omega
  refine ⟨_,rfl,fd,ld (h.ptAt (i:=1) rfl) rfl,λht=> ?_,λhf=> ?_⟩
  ·refine h.set1 (w':= #[Za Y8]) (Zn rfl) rfl λF6 h=> ?_;refine ⟨_,ms,G4,ks++[n],Y8,rfl,l34,nd,hks',⟨λ_=> ?_,λ_=>rfl⟩,h⟩;obtain ⟨x,hx,hne⟩:=hfd.1 ht;exact ⟨x,W9.2 (.inl hx),hne⟩
  ·obtain ⟨sd,ew,_⟩:=id hw;refine ⟨_,ld (h.le _ _ q4) (by rw [ew];rfl),?_⟩;refine h.set1 (w':= #[Za (decide ((dia (C n)).2≠0))]) (Zn rfl) rfl λF6 h=> ?_;refine ⟨_,ms,G4,ks++[n],_,rfl,l34,nd,hks',?_,h⟩;rw [δ];have hno:¬∃n∈ks,C n≠Y0 Y6:=λh=>by rw [hfd.2 h] at hf;cases hf
   constructor
   ·intro hne;exact ⟨n,by simp,λe=>hne ((fq (hC.sx n).1).2 e)⟩
   ·rintro ⟨x,hx,hne⟩ h0;rcases W9.1 hx with hx|hx
    ·exact hno ⟨x,hx,hne⟩
    ·rw [W5.1 hx] at hne;exact hne ((fq (hC.sx n).1).1 h0)
theorem tp {v:Γ} (hT:Tab F) (hg:GV F v g) (hz:Sz g) (hk:OkK g k):
  ν 23 #[Y9 v] F λr F'=>(lh g/\r=vi 60\/¬lh g/\r=vi 0)/\F.le F':=by
 obtain ⟨o1,o2,o3,o4⟩:=dp hk.ok;refine Vi ?_;unfold Qa;refine (St.start F).newG λb1 G1 F1 l1 q1 _ h=>h.new λb3 F2 h=> ?_;refine h.set0 (w':= #[Za Y6]) (Zn rfl) rfl λF3 h=>⟨v,hg.size,ac (h.le _ _ q1),?_⟩;refine (eG (kr:=71) (fst:= #[]) (cap:= #[Ze (Y3 ⟨b3,0,Y5⟩)]) (Bs:=Vb (λq=>q=Y8↔lh g) b3) (hT.le l1) (hg.le l1) hz hk (λx hx=>by have:=o4 x hx;omega) (by omega) h PU λG' ban F' l hAn h=> ?_).mono ?_
 ·have e:(#[]++ #[Ze (Y3 ⟨ban,0,Y5⟩)]++ #[Ze (Y3 ⟨b3,0,Y5⟩)]:Γ)= #[Ze (Y3 ⟨ban,0,Y5⟩),Ze (Y3 ⟨b3,0,Y5⟩)]:=by simp
  rw [e];exact yZ hk hAn h
 rintro _ F3 ⟨rfl,G3,l3,h⟩;obtain ⟨q,h⟩:=h.exI 0 rfl;obtain ⟨hq,h⟩:=h.prI 0 rfl;have h:St G3 F3 [pt b3 (Y4 #[Za q] 4)]:=h;refine ⟨_,rfl,λ_=>⟨q,h.ld0 rfl,λht=> ?_,λhf=> ?_⟩,λe=>absurd rfl e⟩
 ·exact ⟨.inl ⟨hq.1 ht,rfl⟩,aa l1 (aa l3 h.le)⟩
 ·exact ⟨.inr ⟨λhc=>(by rw [hq.2 hc] at hf;cases hf),rfl⟩,aa l1 (aa l3 h.le)⟩
end
