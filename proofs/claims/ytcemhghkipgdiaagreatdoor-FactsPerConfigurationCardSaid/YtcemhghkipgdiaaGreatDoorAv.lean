/-
  Package facts: First.
-/
import Derived.Test.YtcemhghkipgdiaaGreatDoorAm
import Derived.Test.YtcemhghkipgdiaaGreatDoorAt
namespace Go.Proofs.YtcemhghkipgdiaaGreatDoor
open Go Go.Proofs.Tryz Tr
set_option maxRecDepth 10000
section
variable {G G0 F:PH} {As:List (Ψ)} {m:Nat} {k:Nat}
theorem uw {S:Int×Int->Tr} {b2 b4:Nat} {ch:Bool} {w:Γ} {d:Tr} (h:St G F (mS bU G0 m S::pt b4 (.cells #[.bool ch] 4)::As)) (l0:G0.le G) (hk:k<=6) (hS:Sxs k S) (hx:Sx k d) (hd:DV G w (dia d))
  (h2:G.cell ⟨b2,0,none⟩=some (.map (some m))) (n:Int×Int):
  ai prog 125 #[.agg (vn n),.agg w,.pointer (some ⟨b2,0,none⟩),.pointer (some ⟨b4,0,none⟩)] F λr F'=>∃G' ch',r=.tuple #[]/\(ch'=true↔ch=true\/cC S n d≠S)/\G.le G'/\
   St G' F' (mS bU G' m (cC S n d)::pt b4 (.cells #[.bool ch'] 4)::As):=by
 refine SF ?_;unfold LJ;have up:∀{G1 G2 F':PH} {S':Int×Int->Tr} {As':List (Ψ)},St G2 F' (mS bU G1 m S'::As')->G1.le G2->St G2 F' (mS bU G2 m S'::As'):=λ{G1 G2 F' S' As'} h l=>h.imp 0 rfl λH _ ⟨o,mp,a1,a2,a3⟩=>⟨o,mp,a1,a2,a3.le l⟩;obtain ⟨s,rfl,_⟩:=id hd;refine h.newG λbk Gk Fk lk qk _ h=> ?_;replace hd:=hd.le lk;replace h2:=aH lk h2;have l0:=aa l0 lk;refine h.newG λb5 G1 F1 l1 q5 _ h=>⟨_,ld (h.le _ _ q5) rfl,λh0=> ?_,λh0=> ?_⟩
 ·have e:=(dU hx.1).1 h0;refine ⟨G1,ch,rfl,?_,aa lk l1,?_⟩
  ·rw [e,dD hS];simp
  ·rw [e,dD hS];exact up h (aa l0 l1)
 ·refine ⟨_,rfl,_,aH (aa l1 h.le) h2,_,rfl,ac (h.le _ _ (l1 _ _ qk)),?_⟩;refine (sj h (aa l0 l1) n).mono ?_;rintro _ F2 ⟨G2,u,rfl,hu,l2,h⟩;refine ⟨u,rfl,?_⟩;refine h.var hu.st (λb6 G3 F3 l3 q6 h=> ?_) rfl hu.size;have l13:=aa l2 l3;refine ⟨u,hu.size,ac (h.le _ _ q6),_,rfl,ac (h.le _ _ (l13 _ _ q5)),?_⟩;refine h.run (P:=λr G'=>∃x,r=.tuple #[.agg x,vi 0]/\DV G' x (dia (ap2 oOr (S n) d))) ((wl hk (hS n) hx (hu.le l3) (hd.le (aa l1 l13))).mono λr F' ⟨x,a,b,c⟩=>⟨⟨x,a,b⟩,c⟩) λ_ G4 F4 hr l4 h=> ?_;obtain ⟨x,rfl,hxx⟩:=hr;refine ⟨_,_,rfl,?_⟩;refine h.runv (bq hxx) λG5 F5 l5 h=>⟨_,rfl,?_⟩;refine h.var hxx.st (λb7 G6 F6 l6 q7 h=> ?_) rfl hxx.size;have l36:=aa l4 (aa l5 l6);refine ⟨u,hu.size,ac (h.le _ _ (l36 _ _ q6)),x,hxx.size,ac (h.le _ _ q7),?_⟩;refine h.runv (jQ (hu.le (aa l3 l36)) (hxx.le (aa l5 l6)) (pF ((hS n).small hk))) λG7 F7 l7 h=>⟨_,rfl,?_⟩;have l17:=aa l13 (aa l36 l7);have kk:=(hS n).ap2 (o:=oOr) hx;refine ⟨λhne=> ?_,λhe=> ?_⟩
  ·have hne:ap2 oOr (S n) d≠S n:=λe=>by rw [e,decide_eq_true rfl] at hne;cases hne
   refine ⟨_,aH (aa (aa l1 l17) h.le) h2,_,rfl,ac (h.le _ _ (l17 _ _ (l1 _ _ qk))),x,hxx.size,ac (h.le _ _ (l7 _ _ q7)),?_⟩;obtain ⟨o,mp,m1,m2,m3⟩:=h.mS_at (i:=0) rfl;refine aX GJ m1 m2 n (.agg x) λo' ho'=> ?_;have hxx7:=hxx.le (aa l5 (aa l6 l7));have h:=h.mS_set 0 rfl (G1:=G7) (S':=cC S n d) ho' ((m3.le (aa (aa l0 l1) l17)).put hxx7);refine ⟨_,rfl,h.set1 (w':= #[.bool true]) (by show 0<1;decide) rfl λF8 h=> ?_⟩;exact ⟨G7,true,rfl,⟨λ_=> .inr λe=>hne (jZ.1 e),λ_=>rfl⟩,aa lk (aa l1 l17),h⟩
  ·have e:ap2 oOr (S n) d=S n:=by
    have:decide (dia (S n)=dia (ap2 oOr (S n) d))=true:=by simpa using he
    exact (pq (hS n).1 kk.1 (of_decide_eq_true this)).symm
   have e2:=jZ.2 e;refine ⟨G7,ch,rfl,?_,aa lk (aa l1 l17),?_⟩
   ·rw [e2];simp
   ·rw [e2];exact up h (aa (aa l0 l1) l17)
end
theorem Hl:aE prog 125=true:=by kernel_rfl
section
variable {G G0 F:PH} {m k:Nat} {σ:Type}
structure SK (G:PH) (k m:Nat) (kr:Nat) (fst cap:Γ) (keys:List (Int×Int)) (Inv:(Int×Int->Tr)->Prop) (rnd:(Int×Int->Tr)->Int×Int->Tr) (aux:(Int×Int->Tr)->σ) (As:PH->σ->List (Ψ)):Prop where
 cb:aE prog kr=true
 sx:∀S,Sxs k S->Inv S->Sxs k (rnd S)/\Inv (rnd S)/\Lt' S (rnd S)/\∀n,rnd S n≠S n->n∈keys
 run:∀G' F' S x b2 b4,G.le G'->Sxs k S->Inv S->G'.cell ⟨b2,0,none⟩=some (.map (some m))->St G' F' (mS bU G' m S::pt b4 (.cells #[.bool false] 4)::As G' x)->
  ai prog kr (fst++ #[.func (.func 125) #[] #[.pointer (some ⟨b2,0,none⟩),.pointer (some ⟨b4,0,none⟩)]]++cap) F' λr F''=>∃G'' ch,r=.tuple #[]/\G'.le G''/\(ch=true↔rnd S≠S)/\
   St G'' F'' (mS bU G'' m (rnd S)::pt b4 (.cells #[.bool ch] 4)::As G'' (aux S))
theorem Dt {kr:Nat} {fst cap:Γ} {keys:List (Int×Int)} {Inv:(Int×Int->Tr)->Prop} {rnd:(Int×Int->Tr)->Int×Int->Tr} {aux:(Int×Int->Tr)->σ} {As:PH->σ->List (Ψ)} (Rn:SK G k m kr fst cap keys Inv rnd aux As)
  (up:∀G' G'' F' x S,G'.le G''->St G'' F' (mS bU G' m S::As G' x)->St G'' F' (mS bU G'' m S::As G'' x)) {S:Int×Int->Tr} {x:σ} (hS:Sxs k S) (hI:Inv S) (h:St G F (mS bU G m S::As G x)):
  ai prog 73 #[.map (some m),.func (.func kr) fst cap] F λr F'=>∃G' S',r=.tuple #[]/\G.le G'/\Sxs k S'/\Inv S'/\rnd S'=S'/\St G' F' (mS bU G' m S'::As G' (aux S')):=by
 refine UO ?_;unfold Sv;refine h.newG λb2 G1 F1 l1 q2 _ h=> ?_;have h:=up G G1 F1 x S l1 h;refine h.new λb4 F2 h=> ?_;refine h.set0 (w':= #[.bool true]) (by show 0<1;decide) rfl λF3 h=> ?_
 refine ⟨λq p F'=>∃(b:Nat) (G':PH) (S':Int×Int->Tr) (y:σ) (ch:Bool),p=some (Addr.mk b 0 none)/\q=mu k keys S'+(if ch=true then 1 else 0)/\G1.le G'/\Sxs k S'/\Inv S'/\(ch=false->rnd S'=S'/\y=aux S')/\
  St G' F' (pt b (.cells #[.bool ch] 4)::mS bU G' m S'::As G' y),mu k keys S+1,⟨b4,G1,S,x,true,rfl,rfl,aq _,hS,hI,λhc=>(by cases hc),h⟩,?_⟩
 rintro q p F4 ⟨b,G2,S2,y,ch,rfl,rfl,l2,hS2,hI2,hc2,h⟩;unfold Hf;refine ⟨_,rfl,ch,h.ld0 rfl,λht=> ?_,λhf=> ?_⟩
 ·subst ht;refine h.set0 (w':= #[.bool false]) (by show 0<1;decide) rfl λF5 h=>⟨kr,fst,cap,rfl,Rn.cb,?_⟩;obtain ⟨s1,s2,s3,s4⟩:=Rn.sx S2 hS2 hI2;refine (Rn.run G2 F5 S2 y b2 b (aa l1 l2) hS2 hI2 (ld (l2 _ _ q2) rfl) h.swap).mono ?_;rintro _ F6 ⟨G3,ch',rfl,l3,hch,h⟩;refine ⟨rfl,ch',h.ld1 rfl,?_⟩;have h:=h.swap;refine h.new λb5 F7 h=> ?_;refine h.set0 (w':= #[.bool ch']) (by show 0<1;decide) rfl λF8 h=> ?_;refine ⟨mu k keys (rnd S2)+(if ch'=true then 1 else 0),?_,b5,G3,rnd S2,aux S2,ch',rfl,rfl,aa l2 l3,s1,s2,λhf=> ?_,h.swap.tail.swap.swap⟩
  ·obtain ⟨m1,m2⟩:=AD hS2 s1 s3 keys;rw [if_pos rfl];by_cases hc:ch'=true
   ·rw [if_pos hc];have hne:=hch.1 hc;obtain ⟨n,hn⟩:∃n,rnd S2 n≠S2 n:=Classical.not_forall.1 λha=>hne (funext ha);have:=m2 n (s4 n hn) (Ne.symm hn);omega
   ·rw [if_neg hc];omega
  ·have e:rnd S2=S2:=Classical.not_not.1 λhne=>by rw [hch.2 hne] at hf;cases hf
   exact ⟨by rw [e,e],by rw [e]⟩
 ·subst hf;obtain ⟨e1,e2⟩:=hc2 rfl;exact ⟨G2,S2,rfl,aa l1 l2,hS2,hI2,e1,by rw [<- e2];exact h.tail⟩
end
abbrev ux (b2 b4:Nat):Value:=.func (.func 125) #[] #[.pointer (some ⟨b2,0,none⟩),.pointer (some ⟨b4,0,none⟩)]
def dq (n:Nat):Φ:=(List.range n).map λi:Nat=>(i:Int)
theorem sH {n i:Nat} (h:i<n):(dq n)[i]? =some (i:Int):=by unfold dq;rw [U5,Vy h];rfl
theorem Hm (n:Nat):(dq n).length=n:=by unfold dq;rw [U6,Vw]
theorem sX {a:Tr} (ha:a.ok):ap2 bj a (leaf false)=leaf false:=eL (bA (b:=leaf false) ha trivial).1 trivial λc=>by rw [(bA (b:=leaf false) ha trivial).2];exact Bool.and_false _
section
variable {k:Nat} {N:Int->Tr} {ts:Φ} {b:Int}
theorem oL (a:Int):∀(ts:Φ) {S:Int×Int->Tr},Sxs k S->eT (leaf false) a b ts S=S
 |[],S,_=>rfl
 |t::ts,S,hS=>by unfold eT;rw [gJ (hS _).1,dD hS];exact oL a ts hS
theorem sI (hN:Sxs k N):∀(r:List Sy) {S:Int×Int->Tr},Sxs k S->fS N ts b (leaf false) r S=S
 |[],S,_=>rfl
 |s::r,S,hS=>by
  unfold fS;split
  ·exact dD hS _
  ·rw [oL s.i ts hS,gJ (hN _).1];exact sI hN r hS
end
section
variable {G F Gd Gn:PH} {g:Gr} {k m mn md:Nat} {N D:Int->Tr}
structure FsE (G:PH) (g:Gr) (mn md m ban bg b3 b5 b6 b4 b2:Nat):Prop where
 qg:∃v,G bg=some (.cells v 37)/\GV G v g
 q3:G b3=some (.cells #[.pointer (some ⟨ban,0,none⟩)] 93)
 q5:G b5=some (.cells #[.map (some md)] 95)
 q6:G b6=some (.cells #[.map (some m)] 113)
 q4:G b4=some (.cells #[.map (some mn)] 95)
 q2:G.cell ⟨b2,0,none⟩=some (.map (some m))
 an:AnV G ban g
theorem FsE.le {G G':PH} {ban bg b3 b5 b6 b4 b2:Nat} (h:FsE G g mn md m ban bg b3 b5 b6 b4 b2) (l:G.le G'):FsE G' g mn md m ban bg b3 b5 b6 b4 b2:=
 ⟨by obtain ⟨v,h1,h2⟩:=h.qg;exact ⟨v,l _ _ h1,h2.le l⟩,l _ _ h.q3,l _ _ h.q5,l _ _ h.q6,l _ _ h.q4,aH l h.q2,h.an.le l⟩
theorem Jr {ban bg b3 b5 b6 b4 b2 bf:Nat} (hk:OkK g k) (hN:Sxs k N) (hD:Sxs k D) (lN:Gn.le G) (lD:Gd.le G) (hl:∀x∈g.prods,x.right.length<=1000000) (hp:g.prods.length<=1000000) (ht:g.toks.length<=1000000)
  (E:FsE G g mn md m ban bg b3 b5 b6 b4 b2) {S:Int×Int->Tr} (hS:Sxs k S) (h:St G F [mS bU G m S,pt bf (.cells #[.bool false] 4),mS aM Gn mn N,mS aM Gd md D]):
  ai prog 74 #[ux b2 bf,.pointer (some ⟨bg,0,none⟩),.pointer (some ⟨b3,0,none⟩),.pointer (some ⟨b5,0,none⟩),.pointer (some ⟨b6,0,none⟩),.pointer (some ⟨b4,0,none⟩)] F
   (nP bU G m bf S (iN (aK g) N D (dq g.toks.length) 0 g.prods S) λ_=>[mS aM Gn mn N,mS aM Gd md D]):=by
 obtain ⟨vg,qg,c,n,t,s,p,lv,f,rfl,hs⟩:=E.qg;obtain ⟨c',n',t',s',p',lv',f',q,qa,hs',hq⟩:=E.an.ex;have ep:=hs.p.len (by decide);have et:=hs.t.len (by decide);have eq:=hq.len (by decide);rw [jy] at eq;refine UP ?_;unfold Sw;refine ⟨_,rfl,_,by rw [aB];exact ld (h.le _ _ qg) rfl,?_⟩
 refine bz (Ay · (ux b2 bf) (Addr.mk bg 0 none) _ _ _ _ p _) g.prods.length (λi F'=>∃(G':PH) (S':Int×Int->Tr) (ch:Bool),G.le G'/\Sxs k S'/\Lt' S S'/\iN (aK g) N D (dq g.toks.length) 0 g.prods S=iN (aK g) N D (dq g.toks.length) i (g.prods.drop i) S'/\
  (ch=true↔S'≠S)/\∃Bs,St G' F' ([mS bU G' m S',pt bf (.cells #[.bool ch] 4),mS aM Gn mn N,mS aM Gd md D]++Bs)) ⟨G,S,false,aq _,hS,Lt'.refl S,by rw [Vz],by simp,[],h⟩ ?_
 rintro i F1 N1 hi ⟨G1,S1,ch,l1,hS1,hle,hrd,hch,Bs,h⟩ next;replace h:St G1 F1 [mS bU G1 m S1,pt bf (.cells #[.bool ch] 4),mS aM Gn mn N,mS aM Gd md D]:=h.pick id (λ_ _ _ _ e=>e) λi hi=>by rw [id,U9 hi]
 have E1:=E.le l1;unfold Ay;refine ⟨λhlt=> ?_,λhge=> ?_⟩
 ·have hlt:i<g.prods.length:=by omega
  have hs1:=hs.le l1;refine h.ix hs1.p (by decide) (by omega) (by omega) λa c6 x hx hrow hc6=>⟨c6,Mem.len hc6,hrow,?_⟩;rw [N4] at hx;have hxm:=UY hx;have hlx:=hl x hxm;have edrop:g.prods.drop i=x::g.prods.drop (i+1):=cL hx;obtain ⟨hd0,_⟩:=bx hD x.right (hk.prs i);refine h.var (Mem.st hc6) (λb8 G2 F2 l2 q8 h=> ?_) rfl (Mem.len hc6);obtain ⟨r,n8,l8,rfl,hr,hn8,_⟩:=hc6;have l12:=aa l1 l2;have E2:=E1.le l2;have qa2:=l12 _ _ qa;have er:=(hr.le l2).len (by decide);have at9:∀{G' F':PH} {As:List (Ψ)},G2.le G'->St G' F' As->F'.cell (Addr.add (Addr.mk ban 0 none) 9)=some (Sl.v q):=λl h=>by rw [aB];exact ld (h.le _ _ (l _ _ qa2)) rfl
  have a3:∀{G' F':PH} {As:List (Ψ)},G2.le G'->St G' F' As->F'.cell (Addr.mk b3 0 none)=some (.pointer (some ⟨ban,0,none⟩)):=λl h=>ld (h.le _ _ (E2.le l).q3) rfl;refine ⟨_,rfl,_,a3 (aq _) h,_,rfl,_,at9 (aq _) h,?_⟩;refine ixc (hq.le l12) (by decide) (by omega) (by omega) λa9 c9 dd hdd hrow9 hc9=>⟨c9,Mem.len hc9,bJ h.le hrow9,?_⟩;rw [N4] at hdd;have hdd:dd=dia (aK g i):=by unfold oU at hdd;rw [U5,Vy hlt] at hdd;exact (Vl hdd).symm
  have hc9:DV G2 c9 (dia (aK g i)):=by rw [<- hdd];exact hc9
  refine ⟨_,ld (h.le _ _ q8) rfl,_,rfl,_,ld (h.le _ _ E2.q5) rfl,?_⟩;have fin1:∀{G' F':PH} {S2:Int×Int->Tr} {ch2:Bool} {Bs:List (Ψ)},G2.le G'->Sxs k S2->Lt' S1 S2->fS N (dq g.toks.length) x.left (dF D (aK g i) x.right) x.right S1=S2->(ch2=true↔ch=true\/S2≠S1)->
    St G' F' ([mS bU G' m S2,pt bf (.cells #[.bool ch2] 4),mS aM Gn mn N,mS aM Gd md D]++Bs)->
    sA N1 (ux b2 bf) (Addr.mk bg 0 none) (some (Addr.mk b3 0 none)) (some (Addr.mk b5 0 none)) (some (Addr.mk b6 0 none)) (some (Addr.mk b4 0 none)) p (i:Int)
     (nP bU G m bf S (iN (aK g) N D (dq g.toks.length) 0 g.prods S) λ_=>[mS aM Gn mn N,mS aM Gd md D]) F':=λ{G' F' S2 ch2 Bs} l hS2 hle2 he hch2 h=>by
   unfold sA;rw [aI hlt (by omega)];refine next _ hlt ⟨G',S2,ch2,aa l12 l,hS2,hle.trans hle2,?_,?_,Bs,h⟩
   ·rw [hrd,edrop];show iN _ _ _ _ (i+1) _ (fS N (dq g.toks.length) x.left (dF D (aK g i) x.right) x.right S1)=_;rw [he]
   ·rw [hch2,hch,iL hS hS1 hS2 hle hle2]
  have fin:∀{G' F':PH} {y:Γ} {b9:Nat},G2.le G'->DV G' y (dia (dF D (aK g i) x.right))->St G' F' [mS bU G1 m S1,pt bf (.cells #[.bool ch] 4),mS aM Gn mn N,mS aM Gd md D,pt b9 (.cells y 31)]->
    wE N1 (ux b2 bf) (Addr.mk bg 0 none) (some (Addr.mk b3 0 none)) (some (Addr.mk b5 0 none)) (some (Addr.mk b6 0 none)) (some (Addr.mk b4 0 none)) b8 p (i:Int) (some (Addr.mk b9 0 none))
     (nP bU G m bf S (iN (aK g) N D (dq g.toks.length) 0 g.prods S) λ_=>[mS aM Gn mn N,mS aM Gd md D]) F':=λ{G' F' y b9} l hy h=>by
   unfold wE;refine ⟨_,ld (h.le _ _ (l _ _ q8)) rfl,?_⟩;refine bz (Ax N1 · (ux b2 bf) (Addr.mk bg 0 none) (some (Addr.mk b3 0 none)) (some (Addr.mk b5 0 none)) (some (Addr.mk b6 0 none)) (some (Addr.mk b4 0 none)) b8 (some (Addr.mk b9 0 none)) p (i:Int) r _) x.right.length
    (λj F'=>∃(G':PH) (S2:Int×Int->Tr) (ch2:Bool) (d:Tr) (y:Γ),G2.le G'/\Sxs k S2/\Lt' S1 S2/\Sx k d/\DV G' y (dia d)/\fS N (dq g.toks.length) x.left (dF D (aK g i) x.right) x.right S1=fS N (dq g.toks.length) x.left d (x.right.drop j) S2/\
     (ch2=true↔ch=true\/S2≠S1)/\St G' F' [mS bU G' m S2,pt bf (.cells #[.bool ch2] 4),mS aM Gn mn N,mS aM Gd md D,pt b9 (.cells y 31)])
    ⟨G',S1,ch,_,y,l,hS1,Lt'.refl _,hd0,hy,by rw [Vz],by simp,h.imp 0 rfl λ_ _ hH=>hH.le (aa l2 l)⟩ ?_
   rintro j F3 N2 hj ⟨G3,S2,ch2,d,y,l3,hS2,hle2,hd,hy,hfi,hch2,h⟩ next2;unfold Ax;refine ⟨λhjl=> ?_,λhjg=> ?_⟩
   ·have hjl:j<x.right.length:=by omega
    refine ixc (hr.le (aa l2 l3)) (by decide) (by omega) (by omega) λa8 c8 sy hsy hrow8 hc8=>⟨c8,Mem.len hc8,bJ h.le hrow8,?_⟩;rw [N4] at hsy;obtain rfl:c8=sy.arr:=hc8;have edr:x.right.drop j=sy::x.right.drop (j+1):=cL hsy;rw [edr] at hfi;refine h.var (by simp [ak]) (λb11 G4 F4 l4 q11 h=>⟨_,rfl,?_⟩) rfl rfl;have l34:=aa l3 l4;have hy4:=hy.le l4;obtain ⟨sd,ey,hsd⟩:=id hy;refine ⟨_,by rw [aB];exact ld (h.ptAt (i:=4) rfl) (by rw [ey];rfl),λh0=> ?_,λh0=> ?_⟩
    ·have e:=(dU hd.1).1 h0;refine fin1 (Bs:=[pt b9 (.cells y 31)]) l34 hS2 hle2 ?_ hch2 (h.imp 0 rfl λ_ _ hH=>hH.le l4);rw [hfi,e];exact sI hN _ hS2
    ·refine ⟨_,ld (h.le _ _ q11) rfl,λhyt=> ?_,λhyt=> ?_⟩
     ·have hyt:sy.t=true:=hyt;refine ⟨_,ld (h.le _ _ (l34 _ _ q8)) rfl,_,ld (h.le _ _ q11) rfl,y,hy.size,ac (h.ptAt (i:=4) rfl),_,_,_,rfl,Hl,?_⟩;refine (uw h l4 hk.le hS2 hd hy4 (E2.le l34).q2 (x.left,sy.i)).mono ?_;rintro _ F5 ⟨G5,ch3,rfl,hch3,l5,h⟩;refine ⟨rfl,?_⟩;refine fin1 (Bs:=[pt b9 (.cells y 31)]) (aa l34 l5) (dE hS2 hd) (hle2.trans (eI hS2 hd)) ?_ ?_ h
      ·rw [hfi];unfold fS;rw [if_pos hyt]
      ·rw [hch3,hch2,or_assoc,iL hS1 hS2 (dE hS2 hd) hle2 (eI hS2 hd)]
     ·have hyt:sy.t=false:=hyt;refine ⟨_,by rw [aB];exact ld (h.le _ _ (l34 _ _ (l12 _ _ qg))) rfl,?_⟩;have hfi2:fS N (dq g.toks.length) x.left d (sy::x.right.drop (j+1)) S2=fS N (dq g.toks.length) x.left (ap2 bj d (N sy.i)) (x.right.drop (j+1)) (eT d sy.i x.left (dq g.toks.length) S2):=by rw [fS,if_neg (by rw [hyt];decide)]
      rw [hfi2] at hfi;refine bz (Aw N1 N2 · (ux b2 bf) (Addr.mk bg 0 none) (some (Addr.mk b3 0 none)) (some (Addr.mk b5 0 none)) (some (Addr.mk b6 0 none)) (some (Addr.mk b4 0 none)) b8 (Addr.mk b9 0 none) b11 p (i:Int) r (j:Int) t _) g.toks.length
       (λq F'=>∃(G':PH) (S3:Int×Int->Tr) (ch3:Bool),G4.le G'/\Sxs k S3/\Lt' S2 S3/\eT d sy.i x.left (dq g.toks.length) S2=eT d sy.i x.left ((dq g.toks.length).drop q) S3/\(ch3=true↔ch2=true\/S3≠S2)/\
        ∃Bs,St G' F' ([mS bU G' m S3,pt bf (.cells #[.bool ch3] 4),mS aM Gn mn N,mS aM Gd md D,pt b9 (.cells y 31)]++Bs))
       ⟨G4,S2,ch2,aq _,hS2,Lt'.refl _,by rw [Vz],by simp,[],h.imp 0 rfl λ_ _ hH=>hH.le l4⟩ ?_
      rintro q F5 N3 hq3 ⟨G5,S3,ch3,l5,hS3,hle3,hcp,hch3,Bs,h⟩ next3;replace h:St G5 F5 [mS bU G5 m S3,pt bf (.cells #[.bool ch3] 4),mS aM Gn mn N,mS aM Gd md D,pt b9 (.cells y 31)]:=h.pick id (λ_ _ _ _ e=>e) λi hi=>by rw [id,U9 hi]
      have l35:=aa l34 l5;have q115:=l5 _ _ q11;unfold Aw;refine ⟨λhql=> ?_,λhqg=> ?_⟩
      ·have hql:q<g.toks.length:=by omega
       have edq:(dq g.toks.length).drop q=(q:Int)::(dq g.toks.length).drop (q+1):=cL (sH hql);have hcx:Sx k (ap2 bj d (S3 (sy.i,(q:Int)))):=hd.ap2 (o:=bj) (hS3 _);have hcq:eT d sy.i x.left ((dq g.toks.length).drop q) S3=eT d sy.i x.left ((dq g.toks.length).drop (q+1)) (cC S3 (x.left,(q:Int)) (ap2 bj d (S3 (sy.i,(q:Int))))):=by rw [edq];rfl
       rw [hcq] at hcp;refine ⟨_,rfl,_,ld (h.le _ _ (E2.le l35).q6) rfl,_,ld (h.le _ _ q115) rfl,?_⟩;refine (sj h (aq _) (sy.i,(q:Int))).mono ?_;rintro _ F6 ⟨G6,u,rfl,hu,l6,h⟩;refine ⟨u,rfl,?_⟩;refine h.var hu.st (λb13 G7 F7 l7 q13 h=> ?_) rfl hu.size;obtain ⟨su,eu,hsu⟩:=id hu;have l57:=aa l6 l7;have l37:=aa l35 l57;refine ⟨_,ld (h.le _ _ q13) (by rw [eu];rfl),λh0=> ?_,λh0=> ?_⟩
       ·refine ⟨_,ld (h.le _ _ (l37 _ _ q8)) rfl,y,hy.size,ac (h.ptAt (i:=4) rfl),u,hu.size,ac (h.le _ _ q13),?_⟩;refine h.run (P:=λr' G'=>∃y,r'=.tuple #[.agg y,vi 0]/\DV G' y (dia (ap2 bj d (S3 (sy.i,(q:Int)))))) ((iK hk.le hd (hS3 _) (hy.le (aa l4 (aa l5 l57))) (hu.le l7)).mono λr F' ⟨x,a,b,c⟩=>⟨⟨x,a,b⟩,c⟩) λ_ G8 F8 hr8 l8 h=> ?_;obtain ⟨z,rfl,hz⟩:=hr8;refine ⟨_,_,rfl,ld (h.le _ _ (l8 _ _ (l37 _ _ q8))) rfl,?_⟩;refine h.runv (bq hz) λG9 F9 l9 h=>⟨_,rfl,ld (h.le _ _ (l9 _ _ (l8 _ _ (l37 _ _ q8)))) rfl,_,_,_,rfl,Hl,?_⟩;have l59:=aa l57 (aa l8 l9);refine (uw h l59 hk.le hS3 hcx (hz.le l9) (E2.le (aa l35 l59)).q2 (x.left,(q:Int))).mono ?_;rintro _ F10 ⟨G10,ch4,rfl,hch4,l10,h⟩;refine ⟨rfl,ld (h.le _ _ (l10 _ _ (l9 _ _ (l8 _ _ (l37 _ _ q8))))) rfl,?_⟩;unfold wD;rw [aI hql (by omega)];refine next3 _ hql ⟨G10,_,ch4,aa l5 (aa l59 l10),dE hS3 hcx,hle3.trans (eI hS3 hcx),hcp,?_,[],h⟩;rw [hch4,hch3,or_assoc,iL hS2 hS3 (dE hS3 hcx) hle3 (eI hS3 hcx)]
       ·have e:S3 (sy.i,(q:Int))=leaf false:=(dU (hS3 _).1).1 (by simpa using h0);rw [e,sX hd.1,dD hS3] at hcp;unfold wD;rw [aI hql (by omega)];exact next3 _ hql ⟨G7,S3,ch3,aa l5 l57,hS3,hle3,hcp,hch3,[],h.imp 0 rfl λ_ _ hH=>hH.le l57⟩
      ·have hq:q=g.toks.length:=by omega
       subst hq;rw [List.drop_of_length_le (by rw [Hm];exact UW _)] at hcp;have hcp:eT d sy.i x.left (dq g.toks.length) S2=S3:=hcp;unfold Hh;refine ⟨y,hy.size,ac (h.ptAt (i:=4) rfl),_,rfl,_,ld (h.le _ _ (E2.le l35).q4) rfl,_,ld (h.le _ _ q115) rfl,?_⟩;refine (fC h.front2 (aa lN (aa l12 l35)) sy.i).mono ?_;rintro _ F6 ⟨G6,u,rfl,hu,l6,h⟩;have h:=h.back2;refine ⟨u,rfl,ac (h.ptAt (i:=4) rfl),?_⟩;refine h.run (P:=λr' G'=>∃y,r'=.tuple #[.agg y,vi 0]/\DV G' y (dia (ap2 bj d (N sy.i)))) ((iK hk.le hd (hN _) (hy.le (aa l4 (aa l5 l6))) hu).mono λr F' ⟨x,a,b,c⟩=>⟨⟨x,a,b⟩,c⟩) λ_ G7 F7 hr7 l7 h=> ?_;obtain ⟨z,rfl,hz⟩:=hr7;refine ⟨_,_,rfl,?_⟩;refine h.runv (bq hz) λG8 F8 l8 h=>⟨_,rfl,?_⟩;refine h.put4 (w':=z) hz.size hy.size hz.st λF9 h=> ?_;unfold Hg;rw [aI hjl (by omega)];have l58:=aa l6 (aa l7 l8);refine next2 _ hjl ⟨G8,S3,ch3,_,z,aa l35 l58,hS3,hle2.trans hle3,hd.ap2 (o:=bj) (hN sy.i),hz.le l8,?_,?_,h.imp 0 rfl λ_ _ hH=>hH.le l58⟩
       ·rw [hfi,hcp]
       ·rw [hch3,hch2,or_assoc,iL hS1 hS2 hS3 hle2 hle3]
   ·have hj:j=x.right.length:=by omega
    subst hj;rw [VO] at hfi;exact fin1 (Bs:=[pt b9 (.cells y 31)]) l3 hS2 hle2 hfi hch2 h
  refine ⟨?_,?_⟩
  ·refine (ia h.front3 (aa lD l12) hk.le hD (hk.prs i) hc9 (hr.le l2) hlx).mono ?_;rintro _ F3 ⟨G3,u,rfl,hu,l3,h⟩;have h:=h.back3;refine ⟨u,rfl,at9 l3 h,a3 l3 h,?_⟩;refine h.new λb9 F4 h=> ?_;exact h.put0 (w':=u) hu.size rfl hu.st λF5 h=>fin l3 hu h.rot
  ·refine h.new λb9 F3 h=> ?_;refine (ia h.front4 (aa lD l12) hk.le hD (hk.prs i) hc9 (hr.le l2) hlx).mono ?_;rintro _ F4 ⟨G3,u,rfl,hu,l3,h⟩;have h:=h.back4;refine ⟨u,rfl,at9 l3 h,a3 l3 h,?_⟩;exact h.put0 (w':=u) hu.size rfl hu.st λF5 h=>fin l3 hu h.rot
 ·have e:i=g.prods.length:=by omega
  subst e;rw [VO] at hrd;have hrd:iN (aK g) N D (dq g.toks.length) 0 g.prods S=S1:=hrd;rw [hrd];exact ⟨G1,ch,rfl,l1,hch,h⟩
end
theorem Js:aE prog 74=true:=by kernel_rfl
theorem NB:aE prog 72=true:=by kernel_rfl
instance:Mem (List Dia) where
 n:=1
 rep F x c:=∃s:Sl,c= #[s.v]/\RL F s x
 len h:=by obtain ⟨s,rfl,_⟩:=h;rfl
 le hl h:=by obtain ⟨s,h1,h2⟩:=h;exact ⟨s,h1,h2.le hl⟩
 st h:=by obtain ⟨s,rfl,_⟩:=h;simp [ak,Sl.v]
theorem SL:∃b z,SlT 46 39 1 b z:=⟨_,_,underlying46,Ta,Td,rfl,by decide,by decide⟩
def NC (A:List (List Dia)->Prop) (b:Nat) (G:PH):List (Ψ):=[λH=>∃sl ds,A ds/\RL G sl ds/\H b=some (.cells #[Sl.v sl] 46)]
theorem Du {A:List (List Dia)->Prop} {b:Nat} {G F:PH} (h:St G F (NC A b G)):∃sl ds,A ds/\RL G sl ds/\St G F [pt b (.cells #[Sl.v sl] 46)]:=by obtain ⟨sl,h⟩:=h.exI 0 rfl;obtain ⟨ds,h⟩:=h.exI 0 rfl;obtain ⟨e1,h⟩:=h.prI 0 rfl;obtain ⟨e2,h⟩:=h.prI 0 rfl;exact ⟨sl,ds,e1,e2,h⟩
def sY (S:Int×Int->Tr) (nt:Nat) (n:Nat):List Dia:=(List.range nt).map λt:Nat=>dia (S ((n:Int),(t:Int)))
def jz (S:Int×Int->Tr) (nt nn:Nat):List (List Dia):=(List.range nn).map (sY S nt)
theorem AA (S:Int×Int->Tr) (nt n:Nat):jz S nt (n+1)=jz S nt n++[sY S nt n]:=by unfold jz;rw [Wv,Vm];rfl
theorem uy (S:Int×Int->Tr) (nt n:Nat):(jz S nt n).length=n:=by unfold jz;rw [U6,Vw]
def ND (k:Nat) (g:Gr) (ds:List (List Dia)):Prop:=∃S,x6 k g.prods (aK g) S/\ds=jz S g.toks.length g.nons.length
section
variable {G F Gd Gn:PH} {g:Gr} {k m mn md:Nat} {N D:Int->Tr}
theorem Cc {κ:Type} [DecidableEq κ] {S:κ->Tr} {n i:κ} {d:Tr} (h:cC S n d i≠S i):i=n:=by
 unfold cC eU at h;by_cases e:i=n
 ·exact e
 ·rw [if_neg e] at h;exact absurd rfl h
theorem uz {d:Tr} {a b:Int} {n:Int×Int}:∀{ts:Φ} {S:Int×Int->Tr},eT d a b ts S n≠S n->n.1=b/\n.2∈ts
 |[],S,h=>absurd rfl h
 |t::ts,S,h=>by
  unfold eT at h;by_cases e:cC S (b,t) (ap2 bj d (S (a,t))) n=S n
  ·rw [<- e] at h;exact (uz h).imp id (Ve _)
  ·have:=Cc e;exact ⟨by rw [this],by rw [this];simp⟩
theorem yf {ts:Φ} {b:Int} {n:Int×Int}:∀{r:List Sy} {d:Tr} {S:Int×Int->Tr},fS N ts b d r S n≠S n->n.1=b/\(n.2∈ts\/∃s∈r,s.i=n.2)
 |[],d,S,h=>absurd rfl h
 |s::r,d,S,h=>by
  unfold fS at h;by_cases hs:s.t=true
  ·rw [if_pos hs] at h;have:=Cc h;exact ⟨by rw [this],.inr ⟨s,by simp,by rw [this]⟩⟩
  ·rw [if_neg hs] at h;by_cases e:eT d s.i b ts S n=S n
   ·rw [<- e] at h;obtain ⟨h1,h2⟩:=yf h;exact ⟨h1,h2.imp id λ⟨y,hy,e⟩=>⟨y,Ve _ hy,e⟩⟩
   ·obtain ⟨h1,h2⟩:=uz e;exact ⟨h1,.inl h2⟩
def Hn (l:List Pr) (ts:Φ):List (Int×Int):=l.flatMap λx=>(ts++x.right.map (·.i)).map λt=>(x.left,t)
theorem yg {P:Nat->Tr} {ts:Φ} {n:Int×Int}:∀{l:List Pr} {i:Nat} {S:Int×Int->Tr},iN P N D ts i l S n≠S n->n∈Hn l ts
 |[],i,S,h=>absurd rfl h
 |x::l,i,S,h=>by
  unfold Hn;rw [VC,UX];by_cases e:fS N ts x.left (dF D (P i) x.right) x.right S n=S n
  ·unfold iN at h;rw [<- e] at h;exact .inr (yg h)
  ·obtain ⟨h1,h2⟩:=yf e;refine .inl (U8.2 ⟨n.2,?_,by rw [<- h1]⟩);rw [UX,U8];exact h2
theorem Jt {ban bg b3 b5 b6 b4:Nat} (hk:OkK g k) (hN:eV k g.prods (aK g) true N) (hD:eV k g.prods (aK g) false D) (lN:Gn.le G) (lD:Gd.le G) (hl:∀x∈g.prods,x.right.length<=1000000) (hp:g.prods.length<=1000000) (ht:g.toks.length<=1000000)
  (E:∀G' b2,G.le G'->G'.cell ⟨b2,0,none⟩=some (.map (some m))->FsE G' g mn md m ban bg b3 b5 b6 b4 b2):
  SK G k m 74 #[] #[.pointer (some ⟨bg,0,none⟩),.pointer (some ⟨b3,0,none⟩),.pointer (some ⟨b5,0,none⟩),.pointer (some ⟨b6,0,none⟩),.pointer (some ⟨b4,0,none⟩)]
   (Hn g.prods (dq g.toks.length)) (λS=>∀n c,(S n).ev c=true->Fst g.prods (aK g) c n.1 n.2) (iN (aK g) N D (dq g.toks.length) 0 g.prods) (λ_=>()) (λ_ _=>[mS aM Gn mn N,mS aM Gd md D]) where
 cb:=Js
 sx S hS hI:=by obtain ⟨a1,a2⟩:=kV hk.prs hN.sx hD.sx (dq g.toks.length) g.prods 0 hS;exact ⟨a1,xZ hk.prs hN hD (dq g.toks.length) g.prods 0 (λj x hj=>by rw [Vd];exact hj) hS hI,a2,λn hn=>yg hn⟩
 run G' F' S x b2 b4 l hS hI hc h:=by
  have e:∀(a:Value) (v:Γ),(#[]++ #[a]++v:Γ)= #[a]++v:=λa v=>by simp
  rw [e];exact Jr hk hN.sx hD.sx (aa lN l) (aa lD l) hl hp ht (E G' b2 l hc) hS h
theorem yh {v:Γ} {ban b1 b2:Nat} (hk:OkK g k) (hl:∀x∈g.prods,x.right.length<=1000000) (hp:g.prods.length<=1000000) (ht:g.toks.length<=1000000) (hs:g.nons.length<=1000000) (hAn:AnV G ban g) (q1:G b1=some (.cells v 37)) (hg:GV G v g)
  (h:St G F [pt b2 (.cells #[Sl.v Sl.nil] 46)]):ai prog 72 #[.pointer (some ⟨ban,0,none⟩),.pointer (some ⟨b1,0,none⟩),.pointer (some ⟨b2,0,none⟩)] F λr F'=>∃G',r=.tuple #[]/\G.le G'/\St G' F' (NC (ND k g) b2 G'):=by
 obtain ⟨_,_,T⟩:=SL;have hg0:=hg;obtain ⟨c,n,t,s,p,lv,f,rfl,hgs⟩:=hg;have es:=hgs.s.len (by decide);have et:=hgs.t.len (by decide);refine UN ?_;unfold Su;refine h.newG λb3 G1 F1 l1 q3 _ h=>⟨_,ld (h.le _ _ q3) rfl,?_⟩;refine (cR hk hl hp (hAn.le l1) h).mono ?_;rintro _ F2 ⟨G2,mn,N,rfl,l2,hN,h⟩;refine ⟨_,rfl,?_⟩;refine h.var1 λb4 G3 F3 l3 q4 h=> ?_;have l13:=aa l1 (aa l2 l3);refine ⟨_,ld (h.le _ _ (l3 _ _ (l2 _ _ q3))) rfl,?_⟩;refine (cR hk hl hp (hAn.le l13) h).mono ?_;rintro _ F4 ⟨G4,md,D,rfl,l4,hD,h⟩;refine ⟨_,rfl,?_⟩;refine h.var1 λb5 G5 F5 l5 q5 h=> ?_;refine h.new λm F6 h=> ?_;have h:=h.toMap bU;refine h.var1 λb6 G6 F7 l6 q6 h=> ?_;refine ⟨_,ld (h.le _ _ q6) rfl,?_⟩;have l36:=aa l4 (aa l5 l6);have l16:=aa l13 l36;have h0:St G6 F7 ([mS bU G6 m (λ_=>leaf false),mS aM G2 mn N,mS aM G4 md D]++[pt b2 (.cells #[Sl.v Sl.nil] 46)]):=
  ((h.imp 0 rfl λ_ _ hH=>hH.le l6).front2).swap
 have hrn:=Jt (G:=G6) (Gd:=G4) (Gn:=G2) (m:=m) (mn:=mn) (md:=md) (ban:=ban) (bg:=b1) (b3:=b3) (b5:=b5) (b6:=b6) (b4:=b4) hk hN hD (aa l3 l36) (aa l5 l6) hl hp ht (λG' b2 l hc=>
  ⟨⟨_,(aa l16 l) _ _ q1,hg0.le (aa l16 l)⟩,l _ _ (l36 _ _ (l3 _ _ (l2 _ _ q3))),l _ _ (l6 _ _ q5),l _ _ q6,l _ _ (l36 _ _ q4),hc,hAn.le (aa l16 l)⟩)
 refine (h0.callL (P:=λr _=>r=.tuple #[]) (Bs':=λ_ G'=>[λH=>∃S,x6 k g.prods (aK g) S/\mS bU G' m S H]) λF1 h1=> ?_).mono ?_
 ·have up:∀(G' G'' F':PH) (x:Unit) (S:Int×Int->Tr),G'.le G''->St G'' F' (mS bU G' m S::[mS aM G2 mn N,mS aM G4 md D])->St G'' F' (mS bU G'' m S::[mS aM G2 mn N,mS aM G4 md D]):=λG' G'' F' x S l h=>h.imp 0 rfl λH _ hH=>hH.le l;refine (Dt (As:=λ_ _=>[mS aM G2 mn N,mS aM G4 md D]) hrn up (x:=()) (λ_=>Sx.leaf k false) (λn c hc=>(by cases hc)) h1).mono ?_;rintro _ F8 ⟨G8,S,rfl,l8,hS,hI,he,h⟩;have hF:x6 k g.prods (aK g) S:=GN (λx hx s hs hst=> ?_) hk.prs hN hD hS hI he
  ·exact ⟨G8,rfl,l8,h.hd.imp (A':=λH=>∃S,x6 k g.prods (aK g) S/\mS bU G8 m S H) 0 rfl λH _ hH=>⟨S,hF,hH⟩⟩
  ·obtain ⟨h0,_,h2⟩:=(hk.prod hx).2.2.2 s hs;obtain ⟨tk,htk,_⟩:=h2 hst;have hlt:=(N6.1 htk).1;have:=UY (sH hlt);rwa [Int.toNat_of_nonneg h0] at this
 rintro _ F9 ⟨G9,rfl,l9,h⟩;obtain ⟨S,h⟩:=h.exI 0 rfl;obtain ⟨hF,h⟩:=h.prI 0 rfl;have l19:=aa l16 l9;have q19:=l19 _ _ q1;have q69:=l9 _ _ q6;refine ⟨rfl,_,rfl,_,by rw [aB];exact ld (h.le _ _ q19) rfl,?_⟩;have h:=h.nilOwn 39 1;have h:St G9 F9 [own Sl.nil 39 1 (cat []),mS bU G9 m S,pt b2 (.cells #[Sl.v Sl.nil] 46)]:=h
 refine bz (Av · (Addr.mk b1 0 none) (some (Addr.mk b2 0 none)) b6 s _) g.nons.length (λi F'=>∃(G':PH) (sl:Sl) (vs:List Γ),G9.le G'/\cN G' (jz S g.toks.length i) vs/\
  St G' F' [own sl 39 1 (cat vs),mS bU G9 m S,pt b2 (.cells #[Sl.v sl] 46)]) ⟨G9,Sl.nil,[],aq _,.nil,h⟩ ?_
 rintro i F10 N1 hi ⟨G10,sl,vs,l10,hv,h⟩ next;unfold Av;have q110:=l10 _ _ q19;refine ⟨λhlt=> ?_,λhge=> ?_⟩
 ·have hlt:i<g.nons.length:=by omega
  refine h.new λb24 F11 h=> ?_;have h:=h.toMap aM;refine ⟨_,by rw [aB];exact ld (h.le _ _ q110) rfl,?_⟩
  refine bz (Au N1 · (Addr.mk b1 0 none) (some (Addr.mk b2 0 none)) b6 (i:Int) b24 s t _) g.toks.length (λq F'=>∃(G':PH) (U:Int->Tr),G10.le G'/\(∀q':Nat,q'<q->U q'=S ((i:Int),(q':Int)))/\
   St G' F' [mS aM G' b24 U,own sl 39 1 (cat vs),mS bU G9 m S,pt b2 (.cells #[Sl.v sl] 46)]) ⟨G10,_,aq _,λq' hq'=>by omega,h⟩ ?_
  rintro q F12 N2 hq ⟨G12,U,l12,hU,h⟩ next2;unfold Au;refine ⟨λhql=> ?_,λhqg=> ?_⟩
  ·have hql:q<g.toks.length:=by omega
   refine ⟨_,ld (h.le _ _ (l12 _ _ (l10 _ _ q69))) rfl,?_⟩;refine (sj h.front2 (aa l10 l12) ((i:Int),(q:Int))).mono ?_;rintro _ F13 ⟨G13,w,rfl,hw,l13',h⟩;have h:=h.back2;refine ⟨w,rfl,?_⟩;obtain ⟨o,mp,m1,m2,m3⟩:=h.mS_at (i:=0) rfl;refine aX xW m1 m2 (q:Int) (.agg w) λo' ho'=> ?_;have h:=h.mS_set 0 rfl (G1:=G13) (S':=eU U (q:Int) (S ((i:Int),(q:Int)))) ho' ((m3.le l13').put hw);rw [aI hql (by omega)];refine next2 _ hql ⟨G13,_,aa l12 l13',λq' hq'=> ?_,h⟩;unfold eU;by_cases e:q'=q
   ·rw [e,if_pos rfl]
   ·rw [if_neg (by omega),hU q' (by omega)]
  ·have hq:q=g.toks.length:=by omega
   subst hq;unfold He;have q112:=l12 _ _ q110;refine ⟨_,rfl,_,ld (h.ptAt (i:=3) rfl) rfl,_,by rw [aB];exact ld (h.le _ _ q112) rfl,?_⟩;dsimp only;rw [et];refine (fz h hk.le g.toks.length (λq hq=>by rw [hU q hq];exact hF.sx _) ht).mono ?_;rintro _ F13 ⟨G13,rs,rfl,l13',hrs,h⟩;have q113:=l13' _ _ q112;refine ⟨_,rfl,by rw [aB];exact ld (h.le _ _ q113) rfl,ld (h.ptAt (i:=2) rfl) rfl,?_⟩;have erow:fQ U g.toks.length=sY S g.toks.length i:=by unfold fQ sY;refine Wk λq hq=> ?_;rw [hU q (VA.1 hq)]
   rw [erow] at hrs;have hlen:sl.len=i:=by have:=RL.len ⟨vs,(hv.le (aa l12 l13')).le h.le,cf.rd (h.ownAt (i:=0) rfl).1⟩ (by decide);rw [uy] at this;exact this
   refine h.push0 T (c:= #[rs.v]) rfl (by simp [ak,Sl.v]) (by omega) λs' G14 F14 l14 h hl'=> ?_;refine ⟨by rw [aB];exact ld (h.le _ _ (l14 _ _ q113)) rfl,?_⟩;refine h.set2 (w':= #[Sl.v s']) (by show 0<1;decide) rfl λF15 h=> ?_;unfold Hd;rw [aI hlt (by omega)];refine next _ hlt ⟨G14,s',vs++[#[rs.v]],aa l10 (aa l12 (aa l13' l14)),?_,?_⟩
   ·rw [AA];exact (hv.le (aa l12 (aa l13' l14))).append (.cons ⟨rs,rfl,hrs.le l14⟩ .nil)
   ·rw [bF,bV];exact h
 ·have e:i=g.nons.length:=by omega
  subst e;obtain ⟨G11,l11,hd,h⟩:=h.pinO;refine ⟨G11,rfl,aa l19 (aa l10 l11),?_⟩;exact (h.swap.hd).imp 0 rfl λH _ hH=>⟨sl,_,⟨S,hF,rfl⟩,⟨vs,hv.le l11,hd⟩,hH⟩
theorem nV {v:Γ} (hT:Tab F) (hg:GV F v g) (hz:Sz g) (hk:OkK g k) (hl:∀x∈g.prods,x.right.length<=1000000) (hp:g.prods.length<=1000000) (ht:g.toks.length<=1000000) (hs:g.nons.length<=1000000):
  ai prog 25 #[.agg v] F λr F'=>(∃sl ds,r=.tuple #[Sl.v sl,vi 0]/\ND k g ds/\RL F' sl ds)/\F.le F':=by
 refine Uy ?_;unfold R9;refine (St.start F).newG λb1 G1 F1 l1 q1 _ h=>h.new λb2 F2 h=>⟨v,hg.size,ac (h.le _ _ q1),?_⟩;refine (eC (kr:=72) (fst:= #[]) (cap:= #[.pointer (some ⟨b1,0,none⟩),.pointer (some ⟨b2,0,none⟩)]) (Bs:=NC (ND k g) b2) (hT.le l1) (hg.le l1) hz hk hl hp h NB λG' ban F' l hAn h=> ?_).mono ?_
 ·have e:(#[]++ #[.pointer (some ⟨ban,0,none⟩)]++ #[.pointer (some ⟨b1,0,none⟩),.pointer (some ⟨b2,0,none⟩)]:Γ)= #[.pointer (some ⟨ban,0,none⟩),.pointer (some ⟨b1,0,none⟩),.pointer (some ⟨b2,0,none⟩)]:=by simp
  rw [e];exact yh hk hl hp ht hs hAn (l _ _ q1) ((hg.le l1).le l) h
 rintro _ F3 ⟨rfl,G3,l3,h⟩;obtain ⟨sl,ds,h1,h2,h⟩:=Du h;refine ⟨_,rfl,sl,h.ld0 rfl,?_⟩;refine h.set0 (w':= #[Sl.v sl]) (by show 0<1;decide) rfl λF4 h=>⟨_,h.ld0 rfl,⟨sl,ds,rfl,h1,h2.le h.le⟩,aa l1 (aa l3 h.le)⟩
end
end Go.Proofs.YtcemhghkipgdiaaGreatDoor
