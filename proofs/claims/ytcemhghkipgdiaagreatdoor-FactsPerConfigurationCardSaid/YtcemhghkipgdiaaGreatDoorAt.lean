/-
  Package facts: Useful.
-/
import Derived.Test.YtcemhghkipgdiaaGreatDoorAm
import Derived.Test.YtcemhghkipgdiaaGreatDoorAe
namespace Go.Proofs.YtcemhghkipgdiaaGreatDoor
open Go Go.Proofs.Tryz Tr
set_option maxRecDepth 10000
theorem Nn:aE prog 113=true:=by kernel_rfl
section
variable {G F:PH} {As:List (Ψ)} {g:Gr} {k m:Nat} {st:Bool}
theorem St.toMap {κ:Type} [DecidableEq κ] (enc:κ->Value) (h:St G F (pt m (.map #[] 0)::As)):St G F (mS enc G m (λ_=>leaf false)::As):=
 h.imp (A':=mS enc G m (λ_=>leaf false)) 0 rfl λH _ hH=>⟨_,_,hH,eH.empty enc,jx.empty G⟩
theorem Je {ban b1 b3 b5:Nat} (hk:OkK g k) (hl:∀x∈g.prods,x.right.length<=1000000) (hp:g.prods.length<=1000000) (q1:G b1=some (.cells #[.pointer (some ⟨ban,0,none⟩)] 93)) (q3:G b3=some (.cells #[.bool st] 4))
  (q5:G b5=some (.cells #[.map (some m)] 95)) (hAn:AnV G ban g):
  Nr G k m 113 #[] #[.pointer (some ⟨b1,0,none⟩),.pointer (some ⟨b3,0,none⟩),.pointer (some ⟨b5,0,none⟩)] (g.prods.map (·.left)) (Snd g.prods (aK g) st) (iX st (aK g) 0 g.prods) (λ_=>()) (λ_ _=>As) where
 cb:=Nn
 sx S hS hI:=by obtain ⟨a1,a2,a3⟩:=kv (st:=st) hk.prs g.prods 0 hS;refine ⟨a1,wK hk.prs g.prods 0 (λj x hj=>by rw [Vd];exact hj) hS hI,a2,λn hn=> ?_⟩;obtain ⟨x,hx,e⟩:=a3 n hn;exact U8.2 ⟨x,hx,e⟩
 run G' F' S x b2 b4 l hS hI hc h:=by
  have e:(#[]++ #[sq b2 b4]++ #[.pointer (some ⟨b1,0,none⟩),.pointer (some ⟨b3,0,none⟩),.pointer (some ⟨b5,0,none⟩)]:Γ)= #[sq b2 b4,.pointer (some ⟨b1,0,none⟩),.pointer (some ⟨b3,0,none⟩),.pointer (some ⟨b5,0,none⟩)]:=by simp
  rw [e];refine (Jl hk hl hp ⟨l _ _ q1,l _ _ q3,l _ _ q5,hc,hAn.le l⟩ hS h).mono ?_;rintro r F'' ⟨G'',ch,h1,h2,h3,h4⟩;exact ⟨G'',ch,h1,h2,h3,h4⟩
theorem cR {ban:Nat} (hk:OkK g k) (hl:∀x∈g.prods,x.right.length<=1000000) (hp:g.prods.length<=1000000) (hAn:AnV G ban g) (h:St G F As):
  ai prog 54 #[.pointer (some ⟨ban,0,none⟩),.bool st] F λr F'=>∃G' mm S,r=.map (some mm)/\G.le G'/\eV k g.prods (aK g) st S/\St G' F' (mS aM G' mm S::As):=by
 refine UC ?_;unfold Se;refine h.newG λb1 G1 F1 l1 q1 _ h=>h.newG λb3 G2 F2 l2 q3 _ h=>h.new λmm F3 h=> ?_;have h:=h.toMap aM;refine h.new λb5 F4 h=> ?_;refine h.set0 (w':= #[.map (some mm)]) (by show 0<1;decide) rfl λF5 h=> ?_;obtain ⟨G3,l3,⟨H,hA,hH⟩,h⟩:=h.pin;have q5:=hH _ _ hA;have l13:=aa l1 (aa l2 l3);have up:∀(G' G'' F':PH) (x:Unit) (S:Int->Tr),G'.le G''->St G'' F' (mS aM G' mm S::As)->St G'' F' (mS aM G'' mm S::As):=λG' G'' F' _ S l h=>h.imp 0 rfl λH _ ⟨o,mp,a1,a2,a3⟩=>⟨o,mp,a1,a2,a3.le l⟩;have h:=up _ _ _ () _ l3 h;refine ⟨_,ld (h.le _ _ q5) rfl,?_⟩;refine (ut (Je (As:=As) hk hl hp (l3 _ _ (l2 _ _ q1)) (l3 _ _ q3) q5 (hAn.le l13)) up (x:=()) (λ_=>Sx.leaf k false) (λn c hc=>by cases hc) h).mono ?_;rintro _ F6 ⟨G6,S,rfl,l6,hS,hI,he,h⟩;exact ⟨rfl,_,ld (h.le _ _ (l6 _ _ q5)) rfl,G6,mm,S,rfl,aa l13 l6,DA hk.prs hS hI he,h⟩
end
theorem RX:∃b z,SlT 29 124 3 b z:=⟨_,_,underlying29,xy,xz,rfl,by decide,by decide⟩
def fQ (S:Int->Tr) (n:Nat):List Dia:=(List.range n).map λ(i:Nat)=>dia (S (i:Int))
theorem Dm (S:Int->Tr) (n:Nat):fQ S (n+1)=fQ S n++[dia (S n)]:=by unfold fQ;rw [Wv,Vm];rfl
theorem Jf {w:Γ} {i n:Nat} {v:Γ} (hv:v.size=2) (hw:w.size=n*2) (hi:i<n):(wr w (i*2) v.toList).size=n*2/\(wr w (i*2) v.toList).toList.take ((i+1)*2)=w.toList.take (i*2)++v.toList:=by
 have hl:w.toList.length=n*2:=hw;have hvl:v.toList.length=2:=hv;have e:=dV v.toList w.toList (i*2) (by omega);rw [show w.toList.toArray=w by simp] at e;refine ⟨?_,?_⟩
 ·have:(wr w (i*2) v.toList).toList.length=n*2:=by rw [e];simp only [UV,Vb,List.length_drop];omega
  exact this
 ·rw [e,Vg (by simp only [UV,Vb];omega)];exact UZ (by simp only [UV,Vb];omega)
section
variable {G F:PH} {As:List (Ψ)} {k m:Nat}
theorem fz {S:Int->Tr} (h:St G F (mS aM G m S::As)) (hk:k<=6) (n:Nat) (hS:∀i:Nat,i<n->Sx k (S i)) (hn:n<=1000000):
  ai prog 53 #[.map (some m),vi n] F λr F'=>∃G' sl,r=Sl.v sl/\G.le G'/\RL G' sl (fQ S n)/\St G' F' As:=by
 obtain ⟨_,_,T⟩:=RX;refine UB ?_;unfold Sd;refine cP underlying39 OG Ii rfl (by omega) (WO _) (by omega) (by omega) ?_;refine λb hb=>⟨_,rfl,?_⟩;rw [N4];have hz:(Builtin.zeroCells (Value.agg zD).cells n).size=n*2:=by simp [Builtin.zeroCells,Value.cells]
 generalize Builtin.zeroCells (Value.cells _) n=z0 at hz ⊢;revert b hb;refine h.new (K:=λb F'=>Lp (0:Int) F' λN v F=>wq N (some m) ⟨some ⟨b,0,none⟩,n,n⟩ _ v F) λb F1 h=> ?_
 refine bz (wq · (some m) ⟨some ⟨b,0,none⟩,n,n⟩ _) n (λi F'=>∃(G':PH) (cur:Γ) (vs:List Γ),G.le G'/\cur.size=n*2/\cN G' (fQ S i) vs/\cur.toList.take (i*2)=cat vs/\
  St G' F' (pt b (.cells cur 31)::mS aM G m S::As)) ⟨G,z0,[],aq _,hz,.nil,by simp [cat],h⟩ ?_
 rintro i F2 N hi ⟨G1,cur,vs,l1,hcs,hv,hc,h⟩ next;unfold wq;refine ⟨λhlt=> ?_,λhge=> ?_⟩
 ·have hlt:i<n:=by have:(i:Int)<(n:Int):=hlt;omega
  refine (fC h.swap l1 (i:Int)).mono ?_;rintro _ F3 ⟨G2,u,rfl,hu,l2,h⟩;refine ⟨u,rfl,?_⟩;refine h.var hu.st (λb7 G3 F4 l3 q7 h=> ?_) rfl hu.size;obtain ⟨sd,rfl,hrd⟩:=hu;refine ⟨_,ld (h.le _ _ q7) rfl,_,ld (h.le _ _ q7) rfl,?_⟩;have hlen:=hrd.blen;have hsm:=(hS i hlt).len hk;have hsm:(dia (S (i:Int))).1.length<=63:=by show (brs _).length<=63;rw [aO];exact hsm
  have h:=h.nilOwn 124 3;refine h.app0 T (((hrd.le l3).le h.le)) (gV _) (by show 0+sd.len<=_;omega) λs' F5 h hl'=> ?_;rw [Vt] at h;obtain ⟨G4,l4,hs',h⟩:=h.pinO;have h:=h.swap;refine ⟨ld (h.le _ _ (l4 _ _ q7)) rfl,_,rfl,by omega,by show (i:Int)<(n:Int);omega,?_⟩;dsimp only;rw [aB,N4,Vd];obtain ⟨e1,e2⟩:=Jf (v:= #[s'.v,vi (dia (S (i:Int))).2]) rfl hcs hlt;refine h.putR0 (w':=wr cur (i*2) (#[s'.v,vi (dia (S (i:Int))).2]:Γ).toList) rfl (by simp [ak,Sl.v]) (show i*2+2<=cur.size by rw [hcs];omega) rfl λF6 h=> ?_;rw [aI hlt (by omega)];have l14:=aa l2 (aa l3 l4);refine next _ hlt ⟨G4,_,vs++[#[s'.v,vi (dia (S (i:Int))).2]],aa l1 l14,e1,?_,?_,h⟩
  ·rw [Dm];exact (hv.le l14).append (.cons (DV.mk (RL.brs.2 hs')) .nil)
  ·rw [e2,hc,bF,bV]
 ·have e:i=n:=by have:¬(i:Int)<(n:Int):=hge;omega
  subst e;unfold GQ;obtain ⟨G2,l2,⟨H,hA,hH⟩,h⟩:=h.pin;have q:=hH _ _ hA;have hcl:=(hv.le l2).cat_len;have hll:(fQ S i).length=i:=by unfold fQ;rw [U6,Vw]
  exact ⟨G2,_,rfl,aa l1 l2,⟨vs,hv.le l2,RdS.new q hc (by rw [hcl,hll]) (UW _)⟩,h.tail⟩
end
section
variable {G F:PH} {As:List (Ψ)} {g:Gr} {k:Nat}
def GH (g:Gr) (k:Nat) (st:Bool) (b:Nat) (G:PH):List (Ψ):=[λH=>∃sl S,eV k g.prods (aK g) st S/\RL G sl (fQ S g.nons.length)/\H b=some (.cells #[Sl.v sl] 39)]
theorem uk {st:Bool} {b:Nat} (h:St G F (GH g k st b G)):∃sl S,eV k g.prods (aK g) st S/\RL G sl (fQ S g.nons.length)/\St G F [pt b (.cells #[Sl.v sl] 39)]:=by obtain ⟨H1,h1⟩:=h.get (i:=0) rfl;obtain ⟨sl,S,e1,e2,e3⟩:=h1.1;refine ⟨sl,S,e1,e2,h.imp (A':=pt b (.cells #[Sl.v sl] 39)) 0 rfl λH' hl hH'=> ?_⟩;obtain ⟨sl',S',f1,f2,f3⟩:=hH';have i1:=h1.2.2 _ _ e3;have i2:=hl _ _ f3;rw [i1] at i2;show H' b=_;rw [f3,<- i2]
theorem xU:aE prog 52=true:=by kernel_rfl
theorem sV:aE prog 57=true:=by kernel_rfl
theorem se {v:Γ} {ban b1 b2:Nat} (hk:OkK g k) (hl:∀x∈g.prods,x.right.length<=1000000) (hp:g.prods.length<=1000000) (hs:g.nons.length<=1000000) (hAn:AnV G ban g) (q1:G b1=some (.cells v 37)) (hg:GV G v g)
  (h:St G F [pt b2 (.cells #[Sl.v Sl.nil] 39)]):ai prog 52 #[.pointer (some ⟨ban,0,none⟩),.pointer (some ⟨b1,0,none⟩),.pointer (some ⟨b2,0,none⟩)] F λr F'=>∃G',r=.tuple #[]/\G.le G'/\St G' F' (GH g k true b2 G'):=by
 obtain ⟨c,n,t,s,p,l,f,rfl,hgs⟩:=hg;have es:=hgs.s.len (by decide);refine UA ?_;unfold Sc;refine ⟨_,rfl,_,by rw [aB];exact ld (h.le _ _ q1) rfl,?_⟩;refine (cR hk hl hp hAn h).mono ?_;rintro _ F1 ⟨G1,mm,S,rfl,l1,hS,h⟩;refine ⟨_,rfl,by rw [aB];exact ld (h.le _ _ (l1 _ _ q1)) rfl,?_⟩;rw [es];refine (fz h hk.le g.nons.length (λi _=>hS.sx i) hs).mono ?_;rintro _ F2 ⟨G2,sl,rfl,l2,hsl,h⟩;refine ⟨_,rfl,by rw [aB];exact ld (h.le _ _ (l2 _ _ (l1 _ _ q1))) rfl,_,rfl,?_⟩;refine h.set0 (w':= #[Sl.v sl]) (by show 0<1;decide) rfl λF3 h=>⟨G2,rfl,aa l1 l2,?_⟩;exact h.imp 0 rfl λH _ hH=>⟨sl,S,hS,hsl,hH⟩
theorem iJ {v:Γ} (hT:Tab F) (hg:GV F v g) (hz:Sz g) (hk:OkK g k) (hl:∀x∈g.prods,x.right.length<=1000000) (hp:g.prods.length<=1000000) (hs:g.nons.length<=1000000):
  ai prog 14 #[.agg v] F λr F'=>(∃sl S,r=.tuple #[Sl.v sl,vi 0]/\eV k g.prods (aK g) true S/\RL F' sl (fQ S g.nons.length))/\F.le F':=by
 refine Ut ?_;unfold R0;refine (St.start F).newG λb1 G1 F1 l1 q1 _ h=>h.new λb2 F2 h=>⟨v,hg.size,ac (h.le _ _ q1),?_⟩;refine (eC (kr:=52) (fst:= #[]) (cap:= #[.pointer (some ⟨b1,0,none⟩),.pointer (some ⟨b2,0,none⟩)]) (Bs:=GH g k true b2) (hT.le l1) (hg.le l1) hz hk hl hp h xU λG' ban F' l hAn h=> ?_).mono ?_
 ·have e:(#[]++ #[.pointer (some ⟨ban,0,none⟩)]++ #[.pointer (some ⟨b1,0,none⟩),.pointer (some ⟨b2,0,none⟩)]:Γ)= #[.pointer (some ⟨ban,0,none⟩),.pointer (some ⟨b1,0,none⟩),.pointer (some ⟨b2,0,none⟩)]:=by simp
  rw [e];exact se hk hl hp hs hAn (l _ _ q1) ((hg.le l1).le l) h
 rintro _ F3 ⟨rfl,G3,l3,h⟩;obtain ⟨sl,S,h1,h2,h⟩:=uk h;refine ⟨_,rfl,sl,h.ld0 rfl,?_⟩;refine h.set0 (w':= #[Sl.v sl]) (by show 0<1;decide) rfl λF4 h=>⟨_,h.ld0 rfl,⟨sl,S,rfl,h1,h2.le h.le⟩,aa l1 (aa l3 h.le)⟩
end
section
variable {G F:PH} {g:Gr} {k:Nat}
theorem nO {v:Γ} {ban b1 b2:Nat} (hk:OkK g k) (hl:∀x∈g.prods,x.right.length<=1000000) (hp:g.prods.length<=1000000) (hs:g.nons.length<=1000000) (hAn:AnV G ban g) (q1:G b1=some (.cells v 37)) (hg:GV G v g)
  (h:St G F [pt b2 (.cells #[Sl.v Sl.nil] 39)]):ai prog 57 #[.pointer (some ⟨ban,0,none⟩),.pointer (some ⟨b1,0,none⟩),.pointer (some ⟨b2,0,none⟩)] F λr F'=>∃G',r=.tuple #[]/\G.le G'/\St G' F' (GH g k false b2 G'):=by
 obtain ⟨c,n,t,s,p,l,f,rfl,hgs⟩:=hg;have es:=hgs.s.len (by decide);refine UD ?_;unfold Sf;refine ⟨_,rfl,_,by rw [aB];exact ld (h.le _ _ q1) rfl,?_⟩;refine (cR hk hl hp hAn h).mono ?_;rintro _ F1 ⟨G1,mm,S,rfl,l1,hS,h⟩;refine ⟨_,rfl,by rw [aB];exact ld (h.le _ _ (l1 _ _ q1)) rfl,?_⟩;rw [es];refine (fz h hk.le g.nons.length (λi _=>hS.sx i) hs).mono ?_;rintro _ F2 ⟨G2,sl,rfl,l2,hsl,h⟩;refine ⟨_,rfl,by rw [aB];exact ld (h.le _ _ (l2 _ _ (l1 _ _ q1))) rfl,_,rfl,?_⟩;refine h.set0 (w':= #[Sl.v sl]) (by show 0<1;decide) rfl λF3 h=>⟨G2,rfl,aa l1 l2,?_⟩;exact h.imp 0 rfl λH _ hH=>⟨sl,S,hS,hsl,hH⟩
theorem gb {v:Γ} (hT:Tab F) (hg:GV F v g) (hz:Sz g) (hk:OkK g k) (hl:∀x∈g.prods,x.right.length<=1000000) (hp:g.prods.length<=1000000) (hs:g.nons.length<=1000000):
  ai prog 16 #[.agg v] F λr F'=>(∃sl S,r=.tuple #[Sl.v sl,vi 0]/\eV k g.prods (aK g) false S/\RL F' sl (fQ S g.nons.length))/\F.le F':=by
 refine Uu ?_;unfold R1;refine (St.start F).newG λb1 G1 F1 l1 q1 _ h=>h.new λb2 F2 h=>⟨v,hg.size,ac (h.le _ _ q1),?_⟩;refine (eC (kr:=57) (fst:= #[]) (cap:= #[.pointer (some ⟨b1,0,none⟩),.pointer (some ⟨b2,0,none⟩)]) (Bs:=GH g k false b2) (hT.le l1) (hg.le l1) hz hk hl hp h sV λG' ban F' l hAn h=> ?_).mono ?_
 ·have e:(#[]++ #[.pointer (some ⟨ban,0,none⟩)]++ #[.pointer (some ⟨b1,0,none⟩),.pointer (some ⟨b2,0,none⟩)]:Γ)= #[.pointer (some ⟨ban,0,none⟩),.pointer (some ⟨b1,0,none⟩),.pointer (some ⟨b2,0,none⟩)]:=by simp
  rw [e];exact nO hk hl hp hs hAn (l _ _ q1) ((hg.le l1).le l) h
 rintro _ F3 ⟨rfl,G3,l3,h⟩;obtain ⟨sl,S,h1,h2,h⟩:=uk h;refine ⟨_,rfl,sl,h.ld0 rfl,?_⟩;refine h.set0 (w':= #[Sl.v sl]) (by show 0<1;decide) rfl λF4 h=>⟨_,h.ld0 rfl,⟨sl,S,rfl,h1,h2.le h.le⟩,aa l1 (aa l3 h.le)⟩
end
def Inc (l l':List Pr) (P P':Nat->Tr) (c c':Cf):Prop:=∀i x,l[i]? =some x->(P i).ev c=true->∃i' x',l'[i']? =some x'/\x'.left=x.left/\x'.right=x.right/\(P' i').ev c'=true
section
variable {l l':List Pr} {P P':Nat->Tr} {c c':Cf} {st:Bool}
theorem Der.inc (h:Inc l l' P P' c c') {n:Int} (d:Der l P st c n):Der l' P' st c' n:=by
 induction d with
 |mk i x hi hp ht _ ih=>obtain ⟨i',x',h1,h2,h3,h4⟩:=h i x hi hp;rw [<- h2];exact .mk i' x' h1 h4 (by rw [h3];exact ht) (by rw [h3];exact ih)
theorem Stp.inc (h:Inc l l' P P' c c') {a b:Int} (s:Stp l P c a b):Stp l' P' c' a b:=by obtain ⟨i,j,x,s,h1,h2,h3,h4,h5,h6,h7⟩:=s;obtain ⟨i',x',e1,e2,e3,e4⟩:=h i x h1 h6;exact ⟨i',j,x',s,e1,by rw [e3];exact h2,h3,by rw [e2];exact h4,h5,e4,λm y hm hy=>(h7 m y hm (by rw [<- e3];exact hy)).imp id λd=>d.inc h⟩
theorem Bef.inc (h:Inc l l' P P' c c') {r:List Sy} {j:Nat} (b:Bef l P c r j):Bef l' P' c' r j:=λm y hm hy=>(b m y hm hy).imp id λd=>d.inc h
theorem Fst.inc (h:Inc l l' P P' c c') {a t:Int} (f:Fst l P c a t):Fst l' P' c' a t:=by
 induction f with
 |tok i j x s hi hp hd hj hb hs=>obtain ⟨i',x',e1,e2,e3,e4⟩:=h i x hi hp;rw [<- e2];exact .tok i' j x' s e1 e4 (by rw [e3];exact λy hy hyt=>(hd y hy hyt).inc h) (by rw [e3];exact hj) (by rw [e3];exact hb.inc h) hs
 |non i j x s t hi hp hd hj hb hs _ ih=>obtain ⟨i',x',e1,e2,e3,e4⟩:=h i x hi hp;rw [<- e2];exact .non i' j x' s t e1 e4 (by rw [e3];exact λy hy hyt=>(hd y hy hyt).inc h) (by rw [e3];exact hj) (by rw [e3];exact hb.inc h) hs ih
theorem Rch.inc (h:Inc l l' P P' c c') {f f':Tr} (hf:f.ev c=true->f'.ev c'=true) {s n:Int} (r:Rch l P f s c n):Rch l' P' f' s c' n:=by
 induction r with
 |start h0=>exact .start (hf h0)
 |step i x s hi hp _ hd hs ht ih=>obtain ⟨i',x',e1,e2,e3,e4⟩:=h i x hi hp;exact .step i' x' s e1 e4 (by rw [e2];exact ih) (by rw [e3];exact λy hy hyt=>(hd y hy hyt).inc h) (by rw [e3];exact hs) ht
theorem Der.up {n:Int} (d:Der l P true c n):Der l P false c n:=by
 induction d with
 |mk i x hi hp _ _ ih=>exact .mk i x hi hp (λ_ _ _=>rfl) ih
theorem Der.inv {n:Int}:Der l P st c n↔∃i x,l[i]? =some x/\x.left=n/\(P i).ev c=true/\(∀s∈x.right,s.t=true->st=false)/\∀s∈x.right,s.t=false->Der l P st c s.i:=by
 constructor
 ·rintro ⟨i,x,h1,h2,h3,h4⟩;exact ⟨i,x,h1,rfl,h2,h3,h4⟩
 ·rintro ⟨i,x,h1,rfl,h2,h3,h4⟩;exact .mk i x h1 h2 h3 h4
theorem Fst.der {n t:Int} (f:Fst l P c n t):Der l P false c n:=by
 cases f with
 |tok i j x s hi hp hd=>exact .mk i x hi hp (λ_ _ _=>rfl) hd
 |non i j x s t hi hp hd=>exact .mk i x hi hp (λ_ _ _=>rfl) hd
theorem Fst.pres {n t:Int} (f:Fst l P c n t):∃i x,l[i]? =some x/\x.left=n/\(P i).ev c=true/\x.right≠[]:=by
 cases f with
 |tok i j x s hi hp hd hj=>exact ⟨i,x,hi,rfl,hp,λe=>by rw [e] at hj;cases hj⟩
 |non i j x s t hi hp hd hj=>exact ⟨i,x,hi,rfl,hp,λe=>by rw [e] at hj;cases hj⟩
end
structure RY (k:Nat) (l:List Pr) (P:Nat->Tr) (fam:Tr) (start:Int) (U:Nat->Tr):Prop where
 sx:∀i,Sx k (U i)
 iff:∀i c,i<l.length->((U i).ev c=true↔Use l P fam start c i)
def No (U:Nat->Tr) (n:Nat):List Dia:=(List.range n).map λi=>dia (U i)
structure mR (k n:Nat) (l:List Pr) (P:Nat->Tr) (C:Int->Tr):Prop where
 sx:Sxs k C
 iff:∀(i:Nat) c,i<n->((C i).ev c=true↔Tg (Stp l P c) i i)
section
end
theorem St.exI {α:Type} {G F:PH} {As:List (Ψ)} {A:α->Ψ} (h:St G F As) (i:Nat) (hi:As[i]? =some λH=>∃x,A x H):∃x,St G F (As.set i (A x)):=by
 obtain ⟨hl,Hs,h1,h2⟩:=h;obtain ⟨⟨x,hx⟩,hd,hle⟩:=h1 i _ hi;refine ⟨x,hl,Hs,λj B hj=> ?_,λj k hj hk=>h2 j k (by simpa using hj) (by simpa using hk)⟩;by_cases e:j=i
 ·subst e;rw [List.getElem?_set_self (N6.1 hi).1] at hj;cases hj;exact ⟨hx,hd,hle⟩
 ·rw [List.getElem?_set_ne (Ne.symm e)] at hj;exact h1 j B hj
theorem St.prI {P:Prop} {G F:PH} {As:List (Ψ)} {A:Ψ} (h:St G F As) (i:Nat) (hi:As[i]? =some λH=>P/\A H):P/\St G F (As.set i A):=by obtain ⟨H,⟨hp,_⟩,_⟩:=h.get hi;exact ⟨hp,h.imp i hi λ_ _ h=>h.2⟩
theorem St.hd {G F:PH} {As:List (Ψ)} {A:Ψ} (h:St G F (A::As)):St G F [A]:=h.pick id (λ_ _ _ _ e=>e) λi hi=>by
 cases i with
 |zero=>rfl
 |succ i=>simp at hi
noncomputable def hY (P:Nat->Tr) (D:Int->Tr):Nat->List Pr->(Int->Tr)->Nat->Tr
 |_,[],_,_=>leaf false
 |i,x::l,S,j=>if j=i then fR P D S i x else hY P D (i+1) l (eD (fR P D S i x) x.right S) j
section
variable {k:Nat} {l:List Pr} {P:Nat->Tr} {D:Int->Tr}
theorem xV {d:Tr} {n:Int}:∀{r:List Sy} {S:Int->Tr},eD d r S n≠S n->∃s∈r,s.i=n
 |[],S,h=>absurd rfl h
 |s::r,S,h=>by
  by_cases e:s.i=n
  ·exact ⟨s,by simp,e⟩
  ·unfold eD at h;have e2:(if s.t=true then S else cC S s.i d) n=S n:=by
    split
    ·rfl
    ·unfold cC eU;rw [if_neg (Ne.symm e)]
   rw [<- e2] at h;obtain ⟨y,hy,h⟩:=xV h;exact ⟨y,Ve _ hy,h⟩
theorem B7 {n:Int}:∀{l:List Pr} {i:Nat} {S:Int->Tr},gf P D i l S n≠S n->n∈l.flatMap λx=>x.right.map (·.i)
 |[],i,S,h=>absurd rfl h
 |x::l,i,S,h=>by
  rw [VC,UX];by_cases e:eD (fR P D S i x) x.right S n=S n
  ·unfold gf at h;rw [<- e] at h;exact .inr (B7 h)
  ·obtain ⟨s,hs,h⟩:=xV e;exact .inl (U8.2 ⟨s,hs,h⟩)
theorem sg (hP:∀i,Sx k (P i)) (hD:Sxs k D) {S:Int->Tr} (hS:Sxs k S) (i:Nat) (x:Pr):Sx k (fR P D S i x)/\Sxs k (eD (fR P D S i x) x.right S)/\Lt' S (eD (fR P D S i x) x.right S):=by obtain ⟨u1,_⟩:=eg hP hD hS i x;obtain ⟨a1,a2⟩:=eF u1 x.right hS;exact ⟨u1,a1,λn c h=>(a2 n c).2 (.inl h)⟩
theorem um (hP:∀i,Sx k (P i)) (hD:Sxs k D):∀(l:List Pr) (i:Nat) {S:Int->Tr},Sxs k S->gf P D i l S=S->∀(j:Nat) (x:Pr),l[j]? =some x->hY P D i l S (i+j)=fR P D S (i+j) x
 |[],_,_,_,_,j,_,h=>by simp at h
 |y::l,i,S,hS,he,j,x,hj=>by
  obtain ⟨u1,a1,a2⟩:=sg hP hD hS i y;unfold gf at he;obtain ⟨b1,b2⟩:=iM hP hD l (i+1) a1;have e1:eD (fR P D S i y) y.right S=S:=by refine Lt'.antisymm a1 hS ?_ a2;rw [he] at b2;exact b2
  rw [e1] at he;unfold hY;cases j with
  |zero=>cases hj;rw [if_pos (by omega),Wo]
  |succ j=>rw [if_neg (by omega),e1];have:=um hP hD l (i+1) hS he j x (by simpa using hj);rw [show i+(j+1)=i+1+j by omega];exact this
end
section
variable {G F Gd:PH} {g:Gr} {k m mu ms:Nat} {D:Int->Tr}
def ku (n mu:Nat) (G:PH) (x:Nat->Tr):Ψ:=λH=>∃U:Int->Tr,(∀i:Nat,i<n->U i=x i)/\mS aM G mu U H
theorem mS.le {κ:Type} [DecidableEq κ] {enc:κ->Value} {G G':PH} {m:Nat} {S:κ->Tr} {H:PH} (h:mS enc G m S H) (l:G.le G'):mS enc G' m S H:=by obtain ⟨o,mp,h1,h2,h3⟩:=h;exact ⟨o,mp,h1,h2,h3.le l⟩
structure UsE (G:PH) (g:Gr) (ms mu m ban bg b5 b3 b4 b6 b2:Nat):Prop where
 qg:∃v,G bg=some (.cells v 37)/\GV G v g
 q5:G b5=some (.cells #[.map (some m)] 95)
 q3:G b3=some (.cells #[.pointer (some ⟨ban,0,none⟩)] 93)
 q4:G b4=some (.cells #[.map (some ms)] 95)
 q6:G b6=some (.cells #[.map (some mu)] 95)
 q2:G.cell ⟨b2,0,none⟩=some (.map (some m))
 an:AnV G ban g
theorem UsE.le {G G':PH} {ban bg b5 b3 b4 b6 b2:Nat} (h:UsE G g ms mu m ban bg b5 b3 b4 b6 b2) (l:G.le G'):UsE G' g ms mu m ban bg b5 b3 b4 b6 b2:=
 ⟨by obtain ⟨v,h1,h2⟩:=h.qg;exact ⟨v,l _ _ h1,h2.le l⟩,l _ _ h.q5,l _ _ h.q3,l _ _ h.q4,l _ _ h.q6,aH l h.q2,h.an.le l⟩
def nP {κ:Type} [DecidableEq κ] (enc:κ->Value) (G:PH) (m bf:Nat) (S S':κ->Tr) (Bs:PH->List (Ψ)):VR:=λr F'=>∃G' ch,r=.tuple #[]/\G.le G'/\(ch=true↔S'≠S)/\St G' F' (mS enc G' m S'::pt bf (.cells #[.bool ch] 4)::Bs G')
theorem Jg {ban bg b5 b3 b4 b6 b2 bf:Nat} (hk:OkK g k) (hD:Sxs k D) (lD:Gd.le G) (hl:∀x∈g.prods,x.right.length<=1000000) (hp:g.prods.length<=1000000) (E:UsE G g ms mu m ban bg b5 b3 b4 b6 b2) {S:Int->Tr} (hS:Sxs k S) {x0:Nat->Tr}
  (h:St G F [mS aM G m S,pt bf (.cells #[.bool false] 4),ku g.prods.length mu G x0,mS aM Gd ms D]):
  ai prog 64 #[sq b2 bf,.pointer (some ⟨bg,0,none⟩),.pointer (some ⟨b5,0,none⟩),.pointer (some ⟨b3,0,none⟩),.pointer (some ⟨b4,0,none⟩),.pointer (some ⟨b6,0,none⟩)] F
   (nP aM G m bf S (gf (aK g) D 0 g.prods S) λG'=>[ku g.prods.length mu G' (hY (aK g) D 0 g.prods S),mS aM Gd ms D]):=by
 obtain ⟨vg,qg,c,n,t,s,p,lv,f,rfl,hs⟩:=E.qg;obtain ⟨c',n',t',s',p',lv',f',q,qa,hs',hq⟩:=E.an.ex;have ep:=hs.p.len (by decide);have eq:=hq.len (by decide);rw [jy] at eq;refine UI ?_;unfold Sn;refine ⟨_,rfl,_,by rw [aB];exact ld (h.le _ _ qg) rfl,?_⟩;obtain ⟨U0,h⟩:=h.exI 2 rfl;obtain ⟨_,h⟩:=h.prI 2 rfl;have h:St G F [mS aM G m S,pt bf (.cells #[.bool false] 4),mS aM G mu U0,mS aM Gd ms D]:=h
 refine bz (Ar · (sq b2 bf) _ _ _ _ p _) g.prods.length (λi F'=>∃(G':PH) (S' U:Int->Tr) (ch:Bool),G.le G'/\Sxs k S'/\Lt' S S'/\gf (aK g) D 0 g.prods S=gf (aK g) D i (g.prods.drop i) S'/\(ch=true↔S'≠S)/\
  (∀j:Nat,j<g.prods.length->hY (aK g) D 0 g.prods S j=if j<i then U j else hY (aK g) D i (g.prods.drop i) S' j)/\
  ∃Bs,St G' F' ([mS aM G' m S',pt bf (.cells #[.bool ch] 4),mS aM G' mu U,mS aM Gd ms D]++Bs)) ⟨G,S,U0,false,aq _,hS,Lt'.refl S,by rw [Vz],by simp,λj _=>by rw [if_neg (by omega),Vz],[],h⟩ ?_
 rintro i F1 N hi ⟨G1,S1,U,ch,l1,hS1,hle,hrd,hch,hus,Bs,h⟩ next;replace h:St G1 F1 [mS aM G1 m S1,pt bf (.cells #[.bool ch] 4),mS aM G1 mu U,mS aM Gd ms D]:=h.pick id (λ_ _ _ _ e=>e) λi hi=>by rw [id,U9 hi]
 have E1:=E.le l1;unfold Ar;refine ⟨λhlt=> ?_,λhge=> ?_⟩
 ·have hlt:i<g.prods.length:=by omega
  have hs1:=hs.le l1;refine h.ix hs1.p (by decide) (by omega) (by omega) λa c6 x hx hrow hc6=>⟨c6,Mem.len hc6,hrow,?_⟩;rw [N4] at hx;have hxm:=UY hx;have edrop:g.prods.drop i=x::g.prods.drop (i+1):=cL hx;obtain ⟨hu,a1,a2⟩:=sg (D:=D) hk.prs hD hS1 i x;refine h.var (Mem.st hc6) (λb8 G2 F2 l2 q8 h=> ?_) rfl (Mem.len hc6);obtain ⟨r,n8,l8,rfl,hr,hn8,_⟩:=hc6;have l12:=aa l1 l2;have E2:=E1.le l2;have qa2:=l12 _ _ qa;have er:=(hr.le l2).len (by decide);refine ⟨_,rfl,_,ld (h.le _ _ E2.q5) rfl,_,ld (h.le _ _ q8) rfl,_,rfl,_,ld (h.le _ _ E2.q3) rfl,_,rfl,_,by rw [aB];exact ld (h.le _ _ qa2) rfl,?_⟩;refine ixc (hq.le l12) (by decide) (by omega) (by omega) λa9 c9 dd hdd hrow9 hc9=>⟨c9,Mem.len hc9,bJ h.le hrow9,?_⟩;rw [N4] at hdd;have hdd:dd=dia (aK g i):=by unfold oU at hdd;rw [U5,Vy hlt] at hdd;exact (Vl hdd).symm
  have hc9:DV G2 c9 (dia (aK g i)):=by rw [<- hdd];exact hc9
  have hand:=(hS1 x.left).ap2 (o:=bj) (hk.prs i);have fin:∀{G' F':PH} {y:Γ} {b9:Nat},G2.le G'->DV G' y (dia (ap2 bj (S1 x.left) (aK g i)))->St G' F' [pt b9 (.cells y 31),mS aM G1 m S1,pt bf (.cells #[.bool ch] 4),mS aM G1 mu U,mS aM Gd ms D]->
    kW N (sq b2 bf) (some (Addr.mk b5 0 none)) (some (Addr.mk b3 0 none)) (some (Addr.mk b4 0 none)) (some (Addr.mk b6 0 none)) (i:Int) b8 p (some (Addr.mk b9 0 none))
     (nP aM G m bf S (gf (aK g) D 0 g.prods S) λG'=>[ku g.prods.length mu G' (hY (aK g) D 0 g.prods S),mS aM Gd ms D]) F':=λ{G' F' y b9} l hy h=>by
   unfold kW;have E3:=E2.le l;have q83:=l _ _ q8;refine ⟨_,rfl,y,hy.size,ac (h.ptAt (i:=0) rfl),_,ld (h.le _ _ q83) rfl,_,rfl,_,ld (h.le _ _ E3.q4) rfl,?_⟩;refine (ia h.front4 (aa lD (aa l12 l)) hk.le hD hand hy (hr.le (aa l2 l)) (hl x hxm)).mono ?_;rintro _ F5 ⟨G5,u,rfl,hu5,l5,h⟩;have h:=h.back4;have E5:=E3.le l5;have q85:=l5 _ _ q83;refine ⟨u,rfl,?_⟩;refine h.put0 (w':=u) hu5.size hy.size hu5.st λF6 h=> ?_;refine ⟨_,rfl,_,ld (h.le _ _ E5.q6) rfl,u,hu5.size,ac (h.ptAt (i:=0) rfl),?_⟩;obtain ⟨o,mp,m1,m2,m3⟩:=h.mS_at (i:=3) rfl;have l15:=aa l2 (aa l l5);refine aX xW m1 m2 (i:Int) (.agg u) λo' ho'=> ?_;have h:=h.mS_set 3 rfl (G1:=G5) (S':=eU U (i:Int) (fR (aK g) D S1 i x)) ho' ((m3.le l15).put hu5);refine ⟨_,ld (h.le _ _ q85) rfl,?_⟩;refine bz (Aq N · (sq b2 bf) (some (Addr.mk b5 0 none)) (some (Addr.mk b3 0 none)) (Addr.mk b4 0 none) (Addr.mk b6 0 none) (Addr.mk b9 0 none) p (i:Int) r _) x.right.length
    (λj F'=>∃(G':PH) (S2:Int->Tr) (ch2:Bool),G5.le G'/\Sxs k S2/\Lt' S1 S2/\eD (fR (aK g) D S1 i x) x.right S1=eD (fR (aK g) D S1 i x) (x.right.drop j) S2/\(ch2=true↔ch=true\/S2≠S1)/\
     St G' F' [mS aM G' m S2,pt bf (.cells #[.bool ch2] 4),mS aM G' mu (eU U (i:Int) (fR (aK g) D S1 i x)),mS aM Gd ms D,pt b9 (.cells u 31)])
    ⟨G5,S1,ch,aq _,hS1,Lt'.refl _,by rw [Vz],by simp,h.rot.imp 0 rfl λ_ _ hH=>hH.le l15⟩ ?_
   rintro j F7 N2 hj ⟨G6,S2,ch2,l6,hS2,hle2,had,hch2,h⟩ next2;unfold Aq;refine ⟨λhjl=> ?_,λhjg=> ?_⟩
   ·have hjl:j<x.right.length:=by omega
    refine ixc (hr.le (aa l2 (aa l (aa l5 l6)))) (by decide) (by omega) (by omega) λa8 c8 sy hsy hrow8 hc8=>⟨c8,Mem.len hc8,bJ h.le hrow8,?_⟩;rw [N4] at hsy;obtain rfl:c8=sy.arr:=hc8;have edr:x.right.drop j=sy::x.right.drop (j+1):=cL hsy;refine h.var (by simp [ak]) (λb11 G7 F8 l7 q11 h=>⟨_,ld (h.le _ _ q11) rfl,λhyt=> ?_,λhyt=> ?_⟩) rfl rfl
    ·have hyt:sy.t=false:=by simpa using hyt
     have E7:=E5.le (aa l6 l7);refine ⟨_,ld (h.le _ _ q11) rfl,u,hu5.size,ac (h.ptAt (i:=4) rfl),_,_,_,rfl,GL,?_⟩;refine (uo h l7 hk.le hS2 hu (hu5.le (aa l6 l7)) E7.q2 sy.i).mono ?_;rintro _ F9 ⟨G8,ch3,rfl,hch3,l8,h⟩;refine ⟨rfl,?_⟩;unfold wA;rw [aI hjl (by have:=hl x hxm;omega)];refine next2 _ hjl ⟨G8,_,ch3,aa l6 (aa l7 l8),dE hS2 hu,hle2.trans (eI hS2 hu),?_,?_,h.imp 2 rfl λ_ _ hH=>hH.le (aa l7 l8)⟩
     ·rw [had,edr];show eD _ (x.right.drop (j+1)) (if sy.t=true then S2 else cC S2 sy.i _)=_;rw [hyt,if_neg Wc]
     ·rw [hch3,hch2,or_assoc,iL hS1 hS2 (dE hS2 hu) hle2 (eI hS2 hu)]
    ·have hyt:sy.t=true:=by simpa using hyt
     unfold wA;rw [aI hjl (by have:=hl x hxm;omega)];refine next2 _ hjl ⟨G7,S2,ch2,aa l6 l7,hS2,hle2,?_,hch2,(h.imp 2 rfl λ_ _ hH=>hH.le l7).imp 0 rfl λ_ _ hH=>hH.le l7⟩;rw [had,edr];show eD _ (x.right.drop (j+1)) (if sy.t=true then S2 else cC S2 sy.i _)=_;rw [hyt,if_pos rfl]
   ·have hj:j=x.right.length:=by omega
    subst hj;rw [VO] at had;have had:eD (fR (aK g) D S1 i x) x.right S1=S2:=had;unfold Ha;rw [aI hlt (by omega)];rw [had] at a1 a2;refine next _ hlt ⟨G6,S2,_,ch2,aa l12 (aa l (aa l5 l6)),hS2,hle.trans hle2,?_,?_,λj' hj'=> ?_,[pt b9 (.cells u 31)],h⟩
    ·rw [hrd,edrop];show gf _ _ (i+1) _ (eD (fR (aK g) D S1 i x) x.right S1)=_;rw [had]
    ·rw [hch2,hch,iL hS hS1 hS2 hle hle2]
    ·rw [hus j' hj',edrop];have e3:∀j',hY (aK g) D i (x::g.prods.drop (i+1)) S1 j'=if j'=i then fR (aK g) D S1 i x else hY (aK g) D (i+1) (g.prods.drop (i+1)) (eD (fR (aK g) D S1 i x) x.right S1) j':=λ_=>rfl
     rw [e3,had];unfold eU;by_cases c1:j'<i
     ·rw [if_pos c1,if_pos (by omega),if_neg (by omega)]
     ·by_cases c2:j'=i
      ·rw [if_neg c1,if_pos c2,if_pos (by omega),if_pos (by omega)]
      ·rw [if_neg c1,if_neg c2,if_neg (by omega)]
  have mk:∀{G' F':PH} {w y:Γ} {b9:Nat},w.size=2->G2.le G'->DV G' y (dia (ap2 bj (S1 x.left) (aK g i)))->St G' F' [pt b9 (.cells w 31),mS aM G1 m S1,pt bf (.cells #[.bool ch] 4),mS aM G1 mu U,mS aM Gd ms D]->
    au F' (Addr.mk b9 0 none) 2 y λF=>kW N (sq b2 bf) (some (Addr.mk b5 0 none)) (some (Addr.mk b3 0 none)) (some (Addr.mk b4 0 none)) (some (Addr.mk b6 0 none)) (i:Int) b8 p (some (Addr.mk b9 0 none))
     (nP aM G m bf S (gf (aK g) D 0 g.prods S) λG'=>[ku g.prods.length mu G' (hY (aK g) D 0 g.prods S),mS aM Gd ms D]) F:=λhw l hy h=>h.put0 hy.size hw hy.st λF' h=>fin l hy h
  have hA:∀{G':PH} {w:Γ},G2.le G'->DV G' w (dia (S1 x.left))->ai prog 35 #[.agg w,.agg c9] G' λr G''=>(∃y,r=.tuple #[.agg y,vi 0]/\DV G'' y (dia (ap2 bj (S1 x.left) (aK g i))))/\G'.le G'':=
   λl hw=>(iK hk.le (hS1 x.left) (hk.prs i) hw (hc9.le l)).mono λr F' ⟨x,a,b,c⟩=>⟨⟨x,a,b⟩,c⟩
  have at9:∀{G' F':PH} {As:List (Ψ)},G2.le G'->St G' F' As->F'.cell (Addr.add (Addr.mk ban 0 none) 9)=some (Sl.v q):=λl h=>by rw [aB];exact ld (h.le _ _ (l _ _ qa2)) rfl
  have a3:∀{G' F':PH} {As:List (Ψ)},G2.le G'->St G' F' As->F'.cell (Addr.mk b3 0 none)=some (.pointer (some ⟨ban,0,none⟩)):=λl h=>ld (h.le _ _ (E2.le l).q3) rfl;refine ⟨?_,?_⟩
  ·refine (fC h l2 x.left).mono ?_;rintro _ F3 ⟨G3,w,rfl,hw,l3,h⟩;refine ⟨w,rfl,bJ (aa l3 h.le) hrow9,at9 l3 h,a3 l3 h,?_,?_⟩
   ·refine h.run (hA l3 hw) λ_ G4 F4 hr4 l4 h=> ?_;obtain ⟨y,rfl,hy⟩:=hr4;have l34:=aa l3 l4;refine ⟨_,_,rfl,at9 l34 h,a3 l34 h,?_,?_⟩
    ·refine h.runv (bq hy) λG5 F5 l5 h=>⟨_,rfl,at9 (aa l34 l5) h,a3 (aa l34 l5) h,?_⟩;exact h.new λb9 F6 h=>mk rfl (aa l34 l5) (hy.le l5) h
    ·refine h.new λb9 F5 h=> ?_;exact h.runv (bq hy) λG5 F6 l5 h=>⟨_,rfl,at9 (aa l34 l5) h,a3 (aa l34 l5) h,mk rfl (aa l34 l5) (hy.le l5) h⟩
   ·refine h.new λb9 F4 h=> ?_;refine h.run (hA l3 hw) λ_ G4 F5 hr4 l4 h=> ?_;obtain ⟨y,rfl,hy⟩:=hr4;have l34:=aa l3 l4;refine ⟨_,_,rfl,at9 l34 h,a3 l34 h,?_⟩;exact h.runv (bq hy) λG5 F6 l5 h=>⟨_,rfl,at9 (aa l34 l5) h,a3 (aa l34 l5) h,mk rfl (aa l34 l5) (hy.le l5) h⟩
  ·refine h.new λb9 F3 h=> ?_;refine (fC h.swap l2 x.left).mono ?_;rintro _ F4 ⟨G3,w,rfl,hw,l3,h⟩;have h:=h.swap;refine ⟨w,rfl,bJ (aa l3 h.le) hrow9,at9 l3 h,a3 l3 h,?_⟩;refine h.run (hA l3 hw) λ_ G4 F5 hr4 l4 h=> ?_;obtain ⟨y,rfl,hy⟩:=hr4;have l34:=aa l3 l4;refine ⟨_,_,rfl,at9 l34 h,a3 l34 h,?_⟩;exact h.runv (bq hy) λG5 F6 l5 h=>⟨_,rfl,at9 (aa l34 l5) h,a3 (aa l34 l5) h,mk rfl (aa l34 l5) (hy.le l5) h⟩
 ·have e:i=g.prods.length:=by omega
  subst e;rw [VO] at hrd hus;have hrd:gf (aK g) D 0 g.prods S=S1:=hrd;rw [hrd];refine ⟨G1,ch,rfl,l1,hch,h.imp 2 rfl λH _ hH=>⟨U,λj hj=> ?_,hH⟩⟩;rw [hus j hj,if_pos hj]
end
theorem Jh:aE prog 64=true:=by kernel_rfl
theorem Np:aE prog 62=true:=by kernel_rfl
theorem St.var1 {G F:PH} {As:List (Ψ)} (h:St G F As) {z v:Value} {e:TypeId} {K:Nat->Ψ} (k:∀b G' F',G.le G'->G' b=some (.cells #[v] e)->St G' F' As->K b F'):∀b,F b=none->atF (F.set b (.cells #[z] e)) λF=>sto F (Addr.mk b 0 none) v (K b):=by refine h.new λb F1 h=> ?_;refine h.set0 (w':= #[v]) (by show 0<1;decide) rfl λF2 h=> ?_;exact h.pinb λG' l q h=>k b G' F2 l q h
def GI (A:List Dia->Prop) (b:Nat) (G:PH):List (Ψ):=[λH=>∃sl ds,A ds/\RL G sl ds/\H b=some (.cells #[Sl.v sl] 39)]
theorem un {A:List Dia->Prop} {b:Nat} {G F:PH} (h:St G F (GI A b G)):∃sl ds,A ds/\RL G sl ds/\St G F [pt b (.cells #[Sl.v sl] 39)]:=by obtain ⟨sl,h⟩:=h.exI 0 rfl;obtain ⟨ds,h⟩:=h.exI 0 rfl;obtain ⟨e1,h⟩:=h.prI 0 rfl;obtain ⟨e2,h⟩:=h.prI 0 rfl;exact ⟨sl,ds,e1,e2,h⟩
def Nq (k:Nat) (g:Gr) (ds:List Dia):Prop:=∃U,RY k g.prods (aK g) (tre g.fam) g.start U/\ds=No U g.prods.length
section
variable {G F Gd:PH} {g:Gr} {k m mu ms:Nat} {D:Int->Tr}
def Ur (g:Gr) (S:Int->Tr):Prop:=(∀n c,(S n).ev c=true->Rch g.prods (aK g) (tre g.fam) g.start c n)/\∀c,(tre g.fam).ev c=true->(S g.start).ev c=true
theorem Ji {ban bg b5 b3 b4 b6:Nat} (hk:OkK g k) (hD:eV k g.prods (aK g) false D) (lD:Gd.le G) (hl:∀x∈g.prods,x.right.length<=1000000) (hp:g.prods.length<=1000000)
  (E:∀G' b2,G.le G'->G'.cell ⟨b2,0,none⟩=some (.map (some m))->UsE G' g ms mu m ban bg b5 b3 b4 b6 b2):
  Nr G k m 64 #[] #[.pointer (some ⟨bg,0,none⟩),.pointer (some ⟨b5,0,none⟩),.pointer (some ⟨b3,0,none⟩),.pointer (some ⟨b4,0,none⟩),.pointer (some ⟨b6,0,none⟩)]
   (g.prods.flatMap λx=>x.right.map (·.i)) (Ur g) (gf (aK g) D 0 g.prods) (hY (aK g) D 0 g.prods) (λG' x=>[ku g.prods.length mu G' x,mS aM Gd ms D]) where
 cb:=Jh
 sx S hS hI:=by obtain ⟨a1,a2⟩:=iM hk.prs hD.sx g.prods 0 hS;exact ⟨a1,⟨xX hk.prs hD g.prods 0 (λj x hj=>by rw [Vd];exact hj) hS hI.1,λc hc=>a2 _ c (hI.2 c hc)⟩,a2,λn hn=>B7 hn⟩
 run G' F' S x b2 b4 l hS hI hc h:=by
  have e:∀(a:Value) (v:Γ),(#[]++ #[a]++v:Γ)= #[a]++v:=λa v=>by simp
  rw [e];exact Jg hk hD.sx (aa lD l) hl hp (E G' b2 l hc) hS h
theorem wj {v:Γ} {ban b1 b2:Nat} (hk:OkK g k) (hl:∀x∈g.prods,x.right.length<=1000000) (hp:g.prods.length<=1000000) (hAn:AnV G ban g) (q1:G b1=some (.cells v 37)) (hg:GV G v g)
  (h:St G F [pt b2 (.cells #[Sl.v Sl.nil] 39)]):ai prog 62 #[.pointer (some ⟨ban,0,none⟩),.pointer (some ⟨b1,0,none⟩),.pointer (some ⟨b2,0,none⟩)] F λr F'=>∃G',r=.tuple #[]/\G.le G'/\St G' F' (GI (Nq k g) b2 G'):=by
 have hg0:=hg;obtain ⟨c,n,t,s,p,lv,f,rfl,hgs⟩:=hg;have ep:=hgs.p.len (by decide);refine UG ?_;unfold Sj;refine h.newG λb3 G1 F1 l1 q3 _ h=>⟨_,ld (h.le _ _ q3) rfl,?_⟩;refine (cR hk hl hp (hAn.le l1) h).mono ?_;rintro _ F2 ⟨G2,ms,D,rfl,l2,hD,h⟩;refine ⟨_,rfl,?_⟩;refine h.var1 λb4 G3 F3 l3 q4 h=> ?_;refine h.new λm F4 h=> ?_;have h:=h.toMap aM;have l13:=aa l1 (aa l2 l3);have q13:=l13 _ _ q1;have hk0:=hk.fam;have hfam:DV G3 #[n.v,vi g.fam.2] (dia (tre g.fam)):=by rw [<- hk.fam.2];exact DV.mk (hgs.n.le l13)
 refine ⟨_,rfl,_,by rw [aB];exact ld (h.le _ _ q13) rfl,#[n.v,vi g.fam.2],rfl,by rw [aB];exact kD (h.le _ _ q13) rfl,?_⟩;obtain ⟨o,mp,m1,m2,m3⟩:=h.mS_at (i:=0) rfl;refine aX xW m1 m2 g.start (.agg #[n.v,vi g.fam.2]) λo' ho'=> ?_;have h:=h.mS_set 0 rfl (G1:=G3) (S':=eU (λ_=>leaf false) g.start (tre g.fam)) ho' (m3.put hfam);refine h.var1 λb5 G4 F5 l4 q5 h=> ?_;refine h.new λmu F6 h=> ?_;have h:=h.toMap aM;refine h.var1 λb6 G5 F7 l5 q6 h=> ?_;refine ⟨_,ld (h.le _ _ (l5 _ _ q5)) rfl,?_⟩;have l35:=aa l3 (aa l4 l5);have lD:G2.le G5:=l35;have h0:St G5 F7 ([mS aM G5 m (eU (λ_=>leaf false) g.start (tre g.fam)),ku g.prods.length mu G5 (λ_=>leaf false),mS aM G2 ms D]++[pt b2 (.cells #[Sl.v Sl.nil] 39)]):=by have h1:=h.swap.imp 0 rfl λ_ _ hH=>hH.le (aa l4 l5);exact h1.imp (A':=ku g.prods.length mu G5 (λ_=>leaf false)) 1 rfl λH _ hH=>⟨_,λ_ _=>rfl,hH.le l5⟩
 have hS0:Sxs k (eU (λ_=>leaf false) g.start (tre g.fam)):=Sxs.upd (λ_=>Sx.leaf k false) hk.fam.1;have l1':=aa l13 (aa l4 l5)
 have hrn:=Ji (G:=G5) (Gd:=G2) (m:=m) (mu:=mu) (ms:=ms) (ban:=ban) (bg:=b1) (b5:=b5) (b3:=b3) (b4:=b4) (b6:=b6) hk hD lD hl hp (λG' b2 l hc=>
  ⟨⟨_,(aa l1' l) _ _ q1,hg0.le (aa l1' l)⟩,l _ _ (l5 _ _ q5),l _ _ (l35 _ _ (l2 _ _ q3)),l _ _ (l5 _ _ (l4 _ _ q4)),l _ _ q6,hc,hAn.le (aa l1' l)⟩)
 refine (h0.callL (P:=λr _=>r=.tuple #[]) (Bs':=λ_ G'=>[λH=>∃S U:Int->Tr,(B8 k g.prods (aK g) (tre g.fam) g.start S/\(∀i:Nat,i<g.prods.length->U i=hY (aK g) D 0 g.prods S i)/\gf (aK g) D 0 g.prods S=S)/\mS aM G' mu U H]) λF1 h1=> ?_).mono ?_
 ·have up:∀(G' G'' F':PH) (x:Nat->Tr) (S:Int->Tr),G'.le G''->St G'' F' (mS aM G' m S::[ku g.prods.length mu G' x,mS aM G2 ms D])->St G'' F' (mS aM G'' m S::[ku g.prods.length mu G'' x,mS aM G2 ms D]):=λG' G'' F' x S l h=>
   (h.imp 0 rfl λH _ hH=>hH.le l).imp 1 rfl λH _ ⟨U,e,hH⟩=>⟨U,e,hH.le l⟩
  refine (ut (As:=λG' x=>[ku g.prods.length mu G' x,mS aM G2 ms D]) hrn up (x:=λ_=>leaf false) hS0 ⟨λi c hc=> ?_,λc hc=> ?_⟩ h1).mono ?_
  ·unfold eU at hc;split at hc
   ·rename_i e;rw [e];exact .start hc
   ·cases hc
  ·unfold eU;rw [if_pos rfl];exact hc
  ·rintro _ F8 ⟨G8,S,rfl,l8,hS,hI,he,h⟩;have hR:=GM hk.prs hD hS hI.1 hI.2 he;have h:=h.tail.hd
   exact ⟨G8,rfl,l8,h.imp (A':=λH=>∃S U:Int->Tr,(B8 k g.prods (aK g) (tre g.fam) g.start S/\(∀i:Nat,i<g.prods.length->U i=hY (aK g) D 0 g.prods S i)/\gf (aK g) D 0 g.prods S=S)/\mS aM G8 mu U H) 0 rfl
    λH _ ⟨U,e,hH⟩=>⟨S,U,⟨hR,e,he⟩,hH⟩⟩
 rintro _ F9 ⟨G9,rfl,l9,h⟩;obtain ⟨S,h⟩:=h.exI 0 rfl;obtain ⟨U,h⟩:=h.exI 0 rfl;obtain ⟨⟨hR,hU,he⟩,h⟩:=h.prI 0 rfl;have hUx:∀(i:Nat) (x:Pr),g.prods[i]? =some x->U i=fR (aK g) D S i x:=λi x hi=>by have:=um hk.prs hD.sx g.prods 0 hR.sx he i x hi;rw [Vd] at this;rw [hU i (N6.1 hi).1,this]
 have hUs:∀i:Nat,i<g.prods.length->Sx k (U i):=λi hi=>by rw [hUx i _ (N5 hi)];exact (eg hk.prs hD.sx hR.sx i _).1
 refine ⟨rfl,_,ld (h.le _ _ (l9 _ _ q6)) rfl,?_⟩;refine ⟨_,by rw [aB];exact ld (h.le _ _ (l9 _ _ (l5 _ _ (l4 _ _ q13)))) rfl,?_⟩;dsimp only;rw [ep];refine (fz h hk.le g.prods.length hUs hp).mono ?_;rintro _ F10 ⟨G10,sl,rfl,l10,hsl,h⟩;refine ⟨_,rfl,_,rfl,?_⟩;refine h.set0 (w':= #[Sl.v sl]) (by show 0<1;decide) rfl λF11 h=>⟨G10,rfl,aa l1' (aa l9 l10),?_⟩;refine h.imp 0 rfl λH _ hH=>⟨sl,_,⟨λi=>if i<g.prods.length then U i else leaf false,⟨λi=> ?_,λi c hi=> ?_⟩,?_⟩,hsl,hH⟩
 ·split
  ·rename_i hi;exact hUs i hi
  ·exact Sx.leaf k false
 ·rw [if_pos hi,hUx i _ (N5 hi)];exact Jm hk.prs hD hR (N5 hi) c
 ·unfold fQ No;refine Wk λi hi=> ?_;dsimp only;rw [if_pos (VA.1 hi)]
theorem kT {v:Γ} (hT:Tab F) (hg:GV F v g) (hz:Sz g) (hk:OkK g k) (hl:∀x∈g.prods,x.right.length<=1000000) (hp:g.prods.length<=1000000):
  ai prog 21 #[.agg v] F λr F'=>(∃sl ds,r=.tuple #[Sl.v sl,vi 0]/\Nq k g ds/\RL F' sl ds)/\F.le F':=by
 refine Uw ?_;unfold R7;refine (St.start F).newG λb1 G1 F1 l1 q1 _ h=>h.new λb2 F2 h=>⟨v,hg.size,ac (h.le _ _ q1),?_⟩;refine (eC (kr:=62) (fst:= #[]) (cap:= #[.pointer (some ⟨b1,0,none⟩),.pointer (some ⟨b2,0,none⟩)]) (Bs:=GI (Nq k g) b2) (hT.le l1) (hg.le l1) hz hk hl hp h Np λG' ban F' l hAn h=> ?_).mono ?_
 ·have e:(#[]++ #[.pointer (some ⟨ban,0,none⟩)]++ #[.pointer (some ⟨b1,0,none⟩),.pointer (some ⟨b2,0,none⟩)]:Γ)= #[.pointer (some ⟨ban,0,none⟩),.pointer (some ⟨b1,0,none⟩),.pointer (some ⟨b2,0,none⟩)]:=by simp
  rw [e];exact wj hk hl hp hAn (l _ _ q1) ((hg.le l1).le l) h
 rintro _ F3 ⟨rfl,G3,l3,h⟩;obtain ⟨sl,ds,h1,h2,h⟩:=un h;refine ⟨_,rfl,sl,h.ld0 rfl,?_⟩;refine h.set0 (w':= #[Sl.v sl]) (by show 0<1;decide) rfl λF4 h=>⟨_,h.ld0 rfl,⟨sl,ds,rfl,h1,h2.le h.le⟩,aa l1 (aa l3 h.le)⟩
end
end Go.Proofs.YtcemhghkipgdiaaGreatDoor
