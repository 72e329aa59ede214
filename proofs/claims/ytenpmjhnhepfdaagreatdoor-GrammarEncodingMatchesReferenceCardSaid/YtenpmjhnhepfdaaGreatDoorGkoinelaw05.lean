/-
  What functions of the program do, in a clean form, each with the proof that its code does so. Printed by a program.
-/
import Derived.Test.YtenpmjhnhepfdaaGreatDoorIt
import Derived.Test.YtenpmjhnhepfdaaGreatDoorPhp
import Derived.Test.YtenpmjhnhepfdaaGreatDoorEa
namespace Go.Proofs.YtenpmjhnhepfdaaGreatDoor
open Go.IntKind (i64 u8 u64)
open Go Go.Proofs.Tryz Tr
set_option maxRecDepth 10000
instance decSy (q:Option Sy):Decidable (∃s,q=some s/\s.t=true):=
 match q with
 |none=>isFalse λ⟨_,h,_⟩=>by cases h
 |some s=>if h:s.t=true then isTrue ⟨s,rfl,h⟩ else isFalse λ⟨_,h1,h2⟩=>by cases h1;exact h h2
instance decEntry (r:List Sy) (k v lo hi:Int):Decidable (cy r k v lo hi):=by unfold cy;infer_instance
instance decLay (r:List Sy) (x:Cn):Decidable (lw r x):=by unfold lw;infer_instance
instance decBrk (p:Pr):Decidable (xr p):=by unfold xr;infer_instance
instance decDet (p:Pr):Decidable (nf p):=by unfold nf;infer_instance
def OA (nn:Nat) (p:Pr):Prop:=(0<=p.left/\p.left<nn)/\p.right.length<=5/\(∀s∈p.right,0<=s.i/\(s.t=true->s.i<9)/\(s.t=false->s.i<nn))/\(-1<=p.rank/\p.rank<=1)/\p.lay.length<=2/\nf p/\(p.name≠emp/\p.name.size<=13)
instance decPri (nn:Nat) (p:Pr):Decidable (OA nn p):=by unfold OA;infer_instance
theorem bg {n nn:Nat} {p:Pr} (h:OA nn p) (hc:SxD n p.cond):PrI n nn p:=by obtain ⟨h1,h2,h3,h4,h5,h6,h7⟩:=h;exact ⟨hc,h1,h2,h3,h4,h5,h6,h7⟩
theorem fV {n v:Nat} (hv:v<n) (hn:n<=6):SxD n (dia (tv v)):=⟨_,Sx.tv hv hn,rfl⟩
theorem oG {n v:Nat} (hv:v<n) (hn:n<=6):SxD n (dg v):=⟨_,(Sx.tv hv hn).ap2 (Sx.leaf n true),rfl⟩
def Jm (s:ByteArray):Prop:=s.size≠2\/s.data[0]?≠some 112
instance (s:ByteArray):Decidable (Jm s):=by unfold Jm;infer_instance
theorem Jn {s:ByteArray} (h:Jm s) (k:Nat):s≠bq k:=by
 intro e;rcases h with h|h
 ·exact h (by rw [e];rfl)
 ·exact h (by rw [e];rfl)
theorem pV {g:Gr} {n:Nat} (hn:n<=3) (hc:g.conds=abc.take n) (hf:g.fam=aL) (ht:g.toks=iI) (hs:g.start=0) (h1:be g.nons) (h2:∀s∈g.nons,s.size<=10) (h3:(g.prods.map Pr.name).Nodup) (h4:∀s∈g.prods.map Pr.name,Jm s)
  (h5:∀p∈g.prods,PrI g.conds.length g.nons.length p) (h6:cE g [] g.lvs/\∀l∈g.lvs,SxD g.conds.length l.cond) (h7:∀x∈g.fils,bV g x/\SxD g.conds.length x.cond/\x.toks.length<=2):MG g:=by
 have e:iI.map A0=iI:=rfl;refine ⟨⟨n,hn,hc⟩,⟨_,Sx.leaf _ true,by simp,hf⟩,⟨h1,h2⟩,hs,⟨by rw [ht];exact e,λt htm=> ?_⟩,⟨h3,λp hp k _ _=>Jn (h4 _ (List.mem_map_of_mem hp)) k⟩,h5,h6,h7⟩;rw [ht,<- e] at htm;obtain ⟨u,_,rfl⟩:=X3.1 htm;exact aV _
theorem Jo {g:Gr} (ht:g.toks=iI) (i:Nat) {kd:Tk->Bool} {t:Tk} (h:iI[i]? =some t) (hk:kd t=true):0<=(i:Int)/\∃t,g.toks[(i:Int).toNat]? =some t/\kd t=true:=⟨by omega,t,by rw [ht,N5];exact h,hk⟩
theorem Qy {g:Gr} {kd:Tk->Bool} {i:Int} (h:0<=i/\∃t,g.toks[i.toNat]? =some t/\kd t=true):fJ g kd [i]:=by refine ⟨by simp,λn hn=>by rw [XC.1 hn];exact h,λj x y _ hy=> ?_⟩;simp at hy
theorem VV {g:Gr} {kd:Tk->Bool} {i j:Int} (h:0<=i/\∃t,g.toks[i.toNat]? =some t/\kd t=true) (h':0<=j/\∃t,g.toks[j.toNat]? =some t/\kd t=true) (hij:i<j):fJ g kd [i,j]:=by
 refine ⟨by simp,λn hn=> ?_,λk x y hx hy=> ?_⟩
 ·rcases XB.1 hn with rfl|hn
  ·exact h
  ·rw [XC.1 hn];exact h'
 ·match k with
  |0=>simp at hx hy;subst hx hy;exact hij
  |k+1=>simp at hy
theorem pW:MG dE:=by
 refine pV (n:=2) (by decide) rfl rfl rfl rfl (by unfold be;decide) (by decide) (by decide) (by decide) (λp hp=> ?_) ⟨?_,?_⟩ ?_
 ·rcases XB.1 hp with rfl|hp
  ·exact bg (by decide) (aV _)
  rcases XB.1 hp with rfl|hp
  ·exact bg (by decide) (aV _)
  rcases XB.1 hp with rfl|hp
  ·exact bg (by decide) (aV _)
  rcases XB.1 hp with rfl|hp
  ·exact bg (by decide) (aV _)
  rcases XB.1 hp with rfl|hp
  ·exact bg (by decide) (fV (by decide) (by decide))
  cases hp
 ·refine ⟨⟨by decide,by decide,(aV 2).fit (by decide),by decide,by decide,by decide⟩,⟨by decide,by decide,(aV 2).fit (by decide),by decide,by decide,by decide⟩,⟨by decide,by decide,(oG (n:=2) (v:=0) (by decide) (by decide)).fit (by decide),by decide,by decide,by decide⟩,trivial⟩
 ·intro l hl;rcases XB.1 hl with rfl|hl
  ·exact aV _
  rcases XB.1 hl with rfl|hl
  ·exact aV _
  rcases XB.1 hl with rfl|hl
  ·exact oG (by decide) (by decide)
  cases hl
 ·intro x hx;cases hx
theorem sS:MG cN:=by
 refine pV (n:=2) (by decide) rfl rfl rfl rfl (by unfold be;decide) (by decide) (by decide) (by decide) (λp hp=> ?_) ⟨?_,?_⟩ ?_
 ·rcases XB.1 hp with rfl|hp
  ·exact bg (by decide) (aV _)
  rcases XB.1 hp with rfl|hp
  ·exact bg (by decide) (aV _)
  rcases XB.1 hp with rfl|hp
  ·exact bg (by decide) (aV _)
  rcases XB.1 hp with rfl|hp
  ·exact bg (by decide) (aV _)
  rcases XB.1 hp with rfl|hp
  ·exact bg (by decide) (aV _)
  cases hp
 ·trivial
 ·intro l hl;cases hl
 ·intro x hx;rcases XB.1 hx with rfl|hx
  ·exact ⟨⟨(fV (n:=2) (v:=0) (by decide) (by decide)).fit (by decide),.inl ⟨.inr rfl,⟨by decide,by decide,by decide,_,_,rfl,rfl,rfl⟩,rfl,rfl,rfl⟩⟩,fV (by decide) (by decide),by decide⟩
  rcases XB.1 hx with rfl|hx
  ·exact ⟨⟨(fV (n:=2) (v:=1) (by decide) (by decide)).fit (by decide),.inr (.inr ⟨rfl,⟨VV (Jo rfl 5 rfl (by decide)) (Jo rfl 6 rfl (by decide)) (by decide),by decide,_,rfl,rfl,rfl⟩,rfl,rfl,rfl,rfl⟩)⟩,fV (by decide) (by decide),by decide⟩
  cases hx
theorem oo:MG fg:=by
 refine pV (n:=2) (by decide) rfl rfl rfl rfl (by unfold be;decide) (by decide) (by decide) (by decide) (λp hp=> ?_) ⟨?_,?_⟩ ?_
 ·rcases XB.1 hp with rfl|hp
  ·exact bg (by decide) (aV _)
  rcases XB.1 hp with rfl|hp
  ·exact bg (by decide) (aV _)
  rcases XB.1 hp with rfl|hp
  ·exact bg (by decide) (aV _)
  rcases XB.1 hp with rfl|hp
  ·exact bg (by decide) (aV _)
  rcases XB.1 hp with rfl|hp
  ·exact bg (by decide) (aV _)
  rcases XB.1 hp with rfl|hp
  ·exact bg (by decide) (aV _)
  rcases XB.1 hp with rfl|hp
  ·exact bg (by decide) (fV (by decide) (by decide))
  cases hp
 ·trivial
 ·intro l hl;cases hl
 ·intro x hx;cases hx
theorem Dr:MG oI:=by
 refine pV (n:=2) (by decide) rfl rfl rfl rfl (by unfold be;decide) (by decide) (by decide) (by decide) (λp hp=> ?_) ⟨?_,?_⟩ ?_
 ·rcases XB.1 hp with rfl|hp
  ·exact bg (by decide) (aV _)
  rcases XB.1 hp with rfl|hp
  ·exact bg (by decide) (aV _)
  rcases XB.1 hp with rfl|hp
  ·exact bg (by decide) (aV _)
  rcases XB.1 hp with rfl|hp
  ·exact bg (by decide) (aV _)
  rcases XB.1 hp with rfl|hp
  ·exact bg (by decide) (fV (by decide) (by decide))
  cases hp
 ·trivial
 ·intro l hl;cases hl
 ·intro x hx;cases hx
theorem yB:MG kV:=by
 refine pV (n:=2) (by decide) rfl rfl rfl rfl (by unfold be;decide) (by decide) (by decide) (by decide) (λp hp=> ?_) ⟨?_,?_⟩ ?_
 ·rcases XB.1 hp with rfl|hp
  ·exact bg (by decide) (aV _)
  rcases XB.1 hp with rfl|hp
  ·exact bg (by decide) (aV _)
  rcases XB.1 hp with rfl|hp
  ·exact bg (by decide) (aV _)
  rcases XB.1 hp with rfl|hp
  ·exact bg (by decide) (aV _)
  rcases XB.1 hp with rfl|hp
  ·exact bg (by decide) (aV _)
  rcases XB.1 hp with rfl|hp
  ·exact bg (by decide) (fV (by decide) (by decide))
  cases hp
 ·trivial
 ·intro l hl;cases hl
 ·intro x hx;rcases XB.1 hx with rfl|hx
  ·exact ⟨⟨(fV (n:=2) (v:=0) (by decide) (by decide)).fit (by decide),.inr (.inl ⟨.inl rfl,⟨by decide,by decide,Qy (Jo rfl 0 rfl (by decide))⟩,rfl,rfl,rfl,rfl⟩)⟩,fV (by decide) (by decide),by decide⟩
  rcases XB.1 hx with rfl|hx
  ·exact ⟨⟨(oG (n:=2) (v:=1) (by decide) (by decide)).fit (by decide),.inr (.inl ⟨.inr rfl,⟨by decide,by decide,Qy (Jo rfl 1 rfl (by decide))⟩,rfl,rfl,rfl,rfl⟩)⟩,oG (by decide) (by decide),by decide⟩
  cases hx
theorem yC:MG kW:=by
 refine pV (n:=2) (by decide) rfl rfl rfl rfl (by unfold be;decide) (by decide) (by decide) (by decide) (λp hp=> ?_) ⟨?_,?_⟩ ?_
 ·rcases XB.1 hp with rfl|hp
  ·exact bg (by decide) (aV _)
  rcases XB.1 hp with rfl|hp
  ·exact bg (by decide) (aV _)
  rcases XB.1 hp with rfl|hp
  ·exact bg (by decide) (aV _)
  rcases XB.1 hp with rfl|hp
  ·exact bg (by decide) (aV _)
  rcases XB.1 hp with rfl|hp
  ·exact bg (by decide) (fV (by decide) (by decide))
  cases hp
 ·trivial
 ·intro l hl;cases hl
 ·intro x hx;cases hx
theorem EP {k:Nat} (hk:k<6):MG (cn k):=by
 have h:k=0\/k=1\/k=2\/k=3\/k=4\/k=5:=by omega
 rcases h with rfl|rfl|rfl|rfl|rfl|rfl
 ·exact pW
 ·exact sS
 ·exact oo
 ·exact Dr
 ·exact yB
 ·exact yC
theorem EQ (x:Rw):MG (hY x):=by
 unfold hY;split
 ·rename_i h;exact EP (of_decide_eq_true h)
 ·have hn:(fF x).length≠0:=by unfold fF;rw [XL];simp
  refine pV (n:=x.n % 4) (by omega) rfl rfl rfl rfl ?_ (λs hs=> ?_) (by show ([⟨#[102,105,114,115,116]⟩]:List ByteArray).Nodup;simp) (λs hs=>by rw [XC.1 (show s∈([⟨#[102,105,114,115,116]⟩]:List ByteArray) from hs)];decide) (λp hp=> ?_) ⟨trivial,λl hl=>(by cases hl)⟩ λx hx=>by cases hx
  ·have h:x.n / 4 % 3=0\/x.n / 4 % 3=1\/x.n / 4 % 3=2:=by omega
   show be (fF x);unfold fF;rcases h with h|h|h<;>rw [h]<;>(unfold be;decide)
  ·have:∀s∈([⟨#[83]⟩,⟨#[80]⟩,⟨#[81]⟩]:List ByteArray),s.size<=10:=by decide
   exact this s (Y2 hs)
  ·rw [XC.1 hp];refine bg ⟨⟨by decide,?_⟩,by decide,?_,by decide,by decide,by decide,by decide⟩ (aV _)
   ·show (0:Int)<(fF x).length;omega
   ·intro s hs;rw [XC.1 hs];exact ⟨by decide,λ_=>by decide,λh=>(by cases h)⟩
theorem Jp (x:Rw):MG (qh x)/\Bd (qh x) 18 10:=by
 have hm:cV x<=10:=by unfold cV;split<;>decide
 have b1:=E6 (x:=x) (qi x);have m1:=(EQ x).famG (qi x) x;have b2:=qj (x:=x) (x.lines.take (cV x)) b1;have hl:(x.lines.take (cV x)).length<=10:=by rw [XL];omega
 have hr:(x.rules.take 6).length<=6:=by rw [XL];omega
 have m2:=MG.lines (x:=x) (x.lines.take (cV x)) m1 b1 (by omega);have b3:=qk (x.rules.take 6) b2;have m3:=MG.rules (x.rules.take 6) m2 b2;refine ⟨m3,?_⟩;obtain ⟨c1,c2,c3,c4,c5,c6,c7,c8,c9⟩:=b3;exact ⟨c1,c2,c3,c4,by unfold qh;omega,c6,by unfold qh;omega,c8,by unfold qh;omega⟩
theorem uB {g:Gr} (h1:bN g=false) (h2:¬fm g):bW g=54:=by unfold bW;rw [if_neg (by rw [h1];decide),if_pos h2]
theorem uC {g:Gr} (h1:bN g=false) (h2:fm g) (h3:¬cO g.conds.length [] g.toks):bW g=51:=by unfold bW;rw [if_neg (by rw [h1];decide),if_neg (not_not_intro h2),if_pos h3]
theorem AS {g:Gr} (h1:bN g=false) (h2:fm g) (h3:cO g.conds.length [] g.toks) (h4:¬ed g):bW g=50:=by unfold bW;rw [if_neg (by rw [h1];decide),if_neg (not_not_intro h2),if_neg (not_not_intro h3),if_pos h4]
theorem kN {g:Gr} {e:Int} (h1:bN g=false) (h2:fm g) (h3:cO g.conds.length [] g.toks) (h4:ed g) (h5:bU g [] g.prods=e) (h6:e≠0):bW g=e:=by unfold bW;rw [if_neg (by rw [h1];decide),if_neg (not_not_intro h2),if_neg (not_not_intro h3),if_neg (not_not_intro h4),if_pos (by rw [h5];exact h6),h5]
theorem AT {g:Gr} (h1:bN g=false) (h2:fm g) (h3:cO g.conds.length [] g.toks) (h4:ed g) (h5:bU g [] g.prods=0) (h6:¬cE g [] g.lvs):bW g=53:=by unfold bW;rw [if_neg (by rw [h1];decide),if_neg (not_not_intro h2),if_neg (not_not_intro h3),if_neg (not_not_intro h4),if_neg (by rw [h5];decide),if_pos h6]
theorem Jq {g:Gr} (h1:bN g=false) (h2:fm g) (h3:cO g.conds.length [] g.toks) (h4:ed g) (h5:bU g [] g.prods=0) (h6:cE g [] g.lvs) (h7:¬∀x∈g.fils,bV g x):bW g=53:=by unfold bW;rw [if_neg (by rw [h1];decide),if_neg (not_not_intro h2),if_neg (not_not_intro h3),if_neg (not_not_intro h4),if_neg (by rw [h5];decide),if_neg (not_not_intro h6),if_pos h7]
theorem Ds {g:Gr} {p:Pr} (h:¬dh g p) (l:List Pr) (done:List ByteArray):bU g done (p::l)=50:=by unfold bU;rw [if_pos h]
theorem wR {g:Gr} {p:Pr} {done:List ByteArray} (h1:dh g p) (h:¬sT g done p) (l:List Pr):bU g done (p::l)=52:=by unfold bU;rw [if_neg (not_not_intro h1),if_pos h]
theorem mR {g:Gr} {p:Pr} (h1:dh g p) (h:sT g [] p):bU g [] [p]=0:=by unfold bU;rw [if_neg (not_not_intro h1),if_neg (not_not_intro h)];rfl
theorem kO (n:Nat) (hn:n<=6):iN aL n:=(aV n).fit hn
def aW:Gr:=⟨[],aL,[],[⟨#[83]⟩],[bh ⟨#[115]⟩ 0 []],0,[],[]⟩
def uD:Gr:={aW with start:=1}
def Lz:Gr:={aW with prods:=[bh ⟨#[115]⟩ (-1) []]}
def LA:Gr:={aW with prods:=[bh ⟨#[]⟩ 0 []]}
def jB:Gr:={aW with conds:=[⟨#[116,114,117,101]⟩]}
def uE:Gr:={aW with fam:=dia (leaf false)}
def wS:Gr:={aW with toks:=[⟨⟨#[116]⟩,0,⟨#[43]⟩,[],⟨#[43]⟩,aL⟩]}
def iR:Gr:={aW with toks:=[⟨⟨#[116]⟩,0,⟨#[]⟩,[⟨1,97,122,0,0⟩],⟨#[43]⟩,aL⟩]}
def uF:List Tk:=[tkL ⟨#[40]⟩,tkL ⟨#[41]⟩]
def wT:Pr:={bh ⟨#[115]⟩ 0 [⟨true,0⟩,⟨false,0⟩,⟨true,1⟩] with brk:=true}
def pX:Gr:={aW with toks:=uF,prods:=[wT]}
def ER:Gr:={aW with toks:=uF,prods:=[{wT with rank:=1}]}
def mS:Gr:={aW with lvs:=[⟨[0],0,aL⟩,⟨[0],0,aL⟩]}
theorem uG {g:Gr} (h1:g.conds=[]) (h2:g.fam=aL):fm g:=by unfold fm be;rw [h1,h2];exact ⟨λs hs=>(by cases hs),⟨.nil,by simp⟩,kO 0 (by decide),by decide⟩
theorem pY {g:Gr} (h1:g.nons=[⟨#[83]⟩]) (h2:g.start=0):ed g:=by unfold ed be;rw [h1,h2];exact ⟨by decide,by decide,by decide⟩
theorem LB {g:Gr} {p:Pr} (h1:p.name≠emp) (h2:p.cond=aL) (hc:g.conds=[]) (h3: -1<=p.rank/\p.rank<=1) (h4:nf p):sT g [] p:=⟨h1,by simp,by rw [h2,hc];exact kO 0 (by decide),h3.1,h3.2,h4⟩
theorem ES {g:Gr} {p:Pr} (h1:g.nons=[⟨#[83]⟩]) (h2:p.left=0) (h3:p.right=[]):dh g p:=by unfold dh iO;rw [h1,h2,h3];exact ⟨⟨by decide,λ_=>by decide,λh=>(by cases h)⟩,λs hs=>(by cases hs)⟩
theorem pZ {g:Gr} (h1:g.nons=[⟨#[83]⟩]) (hc:g.conds=[]) (hp:g.prods=[bh ⟨#[115]⟩ 0 []]):bU g [] g.prods=0:=by rw [hp];exact mR (ES h1 rfl rfl) (LB (by decide) rfl hc (by decide) (by decide))
theorem ET:OkG aW:=⟨by decide,uG rfl rfl,trivial,pY rfl rfl,pZ rfl rfl rfl,trivial,λx hx=>(by cases hx)⟩
theorem mT:bW aW=0:=ga.2 ET
theorem Dt:bW uD=50:=AS (by decide) (uG rfl rfl) trivial λh=>by have:=h.2.2;revert this;decide
theorem EU:bW Lz=50:=kN (by decide) (uG rfl rfl) trivial (pY rfl rfl) (Ds (λh=>by have:=h.1.1;revert this;decide) _ _) (by decide)
theorem EV:bW LA=52:=kN (by decide) (uG rfl rfl) trivial (pY rfl rfl) (wR (ES rfl rfl rfl) (λh=>h.1 rfl) _) (by decide)
theorem uH:bW jB=54:=uB (by decide) λh=>(h.1 _ (XC.2 rfl)).2.1 rfl
theorem Du:bW uE=54:=uB (by decide) λh=>h.2.2.2 rfl
theorem EW:bW wS=51:=uC (by decide) (uG rfl rfl) λh=>by have:=(h.1.2.2.2.2.2.1 (by decide)).1;revert this;decide
theorem Jr:GoodL [⟨1,97,122,0,0⟩]:=Ju (by decide) (by decide) (by decide) (by decide)
theorem wU:bW iR=51:=uC (by decide) (uG rfl rfl) λh=>by
 obtain ⟨-,hw⟩:=(h.1.2.2.2.2.2.2 rfl).2.1 rfl;have e0:([⟨1,97,122,0,0⟩]:List Nd)[0]? =some ⟨1,97,122,0,0⟩:=rfl;obtain ⟨ns,ht⟩:=ij Jr;unfold LgL at hw;have hw:Lg (bG [⟨1,97,122,0,0⟩]).pat (bs ⟨#[43]⟩):=hw;generalize bG [⟨1,97,122,0,0⟩]=t at ht hw;have ht:cz [⟨1,97,122,0,0⟩] 0 t ns:=ht;cases ht with
 |emp hx hk=>rw [e0] at hx;cases hx;cases hk
 |seq hx hk=>rw [e0] at hx;cases hx;cases hk
 |alt hx hk=>rw [e0] at hx;cases hx;cases hk
 |rep hx hk=>rw [e0] at hx;cases hx;cases hk
 | @rng _ lo hi x hx hk hlo hhi _ _=>rw [e0] at hx;cases hx;obtain ⟨b,hb,h1,h2⟩:=hw;have hb:[43]=[b]:=hb;have:(97:Int)=lo:=hlo;cases hb;omega
theorem AU {g:Gr} (hc:g.conds=[]) (ht:g.toks=uF):cO g.conds.length [] g.toks:=by
 rw [ht];refine w7 _ _ ⟨E8 (by decide) (by decide),E8 (by decide) (by decide),trivial⟩ λt ht=> ?_;rw [hc];rcases XB.1 ht with rfl|ht
 ·exact kO 0 (by decide)
 ·rw [XC.1 ht];exact kO 0 (by decide)
theorem AV {g:Gr} {p:Pr} (h1:g.nons=[⟨#[83]⟩]) (ht:g.toks=uF) (h2:p.left=0) (h3:p.right=[⟨true,0⟩,⟨false,0⟩,⟨true,1⟩]):dh g p:=by
 unfold dh iO;rw [h1,h2,h3,ht];refine ⟨⟨by decide,λ_=>by decide,λh=>(by cases h)⟩,λs hs=> ?_⟩;rcases XB.1 hs with rfl|hs
 ·exact ⟨by decide,λh=>(by cases h),λ_=>⟨_,rfl,rfl⟩⟩
 rcases XB.1 hs with rfl|hs
 ·exact ⟨by decide,λ_=>by decide,λh=>(by cases h)⟩
 rcases XB.1 hs with rfl|hs
 ·exact ⟨by decide,λh=>(by cases h),λ_=>⟨_,rfl,rfl⟩⟩
 cases hs
theorem wV:bW pX=0:=ga.2 ⟨by decide,uG rfl rfl,AU rfl rfl,pY rfl rfl,mR (AV rfl rfl rfl rfl) (LB (by decide) rfl rfl (by decide) (by decide)),trivial,λx hx=>(by cases hx)⟩
theorem EX:bW ER=52:=kN (by decide) (uG rfl rfl) (AU rfl rfl) (pY rfl rfl) (wR (AV rfl rfl rfl rfl) (λh=>by have:=(h.2.2.2.2.2.2.2.2 rfl).2.1;revert this;decide) _) (by decide)
theorem Dv:bW mS=53:=AT (by decide) (uG rfl rfl) trivial (pY rfl rfl) (pZ rfl rfl rfl) λh=>h.2.1.2.2.2.2.2 0 (by decide) (by decide)
theorem yD {l:Φ} {n:Nat} (hn:n<=6) {m v k:Nat} (h:v+(m+1)=n) (c:Cf):(fe l (m+1) v k).ev c=((c v && (fe l m (v+1) (k+2 ^ v)).ev c) || ((fe l m (v+1) k).ev c && (!c v))):=by
 have hv:Sx n (tv v):=Sx.tv (by omega) hn;have h1:=kv l hn m (v+1) (k+2 ^ v) (by omega);have h2:=kv l hn m (v+1) k (by omega);have hx:=hv.ap2 (o:=ja) (Sx.leaf n true);have e1:(tv v).ev c=c v:=by show (if c v=true then (leaf true).ev c else (leaf false).ev c)=c v;cases c v<;>rfl
 have et:fe l (m+1) v k=ap2 oOr (ap2 i9 (tv v) (fe l m (v+1) (k+2 ^ v))) (ap2 i9 (fe l m (v+1) k) (ap2 ja (tv v) (leaf true))):=rfl;rw [et,(gR (hv.ap2 (o:=i9) h1).1 (h2.ap2 (o:=i9) hx).1).2,(gR hv.1 h1.1).2,(gR h2.1 hx.1).2,(gR hv.1 (Sx.leaf n true).1).2,e1];cases c v<;>cases (fe l m (v+1) (k+2 ^ v)).ev c<;>cases (fe l m (v+1) k).ev c<;>rfl
noncomputable def Dw:Tr:=fe [14] 2 0 0
theorem EY (c:Cf):Dw.ev c=(c 0 || c 1):=by
 unfold Dw;rw [yD (n:=2) (by decide) rfl,yD (n:=2) (by decide) rfl,yD (n:=2) (by decide) rfl];have b0:rK [14] 0=false:=by decide
 have b1:rK [14] 1=true:=by decide
 have b2:rK [14] 2=true:=by decide
 have b3:rK [14] 3=true:=by decide
 show (c 0 && (c 1 && rK [14] 3 || rK [14] 1 && !c 1) || (c 1 && rK [14] 2 || rK [14] 0 && !c 1) && !c 0)=_;rw [b0,b1,b2,b3];cases c 0<;>cases c 1<;>rfl
noncomputable def uI:Gr:={aW with conds:=[⟨#[65]⟩,⟨#[66]⟩],fam:=dia Dw}
theorem EZ:Sx 2 Dw:=kv _ (by decide) 2 0 0 rfl
theorem E1:OkG uI:=by
 obtain ⟨o1,o2,_⟩:=OB (n:=2) (by decide);refine ⟨by decide,⟨o1,o2,EZ.fit (by decide),λe=> ?_⟩,trivial,pY rfl rfl,?_,trivial,λx hx=>(by cases hx)⟩
 ·have:=E7 e;have h1:=EY (λ_=>true);rw [this] at h1;cases h1
 ·exact mR (ES rfl rfl rfl) ⟨by decide,by simp,kO 2 (by decide),by decide,by decide,by decide⟩
theorem wW:D3 uI=[1,2,3]:=by unfold D3;have e:tre uI.fam=Dw:=u0 EZ.1;rw [e];simp only [EY];decide
theorem uJ:j7 uI 2=([1,2],false):=by unfold j7;rw [if_neg (by rw [ga.2 E1];decide),wW];rfl
theorem uK:j7 uI 3=([1,2,3],true):=by unfold j7;rw [if_neg (by rw [ga.2 E1];decide),wW];rfl
theorem fk {g:Gr} (h1:∀s∈g.conds,s.size<=1000000000) (h2:∀t∈g.toks,t.smp.size<=100000) (h3:∀l∈g.lvs,l.ps.length<=1000000000) (h4:g.fils=[]):Sz g:=⟨h1,h2,h3,λf hf=>by rw [h4] at hf;cases hf⟩
def yF:Δ:=[0,0,1,0,1,1,83,1,1,115,0,0,0,1,0,1,0,0,0,0,0,0,0,0,0]
theorem tg:eGr aW=yF:=by decide+kernel
theorem E3:NN aW:=by refine ⟨⟨λb hb=>(by cases hb),by decide⟩,λt ht=>(by cases ht),λp hp=> ?_,by decide,λl hl=>(by cases hl),λf hf=>(by cases hf)⟩;rw [XC.1 hp];exact ⟨by decide,λs hs=>(by cases hs),⟨λb hb=>(by cases hb),by decide⟩,by decide,by decide,λx hx=>(by cases hx),by decide,by decide,by decide,by decide⟩
theorem E4:Sm aW:=by refine ⟨by decide,by decide,by decide,by decide,by decide,by decide,by decide,λx hx=>(by cases hx),λx hx=> ?_,λx hx=>(by cases hx),λx hx=>(by cases hx)⟩;rw [XC.1 hx];exact ⟨by decide,by decide,by decide⟩
variable {R:VR} {F:PH}
set_option maxRecDepth 10000
set_option maxHeartbeats 4000000
def wX (m:Sl) (f:Bool) (u:Θ) (R:VR) (F:PH):Prop:=∃e,u=some e/\Lr F 9 e λn=>ae prog 14 #[.agg n] F λv F=>∃g,∃a,v=(.tuple #[Sl.v g,(vi a)])/\Lr F 9 e λo=>ae prog 15 #[.agg o] F λv F=>∃h,∃b,v=(.tuple #[Sl.v h,(vi b)])/\∃i,rdo prog (Conv.bytesToString (Sl.v g)) F (.string i)/\∃j,rdo prog (Conv.bytesToString (Sl.v h)) F (.string j)/\Bb ((!(i.toList==j.toList))) (R (.bool false) F) (Bc (a≠b) (R (.bool false) F) (Bc ((5000:Int)<(m.len:Int)) (R (.bool f) F) (ae prog 16 #[Sl.v m] F λv F=>∃k,∃c,v=(.tuple #[.agg k,(vi c)])/\Nb F (.cells zG 39) λp F=>aw F (Am p 0) 9 k λF=>ae prog 17 #[Sl.v m] F λv F=>∃l,∃d,v=(.tuple #[.agg l,(vi d)])/\Nb F (.cells zG 39) λq F=>aw F (Am q 0) 9 l λF=>Lr F 9 (Am p 0) λr=>Lr F 9 (Am q 0) λs=>Cbo 18 #[.agg r,.agg s] F λt F=>Bb (t) (Bc (c=d) (R (.bool f) F) (R (.bool false) F)) (R (.bool false) F))))
def bQ3 (l m:Γ) (j:Sl) (R:VR) (F:PH):Prop:=Nb F (.cells l 26) λp F=>Nb F (.cells m 28) λn F=>Cbo 11 #[] F λb F=>Lr F 5 (Am p 0) λf=>Lr F 3 (Am n 0) λa=>((Ca 13 #[.agg f] F λg F=>F.row (Am n 0) a/\((Ca 12 #[.agg g,.agg a] F λk F=>Nb F (.cells zG 39) λo F=>aw F (Am o 0) 9 k λF=>wX j b (some (Am o 0)) R F)/\(Nb F (.cells zG 39) λh F=>Ca 12 #[.agg g,.agg a] F λc F=>aw F (Am h 0) 9 c λF=>wX j b (some (Am h 0)) R F)))/\(Nb F (.cells zG 39) λi F=>Ca 13 #[.agg f] F λd F=>F.row (Am n 0) a/\Ca 12 #[.agg d,.agg a] F λe F=>aw F (Am i 0) 9 e λF=>wX j b (some (Am i 0)) R F))
theorem cQ3 {a:Γ} {b:Γ} {c:Sl} (h:bQ3 a b c R F):ae prog 3 #[.agg a,.agg b,Sl.v c] F R:=Rx.sxC (args:=[.agg a,.agg b,Sl.v c]) (.T .N (.T .N (.J false [(8,.ptr)] .N .N))) (by kernel_rfl) h
def gl (c d:Bool) (e:Sl) (f:Int) (b:Bool) (R:VR) (F:PH):Prop:=Bb (c) (Bb (d) (Bb (b) (Bc (f=0) (∃a,rdo prog (Conv.bytesToString (Sl.v e)) F (.string a)/\Cs 36 #[] F λh F=>rdo prog (Conv.bytesToString (Sl.v e)) F (.string a)/\∃g,rdo prog (Conv.bytesToString (Sl.v h)) F (.string g)/\R (.bool (a.toList==g.toList)) F) (R (.bool false) F)) (R (.bool false) F)) (R (.bool false) F)) (R (.bool false) F)
def ku (x:Nat) (b c:Bool) (R:VR) (F:PH):Prop:=Ca 34 #[] F λj F=>Nb F (.cells zG 39) λi F=>aw F (Am i 0) 9 j λF=>Nb F (.cells #[.string ⟨#[65]⟩,.string ⟨#[66]⟩] 9) λu F=>sto F (Am i 0) (Sl.v (Sb u 2)) λF=>Nb F (.cells #[.int .u8 14] 5) λw F=>Ca 35 #[Sl.v (Sb w 1),(vi 2)] F λk F=>aw F (Am i 1) 2 k λF=>Lr F 9 (Am i 0) λl=>ae prog 23 #[.agg l,(vi 2)] F λv F=>∃e,∃f,v=(.tuple #[Sl.v e,.bool f])/\Lr F 9 (Am i 0) λm=>ae prog 23 #[.agg m,(vi 3)] F λv F=>∃h,∃g,v=(.tuple #[Sl.v h,.bool g])/\Lr F 9 (Am x 0) λn=>ae prog 14 #[.agg n] F λv F=>∃d,∃a,v=(.tuple #[Sl.v d,(vi a)])/\Bc ((e.len:Int)=2) (Ix e 0 λo=>Lk F .u64 (Addr.add o (Int.toNat 0*1)) λp=>Bc (p=1) (Ix e 1 λq=>Lk F .u64 (Addr.add q (Int.toNat 1*1)) λr=>Bc (r=2) (Bb ((!f)) (Bc ((h.len:Int)=3) (Ix h 2 λs=>Lk F .u64 (Addr.add s (Int.toNat 2*1)) λt=>Bc (t=3) (gl b c d a g R F) (gl b c d a false R F)) (gl b c d a false R F)) (gl b c d a false R F)) (gl b c d a false R F)) (gl b c d a false R F)) (gl b c d a false R F)
def iS (I J:Nat) (a:Bool) (R:VR) (F:PH):Prop:=Ca 34 #[] F λK F=>Ca 34 #[] F λL F=>Ca 34 #[] F λM F=>Ca 34 #[] F λN F=>Ca 34 #[] F λO F=>Nb F (.cells zG 39) λU F=>Nb F (.cells zG 39) λl F=>Nb F (.cells zG 39) λb F=>Nb F (.cells zG 39) λe F=>Nb F (.cells zG 39) λm F=>aw F (Am U 0) 9 K λF=>aw F (Am l 0) 9 L λF=>aw F (Am b 0) 9 M λF=>aw F (Am e 0) 9 N λF=>aw F (Am m 0) 9 O λF=>Lr F 2 (Am I 0) λf=>f.size=2/\(wr (Array.setIfInBounds (Array.setIfInBounds (Array.setIfInBounds zT 0 (.string ⟨#[116]⟩)) 2 (.string ⟨#[43]⟩)) 4 (.string ⟨#[43]⟩)) 5 f.toList).size=7/\Nb F (.cells (wr (Array.setIfInBounds (Array.setIfInBounds (Array.setIfInBounds zT 0 (.string ⟨#[116]⟩)) 2 (.string ⟨#[43]⟩)) 4 (.string ⟨#[43]⟩)) 5 f.toList) 79) λV F=>sto F (Am U 3) (Sl.v (Sb V 1)) λF=>(#[(vi 1),(vi 97),(vi 122),vi 0,vi 0]:Γ).size=5/\Nb F (.cells (#[(vi 1),(vi 97),(vi 122),vi 0,vi 0]:Γ) 97) λP F=>Lr F 2 (Am I 0) λg=>g.size=2/\(wr (Array.setIfInBounds (Array.setIfInBounds (Array.setIfInBounds zT 0 (.string ⟨#[116]⟩)) 3 (Sl.v (Sb P 1))) 4 (.string ⟨#[43]⟩)) 5 g.toList).size=7/\Nb F (.cells (wr (Array.setIfInBounds (Array.setIfInBounds (Array.setIfInBounds zT 0 (.string ⟨#[116]⟩)) 3 (Sl.v (Sb P 1))) 4 (.string ⟨#[43]⟩)) 5 g.toList) 79) λW F=>sto F (Am l 3) (Sl.v (Sb W 1)) λF=>Lr F 2 (Am I 0) λh=>h.size=2/\Lr F 2 (Am I 0) λi=>i.size=2/\(wr (Array.setIfInBounds (Array.setIfInBounds zT 0 (.string ⟨#[40]⟩)) 2 (.string ⟨#[40]⟩)) 5 h.toList).size=7/\(wr (Array.setIfInBounds (Array.setIfInBounds zT 0 (.string ⟨#[41]⟩)) 2 (.string ⟨#[41]⟩)) 5 i.toList).size=7/\Nb F (.cells (wr (wr (#[.string ⟨#[]⟩,vi 0,.string ⟨#[]⟩,.slice none 0 0,.string ⟨#[]⟩,.slice none 0 0,vi 0,.string ⟨#[]⟩,vi 0,.string ⟨#[]⟩,.slice none 0 0,.string ⟨#[]⟩,.slice none 0 0,vi 0]:Γ) 0 (wr (Array.setIfInBounds (Array.setIfInBounds zT 0 (.string ⟨#[40]⟩)) 2 (.string ⟨#[40]⟩)) 5 h.toList).toList) 7 (wr (Array.setIfInBounds (Array.setIfInBounds zT 0 (.string ⟨#[41]⟩)) 2 (.string ⟨#[41]⟩)) 5 i.toList).toList) 79) λX F=>sto F (Am b 3) (Sl.v (Sb X 2)) λF=>Ls F (Am b 5) λQ=>(#[.bool true,vi 0]:Γ).size=2/\(#[.bool false,vi 0]:Γ).size=2/\(#[.bool true,(vi 1)]:Γ).size=2/\Nb F (.cells (wr (wr (wr (#[.bool false,vi 0,.bool false,vi 0,.bool false,vi 0]:Γ) 0 (#[.bool true,vi 0]:Γ).toList) 2 (#[.bool false,vi 0]:Γ).toList) 4 (#[.bool true,(vi 1)]:Γ).toList) 69) λY F=>Ix Q 0 λS=>sto F (Addr.add (Addr.add S (Int.toNat 0*13)) 2) (Sl.v (Sb Y 3)) λF=>Ls F (Am b 5) λn=>Ix n 0 λo=>sto F (Addr.add (Addr.add o (Int.toNat 0*13)) 5) (.bool true) λF=>Ls F (Am b 3) λp=>sto F (Am e 3) (Sl.v p) λF=>Ls F (Am e 5) λq=>Ls F (Am b 5) λr=>Ix r 0 λs=>Lr F 13 (Addr.add s (Int.toNat 0*13)) λt=>Ix q 0 λu=>aw F (Addr.add u (Int.toNat 0*13)) 13 t λF=>Ls F (Am e 5) λv=>Ix v 0 λw=>sto F (Addr.add (Addr.add w (Int.toNat 0*13)) 6) (vi 1) λF=>Nb F (.cells #[(vi 0)] 3) λj F=>Lr F 2 (Am I 0) λc=>c.size=2/\Nb F (.cells #[(vi 0)] 3) λk F=>Lr F 2 (Am I 0) λd=>d.size=2/\(wr (Array.setIfInBounds zL 0 (Sl.v (Sb j 1))) 2 c.toList).size=4/\(wr (Array.setIfInBounds zL 0 (Sl.v (Sb k 1))) 2 d.toList).size=4/\Nb F (.cells (wr (wr (#[.slice none 0 0,vi 0,.slice none 0 0,vi 0,.slice none 0 0,vi 0,.slice none 0 0,vi 0]:Γ) 0 (wr (Array.setIfInBounds zL 0 (Sl.v (Sb j 1))) 2 c.toList).toList) 4 (wr (Array.setIfInBounds zL 0 (Sl.v (Sb k 1))) 2 d.toList).toList) 72) λT F=>sto F (Am m 7) (Sl.v (Sb T 2)) λF=>Lr F 9 (Am U 0) λx=>Ci 20 #[.agg x] F λy F=>Bc (y=51) (Lr F 9 (Am l 0) λz=>Ci 20 #[.agg z] F λA F=>Bc (A=51) (Lr F 9 (Am b 0) λB=>Ci 20 #[.agg B] F λC F=>Bc (C=0) (Lr F 9 (Am e 0) λD=>Ci 20 #[.agg D] F λE F=>Bc (E=52) (Lr F 9 (Am m 0) λG=>Ci 20 #[.agg G] F λH F=>ku J a (decide (H=53)) R F) (ku J a false R F)) (ku J a false R F)) (ku J a false R F)) (ku J a false R F)
def Qz (R:VR) (F:PH):Prop:=Ca 30 #[.bool true] F λc F=>Nb F (.cells zD 33) λb F=>aw F (Am b 0) 2 c λF=>Ca 34 #[] F λd F=>Nb F (.cells zG 39) λa F=>aw F (Am a 0) 9 d λF=>Ca 34 #[] F λe F=>Ca 34 #[] F λf F=>Ca 34 #[] F λg F=>Ca 34 #[] F λh F=>Ca 34 #[] F λi F=>Nb F (.cells zG 39) λA F=>Nb F (.cells zG 39) λB F=>Nb F (.cells zG 39) λC F=>Nb F (.cells zG 39) λD F=>Nb F (.cells zG 39) λE F=>aw F (Am A 0) 9 e λF=>aw F (Am B 0) 9 f λF=>aw F (Am C 0) 9 g λF=>aw F (Am D 0) 9 h λF=>aw F (Am E 0) 9 i λF=>sto F (Am A 6) (vi 1) λF=>Ls F (Am B 5) λj=>Ix j 0 λk=>sto F (Addr.add (Addr.add k (Int.toNat 0*13)) 1) (vi (-1:Int)) λF=>Ls F (Am C 5) λl=>Ix l 0 λm=>sto F (Addr.add m (Int.toNat 0*13)) (.string ⟨#[]⟩) λF=>Nb F (.cells #[.string ⟨#[116,114,117,101]⟩] 9) λG F=>sto F (Am D 0) (Sl.v (Sb G 1)) λF=>Ca 30 #[.bool false] F λn F=>aw F (Am E 1) 2 n λF=>Lr F 9 (Am a 0) λo=>Ci 20 #[.agg o] F λp F=>Bc (p=0) (Lr F 9 (Am A 0) λq=>Ci 20 #[.agg q] F λr F=>Bc (r=50) (Lr F 9 (Am B 0) λs=>Ci 20 #[.agg s] F λt F=>Bc (t=50) (Lr F 9 (Am C 0) λu=>Ci 20 #[.agg u] F λv F=>Bc (v=52) (Lr F 9 (Am D 0) λw=>Ci 20 #[.agg w] F λx F=>Bc (x=54) (Lr F 9 (Am E 0) λy=>Ci 20 #[.agg y] F λz F=>iS b a (decide (z=54)) R F) (iS b a false R F)) (iS b a false R F)) (iS b a false R F)) (iS b a false R F)) (iS b a false R F)
theorem VX (h:Qz R F):ae prog 11 #[] F R:=Rx.sxC (args:=[]) (.T .N (.T .N (.T .N (.T .N (.T .N (.T .N (.T .N (.T .N (.T .N (.J false [(8,.bool)] .N (.T .N (.T .N (.T .N (.T .N (.T .N (.T .N (.T .N (.T .N (.T .N (.T .N (.J false [(14,.bool)] .N (.T .N (.T .N (.T .N (.T .N (.T .N (.T .N (.J false [(22,.bool)] .N .N)))))))))))))))))))))))))))) (by kernel_rfl) h
def de (c b:Nat) (R:VR) (F:PH):Prop:=Lr F 9 (Am c 0) λa=>aw F (Am b 0) 9 a λF=>Rr 9 (Am b 0) R F
def QA (aN aO:Γ) (R:VR) (F:PH):Prop:=Nb F (.cells aN 39) λc F=>Nb F (.cells aO 28) λe F=>Nb F (.cells zG 39) λg F=>Nb F (.cells #[] 79) λb7 F=>Ls F (Am c 3) λaP=>Ap 34 #[Sl.v (Sb b7 0),Sl.v aP] F λai F=>sto F (Am c 3) (Sl.v ai) λF=>Nb F (.cells #[] 67) λaQ F=>Ls F (Am c 5) λaj=>Ap 35 #[Sl.v (Sb aQ 0),Sl.v aj] F λak F=>sto F (Am c 5) (Sl.v ak) λF=>Nb F (.cells #[] 72) λaR F=>Ls F (Am c 7) λal=>Ap 36 #[Sl.v (Sb aR 0),Sl.v al] F λam F=>sto F (Am c 7) (Sl.v am) λF=>Nb F (.cells #[] 74) λaS F=>Ls F (Am c 8) λan=>Ap 37 #[Sl.v (Sb aS 0),Sl.v an] F λao F=>sto F (Am c 8) (Sl.v ao) λF=>Lk F .u8 (Am e 1) λl=>Ls F (Am c 3) λf=>(f.len:Int)≠0/\Lk F .u8 (Am e 1) λb=>Ls F (Am c 5) λa=>(a.len:Int)≠0/\Lk F .u8 (Am e 0) λd=>Bc ((Int.tmod d 16)=0) (Li F (Am e 2) λap=>sto F (Am c 6) (vi ap) λF=>de c g R F) (Bc ((Int.tmod d 16)=1) (Ls F (Am c 5) λaq=>Li F (Am e 2) λar=>Ix aq (Int.tmod (i64.wrap b) (a.len:Int)) λau=>sto F (Addr.add (Addr.add au (Int.toNat (Int.tmod (i64.wrap b) (a.len:Int))*13)) 1) (vi ar) λF=>de c g R F) (Bc ((Int.tmod d 16)=2) (Ls F (Am c 5) λy=>Lk F .u8 (Am e 1) λm=>Li F (Am e 2) λn=>Ls F (Am c 5) λz=>Ix z (Int.tmod (i64.wrap b) (a.len:Int)) λav=>∃A,F.cell (Addr.add (Addr.add av (Int.toNat (Int.tmod (i64.wrap b) (a.len:Int))*13)) 2)=some (Sl.v A)/\(#[.bool (decide ((Int.tmod m 2)=1)),(vi n)]:Γ).size=2/\Nb F (.cells (#[.bool (decide ((Int.tmod m 2)=1)),(vi n)]:Γ) 69) λaT F=>Ap 62 #[Sl.v (Sb aT 1),Sl.v A] F λax F=>F.cell (Am c 5)=some (Sl.v z)/\F.cell (Am e 2)=some (vi n)/\F.cell (Am e 1)=some (.int .u8 m)/\F.cell (Am c 5)=some (Sl.v y)/\Ix y (Int.tmod (i64.wrap b) (a.len:Int)) λay=>sto F (Addr.add (Addr.add ay (Int.toNat (Int.tmod (i64.wrap b) (a.len:Int))*13)) 2) (Sl.v ax) λF=>de c g R F) (Bc ((Int.tmod d 16)=3) (Ls F (Am c 5) λaz=>Li F (Am e 2) λaA=>Ix az (Int.tmod (i64.wrap b) (a.len:Int)) λaB=>sto F (Addr.add (Addr.add aB (Int.toNat (Int.tmod (i64.wrap b) (a.len:Int))*13)) 6) (vi aA) λF=>de c g R F) (Bc ((Int.tmod d 16)=4) (Ls F (Am c 5) λE=>Lk F .u8 (Am e 1) λo=>Li F (Am e 2) λp=>(#[(vi (i64.wrap (1+(Int.tmod (i64.wrap o) 4)))),(vi p),vi 0]:Γ).size=3/\Nb F (.cells (#[(vi (i64.wrap (1+(Int.tmod (i64.wrap o) 4)))),(vi p),vi 0]:Γ) 101) λaC F=>Ix E (Int.tmod (i64.wrap b) (a.len:Int)) λG=>sto F (Addr.add (Addr.add G (Int.toNat (Int.tmod (i64.wrap b) (a.len:Int))*13)) 7) (Sl.v (Sb aC 1)) λF=>de c g R F) (Bc ((Int.tmod d 16)=5) (Ls F (Am c 5) λH=>Li F (Am e 2) λI=>Ix H (Int.tmod (i64.wrap b) (a.len:Int)) λJ=>sto F (Addr.add (Addr.add (Addr.add J (Int.toNat (Int.tmod (i64.wrap b) (a.len:Int))*13)) 8) 1) (vi I) λF=>de c g R F) (Bc ((Int.tmod d 16)=6) (Ls F (Am c 5) λK=>Ix K (Int.tmod (i64.wrap b) (a.len:Int)) λL=>sto F (Addr.add (Addr.add L (Int.toNat (Int.tmod (i64.wrap b) (a.len:Int))*13)) 5) (.bool true) λF=>de c g R F) (Bc ((Int.tmod d 16)=7) (Ls F (Am c 3) λM=>Li F (Am e 2) λN=>Ix M (Int.tmod (i64.wrap l) (f.len:Int)) λO=>sto F (Addr.add (Addr.add O (Int.toNat (Int.tmod (i64.wrap l) (f.len:Int))*7)) 1) (vi N) λF=>de c g R F) (Bc ((Int.tmod d 16)=8) (Ls F (Am c 3) λP=>Ls F (Am c 3) λQ=>Ix Q 0 λS=>Lx F (Addr.add S (Int.toNat 0*7)) λT=>Ix P (Int.tmod (i64.wrap l) (f.len:Int)) λU=>sto F (Addr.add U (Int.toNat (Int.tmod (i64.wrap l) (f.len:Int))*7)) (.string T) λF=>de c g R F) (Bc ((Int.tmod d 16)=9) (Ls F (Am c 7) λV=>Li F (Am e 2) λW=>Nb F (.cells #[(vi W)] 3) λB F=>Lk F .u8 (Am e 1) λq=>Lr F 2 (Am c 1) λh=>h.size=2/\(wr (Array.setIfInBounds (Array.setIfInBounds zL 0 (Sl.v (Sb B 1))) 1 (vi (Int.tmod (i64.wrap q) 5))) 2 h.toList).size=4/\Nb F (.cells (wr (Array.setIfInBounds (Array.setIfInBounds zL 0 (Sl.v (Sb B 1))) 1 (vi (Int.tmod (i64.wrap q) 5))) 2 h.toList) 72) λaD F=>Ap 36 #[Sl.v V,Sl.v (Sb aD 1)] F λX F=>sto F (Am c 7) (Sl.v X) λF=>de c g R F) (Bc ((Int.tmod d 16)=10) (Ls F (Am c 8) λY=>Lk F .u8 (Am e 1) λr=>Li F (Am e 2) λs=>Lr F 2 (Am c 1) λi=>i.size=2/\(wr (Array.setIfInBounds (Array.setIfInBounds zF 0 (vi (Int.tmod (i64.wrap r) 7))) 1 (vi s)) 7 i.toList).size=9/\Nb F (.cells (wr (Array.setIfInBounds (Array.setIfInBounds zF 0 (vi (Int.tmod (i64.wrap r) 7))) 1 (vi s)) 7 i.toList) 74) λaE F=>Ap 37 #[Sl.v Y,Sl.v (Sb aE 1)] F λZ F=>sto F (Am c 8) (Sl.v Z) λF=>de c g R F) (Bc ((Int.tmod d 16)=11) (Ls F (Am c 8) λaa=>Lk F .u8 (Am e 1) λt=>Li F (Am e 2) λu=>Lk F .u8 (Am e 1) λab=>Nb F (.cells #[(vi (Int.tmod (i64.wrap ab) 12))] 3) λC F=>Lr F 2 (Am c 1) λj=>j.size=2/\(wr (Array.setIfInBounds (Array.setIfInBounds (Array.setIfInBounds zF 0 (vi (Int.tmod (i64.wrap t) 7))) 4 (vi u)) 6 (Sl.v (Sb C 1))) 7 j.toList).size=9/\Nb F (.cells (wr (Array.setIfInBounds (Array.setIfInBounds (Array.setIfInBounds zF 0 (vi (Int.tmod (i64.wrap t) 7))) 4 (vi u)) 6 (Sl.v (Sb C 1))) 7 j.toList) 74) λaF F=>Ap 37 #[Sl.v aa,Sl.v (Sb aF 1)] F λac F=>sto F (Am c 8) (Sl.v ac) λF=>de c g R F) (Bc ((Int.tmod d 16)=12) (Ls F (Am c 8) λad=>Lk F .u8 (Am e 1) λv=>Li F (Am e 2) λae=>Nb F (.cells #[(vi 5),(vi ae)] 3) λD F=>Lr F 2 (Am c 1) λk=>k.size=2/\(wr (Array.setIfInBounds (Array.setIfInBounds zF 0 (vi (Int.tmod (i64.wrap v) 7))) 6 (Sl.v (Sb D 2))) 7 k.toList).size=9/\Nb F (.cells (wr (Array.setIfInBounds (Array.setIfInBounds zF 0 (vi (Int.tmod (i64.wrap v) 7))) 6 (Sl.v (Sb D 2))) 7 k.toList) 74) λaG F=>Ap 37 #[Sl.v ad,Sl.v (Sb aG 1)] F λaf F=>sto F (Am c 8) (Sl.v af) λF=>de c g R F) (Bc ((Int.tmod d 16)=13) (Ls F (Am c 5) λag=>Li F (Am e 2) λw=>(#[(vi w),vi 0,(vi 1)]:Γ).size=3/\Nb F (.cells (#[(vi w),vi 0,(vi 1)]:Γ) 103) λaH F=>Ix ag (Int.tmod (i64.wrap b) (a.len:Int)) λah=>aw F (Addr.add (Addr.add ah (Int.toNat (Int.tmod (i64.wrap b) (a.len:Int))*13)) 3) 2 (#[Sl.v (Sb aH 1),(vi 2)]:Γ) λF=>de c g R F) (Bc ((Int.tmod d 16)=14) (Li F (Am e 2) λx=>(#[(vi x),vi 0,(vi 1)]:Γ).size=3/\Nb F (.cells (#[(vi x),vi 0,(vi 1)]:Γ) 103) λaI F=>aw F (Am c 1) 2 (#[Sl.v (Sb aI 1),(vi 2)]:Γ) λF=>de c g R F) (Ls F (Am c 5) λaJ=>Li F (Am e 2) λaK=>Lk F .u8 (Am e 1) λaL=>Ix aJ (Int.tmod (i64.wrap b) (a.len:Int)) λaM=>aw F (Addr.add (Addr.add aM (Int.toNat (Int.tmod (i64.wrap b) (a.len:Int))*13)) 8) 5 (#[.bool false,vi 0,vi 0,(vi aK),(vi (i64.wrap aL))]:Γ) λF=>de c g R F)))))))))))))))
theorem VY {a:Γ} {b:Γ} (h:QA a b R F):ae prog 12 #[.agg a,.agg b] F R:=Rx.sxC (args:=[.agg a,.agg b]) (.T .N (.T .N (.T .N (.T .N (.T .N (.T .N (.T .N (.J false [] .N .N)))))))) (by kernel_rfl) h
def QB (R:VR) (F:PH):Prop:=Nb F (.cells zG 39) λe F=>Ca 30 #[.bool true] F λc F=>Nb F (.cells zD 33) λd F=>aw F (Am d 0) 2 c λF=>Lr F 2 (Am d 0) λb=>Nb F (.cells #[.string ⟨#[83]⟩] 9) λf F=>Lr F 2 (Am d 0) λa=>a.size=2/\(wr (Array.setIfInBounds zP 0 (.string ⟨#[115]⟩)) 3 a.toList).size=13/\Nb F (.cells (wr (Array.setIfInBounds zP 0 (.string ⟨#[115]⟩)) 3 a.toList) 67) λg F=>b.size=2/\aw F (Am e 0) 9 (Array.setIfInBounds (Array.setIfInBounds (wr zG 1 b.toList) 4 (Sl.v (Sb f 1))) 5 (Sl.v (Sb g 1))) λF=>Rr 9 (Am e 0) R F
theorem VZ (h:QB R F):ae prog 34 #[] F R:=Rx.sxC (args:=[]) .N (by kernel_rfl) h
def QC (R:VR) (F:PH):Prop:=Nb F (.cells #[.int .u8 0,.int .u8 0,.int .u8 1,.int .u8 0,.int .u8 1,.int .u8 1,.int .u8 83,.int .u8 1,.int .u8 1,.int .u8 115,.int .u8 0,.int .u8 0,.int .u8 0,.int .u8 1,.int .u8 0,.int .u8 1,.int .u8 0,.int .u8 0,.int .u8 0,.int .u8 0,.int .u8 0,.int .u8 0,.int .u8 0,.int .u8 0,.int .u8 0] 5) λa F=>R (Sl.v (Sb a 25)) F
theorem V0 (h:QC R F):ae prog 36 #[] F R:=Rx.sxC (args:=[]) .N (by kernel_rfl) h
end Go.Proofs.YtenpmjhnhepfdaaGreatDoor
