/-
  A set of two conditions, by its table.
-/
import Derived.Test.YtenpmjhnhepfdaaGreatDoorIt
namespace Go.Proofs.YtenpmjhnhepfdaaGreatDoor
open Go Go.Proofs.Tryz Tr
set_option maxRecDepth 10000
instance decSy (q:Option Sy):Decidable (∃s,q=some s/\s.t=true):=
 match q with
 |none=>isFalse fun ⟨_,h,_⟩=>by cases h
 |some s=>if h:s.t=true then isTrue ⟨s,rfl,h⟩ else isFalse fun ⟨_,h1,h2⟩=>by cases h1;exact h h2
instance decEntry (r:List Sy) (k v lo hi:Int):Decidable (cD r k v lo hi):=by unfold cD;infer_instance
instance decLay (r:List Sy) (x:Cn):Decidable (kR r x):=by unfold kR;infer_instance
instance decBrk (p:Pr):Decidable (w7 p):=by unfold w7;infer_instance
instance decDet (p:Pr):Decidable (kS p):=by unfold kS;infer_instance
def M1 (nn:Nat) (p:Pr):Prop:=(0<=p.left/\p.left<nn)/\p.right.length<=5/\(∀s∈p.right,0<=s.i/\(s.t=true->s.i<9)/\(s.t=false->s.i<nn))/\(-1<=p.rank/\p.rank<=1)/\p.lay.length<=2/\kS p/\(p.name≠emp/\p.name.size<=13)
instance decPri (nn:Nat) (p:Pr):Decidable (M1 nn p):=by unfold M1;infer_instance
theorem aZ {n nn:Nat} {p:Pr} (h:M1 nn p) (hc:SxD n p.cond):PrI n nn p:=by
 obtain ⟨h1,h2,h3,h4,h5,h6,h7⟩:=h
 exact ⟨hc,h1,h2,h3,h4,h5,h6,h7⟩
theorem fK {n v:Nat} (hv:v<n) (hn:n<=6):SxD n (dia (tv v)):=⟨_,Sx.tv hv hn,rfl⟩
theorem nF {n v:Nat} (hv:v<n) (hn:n<=6):SxD n (de v):=⟨_,(Sx.tv hv hn).ap2 (Sx.leaf n true),rfl⟩
def Ig (s:ByteArray):Prop:=s.size≠2\/s.data[0]?≠some 112
instance (s:ByteArray):Decidable (Ig s):=by unfold Ig;infer_instance
theorem Ih {s:ByteArray} (h:Ig s) (k:Nat):s≠bg k:=by
 intro e
 rcases h with h|h
 ·exact h (by rw [e];rfl)
 ·exact h (by rw [e];rfl)
theorem pI {g:Gr} {n:Nat} (hn:n<=3) (hc:g.conds=abc.take n) (hf:g.fam=aJ) (ht:g.toks=eF) (hs:g.start=0) (h1:aX g.nons) (h2:∀s∈g.nons,s.size<=10) (h3:(g.prods.map Pr.name).Nodup) (h4:∀s∈g.prods.map Pr.name,Ig s)
  (h5:∀p∈g.prods,PrI g.conds.length g.nons.length p) (h6:cC g [] g.lvs/\∀l∈g.lvs,SxD g.conds.length l.cond) (h7:∀x∈g.fils,bO g x/\SxD g.conds.length x.cond/\x.toks.length<=2):MG g:=by
 have e:eF.map pR=eF:=rfl
 refine ⟨⟨n,hn,hc⟩,⟨_,Sx.leaf _ true,by simp,hf⟩,⟨h1,h2⟩,hs,⟨by rw [ht];exact e,fun t htm=> ?_⟩,⟨h3,fun p hp k _ _=>Ih (h4 _ (List.mem_map_of_mem hp)) k⟩,h5,h6,h7⟩
 rw [ht,<- e] at htm
 obtain ⟨u,_,rfl⟩:=List.mem_map.1 htm
 exact aT _
theorem Ii {g:Gr} (ht:g.toks=eF) (i:Nat) {kd:Tk->Bool} {t:Tk} (h:eF[i]? =some t) (hk:kd t=true):0<=(i:Int)/\∃t,g.toks[(i:Int).toNat]? =some t/\kd t=true:=⟨by omega,t,by rw [ht,Int.toNat_natCast];exact h,hk⟩
theorem Pa {g:Gr} {kd:Tk->Bool} {i:Int} (h:0<=i/\∃t,g.toks[i.toNat]? =some t/\kd t=true):fM g kd [i]:=by
 refine ⟨by simp,fun n hn=>by rw [List.mem_singleton.1 hn];exact h,fun j x y _ hy=> ?_⟩
 simp at hy
theorem T1 {g:Gr} {kd:Tk->Bool} {i j:Int} (h:0<=i/\∃t,g.toks[i.toNat]? =some t/\kd t=true) (h':0<=j/\∃t,g.toks[j.toNat]? =some t/\kd t=true) (hij:i<j):fM g kd [i,j]:=by
 refine ⟨by simp,fun n hn=> ?_,fun k x y hx hy=> ?_⟩
 ·rcases List.mem_cons.1 hn with rfl|hn
  ·exact h
  ·rw [List.mem_singleton.1 hn];exact h'
 ·match k with
  |0=>
   simp at hx hy
   subst hx hy
   exact hij
  |k+1=>simp at hy
theorem pJ:MG dq:=by
 refine pI (n:=2) (by decide) rfl rfl rfl rfl (by unfold aX;decide) (by decide) (by decide) (by decide) (fun p hp=> ?_) ⟨?_,?_⟩ ?_
 ·rcases List.mem_cons.1 hp with rfl|hp
  ·exact aZ (by decide) (aT _)
  rcases List.mem_cons.1 hp with rfl|hp
  ·exact aZ (by decide) (aT _)
  rcases List.mem_cons.1 hp with rfl|hp
  ·exact aZ (by decide) (aT _)
  rcases List.mem_cons.1 hp with rfl|hp
  ·exact aZ (by decide) (aT _)
  rcases List.mem_cons.1 hp with rfl|hp
  ·exact aZ (by decide) (fK (by decide) (by decide))
  cases hp
 ·refine ⟨⟨by decide,by decide,(aT 2).fit (by decide),by decide,by decide,by decide⟩,⟨by decide,by decide,(aT 2).fit (by decide),by decide,by decide,by decide⟩,⟨by decide,by decide,(nF (n:=2) (v:=0) (by decide) (by decide)).fit (by decide),by decide,by decide,by decide⟩,trivial⟩
 ·intro l hl
  rcases List.mem_cons.1 hl with rfl|hl
  ·exact aT _
  rcases List.mem_cons.1 hl with rfl|hl
  ·exact aT _
  rcases List.mem_cons.1 hl with rfl|hl
  ·exact nF (by decide) (by decide)
  cases hl
 ·intro x hx
  cases hx
theorem rK:MG cM:=by
 refine pI (n:=2) (by decide) rfl rfl rfl rfl (by unfold aX;decide) (by decide) (by decide) (by decide) (fun p hp=> ?_) ⟨?_,?_⟩ ?_
 ·rcases List.mem_cons.1 hp with rfl|hp
  ·exact aZ (by decide) (aT _)
  rcases List.mem_cons.1 hp with rfl|hp
  ·exact aZ (by decide) (aT _)
  rcases List.mem_cons.1 hp with rfl|hp
  ·exact aZ (by decide) (aT _)
  rcases List.mem_cons.1 hp with rfl|hp
  ·exact aZ (by decide) (aT _)
  rcases List.mem_cons.1 hp with rfl|hp
  ·exact aZ (by decide) (aT _)
  cases hp
 ·trivial
 ·intro l hl
  cases hl
 ·intro x hx
  rcases List.mem_cons.1 hx with rfl|hx
  ·exact ⟨⟨(fK (n:=2) (v:=0) (by decide) (by decide)).fit (by decide),.inl ⟨.inr rfl,⟨by decide,by decide,by decide,_,_,rfl,rfl,rfl⟩,rfl,rfl,rfl⟩⟩,fK (by decide) (by decide),by decide⟩
  rcases List.mem_cons.1 hx with rfl|hx
  ·exact ⟨⟨(fK (n:=2) (v:=1) (by decide) (by decide)).fit (by decide),.inr (.inr ⟨rfl,⟨T1 (Ii rfl 5 rfl (by decide)) (Ii rfl 6 rfl (by decide)) (by decide),by decide,_,rfl,rfl,rfl⟩,rfl,rfl,rfl,rfl⟩)⟩,fK (by decide) (by decide),by decide⟩
  cases hx
theorem mV:MG eT:=by
 refine pI (n:=2) (by decide) rfl rfl rfl rfl (by unfold aX;decide) (by decide) (by decide) (by decide) (fun p hp=> ?_) ⟨?_,?_⟩ ?_
 ·rcases List.mem_cons.1 hp with rfl|hp
  ·exact aZ (by decide) (aT _)
  rcases List.mem_cons.1 hp with rfl|hp
  ·exact aZ (by decide) (aT _)
  rcases List.mem_cons.1 hp with rfl|hp
  ·exact aZ (by decide) (aT _)
  rcases List.mem_cons.1 hp with rfl|hp
  ·exact aZ (by decide) (aT _)
  rcases List.mem_cons.1 hp with rfl|hp
  ·exact aZ (by decide) (aT _)
  rcases List.mem_cons.1 hp with rfl|hp
  ·exact aZ (by decide) (aT _)
  rcases List.mem_cons.1 hp with rfl|hp
  ·exact aZ (by decide) (fK (by decide) (by decide))
  cases hp
 ·trivial
 ·intro l hl
  cases hl
 ·intro x hx
  cases hx
theorem Cw:MG nI:=by
 refine pI (n:=2) (by decide) rfl rfl rfl rfl (by unfold aX;decide) (by decide) (by decide) (by decide) (fun p hp=> ?_) ⟨?_,?_⟩ ?_
 ·rcases List.mem_cons.1 hp with rfl|hp
  ·exact aZ (by decide) (aT _)
  rcases List.mem_cons.1 hp with rfl|hp
  ·exact aZ (by decide) (aT _)
  rcases List.mem_cons.1 hp with rfl|hp
  ·exact aZ (by decide) (aT _)
  rcases List.mem_cons.1 hp with rfl|hp
  ·exact aZ (by decide) (aT _)
  rcases List.mem_cons.1 hp with rfl|hp
  ·exact aZ (by decide) (fK (by decide) (by decide))
  cases hp
 ·trivial
 ·intro l hl
  cases hl
 ·intro x hx
  cases hx
theorem x8:MG kH:=by
 refine pI (n:=2) (by decide) rfl rfl rfl rfl (by unfold aX;decide) (by decide) (by decide) (by decide) (fun p hp=> ?_) ⟨?_,?_⟩ ?_
 ·rcases List.mem_cons.1 hp with rfl|hp
  ·exact aZ (by decide) (aT _)
  rcases List.mem_cons.1 hp with rfl|hp
  ·exact aZ (by decide) (aT _)
  rcases List.mem_cons.1 hp with rfl|hp
  ·exact aZ (by decide) (aT _)
  rcases List.mem_cons.1 hp with rfl|hp
  ·exact aZ (by decide) (aT _)
  rcases List.mem_cons.1 hp with rfl|hp
  ·exact aZ (by decide) (aT _)
  rcases List.mem_cons.1 hp with rfl|hp
  ·exact aZ (by decide) (fK (by decide) (by decide))
  cases hp
 ·trivial
 ·intro l hl
  cases hl
 ·intro x hx
  rcases List.mem_cons.1 hx with rfl|hx
  ·exact ⟨⟨(fK (n:=2) (v:=0) (by decide) (by decide)).fit (by decide),.inr (.inl ⟨.inl rfl,⟨by decide,by decide,Pa (Ii rfl 0 rfl (by decide))⟩,rfl,rfl,rfl,rfl⟩)⟩,fK (by decide) (by decide),by decide⟩
  rcases List.mem_cons.1 hx with rfl|hx
  ·exact ⟨⟨(nF (n:=2) (v:=1) (by decide) (by decide)).fit (by decide),.inr (.inl ⟨.inr rfl,⟨by decide,by decide,Pa (Ii rfl 1 rfl (by decide))⟩,rfl,rfl,rfl,rfl⟩)⟩,nF (by decide) (by decide),by decide⟩
  cases hx
theorem x9:MG kI:=by
 refine pI (n:=2) (by decide) rfl rfl rfl rfl (by unfold aX;decide) (by decide) (by decide) (by decide) (fun p hp=> ?_) ⟨?_,?_⟩ ?_
 ·rcases List.mem_cons.1 hp with rfl|hp
  ·exact aZ (by decide) (aT _)
  rcases List.mem_cons.1 hp with rfl|hp
  ·exact aZ (by decide) (aT _)
  rcases List.mem_cons.1 hp with rfl|hp
  ·exact aZ (by decide) (aT _)
  rcases List.mem_cons.1 hp with rfl|hp
  ·exact aZ (by decide) (aT _)
  rcases List.mem_cons.1 hp with rfl|hp
  ·exact aZ (by decide) (fK (by decide) (by decide))
  cases hp
 ·trivial
 ·intro l hl
  cases hl
 ·intro x hx
  cases hx
theorem EA {k:Nat} (hk:k<6):MG (cj k):=by
 have h:k=0\/k=1\/k=2\/k=3\/k=4\/k=5:=by omega
 rcases h with rfl|rfl|rfl|rfl|rfl|rfl
 ·exact pJ
 ·exact rK
 ·exact mV
 ·exact Cw
 ·exact x8
 ·exact x9
theorem EB (x:Rw):MG (gT x):=by
 unfold gT
 split
 ·rename_i h
  exact EA (of_decide_eq_true h)
 ·have hn:(fm x).length≠0:=by unfold fm;rw [List.length_take];simp
  refine pI (n:=x.n % 4) (by omega) rfl rfl rfl rfl ?_ (fun s hs=> ?_) (by show ([⟨#[102,105,114,115,116]⟩]:List ByteArray).Nodup;simp) (fun s hs=>by rw [List.mem_singleton.1 (show s∈([⟨#[102,105,114,115,116]⟩]:List ByteArray) from hs)];decide) (fun p hp=> ?_) ⟨trivial,fun l hl=>(by cases hl)⟩ fun x hx=>by cases hx
  ·have h:x.n / 4 % 3=0\/x.n / 4 % 3=1\/x.n / 4 % 3=2:=by omega
   show aX (fm x)
   unfold fm
   rcases h with h|h|h<;>rw [h]<;>(unfold aX;decide)
  ·have:∀s∈([⟨#[83]⟩,⟨#[80]⟩,⟨#[81]⟩]:List ByteArray),s.size<=10:=by decide
   exact this s (List.mem_of_mem_take hs)
  ·rw [List.mem_singleton.1 hp]
   refine aZ ⟨⟨by decide,?_⟩,by decide,?_,by decide,by decide,by decide,by decide⟩ (aT _)
   ·show (0:Int)<(fm x).length
    omega
   ·intro s hs
    rw [List.mem_singleton.1 hs]
    exact ⟨by decide,fun _=>by decide,fun h=>(by cases h)⟩
theorem Ij (x:Rw):MG (mI x)/\Bd (mI x) 18 10:=by
 have hm:cT x<=10:=by unfold cT;split<;>decide
 have b1:=EQ (x:=x) (pO x)
 have m1:=(EB x).famG (pO x) x
 have b2:=pP (x:=x) (x.lines.take (cT x)) b1
 have hl:(x.lines.take (cT x)).length<=10:=by rw [List.length_take];omega
 have hr:(x.rules.take 6).length<=6:=by rw [List.length_take];omega
 have m2:=MG.lines (x:=x) (x.lines.take (cT x)) m1 b1 (by omega)
 have b3:=pQ (x.rules.take 6) b2
 have m3:=MG.rules (x.rules.take 6) m2 b2
 refine ⟨m3,?_⟩
 obtain ⟨c1,c2,c3,c4,c5,c6,c7,c8,c9⟩:=b3
 exact ⟨c1,c2,c3,c4,by unfold mI;omega,c6,by unfold mI;omega,c8,by unfold mI;omega⟩
theorem t6 {g:Gr} (h1:bE g=false) (h2:¬fa g):bT g=54:=by
 unfold bT;rw [if_neg (by rw [h1];decide),if_pos h2]
theorem t7 {g:Gr} (h1:bE g=false) (h2:fa g) (h3:¬cN g.conds.length [] g.toks):bT g=51:=by
 unfold bT;rw [if_neg (by rw [h1];decide),if_neg (not_not_intro h2),if_pos h3]
theorem z8 {g:Gr} (h1:bE g=false) (h2:fa g) (h3:cN g.conds.length [] g.toks) (h4:¬dO g):bT g=50:=by
 unfold bT;rw [if_neg (by rw [h1];decide),if_neg (not_not_intro h2),if_neg (not_not_intro h3),if_pos h4]
theorem kz {g:Gr} {e:Int} (h1:bE g=false) (h2:fa g) (h3:cN g.conds.length [] g.toks) (h4:dO g) (h5:bJ g [] g.prods=e) (h6:e≠0):bT g=e:=by
 unfold bT;rw [if_neg (by rw [h1];decide),if_neg (not_not_intro h2),if_neg (not_not_intro h3),if_neg (not_not_intro h4),if_pos (by rw [h5];exact h6),h5]
theorem Aa {g:Gr} (h1:bE g=false) (h2:fa g) (h3:cN g.conds.length [] g.toks) (h4:dO g) (h5:bJ g [] g.prods=0) (h6:¬cC g [] g.lvs):bT g=53:=by
 unfold bT;rw [if_neg (by rw [h1];decide),if_neg (not_not_intro h2),if_neg (not_not_intro h3),if_neg (not_not_intro h4),if_neg (by rw [h5];decide),if_pos h6]
theorem Ik {g:Gr} (h1:bE g=false) (h2:fa g) (h3:cN g.conds.length [] g.toks) (h4:dO g) (h5:bJ g [] g.prods=0) (h6:cC g [] g.lvs) (h7:¬∀x∈g.fils,bO g x):bT g=53:=by
 unfold bT;rw [if_neg (by rw [h1];decide),if_neg (not_not_intro h2),if_neg (not_not_intro h3),if_neg (not_not_intro h4),if_neg (by rw [h5];decide),if_neg (not_not_intro h6),if_pos h7]
theorem Cx {g:Gr} {p:Pr} (h:¬cz g p) (l:List Pr) (done:List ByteArray):bJ g done (p::l)=50:=by unfold bJ;rw [if_pos h]
theorem wu {g:Gr} {p:Pr} {done:List ByteArray} (h1:cz g p) (h:¬qi g done p) (l:List Pr):bJ g done (p::l)=52:=by unfold bJ;rw [if_neg (not_not_intro h1),if_pos h]
theorem lW {g:Gr} {p:Pr} (h1:cz g p) (h:qi g [] p):bJ g [] [p]=0:=by unfold bJ;rw [if_neg (not_not_intro h1),if_neg (not_not_intro h)];rfl
theorem kA (n:Nat) (hn:n<=6):fg aJ n:=(aT n).fit hn
def aU:Gr:=⟨[],aJ,[],[⟨#[83]⟩],[ba ⟨#[115]⟩ 0 []],0,[],[]⟩
def t8:Gr:={aU with start:=1}
def JW:Gr:={aU with prods:=[ba ⟨#[115]⟩ (-1) []]}
def JX:Gr:={aU with prods:=[ba ⟨#[]⟩ 0 []]}
def jk:Gr:={aU with conds:=[⟨#[116,114,117,101]⟩]}
def ua:Gr:={aU with fam:=dia (leaf false)}
def ww:Gr:={aU with toks:=[⟨⟨#[116]⟩,0,⟨#[43]⟩,[],⟨#[43]⟩,aJ⟩]}
def iP:Gr:={aU with toks:=[⟨⟨#[116]⟩,0,⟨#[]⟩,[⟨1,97,122,0,0⟩],⟨#[43]⟩,aJ⟩]}
def ub:List Tk:=[tkL ⟨#[40]⟩,tkL ⟨#[41]⟩]
def wx:Pr:={ba ⟨#[115]⟩ 0 [⟨true,0⟩,⟨false,0⟩,⟨true,1⟩] with brk:=true}
def pK:Gr:={aU with toks:=ub,prods:=[wx]}
def EC:Gr:={aU with toks:=ub,prods:=[{wx with rank:=1}]}
def lX:Gr:={aU with lvs:=[⟨[0],0,aJ⟩,⟨[0],0,aJ⟩]}
theorem uc {g:Gr} (h1:g.conds=[]) (h2:g.fam=aJ):fa g:=by
 unfold fa aX
 rw [h1,h2]
 exact ⟨fun s hs=>(by cases hs),⟨.nil,by simp⟩,kA 0 (by decide),by decide⟩
theorem pM {g:Gr} (h1:g.nons=[⟨#[83]⟩]) (h2:g.start=0):dO g:=by
 unfold dO aX
 rw [h1,h2]
 exact ⟨by decide,by decide,by decide⟩
theorem JY {g:Gr} {p:Pr} (h1:p.name≠emp) (h2:p.cond=aJ) (hc:g.conds=[]) (h3: -1<=p.rank/\p.rank<=1) (h4:kS p):qi g [] p:=⟨h1,by simp,by rw [h2,hc];exact kA 0 (by decide),h3.1,h3.2,h4⟩
theorem ED {g:Gr} {p:Pr} (h1:g.nons=[⟨#[83]⟩]) (h2:p.left=0) (h3:p.right=[]):cz g p:=by
 unfold cz iv
 rw [h1,h2,h3]
 exact ⟨⟨by decide,fun _=>by decide,fun h=>(by cases h)⟩,fun s hs=>(by cases hs)⟩
theorem pN {g:Gr} (h1:g.nons=[⟨#[83]⟩]) (hc:g.conds=[]) (hp:g.prods=[ba ⟨#[115]⟩ 0 []]):bJ g [] g.prods=0:=by
 rw [hp]
 exact lW (ED h1 rfl rfl) (JY (by decide) rfl hc (by decide) (by decide))
theorem EE:OkG aU:=⟨by decide,uc rfl rfl,trivial,pM rfl rfl,pN rfl rfl rfl,trivial,fun x hx=>(by cases hx)⟩
theorem lY:bT aU=0:=eV.2 EE
theorem Cy:bT t8=50:=z8 (by decide) (uc rfl rfl) trivial fun h=>by have:=h.2.2;revert this;decide
theorem EF:bT JW=50:=kz (by decide) (uc rfl rfl) trivial (pM rfl rfl) (Cx (fun h=>by have:=h.1.1;revert this;decide) _ _) (by decide)
theorem EG:bT JX=52:=kz (by decide) (uc rfl rfl) trivial (pM rfl rfl) (wu (ED rfl rfl rfl) (fun h=>h.1 rfl) _) (by decide)
theorem ud:bT jk=54:=t6 (by decide) fun h=>(h.1 _ (List.mem_singleton.2 rfl)).2.1 rfl
theorem Cz:bT ua=54:=t6 (by decide) fun h=>h.2.2.2 rfl
theorem EH:bT ww=51:=t7 (by decide) (uc rfl rfl) fun h=>by have:=(h.1.2.2.2.2.2.1 (by decide)).1;revert this;decide
theorem Il:GoodL [⟨1,97,122,0,0⟩]:=nG (by decide) (by decide) (by decide) (by decide)
theorem wy:bT iP=51:=t7 (by decide) (uc rfl rfl) fun h=>by
 obtain ⟨-,hw⟩:=(h.1.2.2.2.2.2.2 rfl).2.1 rfl
 have e0:([⟨1,97,122,0,0⟩]:List Nd)[0]? =some ⟨1,97,122,0,0⟩:=rfl
 obtain ⟨ns,ht⟩:=fN Il
 unfold LgL at hw
 have hw:Lg (bz [⟨1,97,122,0,0⟩]).pat (bs ⟨#[43]⟩):=hw
 generalize bz [⟨1,97,122,0,0⟩]=t at ht hw
 have ht:cu [⟨1,97,122,0,0⟩] 0 t ns:=ht
 cases ht with
 |emp hx hk=>rw [e0] at hx;cases hx;cases hk
 |seq hx hk=>rw [e0] at hx;cases hx;cases hk
 |alt hx hk=>rw [e0] at hx;cases hx;cases hk
 |rep hx hk=>rw [e0] at hx;cases hx;cases hk
 | @rng _ lo hi x hx hk hlo hhi _ _=>
  rw [e0] at hx
  cases hx
  obtain ⟨b,hb,h1,h2⟩:=hw
  have hb:[43]=[b]:=hb
  have:(97:Int)=lo:=hlo
  cases hb
  omega
theorem Ab {g:Gr} (hc:g.conds=[]) (ht:g.toks=ub):cN g.conds.length [] g.toks:=by
 rw [ht]
 refine pT _ _ ⟨gb (by decide) (by decide),gb (by decide) (by decide),trivial⟩ fun t ht=> ?_
 rw [hc]
 rcases List.mem_cons.1 ht with rfl|ht
 ·exact kA 0 (by decide)
 ·rw [List.mem_singleton.1 ht];exact kA 0 (by decide)
theorem Ac {g:Gr} {p:Pr} (h1:g.nons=[⟨#[83]⟩]) (ht:g.toks=ub) (h2:p.left=0) (h3:p.right=[⟨true,0⟩,⟨false,0⟩,⟨true,1⟩]):cz g p:=by
 unfold cz iv
 rw [h1,h2,h3,ht]
 refine ⟨⟨by decide,fun _=>by decide,fun h=>(by cases h)⟩,fun s hs=> ?_⟩
 rcases List.mem_cons.1 hs with rfl|hs
 ·exact ⟨by decide,fun h=>(by cases h),fun _=>⟨_,rfl,rfl⟩⟩
 rcases List.mem_cons.1 hs with rfl|hs
 ·exact ⟨by decide,fun _=>by decide,fun h=>(by cases h)⟩
 rcases List.mem_cons.1 hs with rfl|hs
 ·exact ⟨by decide,fun h=>(by cases h),fun _=>⟨_,rfl,rfl⟩⟩
 cases hs
theorem wz:bT pK=0:=eV.2 ⟨by decide,uc rfl rfl,Ab rfl rfl,pM rfl rfl,lW (Ac rfl rfl rfl rfl) (JY (by decide) rfl rfl (by decide) (by decide)),trivial,fun x hx=>(by cases hx)⟩
theorem EI:bT EC=52:=kz (by decide) (uc rfl rfl) (Ab rfl rfl) (pM rfl rfl) (wu (Ac rfl rfl rfl rfl) (fun h=>by have:=(h.2.2.2.2.2.2.2.2 rfl).2.1;revert this;decide) _) (by decide)
theorem CA:bT lX=53:=Aa (by decide) (uc rfl rfl) trivial (pM rfl rfl) (pN rfl rfl rfl) fun h=>h.2.1.2.2.2.2.2 0 (by decide) (by decide)
theorem yc {l:List Int} {n:Nat} (hn:n<=6) {m v k:Nat} (h:v+(m+1)=n) (c:Cf):(eP l (m+1) v k).ev c=((c v && (eP l m (v+1) (k+2 ^ v)).ev c) || ((eP l m (v+1) k).ev c && (!c v))):=by
 have hv:Sx n (tv v):=Sx.tv (by omega) hn
 have h1:=jY l hn m (v+1) (k+2 ^ v) (by omega)
 have h2:=jY l hn m (v+1) k (by omega)
 have hx:=hv.ap2 (o:=i9) (Sx.leaf n true)
 have e1:(tv v).ev c=c v:=by
  show (if c v=true then (leaf true).ev c else (leaf false).ev c)=c v
  cases c v<;>rfl
 have et:eP l (m+1) v k=ap2 oOr (ap2 i8 (tv v) (eP l m (v+1) (k+2 ^ v))) (ap2 i8 (eP l m (v+1) k) (ap2 i9 (tv v) (leaf true))):=rfl
 rw [et,(gC (hv.ap2 (o:=i8) h1).1 (h2.ap2 (o:=i8) hx).1).2,(gC hv.1 h1.1).2,(gC h2.1 hx.1).2,(gC hv.1 (Sx.leaf n true).1).2,e1]
 cases c v<;>cases (eP l m (v+1) (k+2 ^ v)).ev c<;>cases (eP l m (v+1) k).ev c<;>rfl
noncomputable def CB:Tr:=eP [14] 2 0 0
theorem EJ (c:Cf):CB.ev c=(c 0 || c 1):=by
 unfold CB
 rw [yc (n:=2) (by decide) rfl,yc (n:=2) (by decide) rfl,yc (n:=2) (by decide) rfl]
 have b0:qv [14] 0=false:=by decide
 have b1:qv [14] 1=true:=by decide
 have b2:qv [14] 2=true:=by decide
 have b3:qv [14] 3=true:=by decide
 show (c 0 && (c 1 && qv [14] 3 || qv [14] 1 && !c 1) || (c 1 && qv [14] 2 || qv [14] 0 && !c 1) && !c 0)=_
 rw [b0,b1,b2,b3]
 cases c 0<;>cases c 1<;>rfl
noncomputable def ue:Gr:={aU with conds:=[⟨#[65]⟩,⟨#[66]⟩],fam:=dia CB}
theorem EL:Sx 2 CB:=jY _ (by decide) 2 0 0 rfl
theorem EM:OkG ue:=by
 obtain ⟨o1,o2,_⟩:=ET (n:=2) (by decide)
 refine ⟨by decide,⟨o1,o2,EL.fit (by decide),fun e=> ?_⟩,trivial,pM rfl rfl,?_,trivial,fun x hx=>(by cases hx)⟩
 ·have:=wG e
  have h1:=EJ (fun _=>true)
  rw [this] at h1
  cases h1
 ·exact lW (ED rfl rfl rfl) ⟨by decide,by simp,kA 2 (by decide),by decide,by decide,by decide⟩
theorem wA:mY ue=[1,2,3]:=by
 unfold mY
 have e:tre ue.fam=CB:=nO EL.1
 rw [e]
 simp only [EJ]
 decide
theorem uf:dD ue 2=([1,2],false):=by
 unfold dD
 rw [if_neg (by rw [eV.2 EM];decide),wA]
 rfl
theorem ug:dD ue 3=([1,2,3],true):=by
 unfold dD
 rw [if_neg (by rw [eV.2 EM];decide),wA]
 rfl
theorem eX {g:Gr} (h1:∀s∈g.conds,s.size<=1000000000) (h2:∀t∈g.toks,t.smp.size<=100000) (h3:∀l∈g.lvs,l.ps.length<=1000000000) (h4:g.fils=[]):Sz g:=⟨h1,h2,h3,fun f hf=>by rw [h4] at hf;cases hf⟩
def yd:List Nat:=[0,0,1,0,1,1,83,1,1,115,0,0,0,1,0,1,0,0,0,0,0,0,0,0,0]
theorem sB:eGr aU=yd:=by decide+kernel
theorem EN:NN aU:=by
 refine ⟨⟨fun b hb=>(by cases hb),by decide⟩,fun t ht=>(by cases ht),fun p hp=> ?_,by decide,fun l hl=>(by cases hl),fun f hf=>(by cases hf)⟩
 rw [List.mem_singleton.1 hp]
 exact ⟨by decide,fun s hs=>(by cases hs),⟨fun b hb=>(by cases hb),by decide⟩,by decide,by decide,fun x hx=>(by cases hx),by decide,by decide,by decide,by decide⟩
theorem EO:Sm aU:=by
 refine ⟨by decide,by decide,by decide,by decide,by decide,by decide,by decide,fun x hx=>(by cases hx),fun x hx=> ?_,fun x hx=>(by cases hx),fun x hx=>(by cases hx)⟩
 rw [List.mem_singleton.1 hx]
 exact ⟨by decide,by decide,by decide⟩
end Go.Proofs.YtenpmjhnhepfdaaGreatDoor
