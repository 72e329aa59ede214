/-
  What functions of the program do, in a clean form, each with the proof that its code does so. Printed by a program.
-/
import Derived.Test.YtenpmjhnhepfdaaGreatDoorIt
import Derived.Test.YtenpmjhnhepfdaaGreatDoorPhp
import Derived.Test.YtenpmjhnhepfdaaGreatDoorPhz
namespace Go.Proofs.YtenpmjhnhepfdaaGreatDoor
open Go Go.Proofs.Tryz Tr
set_option maxRecDepth 10000
instance decSy (q:Option Sy):Decidable (∃s,q=some s∧s.t=true):=
 match q with
 |none=>isFalse fun ⟨_,h,_⟩=>by cases h
 |some s=>if h:s.t=true then isTrue ⟨s,rfl,h⟩ else isFalse fun ⟨_,h1,h2⟩=>by cases h1;exact h h2
instance decEntry (r:List Sy) (k v lo hi:Int):Decidable (dz r k v lo hi):=by unfold dz;infer_instance
instance decLay (r:List Sy) (x:Cn):Decidable (uH r x):=by unfold uH;infer_instance
instance decBrk (p:Pr):Decidable (uI p):=by unfold uI;infer_instance
instance decDet (p:Pr):Decidable (iX p):=by unfold iX;infer_instance
def Gw (nn:Nat) (p:Pr):Prop:=(0≤p.left∧p.left<nn)∧p.right.length≤5∧(∀s∈p.right,0≤s.i∧(s.t=true→s.i<9)∧(s.t=false→s.i<nn))∧(-1≤p.rank∧p.rank≤1)∧p.lay.length≤2∧iX p∧(p.name≠emp∧p.name.size≤13)
instance decPri (nn:Nat) (p:Pr):Decidable (Gw nn p):=by unfold Gw;infer_instance
theorem aX {n nn:Nat} {p:Pr} (h:Gw nn p) (hc:SxD n p.cond):PrI n nn p:=by
 obtain ⟨h1,h2,h3,h4,h5,h6,h7⟩:=h
 exact ⟨hc,h1,h2,h3,h4,h5,h6,h7⟩
theorem eA {n v:Nat} (hv:v<n) (hn:n≤6):SxD n (dia (tv v)):=⟨_,Sx.tv hv hn,rfl⟩
theorem lL {n v:Nat} (hv:v<n) (hn:n≤6):SxD n (cG v):=⟨_,(Sx.tv hv hn).ap2 (Sx.leaf n true),rfl⟩
def Cv (s:ByteArray):Prop:=s.size≠2∨s.data[0]?≠some 112
instance (s:ByteArray):Decidable (Cv s):=by unfold Cv;infer_instance
theorem Cw {s:ByteArray} (h:Cv s) (k:Nat):s≠be k:=by
 intro e
 rcases h with h|h
 ·exact h (by rw [e];rfl)
 ·exact h (by rw [e];rfl)
theorem mQ {g:Gr} {n:Nat} (hn:n≤3) (hc:g.conds=abc.take n) (hf:g.fam=aF) (ht:g.toks=dS) (hs:g.start=0) (h1:bh g.nons) (h2:∀s∈g.nons,s.size≤10) (h3:(g.prods.map Pr.name).Nodup) (h4:∀s∈g.prods.map Pr.name,Cv s)
  (h5:∀p∈g.prods,PrI g.conds.length g.nons.length p) (h6:dt g [] g.lvs∧∀l∈g.lvs,SxD g.conds.length l.cond) (h7:∀x∈g.fils,bB g x∧SxD g.conds.length x.cond∧x.toks.length≤2):MG g:=by
 have e:dS.map pL=dS:=rfl
 refine ⟨⟨n,hn,hc⟩,⟨_,Sx.leaf _ true,by simp,hf⟩,⟨h1,h2⟩,hs,⟨by rw [ht];exact e,fun t htm=> ?_⟩,⟨h3,fun p hp k _ _=>Cw (h4 _ (List.mem_map_of_mem hp)) k⟩,h5,h6,h7⟩
 rw [ht,← e] at htm
 obtain ⟨u,_,rfl⟩:=List.mem_map.1 htm
 exact aP _
theorem Cx {g:Gr} (ht:g.toks=dS) (i:Nat) {kd:Tk→Bool} {t:Tk} (h:dS[i]? =some t) (hk:kd t=true):0≤(i:Int)∧∃t,g.toks[(i:Int).toNat]? =some t∧kd t=true:=⟨by omega,t,by rw [ht,Int.toNat_natCast];exact h,hk⟩
theorem Ik {g:Gr} {kd:Tk→Bool} {i:Int} (h:0≤i∧∃t,g.toks[i.toNat]? =some t∧kd t=true):eF g kd [i]:=by
 refine ⟨by simp,fun n hn=>by rw [List.mem_singleton.1 hn];exact h,fun j x y _ hy=> ?_⟩
 simp at hy
theorem MF {g:Gr} {kd:Tk→Bool} {i j:Int} (h:0≤i∧∃t,g.toks[i.toNat]? =some t∧kd t=true) (h':0≤j∧∃t,g.toks[j.toNat]? =some t∧kd t=true) (hij:i<j):eF g kd [i,j]:=by
 refine ⟨by simp,fun n hn=> ?_,fun k x y hx hy=> ?_⟩
 ·rcases List.mem_cons.1 hn with rfl|hn
  ·exact h
  ·rw [List.mem_singleton.1 hn];exact h'
 ·match k with
  |0=>
   simp at hx hy
   subst hx hy
   exact hij
  |k+1=>simp at hy
theorem mR:MG cO:=by
 refine mQ (n:=2) (by decide) rfl rfl rfl rfl (by unfold bh;decide) (by decide) (by decide) (by decide) (fun p hp=> ?_) ⟨?_,?_⟩ ?_
 ·rcases List.mem_cons.1 hp with rfl|hp
  ·exact aX (by decide) (aP _)
  rcases List.mem_cons.1 hp with rfl|hp
  ·exact aX (by decide) (aP _)
  rcases List.mem_cons.1 hp with rfl|hp
  ·exact aX (by decide) (aP _)
  rcases List.mem_cons.1 hp with rfl|hp
  ·exact aX (by decide) (aP _)
  rcases List.mem_cons.1 hp with rfl|hp
  ·exact aX (by decide) (eA (by decide) (by decide))
  cases hp
 ·refine ⟨⟨by decide,by decide,(aP 2).fit (by decide),by decide,by decide,by decide⟩,⟨by decide,by decide,(aP 2).fit (by decide),by decide,by decide,by decide⟩,⟨by decide,by decide,(lL (n:=2) (v:=0) (by decide) (by decide)).fit (by decide),by decide,by decide,by decide⟩,trivial⟩
 ·intro l hl
  rcases List.mem_cons.1 hl with rfl|hl
  ·exact aP _
  rcases List.mem_cons.1 hl with rfl|hl
  ·exact aP _
  rcases List.mem_cons.1 hl with rfl|hl
  ·exact lL (by decide) (by decide)
  cases hl
 ·intro x hx
  cases hx
theorem pn:MG cf:=by
 refine mQ (n:=2) (by decide) rfl rfl rfl rfl (by unfold bh;decide) (by decide) (by decide) (by decide) (fun p hp=> ?_) ⟨?_,?_⟩ ?_
 ·rcases List.mem_cons.1 hp with rfl|hp
  ·exact aX (by decide) (aP _)
  rcases List.mem_cons.1 hp with rfl|hp
  ·exact aX (by decide) (aP _)
  rcases List.mem_cons.1 hp with rfl|hp
  ·exact aX (by decide) (aP _)
  rcases List.mem_cons.1 hp with rfl|hp
  ·exact aX (by decide) (aP _)
  rcases List.mem_cons.1 hp with rfl|hp
  ·exact aX (by decide) (aP _)
  cases hp
 ·trivial
 ·intro l hl
  cases hl
 ·intro x hx
  rcases List.mem_cons.1 hx with rfl|hx
  ·exact ⟨⟨(eA (n:=2) (v:=0) (by decide) (by decide)).fit (by decide),.inl ⟨.inr rfl,⟨by decide,by decide,by decide,_,_,rfl,rfl,rfl⟩,rfl,rfl,rfl⟩⟩,eA (by decide) (by decide),by decide⟩
  rcases List.mem_cons.1 hx with rfl|hx
  ·exact ⟨⟨(eA (n:=2) (v:=1) (by decide) (by decide)).fit (by decide),.inr (.inr ⟨rfl,⟨MF (Cx rfl 5 rfl (by decide)) (Cx rfl 6 rfl (by decide)) (by decide),by decide,_,rfl,rfl,rfl⟩,rfl,rfl,rfl,rfl⟩)⟩,eA (by decide) (by decide),by decide⟩
  cases hx
theorem lu:MG dP:=by
 refine mQ (n:=2) (by decide) rfl rfl rfl rfl (by unfold bh;decide) (by decide) (by decide) (by decide) (fun p hp=> ?_) ⟨?_,?_⟩ ?_
 ·rcases List.mem_cons.1 hp with rfl|hp
  ·exact aX (by decide) (aP _)
  rcases List.mem_cons.1 hp with rfl|hp
  ·exact aX (by decide) (aP _)
  rcases List.mem_cons.1 hp with rfl|hp
  ·exact aX (by decide) (aP _)
  rcases List.mem_cons.1 hp with rfl|hp
  ·exact aX (by decide) (aP _)
  rcases List.mem_cons.1 hp with rfl|hp
  ·exact aX (by decide) (aP _)
  rcases List.mem_cons.1 hp with rfl|hp
  ·exact aX (by decide) (aP _)
  rcases List.mem_cons.1 hp with rfl|hp
  ·exact aX (by decide) (eA (by decide) (by decide))
  cases hp
 ·trivial
 ·intro l hl
  cases hl
 ·intro x hx
  cases hx
theorem yb:MG lN:=by
 refine mQ (n:=2) (by decide) rfl rfl rfl rfl (by unfold bh;decide) (by decide) (by decide) (by decide) (fun p hp=> ?_) ⟨?_,?_⟩ ?_
 ·rcases List.mem_cons.1 hp with rfl|hp
  ·exact aX (by decide) (aP _)
  rcases List.mem_cons.1 hp with rfl|hp
  ·exact aX (by decide) (aP _)
  rcases List.mem_cons.1 hp with rfl|hp
  ·exact aX (by decide) (aP _)
  rcases List.mem_cons.1 hp with rfl|hp
  ·exact aX (by decide) (aP _)
  rcases List.mem_cons.1 hp with rfl|hp
  ·exact aX (by decide) (eA (by decide) (by decide))
  cases hp
 ·trivial
 ·intro l hl
  cases hl
 ·intro x hx
  cases hx
theorem uo:MG jo:=by
 refine mQ (n:=2) (by decide) rfl rfl rfl rfl (by unfold bh;decide) (by decide) (by decide) (by decide) (fun p hp=> ?_) ⟨?_,?_⟩ ?_
 ·rcases List.mem_cons.1 hp with rfl|hp
  ·exact aX (by decide) (aP _)
  rcases List.mem_cons.1 hp with rfl|hp
  ·exact aX (by decide) (aP _)
  rcases List.mem_cons.1 hp with rfl|hp
  ·exact aX (by decide) (aP _)
  rcases List.mem_cons.1 hp with rfl|hp
  ·exact aX (by decide) (aP _)
  rcases List.mem_cons.1 hp with rfl|hp
  ·exact aX (by decide) (aP _)
  rcases List.mem_cons.1 hp with rfl|hp
  ·exact aX (by decide) (eA (by decide) (by decide))
  cases hp
 ·trivial
 ·intro l hl
  cases hl
 ·intro x hx
  rcases List.mem_cons.1 hx with rfl|hx
  ·exact ⟨⟨(eA (n:=2) (v:=0) (by decide) (by decide)).fit (by decide),.inr (.inl ⟨.inl rfl,⟨by decide,by decide,Ik (Cx rfl 0 rfl (by decide))⟩,rfl,rfl,rfl,rfl⟩)⟩,eA (by decide) (by decide),by decide⟩
  rcases List.mem_cons.1 hx with rfl|hx
  ·exact ⟨⟨(lL (n:=2) (v:=1) (by decide) (by decide)).fit (by decide),.inr (.inl ⟨.inr rfl,⟨by decide,by decide,Ik (Cx rfl 1 rfl (by decide))⟩,rfl,rfl,rfl,rfl⟩)⟩,lL (by decide) (by decide),by decide⟩
  cases hx
theorem uq:MG jp:=by
 refine mQ (n:=2) (by decide) rfl rfl rfl rfl (by unfold bh;decide) (by decide) (by decide) (by decide) (fun p hp=> ?_) ⟨?_,?_⟩ ?_
 ·rcases List.mem_cons.1 hp with rfl|hp
  ·exact aX (by decide) (aP _)
  rcases List.mem_cons.1 hp with rfl|hp
  ·exact aX (by decide) (aP _)
  rcases List.mem_cons.1 hp with rfl|hp
  ·exact aX (by decide) (aP _)
  rcases List.mem_cons.1 hp with rfl|hp
  ·exact aX (by decide) (aP _)
  rcases List.mem_cons.1 hp with rfl|hp
  ·exact aX (by decide) (eA (by decide) (by decide))
  cases hp
 ·trivial
 ·intro l hl
  cases hl
 ·intro x hx
  cases hx
theorem zt {k:Nat} (hk:k<6):MG (bP k):=by
 have h:k=0∨k=1∨k=2∨k=3∨k=4∨k=5:=by omega
 rcases h with rfl|rfl|rfl|rfl|rfl|rfl
 ·exact mR
 ·exact pn
 ·exact lu
 ·exact yb
 ·exact uo
 ·exact uq
theorem zv (x:Rw):MG (fH x):=by
 unfold fH
 split
 ·rename_i h
  exact zt (of_decide_eq_true h)
 ·have hn:(d3 x).length≠0:=by unfold d3;rw [List.length_take];simp
  refine mQ (n:=x.n % 4) (by omega) rfl rfl rfl rfl ?_ (fun s hs=> ?_) (by show ([⟨#[102,105,114,115,116]⟩]:List ByteArray).Nodup;simp) (fun s hs=>by rw [List.mem_singleton.1 (show s∈([⟨#[102,105,114,115,116]⟩]:List ByteArray) from hs)];decide) (fun p hp=> ?_) ⟨trivial,fun l hl=>(by cases hl)⟩ fun x hx=>by cases hx
  ·have h:x.n / 4 % 3=0∨x.n / 4 % 3=1∨x.n / 4 % 3=2:=by omega
   show bh (d3 x)
   unfold d3
   rcases h with h|h|h<;>rw [h]<;>(unfold bh;decide)
  ·have:∀s∈([⟨#[83]⟩,⟨#[80]⟩,⟨#[81]⟩]:List ByteArray),s.size≤10:=by decide
   exact this s (List.mem_of_mem_take hs)
  ·rw [List.mem_singleton.1 hp]
   refine aX ⟨⟨by decide,?_⟩,by decide,?_,by decide,by decide,by decide,by decide⟩ (aP _)
   ·show (0:Int)<(d3 x).length
    omega
   ·intro s hs
    rw [List.mem_singleton.1 hs]
    exact ⟨by decide,fun _=>by decide,fun h=>(by cases h)⟩
theorem Cy (x:Rw):MG (kQ x)∧Bd (kQ x) 18 10:=by
 have hm:cu x≤10:=by unfold cu;split<;>decide
 have b1:=zU (x:=x) (mX x)
 have m1:=(zv x).famG (mX x) x
 have b2:=mY (x:=x) (x.lines.take (cu x)) b1
 have hl:(x.lines.take (cu x)).length≤10:=by rw [List.length_take];omega
 have hr:(x.rules.take 6).length≤6:=by rw [List.length_take];omega
 have m2:=MG.lines (x:=x) (x.lines.take (cu x)) m1 b1 (by omega)
 have b3:=mZ (x.rules.take 6) b2
 have m3:=MG.rules (x.rules.take 6) m2 b2
 refine ⟨m3,?_⟩
 obtain ⟨c1,c2,c3,c4,c5,c6,c7,c8,c9⟩:=b3
 exact ⟨c1,c2,c3,c4,by unfold kQ;omega,c6,by unfold kQ;omega,c8,by unfold kQ;omega⟩
theorem v9 {g:Gr} (h1:bJ g=false) (h2:¬d5 g):bC g=54:=by
 unfold bC;rw [if_neg (by rw [h1];decide),if_pos h2]
theorem wa {g:Gr} (h1:bJ g=false) (h2:d5 g) (h3:¬dr g.conds.length [] g.toks):bC g=51:=by
 unfold bC;rw [if_neg (by rw [h1];decide),if_neg (not_not_intro h2),if_pos h3]
theorem wb {g:Gr} (h1:bJ g=false) (h2:d5 g) (h3:dr g.conds.length [] g.toks) (h4:¬dC g):bC g=50:=by
 unfold bC;rw [if_neg (by rw [h1];decide),if_neg (not_not_intro h2),if_neg (not_not_intro h3),if_pos h4]
theorem je {g:Gr} {e:Int} (h1:bJ g=false) (h2:d5 g) (h3:dr g.conds.length [] g.toks) (h4:dC g) (h5:bU g [] g.prods=e) (h6:e≠0):bC g=e:=by
 unfold bC;rw [if_neg (by rw [h1];decide),if_neg (not_not_intro h2),if_neg (not_not_intro h3),if_neg (not_not_intro h4),if_pos (by rw [h5];exact h6),h5]
theorem wc {g:Gr} (h1:bJ g=false) (h2:d5 g) (h3:dr g.conds.length [] g.toks) (h4:dC g) (h5:bU g [] g.prods=0) (h6:¬dt g [] g.lvs):bC g=53:=by
 unfold bC;rw [if_neg (by rw [h1];decide),if_neg (not_not_intro h2),if_neg (not_not_intro h3),if_neg (not_not_intro h4),if_neg (by rw [h5];decide),if_pos h6]
theorem Cz {g:Gr} (h1:bJ g=false) (h2:d5 g) (h3:dr g.conds.length [] g.toks) (h4:dC g) (h5:bU g [] g.prods=0) (h6:dt g [] g.lvs) (h7:¬∀x∈g.fils,bB g x):bC g=53:=by
 unfold bC;rw [if_neg (by rw [h1];decide),if_neg (not_not_intro h2),if_neg (not_not_intro h3),if_neg (not_not_intro h4),if_neg (by rw [h5];decide),if_neg (not_not_intro h6),if_pos h7]
theorem pJ {g:Gr} {p:Pr} (h:¬dk g p) (l:List Pr) (done:List ByteArray):bU g done (p::l)=50:=by unfold bU;rw [if_pos h]
theorem sQ {g:Gr} {p:Pr} {done:List ByteArray} (h1:dk g p) (h:¬Aq g done p) (l:List Pr):bU g done (p::l)=52:=by unfold bU;rw [if_neg (not_not_intro h1),if_pos h]
theorem ko {g:Gr} {p:Pr} (h1:dk g p) (h:Aq g [] p):bU g [] [p]=0:=by unfold bU;rw [if_neg (not_not_intro h1),if_neg (not_not_intro h)];rfl
theorem jf (n:Nat) (hn:n≤6):fQ aF n:=(aP n).fit hn
def aR:Gr:=⟨[],aF,[],[⟨#[83]⟩],[aY ⟨#[115]⟩ 0 []],0,[],[]⟩
def qO:Gr:={aR with start:=1}
def DY:Gr:={aR with prods:=[aY ⟨#[115]⟩ (-1) []]}
def DZ:Gr:={aR with prods:=[aY ⟨#[]⟩ 0 []]}
def gX:Gr:={aR with conds:=[⟨#[116,114,117,101]⟩]}
def qP:Gr:={aR with fam:=dia (leaf false)}
def sR:Gr:={aR with toks:=[⟨⟨#[116]⟩,0,⟨#[43]⟩,[],⟨#[43]⟩,aF⟩]}
def gq:Gr:={aR with toks:=[⟨⟨#[116]⟩,0,⟨#[]⟩,[⟨1,97,122,0,0⟩],⟨#[43]⟩,aF⟩]}
def qQ:List Tk:=[tkL ⟨#[40]⟩,tkL ⟨#[41]⟩]
def sS:Pr:={aY ⟨#[115]⟩ 0 [⟨true,0⟩,⟨false,0⟩,⟨true,1⟩] with brk:=true}
def mS:Gr:={aR with toks:=qQ,prods:=[sS]}
def zw:Gr:={aR with toks:=qQ,prods:=[{sS with rank:=1}]}
def kp:Gr:={aR with lvs:=[⟨[0],0,aF⟩,⟨[0],0,aF⟩]}
theorem qR {g:Gr} (h1:g.conds=[]) (h2:g.fam=aF):d5 g:=by
 unfold d5 bh
 rw [h1,h2]
 exact ⟨fun s hs=>(by cases hs),⟨.nil,by simp⟩,jf 0 (by decide),by decide⟩
theorem mT {g:Gr} (h1:g.nons=[⟨#[83]⟩]) (h2:g.start=0):dC g:=by
 unfold dC bh
 rw [h1,h2]
 exact ⟨by decide,by decide,by decide⟩
theorem D0 {g:Gr} {p:Pr} (h1:p.name≠emp) (h2:p.cond=aF) (hc:g.conds=[]) (h3: -1≤p.rank∧p.rank≤1) (h4:iX p):Aq g [] p:=⟨h1,by simp,by rw [h2,hc];exact jf 0 (by decide),h3.1,h3.2,h4⟩
theorem zx {g:Gr} {p:Pr} (h1:g.nons=[⟨#[83]⟩]) (h2:p.left=0) (h3:p.right=[]):dk g p:=by
 unfold dk iF
 rw [h1,h2,h3]
 exact ⟨⟨by decide,fun _=>by decide,fun h=>(by cases h)⟩,fun s hs=>(by cases hs)⟩
theorem mU {g:Gr} (h1:g.nons=[⟨#[83]⟩]) (hc:g.conds=[]) (hp:g.prods=[aY ⟨#[115]⟩ 0 []]):bU g [] g.prods=0:=by
 rw [hp]
 exact ko (zx h1 rfl rfl) (D0 (by decide) rfl hc (by decide) (by decide))
theorem zy:OkG aR:=⟨by decide,qR rfl rfl,trivial,mT rfl rfl,mU rfl rfl rfl,trivial,fun x hx=>(by cases hx)⟩
theorem kq:bC aR=0:=ie.2 zy
theorem yc:bC qO=50:=wb (by decide) (qR rfl rfl) trivial fun h=>by have:=h.2.2;revert this;decide
theorem zA:bC DY=50:=je (by decide) (qR rfl rfl) trivial (mT rfl rfl) (pJ (fun h=>by have:=h.1.1;revert this;decide) _ _) (by decide)
theorem zB:bC DZ=52:=je (by decide) (qR rfl rfl) trivial (mT rfl rfl) (sQ (zx rfl rfl rfl) (fun h=>h.1 rfl) _) (by decide)
theorem qS:bC gX=54:=v9 (by decide) fun h=>(h.1 _ (List.mem_singleton.2 rfl)).2.1 rfl
theorem yd:bC qP=54:=v9 (by decide) fun h=>h.2.2.2 rfl
theorem zC:bC sR=51:=wa (by decide) (qR rfl rfl) fun h=>by have:=(h.1.2.2.2.2.2.1 (by decide)).1;revert this;decide
theorem CA:GoodL [⟨1,97,122,0,0⟩]:=lM (by decide) (by decide) (by decide) (by decide)
theorem sT:bC gq=51:=wa (by decide) (qR rfl rfl) fun h=>by
 obtain ⟨-,hw⟩:=(h.1.2.2.2.2.2.2 rfl).2.1 rfl
 have e0:([⟨1,97,122,0,0⟩]:List Nd)[0]? =some ⟨1,97,122,0,0⟩:=rfl
 obtain ⟨ns,ht⟩:=gb CA
 unfold LgL at hw
 have hw:Lg (bo [⟨1,97,122,0,0⟩]).pat (bs ⟨#[43]⟩):=hw
 generalize bo [⟨1,97,122,0,0⟩]=t at ht hw
 have ht:bZ [⟨1,97,122,0,0⟩] 0 t ns:=ht
 cases ht with
 |emp hx hk=>rw [e0] at hx;cases hx;cases hk
 |seq hx hk=>rw [e0] at hx;cases hx;cases hk
 |alt hx hk=>rw [e0] at hx;cases hx;cases hk
 |rep hx hk=>rw [e0] at hx;cases hx;cases hk
 | @rng _ lo hi x hx hk hlo hhi _ _=>
  rw [e0] at hx
  cases hx
  obtain ⟨b,hb,h1,h2⟩:=hw
  have hb:[43]=[b]:=hb
  have:(97:Int)=lo:=hlo
  cases hb
  omega
theorem we {g:Gr} (hc:g.conds=[]) (ht:g.toks=qQ):dr g.conds.length [] g.toks:=by
 rw [ht]
 refine mV _ _ ⟨eP (by decide) (by decide),eP (by decide) (by decide),trivial⟩ fun t ht=> ?_
 rw [hc]
 rcases List.mem_cons.1 ht with rfl|ht
 ·exact jf 0 (by decide)
 ·rw [List.mem_singleton.1 ht];exact jf 0 (by decide)
theorem wg {g:Gr} {p:Pr} (h1:g.nons=[⟨#[83]⟩]) (ht:g.toks=qQ) (h2:p.left=0) (h3:p.right=[⟨true,0⟩,⟨false,0⟩,⟨true,1⟩]):dk g p:=by
 unfold dk iF
 rw [h1,h2,h3,ht]
 refine ⟨⟨by decide,fun _=>by decide,fun h=>(by cases h)⟩,fun s hs=> ?_⟩
 rcases List.mem_cons.1 hs with rfl|hs
 ·exact ⟨by decide,fun h=>(by cases h),fun _=>⟨_,rfl,rfl⟩⟩
 rcases List.mem_cons.1 hs with rfl|hs
 ·exact ⟨by decide,fun _=>by decide,fun h=>(by cases h)⟩
 rcases List.mem_cons.1 hs with rfl|hs
 ·exact ⟨by decide,fun h=>(by cases h),fun _=>⟨_,rfl,rfl⟩⟩
 cases hs
theorem sU:bC mS=0:=ie.2 ⟨by decide,qR rfl rfl,we rfl rfl,mT rfl rfl,ko (wg rfl rfl rfl rfl) (D0 (by decide) rfl rfl (by decide) (by decide)),trivial,fun x hx=>(by cases hx)⟩
theorem zE:bC zw=52:=je (by decide) (qR rfl rfl) (we rfl rfl) (mT rfl rfl) (sQ (wg rfl rfl rfl rfl) (fun h=>by have:=(h.2.2.2.2.2.2.2.2 rfl).2.1;revert this;decide) _) (by decide)
theorem ye:bC kp=53:=wc (by decide) (qR rfl rfl) trivial (mT rfl rfl) (mU rfl rfl rfl) fun h=>h.2.1.2.2.2.2.2 0 (by decide) (by decide)
theorem ur {l:List Int} {n:Nat} (hn:n≤6) {m v k:Nat} (h:v+(m+1)=n) (c:Cf):(dO l (m+1) v k).ev c=((c v && (dO l m (v+1) (k+2 ^ v)).ev c) || ((dO l m (v+1) k).ev c && (!c v))):=by
 have hv:Sx n (tv v):=Sx.tv (by omega) hn
 have h1:=iT l hn m (v+1) (k+2 ^ v) (by omega)
 have h2:=iT l hn m (v+1) k (by omega)
 have hx:=hv.ap2 (o:=gV) (Sx.leaf n true)
 have e1:(tv v).ev c=c v:=by
  show (if c v=true then (leaf true).ev c else (leaf false).ev c)=c v
  cases c v<;>rfl
 have et:dO l (m+1) v k=ap2 oOr (ap2 gU (tv v) (dO l m (v+1) (k+2 ^ v))) (ap2 gU (dO l m (v+1) k) (ap2 gV (tv v) (leaf true))):=rfl
 rw [et,(fz (hv.ap2 (o:=gU) h1).1 (h2.ap2 (o:=gU) hx).1).2,(fz hv.1 h1.1).2,(fz h2.1 hx.1).2,(fz hv.1 (Sx.leaf n true).1).2,e1]
 cases c v<;>cases (dO l m (v+1) (k+2 ^ v)).ev c<;>cases (dO l m (v+1) k).ev c<;>rfl
noncomputable def yf:Tr:=dO [14] 2 0 0
theorem zH (c:Cf):yf.ev c=(c 0 || c 1):=by
 unfold yf
 rw [ur (n:=2) (by decide) rfl,ur (n:=2) (by decide) rfl,ur (n:=2) (by decide) rfl]
 have b0:oA [14] 0=false:=by decide
 have b1:oA [14] 1=true:=by decide
 have b2:oA [14] 2=true:=by decide
 have b3:oA [14] 3=true:=by decide
 show (c 0 && (c 1 && oA [14] 3 || oA [14] 1 && !c 1) || (c 1 && oA [14] 2 || oA [14] 0 && !c 1) && !c 0)=_
 rw [b0,b1,b2,b3]
 cases c 0<;>cases c 1<;>rfl
noncomputable def qT:Gr:={aR with conds:=[⟨#[65]⟩,⟨#[66]⟩],fam:=dia yf}
theorem zI:Sx 2 yf:=iT _ (by decide) 2 0 0 rfl
theorem zJ:OkG qT:=by
 obtain ⟨o1,o2,_⟩:=zQ (n:=2) (by decide)
 refine ⟨by decide,⟨o1,o2,zI.fit (by decide),fun e=> ?_⟩,trivial,mT rfl rfl,?_,trivial,fun x hx=>(by cases hx)⟩
 ·have:=ta e
  have h1:=zH (fun _=>true)
  rw [this] at h1
  cases h1
 ·exact ko (zx rfl rfl rfl) ⟨by decide,by simp,jf 2 (by decide),by decide,by decide,by decide⟩
theorem sV:yK qT=[1,2,3]:=by
 unfold yK
 have e:tre qT.fam=yf:=rV zI.1
 rw [e]
 simp only [zH]
 decide
theorem qU:gh qT 2=([1,2],false):=by
 unfold gh
 rw [if_neg (by rw [ie.2 zJ];decide),sV]
 rfl
theorem qV:gh qT 3=([1,2,3],true):=by
 unfold gh
 rw [if_neg (by rw [ie.2 zJ];decide),sV]
 rfl
theorem dR {g:Gr} (h1:∀s∈g.conds,s.size≤1000000000) (h2:∀t∈g.toks,t.smp.size≤100000) (h3:∀l∈g.lvs,l.ps.length≤1000000000) (h4:g.fils=[]):Sz g:=⟨h1,h2,h3,fun f hf=>by rw [h4] at hf;cases hf⟩
def ut:List Nat:=[0,0,1,0,1,1,83,1,1,115,0,0,0,1,0,1,0,0,0,0,0,0,0,0,0]
theorem pK:eGr aR=ut:=by decide+kernel
theorem zK:NN aR:=by
 refine ⟨⟨fun b hb=>(by cases hb),by decide⟩,fun t ht=>(by cases ht),fun p hp=> ?_,by decide,fun l hl=>(by cases hl),fun f hf=>(by cases hf)⟩
 rw [List.mem_singleton.1 hp]
 exact ⟨by decide,fun s hs=>(by cases hs),⟨fun b hb=>(by cases hb),by decide⟩,by decide,by decide,fun x hx=>(by cases hx),by decide,by decide,by decide,by decide⟩
theorem zM:Sm aR:=by
 refine ⟨by decide,by decide,by decide,by decide,by decide,by decide,by decide,fun x hx=>(by cases hx),fun x hx=> ?_,fun x hx=>(by cases hx),fun x hx=>(by cases hx)⟩
 rw [List.mem_singleton.1 hx]
 exact ⟨by decide,by decide,by decide⟩
variable {R:VR} {F:PH}
set_option maxRecDepth 10000
set_option maxHeartbeats 4000000
def gg (v_17:Bool) (b8:Nat) (want_10:Int) (R:VR) (F:PH):Prop:=
 Lr F 9 (Am b8 0) fun v_108=>
 ae prog 21 #[(.agg v_108),(.int .u64 0)] F fun v F=>∃v_109,∃v_109_1,v=(.tuple #[(.agg v_109),(.int .i64 v_109_1)])∧
 Nb F (.cells zG 39) fun b11 F=>
 az F (Am b11 0) 9 v_109 fun F=>
 Lr F 9 (Am b8 0) fun v_113=>
 ae prog 14 #[(.agg v_113)] F fun v F=>∃v_114,∃v_114_1,v=(.tuple #[(Sl.v v_114),(.int .i64 v_114_1)])∧
 Lr F 9 (Am b8 0) fun v_118=>
 ae prog 23 #[(.agg v_118),(.int .i64 5)] F fun v F=>∃v_119,∃v_119_1,v=(.tuple #[(Sl.v v_119),(.bool v_119_1)])∧
 Lr F 9 (Am b8 0) fun v_122=>
 Ci 20 #[(.agg v_122)] F fun v_123 F=>
 (Bc (v_123=want_10) (
  (Bc (v_109_1=want_10) (
   (Bc (v_114_1=want_10) (
    (Bc ((v_119.len:Int)=0) (
     (Bb ((!v_119_1)) (
      Lr F 9 (Am b8 0) fun v_146=>
      Cbo 25 #[(.agg v_146),(.int .u64 0)] F fun v_147 F=>
      (Bb ((!v_147)) (
       R (.bool v_17) F) (
       R (.bool false) F))) (
      R (.bool false) F))) (
     R (.bool false) F))) (
    R (.bool false) F))) (
   R (.bool false) F))) (
  R (.bool false) F))
def sW (how_1:Int) (v_17:Bool) (b8:Nat) (by_2_1:Int) (R:VR) (F:PH):Prop:=
 Nb F (.cells #[] 67) fun b28 F=>
 Ls F (Am b8 5) fun v_30=>
 Ap 35 #[(Sl.v (Sb b28 0)),(Sl.v v_30)] F fun v_31 F=>
 sto F (Am b8 5) (Sl.v v_31) fun F=>
 Ls F (Am b8 5) fun v_37=>
 (v_37.len:Int)≠0∧(Bc ((Int.tmod how_1 8)=0) (
  sto F (Am b8 6) (.int .i64 by_2_1) fun F=>
  gg v_17 b8 50 R F) (
  (Bc ((Int.tmod how_1 8)=1) (
   Ls F (Am b8 5) fun v_56=>
   Ix v_56 ((Int.tmod (IntKind.i64.wrap (IntKind.u8.wrap (Int.tdiv how_1 8))) (v_37.len:Int))) fun a59_=>
   sto F (Addr.add (Addr.add a59_ (Int.toNat (Int.tmod (IntKind.i64.wrap (IntKind.u8.wrap (Int.tdiv how_1 8))) (v_37.len:Int))*13)) 1) (.int .i64 by_2_1) fun F=>
   gg v_17 b8 50 R F) (
   (Bc ((Int.tmod how_1 8)=2) (
    Ls F (Am b8 5) fun v_64=>
    (#[(.bool true),(.int .i64 by_2_1)]:Array Value).size=2∧Nb F (.cells (#[(.bool true),(.int .i64 by_2_1)]:Array Value) 69) fun b68 F=>
    Ix v_64 ((Int.tmod (IntKind.i64.wrap (IntKind.u8.wrap (Int.tdiv how_1 8))) (v_37.len:Int))) fun a69_=>
    sto F (Addr.add (Addr.add a69_ (Int.toNat (Int.tmod (IntKind.i64.wrap (IntKind.u8.wrap (Int.tdiv how_1 8))) (v_37.len:Int))*13)) 2) (Sl.v (Sb b68 1)) fun F=>
    gg v_17 b8 50 R F) (
    (Bc ((Int.tmod how_1 8)=3) (
     Ls F (Am b8 5) fun v_74=>
     (#[.bool false,(.int .i64 by_2_1)]:Array Value).size=2∧Nb F (.cells (#[.bool false,(.int .i64 by_2_1)]:Array Value) 69) fun b78 F=>
     Ix v_74 ((Int.tmod (IntKind.i64.wrap (IntKind.u8.wrap (Int.tdiv how_1 8))) (v_37.len:Int))) fun a79_=>
     sto F (Addr.add (Addr.add a79_ (Int.toNat (Int.tmod (IntKind.i64.wrap (IntKind.u8.wrap (Int.tdiv how_1 8))) (v_37.len:Int))*13)) 2) (Sl.v (Sb b78 1)) fun F=>
     gg v_17 b8 50 R F) (
     (Bc ((Int.tmod how_1 8)=4) (
      Nb F (.cells #[(.int .i64 by_2_1)] 3) fun b84 F=>
      Lr F 2 (Am b8 1) fun v_86=>
      v_86.size=2∧(wr (Array.setIfInBounds zL 0 (Sl.v (Sb b84 1))) 2 v_86.toList).size=4∧Nb F (.cells (wr (Array.setIfInBounds zL 0 (Sl.v (Sb b84 1))) 2 v_86.toList) 72) fun b88 F=>
      sto F (Am b8 7) (Sl.v (Sb b88 1)) fun F=>
      gg v_17 b8 53 R F) (
      (Bc ((Int.tmod how_1 8)=5) (
       Lr F 2 (Am b8 1) fun v_94=>
       v_94.size=2∧(wr (Array.setIfInBounds (Array.setIfInBounds zF 0 (.int .i64 1)) 1 (.int .i64 by_2_1)) 7 v_94.toList).size=9∧Nb F (.cells (wr (Array.setIfInBounds (Array.setIfInBounds zF 0 (.int .i64 1)) 1 (.int .i64 by_2_1)) 7 v_94.toList) 74) fun b96 F=>
       sto F (Am b8 8) (Sl.v (Sb b96 1)) fun F=>
       gg v_17 b8 53 R F) (
       (Bc ((Int.tmod how_1 8)=6) (
        Nb F (.cells #[(.int .i64 0)] 3) fun b101 F=>
        Lr F 2 (Am b8 1) fun v_103=>
        v_103.size=2∧(wr (Array.setIfInBounds (Array.setIfInBounds (Array.setIfInBounds zF 0 (.int .i64 3)) 4 (.int .i64 by_2_1)) 6 (Sl.v (Sb b101 1))) 7 v_103.toList).size=9∧Nb F (.cells (wr (Array.setIfInBounds (Array.setIfInBounds (Array.setIfInBounds zF 0 (.int .i64 3)) 4 (.int .i64 by_2_1)) 6 (Sl.v (Sb b101 1))) 7 v_103.toList) 74) fun b105 F=>
        sto F (Am b8 8) (Sl.v (Sb b105 1)) fun F=>
        gg v_17 b8 53 R F) (
        Nb F (.cells #[(.int .i64 5)] 3) fun b43 F=>
        Lr F 2 (Am b8 1) fun v_45=>
        v_45.size=2∧(wr (Array.setIfInBounds (Array.setIfInBounds (Array.setIfInBounds zF 0 (.int .i64 5)) 5 (.int .i64 by_2_1)) 6 (Sl.v (Sb b43 1))) 7 v_45.toList).size=9∧Nb F (.cells (wr (Array.setIfInBounds (Array.setIfInBounds (Array.setIfInBounds zF 0 (.int .i64 5)) 5 (.int .i64 by_2_1)) 6 (Sl.v (Sb b43 1))) 7 v_45.toList) 74) fun b47 F=>
        sto F (Am b8 8) (Sl.v (Sb b47 1)) fun F=>
        gg v_17 b8 53 R F))))))))))))))
def wh (how_1 by_2:Int) (v_17:Bool) (b8:Nat) (v_25:Bool) (R:VR) (F:PH):Prop:=
 (Bb (v_25) (
  sW how_1 v_17 b8 (IntKind.i64.wrap (by_2+2000)) R F) (
  sW how_1 v_17 b8 by_2 R F))
def bQ7 (x_0:Array Value) (how_1 by_2:Int) (R:VR) (F:PH):Prop:=
 Nb F (.cells x_0 26) fun b3 F=>
 Cbo 11 #[] F fun v_17 F=>
 Lr F 5 (Am b3 0) fun v_18=>
 Ca 13 #[(.agg v_18)] F fun v_19 F=>
 Nb F (.cells zG 39) fun b8 F=>
 az F (Am b8 0) 9 v_19 fun F=>
 (Bc (0≤by_2) (
  wh how_1 by_2 v_17 b8 (decide (by_2<2000)) R F) (
  wh how_1 by_2 v_17 b8 false R F))
theorem cQ7 {x_0:Array Value} {how_1:Int} {by_2:Int} (h:bQ7 x_0 how_1 by_2 R F):ae prog 7 #[(.agg x_0),(.int .u8 how_1),(.int .i64 by_2)] F R:=Rx.sxC (args:=[(.agg x_0),(.int .u8 how_1),(.int .i64 by_2)]) (.T .N (.T .N (.T .N (.J false [(2,.int .i64)] (.J false [(25,.bool)] .N .N) (.T .N (.T .N (.T .N (.J false [(10,.int .i64)] .N .N)))))))) (by kernel_rfl) h
def eO (codes_8 more_14:Bool) (v_167:Sl) (v_167_1:Int) (lists_22:Bool) (R:VR) (F:PH):Prop:=
 (Bb (codes_8) (
  (Bb (more_14) (
   (Bb (lists_22) (
    (Bc (v_167_1=0) (
     ∃v_216,rdo prog (Conv.bytesToString (Sl.v v_167)) F (.string v_216)∧
     Cs 36 #[] F fun v_217 F=>
     rdo prog (Conv.bytesToString (Sl.v v_167)) F (.string v_216)∧∃v_218,rdo prog (Conv.bytesToString (Sl.v v_217)) F (.string v_218)∧
     R (.bool (v_216.toList==v_218.toList)) F) (
     R (.bool false) F))) (
    R (.bool false) F))) (
   R (.bool false) F))) (
  R (.bool false) F))
def iR (b2:Nat) (codes_8 more_14:Bool) (R:VR) (F:PH):Prop:=
 Ca 34 #[] F fun v_149 F=>
 Nb F (.cells zG 39) fun b15 F=>
 az F (Am b15 0) 9 v_149 fun F=>
 Nb F (.cells #[(.string ⟨#[65]⟩),(.string ⟨#[66]⟩)] 9) fun b150 F=>
 sto F (Am b15 0) (Sl.v (Sb b150 2)) fun F=>
 Nb F (.cells #[(.int .u8 14)] 5) fun b152 F=>
 Ca 35 #[(Sl.v (Sb b152 1)),(.int .i64 2)] F fun v_153 F=>
 az F (Am b15 1) 2 v_153 fun F=>
 Lr F 9 (Am b15 0) fun v_156=>
 ae prog 23 #[(.agg v_156),(.int .i64 2)] F fun v F=>∃v_157,∃v_157_1,v=(.tuple #[(Sl.v v_157),(.bool v_157_1)])∧
 Lr F 9 (Am b15 0) fun v_161=>
 ae prog 23 #[(.agg v_161),(.int .i64 3)] F fun v F=>∃v_162,∃v_162_1,v=(.tuple #[(Sl.v v_162),(.bool v_162_1)])∧
 Lr F 9 (Am b2 0) fun v_166=>
 ae prog 14 #[(.agg v_166)] F fun v F=>∃v_167,∃v_167_1,v=(.tuple #[(Sl.v v_167),(.int .i64 v_167_1)])∧
 (Bc ((v_157.len:Int)=2) (
  Ix v_157 0 fun a175_=>
  Lk F .u64 (Addr.add a175_ (Int.toNat 0*1)) fun v_176=>
  (Bc (v_176=1) (
   Ix v_157 1 fun a181_=>
   Lk F .u64 (Addr.add a181_ (Int.toNat 1*1)) fun v_182=>
   (Bc (v_182=2) (
    (Bb ((!v_157_1)) (
     (Bc ((v_162.len:Int)=3) (
      Ix v_162 2 fun a196_=>
      Lk F .u64 (Addr.add a196_ (Int.toNat 2*1)) fun v_197=>
      (Bc (v_197=3) (
       eO codes_8 more_14 v_167 v_167_1 v_162_1 R F) (
       eO codes_8 more_14 v_167 v_167_1 false R F))) (
      eO codes_8 more_14 v_167 v_167_1 false R F))) (
     eO codes_8 more_14 v_167 v_167_1 false R F))) (
    eO codes_8 more_14 v_167 v_167_1 false R F))) (
   eO codes_8 more_14 v_167 v_167_1 false R F))) (
  eO codes_8 more_14 v_167 v_167_1 false R F))
def gr (b1 b2:Nat) (codes_8:Bool) (R:VR) (F:PH):Prop:=
 Ca 34 #[] F fun v_71 F=>
 Ca 34 #[] F fun v_72 F=>
 Ca 34 #[] F fun v_73 F=>
 Ca 34 #[] F fun v_74 F=>
 Ca 34 #[] F fun v_75 F=>
 Nb F (.cells zG 39) fun b9 F=>
 Nb F (.cells zG 39) fun b10 F=>
 Nb F (.cells zG 39) fun b11 F=>
 Nb F (.cells zG 39) fun b12 F=>
 Nb F (.cells zG 39) fun b13 F=>
 az F (Am b9 0) 9 v_71 fun F=>
 az F (Am b10 0) 9 v_72 fun F=>
 az F (Am b11 0) 9 v_73 fun F=>
 az F (Am b12 0) 9 v_74 fun F=>
 az F (Am b13 0) 9 v_75 fun F=>
 Lr F 2 (Am b1 0) fun v_76=>
 v_76.size=2∧(wr (Array.setIfInBounds (Array.setIfInBounds (Array.setIfInBounds zT 0 (.string ⟨#[116]⟩)) 2 (.string ⟨#[43]⟩)) 4 (.string ⟨#[43]⟩)) 5 v_76.toList).size=7∧Nb F (.cells (wr (Array.setIfInBounds (Array.setIfInBounds (Array.setIfInBounds zT 0 (.string ⟨#[116]⟩)) 2 (.string ⟨#[43]⟩)) 4 (.string ⟨#[43]⟩)) 5 v_76.toList) 79) fun b78 F=>
 sto F (Am b9 3) (Sl.v (Sb b78 1)) fun F=>
 (#[(.int .i64 1),(.int .i64 97),(.int .i64 122),.int .i64 0,.int .i64 0]:Array Value).size=5∧Nb F (.cells (#[(.int .i64 1),(.int .i64 97),(.int .i64 122),.int .i64 0,.int .i64 0]:Array Value) 97) fun b81 F=>
 Lr F 2 (Am b1 0) fun v_82=>
 v_82.size=2∧(wr (Array.setIfInBounds (Array.setIfInBounds (Array.setIfInBounds zT 0 (.string ⟨#[116]⟩)) 3 (Sl.v (Sb b81 1))) 4 (.string ⟨#[43]⟩)) 5 v_82.toList).size=7∧Nb F (.cells (wr (Array.setIfInBounds (Array.setIfInBounds (Array.setIfInBounds zT 0 (.string ⟨#[116]⟩)) 3 (Sl.v (Sb b81 1))) 4 (.string ⟨#[43]⟩)) 5 v_82.toList) 79) fun b84 F=>
 sto F (Am b10 3) (Sl.v (Sb b84 1)) fun F=>
 Lr F 2 (Am b1 0) fun v_86=>
 v_86.size=2∧Lr F 2 (Am b1 0) fun v_88=>
 v_88.size=2∧(wr (Array.setIfInBounds (Array.setIfInBounds zT 0 (.string ⟨#[40]⟩)) 2 (.string ⟨#[40]⟩)) 5 v_86.toList).size=7∧(wr (Array.setIfInBounds (Array.setIfInBounds zT 0 (.string ⟨#[41]⟩)) 2 (.string ⟨#[41]⟩)) 5 v_88.toList).size=7∧Nb F (.cells (wr (wr (#[.string ⟨#[]⟩,.int .i64 0,.string ⟨#[]⟩,.slice none 0 0,.string ⟨#[]⟩,.slice none 0 0,.int .i64 0,.string ⟨#[]⟩,.int .i64 0,.string ⟨#[]⟩,.slice none 0 0,.string ⟨#[]⟩,.slice none 0 0,.int .i64 0]:Array Value) 0 (wr (Array.setIfInBounds (Array.setIfInBounds zT 0 (.string ⟨#[40]⟩)) 2 (.string ⟨#[40]⟩)) 5 v_86.toList).toList) 7 (wr (Array.setIfInBounds (Array.setIfInBounds zT 0 (.string ⟨#[41]⟩)) 2 (.string ⟨#[41]⟩)) 5 v_88.toList).toList) 79) fun b90 F=>
 sto F (Am b11 3) (Sl.v (Sb b90 2)) fun F=>
 Ls F (Am b11 5) fun v_93=>
 (#[(.bool true),.int .i64 0]:Array Value).size=2∧(#[.bool false,.int .i64 0]:Array Value).size=2∧(#[(.bool true),(.int .i64 1)]:Array Value).size=2∧Nb F (.cells (wr (wr (wr (#[.bool false,.int .i64 0,.bool false,.int .i64 0,.bool false,.int .i64 0]:Array Value) 0 (#[(.bool true),.int .i64 0]:Array Value).toList) 2 (#[.bool false,.int .i64 0]:Array Value).toList) 4 (#[(.bool true),(.int .i64 1)]:Array Value).toList) 69) fun b97 F=>
 Ix v_93 0 fun a98_=>
 sto F (Addr.add (Addr.add a98_ (Int.toNat 0*13)) 2) (Sl.v (Sb b97 3)) fun F=>
 Ls F (Am b11 5) fun v_101=>
 Ix v_101 0 fun a102_=>
 sto F (Addr.add (Addr.add a102_ (Int.toNat 0*13)) 5) (.bool true) fun F=>
 Ls F (Am b11 3) fun v_105=>
 sto F (Am b12 3) (Sl.v v_105) fun F=>
 Ls F (Am b12 5) fun v_108=>
 Ls F (Am b11 5) fun v_110=>
 Ix v_110 0 fun a111_=>
 Lr F 13 (Addr.add a111_ (Int.toNat 0*13)) fun v_112=>
 Ix v_108 0 fun a113_=>
 az F (Addr.add a113_ (Int.toNat 0*13)) 13 v_112 fun F=>
 Ls F (Am b12 5) fun v_115=>
 Ix v_115 0 fun a116_=>
 sto F (Addr.add (Addr.add a116_ (Int.toNat 0*13)) 6) (.int .i64 1) fun F=>
 Nb F (.cells #[(.int .i64 0)] 3) fun b118 F=>
 Lr F 2 (Am b1 0) fun v_119=>
 v_119.size=2∧Nb F (.cells #[(.int .i64 0)] 3) fun b121 F=>
 Lr F 2 (Am b1 0) fun v_122=>
 v_122.size=2∧(wr (Array.setIfInBounds zL 0 (Sl.v (Sb b118 1))) 2 v_119.toList).size=4∧(wr (Array.setIfInBounds zL 0 (Sl.v (Sb b121 1))) 2 v_122.toList).size=4∧Nb F (.cells (wr (wr (#[.slice none 0 0,.int .i64 0,.slice none 0 0,.int .i64 0,.slice none 0 0,.int .i64 0,.slice none 0 0,.int .i64 0]:Array Value) 0 (wr (Array.setIfInBounds zL 0 (Sl.v (Sb b118 1))) 2 v_119.toList).toList) 4 (wr (Array.setIfInBounds zL 0 (Sl.v (Sb b121 1))) 2 v_122.toList).toList) 72) fun b124 F=>
 sto F (Am b13 7) (Sl.v (Sb b124 2)) fun F=>
 Lr F 9 (Am b9 0) fun v_126=>
 Ci 20 #[(.agg v_126)] F fun v_127 F=>
 (Bc (v_127=51) (
  Lr F 9 (Am b10 0) fun v_130=>
  Ci 20 #[(.agg v_130)] F fun v_131 F=>
  (Bc (v_131=51) (
   Lr F 9 (Am b11 0) fun v_135=>
   Ci 20 #[(.agg v_135)] F fun v_136 F=>
   (Bc (v_136=0) (
    Lr F 9 (Am b12 0) fun v_140=>
    Ci 20 #[(.agg v_140)] F fun v_141 F=>
    (Bc (v_141=52) (
     Lr F 9 (Am b13 0) fun v_145=>
     Ci 20 #[(.agg v_145)] F fun v_146 F=>
     iR b2 codes_8 (decide (v_146=53)) R F) (
     iR b2 codes_8 false R F))) (
    iR b2 codes_8 false R F))) (
   iR b2 codes_8 false R F))) (
  iR b2 codes_8 false R F))
def Il (R:VR) (F:PH):Prop:=
 Ca 30 #[(.bool true)] F fun v_23 F=>
 Nb F (.cells zD 33) fun b1 F=>
 az F (Am b1 0) 2 v_23 fun F=>
 Ca 34 #[] F fun v_24 F=>
 Nb F (.cells zG 39) fun b2 F=>
 az F (Am b2 0) 9 v_24 fun F=>
 Ca 34 #[] F fun v_25 F=>
 Ca 34 #[] F fun v_26 F=>
 Ca 34 #[] F fun v_27 F=>
 Ca 34 #[] F fun v_28 F=>
 Ca 34 #[] F fun v_29 F=>
 Nb F (.cells zG 39) fun b3 F=>
 Nb F (.cells zG 39) fun b4 F=>
 Nb F (.cells zG 39) fun b5 F=>
 Nb F (.cells zG 39) fun b6 F=>
 Nb F (.cells zG 39) fun b7 F=>
 az F (Am b3 0) 9 v_25 fun F=>
 az F (Am b4 0) 9 v_26 fun F=>
 az F (Am b5 0) 9 v_27 fun F=>
 az F (Am b6 0) 9 v_28 fun F=>
 az F (Am b7 0) 9 v_29 fun F=>
 sto F (Am b3 6) (.int .i64 1) fun F=>
 Ls F (Am b4 5) fun v_32=>
 Ix v_32 0 fun a33_=>
 sto F (Addr.add (Addr.add a33_ (Int.toNat 0*13)) 1) (.int .i64 (-1:Int)) fun F=>
 Ls F (Am b5 5) fun v_36=>
 Ix v_36 0 fun a37_=>
 sto F (Addr.add a37_ (Int.toNat 0*13)) (.string ⟨#[]⟩) fun F=>
 Nb F (.cells #[(.string ⟨#[116,114,117,101]⟩)] 9) fun b39 F=>
 sto F (Am b6 0) (Sl.v (Sb b39 1)) fun F=>
 Ca 30 #[(.bool false)] F fun v_41 F=>
 az F (Am b7 1) 2 v_41 fun F=>
 Lr F 9 (Am b2 0) fun v_43=>
 Ci 20 #[(.agg v_43)] F fun v_44 F=>
 (Bc (v_44=0) (
  Lr F 9 (Am b3 0) fun v_47=>
  Ci 20 #[(.agg v_47)] F fun v_48 F=>
  (Bc (v_48=50) (
   Lr F 9 (Am b4 0) fun v_52=>
   Ci 20 #[(.agg v_52)] F fun v_53 F=>
   (Bc (v_53=50) (
    Lr F 9 (Am b5 0) fun v_57=>
    Ci 20 #[(.agg v_57)] F fun v_58 F=>
    (Bc (v_58=52) (
     Lr F 9 (Am b6 0) fun v_62=>
     Ci 20 #[(.agg v_62)] F fun v_63 F=>
     (Bc (v_63=54) (
      Lr F 9 (Am b7 0) fun v_67=>
      Ci 20 #[(.agg v_67)] F fun v_68 F=>
      gr b1 b2 (decide (v_68=54)) R F) (
      gr b1 b2 false R F))) (
     gr b1 b2 false R F))) (
    gr b1 b2 false R F))) (
   gr b1 b2 false R F))) (
  gr b1 b2 false R F))
theorem MH (h:Il R F):ae prog 11 #[] F R:=Rx.sxC (args:=[]) (.T .N (.T .N (.T .N (.T .N (.T .N (.T .N (.T .N (.T .N (.T .N (.J false [(8,.bool)] .N (.T .N (.T .N (.T .N (.T .N (.T .N (.T .N (.T .N (.T .N (.T .N (.T .N (.J false [(14,.bool)] .N (.T .N (.T .N (.T .N (.T .N (.T .N (.T .N (.J false [(22,.bool)] .N .N)))))))))))))))))))))))))))) (by kernel_rfl) h
def Im (R:VR) (F:PH):Prop:=
 Nb F (.cells zG 39) fun b0 F=>
 Ca 30 #[(.bool true)] F fun v_2 F=>
 Nb F (.cells zD 33) fun b1 F=>
 az F (Am b1 0) 2 v_2 fun F=>
 Lr F 2 (Am b1 0) fun v_3=>
 Nb F (.cells #[(.string ⟨#[83]⟩)] 9) fun b4 F=>
 Lr F 2 (Am b1 0) fun v_5=>
 v_5.size=2∧(wr (Array.setIfInBounds zP 0 (.string ⟨#[115]⟩)) 3 v_5.toList).size=13∧Nb F (.cells (wr (Array.setIfInBounds zP 0 (.string ⟨#[115]⟩)) 3 v_5.toList) 67) fun b7 F=>
 v_3.size=2∧az F (Am b0 0) 9 (Array.setIfInBounds (Array.setIfInBounds (wr zG 1 v_3.toList) 4 (Sl.v (Sb b4 1))) 5 (Sl.v (Sb b7 1))) fun F=>
 Rr 9 (Am b0 0) R F
theorem MI (h:Im R F):ae prog 34 #[] F R:=Rx.sxC (args:=[]) .N (by kernel_rfl) h
def In (R:VR) (F:PH):Prop:=
 Nb F (.cells #[(.int .u8 0),(.int .u8 0),(.int .u8 1),(.int .u8 0),(.int .u8 1),(.int .u8 1),(.int .u8 83),(.int .u8 1),(.int .u8 1),(.int .u8 115),(.int .u8 0),(.int .u8 0),(.int .u8 0),(.int .u8 1),(.int .u8 0),(.int .u8 1),(.int .u8 0),(.int .u8 0),(.int .u8 0),(.int .u8 0),(.int .u8 0),(.int .u8 0),(.int .u8 0),(.int .u8 0),(.int .u8 0)] 5) fun b1 F=>
 R (Sl.v (Sb b1 25)) F
theorem MJ (h:In R F):ae prog 36 #[] F R:=Rx.sxC (args:=[]) .N (by kernel_rfl) h
end Go.Proofs.YtenpmjhnhepfdaaGreatDoor
