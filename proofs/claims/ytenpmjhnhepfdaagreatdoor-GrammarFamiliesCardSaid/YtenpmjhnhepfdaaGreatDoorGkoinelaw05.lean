/-
  What functions of the program do, in a clean form, each with the proof that its code does so. Printed by a program.
-/
import Derived.Test.YtenpmjhnhepfdaaGreatDoorIt
import Derived.Test.YtenpmjhnhepfdaaGreatDoorPhp
import Derived.Test.YtenpmjhnhepfdaaGreatDoorPhz
namespace Go.Proofs.YtenpmjhnhepfdaaGreatDoor
open Go Go.Proofs.Tryz Tr
set_option maxRecDepth 10000
instance decSy (q:Option Sy):Decidable (∃s,q=some s∧s.t=true):=
 match q with
 |none=>isFalse fun ⟨_,h,_⟩=>by cases h
 |some s=>if h:s.t=true then isTrue ⟨s,rfl,h⟩ else isFalse fun ⟨_,h1,h2⟩=>by cases h1;exact h h2
instance decEntry (r:List Sy) (k v lo hi:Int):Decidable (dD r k v lo hi):=by unfold dD;infer_instance
instance decLay (r:List Sy) (x:Cn):Decidable (u0 r x):=by unfold u0;infer_instance
instance decBrk (p:Pr):Decidable (u6 p):=by unfold u6;infer_instance
instance decDet (p:Pr):Decidable (jH p):=by unfold jH;infer_instance
def Hk (nn:Nat) (p:Pr):Prop:=(0≤p.left∧p.left<nn)∧p.right.length≤5∧(∀s∈p.right,0≤s.i∧(s.t=true→s.i<9)∧(s.t=false→s.i<nn))∧(-1≤p.rank∧p.rank≤1)∧p.lay.length≤2∧jH p∧(p.name≠emp∧p.name.size≤13)
instance decPri (nn:Nat) (p:Pr):Decidable (Hk nn p):=by unfold Hk;infer_instance
theorem aW {n nn:Nat} {p:Pr} (h:Hk nn p) (hc:SxD n p.cond):PrI n nn p:=by
 obtain ⟨h1,h2,h3,h4,h5,h6,h7⟩:=h
 exact ⟨hc,h1,h2,h3,h4,h5,h6,h7⟩
theorem eN {n v:Nat} (hv:v<n) (hn:n≤6):SxD n (dia (tv v)):=⟨_,Sx.tv hv hn,rfl⟩
theorem lX {n v:Nat} (hv:v<n) (hn:n≤6):SxD n (cH v):=⟨_,(Sx.tv hv hn).ap2 (Sx.leaf n true),rfl⟩
def CW (s:ByteArray):Prop:=s.size≠2∨s.data[0]?≠some 112
instance (s:ByteArray):Decidable (CW s):=by unfold CW;infer_instance
theorem CX {s:ByteArray} (h:CW s) (k:Nat):s≠ba k:=by
 intro e
 rcases h with h|h
 ·exact h (by rw [e];rfl)
 ·exact h (by rw [e];rfl)
theorem nu {g:Gr} {n:Nat} (hn:n≤3) (hc:g.conds=abc.take n) (hf:g.fam=aG) (ht:g.toks=eP) (hs:g.start=0) (h1:bg g.nons) (h2:∀s∈g.nons,s.size≤10) (h3:(g.prods.map Pr.name).Nodup) (h4:∀s∈g.prods.map Pr.name,CW s)
  (h5:∀p∈g.prods,PrI g.conds.length g.nons.length p) (h6:dE g [] g.lvs∧∀l∈g.lvs,SxD g.conds.length l.cond) (h7:∀x∈g.fils,bK g x∧SxD g.conds.length x.cond∧x.toks.length≤2):MG g:=by
 have e:eP.map tC=eP:=rfl
 refine ⟨⟨n,hn,hc⟩,⟨_,Sx.leaf _ true,by simp,hf⟩,⟨h1,h2⟩,hs,⟨by rw [ht];exact e,fun t htm=> ?_⟩,⟨h3,fun p hp k _ _=>CX (h4 _ (List.mem_map_of_mem hp)) k⟩,h5,h6,h7⟩
 rw [ht,← e] at htm
 obtain ⟨u,_,rfl⟩:=List.mem_map.1 htm
 exact aQ _
theorem CY {g:Gr} (ht:g.toks=eP) (i:Nat) {kd:Tk→Bool} {t:Tk} (h:eP[i]? =some t) (hk:kd t=true):0≤(i:Int)∧∃t,g.toks[(i:Int).toNat]? =some t∧kd t=true:=⟨by omega,t,by rw [ht,Int.toNat_natCast];exact h,hk⟩
theorem IY {g:Gr} {kd:Tk→Bool} {i:Int} (h:0≤i∧∃t,g.toks[i.toNat]? =some t∧kd t=true):eQ g kd [i]:=by
 refine ⟨by simp,fun n hn=>by rw [List.mem_singleton.1 hn];exact h,fun j x y _ hy=> ?_⟩
 simp at hy
theorem Nu {g:Gr} {kd:Tk→Bool} {i j:Int} (h:0≤i∧∃t,g.toks[i.toNat]? =some t∧kd t=true) (h':0≤j∧∃t,g.toks[j.toNat]? =some t∧kd t=true) (hij:i<j):eQ g kd [i,j]:=by
 refine ⟨by simp,fun n hn=> ?_,fun k x y hx hy=> ?_⟩
 ·rcases List.mem_cons.1 hn with rfl|hn
  ·exact h
  ·rw [List.mem_singleton.1 hn];exact h'
 ·match k with
  |0=>
   simp at hx hy
   subst hx hy
   exact hij
  |k+1=>simp at hy
theorem ny:MG cP:=by
 refine nu (n:=2) (by decide) rfl rfl rfl rfl (by unfold bg;decide) (by decide) (by decide) (by decide) (fun p hp=> ?_) ⟨?_,?_⟩ ?_
 ·rcases List.mem_cons.1 hp with rfl|hp
  ·exact aW (by decide) (aQ _)
  rcases List.mem_cons.1 hp with rfl|hp
  ·exact aW (by decide) (aQ _)
  rcases List.mem_cons.1 hp with rfl|hp
  ·exact aW (by decide) (aQ _)
  rcases List.mem_cons.1 hp with rfl|hp
  ·exact aW (by decide) (aQ _)
  rcases List.mem_cons.1 hp with rfl|hp
  ·exact aW (by decide) (eN (by decide) (by decide))
  cases hp
 ·refine ⟨⟨by decide,by decide,(aQ 2).fit (by decide),by decide,by decide,by decide⟩,⟨by decide,by decide,(aQ 2).fit (by decide),by decide,by decide,by decide⟩,⟨by decide,by decide,(lX (n:=2) (v:=0) (by decide) (by decide)).fit (by decide),by decide,by decide,by decide⟩,trivial⟩
 ·intro l hl
  rcases List.mem_cons.1 hl with rfl|hl
  ·exact aQ _
  rcases List.mem_cons.1 hl with rfl|hl
  ·exact aQ _
  rcases List.mem_cons.1 hl with rfl|hl
  ·exact lX (by decide) (by decide)
  cases hl
 ·intro x hx
  cases hx
theorem pK:MG cj:=by
 refine nu (n:=2) (by decide) rfl rfl rfl rfl (by unfold bg;decide) (by decide) (by decide) (by decide) (fun p hp=> ?_) ⟨?_,?_⟩ ?_
 ·rcases List.mem_cons.1 hp with rfl|hp
  ·exact aW (by decide) (aQ _)
  rcases List.mem_cons.1 hp with rfl|hp
  ·exact aW (by decide) (aQ _)
  rcases List.mem_cons.1 hp with rfl|hp
  ·exact aW (by decide) (aQ _)
  rcases List.mem_cons.1 hp with rfl|hp
  ·exact aW (by decide) (aQ _)
  rcases List.mem_cons.1 hp with rfl|hp
  ·exact aW (by decide) (aQ _)
  cases hp
 ·trivial
 ·intro l hl
  cases hl
 ·intro x hx
  rcases List.mem_cons.1 hx with rfl|hx
  ·exact ⟨⟨(eN (n:=2) (v:=0) (by decide) (by decide)).fit (by decide),.inl ⟨.inr rfl,⟨by decide,by decide,by decide,_,_,rfl,rfl,rfl⟩,rfl,rfl,rfl⟩⟩,eN (by decide) (by decide),by decide⟩
  rcases List.mem_cons.1 hx with rfl|hx
  ·exact ⟨⟨(eN (n:=2) (v:=1) (by decide) (by decide)).fit (by decide),.inr (.inr ⟨rfl,⟨Nu (CY rfl 5 rfl (by decide)) (CY rfl 6 rfl (by decide)) (by decide),by decide,_,rfl,rfl,rfl⟩,rfl,rfl,rfl,rfl⟩)⟩,eN (by decide) (by decide),by decide⟩
  cases hx
theorem lO:MG dV:=by
 refine nu (n:=2) (by decide) rfl rfl rfl rfl (by unfold bg;decide) (by decide) (by decide) (by decide) (fun p hp=> ?_) ⟨?_,?_⟩ ?_
 ·rcases List.mem_cons.1 hp with rfl|hp
  ·exact aW (by decide) (aQ _)
  rcases List.mem_cons.1 hp with rfl|hp
  ·exact aW (by decide) (aQ _)
  rcases List.mem_cons.1 hp with rfl|hp
  ·exact aW (by decide) (aQ _)
  rcases List.mem_cons.1 hp with rfl|hp
  ·exact aW (by decide) (aQ _)
  rcases List.mem_cons.1 hp with rfl|hp
  ·exact aW (by decide) (aQ _)
  rcases List.mem_cons.1 hp with rfl|hp
  ·exact aW (by decide) (aQ _)
  rcases List.mem_cons.1 hp with rfl|hp
  ·exact aW (by decide) (eN (by decide) (by decide))
  cases hp
 ·trivial
 ·intro l hl
  cases hl
 ·intro x hx
  cases hx
theorem yx:MG ma:=by
 refine nu (n:=2) (by decide) rfl rfl rfl rfl (by unfold bg;decide) (by decide) (by decide) (by decide) (fun p hp=> ?_) ⟨?_,?_⟩ ?_
 ·rcases List.mem_cons.1 hp with rfl|hp
  ·exact aW (by decide) (aQ _)
  rcases List.mem_cons.1 hp with rfl|hp
  ·exact aW (by decide) (aQ _)
  rcases List.mem_cons.1 hp with rfl|hp
  ·exact aW (by decide) (aQ _)
  rcases List.mem_cons.1 hp with rfl|hp
  ·exact aW (by decide) (aQ _)
  rcases List.mem_cons.1 hp with rfl|hp
  ·exact aW (by decide) (eN (by decide) (by decide))
  cases hp
 ·trivial
 ·intro l hl
  cases hl
 ·intro x hx
  cases hx
theorem uG:MG jB:=by
 refine nu (n:=2) (by decide) rfl rfl rfl rfl (by unfold bg;decide) (by decide) (by decide) (by decide) (fun p hp=> ?_) ⟨?_,?_⟩ ?_
 ·rcases List.mem_cons.1 hp with rfl|hp
  ·exact aW (by decide) (aQ _)
  rcases List.mem_cons.1 hp with rfl|hp
  ·exact aW (by decide) (aQ _)
  rcases List.mem_cons.1 hp with rfl|hp
  ·exact aW (by decide) (aQ _)
  rcases List.mem_cons.1 hp with rfl|hp
  ·exact aW (by decide) (aQ _)
  rcases List.mem_cons.1 hp with rfl|hp
  ·exact aW (by decide) (aQ _)
  rcases List.mem_cons.1 hp with rfl|hp
  ·exact aW (by decide) (eN (by decide) (by decide))
  cases hp
 ·trivial
 ·intro l hl
  cases hl
 ·intro x hx
  rcases List.mem_cons.1 hx with rfl|hx
  ·exact ⟨⟨(eN (n:=2) (v:=0) (by decide) (by decide)).fit (by decide),.inr (.inl ⟨.inl rfl,⟨by decide,by decide,IY (CY rfl 0 rfl (by decide))⟩,rfl,rfl,rfl,rfl⟩)⟩,eN (by decide) (by decide),by decide⟩
  rcases List.mem_cons.1 hx with rfl|hx
  ·exact ⟨⟨(lX (n:=2) (v:=1) (by decide) (by decide)).fit (by decide),.inr (.inl ⟨.inr rfl,⟨by decide,by decide,IY (CY rfl 1 rfl (by decide))⟩,rfl,rfl,rfl,rfl⟩)⟩,lX (by decide) (by decide),by decide⟩
  cases hx
theorem uH:MG jC:=by
 refine nu (n:=2) (by decide) rfl rfl rfl rfl (by unfold bg;decide) (by decide) (by decide) (by decide) (fun p hp=> ?_) ⟨?_,?_⟩ ?_
 ·rcases List.mem_cons.1 hp with rfl|hp
  ·exact aW (by decide) (aQ _)
  rcases List.mem_cons.1 hp with rfl|hp
  ·exact aW (by decide) (aQ _)
  rcases List.mem_cons.1 hp with rfl|hp
  ·exact aW (by decide) (aQ _)
  rcases List.mem_cons.1 hp with rfl|hp
  ·exact aW (by decide) (aQ _)
  rcases List.mem_cons.1 hp with rfl|hp
  ·exact aW (by decide) (eN (by decide) (by decide))
  cases hp
 ·trivial
 ·intro l hl
  cases hl
 ·intro x hx
  cases hx
theorem zU {k:Nat} (hk:k<6):MG (bS k):=by
 have h:k=0∨k=1∨k=2∨k=3∨k=4∨k=5:=by omega
 rcases h with rfl|rfl|rfl|rfl|rfl|rfl
 ·exact ny
 ·exact pK
 ·exact lO
 ·exact yx
 ·exact uG
 ·exact uH
theorem zV (x:Rw):MG (fY x):=by
 unfold fY
 split
 ·rename_i h
  exact zU (of_decide_eq_true h)
 ·have hn:(eg x).length≠0:=by unfold eg;rw [List.length_take];simp
  refine nu (n:=x.n % 4) (by omega) rfl rfl rfl rfl ?_ (fun s hs=> ?_) (by show ([⟨#[102,105,114,115,116]⟩]:List ByteArray).Nodup;simp) (fun s hs=>by rw [List.mem_singleton.1 (show s∈([⟨#[102,105,114,115,116]⟩]:List ByteArray) from hs)];decide) (fun p hp=> ?_) ⟨trivial,fun l hl=>(by cases hl)⟩ fun x hx=>by cases hx
  ·have h:x.n / 4 % 3=0∨x.n / 4 % 3=1∨x.n / 4 % 3=2:=by omega
   show bg (eg x)
   unfold eg
   rcases h with h|h|h<;>rw [h]<;>(unfold bg;decide)
  ·have:∀s∈([⟨#[83]⟩,⟨#[80]⟩,⟨#[81]⟩]:List ByteArray),s.size≤10:=by decide
   exact this s (List.mem_of_mem_take hs)
  ·rw [List.mem_singleton.1 hp]
   refine aW ⟨⟨by decide,?_⟩,by decide,?_,by decide,by decide,by decide,by decide⟩ (aQ _)
   ·show (0:Int)<(eg x).length
    omega
   ·intro s hs
    rw [List.mem_singleton.1 hs]
    exact ⟨by decide,fun _=>by decide,fun h=>(by cases h)⟩
theorem CZ (x:Rw):MG (ln x)∧Bd (ln x) 18 10:=by
 have hm:cx x≤10:=by unfold cx;split<;>decide
 have b1:=An (x:=x) (nF x)
 have m1:=(zV x).famG (nF x) x
 have b2:=nG (x:=x) (x.lines.take (cx x)) b1
 have hl:(x.lines.take (cx x)).length≤10:=by rw [List.length_take];omega
 have hr:(x.rules.take 6).length≤6:=by rw [List.length_take];omega
 have m2:=MG.lines (x:=x) (x.lines.take (cx x)) m1 b1 (by omega)
 have b3:=nH (x.rules.take 6) b2
 have m3:=MG.rules (x.rules.take 6) m2 b2
 refine ⟨m3,?_⟩
 obtain ⟨c1,c2,c3,c4,c5,c6,c7,c8,c9⟩:=b3
 exact ⟨c1,c2,c3,c4,by unfold ln;omega,c6,by unfold ln;omega,c8,by unfold ln;omega⟩
theorem wq {g:Gr} (h1:co g=false) (h2:¬eR g):cK g=54:=by
 unfold cK;rw [if_neg (by rw [h1];decide),if_pos h2]
theorem wt {g:Gr} (h1:co g=false) (h2:eR g) (h3:¬dC g.conds.length [] g.toks):cK g=51:=by
 unfold cK;rw [if_neg (by rw [h1];decide),if_neg (not_not_intro h2),if_pos h3]
theorem C0 {g:Gr} (h1:co g=false) (h2:eR g) (h3:dC g.conds.length [] g.toks) (h4:¬dQ g):cK g=50:=by
 unfold cK;rw [if_neg (by rw [h1];decide),if_neg (not_not_intro h2),if_neg (not_not_intro h3),if_pos h4]
theorem nz {g:Gr} {e:Int} (h1:co g=false) (h2:eR g) (h3:dC g.conds.length [] g.toks) (h4:dQ g) (h5:cy g [] g.prods=e) (h6:e≠0):cK g=e:=by
 unfold cK;rw [if_neg (by rw [h1];decide),if_neg (not_not_intro h2),if_neg (not_not_intro h3),if_neg (not_not_intro h4),if_pos (by rw [h5];exact h6),h5]
theorem C1 {g:Gr} (h1:co g=false) (h2:eR g) (h3:dC g.conds.length [] g.toks) (h4:dQ g) (h5:cy g [] g.prods=0) (h6:¬dE g [] g.lvs):cK g=53:=by
 unfold cK;rw [if_neg (by rw [h1];decide),if_neg (not_not_intro h2),if_neg (not_not_intro h3),if_neg (not_not_intro h4),if_neg (by rw [h5];decide),if_pos h6]
theorem yy {g:Gr} {p:Pr} (h:¬d8 g p) (l:List Pr) (done:List ByteArray):cy g done (p::l)=50:=by unfold cy;rw [if_pos h]
theorem te {g:Gr} {p:Pr} {done:List ByteArray} (h1:d8 g p) (h:¬AH g done p) (l:List Pr):cy g done (p::l)=52:=by unfold cy;rw [if_neg (not_not_intro h1),if_pos h]
theorem kG {g:Gr} {p:Pr} (h1:d8 g p) (h:AH g [] p):cy g [] [p]=0:=by unfold cy;rw [if_neg (not_not_intro h1),if_neg (not_not_intro h)];rfl
theorem ju (n:Nat) (hn:n≤6):gD aG n:=(aQ n).fit hn
def aT:Gr:=⟨[],aG,[],[⟨#[83]⟩],[aX ⟨#[115]⟩ 0 []],0,[],[]⟩
def qZ:Gr:={aT with start:=1}
def Ew:Gr:={aT with prods:=[aX ⟨#[115]⟩ (-1) []]}
def Ex:Gr:={aT with prods:=[aX ⟨#[]⟩ 0 []]}
def iv:Gr:={aT with conds:=[⟨#[116,114,117,101]⟩]}
def q0:Gr:={aT with fam:=dia (leaf false)}
def tf:Gr:={aT with toks:=[⟨⟨#[116]⟩,0,⟨#[43]⟩,[],⟨#[43]⟩,aG⟩]}
def gJ:Gr:={aT with toks:=[⟨⟨#[116]⟩,0,⟨#[]⟩,[⟨1,97,122,0,0⟩],⟨#[43]⟩,aG⟩]}
def ra:List Tk:=[tkL ⟨#[40]⟩,tkL ⟨#[41]⟩]
def tg:Pr:={aX ⟨#[115]⟩ 0 [⟨true,0⟩,⟨false,0⟩,⟨true,1⟩] with brk:=true}
def nA:Gr:={aT with toks:=ra,prods:=[tg]}
def zW:Gr:={aT with toks:=ra,prods:=[{tg with rank:=1}]}
def kH:Gr:={aT with lvs:=[⟨[0],0,aG⟩,⟨[0],0,aG⟩]}
theorem rb {g:Gr} (h1:g.conds=[]) (h2:g.fam=aG):eR g:=by
 unfold eR bg
 rw [h1,h2]
 exact ⟨fun s hs=>(by cases hs),⟨.nil,by simp⟩,ju 0 (by decide),by decide⟩
theorem nB {g:Gr} (h1:g.nons=[⟨#[83]⟩]) (h2:g.start=0):dQ g:=by
 unfold dQ bg
 rw [h1,h2]
 exact ⟨by decide,by decide,by decide⟩
theorem Ey {g:Gr} {p:Pr} (h1:p.name≠emp) (h2:p.cond=aG) (hc:g.conds=[]) (h3: -1≤p.rank∧p.rank≤1) (h4:jH p):AH g [] p:=⟨h1,by simp,by rw [h2,hc];exact ju 0 (by decide),h3.1,h3.2,h4⟩
theorem zX {g:Gr} {p:Pr} (h1:g.nons=[⟨#[83]⟩]) (h2:p.left=0) (h3:p.right=[]):d8 g p:=by
 unfold d8 jg
 rw [h1,h2,h3]
 exact ⟨⟨by decide,fun _=>by decide,fun h=>(by cases h)⟩,fun s hs=>(by cases hs)⟩
theorem nC {g:Gr} (h1:g.nons=[⟨#[83]⟩]) (hc:g.conds=[]) (hp:g.prods=[aX ⟨#[115]⟩ 0 []]):cy g [] g.prods=0:=by
 rw [hp]
 exact kG (zX h1 rfl rfl) (Ey (by decide) rfl hc (by decide) (by decide))
theorem zY:OkG aT:=⟨by decide,rb rfl rfl,trivial,nB rfl rfl,nC rfl rfl rfl,trivial,fun x hx=>(by cases hx)⟩
theorem kI:cK aT=0:=eY.2 zY
theorem yz:cK qZ=50:=C0 (by decide) (rb rfl rfl) trivial fun h=>by have:=h.2.2;revert this;decide
theorem zZ:cK Ew=50:=nz (by decide) (rb rfl rfl) trivial (nB rfl rfl) (yy (fun h=>by have:=h.1.1;revert this;decide) _ _) (by decide)
theorem z6:cK Ex=52:=nz (by decide) (rb rfl rfl) trivial (nB rfl rfl) (te (zX rfl rfl rfl) (fun h=>h.1 rfl) _) (by decide)
theorem rc:cK iv=54:=wq (by decide) fun h=>(h.1 _ (List.mem_singleton.2 rfl)).2.1 rfl
theorem yA:cK q0=54:=wq (by decide) fun h=>h.2.2.2 rfl
theorem z7:cK tf=51:=wt (by decide) (rb rfl rfl) fun h=>by have:=(h.1.2.2.2.2.2.1 (by decide)).1;revert this;decide
theorem C2:GoodL [⟨1,97,122,0,0⟩]:=lY (by decide) (by decide) (by decide) (by decide)
theorem tj:cK gJ=51:=wt (by decide) (rb rfl rfl) fun h=>by
 obtain ⟨-,hw⟩:=(h.1.2.2.2.2.2.2 rfl).2.1 rfl
 have e0:([⟨1,97,122,0,0⟩]:List Nd)[0]? =some ⟨1,97,122,0,0⟩:=rfl
 obtain ⟨ns,ht⟩:=gq C2
 unfold LgL at hw
 have hw:Lg (bu [⟨1,97,122,0,0⟩]).pat (bs ⟨#[43]⟩):=hw
 generalize bu [⟨1,97,122,0,0⟩]=t at ht hw
 have ht:ce [⟨1,97,122,0,0⟩] 0 t ns:=ht
 cases ht with
 |emp hx hk=>rw [e0] at hx;cases hx;cases hk
 |seq hx hk=>rw [e0] at hx;cases hx;cases hk
 |alt hx hk=>rw [e0] at hx;cases hx;cases hk
 |rep hx hk=>rw [e0] at hx;cases hx;cases hk
 | @rng _ lo hi x hx hk hlo hhi _ _=>
  rw [e0] at hx
  cases hx
  obtain ⟨b,hb,h1,h2⟩:=hw
  have hb:[43]=[b]:=hb
  have:(97:Int)=lo:=hlo
  cases hb
  omega
theorem ww {g:Gr} (hc:g.conds=[]) (ht:g.toks=ra):dC g.conds.length [] g.toks:=by
 rw [ht]
 refine nD _ _ ⟨ff (by decide) (by decide),ff (by decide) (by decide),trivial⟩ fun t ht=> ?_
 rw [hc]
 rcases List.mem_cons.1 ht with rfl|ht
 ·exact ju 0 (by decide)
 ·rw [List.mem_singleton.1 ht];exact ju 0 (by decide)
theorem wz {g:Gr} {p:Pr} (h1:g.nons=[⟨#[83]⟩]) (ht:g.toks=ra) (h2:p.left=0) (h3:p.right=[⟨true,0⟩,⟨false,0⟩,⟨true,1⟩]):d8 g p:=by
 unfold d8 jg
 rw [h1,h2,h3,ht]
 refine ⟨⟨by decide,fun _=>by decide,fun h=>(by cases h)⟩,fun s hs=> ?_⟩
 rcases List.mem_cons.1 hs with rfl|hs
 ·exact ⟨by decide,fun h=>(by cases h),fun _=>⟨_,rfl,rfl⟩⟩
 rcases List.mem_cons.1 hs with rfl|hs
 ·exact ⟨by decide,fun _=>by decide,fun h=>(by cases h)⟩
 rcases List.mem_cons.1 hs with rfl|hs
 ·exact ⟨by decide,fun h=>(by cases h),fun _=>⟨_,rfl,rfl⟩⟩
 cases hs
theorem tn:cK nA=0:=eY.2 ⟨by decide,rb rfl rfl,ww rfl rfl,nB rfl rfl,kG (wz rfl rfl rfl rfl) (Ey (by decide) rfl rfl (by decide) (by decide)),trivial,fun x hx=>(by cases hx)⟩
theorem z8:cK zW=52:=nz (by decide) (rb rfl rfl) (ww rfl rfl) (nB rfl rfl) (te (wz rfl rfl rfl rfl) (fun h=>by have:=(h.2.2.2.2.2.2.2.2 rfl).2.1;revert this;decide) _) (by decide)
theorem yB:cK kH=53:=C1 (by decide) (rb rfl rfl) trivial (nB rfl rfl) (nC rfl rfl rfl) fun h=>h.2.1.2.2.2.2.2 0 (by decide) (by decide)
theorem uI {l:List Int} {n:Nat} (hn:n≤6) {m v k:Nat} (h:v+(m+1)=n) (c:Cf):(dT l (m+1) v k).ev c=((c v && (dT l m (v+1) (k+2 ^ v)).ev c) || ((dT l m (v+1) k).ev c && (!c v))):=by
 have hv:Sx n (tv v):=Sx.tv (by omega) hn
 have h1:=jc l hn m (v+1) (k+2 ^ v) (by omega)
 have h2:=jc l hn m (v+1) k (by omega)
 have hx:=hv.ap2 (o:=im) (Sx.leaf n true)
 have e1:(tv v).ev c=c v:=by
  show (if c v=true then (leaf true).ev c else (leaf false).ev c)=c v
  cases c v<;>rfl
 have et:dT l (m+1) v k=ap2 oOr (ap2 ik (tv v) (dT l m (v+1) (k+2 ^ v))) (ap2 ik (dT l m (v+1) k) (ap2 im (tv v) (leaf true))):=rfl
 rw [et,(fQ (hv.ap2 (o:=ik) h1).1 (h2.ap2 (o:=ik) hx).1).2,(fQ hv.1 h1.1).2,(fQ h2.1 hx.1).2,(fQ hv.1 (Sx.leaf n true).1).2,e1]
 cases c v<;>cases (dT l m (v+1) (k+2 ^ v)).ev c<;>cases (dT l m (v+1) k).ev c<;>rfl
noncomputable def yC:Tr:=dT [14] 2 0 0
theorem Aa (c:Cf):yC.ev c=(c 0 || c 1):=by
 unfold yC
 rw [uI (n:=2) (by decide) rfl,uI (n:=2) (by decide) rfl,uI (n:=2) (by decide) rfl]
 have b0:oS [14] 0=false:=by decide
 have b1:oS [14] 1=true:=by decide
 have b2:oS [14] 2=true:=by decide
 have b3:oS [14] 3=true:=by decide
 show (c 0 && (c 1 && oS [14] 3 || oS [14] 1 && !c 1) || (c 1 && oS [14] 2 || oS [14] 0 && !c 1) && !c 0)=_
 rw [b0,b1,b2,b3]
 cases c 0<;>cases c 1<;>rfl
noncomputable def rg:Gr:={aT with conds:=[⟨#[65]⟩,⟨#[66]⟩],fam:=dia yC}
theorem Ab:Sx 2 yC:=jc _ (by decide) 2 0 0 rfl
theorem Ac:OkG rg:=by
 obtain ⟨o1,o2,_⟩:=Aj (n:=2) (by decide)
 refine ⟨by decide,⟨o1,o2,Ab.fit (by decide),fun e=> ?_⟩,trivial,nB rfl rfl,?_,trivial,fun x hx=>(by cases hx)⟩
 ·have:=tx e
  have h1:=Aa (fun _=>true)
  rw [this] at h1
  cases h1
 ·exact kG (zX rfl rfl rfl) ⟨by decide,by simp,ju 2 (by decide),by decide,by decide,by decide⟩
theorem tp:d3 rg=[1,2,3]:=by
 unfold d3
 have e:tre rg.fam=yC:=j9 Ab.1
 rw [e]
 simp only [Aa]
 decide
theorem ri:eX rg 2=([1,2],false):=by
 unfold eX
 rw [if_neg (by rw [eY.2 Ac];decide),tp]
 rfl
theorem rj:eX rg 3=([1,2,3],true):=by
 unfold eX
 rw [if_neg (by rw [eY.2 Ac];decide),tp]
 rfl
theorem dZ {g:Gr} (h1:∀s∈g.conds,s.size≤1000000000) (h2:∀t∈g.toks,t.smp.size≤100000) (h3:∀l∈g.lvs,l.ps.length≤1000000000) (h4:g.fils=[]):Sz g:=⟨h1,h2,h3,fun f hf=>by rw [h4] at hf;cases hf⟩
def uJ:List Nat:=[0,0,1,0,1,1,83,1,1,115,0,0,0,1,0,1,0,0,0,0,0,0,0,0,0]
theorem pW:eGr aT=uJ:=by decide+kernel
theorem Ad:NN aT:=by
 refine ⟨⟨fun b hb=>(by cases hb),by decide⟩,fun t ht=>(by cases ht),fun p hp=> ?_,by decide,fun l hl=>(by cases hl),fun f hf=>(by cases hf)⟩
 rw [List.mem_singleton.1 hp]
 exact ⟨by decide,fun s hs=>(by cases hs),⟨fun b hb=>(by cases hb),by decide⟩,by decide,by decide,fun x hx=>(by cases hx),by decide,by decide,by decide,by decide⟩
theorem Ae:Sm aT:=by
 refine ⟨by decide,by decide,by decide,by decide,by decide,by decide,by decide,fun x hx=>(by cases hx),fun x hx=> ?_,fun x hx=>(by cases hx),fun x hx=>(by cases hx)⟩
 rw [List.mem_singleton.1 hx]
 exact ⟨by decide,by decide,by decide⟩
variable {R:VR} {F:PH}
set_option maxRecDepth 10000
set_option maxHeartbeats 4000000
def Af (v_21:Bool) (v_29:Sl) (at_14:Int) (R:VR) (F:PH):Prop:=
 (Bc (at_14=(v_29.len:Int)) (
  R (.bool v_21) F) (
  R (.bool false) F))
def uK (N1:Int→PH→Prop) (v_21:Bool) (v_29:Sl) (at_14:Int) (v_91:Sl) (R:VR) (i_20:Int) (F:PH):Prop:=
 (Bc (i_20<(v_91.len:Int)) (
  Ix v_91 i_20 fun a129_=>
  Lk F .u64 (Addr.add a129_ (Int.toNat i_20*1)) fun v_130=>
  Ix v_29 i_20 fun a133_=>
  Lk F .u64 (Addr.add a133_ (Int.toNat i_20*1)) fun v_134=>
  (Bc (v_130≠v_134) (
   R (.bool false) F) (
   N1 (IntKind.i64.wrap (i_20+1)) F))) (
  Af v_21 v_29 at_14 R F))
def uL (most_1:Int) (v_21:Bool) (b6:Nat) (v_29:Sl) (at_14:Int) (R:VR) (F:PH):Prop:=
 Lr F 9 (Am b6 0) fun v_89=>
 ae prog 23 #[(.agg v_89),(.int .i64 (IntKind.i64.wrap (Int.tmod most_1 10)))] F fun v F=>∃v_91,∃v_91_1,v=(.tuple #[(Sl.v v_91),(.bool v_91_1)])∧
 (Bc ((IntKind.i64.wrap (Int.tmod most_1 10))=0) (
  (Bc ((v_91.len:Int)=0) (
   (Bb ((!v_91_1)) (
    R (.bool v_21) F) (
    R (.bool false) F))) (
   R (.bool false) F))) (
  (Bc ((v_91.len:Int)≠(min (IntKind.i64.wrap (Int.tmod most_1 10)) (v_29.len:Int))) (
   R (.bool false) F) (
   (Bb ((!(v_91_1==(decide ((v_29.len:Int)≤(IntKind.i64.wrap (Int.tmod most_1 10))))))) (
    R (.bool false) F) (
    (Lp 0 F fun N i_20 F=>
     uK N v_21 v_29 at_14 v_91 R i_20 F)))))))
def uM (N2:Int→Int→PH→Prop) (most_1:Int) (v_21:Bool) (b6:Nat) (v_29:Sl) (c_15 at_14_2:Int) (R:VR) (F:PH):Prop:=
 N2 at_14_2 (IntKind.u64.wrap (c_15+1)) F
def rk (N2:Int→Int→PH→Prop) (most_1:Int) (v_21:Bool) (b6:Nat) (v_29:Sl) (at_14_1 c_15:Int) (v_67:Bool) (R:VR) (F:PH):Prop:=
 (Bb (v_67) (
  uM N2 most_1 v_21 b6 v_29 c_15 (IntKind.i64.wrap (at_14_1+1)) R F) (
  uM N2 most_1 v_21 b6 v_29 c_15 at_14_1 R F))
def uN (N2:Int→Int→PH→Prop) (most_1:Int) (v_21:Bool) (b6:Nat) (v_29:Sl) (R:VR) (at_14_1 c_15:Int) (F:PH):Prop:=
 (Bc (c_15<16) (
  Lr F 9 (Am b6 0) fun v_65=>
  Cbo 25 #[(.agg v_65),(.int .u64 c_15)] F fun v_67 F=>
  (Bc (at_14_1<(v_29.len:Int)) (
   Ix v_29 at_14_1 fun a76_=>
   Lk F .u64 (Addr.add a76_ (Int.toNat at_14_1*1)) fun v_77=>
   (Bb ((!(v_67==(decide (v_77=c_15))))) (
    R (.bool false) F) (
    rk N2 most_1 v_21 b6 v_29 at_14_1 c_15 v_67 R F))) (
   (Bb ((!(v_67==false))) (
    R (.bool false) F) (
    rk N2 most_1 v_21 b6 v_29 at_14_1 c_15 v_67 R F))))) (
  uL most_1 v_21 b6 v_29 at_14_1 R F))
def IZ (x_0:Array Value) (most_1:Int) (R:VR) (F:PH):Prop:=
 Nb F (.cells x_0 26) fun b2 F=>
 Cbo 11 #[] F fun v_21 F=>
 Lr F 5 (Am b2 0) fun v_22=>
 Ca 13 #[(.agg v_22)] F fun v_23 F=>
 Nb F (.cells zG 39) fun b6 F=>
 aB F (Am b6 0) 9 v_23 fun F=>
 Ls F (Am b6 0) fun v_25=>
 Lr F 9 (Am b6 0) fun v_28=>
 ae prog 23 #[(.agg v_28),(.int .i64 100)] F fun v F=>∃v_29,∃v_29_1,v=(.tuple #[(Sl.v v_29),(.bool v_29_1)])∧
 Lr F 2 (Am b6 1) fun v_34=>
 ae prog 32 #[(.agg v_34),(.int .i64 (v_25.len:Int))] F fun v F=>∃v_36,∃v_36_1,v=(.tuple #[(Sl.v v_36),(.int .i64 v_36_1)])∧
 ae prog 33 #[(Sl.v v_36)] F fun v F=>∃v_41,∃v_41_1,v=(.tuple #[(.int .u64 v_41),(.bool v_41_1)])∧
 (Bb ((!v_29_1)) (
  R (.bool false) F) (
  (Bc (v_36_1≠0) (
   R (.bool false) F) (
   (Bb ((!v_41_1)) (
    R (.bool false) F) (
    (Bc (v_41≠(IntKind.u64.wrap (v_29.len:Int))) (
     R (.bool false) F) (
     (∃(I2:Nat→Int→Int→PH→Prop) (m2:Nat),I2 m2 0 0 F∧∀m2 at_14_1 c_15 F,I2 m2 at_14_1 c_15 F→
      uN (nx2 I2 m2) most_1 v_21 b6 v_29 R at_14_1 c_15 F)))))))))
theorem Nv {x_0:Array Value} {most_1:Int} (h:IZ x_0 most_1 R F):ae prog 10 #[(.agg x_0),(.int .u8 most_1)] F R:=Rx.sxC (args:=[(.agg x_0),(.int .u8 most_1)]) (.T .N (.T .N (.T .N (.T .N (.T .N (.T .N (.T .N (.T .N (.T .N (.J false [(14,.int .i64)] (.T .N (.L [(14,.int .i64),(15,.int .u64)] (.T .N (.J false [(14,.int .i64)] (.T .N (.J false [] .N .N)) .N)))) (.T .N (.T .N (.T .N (.T .N (.J false [] (.T .N (.L [(20,.int .i64)] .N)) .N))))))))))))))) (by kernel_rfl) h
def fe (codes_8 more_14:Bool) (v_167:Sl) (v_167_1:Int) (lists_22:Bool) (R:VR) (F:PH):Prop:=
 (Bb (codes_8) (
  (Bb (more_14) (
   (Bb (lists_22) (
    (Bc (v_167_1=0) (
     ∃v_216,rdo prog (Conv.bytesToString (Sl.v v_167)) F (.string v_216)∧
     Cs 36 #[] F fun v_217 F=>
     rdo prog (Conv.bytesToString (Sl.v v_167)) F (.string v_216)∧∃v_218,rdo prog (Conv.bytesToString (Sl.v v_217)) F (.string v_218)∧
     R (.bool (v_216.toList==v_218.toList)) F) (
     R (.bool false) F))) (
    R (.bool false) F))) (
   R (.bool false) F))) (
  R (.bool false) F))
def ja (b2:Nat) (codes_8 more_14:Bool) (R:VR) (F:PH):Prop:=
 Ca 34 #[] F fun v_149 F=>
 Nb F (.cells zG 39) fun b15 F=>
 aB F (Am b15 0) 9 v_149 fun F=>
 Nb F (.cells #[(.string ⟨#[65]⟩),(.string ⟨#[66]⟩)] 9) fun b150 F=>
 sto F (Am b15 0) (Sl.v (Sb b150 2)) fun F=>
 Nb F (.cells #[(.int .u8 14)] 5) fun b152 F=>
 Ca 35 #[(Sl.v (Sb b152 1)),(.int .i64 2)] F fun v_153 F=>
 aB F (Am b15 1) 2 v_153 fun F=>
 Lr F 9 (Am b15 0) fun v_156=>
 ae prog 23 #[(.agg v_156),(.int .i64 2)] F fun v F=>∃v_157,∃v_157_1,v=(.tuple #[(Sl.v v_157),(.bool v_157_1)])∧
 Lr F 9 (Am b15 0) fun v_161=>
 ae prog 23 #[(.agg v_161),(.int .i64 3)] F fun v F=>∃v_162,∃v_162_1,v=(.tuple #[(Sl.v v_162),(.bool v_162_1)])∧
 Lr F 9 (Am b2 0) fun v_166=>
 ae prog 14 #[(.agg v_166)] F fun v F=>∃v_167,∃v_167_1,v=(.tuple #[(Sl.v v_167),(.int .i64 v_167_1)])∧
 (Bc ((v_157.len:Int)=2) (
  Ix v_157 0 fun a175_=>
  Lk F .u64 (Addr.add a175_ (Int.toNat 0*1)) fun v_176=>
  (Bc (v_176=1) (
   Ix v_157 1 fun a181_=>
   Lk F .u64 (Addr.add a181_ (Int.toNat 1*1)) fun v_182=>
   (Bc (v_182=2) (
    (Bb ((!v_157_1)) (
     (Bc ((v_162.len:Int)=3) (
      Ix v_162 2 fun a196_=>
      Lk F .u64 (Addr.add a196_ (Int.toNat 2*1)) fun v_197=>
      (Bc (v_197=3) (
       fe codes_8 more_14 v_167 v_167_1 v_162_1 R F) (
       fe codes_8 more_14 v_167 v_167_1 false R F))) (
      fe codes_8 more_14 v_167 v_167_1 false R F))) (
     fe codes_8 more_14 v_167 v_167_1 false R F))) (
    fe codes_8 more_14 v_167 v_167_1 false R F))) (
   fe codes_8 more_14 v_167 v_167_1 false R F))) (
  fe codes_8 more_14 v_167 v_167_1 false R F))
def gK (b1 b2:Nat) (codes_8:Bool) (R:VR) (F:PH):Prop:=
 Ca 34 #[] F fun v_71 F=>
 Ca 34 #[] F fun v_72 F=>
 Ca 34 #[] F fun v_73 F=>
 Ca 34 #[] F fun v_74 F=>
 Ca 34 #[] F fun v_75 F=>
 Nb F (.cells zG 39) fun b9 F=>
 Nb F (.cells zG 39) fun b10 F=>
 Nb F (.cells zG 39) fun b11 F=>
 Nb F (.cells zG 39) fun b12 F=>
 Nb F (.cells zG 39) fun b13 F=>
 aB F (Am b9 0) 9 v_71 fun F=>
 aB F (Am b10 0) 9 v_72 fun F=>
 aB F (Am b11 0) 9 v_73 fun F=>
 aB F (Am b12 0) 9 v_74 fun F=>
 aB F (Am b13 0) 9 v_75 fun F=>
 Lr F 2 (Am b1 0) fun v_76=>
 v_76.size=2∧(wr (Array.setIfInBounds (Array.setIfInBounds (Array.setIfInBounds zT 0 (.string ⟨#[116]⟩)) 2 (.string ⟨#[43]⟩)) 4 (.string ⟨#[43]⟩)) 5 v_76.toList).size=7∧Nb F (.cells (wr (Array.setIfInBounds (Array.setIfInBounds (Array.setIfInBounds zT 0 (.string ⟨#[116]⟩)) 2 (.string ⟨#[43]⟩)) 4 (.string ⟨#[43]⟩)) 5 v_76.toList) 79) fun b78 F=>
 sto F (Am b9 3) (Sl.v (Sb b78 1)) fun F=>
 (#[(.int .i64 1),(.int .i64 97),(.int .i64 122),.int .i64 0,.int .i64 0]:Array Value).size=5∧Nb F (.cells (#[(.int .i64 1),(.int .i64 97),(.int .i64 122),.int .i64 0,.int .i64 0]:Array Value) 97) fun b81 F=>
 Lr F 2 (Am b1 0) fun v_82=>
 v_82.size=2∧(wr (Array.setIfInBounds (Array.setIfInBounds (Array.setIfInBounds zT 0 (.string ⟨#[116]⟩)) 3 (Sl.v (Sb b81 1))) 4 (.string ⟨#[43]⟩)) 5 v_82.toList).size=7∧Nb F (.cells (wr (Array.setIfInBounds (Array.setIfInBounds (Array.setIfInBounds zT 0 (.string ⟨#[116]⟩)) 3 (Sl.v (Sb b81 1))) 4 (.string ⟨#[43]⟩)) 5 v_82.toList) 79) fun b84 F=>
 sto F (Am b10 3) (Sl.v (Sb b84 1)) fun F=>
 Lr F 2 (Am b1 0) fun v_86=>
 v_86.size=2∧Lr F 2 (Am b1 0) fun v_88=>
 v_88.size=2∧(wr (Array.setIfInBounds (Array.setIfInBounds zT 0 (.string ⟨#[40]⟩)) 2 (.string ⟨#[40]⟩)) 5 v_86.toList).size=7∧(wr (Array.setIfInBounds (Array.setIfInBounds zT 0 (.string ⟨#[41]⟩)) 2 (.string ⟨#[41]⟩)) 5 v_88.toList).size=7∧Nb F (.cells (wr (wr (#[.string ⟨#[]⟩,.int .i64 0,.string ⟨#[]⟩,.slice none 0 0,.string ⟨#[]⟩,.slice none 0 0,.int .i64 0,.string ⟨#[]⟩,.int .i64 0,.string ⟨#[]⟩,.slice none 0 0,.string ⟨#[]⟩,.slice none 0 0,.int .i64 0]:Array Value) 0 (wr (Array.setIfInBounds (Array.setIfInBounds zT 0 (.string ⟨#[40]⟩)) 2 (.string ⟨#[40]⟩)) 5 v_86.toList).toList) 7 (wr (Array.setIfInBounds (Array.setIfInBounds zT 0 (.string ⟨#[41]⟩)) 2 (.string ⟨#[41]⟩)) 5 v_88.toList).toList) 79) fun b90 F=>
 sto F (Am b11 3) (Sl.v (Sb b90 2)) fun F=>
 Ls F (Am b11 5) fun v_93=>
 (#[(.bool true),.int .i64 0]:Array Value).size=2∧(#[.bool false,.int .i64 0]:Array Value).size=2∧(#[(.bool true),(.int .i64 1)]:Array Value).size=2∧Nb F (.cells (wr (wr (wr (#[.bool false,.int .i64 0,.bool false,.int .i64 0,.bool false,.int .i64 0]:Array Value) 0 (#[(.bool true),.int .i64 0]:Array Value).toList) 2 (#[.bool false,.int .i64 0]:Array Value).toList) 4 (#[(.bool true),(.int .i64 1)]:Array Value).toList) 69) fun b97 F=>
 Ix v_93 0 fun a98_=>
 sto F (Addr.add (Addr.add a98_ (Int.toNat 0*13)) 2) (Sl.v (Sb b97 3)) fun F=>
 Ls F (Am b11 5) fun v_101=>
 Ix v_101 0 fun a102_=>
 sto F (Addr.add (Addr.add a102_ (Int.toNat 0*13)) 5) (.bool true) fun F=>
 Ls F (Am b11 3) fun v_105=>
 sto F (Am b12 3) (Sl.v v_105) fun F=>
 Ls F (Am b12 5) fun v_108=>
 Ls F (Am b11 5) fun v_110=>
 Ix v_110 0 fun a111_=>
 Lr F 13 (Addr.add a111_ (Int.toNat 0*13)) fun v_112=>
 Ix v_108 0 fun a113_=>
 aB F (Addr.add a113_ (Int.toNat 0*13)) 13 v_112 fun F=>
 Ls F (Am b12 5) fun v_115=>
 Ix v_115 0 fun a116_=>
 sto F (Addr.add (Addr.add a116_ (Int.toNat 0*13)) 6) (.int .i64 1) fun F=>
 Nb F (.cells #[(.int .i64 0)] 3) fun b118 F=>
 Lr F 2 (Am b1 0) fun v_119=>
 v_119.size=2∧Nb F (.cells #[(.int .i64 0)] 3) fun b121 F=>
 Lr F 2 (Am b1 0) fun v_122=>
 v_122.size=2∧(wr (Array.setIfInBounds zL 0 (Sl.v (Sb b118 1))) 2 v_119.toList).size=4∧(wr (Array.setIfInBounds zL 0 (Sl.v (Sb b121 1))) 2 v_122.toList).size=4∧Nb F (.cells (wr (wr (#[.slice none 0 0,.int .i64 0,.slice none 0 0,.int .i64 0,.slice none 0 0,.int .i64 0,.slice none 0 0,.int .i64 0]:Array Value) 0 (wr (Array.setIfInBounds zL 0 (Sl.v (Sb b118 1))) 2 v_119.toList).toList) 4 (wr (Array.setIfInBounds zL 0 (Sl.v (Sb b121 1))) 2 v_122.toList).toList) 72) fun b124 F=>
 sto F (Am b13 7) (Sl.v (Sb b124 2)) fun F=>
 Lr F 9 (Am b9 0) fun v_126=>
 Ci 20 #[(.agg v_126)] F fun v_127 F=>
 (Bc (v_127=51) (
  Lr F 9 (Am b10 0) fun v_130=>
  Ci 20 #[(.agg v_130)] F fun v_131 F=>
  (Bc (v_131=51) (
   Lr F 9 (Am b11 0) fun v_135=>
   Ci 20 #[(.agg v_135)] F fun v_136 F=>
   (Bc (v_136=0) (
    Lr F 9 (Am b12 0) fun v_140=>
    Ci 20 #[(.agg v_140)] F fun v_141 F=>
    (Bc (v_141=52) (
     Lr F 9 (Am b13 0) fun v_145=>
     Ci 20 #[(.agg v_145)] F fun v_146 F=>
     ja b2 codes_8 (decide (v_146=53)) R F) (
     ja b2 codes_8 false R F))) (
    ja b2 codes_8 false R F))) (
   ja b2 codes_8 false R F))) (
  ja b2 codes_8 false R F))
def I0 (R:VR) (F:PH):Prop:=
 Ca 30 #[(.bool true)] F fun v_23 F=>
 Nb F (.cells zD 33) fun b1 F=>
 aB F (Am b1 0) 2 v_23 fun F=>
 Ca 34 #[] F fun v_24 F=>
 Nb F (.cells zG 39) fun b2 F=>
 aB F (Am b2 0) 9 v_24 fun F=>
 Ca 34 #[] F fun v_25 F=>
 Ca 34 #[] F fun v_26 F=>
 Ca 34 #[] F fun v_27 F=>
 Ca 34 #[] F fun v_28 F=>
 Ca 34 #[] F fun v_29 F=>
 Nb F (.cells zG 39) fun b3 F=>
 Nb F (.cells zG 39) fun b4 F=>
 Nb F (.cells zG 39) fun b5 F=>
 Nb F (.cells zG 39) fun b6 F=>
 Nb F (.cells zG 39) fun b7 F=>
 aB F (Am b3 0) 9 v_25 fun F=>
 aB F (Am b4 0) 9 v_26 fun F=>
 aB F (Am b5 0) 9 v_27 fun F=>
 aB F (Am b6 0) 9 v_28 fun F=>
 aB F (Am b7 0) 9 v_29 fun F=>
 sto F (Am b3 6) (.int .i64 1) fun F=>
 Ls F (Am b4 5) fun v_32=>
 Ix v_32 0 fun a33_=>
 sto F (Addr.add (Addr.add a33_ (Int.toNat 0*13)) 1) (.int .i64 (-1:Int)) fun F=>
 Ls F (Am b5 5) fun v_36=>
 Ix v_36 0 fun a37_=>
 sto F (Addr.add a37_ (Int.toNat 0*13)) (.string ⟨#[]⟩) fun F=>
 Nb F (.cells #[(.string ⟨#[116,114,117,101]⟩)] 9) fun b39 F=>
 sto F (Am b6 0) (Sl.v (Sb b39 1)) fun F=>
 Ca 30 #[(.bool false)] F fun v_41 F=>
 aB F (Am b7 1) 2 v_41 fun F=>
 Lr F 9 (Am b2 0) fun v_43=>
 Ci 20 #[(.agg v_43)] F fun v_44 F=>
 (Bc (v_44=0) (
  Lr F 9 (Am b3 0) fun v_47=>
  Ci 20 #[(.agg v_47)] F fun v_48 F=>
  (Bc (v_48=50) (
   Lr F 9 (Am b4 0) fun v_52=>
   Ci 20 #[(.agg v_52)] F fun v_53 F=>
   (Bc (v_53=50) (
    Lr F 9 (Am b5 0) fun v_57=>
    Ci 20 #[(.agg v_57)] F fun v_58 F=>
    (Bc (v_58=52) (
     Lr F 9 (Am b6 0) fun v_62=>
     Ci 20 #[(.agg v_62)] F fun v_63 F=>
     (Bc (v_63=54) (
      Lr F 9 (Am b7 0) fun v_67=>
      Ci 20 #[(.agg v_67)] F fun v_68 F=>
      gK b1 b2 (decide (v_68=54)) R F) (
      gK b1 b2 false R F))) (
     gK b1 b2 false R F))) (
    gK b1 b2 false R F))) (
   gK b1 b2 false R F))) (
  gK b1 b2 false R F))
theorem Nw (h:I0 R F):ae prog 11 #[] F R:=Rx.sxC (args:=[]) (.T .N (.T .N (.T .N (.T .N (.T .N (.T .N (.T .N (.T .N (.T .N (.J false [(8,.bool)] .N (.T .N (.T .N (.T .N (.T .N (.T .N (.T .N (.T .N (.T .N (.T .N (.T .N (.J false [(14,.bool)] .N (.T .N (.T .N (.T .N (.T .N (.T .N (.T .N (.J false [(22,.bool)] .N .N)))))))))))))))))))))))))))) (by kernel_rfl) h
def Ja (R:VR) (F:PH):Prop:=
 Nb F (.cells zG 39) fun b0 F=>
 Ca 30 #[(.bool true)] F fun v_2 F=>
 Nb F (.cells zD 33) fun b1 F=>
 aB F (Am b1 0) 2 v_2 fun F=>
 Lr F 2 (Am b1 0) fun v_3=>
 Nb F (.cells #[(.string ⟨#[83]⟩)] 9) fun b4 F=>
 Lr F 2 (Am b1 0) fun v_5=>
 v_5.size=2∧(wr (Array.setIfInBounds zP 0 (.string ⟨#[115]⟩)) 3 v_5.toList).size=13∧Nb F (.cells (wr (Array.setIfInBounds zP 0 (.string ⟨#[115]⟩)) 3 v_5.toList) 67) fun b7 F=>
 v_3.size=2∧aB F (Am b0 0) 9 (Array.setIfInBounds (Array.setIfInBounds (wr zG 1 v_3.toList) 4 (Sl.v (Sb b4 1))) 5 (Sl.v (Sb b7 1))) fun F=>
 Rr 9 (Am b0 0) R F
theorem Ny (h:Ja R F):ae prog 34 #[] F R:=Rx.sxC (args:=[]) .N (by kernel_rfl) h
def Jb (R:VR) (F:PH):Prop:=
 Nb F (.cells #[(.int .u8 0),(.int .u8 0),(.int .u8 1),(.int .u8 0),(.int .u8 1),(.int .u8 1),(.int .u8 83),(.int .u8 1),(.int .u8 1),(.int .u8 115),(.int .u8 0),(.int .u8 0),(.int .u8 0),(.int .u8 1),(.int .u8 0),(.int .u8 1),(.int .u8 0),(.int .u8 0),(.int .u8 0),(.int .u8 0),(.int .u8 0),(.int .u8 0),(.int .u8 0),(.int .u8 0),(.int .u8 0)] 5) fun b1 F=>
 R (Sl.v (Sb b1 25)) F
theorem Nz (h:Jb R F):ae prog 36 #[] F R:=Rx.sxC (args:=[]) .N (by kernel_rfl) h
end Go.Proofs.YtenpmjhnhepfdaaGreatDoor
