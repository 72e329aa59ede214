/-
  The grammars that Made begins with are valid; made grammars are. Printed by a program (mkIu.py).
-/
import Derived.Test.YtenpmjhnhepfdaaGreatDoorIq
namespace Go.Proofs.YtenpmjhnhepfdaaGreatDoor
open Go Go.Proofs.Tryz Tr
set_option maxRecDepth 10000
theorem lr {n:Nat}:∀(t:Tr) (S:List Tr),(∀x∈S,∃v l h,x=node v l h∧v<n)→bX n t→∀x∈vis t S,∃v l h,x=node v l h∧v<n
 |leaf _,S,hS,_=>hS
 |node v l h,S,hS,⟨h1,h2,h3⟩=>by
  unfold vis
  split
  ·exact hS
  ·intro x hx
   rcases List.mem_append.1 hx with hx|hx
   ·exact lr h _ (lr l S hS h2) h3 x hx
   ·rw [List.mem_singleton.1 hx];exact ⟨v,l,h,rfl,h1⟩
theorem Sx.fit {n:Nat} {t:Tr} (h:Sx n t) (hn:n≤6):gK (dia t) n:=by
 refine ⟨xY h.1 (by have:=h.len hn;omega),fun b hb=> ?_⟩
 obtain ⟨x,hx,rfl⟩:=List.mem_map.1 (show b∈(aL t).map (br (aL t)) from hb)
 obtain ⟨v,l,r,rfl,hv⟩:=lr t [] (fun x hx=>(by cases hx)) h.2 x hx
 show (v:Int)<n
 omega
theorem DQ (t:Tr):(∀b∈(dia t).1,0≤b.v∧0≤b.l∧0≤b.h)∧0≤(dia t).2:=by
 refine ⟨fun b hb=> ?_,by show (0:Int)≤(num (aL t) t:Nat);omega⟩
 obtain ⟨x,hx,rfl⟩:=List.mem_map.1 (show b∈(aL t).map (br (aL t)) from hb)
 cases x with
 |leaf b=>exact ⟨Int.le_refl 0,Int.le_refl 0,Int.le_refl 0⟩
 |node v l h=>exact ⟨by show (0:Int)≤(v:Nat);omega,by show (0:Int)≤(num _ l:Nat);omega,by show (0:Int)≤(num _ h:Nat);omega⟩
theorem tS {t:Tr} (h:(dia t).2=0):t=leaf false:=by
 cases t with
 |leaf b=>cases b with
  |false=>rfl
  |true=>cases h
 |node v l r=>
  have:((num (aL (node v l r)) (node v l r):Nat):Int)=0:=h
  simp only [num] at this
  omega
def SxD (n:Nat) (d:Dia):Prop:=∃t,Sx n t∧d=dia t
theorem SxD.fit {n:Nat} {d:Dia} (h:SxD n d) (hn:n≤6):gK d n:=by obtain ⟨t,h,rfl⟩:=h;exact h.fit hn
theorem SxD.pos {n:Nat} {d:Dia} (h:SxD n d):(∀b∈d.1,0≤b.v∧0≤b.l∧0≤b.h)∧0≤d.2:=by obtain ⟨t,h,rfl⟩:=h;exact DQ t
theorem SxD.len {n:Nat} {d:Dia} (h:SxD n d) (hn:n≤6):d.1.length≤63:=by obtain ⟨t,h,rfl⟩:=h;exact h.brl hn
theorem aR (n:Nat):SxD n aH:=⟨_,Sx.leaf n true,rfl⟩
instance (i:Nat) (x:Nd):Decidable (okN i x):=by unfold okN;infer_instance
theorem mF {l:List Nd} (h1:l≠[]) (h2:∀i:Fin l.length,okN i.1 (l[i.1]'i.2)) (h3:(usL l).Nodup) (h4:∀i:Fin (l.length - 1),(i.1:Int)∈usL l):GoodL l:=
 ⟨h1,fun i x hx=>by obtain ⟨hi,rfl⟩:=List.getElem?_eq_some_iff.1 hx;exact h2 ⟨i,hi⟩,h3,fun i hi=>h4 ⟨i,by omega⟩⟩
theorem rO {l:List Nd} (h:GoodL l) (hl:l.length≤512):fX l=0:=by
 unfold fX
 rw [if_neg (by omega),if_pos h]
theorem xg:GoodL jH.pat:=mF (by decide) (by decide) (by decide) (by decide)
theorem ve:GoodL iE.pat:=mF (by decide) (by decide) (by decide) (by decide)
theorem tT:GoodL fK.pat:=mF (by decide) (by decide) (by decide) (by decide)
theorem DS:LgL jH.pat (bs jH.smp):=by
 obtain ⟨ns,h⟩:=gA xg
 unfold LgL
 generalize bv jH.pat=t at h
 have e3:jH.pat[jH.pat.length - 1]? =some ⟨2,0,0,0,2⟩:=rfl
 have e0:jH.pat[0]? =some ⟨1,97,122,0,0⟩:=rfl
 have e2:jH.pat[2]? =some ⟨4,0,0,1,0⟩:=rfl
 cases h with
 |emp hx hk=>rw [e3] at hx;cases hx;cases hk
 |rng hx hk=>rw [e3] at hx;cases hx;cases hk
 |alt hx hk=>rw [e3] at hx;cases hx;cases hk
 |rep hx hk=>rw [e3] at hx;cases hx;cases hk
 | @seq _ a b x t u na nb hx hk ha hb h1 h2=>
  rw [e3] at hx
  cases hx
  obtain rfl:a=0:=by have:(0:Int)=a:=ha;omega
  obtain rfl:b=2:=by have:(2:Int)=b:=hb;omega
  refine ⟨[120],[],rfl,?_,?_⟩
  ·cases h1 with
   |emp hx hk=>rw [e0] at hx;cases hx;cases hk
   |seq hx hk=>rw [e0] at hx;cases hx;cases hk
   |alt hx hk=>rw [e0] at hx;cases hx;cases hk
   |rep hx hk=>rw [e0] at hx;cases hx;cases hk
   | @rng _ lo hi x hx hk hlo hhi _ _=>
    rw [e0] at hx
    cases hx
    refine ⟨120,rfl,?_,?_⟩
    ·have:(97:Int)=lo:=hlo;omega
    ·have:(122:Int)=hi:=hhi;omega
  ·cases h2 with
   |emp hx hk=>rw [e2] at hx;cases hx;cases hk
   |seq hx hk=>rw [e2] at hx;cases hx;cases hk
   |alt hx hk=>rw [e2] at hx;cases hx;cases hk
   |rng hx hk=>rw [e2] at hx;cases hx;cases hk
   |rep hx hk ha h=>exact .nil
abbrev lV (t:Tk):Tk:={t with cond:=aH}
def Kl (done:List ByteArray) (t:Tk):Prop:=t.name≠emp∧t.name ∉ done∧0≤t.cls∧t.cls≤2∧(t.lit≠emp→t.smp=emp∧t.pat=[])∧(t.lit=emp→fX t.pat=0∧(t.cls=0→t.smp≠emp∧LgL t.pat (bs t.smp))∧(t.cls≠0→t.smp=emp))
def AO (done:List ByteArray):List Tk→Prop
 |[]=>True
 |t::r=>Kl done t∧AO (done++[t.name]) r
theorem nQ {n:Nat}:∀(l:List Tk) (done:List ByteArray),AO done (l.map lV)→(∀t∈l,gK t.cond n)→du n done l
 |[],_,_,_=>trivial
 |t::l,done,⟨⟨h1,h2,h3,h4,h5,h6⟩,h⟩,hf=>⟨⟨h1,h2,h3,h4,hf t (by simp),h5,h6⟩,nQ l _ h fun x hx=>hf x (by simp [hx])⟩
theorem fj {done:List ByteArray} {x:ByteArray} (h1:x≠emp) (h2:x ∉ done):Kl done (tkL x):=⟨h1,h2,Int.le_refl 0,by show (0:Int)≤2;decide,fun _=>⟨rfl,rfl⟩,fun h=>absurd h h1⟩
theorem AQ:AO [] dF:=by
 refine ⟨⟨by decide,by decide,by decide,by decide,fun h=>absurd rfl h,fun _=>⟨rO xg (by decide),fun _=>⟨by decide,DS⟩,fun h=>absurd rfl h⟩⟩,fj (by decide) (by decide),fj (by decide) (by decide),fj (by decide) (by decide),fj (by decide) (by decide),fj (by decide) (by decide),fj (by decide) (by decide),fj (by decide) (by decide),fj (by decide) (by decide),?_,?_,trivial⟩
 ·exact ⟨by decide,by decide,by decide,by decide,fun h=>absurd rfl h,fun _=>⟨rO ve (by decide),fun h=>(by cases h),fun _=>rfl⟩⟩
 ·exact ⟨by decide,by decide,by decide,by decide,fun h=>absurd rfl h,fun _=>⟨rO tT (by decide),fun h=>(by cases h),fun _=>rfl⟩⟩
def abc:List ByteArray:=[⟨#[65]⟩,⟨#[66]⟩,⟨#[67]⟩]
structure PrI (n nn:Nat) (p:Pr):Prop where
 cond:SxD n p.cond
 left:0≤p.left∧p.left<nn
 rl:p.right.length≤5
 right:∀s∈p.right,0≤s.i∧(s.t=true→s.i<9)∧(s.t=false→s.i<nn)
 rank: -1≤p.rank∧p.rank≤1
 lay:p.lay.length≤2
 det:jT p
 nm:p.name≠emp∧p.name.size≤13
structure MG (g:Gr):Prop where
 cs:∃n,n≤3∧g.conds=abc.take n
 fam:∃t,Sx g.conds.length t∧t≠leaf false∧g.fam=dia t
 nons:bj g.nons∧∀s∈g.nons,s.size≤10
 start:g.start=0
 toks:g.toks.map lV=dF∧∀t∈g.toks,SxD g.conds.length t.cond
 names:(g.prods.map Pr.name).Nodup∧∀p∈g.prods,∀k,g.prods.length≤k→k<100→p.name≠bh k
 prods:∀p∈g.prods,PrI g.conds.length g.nons.length p
 lvs:dv g [] g.lvs∧∀l∈g.lvs,SxD g.conds.length l.cond
 fils:∀x∈g.fils,bL g x∧SxD g.conds.length x.cond∧x.toks.length≤2
theorem MG.tok {g:Gr} (h:MG g) {i:Nat} (hi:i<9):∃t,g.toks[i]? =some t∧t.cls=0:=by
 have hl:g.toks.length=11:=by have:=congrArg List.length h.toks.1;rw [List.length_map] at this;exact this
 have hx:=List.getElem?_eq_getElem (show i<g.toks.length by omega)
 refine ⟨_,hx,?_⟩
 have h1:=congrArg (fun l=>l[i]?) h.toks.1
 simp only [List.getElem?_map,hx,Option.map_some] at h1
 have h2:∀j:Fin 9,∀t,dF[j.1]? =some t→t.cls=0:=by
  intro j t ht
  have:∀j:Fin 9,(dF[j.1]?).map Tk.cls=some 0:=by decide
  have:=this j
  rw [ht] at this
  exact Option.some.inj this
 exact h2 ⟨i,hi⟩ (lV _) h1.symm
theorem MG.sym {g:Gr} (h:MG g) {s:Sy} (h1:0≤s.i∧(s.t=true→s.i<9)∧(s.t=false→s.i<g.nons.length)):iZ g s:=by
 refine ⟨h1.1,h1.2.2,fun ht=>h.tok (by have:=h1.2.1 ht;omega)⟩
theorem tU {g:Gr}:∀(l:List Pr) (done:List ByteArray),(∀p∈l,dH g p∧p.name≠emp∧gK p.cond g.conds.length∧-1≤p.rank∧p.rank≤1∧jT p)→(done++l.map Pr.name).Nodup→bY g done l=0
 |[],_,_,_=>rfl
 |p::l,done,h,hn=>by
  obtain ⟨h1,h2,h3,h4,h5,h6⟩:=h p (by simp)
  have hnd:p.name ∉ done:=fun hm=>by
   rw [List.map_cons,List.nodup_append] at hn
   exact hn.2.2 _ hm _ (by simp) rfl
  unfold bY
  rw [if_neg (not_not_intro h1),if_neg (not_not_intro ⟨h2,hnd,h3,h4,h5,h6⟩)]
  refine tU l _ (fun q hq=>h q (by simp [hq])) ?_
  rw [List.append_assoc]
  exact hn
theorem AR {n:Nat} (hn:n≤3):(∀s∈abc.take n,om s)∧bj (abc.take n)∧(abc.take n).length≤3:=by
 have h:n=0∨n=1∨n=2∨n=3:=by omega
 have ok:∀s∈abc,om s:=by
  intro s hs
  unfold om
  rcases List.mem_cons.1 hs with rfl|hs
  ·decide+kernel
  rcases List.mem_cons.1 hs with rfl|hs
  ·decide+kernel
  rcases List.mem_cons.1 hs with rfl|hs
  ·decide+kernel
  cases hs
 refine ⟨fun s hs=>ok s (List.mem_of_mem_take hs),?_,by rw [List.length_take];omega⟩
 unfold bj
 rcases h with rfl|rfl|rfl|rfl<;>decide
theorem MG.ok {g:Gr} {a b:Nat} (h:MG g) (hb:Bd g a b) (ha:a≤2000) (hb':b≤2000):OkG g:=by
 obtain ⟨n,hn,hc⟩:=h.cs
 have hcl:=hb.c
 have hpl:=hb.p
 have hnl:=hb.n
 have htl:=hb.t
 have hll:=hb.l
 have hfl:=hb.f
 obtain ⟨t,ht,ht0,hf⟩:=h.fam
 obtain ⟨o1,o2,o3⟩:=AR hn
 refine ⟨?_,⟨by rw [hc];exact o1,by rw [hc];exact o2,by rw [hf];exact ht.fit (by omega),fun e=>ht0 (tS (by rw [← hf];exact e))⟩,?_,⟨h.nons.1,by rw [h.start];exact Int.le_refl 0,by rw [h.start];have:=hb.n0;omega⟩,?_,h.lvs.1,fun x hx=>(h.fils x hx).1⟩
 ·unfold cn
  rw [Bool.or_eq_false_iff]
  refine ⟨decide_eq_false (by omega),?_⟩
  rw [List.any_eq_false]
  intro p hp
  have h1:=(h.prods p hp).rl
  have h2:=(h.prods p hp).lay
  rw [decide_eq_true_eq]
  omega
 ·refine nQ _ _ ?_ fun t ht=>(h.toks.2 t ht).fit (by omega)
  rw [h.toks.1]
  exact AQ
 ·refine tU _ _ (fun p hp=> ?_) (by rw [List.nil_append];exact h.names.1)
  have hI:=h.prods p hp
  exact ⟨⟨h.sym ⟨hI.left.1,fun h=>(by cases h),fun _=>hI.left.2⟩,fun s hs=>h.sym (hI.right s hs)⟩,hI.nm.1,hI.cond.fit (by omega),hI.rank.1,hI.rank.2,hI.det⟩
theorem MG.sz {g:Gr} {a b:Nat} (h:MG g) (hb:Bd g a b):Sz g:=by
 refine ⟨fun s hs=> ?_,fun t ht=> ?_,fun l hl=> ?_,fun f hf=> ?_⟩
 ·obtain ⟨n,hn,hc⟩:=h.cs
  rw [hc] at hs
  have:∀s∈abc,s.size≤1000000000:=by decide
  exact this s (List.mem_of_mem_take hs)
 ·have:lV t∈dF:=by rw [← h.toks.1];exact List.mem_map_of_mem ht
  have h2:∀u∈dF.map Tk.smp,u.size≤100000:=by decide
  exact h2 _ (List.mem_map.2 ⟨_,this,rfl⟩)
 ·have:=hb.lp l hl;omega
 ·have:=(h.fils f hf).2.2;omega
theorem MG.sm {g:Gr} {a b:Nat} (h:MG g) (hb:Bd g a b) (ha:a≤2000) (hb':b≤2000):Sm g:=by
 have hcl:=hb.c
 have hpl:=hb.p
 have hnl:=hb.n
 have htl:=hb.t
 have hll:=hb.l
 have hfl:=hb.f
 obtain ⟨t,ht,ht0,hf⟩:=h.fam
 refine ⟨by omega,by have:=ht.brl (by omega);rw [hf];omega,by omega,by omega,by omega,by omega,by omega,fun x hx=>⟨?_,?_⟩,fun x hx=>⟨?_,?_,?_⟩,fun x hx=>⟨?_,?_⟩,fun x hx=>⟨?_,?_⟩⟩
 ·have:lV x∈dF:=by rw [← h.toks.1];exact List.mem_map_of_mem hx
  have h2:∀u∈dF.map Tk.pat,u.length≤1000000000:=by decide
  exact h2 _ (List.mem_map.2 ⟨_,this,rfl⟩)
 ·have:=(h.toks.2 x hx).len (by omega);omega
 ·have:=(h.prods x hx).rl;omega
 ·have:=(h.prods x hx).cond.len (by omega);omega
 ·have:=(h.prods x hx).lay;omega
 ·have:=hb.lp x hx;omega
 ·have:=(h.lvs.2 x hx).len (by omega);omega
 ·have:=(h.fils x hx).2.2;omega
 ·have:=(h.fils x hx).2.1.len (by omega);omega
theorem dX {g g':Gr} (hc:g'.conds.length=g.conds.length) (hp:g.prods.length≤g'.prods.length):∀(l:List Lv) (done:List Int),dv g done l→dv g' done l
 |[],_,_=>trivial
 |x::l,done,⟨⟨h1,h2,h3,h4,h5⟩,h⟩=>⟨⟨h1,h2,by rw [hc];exact h3,fun p hp'=>⟨(h4 p hp').1,by have:=(h4 p hp').2;omega⟩,h5⟩,dX hc hp l _ h⟩
theorem vf {g:Gr} {ps:List Pr} {x:Fi} (h:bL g x):bL {g with prods:=g.prods++ps} x:=by
 refine ⟨h.1,?_⟩
 rcases h.2 with ⟨k,⟨a,b,c,p,q,hp,hq,hr⟩,r⟩|h|h
 ·exact .inl ⟨k,⟨a,b,c,p,q,by rw [List.getElem?_append_left (List.getElem?_eq_some_iff.1 hp).1];exact hp,by rw [List.getElem?_append_left (List.getElem?_eq_some_iff.1 hq).1];exact hq,hr⟩,r⟩
 ·exact .inr (.inl h)
 ·exact .inr (.inr h)
theorem rP {i k:Nat} (hi:i<100) (hk:k<100) (h:bh i=bh k):i=k:=by
 have h1:(#[112,UInt8.ofNat (97+i)]:Array UInt8)= #[112,UInt8.ofNat (97+k)]:=congrArg ByteArray.data h
 have h2:=congrArg (fun a=>a[1]?) h1
 have h3:UInt8.ofNat (97+i)=UInt8.ofNat (97+k):=by simpa using h2
 have h4:=congrArg UInt8.toNat h3
 simp at h4
 omega
theorem MG.line {g:Gr} (h:MG g) {p:Pr} (hn:p.name=bh g.prods.length) (hp:PrI g.conds.length g.nons.length p) (hl:g.prods.length<100):MG {g with prods:=g.prods++[p]}:=by
 refine ⟨h.cs,h.fam,h.nons,h.start,h.toks,⟨?_,fun q hq k hk hk2=> ?_⟩,fun q hq=> ?_,⟨dX (g:=g) (g':={g with prods:=g.prods++[p]}) rfl (by show _≤(g.prods++[p]).length;rw [List.length_append];omega) _ _ h.lvs.1,h.lvs.2⟩,fun x hx=>⟨vf (h.fils x hx).1,(h.fils x hx).2⟩⟩
 ·show ((g.prods++[p]).map Pr.name).Nodup
  rw [List.map_append,List.nodup_append]
  refine ⟨h.names.1,by simp,fun x hx y hy=> ?_⟩
  rw [List.map_cons,List.map_nil,List.mem_singleton] at hy
  obtain ⟨q,hq,rfl⟩:=List.mem_map.1 hx
  rw [hy,hn]
  exact h.names.2 q hq _ (Nat.le_refl _) hl
 ·replace hk:(g.prods++[p]).length≤k:=hk
  rw [List.length_append,List.length_singleton] at hk
  rcases List.mem_append.1 hq with hq|hq
  ·exact h.names.2 q hq k (by omega) hk2
  ·rw [List.mem_singleton.1 hq,hn]
   intro e
   have:=rP hl hk2 e
   omega
 ·rcases List.mem_append.1 hq with hq|hq
  ·exact h.prods q hq
  ·rw [List.mem_singleton.1 hq];exact hp
theorem lu (r:List Sy) (lo hi:Int):dm r 0 0 lo hi:=.inl ⟨rfl,rfl⟩
theorem AS {g:Gr} (x:Ln) (hc:g.conds.length≤3) (hn:g.nons.length≠0):PrI g.conds.length g.nons.length (jF g x):=by
 have hlen:(aN g.nons.length x).length≤4:=by unfold aN;rw [List.length_map,List.length_take];omega
 refine ⟨⟨_,jC (by omega),rfl⟩,⟨by show (0:Int)≤((x.left % g.nons.length:Nat):Int);omega,?_⟩,by show (aN _ _).length≤5;omega,fun s hs=> ?_,⟨by show (-1:Int)≤0;decide,by show (0:Int)≤1;decide⟩,by show 0≤2;decide,⟨fun y hy=>(by cases hy),lu _ _ _,lu _ _ _,fun h=>(by cases h)⟩,?_,?_⟩
 ·show ((x.left % g.nons.length:Nat):Int)<_
  have:=Nat.mod_lt x.left (Nat.pos_of_ne_zero hn)
  omega
 ·obtain ⟨b,hb,rfl⟩:=List.mem_map.1 (show s∈(x.right.take 4).map (jE g.nons.length) from hs)
  unfold jE
  split
  ·exact ⟨by show (0:Int)≤((b % 14:Nat):Int);omega,fun _=>by show ((b % 14:Nat):Int)<9;omega,fun h=>(by cases h)⟩
  ·refine ⟨by show (0:Int)≤(((b % 14 - 9) % g.nons.length:Nat):Int);omega,fun h=>(by cases h),fun _=> ?_⟩
   show (((b % 14 - 9) % g.nons.length:Nat):Int)<_
   have:=Nat.mod_lt (b % 14 - 9) (Nat.pos_of_ne_zero hn)
   omega
 ·intro e
  have h2:(2:Nat)=0:=congrArg ByteArray.size (show bh g.prods.length=emp from e)
  cases h2
 ·show (bh g.prods.length).size≤13
  show 2≤13
  decide
theorem DT {n nn:Nat} {p:Pr} (h:PrI n nn p) (h1:p.rank=0) (h2:p.lay=[]) (h3:p.sco=oq) (h4:p.brk=false) (m:Nat):PrI n nn (ci p m):=by
 obtain ⟨a1,a2,a3,a4,a5,a6,a7,a8⟩:=h
 have e1:∀r,dm r oq.d oq.k 1 7:=fun r=>lu r _ _
 have e2:∀r,dm r oq.u oq.a 0 255:=fun r=>lu r _ _
 have hl:∀{q:Pr},q.lay=[]→∀x∈q.lay,vN q.right x:=fun e x hx=>by rw [e] at hx;cases hx
 unfold ci
 split
 ·exact ⟨a1,a2,a3,a4,a5,a6,a7,a8⟩
 rename_i hn0
 split
 ·exact ⟨a1,a2,a3,a4,⟨by show (-1:Int)≤1;decide,by show (1:Int)≤1;decide⟩,a6,⟨a7.1,a7.2.1,a7.2.2.1,fun h=>by rw [show (p.brk=true)=(false=true) by rw [h4]] at h;cases h⟩,a8⟩
 split
 ·exact ⟨a1,a2,a3,a4,⟨by show (-1:Int)≤-1;decide,by show (-1:Int)≤1;decide⟩,a6,⟨a7.1,a7.2.1,a7.2.2.1,fun h=>by rw [show (p.brk=true)=(false=true) by rw [h4]] at h;cases h⟩,a8⟩
 split
 ·refine ⟨a1,a2,a3,a4,a5,a6,⟨a7.1,a7.2.1,a7.2.2.1,fun h=> ?_⟩,a8⟩
  have:vO p:=by
   have:rS p=true:=h
   unfold rS at this
   simpa using this
  exact this
 have hp:0<p.right.length:=Nat.pos_of_ne_zero hn0
 split
 ·have hm:=Nat.mod_lt (m / 8 / 4) hp
  refine ⟨a1,a2,a3,a4,a5,by show 1≤2;decide,⟨fun x hx=> ?_,a7.2.1,a7.2.2.1,fun h=>by rw [show (p.brk=true)=(false=true) by rw [h4]] at h;cases h⟩,a8⟩
  rw [List.mem_singleton.1 hx]
  refine ⟨by show (1:Int)≤((1+m / 8 % 4:Nat):Int);omega,by show ((1+m / 8 % 4:Nat):Int)≤4;omega,by show (0:Int)≤((m / 8 / 4 % p.right.length:Nat):Int);omega,by show ((m / 8 / 4 % p.right.length:Nat):Int)<p.right.length;omega,?_,?_,fun h=> ?_⟩
  ·show (0:Int)≤if m / 8 % 4=0 then 0 else ((p.right.length - 1:Nat):Int)
   split<;>omega
  ·show (if m / 8 % 4=0 then (0:Int) else ((p.right.length - 1:Nat):Int))<p.right.length
   split<;>omega
  ·have h:((1+m / 8 % 4:Nat):Int)=1:=h
   show (if m / 8 % 4=0 then (0:Int) else ((p.right.length - 1:Nat):Int))=0
   rw [if_pos (by omega)]
 split
 ·exact ⟨a1,a2,a3,a4,a5,a6,⟨a7.1,by show dm p.right p.sco.d p.sco.k 1 7;rw [h3];exact e1 _,by show dm p.right p.sco.u p.sco.a 0 255;rw [h3];exact e2 _,fun h=>by rw [show (p.brk=true)=(false=true) by rw [h4]] at h;cases h⟩,a8⟩
 have hlt:=Nat.mod_lt (m / 8) hp
 have ex:(p.right.getD (m / 8 % p.right.length) ⟨false,0⟩).t=true→∃s,p.right[(((m / 8 % p.right.length+1:Nat):Int) - 1).toNat]? =some s∧s.t=true:=fun ht=>by
  rw [show (((m / 8 % p.right.length+1:Nat):Int) - 1).toNat=m / 8 % p.right.length by omega]
  refine ⟨_,List.getElem?_eq_getElem hlt,?_⟩
  rw [List.getD_eq_getElem?_getD,List.getElem?_eq_getElem hlt] at ht
  exact ht
 split
 ·split
  ·rename_i ht
   exact ⟨a1,a2,a3,a4,a5,a6,⟨a7.1,.inr ⟨by show (0:Int)<((m / 8 % p.right.length+1:Nat):Int);omega,by show ((m / 8 % p.right.length+1:Nat):Int)≤p.right.length;omega,ex ht,by show (1:Int)≤((1+m / 8 % 2:Nat):Int);omega,by show ((1+m / 8 % 2:Nat):Int)≤7;omega⟩,lu _ _ _,fun h=>by rw [show (p.brk=true)=(false=true) by rw [h4]] at h;cases h⟩,a8⟩
  ·exact ⟨a1,a2,a3,a4,a5,a6,a7,a8⟩
 split
 ·split
  ·rename_i ht
   exact ⟨a1,a2,a3,a4,a5,a6,⟨a7.1,lu _ _ _,.inr ⟨by show (0:Int)<((m / 8 % p.right.length+1:Nat):Int);omega,by show ((m / 8 % p.right.length+1:Nat):Int)≤p.right.length;omega,ex ht,by show (0:Int)≤((1+m / 8 % 7:Nat):Int);omega,by show ((1+m / 8 % 7:Nat):Int)≤255;omega⟩,fun h=>by rw [show (p.brk=true)=(false=true) by rw [h4]] at h;cases h⟩,a8⟩
  ·exact ⟨a1,a2,a3,a4,a5,a6,a7,a8⟩
 ·exact ⟨a1,a2,a3,a4,a5,a6,a7,a8⟩
theorem vg (p:Pr) (m:Nat):(ci p m).name=p.name:=by
 unfold ci
 repeat' split
 all_goals rfl
theorem MG.lineG {g:Gr} (h:MG g) {a b:Nat} (hb:Bd g a b) (ha:a<100) (x:Ln) (kn:Bool):MG (lineG g x kn):=by
 have hp:=hb.p
 unfold Go.Proofs.YtenpmjhnhepfdaaGreatDoor.lineG
 split
 ·exact h
 ·exact h.line (by rw [vg];rfl) (DT (AS x hb.c hb.n0) rfl rfl rfl rfl _) (by omega)
theorem nR {g:Gr} {y:Lv}:∀(l:List Lv) (done:List Int),dv g done l→Ef g (done++l.flatMap Lv.ps) y→dv g done (l++[y])
 |[],done,_,h=>by
  simp only [List.flatMap_nil,List.append_nil] at h
  exact ⟨h,trivial⟩
 |x::l,done,⟨h1,h2⟩,h=>⟨h1,nR l _ h2 (by rw [List.append_assoc];exact h)⟩
theorem MG.fil {g:Gr} (h:MG g) {y:Fi} (hd:SxD g.conds.length y.cond) (ht:y.toks.length≤2):MG (jk g y):=by
 unfold jk
 split
 ·rename_i hy
  refine ⟨h.cs,h.fam,h.nons,h.start,h.toks,h.names,h.prods,⟨dX (g:=g) (by rfl) (by exact Nat.le_refl _) _ _ h.lvs.1,h.lvs.2⟩,fun x hx=> ?_⟩
  rcases List.mem_append.1 hx with hx|hx
  ·exact h.fils x hx
  ·rw [List.mem_singleton.1 hx];exact ⟨hy,hd,ht⟩
 ·exact h
theorem MG.lvl {g:Gr} (h:MG g) {a b:Nat} (hb:Bd g a b) (x:Ru):MG (mv g x):=by
 have hp0:0<g.prods.length:=Nat.pos_of_ne_zero hb.p0
 have hd:SxD g.conds.length (ruD g x):=⟨_,jC (by have:=hb.c;omega),rfl⟩
 have ha:=Nat.mod_lt x.a hp0
 have hbb:=Nat.mod_lt x.b hp0
 unfold mv
 split
 ·exact h
 ·rename_i hna
  refine ⟨h.cs,h.fam,h.nons,h.start,h.toks,h.names,h.prods,⟨dX (g:=g) (by rfl) (by exact Nat.le_refl _) _ _ (nR _ _ h.lvs.1 ?_),fun y hy=> ?_⟩,h.fils⟩
  ·rw [List.nil_append]
   refine ⟨by show (0:Int)≤((x.c % 4:Nat):Int);omega,by show ((x.c % 4:Nat):Int)≤3;omega,hd.fit (by have:=hb.c;omega),fun p hp=> ?_,?_,fun p hp=> ?_⟩
   ·rcases List.mem_cons.1 hp with rfl|hp
    ·omega
    ·split at hp
     ·rw [List.mem_singleton.1 hp];omega
     ·cases hp
   ·show (_::_).Nodup
    rw [List.nodup_cons]
    split
    ·rename_i hq
     refine ⟨?_,by simp⟩
     rw [List.mem_singleton]
     omega
    ·exact ⟨by simp,.nil⟩
   ·rcases List.mem_cons.1 hp with rfl|hp
    ·exact hna
    ·split at hp
     ·rename_i hq
      rw [List.mem_singleton.1 hp];exact hq.2
     ·cases hp
  ·rcases List.mem_append.1 hy with hy|hy
   ·exact h.lvs.2 y hy
   ·rw [List.mem_singleton.1 hy];exact hd
theorem zg {g g':Gr} (h1:g'.conds=g.conds) (h2:g'.prods=g.prods) (h3:g'.nons=g.nons) (ht:∀(i:Nat) (t:Tk),g.toks[i]? =some t→∃t':Tk,g'.toks[i]? =some t'∧t'.cls=t.cls∧t'.lit=t.lit) {x:Fi} (h:bL g x):bL g' x:=by
 unfold bL at h ⊢
 unfold me at h ⊢
 rw [h1,h2,h3]
 refine ⟨h.1,?_⟩
 rcases h.2 with h|⟨k,⟨a,b,c1,c2,c3⟩,r⟩|⟨k,⟨⟨c1,c2,c3⟩,a,t,t1,t2,t3⟩,r⟩
 ·exact .inl h
 ·refine .inr (.inl ⟨k,⟨a,b,c1,fun n hn=> ?_,c3⟩,r⟩)
  obtain ⟨n0,t,t1,t2⟩:=c2 n hn
  obtain ⟨t',u1,u2,u3⟩:=ht _ _ t1
  exact ⟨n0,t',u1,by show decide (t'.cls=0)=true;rw [u2];exact t2⟩
 ·obtain ⟨t',u1,u2,u3⟩:=ht _ _ t1
  refine .inr (.inr ⟨k,⟨⟨c1,fun n hn=> ?_,c3⟩,a,t',u1,by rw [u2];exact t2,by rw [u3];exact t3⟩,r⟩)
  obtain ⟨n0,t,t1,t2⟩:=c2 n hn
  obtain ⟨t',u1,u2,u3⟩:=ht _ _ t1
  exact ⟨n0,t',u1,by show (!decide (t'.lit=emp))=true;rw [u3];exact t2⟩
theorem MG.tokG {g:Gr} (h:MG g) {a b:Nat} (hb:Bd g a b) (x:Ru):MG (tokG g x):=by
 have hd:SxD g.conds.length (ruD g x):=⟨_,jC (by have:=hb.c;omega),rfl⟩
 unfold Go.Proofs.YtenpmjhnhepfdaaGreatDoor.tokG
 refine ⟨h.cs,h.fam,h.nons,h.start,⟨?_,fun t ht=> ?_⟩,h.names,h.prods,⟨dX (g:=g) (by rfl) (by exact Nat.le_refl _) _ _ h.lvs.1,h.lvs.2⟩,fun y hy=>⟨zg (g:=g) (by rfl) (by rfl) (by rfl) (fun i t ht=> ?_) (h.fils y hy).1,(h.fils y hy).2⟩⟩
 ·rw [← h.toks.1]
  apply List.ext_getElem?
  intro i
  simp only [List.getElem?_map,List.getElem?_modify]
  cases g.toks[i]? with
  |none=>rfl
  |some t=>
   simp only [Option.map_some]
   split<;>rfl
 ·obtain ⟨i,hi⟩:=List.mem_iff_getElem?.1 ht
  rw [List.getElem?_modify] at hi
  cases ht':g.toks[i]? with
  |none=>rw [ht'] at hi;simp at hi
  |some u=>
   rw [ht'] at hi
   simp only [Option.map_eq_map,Option.map_some,Option.some.injEq] at hi
   subst hi
   split
   ·exact hd
   ·exact h.toks.2 u (List.mem_of_getElem? ht')
 ·show ∃t',(g.toks.modify (x.a % 9) _)[i]? =some t'∧_
  rw [List.getElem?_modify,ht]
  refine ⟨_,rfl,?_⟩
  simp only [id]
  split<;>exact ⟨rfl,rfl⟩
theorem MG.ruleG {g:Gr} (h:MG g) {a b:Nat} (hb:Bd g a b) (x:Ru):MG (ruleG g x):=by
 have hd:SxD g.conds.length (ruD g x):=⟨_,jC (by have:=hb.c;omega),rfl⟩
 unfold Go.Proofs.YtenpmjhnhepfdaaGreatDoor.ruleG
 split
 ·exact h.lvl hb x
 split
 ·exact h.fil hd (by show 0≤2;decide)
 split
 ·exact h.fil hd (by show 1≤2;decide)
 split
 ·exact h.fil hd (by show 1≤2;decide)
 ·exact h.tokG hb x
theorem MG.lines {x:Rw}:∀(l:List Ln) {g:Gr} {a b:Nat},MG g→Bd g a b→a+l.length<100→MG (eU x l g)
 |[],g,a,b,h,_,_=>h
 |y::l,g,a,b,h,hb,hl=>by
  rw [List.length_cons] at hl
  exact MG.lines (x:=x) l (h.lineG hb (by omega) y (cK x)) (xn hb y (cK x)) (by omega)
theorem MG.rules:∀(l:List Ru) {g:Gr} {a b:Nat},MG g→Bd g a b→MG (dY l g)
 |[],g,a,b,h,_=>h
 |y::l,g,a,b,h,hb=>MG.rules l (h.ruleG hb y) (xo hb y)
theorem MG.famG {g:Gr} (h:MG g) {a b:Nat} (hb:Bd g a b) (x:Rw):MG (famG x g):=by
 unfold Go.Proofs.YtenpmjhnhepfdaaGreatDoor.famG
 split
 ·rename_i hc
  refine ⟨h.cs,⟨tV x g.conds.length,jj (n:=g.conds.length) _ (by have:=hb.c;omega) g.conds.length 0 0 (by omega),fun e=>hc.2 (by rw [e];rfl),rfl⟩,h.nons,h.start,h.toks,h.names,h.prods,⟨dX (g:=g) (by rfl) (by exact Nat.le_refl _) _ _ h.lvs.1,h.lvs.2⟩,h.fils⟩
 ·exact h
instance decSy (q:Option Sy):Decidable (∃s,q=some s∧s.t=true):=
 match q with
 |none=>isFalse fun ⟨_,h,_⟩=>by cases h
 |some s=>if h:s.t=true then isTrue ⟨s,rfl,h⟩ else isFalse fun ⟨_,h1,h2⟩=>by cases h1;exact h h2
instance decEntry (r:List Sy) (k v lo hi:Int):Decidable (dm r k v lo hi):=by unfold dm;infer_instance
instance decLay (r:List Sy) (x:Cn):Decidable (vN r x):=by unfold vN;infer_instance
instance decBrk (p:Pr):Decidable (vO p):=by unfold vO;infer_instance
instance decDet (p:Pr):Decidable (jT p):=by unfold jT;infer_instance
def Ii (nn:Nat) (p:Pr):Prop:=(0≤p.left∧p.left<nn)∧p.right.length≤5∧(∀s∈p.right,0≤s.i∧(s.t=true→s.i<9)∧(s.t=false→s.i<nn))∧(-1≤p.rank∧p.rank≤1)∧p.lay.length≤2∧jT p∧(p.name≠emp∧p.name.size≤13)
instance decPri (nn:Nat) (p:Pr):Decidable (Ii nn p):=by unfold Ii;infer_instance
theorem aX {n nn:Nat} {p:Pr} (h:Ii nn p) (hc:SxD n p.cond):PrI n nn p:=by
 obtain ⟨h1,h2,h3,h4,h5,h6,h7⟩:=h
 exact ⟨hc,h1,h2,h3,h4,h5,h6,h7⟩
theorem eT {n v:Nat} (hv:v<n) (hn:n≤6):SxD n (dia (tv v)):=⟨_,Sx.tv hv hn,rfl⟩
theorem mG {n v:Nat} (hv:v<n) (hn:n≤6):SxD n (cI v):=⟨_,(Sx.tv hv hn).ap2 (Sx.leaf n true),rfl⟩
def DU (s:ByteArray):Prop:=s.size≠2∨s.data[0]?≠some 112
instance (s:ByteArray):Decidable (DU s):=by unfold DU;infer_instance
theorem DW {s:ByteArray} (h:DU s) (k:Nat):s≠bh k:=by
 intro e
 rcases h with h|h
 ·exact h (by rw [e];rfl)
 ·exact h (by rw [e];rfl)
theorem nS {g:Gr} {n:Nat} (hn:n≤3) (hc:g.conds=abc.take n) (hf:g.fam=aH) (ht:g.toks=dF) (hs:g.start=0) (h1:bj g.nons) (h2:∀s∈g.nons,s.size≤10) (h3:(g.prods.map Pr.name).Nodup) (h4:∀s∈g.prods.map Pr.name,DU s)
  (h5:∀p∈g.prods,PrI g.conds.length g.nons.length p) (h6:dv g [] g.lvs∧∀l∈g.lvs,SxD g.conds.length l.cond) (h7:∀x∈g.fils,bL g x∧SxD g.conds.length x.cond∧x.toks.length≤2):MG g:=by
 have e:dF.map lV=dF:=rfl
 refine ⟨⟨n,hn,hc⟩,⟨_,Sx.leaf _ true,by simp,hf⟩,⟨h1,h2⟩,hs,⟨by rw [ht];exact e,fun t htm=> ?_⟩,⟨h3,fun p hp k _ _=>DW (h4 _ (List.mem_map_of_mem hp)) k⟩,h5,h6,h7⟩
 rw [ht,← e] at htm
 obtain ⟨u,_,rfl⟩:=List.mem_map.1 htm
 exact aR _
theorem DX {g:Gr} (ht:g.toks=dF) (i:Nat) {kd:Tk→Bool} {t:Tk} (h:dF[i]? =some t) (hk:kd t=true):0≤(i:Int)∧∃t,g.toks[(i:Int).toNat]? =some t∧kd t=true:=⟨by omega,t,by rw [ht,Int.toNat_natCast];exact h,hk⟩
theorem Km {g:Gr} {kd:Tk→Bool} {i:Int} (h:0≤i∧∃t,g.toks[i.toNat]? =some t∧kd t=true):eK g kd [i]:=by
 refine ⟨by simp,fun n hn=>by rw [List.mem_singleton.1 hn];exact h,fun j x y _ hy=> ?_⟩
 simp at hy
theorem OW {g:Gr} {kd:Tk→Bool} {i j:Int} (h:0≤i∧∃t,g.toks[i.toNat]? =some t∧kd t=true) (h':0≤j∧∃t,g.toks[j.toNat]? =some t∧kd t=true) (hij:i<j):eK g kd [i,j]:=by
 refine ⟨by simp,fun n hn=> ?_,fun k x y hx hy=> ?_⟩
 ·rcases List.mem_cons.1 hn with rfl|hn
  ·exact h
  ·rw [List.mem_singleton.1 hn];exact h'
 ·match k with
  |0=>
   simp at hx hy
   subst hx hy
   exact hij
  |k+1=>simp at hy
theorem nT:MG cR:=by
 refine nS (n:=2) (by decide) rfl rfl rfl rfl (by unfold bj;decide) (by decide) (by decide) (by decide) (fun p hp=> ?_) ⟨?_,?_⟩ ?_
 ·rcases List.mem_cons.1 hp with rfl|hp
  ·exact aX (by decide) (aR _)
  rcases List.mem_cons.1 hp with rfl|hp
  ·exact aX (by decide) (aR _)
  rcases List.mem_cons.1 hp with rfl|hp
  ·exact aX (by decide) (aR _)
  rcases List.mem_cons.1 hp with rfl|hp
  ·exact aX (by decide) (aR _)
  rcases List.mem_cons.1 hp with rfl|hp
  ·exact aX (by decide) (eT (by decide) (by decide))
  cases hp
 ·refine ⟨⟨by decide,by decide,(aR 2).fit (by decide),by decide,by decide,by decide⟩,⟨by decide,by decide,(aR 2).fit (by decide),by decide,by decide,by decide⟩,⟨by decide,by decide,(mG (n:=2) (v:=0) (by decide) (by decide)).fit (by decide),by decide,by decide,by decide⟩,trivial⟩
 ·intro l hl
  rcases List.mem_cons.1 hl with rfl|hl
  ·exact aR _
  rcases List.mem_cons.1 hl with rfl|hl
  ·exact aR _
  rcases List.mem_cons.1 hl with rfl|hl
  ·exact mG (by decide) (by decide)
  cases hl
 ·intro x hx
  cases hx
theorem qj:MG cj:=by
 refine nS (n:=2) (by decide) rfl rfl rfl rfl (by unfold bj;decide) (by decide) (by decide) (by decide) (fun p hp=> ?_) ⟨?_,?_⟩ ?_
 ·rcases List.mem_cons.1 hp with rfl|hp
  ·exact aX (by decide) (aR _)
  rcases List.mem_cons.1 hp with rfl|hp
  ·exact aX (by decide) (aR _)
  rcases List.mem_cons.1 hp with rfl|hp
  ·exact aX (by decide) (aR _)
  rcases List.mem_cons.1 hp with rfl|hp
  ·exact aX (by decide) (aR _)
  rcases List.mem_cons.1 hp with rfl|hp
  ·exact aX (by decide) (aR _)
  cases hp
 ·trivial
 ·intro l hl
  cases hl
 ·intro x hx
  rcases List.mem_cons.1 hx with rfl|hx
  ·exact ⟨⟨(eT (n:=2) (v:=0) (by decide) (by decide)).fit (by decide),.inl ⟨.inr rfl,⟨by decide,by decide,by decide,_,_,rfl,rfl,rfl⟩,rfl,rfl,rfl⟩⟩,eT (by decide) (by decide),by decide⟩
  rcases List.mem_cons.1 hx with rfl|hx
  ·exact ⟨⟨(eT (n:=2) (v:=1) (by decide) (by decide)).fit (by decide),.inr (.inr ⟨rfl,⟨OW (DX rfl 5 rfl (by decide)) (DX rfl 6 rfl (by decide)) (by decide),by decide,_,rfl,rfl,rfl⟩,rfl,rfl,rfl,rfl⟩)⟩,eT (by decide) (by decide),by decide⟩
  cases hx
theorem mu:MG d7:=by
 refine nS (n:=2) (by decide) rfl rfl rfl rfl (by unfold bj;decide) (by decide) (by decide) (by decide) (fun p hp=> ?_) ⟨?_,?_⟩ ?_
 ·rcases List.mem_cons.1 hp with rfl|hp
  ·exact aX (by decide) (aR _)
  rcases List.mem_cons.1 hp with rfl|hp
  ·exact aX (by decide) (aR _)
  rcases List.mem_cons.1 hp with rfl|hp
  ·exact aX (by decide) (aR _)
  rcases List.mem_cons.1 hp with rfl|hp
  ·exact aX (by decide) (aR _)
  rcases List.mem_cons.1 hp with rfl|hp
  ·exact aX (by decide) (aR _)
  rcases List.mem_cons.1 hp with rfl|hp
  ·exact aX (by decide) (aR _)
  rcases List.mem_cons.1 hp with rfl|hp
  ·exact aX (by decide) (eT (by decide) (by decide))
  cases hp
 ·trivial
 ·intro l hl
  cases hl
 ·intro x hx
  cases hx
theorem zh:MG mJ:=by
 refine nS (n:=2) (by decide) rfl rfl rfl rfl (by unfold bj;decide) (by decide) (by decide) (by decide) (fun p hp=> ?_) ⟨?_,?_⟩ ?_
 ·rcases List.mem_cons.1 hp with rfl|hp
  ·exact aX (by decide) (aR _)
  rcases List.mem_cons.1 hp with rfl|hp
  ·exact aX (by decide) (aR _)
  rcases List.mem_cons.1 hp with rfl|hp
  ·exact aX (by decide) (aR _)
  rcases List.mem_cons.1 hp with rfl|hp
  ·exact aX (by decide) (aR _)
  rcases List.mem_cons.1 hp with rfl|hp
  ·exact aX (by decide) (eT (by decide) (by decide))
  cases hp
 ·trivial
 ·intro l hl
  cases hl
 ·intro x hx
  cases hx
theorem vj:MG jI:=by
 refine nS (n:=2) (by decide) rfl rfl rfl rfl (by unfold bj;decide) (by decide) (by decide) (by decide) (fun p hp=> ?_) ⟨?_,?_⟩ ?_
 ·rcases List.mem_cons.1 hp with rfl|hp
  ·exact aX (by decide) (aR _)
  rcases List.mem_cons.1 hp with rfl|hp
  ·exact aX (by decide) (aR _)
  rcases List.mem_cons.1 hp with rfl|hp
  ·exact aX (by decide) (aR _)
  rcases List.mem_cons.1 hp with rfl|hp
  ·exact aX (by decide) (aR _)
  rcases List.mem_cons.1 hp with rfl|hp
  ·exact aX (by decide) (aR _)
  rcases List.mem_cons.1 hp with rfl|hp
  ·exact aX (by decide) (eT (by decide) (by decide))
  cases hp
 ·trivial
 ·intro l hl
  cases hl
 ·intro x hx
  rcases List.mem_cons.1 hx with rfl|hx
  ·exact ⟨⟨(eT (n:=2) (v:=0) (by decide) (by decide)).fit (by decide),.inr (.inl ⟨.inl rfl,⟨by decide,by decide,Km (DX rfl 0 rfl (by decide))⟩,rfl,rfl,rfl,rfl⟩)⟩,eT (by decide) (by decide),by decide⟩
  rcases List.mem_cons.1 hx with rfl|hx
  ·exact ⟨⟨(mG (n:=2) (v:=1) (by decide) (by decide)).fit (by decide),.inr (.inl ⟨.inr rfl,⟨by decide,by decide,Km (DX rfl 1 rfl (by decide))⟩,rfl,rfl,rfl,rfl⟩)⟩,mG (by decide) (by decide),by decide⟩
  cases hx
theorem vk:MG jJ:=by
 refine nS (n:=2) (by decide) rfl rfl rfl rfl (by unfold bj;decide) (by decide) (by decide) (by decide) (fun p hp=> ?_) ⟨?_,?_⟩ ?_
 ·rcases List.mem_cons.1 hp with rfl|hp
  ·exact aX (by decide) (aR _)
  rcases List.mem_cons.1 hp with rfl|hp
  ·exact aX (by decide) (aR _)
  rcases List.mem_cons.1 hp with rfl|hp
  ·exact aX (by decide) (aR _)
  rcases List.mem_cons.1 hp with rfl|hp
  ·exact aX (by decide) (aR _)
  rcases List.mem_cons.1 hp with rfl|hp
  ·exact aX (by decide) (eT (by decide) (by decide))
  cases hp
 ·trivial
 ·intro l hl
  cases hl
 ·intro x hx
  cases hx
theorem AT {k:Nat} (hk:k<6):MG (bS k):=by
 have h:k=0∨k=1∨k=2∨k=3∨k=4∨k=5:=by omega
 rcases h with rfl|rfl|rfl|rfl|rfl|rfl
 ·exact nT
 ·exact qj
 ·exact mu
 ·exact zh
 ·exact vj
 ·exact vk
theorem AU (x:Rw):MG (gg x):=by
 unfold gg
 split
 ·rename_i h
  exact AT (of_decide_eq_true h)
 ·have hn:(eH x).length≠0:=by unfold eH;rw [List.length_take];simp
  refine nS (n:=x.n % 4) (by omega) rfl rfl rfl rfl ?_ (fun s hs=> ?_) (by show ([⟨#[102,105,114,115,116]⟩]:List ByteArray).Nodup;simp) (fun s hs=>by rw [List.mem_singleton.1 (show s∈([⟨#[102,105,114,115,116]⟩]:List ByteArray) from hs)];decide) (fun p hp=> ?_) ⟨trivial,fun l hl=>(by cases hl)⟩ fun x hx=>by cases hx
  ·have h:x.n / 4 % 3=0∨x.n / 4 % 3=1∨x.n / 4 % 3=2:=by omega
   show bj (eH x)
   unfold eH
   rcases h with h|h|h<;>rw [h]<;>(unfold bj;decide)
  ·have:∀s∈([⟨#[83]⟩,⟨#[80]⟩,⟨#[81]⟩]:List ByteArray),s.size≤10:=by decide
   exact this s (List.mem_of_mem_take hs)
  ·rw [List.mem_singleton.1 hp]
   refine aX ⟨⟨by decide,?_⟩,by decide,?_,by decide,by decide,by decide,by decide⟩ (aR _)
   ·show (0:Int)<(eH x).length
    omega
   ·intro s hs
    rw [List.mem_singleton.1 hs]
    exact ⟨by decide,fun _=>by decide,fun h=>(by cases h)⟩
theorem mH (x:Rw):MG (gD x)∧Bd (gD x) 18 10:=by
 have hm:cz x≤10:=by unfold cz;split<;>decide
 have b1:=AW (x:=x) (nU x)
 have m1:=(AU x).famG (nU x) x
 have b2:=nV (x:=x) (x.lines.take (cz x)) b1
 have hl:(x.lines.take (cz x)).length≤10:=by rw [List.length_take];omega
 have hr:(x.rules.take 6).length≤6:=by rw [List.length_take];omega
 have m2:=MG.lines (x:=x) (x.lines.take (cz x)) m1 b1 (by omega)
 have b3:=nW (x.rules.take 6) b2
 have m3:=MG.rules (x.rules.take 6) m2 b2
 refine ⟨m3,?_⟩
 obtain ⟨c1,c2,c3,c4,c5,c6,c7,c8,c9⟩:=b3
 exact ⟨c1,c2,c3,c4,by unfold gD;omega,c6,by unfold gD;omega,c8,by unfold gD;omega⟩
theorem xh (x:Rw):OkG (gD x):=(mH x).1.ok (mH x).2 (by decide) (by decide)
end Go.Proofs.YtenpmjhnhepfdaaGreatDoor
