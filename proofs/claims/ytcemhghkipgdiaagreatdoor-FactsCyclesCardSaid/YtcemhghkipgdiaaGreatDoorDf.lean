/-
  FactsCycles: the walk.
-/
import Derived.Test.YtcemhghkipgdiaaGreatDoorBd
import Derived.Test.YtcemhghkipgdiaaGreatDoorAm
import Derived.Test.YtcemhghkipgdiaaGreatDoorAx
namespace Go.Proofs.YtcemhghkipgdiaaGreatDoor
open Go Go.Proofs.Tryz Tr
set_option maxRecDepth 10000
section
end
def ru (e:Nat):Pr:=mkC bU e [] aL
abbrev rAr (e k:Nat):List Sy:=[⟨false,e⟩,⟨false,k⟩,⟨false,e⟩,⟨false,e⟩]
def arG (g:Gr):Gr:={g with nons:=g.nons++[bU],prods:=g.prods++[ru g.nons.length]}
def cyG (g:Gr) (k:Nat) (r:List Sy) (d:Dia):Gr:={g with prods:=g.prods++[mkC bJ k r d]}
structure CyG (g:Gr) (kk:Nat) (k:Nat) (D:Tr):Prop where
 ok:OkK g kk
 sz:Sz g
 kn:k<g.nons.length
 cyc:∀c,Tg (Stp g.prods (aH g) c) k k↔D.ev c=true
 any:∀n c,Tg (Stp g.prods (aH g) c) n n->D.ev c=true
theorem CyG.has {g:Gr} {kk k:Nat} {D:Tr} (h:CyG g kk k D) (hD:Sx kk D):fM g↔D≠leaf false:=by
 constructor
 ·rintro ⟨n,c,_,t⟩ e;have:=h.any n c t;rw [e] at this;cases this
 ·intro hne;have hex:¬∀c,D.ev c=(leaf false).ev c:=λh=>hne (d9 hD.1 trivial h);obtain ⟨c,hc⟩:=Classical.not_forall.1 hex;refine ⟨k,c,h.kn,(h.cyc c).2 ?_⟩;cases e:D.ev c with
  |true=>rfl
  |false=>rw [e] at hc;exact absurd rfl hc
theorem MG.addN {g:Gr} (h:MG g) {s:ByteArray} (h1:s ∉ g.nons) (h2:s≠emp) (h3:s.size<=10):MG {g with nons:=g.nons++[s]}:=by
 have hl:((g.nons++[s]).length:Int)=g.nons.length+1:=by rw [Rj,Ro];omega
 refine ⟨h.cs,h.fam,⟨d7.2 ⟨h.nons.1,h2,h1⟩,λx hx=> ?_⟩,h.start,h.toks,h.names,λp hp=> ?_,⟨dc (g:=g) (g':={g with nons:=g.nons++[s]}) rfl (Rk _) _ _ h.lvs.1,h.lvs.2⟩,λx hx=>⟨?_,(h.fils x hx).2⟩⟩
 ·rcases Rl.1 hx with hx|hx
  ·exact h.nons.2 x hx
  ·rw [Rh.1 hx];exact h3
 ·obtain ⟨a1,a2,a3,a4,a5,a6,a7,a8⟩:=h.prods p hp;exact ⟨a1,⟨a2.1,by show p.left<((g.nons++[s]).length:Int);omega⟩,a3,λy hy=>⟨(a4 y hy).1,(a4 y hy).2.1,λht=>by have:=(a4 y hy).2.2 ht;show y.i<((g.nons++[s]).length:Int);omega⟩,a5,a6,a7,a8⟩
 ·obtain ⟨b1,b2⟩:=(h.fils x hx).1;refine ⟨b1,?_⟩;rcases b2 with b|⟨b,⟨c1,c2,c3⟩,d⟩|b
  ·exact .inl b
  ·exact .inr (.inl ⟨b,⟨c1,by show x.left<((g.nons++[s]).length:Int);omega,c3⟩,d⟩)
  ·exact .inr (.inr b)
structure Bd4 (g:Gr):Prop where
 c:g.conds.length<=3
 n:g.nons.length<=4
 p:g.prods.length<=20
 t:g.toks.length=11
 l:g.lvs.length<=10
 lp:∀y∈g.lvs,y.ps.length<=2
 f:g.fils.length<=10
theorem Bd4.ok {g:Gr} (hb:Bd4 g) (h:MG g) (hn0:g.nons.length≠0:=by first|assumption|(show (_++_:List ByteArray).length≠0;simp)):OkG g:=by
 obtain ⟨n,hn,hc⟩:=h.cs;have hcl:=hb.c;have hpl:=hb.p;have hnl:=hb.n;have htl:=hb.t;have hll:=hb.l;have hfl:=hb.f;obtain ⟨t,ht,ht0,hf⟩:=h.fam;obtain ⟨o1,o2,o3⟩:=BR hn;refine ⟨?_,⟨by rw [hc];exact o1,by rw [hc];exact o2,by rw [hf];exact ht.fit (by omega),λe=>ht0 (uU (by rw [<- hf];exact e))⟩,?_,⟨h.nons.1,by rw [h.start];exact Ty 0,by rw [h.start];omega⟩,?_,h.lvs.1,λx hx=>(h.fils x hx).1⟩
 ·unfold dC;rw [Bool.or_eq_false_iff];refine ⟨decide_eq_false (by omega),?_⟩;rw [List.any_eq_false];intro p hp;have h1:=(h.prods p hp).rl;have h2:=(h.prods p hp).lay;rw [decide_eq_true_eq];omega
 ·refine oW _ _ ?_ λt ht=>(h.toks.2 t ht).fit (by omega);rw [h.toks.1];exact uW
 ·refine oX _ _ (λp hp=> ?_) (by rw [RV];exact h.names.1);have hI:=h.prods p hp;exact ⟨⟨h.sym ⟨hI.left.1,λh=>(by cases h),λ_=>hI.left.2⟩,λs hs=>h.sym (hI.right s hs)⟩,hI.nm.1,hI.cond.fit (by omega),hI.rank.1,hI.rank.2,hI.det⟩
theorem Bd4.sz {g:Gr} (hb:Bd4 g) (h:MG g):Sz g:=by
 refine ⟨λs hs=> ?_,λt ht=> ?_,λl hl=> ?_,λf hf=> ?_⟩
 ·obtain ⟨n,hn,hc⟩:=h.cs;rw [hc] at hs;have:∀s∈abc,s.size<=1000000000:=by decide
  exact this s (SW hs)
 ·have:oV t∈dx:=by rw [<- h.toks.1];exact Tq ht
  have h2:∀u∈dx.map Tk.smp,u.size<=100000:=by decide
  exact h2 _ (Rv.2 ⟨_,this,rfl⟩)
 ·have:=hb.lp l hl;omega
 ·have:=(h.fils f hf).2.2;omega
theorem uo {s:ByteArray} (h:s.size≠2) (k:Nat):s≠aY k:=λe=>h (by rw [e];rfl)
theorem xU {n nn:Nat} {nm:ByteArray} {left:Int} {r:List Sy} {d:Dia} (hd:SxD n d) (hl:0<=left/\left<nn) (hr:r.length<=5) (hs:∀s∈r,s.t=false/\0<=s.i/\s.i<nn) (hn:nm≠emp/\nm.size<=13):PrI n nn (mkC nm left r d):=
 ⟨hd,hl,hr,λs h=>⟨(hs s h).2.1,λht=>(by rw [(hs s h).1] at ht;cases ht),λ_=>(hs s h).2.2⟩,⟨by show (-1:Int)<=0;decide,by show (0:Int)<=1;decide⟩,by show 0<=2;decide,⟨λy hy=>(by cases hy),iE _ _ _,iE _ _ _,λh=>(by cases h)⟩,hn⟩
theorem DW {g:Gr} {kk:Nat} (h:OkK g kk) {i:Nat} {x:Pr} {t:Tr} (hx:g.prods[i]? =some x) (hc:x.cond=dia t) (ht:t.ok) (hr:∀s∈x.right,s.t=false) (c:Cf):(aH g i).ev c=((tre g.fam).ev c && t.ev c):=by
 rw [h.prs_ev hx,hc,fZ ht];have:(x.right.all λs=> !s.t || (lJ g s.i).ev c)=true:=by rw [R0];intro s hs;rw [hr s hs];rfl
 rw [this,Bool.and_true]
section
variable {x:Rw} {k:Nat} {t:Tr}
theorem Bq (hk:k<(bT x).nons.length) (ht:Sx (bT x).conds.length t):CyG (cyG (bT x) k [⟨false,k⟩] (dia t)) (bT x).conds.length k (ap2 aX t (tre (bT x).fam)):=by
 obtain ⟨mg,bd⟩:=jZ x;have ac:=uq x;obtain ⟨nm,_⟩:=qK x;have okg:OkK (bT x) (bT x).conds.length:=⟨sT x,rfl,by have:=bd.c;omega⟩;generalize bT x=g at*;have hP:PrI g.conds.length g.nons.length (mkC bJ k [⟨false,k⟩] (dia t)):=xU ⟨t,ht,rfl⟩ ⟨by omega,by omega⟩ (by show 1<=5;decide) (λs hs=>by rw [Rh.1 hs];exact ⟨rfl,by show (0:Int)<=k;omega,by show (k:Int)<_;omega⟩) (by decide);have mg2:=mg.addP (p:=mkC bJ k [⟨false,k⟩] (dia t)) (λq hq=>(nm q hq).2.1) (λi=>uo (s:=bJ) (by decide) i) hP;have bd2:=bd.addP (mkC bJ k [⟨false,k⟩] (dia t));have ok2:OkK (cyG g k [⟨false,k⟩] (dia t)) g.conds.length:=⟨mg2.ok bd2 (by decide) (by decide),rfl,okg.le⟩;have hi:(cyG g k [⟨false,k⟩] (dia t)).prods[g.prods.length]? =some (mkC bJ k [⟨false,k⟩] (dia t)):=by show (g.prods++[_])[g.prods.length]? =_;rw [RM (Rk _),Nat.sub_self];rfl
 have hev:∀c,(aH (cyG g k [⟨false,k⟩] (dia t)) g.prods.length).ev c=(ap2 aX t (tre g.fam)).ev c:=λc=>by rw [DW ok2 hi rfl ht.1 (λs hs=>by rw [Rh.1 hs]) c,(ba ht.1 okg.fam.1.1).2];exact Bool.and_comm _ _
 have hmem:∀y∈(cyG g k [⟨false,k⟩] (dia t)).prods,y∈g.prods\/exN g.prods y\/(y.name=bJ/\exK k y):=λy hy=>by
  rcases Rl.1 (show y∈g.prods++[_] from hy) with hy|hy
  ·exact .inl hy
  ·rw [Rh.1 hy];exact .inr (.inr ⟨rfl,rfl,by simp [mkC],λs hs=> .inl (by rw [Rh.1 hs])⟩)
 have he:∀i y,(cyG g k [⟨false,k⟩] (dia t)).prods[i]? =some y->y.name=bJ->i=g.prods.length:=λi y hi hn=>by
  by_cases h:i<g.prods.length
  ·rw [show (cyG g k [⟨false,k⟩] (dia t)).prods[i]? =g.prods[i]? from Rs h] at hi;exact absurd hn (nm y (Rm hi)).2.1
  ·have:=(N5.1 hi).1;have e:(cyG g k [⟨false,k⟩] (dia t)).prods.length=g.prods.length+1:=by show (g.prods++[_]).length=_;rw [Rj,Ro]
   omega
 refine ⟨ok2,mg2.sz bd2,hk,λc=> ?_,λn c tg=> ?_⟩
 ·rw [<- hev c];exact D3 hmem ac hi rfl he (j:=0) rfl λ_ m y hm hy=>mz hm hy
 ·rcases z8 hmem ac tg with h|⟨i,y,h1,h2,h3⟩
  ·omega
  ·rw [he i y h1 h2,hev] at h3;exact h3
theorem xV (hk:k<(bT x).nons.length) (ht:Sx (bT x).conds.length t):CyG (cyG (arG (bT x)) k (rAr (bT x).nons.length k) (dia t)) (bT x).conds.length k (ap2 aX t (tre (bT x).fam)):=by
 obtain ⟨mg,bd⟩:=jZ x;have ac:=uq x;obtain ⟨nm,nsz⟩:=qK x;have okg:OkK (bT x) (bT x).conds.length:=⟨sT x,rfl,by have:=bd.c;omega⟩;generalize bT x=g at*;have hN:bU ∉ g.nons:=λh=>absurd (nsz _ h) (by decide);have mg1:=mg.addN hN (by decide) (by decide);have hl:((g.nons++[bU]).length:Int)=g.nons.length+1:=by rw [Rj,Ro];omega
 have mg1':MG (arG g):=mg1.addP (p:=ru g.nons.length) (λq hq=>(nm q hq).2.2) (λi=>uo (s:=bU) (by decide) i) (xU (aP _) ⟨by omega,by show (g.nons.length:Int)<((g.nons++[bU]).length:Int);omega⟩ (by decide) (λs hs=>by cases hs) (by decide))
 have hP:PrI (arG g).conds.length (arG g).nons.length (mkC bJ k (rAr g.nons.length k) (dia t)):=xU ⟨t,ht,rfl⟩ ⟨by omega,by show (k:Int)<((g.nons++[bU]).length:Int);omega⟩ (by show 4<=5;decide) (λs hs=>by
  have h1:∀s∈rAr g.nons.length k,s.t=false/\(s.i=g.nons.length\/s.i=k):=λs hs=>by simp only [rAr,Ri,Sj,or_false] at hs;rcases hs with rfl|rfl|rfl|rfl<;>simp
  obtain ⟨a,b⟩:=h1 s hs;refine ⟨a,?_⟩;show 0<=s.i/\s.i<((g.nons++[bU]).length:Int)
  rcases b with b|b<;>omega) (by decide)
 have mg2:=mg1'.addP (p:=mkC bJ k (rAr g.nons.length k) (dia t)) (λq hq=>by
  rcases Rl.1 (show q∈g.prods++[ru g.nons.length] from hq) with hq|hq
  ·exact (nm q hq).2.1
  ·rw [Rh.1 hq];show bU≠bJ;decide) (λi=>uo (s:=bJ) (by decide) i) hP
 have bc:=bd.c;have bn:=bd.n;have bp:=bd.p;have bp0:=bd.p0;have bd2:Bd4 (cyG (arG g) k (rAr g.nons.length k) (dia t)):=⟨bd.c,by show (g.nons++_).length<=4;rw [Rj,Ro];omega,by show ((g.prods++_)++_).length<=20;rw [Rj,Rj,Ro,Ro];omega,bd.t,bd.l,bd.lp,bd.f⟩;have ok2:OkK (cyG (arG g) k (rAr g.nons.length k) (dia t)) g.conds.length:=⟨bd2.ok mg2,rfl,okg.le⟩;have hlen:(arG g).prods.length=g.prods.length+1:=by show (g.prods++[_]).length=_;rw [Rj,Ro]
 have hi:(cyG (arG g) k (rAr g.nons.length k) (dia t)).prods[g.prods.length+1]? =some (mkC bJ k (rAr g.nons.length k) (dia t)):=by show ((g.prods++[_])++[_])[g.prods.length+1]? =_;rw [RM (by rw [Rj,Ro];exact Rk _),Rj,Ro,Nat.sub_self];rfl
 have hi0:(cyG (arG g) k (rAr g.nons.length k) (dia t)).prods[g.prods.length]? =some (ru g.nons.length):=by show ((g.prods++[_])++[_])[g.prods.length]? =_;rw [Rs (by rw [Rj,Ro];omega),RM (Rk _),Nat.sub_self];rfl
 have hrt:∀s∈rAr g.nons.length k,s.t=false:=λs hs=>by simp only [rAr,Ri,Sj,or_false] at hs;rcases hs with rfl|rfl|rfl|rfl<;>rfl
 have hev:∀c,(aH (cyG (arG g) k (rAr g.nons.length k) (dia t)) (g.prods.length+1)).ev c=(ap2 aX t (tre g.fam)).ev c:=λc=>by rw [DW ok2 hi rfl ht.1 hrt c,(ba ht.1 okg.fam.1.1).2];exact Bool.and_comm _ _
 have hev0:∀c,(aH (cyG (arG g) k (rAr g.nons.length k) (dia t)) g.prods.length).ev c=(tre g.fam).ev c:=λc=>by rw [DW ok2 hi0 (t:=leaf true) rfl trivial (λs hs=>by cases hs) c];exact Bool.and_true _
 have hmem:∀y∈(cyG (arG g) k (rAr g.nons.length k) (dia t)).prods,y∈g.prods\/exN g.prods y\/(y.name=bJ/\exK k y):=λy hy=>by
  rcases Rl.1 (show y∈(g.prods++[ru g.nons.length])++[_] from hy) with hy|hy
  ·rcases Rl.1 hy with hy|hy
   ·exact .inl hy
   ·rw [Rh.1 hy];refine .inr (.inl ⟨rfl,λ⟨p,hp,h1,h2⟩=> ?_⟩);rcases ac.each p hp with h|h|⟨_,h⟩
    ·exact absurd h h1
    ·exact absurd h h2
    ·have:=((okg.prod hp).2.2.2 ⟨false,1⟩ (by rw [h];simp)).2.1 rfl;show (g.nons.length:Int)≠1;have h':(1:Int)<g.nons.length:=this;omega
  ·rw [Rh.1 hy];refine .inr (.inr ⟨rfl,rfl,by simp [mkC,rAr],λs hs=> ?_⟩);simp only [mkC,rAr,Ri,Sj,or_false] at hs;rcases hs with rfl|rfl|rfl|rfl
   ·exact .inr (by show (k:Int)<g.nons.length;omega)
   ·exact .inl rfl
   ·exact .inr (by show (k:Int)<g.nons.length;omega)
   ·exact .inr (by show (k:Int)<g.nons.length;omega)
 have he:∀i y,(cyG (arG g) k (rAr g.nons.length k) (dia t)).prods[i]? =some y->y.name=bJ->i=g.prods.length+1:=λi y hi hn=>by
  have hlt:=(N5.1 hi).1;have e:(cyG (arG g) k (rAr g.nons.length k) (dia t)).prods.length=g.prods.length+2:=by show ((g.prods++[_])++[_]).length=_;rw [Rj,Rj,Ro,Ro]
  by_cases h:i<g.prods.length
  ·rw [show (cyG (arG g) k (rAr g.nons.length k) (dia t)).prods[i]? =g.prods[i]? by
    show ((g.prods++[_])++[_])[i]? =_
    rw [Rs (by rw [Rj];omega),Rs h]] at hi
   exact absurd hn (nm y (Rm hi)).2.1
  ·by_cases h2:i=g.prods.length
   ·rw [h2,hi0] at hi;cases hi;exact absurd (show bU=bJ from hn) (by decide)
   ·omega
 refine ⟨ok2,bd2.sz mg2,by show k<(g.nons++[_]).length;rw [Rj];omega,λc=> ?_,λn c tg=> ?_⟩
 ·rw [<- hev c];refine D3 hmem ac hi rfl he (j:=1) rfl λhp m y hm hy=> ?_;have hfam:(tre g.fam).ev c=true:=by rw [hev,(ba ht.1 okg.fam.1.1).2] at hp;exact (RO.1 hp).2
  have hd:Der (cyG (arG g) k (rAr g.nons.length k) (dia t)).prods (aH (cyG (arG g) k (rAr g.nons.length k) (dia t))) true c g.nons.length:=
   .mk g.prods.length (ru g.nons.length) hi0 (by rw [hev0];exact hfam) (λ_ h=>(by cases h)) λ_ h=>(by cases h)
  match m,hm,hy with
  |0,_,hy=>cases hy;exact ⟨rfl,hd⟩
  |1,hm,_=>exact absurd rfl hm
  |2,_,hy=>cases hy;exact ⟨rfl,hd⟩
  |3,_,hy=>cases hy;exact ⟨rfl,hd⟩
  |m+4,_,hy=>simp [mkC] at hy
 ·rcases z8 hmem ac tg with h|⟨i,y,h1,h2,h3⟩
  ·omega
  ·rw [he i y h1 h2,hev] at h3;exact h3
end
theorem Ox:∃b z,SlT 28 9 1 b z:=⟨_,_,underlying28,sz9,zr9,rfl,by decide,by decide⟩
section
variable {F G F1:PH} {b10 b12:Nat} {k kk:Nat} {n1:Int} {sv:Sl}
theorem Oy {g:Gr} {nm:ByteArray} {r:List Sy} {t:Tr} {c n tk s p l f sr m:Sl} (lF:F.le G) (hT:Tab G) (hg:GS G g c n tk s p l f) (ht:Sx kk t) (H:CyG g kk k (ap2 aX t (tre g.fam))) (hkx:Int.tmod (IntKind.i64.wrap n1) (sv.len:Int)=k) (hm:RL G m (dia t).1)
  (h:St G F1 [pt b12 (.cells ((mkC nm k r (dia t)).arr sr m Sl.nil) 55),pt b10 (.cells (g.arr c n tk s p l f) 37)]):vZ true b10 n1 sv b12 (RT6 F) F1:=by
 have hk:=H.ok.le;have hfam:=H.ok.fam;unfold vZ;have gv:GV G (g.arr c n tk s p l f) g:=⟨c,n,tk,s,p,l,f,rfl,hg⟩;have d1:DV G #[m.v,vi (dia t).2] (dia t):=DV.mk hm;have d2:DV G #[n.v,vi g.fam.2] (dia (tre g.fam)):=by rw [<- hfam.2];exact DV.mk hg.n
 refine ⟨#[m.v,vi (dia t).2],rfl,km (h.ptAt (i:=0) rfl) rfl,#[n.v,vi g.fam.2],rfl,km (h.ptAt (i:=1) rfl) rfl,?_⟩;refine h.run (P:=λr' G'=>∃y,r'=.tuple #[.agg y,vi 0]/\DV G' y (dia (ap2 aX t (tre g.fam)))) ((gc hk ht hfam.1 d1 d2).mono λr F' ⟨x,a,b,c⟩=>⟨⟨x,a,b⟩,c⟩) λ_ G2 F2 hr l2 h=> ?_;obtain ⟨y,rfl,hy⟩:=hr;have hD:=ht.ap2 (o:=aX) hfam.1;have hhas:=H.has hD;generalize ap2 aX t (tre g.fam)=D at*;refine ⟨_,_,rfl,?_⟩;refine h.var hy.st (λb14 G3 F3 l3 q14 h=> ?_) rfl hy.size;have l13:=aa l2 l3;refine ⟨_,rfl,ae (h.ptAt (i:=1) rfl),?_⟩;refine h.run (jU (hT.le l13) (gv.le l13) H.sz H.ok) λ_ G4 F4 hr l4 h=> ?_;obtain ⟨sl,_,rfl,⟨C,hC,rfl⟩,hsl⟩:=hr;have l14:=aa l13 l4;have hy4:=(hy.le l3).le l4;obtain ⟨sd,ey,_⟩:=id hy;refine ⟨sl,_,rfl,_,ld (h.le _ _ (l4 _ _ q14)) (show y[1]? =some (vi (dia D).2) by rw [ey];rfl),?_⟩;have esl:=hsl.len (by decide);rw [D0] at esl;have hkn:=H.kn;have eC:C (k:Int)=D:=gn (hC.sx _) hD.1 λc=>(hC.iff k c hkn).trans (H.cyc c);have fin:∀{want:Int},(fM g/\want=60\/¬fM g/\want=0)->z9 true b10 n1 sv b14 sl 0 want (RT6 F) F4:=λ{want} hw=>by
  unfold z9;rw [hkx];refine ⟨λ_=>⟨λ_=>⟨λ_=> ?_,λhn=>absurd (by omega) hn⟩,λhn=>absurd rfl hn⟩,λhn=>(by cases hn)⟩;refine ixc hsl (by decide) (by omega) (by omega) λa1 c1 d hd hrow hc=> ?_;rw [N6] at hd hrow ⊢;have hd':=DZ (S:=C) (n:=g.nons.length) (i:=(k:Int)) (by omega) (by omega);rw [N6,hd] at hd';obtain rfl:d=dia (C k):=RQ hd';rw [eC] at hc;refine ⟨c1,Mem.len hc,bX h.le hrow,y,hy.size,ae (h.le _ _ (l4 _ _ q14)),?_⟩;refine h.runv (gE (show DV G4 c1 _ from hc) hy4 (lA hD hk)) λG5 F5 l5 h=>⟨_,rfl,λ_=> ?_,λhn=>(by rw [decide_eq_true rfl] at hn;cases hn)⟩;refine ⟨_,rfl,ae (h.ptAt (i:=1) rfl),?_⟩;have l15:=aa l14 l5;refine h.run (g0 (hT.le l15) (gv.le l15) H.sz H.ok) λ_ G6 F6 hr l6 h=> ?_;have lF6:=aa lF (aa l15 (aa l6 h.le));rcases hr with ⟨h1,rfl⟩|⟨h1,rfl⟩
  ·rcases hw with ⟨_,rfl⟩|⟨h2,_⟩
   ·exact ⟨_,rfl,rfl,lF6⟩
   ·exact absurd h1 h2
  ·rcases hw with ⟨h2,_⟩|⟨_,rfl⟩
   ·exact absurd h2 h1
   ·exact ⟨_,rfl,rfl,lF6⟩
 refine ⟨λhne=>fin (.inl ⟨hhas.2 λe=>hne ((dI hD.1).2 e),rfl⟩),λhe=>fin (.inr ⟨λhc=> ?_,rfl⟩)⟩;exact hhas.1 hc ((dI hD.1).1 (by simpa using he))
theorem IW {g:Gr} {r:List Sy} {t:Tr} {c n tk s p l f sr m:Sl} (lF:F.le G) (hT:Tab G) (hg:GS G g c n tk s p l f) (hp:g.prods.length<=100) (ht:Sx kk t) (H:CyG (cyG g k r (dia t)) kk k (ap2 aX t (tre g.fam))) (hkx:Int.tmod (IntKind.i64.wrap n1) (sv.len:Int)=k) (hm:RL G m (dia t).1) (hr:RL G sr r)
  (h:St G F1 [pt b12 (.cells ((mkC bJ k r (dia t)).arr sr m Sl.nil) 55),pt b10 (.cells (g.arr c n tk s p l f) 37)]):Aa true b10 n1 sv b12 (RT6 F) F1:=by
 obtain ⟨_,_,TP⟩:=IX;unfold Aa;have hP:Mem.rep G (mkC bJ k r (dia t)) ((mkC bJ k r (dia t)).arr sr m Sl.nil):=⟨sr,m,Sl.nil,rfl,hr,hm,RL.nil _⟩;refine ⟨p,ld (h.ptAt (i:=1) rfl) rfl,_,rfl,ae (h.ptAt (i:=0) rfl),?_⟩;refine St.grow TP h hg.p hP (by omega) rfl (λG' F' st=>ae (st.ptAt (i:=0) rfl)) λs' G8 F10 l9 hs' h=> ?_;have hg8:=hg.le l9;refine h.set1 (w':=(cyG g k r (dia t)).arr c n tk s s' l f) (by show 5<9;decide) rfl λF11 h=> ?_;exact Oy (aa lF l9) (hT.le l9) (g:=cyG g k r (dia t)) ⟨hg8.c,hg8.n,hg8.t,hg8.s,hs',hg8.l,hg8.f⟩ ht H hkx (hm.le l9) h
theorem vV {v:Γ} {x:Rw} {nn set:Nat} {around:Bool} (hT:Tab F) (hx:Ao F v x) (hn:nn<256) (hs:set<256):ak prog 6 #[.agg v,.int .u8 (nn:Int),.int .u8 (set:Int),.bool around] F (RT6 F):=by
 obtain ⟨_,_,TN⟩:=Ox;obtain ⟨_,_,TP⟩:=IX;refine cQ6 ?_;unfold bQ6;have hvs:v.size=5:=by obtain ⟨⟨a,b,c,rfl,_⟩,_⟩:=hx;rfl
 refine (St.start F).newG λb4 G1 F1 l1 q4 _ h=> ?_;refine h.runv (Gt (hT.le l1)) λG2 F2 l2 h=>⟨_,rfl,v,hvs,ae (h.le _ _ (l2 _ _ q4)),?_⟩;have l12:=aa l1 l2;refine h.run (P:=λr G'=>∃w,r=.agg w/\GV G' w (bT x)) (uT (hx.le l12)) λ_ G3 F3 hr l3 h=> ?_;obtain ⟨w,rfl,hg⟩:=hr;have l13:=aa l12 l3;refine ⟨w,rfl,?_⟩;obtain ⟨mg,bd⟩:=jZ x;have ac:=uq x;have okx:=sT x;have hplain:=λ(k:Nat) (t:Tr)=>Bq (x:=x) (k:=k) (t:=t);have haround:=λ(k:Nat) (t:Tr)=>xV (x:=x) (k:=k) (t:=t);generalize bT x=g at*;have okg:OkK g g.conds.length:=⟨okx,rfl,by have:=bd.c;omega⟩;have hz:=mg.sz bd;obtain ⟨c,m,t,s,p,l,f,rfl,hs3⟩:=id hg;have es:=hs3.s.len (by decide);have ec:=hs3.c.len (by decide);have ep:=hs3.p.len (by decide);have bc:=bd.c;have bn:=bd.n;have bn0:=bd.n0;have bp:=bd.p;refine h.new λb10 F4 h=> ?_;refine h.put0 (w':=g.arr c m t s p l f) rfl rfl (by simp [al,Sl.v]) λF5 h=> ?_;refine ⟨_,rfl,ae (h.ptAt (i:=0) rfl),?_⟩;refine h.run (g0 (hT.le l13) hg hz okg) λ_ G4 F6 hr l4 h=> ?_;have hno:¬fM g:=λ⟨_,_,_,tg⟩=>Gu ac tg;rcases hr with ⟨hc,_⟩|⟨_,rfl⟩
 ·exact absurd hc hno
 have l14:=aa l13 l4;have hs4:=hs3.le l4;refine ⟨_,rfl,λhn=>absurd rfl hn,λ_=> ?_⟩;refine ⟨s,ld (h.ptAt (i:=0) rfl) rfl,by omega,rfl,?_⟩;have hkl:nn % g.nons.length<g.nons.length:=SC _ (Nat.pos_of_ne_zero bn0);have hkx:Int.tmod (IntKind.i64.wrap (nn:Int)) (s.len:Int)=((nn % g.nons.length:Nat):Int):=by rw [es,aR (by omega) (by omega),gq]
 rw [hkx];generalize nn % g.nons.length=k at*;refine h.newG λb34 G5 F7 l5 q34 _ h=> ?_;refine ⟨c,ld (h.ptAt (i:=0) rfl) rfl,?_⟩;dsimp only;rw [ec];refine h.run (o8 set g.conds.length hs (by omega) _) λ_ G6 F8 hr l6 h=> ?_;obtain ⟨⟨_,rfl,hw⟩,hsx⟩:=hr;obtain ⟨n',rfl,hn'⟩:=hw.out;generalize ip set g.conds.length=d at*;have l46:=aa l5 l6;have l16:=aa l14 l46;refine ⟨_,rfl,rfl,?_⟩;refine h.new λb12 F9 h=> ?_;have hr1:RL G6 (Sl.mk (some (Addr.mk b34 0 none)) 1 1) ([⟨false,(k:Int)⟩]:List Sy):=v8 (l6 _ _ q34) rfl;refine h.put0 (w':=(mkC bJ k [⟨false,(k:Int)⟩] (dia d)).arr (Sl.mk (some (Addr.mk b34 0 none)) 1 1) n' Sl.nil) rfl rfl (by simp [al,Sl.v,mkC]) λF10 h=> ?_;have hs6:=hs4.le l46;refine ⟨λhA=> ?_,λhA=>IW l16 (hT.le l16) hs6 (by omega) hsx (hplain k d hkl hsx) hkx hn' hr1 h⟩;refine ⟨s,ld (h.ptAt (i:=1) rfl) rfl,?_⟩;refine h.new λb45 F11 h=> ?_;have h:=h.imp (A':=own (Sl.mk (some (Addr.mk b45 0 none)) 0 0) 9 1 []) 0 rfl λH _ hH=>fE hH;refine ⟨s,ld (h.ptAt (i:=2) rfl) rfl,?_⟩;have hstr:=RL.strs.1 hs6.s;refine h.app0 TN (hstr.le h.le) (λv hv=>by obtain ⟨q,_,rfl⟩:=Rv.1 hv;simp [al]) (by show 0+s.len<=_;omega) λs1 F12 h hl1=> ?_;rw [RV] at h;have e1:s1.len<=10:=by rw [hl1];show 0+s.len<=_;omega
 refine h.push0 TN (c:= #[.string bU]) rfl (by simp [al]) (by omega) λs2 G7 F13 l7 h hl2=> ?_;refine h.set2 (w':=Gr.arr {g with nons:=g.nons++[bU]} c m t s2 p l f) (by show 4<9;decide) rfl λF14 h=> ?_;obtain ⟨G8,l8,hd8,h⟩:=h.pinO;have hns:RL G8 s2 (g.nons++[bU]):=RL.strs.2 (by rw [R7];exact hd8);have l68:=aa l7 l8;have hs8:=hs6.le l68;obtain ⟨vp,rp,dp⟩:=id hs8.p;refine h.new λb52 F15 h=> ?_;have h:=h.imp (A':=own (Sl.mk (some (Addr.mk b52 0 none)) 0 0) 55 13 []) 0 rfl λH _ hH=>fE hH;refine ⟨p,ld (h.ptAt (i:=2) rfl) rfl,?_⟩;refine h.app0 TP (dp.le h.le) rp.st (by show 0+p.len<=_;omega) λs3 F16 h hl3=> ?_;rw [RV] at h;have e3:s3.len<=100:=by rw [hl3];show 0+p.len<=_;omega
 refine h.run (eV _) λ_ G9 F17 hr l9 h=> ?_;obtain ⟨u,rfl,hu⟩:=hr;obtain ⟨mm,rfl,hmm⟩:=hu.out;refine ⟨_,rfl,rfl,rfl,?_⟩;rw [show ((s.len:Nat):Int)=((g.nons.length:Nat):Int) by rw [es]];refine h.push0 TP (c:=(ru g.nons.length).arr Sl.nil mm Sl.nil) rfl (by simp [al,Sl.v,ru,mkC]) (by omega) λs4 G10 F18 l10 h hl4=> ?_;refine h.set2 (w':=(arG g).arr c m t s2 s4 l f) (by show 5<9;decide) rfl λF19 h=> ?_;obtain ⟨G11,l11,hd11,h⟩:=h.pinO;have l911:=aa l10 l11;have l811:=aa l9 l911;have hps:RL G11 s4 (g.prods++[ru g.nons.length]):=⟨vp++[(ru g.nons.length).arr Sl.nil mm Sl.nil],(rp.le l811).append (.cons ⟨Sl.nil,mm,Sl.nil,rfl,RL.nil _,hmm.le l911,RL.nil _⟩ .nil),by rw [cq,cC];exact hd11⟩;refine ⟨rfl,rfl,rfl,rfl,?_⟩;refine h.newG λb70 G12 F20 l12 q70 _ h=> ?_;have l812:=aa l811 l12;have l612:=aa l68 l812;have hr4:RL G12 (Sl.mk (some (Addr.mk b70 0 none)) 4 4) (rAr g.nons.length k):=⟨(rAr g.nons.length k).map Sy.arr,xY _,RdS.new q70 rfl rfl (Rk _)⟩;refine h.set0 (w':=(mkC bJ k (rAr g.nons.length k) (dia d)).arr (Sl.mk (some (Addr.mk b70 0 none)) 4 4) n' Sl.nil) (by show 2<13;decide) rfl λF21 h=> ?_;have hs12:=hs6.le l612;have l012:=aa l16 l612;have hlp:(arG g).prods.length<=100:=by show (g.prods++[_]).length<=100;rw [Rj,Ro];omega
 exact IW l012 (hT.le l012) (g:=arG g) ⟨hs12.c,hs12.n,hs12.t,hns.le l812,hps.le l12,hs12.l,hs12.f⟩ hlp hsx (haround k d hkl hsx) hkx (hn'.le l612) hr4 h
end
end Go.Proofs.YtcemhghkipgdiaaGreatDoor
