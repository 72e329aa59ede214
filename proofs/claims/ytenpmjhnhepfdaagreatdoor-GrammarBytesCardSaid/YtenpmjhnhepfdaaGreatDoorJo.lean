/-
  RoundTrip and Bytes: the walks.
-/
import Derived.Test.YtenpmjhnhepfdaaGreatDoorJk
import Derived.Test.YtenpmjhnhepfdaaGreatDoorIu
import Derived.Test.YtenpmjhnhepfdaaGreatDoorJm
import Derived.Test.YtenpmjhnhepfdaaGreatDoorTopj
namespace Go.Proofs.YtenpmjhnhepfdaaGreatDoor
open Go Go.Proofs.Tryz Tr
set_option maxRecDepth 10000
theorem i63 {x:Int} (h0:0≤x) (h1:x≤1000000000000):I63 x:=⟨h0,by omega⟩
theorem n63 {n:Nat} (h:n≤1000000000000):N63 n:=by show n<128 ^ 9;omega
theorem u0 {d:Dia} (h:chk d=0):pD d∧d.1.length≤4096:=by
 unfold chk at h
 split at h
 ·cases h
 rename_i hl
 split at h
 ·rename_i hv
  obtain ⟨t,hk,rfl⟩:=hv
  have hlen:(aL t).length≤4096:=by
   have:(dia t).1.length=(aL t).length:=aO _
   omega
  refine ⟨⟨⟨n63 (by omega),fun b hb=> ?_⟩,?_⟩,by omega⟩
  ·obtain ⟨x,hx,rfl⟩:=List.mem_map.1 (show b∈(aL t).map (br (aL t)) from hb)
   obtain ⟨ok,v,l,r,rfl,hl',hr'⟩:=(cu hk).mem x hx
   have h1:=cq hl'
   have h2:=cq hr'
   have h3:=ok.1
   exact ⟨i63 (by show (0:Int)≤(v:Nat);omega) (by show ((v:Nat):Int)≤_;omega),i63 (by show (0:Int)≤(num _ l:Nat);omega) (by show ((num _ l:Nat):Int)≤_;omega),i63 (by show (0:Int)≤(num _ r:Nat);omega) (by show ((num _ r:Nat):Int)≤_;omega)⟩
  ·have:=cq (ca hk)
   exact i63 (by show (0:Int)≤(num _ t:Nat);omega) (by show ((num _ t:Nat):Int)≤_;omega)
 ·cases h
theorem JZ {l:List Nd} (h:fX l=0):l.length≤512∧∀x∈l,pNd x:=by
 unfold fX at h
 split at h
 ·cases h
 rename_i hl
 split at h
 ·rename_i hg
  refine ⟨by omega,fun x hx=> ?_⟩
  obtain ⟨i,hi⟩:=List.getElem?_of_mem hx
  have hil:=(List.getElem?_eq_some_iff.1 hi).1
  obtain ⟨a1,a2,a3,a4,a5,a6,a7⟩:=hg.ok i x hi
  have hk:0≤x.k∧x.k≤4:=by
   unfold ar at a1
   split at a1
   ·omega
   split at a1
   ·omega
   split at a1
   ·omega
   ·omega
  refine ⟨i63 hk.1 (by omega),?_,?_,?_,?_⟩
  ·by_cases e:x.k=1
   ·have:=a2 e;exact i63 (by omega) (by omega)
   ·rw [(a3 e).1];exact i63 (by omega) (by omega)
  ·by_cases e:x.k=1
   ·have:=a2 e;exact i63 (by omega) (by omega)
   ·rw [(a3 e).2];exact i63 (by omega) (by omega)
  ·by_cases e:ar x.k<1
   ·rw [a4 e];exact i63 (by omega) (by omega)
   ·have:=a6 (by omega);exact i63 (by omega) (by omega)
  ·by_cases e:ar x.k<2
   ·rw [a5 e];exact i63 (by omega) (by omega)
   ·have:=a7 (by omega);exact i63 (by omega) (by omega)
 ·cases h
theorem kY:∀(k n:Nat),n<128 ^ (k+1)→(dZ n).length≤k+1
 |0,n,h=>by rw [bK (by simpa using h)];exact Nat.le_refl _
 |k+1,n,h=>by
  by_cases hn:n<128
  ·rw [bK hn];simp
  ·rw [fN hn,List.length_cons]
   have:=kY k (n / 128) (by rw [Nat.pow_succ] at h;omega)
   omega
theorem bk {x:Int} (h:I63 x):(eI x).length≤9:=kY 8 _ (by have:=h.1;have:=h.2;omega)
theorem lT {s:ByteArray} (h:pS s):(eS s).length≤9+s.size:=by
 unfold eS
 rw [List.length_append,bE]
 have:=kY 8 _ h
 omega
theorem kZ {α:Type} {f:α→List Nat} {M:Nat}:∀{l:List α},(∀x∈l,(f x).length≤M)→(l.flatMap f).length≤l.length*M
 |[],_=>by simp
 |x::l,h=>by
  rw [List.flatMap_cons,List.length_append,List.length_cons,Nat.succ_mul]
  have:=h x (by simp)
  have:=kZ (l:=l) fun y hy=>h y (by simp [hy])
  omega
theorem eF {α:Type} {f:α→List Nat} {P:α→Prop} {l:List α} {M k:Nat} (h:pL P l) (hk:l.length≤k) (hM:∀x∈l,(f x).length≤M):(eL f l).length≤9+k*M:=by
 unfold eL
 rw [List.length_append]
 have h1:=kY 8 _ h.1
 have h2:=kZ hM
 have h3:l.length*M≤k*M:=Nat.mul_le_mul_right _ hk
 omega
theorem qa {d:Dia} (h:pD d) (hl:d.1.length≤4096):(eD d).length≤110610:=by
 unfold eD
 rw [List.length_append]
 have h1:=bk h.2
 have h2:=eF (f:=eBr) (M:=27) h.1 hl fun b hb=>by
  obtain ⟨h1,h2,h3⟩:=h.1.2 b hb
  unfold eBr
  rw [List.length_append,List.length_append]
  have:=bk h1
  have:=bk h2
  have:=bk h3
  omega
 omega
structure StB (g:Gr):Prop where
 c:∀s∈g.conds,s.size≤1000
 t:∀t∈g.toks,t.name.size≤1000∧t.lit.size≤1000∧t.smp.size≤1000
 s:∀s∈g.nons,s.size≤1000
 p:∀p∈g.prods,p.name.size≤1000
 l:∀l∈g.lvs,l.ps.length≤10000
 f:∀f∈g.fils,f.toks.length≤10000
theorem rB {n:Nat}:∀(l:List Tk) (done:List ByteArray),du n done l→∀t∈l,∃d,Bp n d t
 |[],_,_,_,h=>by cases h
 |t::l,done,⟨h1,h2⟩,x,hx=>by
  rcases List.mem_cons.1 hx with rfl|hx
  ·exact ⟨_,h1⟩
  ·exact rB l _ h2 x hx
theorem rC {g:Gr}:∀(l:List Lv) (done:List Int),dv g done l→∀t∈l,∃d,Ef g d t
 |[],_,_,_,h=>by cases h
 |t::l,done,⟨h1,h2⟩,x,hx=>by
  rcases List.mem_cons.1 hx with rfl|hx
  ·exact ⟨_,h1⟩
  ·exact rC l _ h2 x hx
theorem lU {g:Gr}:∀(l:List Pr) (done:List ByteArray),bY g done l=0→∀p∈l,dH g p∧∃d,vH g d p
 |[],_,_,_,h=>by cases h
 |p::l,done,h,x,hx=>by
  unfold bY at h
  by_cases h1:dH g p
  ·rw [if_neg (not_not_intro h1)] at h
   by_cases h2:vH g done p
   ·rw [if_neg (not_not_intro h2)] at h
    rcases List.mem_cons.1 hx with rfl|hx
    ·exact ⟨h1,_,h2⟩
    ·exact lU l _ h x hx
   ·rw [if_pos h2] at h;cases h
  ·rw [if_pos h1] at h;cases h
theorem yU {g:Gr} {s:Sy} (h:iZ g s) (hn:g.nons.length≤2000) (ht:g.toks.length≤256):0≤s.i∧s.i≤2000:=by
 refine ⟨h.1,?_⟩
 cases e:s.t with
 |false=>have:=h.2.1 e;omega
 |true=>
  obtain ⟨t,h1,_⟩:=h.2.2 e
  have:=(List.getElem?_eq_some_iff.1 h1).1
  have:=h.1
  omega
theorem DC {g:Gr} {kd:Tk→Bool} {l:List Int} (h:eK g kd l) (ht:g.toks.length≤256):∀n∈l,I63 n:=fun n hn=>by
 obtain ⟨h0,t,h1,_⟩:=h.2.1 n hn
 have:=(List.getElem?_eq_some_iff.1 h1).1
 exact i63 h0 (by omega)
theorem u6 {r:List Sy} {k v lo hi:Int} (h:dm r k v lo hi) (hr:r.length≤16) (h0:0≤lo) (h1:hi≤255):I63 k∧I63 v:=by
 rcases h with ⟨rfl,rfl⟩|⟨a,b,_,c,d⟩
 ·exact ⟨i63 (by omega) (by omega),i63 (by omega) (by omega)⟩
 ·exact ⟨i63 (by omega) (by omega),i63 (by omega) (by omega)⟩
theorem J0 {g:Gr} (h:OkG g) (hs:StB g):pGr g∧(eGr g).length≤50000000000:=by
 obtain ⟨bc,bt,bf,bn,bp,bl,bpr⟩:=eR h.large
 have z:I63 0:=i63 (by omega) (by omega)
 have fam:=u0 h.fam.2.2.1.1
 have tok:∀t∈g.toks,pTk t∧t.pat.length≤512∧t.cond.1.length≤4096:=fun t ht=>by
  obtain ⟨d,_,_,h1,h2,h3,h4,h5⟩:=rB _ _ h.toks t ht
  obtain ⟨s1,s2,s3⟩:=hs.t t ht
  have hp:t.pat.length≤512∧∀x∈t.pat,pNd x:=by
   by_cases e:t.lit=emp
   ·exact JZ (h5 e).1
   ·rw [(h4 e).2];exact ⟨by decide,fun _ h=>(by cases h)⟩
  have hd:=u0 h3.1
  exact ⟨⟨n63 (by omega),i63 h1 (by omega),n63 (by omega),⟨n63 (by omega),hp.2⟩,n63 (by omega),hd.1⟩,hp.1,hd.2⟩
 have prd:∀p∈g.prods,pPr p∧p.cond.1.length≤4096:=fun p hp=>by
  obtain ⟨hsy,d,_,_,h3,h4,h5,h6,h7,h8,_⟩:=lU _ _ h.prods p hp
  obtain ⟨b1,b2⟩:=bpr p hp
  have s1:=hs.p p hp
  have hd:=u0 h3.1
  have hl:=yU hsy.1 bn bt
  obtain ⟨k1,k2⟩:=u6 h7 b1 (by omega) (by omega)
  obtain ⟨k3,k4⟩:=u6 h8 b1 (by omega) (by omega)
  refine ⟨⟨n63 (by omega),i63 hl.1 (by have:=hl.2;dsimp only at this;omega),⟨n63 (by omega),fun s hs'=>⟨trivial,?_⟩⟩,hd.1,trivial,i63 (by omega) (by omega),⟨n63 (by omega),fun x hx=> ?_⟩,trivial,k1,k2,k3,k4⟩,hd.2⟩
  ·have:=yU (hsy.2 s hs') bn bt
   exact i63 this.1 (by omega)
  ·obtain ⟨c1,c2,c3,c4,c5,c6,_⟩:=h6 x hx
   exact ⟨i63 (by omega) (by omega),i63 (by omega) (by omega),i63 (by omega) (by omega)⟩
 have lvl:∀l∈g.lvs,pLv l∧l.cond.1.length≤4096:=fun l hl=>by
  obtain ⟨d,h1,h2,h3,h4,_⟩:=rC _ _ h.lvs l hl
  have s1:=hs.l l hl
  have hd:=u0 h3.1
  exact ⟨⟨⟨n63 (by omega),fun p hp=>i63 (h4 p hp).1 (by have:=(h4 p hp).2;omega)⟩,i63 h1 (by omega),hd.1⟩,hd.2⟩
 have fil:∀f∈g.fils,pFi f∧f.cond.1.length≤4096:=fun f hf=>by
  obtain ⟨h1,h2⟩:=h.fils f hf
  have s1:=hs.f f hf
  have hd:=u0 h1.1
  refine ⟨?_,hd.2⟩
  have hl:N63 f.toks.length:=n63 (by omega)
  rcases h2 with ⟨k,⟨a,b,c,p,q,e1,e2,e3⟩,e4,e5,e6⟩|⟨k,⟨a,b,c⟩,e1,e2,e3,e4⟩|⟨k,⟨a,b,t,e0,_⟩,e1,e2,e3,e4⟩
  ·have g1:=(List.getElem?_eq_some_iff.1 e1).1
   have g2:=(List.getElem?_eq_some_iff.1 e2).1
   have g3:=(List.getElem?_eq_some_iff.1 e3).1
   have g4:=(bpr p (List.mem_of_getElem? e1)).1
   exact ⟨i63 (by omega) (by omega),i63 a (by omega),i63 c (by omega),i63 b (by omega),by rw [e4];exact z,by rw [e5];exact z,⟨hl,by rw [e6];exact fun _ h=>(by cases h)⟩,hd.1⟩
  ·exact ⟨i63 (by omega) (by omega),by rw [e1];exact z,by rw [e2];exact z,by rw [e3];exact z,i63 a (by omega),by rw [e4];exact z,⟨hl,DC c bt⟩,hd.1⟩
  ·have g1:=(List.getElem?_eq_some_iff.1 e0).1
   exact ⟨i63 (by omega) (by omega),by rw [e1];exact z,by rw [e2];exact z,by rw [e3];exact z,by rw [e4];exact z,i63 b (by omega),⟨hl,DC a bt⟩,hd.1⟩
 have pc:pL pS g.conds:=⟨n63 (by omega),fun s hs'=>n63 (by have:=hs.c s hs';omega)⟩
 have pt':pL pTk g.toks:=⟨n63 (by omega),fun t ht=>(tok t ht).1⟩
 have pn:pL pS g.nons:=⟨n63 (by omega),fun s hs'=>n63 (by have:=hs.s s hs';omega)⟩
 have pp:pL pPr g.prods:=⟨n63 (by omega),fun t ht=>(prd t ht).1⟩
 have ps:I63 g.start:=i63 h.nons.2.1 (by have:=h.nons.2.2;omega)
 have pl:pL pLv g.lvs:=⟨n63 (by omega),fun t ht=>(lvl t ht).1⟩
 have pf:pL pFi g.fils:=⟨n63 (by omega),fun t ht=>(fil t ht).1⟩
 refine ⟨⟨pc,fam.1,pt',pn,pp,ps,pl,pf⟩,?_⟩
 have l1:=eF (f:=eS) (M:=1009) pc bc fun s hs'=>Nat.le_trans (lT (pc.2 s hs')) (by have:=hs.c s hs';omega)
 have l2:=qa fam.1 fam.2
 have l3:=eF (f:=eTk) (M:=200000) pt' bt fun t ht=>by
  obtain ⟨⟨a1,a2,a3,a4,a5,a6⟩,b1,b2⟩:=tok t ht
  obtain ⟨s1,s2,s3⟩:=hs.t t ht
  unfold eTk
  simp only [List.length_append]
  have q1:=lT a1
  have q2:=bk a2
  have q3:=lT a3
  have q4:=eF (f:=eNd) (M:=45) a4 b1 fun x hx=>by
   obtain ⟨c1,c2,c3,c4,c5⟩:=a4.2 x hx
   unfold eNd
   simp only [List.length_append]
   have:=bk c1
   have:=bk c2
   have:=bk c3
   have:=bk c4
   have:=bk c5
   omega
  have q5:=lT a5
  have q6:=qa a6 b2
  omega
 have l4:=eF (f:=eS) (M:=1009) pn bn fun s hs'=>Nat.le_trans (lT (pn.2 s hs')) (by have:=hs.s s hs';omega)
 have l5:=eF (f:=ePr) (M:=200000) pp bp fun p hp=>by
  obtain ⟨⟨a1,a2,a3,a4,_,a5,a6,_,c1,c2,c3,c4⟩,b1⟩:=prd p hp
  have s1:=hs.p p hp
  obtain ⟨d1,d2⟩:=bpr p hp
  unfold ePr Bo eB
  simp only [List.length_append,List.length_singleton]
  have q1:=lT a1
  have q2:=bk a2
  have q3:=eF (f:=eSy) (M:=10) a3 d1 fun x hx=>by
   unfold eSy eB
   simp only [List.length_append,List.length_singleton]
   have:=bk (a3.2 x hx).2
   omega
  have q4:=qa a4 b1
  have q5:=bk a5
  have q6:=eF (f:=eCn) (M:=27) a6 d2 fun x hx=>by
   obtain ⟨u1,u2,u3⟩:=a6.2 x hx
   unfold eCn
   simp only [List.length_append]
   have:=bk u1
   have:=bk u2
   have:=bk u3
   omega
  have:=bk c1
  have:=bk c2
  have:=bk c3
  have:=bk c4
  omega
 have l6:=bk ps
 have l7:=eF (f:=eLv) (M:=300000) pl bl fun l hl=>by
  obtain ⟨⟨a1,a2,a3⟩,b1⟩:=lvl l hl
  unfold eLv
  simp only [List.length_append]
  have q1:=eF (f:=eI) (M:=9) a1 (hs.l l hl) fun x hx=>bk (a1.2 x hx)
  have q2:=bk a2
  have q3:=qa a3 b1
  omega
 have l8:=eF (f:=eFi) (M:=300000) pf bf fun f hf=>by
  obtain ⟨⟨a1,a2,a3,a4,a5,a6,a7,a8⟩,b1⟩:=fil f hf
  unfold eFi
  simp only [List.length_append]
  have q1:=eF (f:=eI) (M:=9) a7 (hs.f f hf) fun x hx=>bk (a7.2 x hx)
  have:=bk a1
  have:=bk a2
  have:=bk a3
  have:=bk a4
  have:=bk a5
  have:=bk a6
  have q3:=qa a8 b1
  omega
 unfold eGr
 simp only [List.length_append]
 omega
theorem MG.stb {g:Gr} {a b:Nat} (h:MG g) (hb:Bd g a b):StB g:=by
 refine ⟨fun s hs=> ?_,fun t ht=> ?_,fun s hs=>by have:=h.nons.2 s hs;omega,fun p hp=>by have:=(h.prods p hp).nm.2;omega,fun l hl=>by have:=hb.lp l hl;omega,fun f hf=>by have:=(h.fils f hf).2.2;omega⟩
 ·obtain ⟨n,hn,hc⟩:=h.cs
  rw [hc] at hs
  have:∀s∈abc,s.size≤1000:=by decide
  exact this s (List.mem_of_mem_take hs)
 ·have:lV t∈dF:=by rw [← h.toks.1];exact List.mem_map_of_mem ht
  have h2:∀u∈dF,u.name.size≤1000∧u.lit.size≤1000∧u.smp.size≤1000:=by decide
  exact h2 (lV t) this
theorem DD (x:Rw):pGr (gD x)∧NN (gD x)∧(eGr (gD x)).length≤50000000000:=by
 obtain ⟨mg,bd⟩:=mH x
 obtain ⟨h1,h2⟩:=J0 (xh x) (mg.stb bd)
 exact ⟨h1,.of h1 fun p hp=>(mg.prods p hp).rank,h2⟩
theorem Fs {g g':Gr} {l r:List Nat} (h:pGr g) (hb:∀b∈l,b<256) (hd:dGr l=some (g',[])) (e:eGr g=l++r):r=[]:=by
 obtain ⟨h1,h2⟩:=wZ.rd l g' [] hb hd
 rw [List.append_nil] at h1
 have h3:=wZ.wr g [] h
 rw [List.append_nil,e,h1,wZ.wr g' r h2] at h3
 cases h3
 rfl
theorem qe:∀n:Nat,∀b∈dZ n,b<256:=by
 intro n
 induction n using Nat.strongRecOn with
 |_ n ih=>
  intro b hb
  by_cases h:n<128
  ·rw [bK h,List.mem_singleton] at hb
   omega
  ·rw [fN h] at hb
   rcases List.mem_cons.1 hb with rfl|hb
   ·omega
   ·exact ih (n / 128) (by omega) b hb
theorem aC {a b:List Nat} (ha:∀x∈a,x<256) (hb:∀x∈b,x<256):∀x∈a++b,x<256:=fun x hx=>(List.mem_append.1 hx).elim (ha x) (hb x)
theorem eG {α:Type} {f:α→List Nat} (hf:∀x,∀b∈f x,b<256) (l:List α):∀b∈eL f l,b<256:=aC (qe _) fun b hb=>by
 obtain ⟨x,_,hx⟩:=List.mem_flatMap.1 hb
 exact hf x b hx
theorem qh (x:Int):∀b∈eI x,b<256:=qe _
theorem J1 (s:ByteArray):∀b∈eS s,b<256:=aC (qe _) (Gy s)
theorem wW (x:Bool):∀b∈eB x,b<256:=fun b hb=>by
 unfold eB at hb
 rw [List.mem_singleton] at hb
 subst hb
 cases x<;>decide
theorem J2 (d:Dia):∀b∈eD d,b<256:=aC (eG (fun x=>aC (aC (qh _) (qh _)) (qh _)) _) (qh _)
theorem Ft (g:Gr):∀b∈eGr g,b<256:=by
 have i:=qh
 have s:=J1
 have d:=J2
 refine aC (aC (aC (aC (aC (aC (aC (eG s _) (d _)) (eG (fun t=> ?_) _)) (eG s _)) (eG (fun p=> ?_) _)) (i _)) (eG (fun l=> ?_) _)) (eG (fun f=> ?_) _)
 ·exact aC (aC (aC (aC (aC (s _) (i _)) (s _)) (eG (fun x=>aC (aC (aC (aC (i _) (i _)) (i _)) (i _)) (i _)) _)) (s _)) (d _)
 ·exact aC (aC (aC (aC (aC (aC (aC (s _) (i _)) (eG (fun x=>aC (wW _) (i _)) _)) (d _)) (wW _)) (i _)) (eG (fun x=>aC (aC (i _) (i _)) (i _)) _)) (aC (wW _) (aC (aC (aC (i _) (i _)) (i _)) (i _)))
 ·exact aC (aC (eG i _) (i _)) (d _)
 ·exact aC (aC (aC (aC (aC (aC (aC (i _) (i _)) (i _)) (i _)) (i _)) (i _)) (eG i _)) (d _)
theorem u7 {l:List Nat} (h:∀g,dGr l≠some (g,[])):jA l=(gr0,55):=by
 unfold jA
 cases hd:dGr l with
 |none=>rfl
 |some q=>
  obtain ⟨g,r⟩:=q
  cases r with
  |nil=>exact absurd hd (h g)
  |cons x r=>rfl
theorem Fu {α:Type} {f:α→List Nat} {l:List α} {x:α} (hx:x∈l):(f x).length≤(l.flatMap f).length:=by
 induction l with
 |nil=>cases hx
 |cons y l ih=>
  rw [List.flatMap_cons,List.length_append]
  rcases List.mem_cons.1 hx with rfl|hx
  ·omega
  ·have:=ih hx;omega
theorem gI {α:Type} {e:α→List Nat} {d:Ps α} {P:α→Prop} (h:Co e d P) (l:List α):l.length≤(eL e l).length∧∀x∈l,(e x).length≤(eL e l).length:=by
 unfold eL
 rw [List.length_append]
 have:=jz h l
 exact ⟨by omega,fun x hx=>by have:=Fu (f:=e) hx;omega⟩
theorem HZ (s:ByteArray):s.size≤(eS s).length:=by
 unfold eS
 rw [List.length_append,bE]
 omega
theorem u9 (d:Dia):d.1.length≤(eD d).length:=by
 unfold eD
 rw [List.length_append]
 have:=(gI Om d.1).1
 omega
theorem DE {g:Gr} (h:(eGr g).length≤100000):Sz g∧Sm g:=by
 unfold eGr at h
 simp only [List.length_append] at h
 have c:=gI coS g.conds
 have t:=gI Oo g.toks
 have n:=gI coS g.nons
 have p:=gI Ox g.prods
 have l:=gI Oy g.lvs
 have f:=gI Oz g.fils
 have d:=u9 g.fam
 have tk:∀x∈g.toks,x.smp.size≤100000∧x.pat.length≤100000∧x.cond.1.length≤100000:=fun x hx=>by
  have h1:(eTk x).length≤100000:=by have:=t.2 x hx;omega
  unfold eTk at h1
  simp only [List.length_append] at h1
  have:=HZ x.smp
  have:=(gI On x.pat).1
  have:=u9 x.cond
  omega
 have pr:∀x∈g.prods,x.right.length≤1000000000∧x.cond.1.length≤1000000000∧x.lay.length≤1000000000:=fun x hx=>by
  have h1:(ePr x).length≤100000:=by have:=p.2 x hx;omega
  unfold ePr at h1
  simp only [List.length_append] at h1
  have:=(gI Oq x.right).1
  have:=(gI Ot x.lay).1
  have:=u9 x.cond
  omega
 have lv:∀x∈g.lvs,x.ps.length≤1000000000∧x.cond.1.length≤1000000000:=fun x hx=>by
  have h1:(eLv x).length≤100000:=by have:=l.2 x hx;omega
  unfold eLv at h1
  simp only [List.length_append] at h1
  have:=(gI coI x.ps).1
  have:=u9 x.cond
  omega
 have fi:∀x∈g.fils,x.toks.length≤1000000000∧x.cond.1.length≤1000000000:=fun x hx=>by
  have h1:(eFi x).length≤100000:=by have:=f.2 x hx;omega
  unfold eFi at h1
  simp only [List.length_append] at h1
  have:=(gI coI x.toks).1
  have:=u9 x.cond
  omega
 exact ⟨⟨fun s hs=>by have:=c.2 s hs;have:=HZ s;omega,fun x hx=>(tk x hx).1,fun x hx=>(lv x hx).1,fun x hx=>(fi x hx).1⟩,
  ⟨by omega,by omega,by omega,by omega,by omega,by omega,by omega,fun x hx=>⟨by have:=(tk x hx).2.1;omega,by have:=(tk x hx).2.2;omega⟩,pr,lv,fi⟩⟩
theorem yV {F:PH} {w:Array Value} {g:Gr} (hT:Tab F) (hg:GV F w g) (hz:Sz g) (hm:Sm g) (hc:cf g=0) (hn:NN g) (hl:(eGr g).length≤100000000000):
  ac prog 14 #[.agg w] F fun r F'=>(∃s:Sl,r=.tuple #[s.v,vi 0]∧RdS F' s 1 ((eGr g).map vB))∧F.le F':=by
 refine (lZ hT hg hz hm fun _=>⟨hn,hl⟩).mono ?_
 rintro r F' ⟨⟨s,h1,h2⟩,h3⟩
 rw [hc] at h1
 rw [if_pos hc] at h2
 exact ⟨⟨s,h1,h2⟩,h3⟩
theorem DF {F G F1:PH} {b3:Nat} {v:Array Value} {x:Rw} {cut:Nat} (hF:F.le G) (hT:Tab G) (hx:vn G v x) (q3:G b3=some (.cells v 26)) (hc:cut<65536) (h:St G F1 []):tP (cut:Int) b3 true (RT F) F1:=by
 have hv5:v.size=5:=by obtain ⟨⟨_,_,_,rfl,_⟩,_,_⟩:=hx;rfl
 unfold tP
 refine ⟨v,hv5,ak (h.le _ _ q3),?_⟩
 refine h.run (tY hx) fun _ G2 F2 hr l2 h=> ?_
 obtain ⟨w,rfl,hw⟩:=hr
 refine ⟨_,rfl,?_⟩
 obtain ⟨mg,bd⟩:=mH x
 obtain ⟨p1,p2,p3⟩:=DD x
 have hk:=eZ.2 (xh x)
 generalize gD x=g at*
 refine h.run (yV (hT.le l2) hw (mg.sz bd) (mg.sm bd (by decide) (by decide)) hk p2 (by omega)) fun _ G3 F3 hr l3 h=> ?_
 obtain ⟨s,rfl,hs⟩:=hr
 have l23:=aa l2 l3
 have hlen:s.len=(eGr g).length:=by have:=hs.len;rw [List.length_map] at this;omega
 have hne:=wZ.ne g
 have hcap:=hs.cap
 have h256:=Ft g
 refine ⟨_,_,rfl,fun hc=>absurd rfl hc,fun _=>⟨fun hc=>by omega,fun _=> ?_⟩⟩
 have ek:Int.tmod (IntKind.i64.wrap (cut:Int)) (s.len:Int)=((cut % s.len:Nat):Int):=by rw [aK (by omega) (by omega),fH]
 have hlt:=Nat.mod_lt cut (show 0<s.len by omega)
 rw [ek,Int.toNat_natCast]
 generalize cut % s.len=k at hlt
 refine ⟨by omega,by omega,by omega,by omega,?_⟩
 have hs1:RdS G3 (Sl.cut s 1 0 k s.cap) 1 (((eGr g).take k).map vB):=by
  have:=hs.cut (l:=0) (r:=k) (m:=s.cap) (by omega) (by omega) (by omega)
  rw [Nat.zero_mul,List.drop_zero,Nat.sub_zero,Nat.mul_one,← List.map_take] at this
  exact this
 have h256k:∀b∈(eGr g).take k,b<256:=fun b hb=>h256 b (List.mem_of_mem_take hb)
 have n1:∀g',dGr ((eGr g).take k)≠some (g',[]):=fun g' hd=>by
  have:=Fs p1 h256k hd (List.take_append_drop k _).symm
  have h1:((eGr g).drop k).length=0:=by rw [this];rfl
  rw [List.length_drop] at h1
  omega
 refine h.run (iq (hT.le l23) ⟨hs1,h256k,by rw [List.length_take];omega⟩ fun g' hd=>absurd hd (n1 g')) fun _ G4 F4 hr l4 h=> ?_
 obtain ⟨w4,rfl,hw4⟩:=hr
 have l24:=aa l23 l4
 rw [u7 n1] at hw4 ⊢
 refine ⟨_,_,rfl,?_⟩
 refine h.var hw4.st (fun b14 G5 F5 l5 _ h=> ?_) rfl hw4.size
 refine h.new fun b82 F6 h=> ?_
 have h:=h.imp (A':=own (Sl.mk (some (Addr.mk b82 0 none)) 0 0) 5 1 []) 0 rfl fun H _ hH=>iz hH
 refine St.app0 Bn h (((hs.le (aa l4 l5)).le h.le)) (by simp [aj]) (by show 0+s.len≤_;omega) fun s1 F7 h hl1=> ?_
 rw [List.nil_append] at h
 have hl1':s1.len=s.len:=by rw [hl1];exact Nat.zero_add _
 refine St.push0 Bn h (c:= #[vB (cut % 256)]) rfl (by simp [aj]) (by omega) fun s2 G6 F8 l6 h hl2=> ?_
 obtain ⟨G7,l7,hs2,h⟩:=h.pinO
 have l47:=aa l5 (aa l6 l7)
 have e2:(eGr g).map vB++(#[vB (cut % 256)]:Array Value).toList=((eGr g)++[cut % 256]).map vB:=by rw [List.map_append];rfl
 rw [e2] at hs2
 have h256c:∀b∈eGr g++[cut % 256],b<256:=aC h256 fun b hb=>by rw [List.mem_singleton] at hb;omega
 have n2:∀g',dGr (eGr g++[cut % 256])≠some (g',[]):=fun g' hd=>by
  have:=wZ.wr g [cut % 256] p1
  rw [this] at hd
  cases hd
 refine h.run (iq ((hT.le l24).le l47) ⟨hs2,h256c,by rw [List.length_append,List.length_singleton];omega⟩ fun g' hd=>absurd hd (n2 g')) fun _ G8 F9 hr l8 h=> ?_
 obtain ⟨w8,rfl,hw8⟩:=hr
 rw [u7 n2] at hw8 ⊢
 refine ⟨_,_,rfl,?_⟩
 refine h.var hw8.st (fun b16 G9 F10 l9 _ h=> ?_) rfl hw8.size
 exact ⟨fun _=>⟨fun _=>⟨rfl,aa hF (aa l24 (aa l47 (aa l8 (aa l9 h.le))))⟩,fun h=>absurd rfl h⟩,fun h=>absurd rfl h⟩
theorem wX {F:PH} {v:Array Value} {x:Rw} {s:Sl} {B:List Nat} {cut:Nat} (hT:Tab F) (hx:vn F v x) (hs:RdS F s 1 (B.map vB)) (hb:∀n∈B,n<256) (hc:cut<65536):ac prog 5 #[.agg v,s.v,.int .u16 (cut:Int)] F (RT F):=by
 have hlen:s.len=B.length:=by have:=hs.len;rw [List.length_map] at this;omega
 refine cQ5 ?_
 unfold bQ5
 refine (St.start F).newG fun b3 G1 F1 l1 q3 _ h=> ?_
 refine h.runv (Ax (hT.le l1)) fun G2 F2 l2 h=> ?_
 have l12:=aa l1 l2
 refine ⟨_,rfl,fun _=>⟨rfl,aa l12 h.le⟩,fun h5=> ?_⟩
 have hB:B.length≤5000:=by omega
 have hlg:∀g r,dGr B=some (g,r)→(eGr g).length≤5000:=fun g r hd=>by
  have:=(wZ.rd B g r hb hd).1
  rw [this,List.length_append] at hB
  omega
 refine h.run (iq (hT.le l12) ⟨hs.le l12,hb,by omega⟩ fun g hd=>(DE (by have:=hlg g _ hd;omega)).1) fun _ G3 F3 hr l3 h=> ?_
 obtain ⟨w,rfl,hw⟩:=hr
 have l13:=aa l12 l3
 refine ⟨_,_,rfl,?_⟩
 refine h.var hw.st (fun b8 G4 F4 l4 q8 h=> ?_) rfl hw.size
 have l14:=aa l13 l4
 have last:∀{G' F':PH},G4.le G'→St G' F' []→tP (cut:Int) b3 true (RT F) F':=fun {G' F'} hl h=>
  DF (aa l14 hl) (hT.le (aa l14 hl)) (hx.le (aa l14 hl)) (hl _ _ (l4 _ _ (l3 _ _ (l2 _ _ q3)))) hc h
 by_cases hg:∃g,dGr B=some (g,[])∧cf g=0
 ·obtain ⟨g,hd,hk⟩:=hg
  have e:jA B=(g,0):=by unfold jA;rw [hd];exact if_pos hk
  obtain ⟨hB1,hp⟩:=wZ.rd B g [] hb hd
  rw [List.append_nil] at hB1
  have hl:=hlg g [] hd
  obtain ⟨hz,hm⟩:=DE (by omega:(eGr g).length≤100000)
  have hO:=eZ.1 hk
  have hNN:NN g:=.of hp fun p hpm=>by
   obtain ⟨_,d,_,_,_,h4,h5,_⟩:=lU _ _ hO.prods p hpm
   exact ⟨h4,h5⟩
  rw [e] at hw ⊢
  refine ⟨fun _=>⟨w,hw.size,ak (h.le _ _ q8),?_⟩,fun hc=>absurd rfl hc⟩
  refine h.run (yV (g:=g) (hT.le l14) (hw.le l4) hz hm hk hNN (by omega)) fun _ G5 F5 hr l5 h=> ?_
  obtain ⟨s5,rfl,hs5⟩:=hr
  refine ⟨_,_,rfl,fun hc=>absurd rfl hc,fun _=>⟨_,iw (hs5.le h.le),_,iw ((hs.le (aa l14 l5)).le h.le),?_⟩⟩
  rw [← hB1,gU,decide_eq_true rfl]
  refine ⟨fun hc=>(by cases hc),fun _=>⟨w,hw.size,ak (h.le _ _ (l5 _ _ q8)),?_⟩⟩
  refine h.runv (dg (hT.le (aa l14 l5)) (hw.le (aa l4 l5)) hz hk) fun G6 F6 l6 h=> ?_
  exact ⟨_,rfl,fun hc=>absurd rfl hc,fun _=>last (aa l5 l6) h⟩
 ·have e:jA B=(gr0,55):=by
   unfold jA
   cases hd:dGr B with
   |none=>rfl
   |some q=>
    obtain ⟨g,r⟩:=q
    cases r with
    |nil=>exact if_neg fun hk=>hg ⟨g,hd,hk⟩
    |cons x r=>rfl
  rw [e] at hw ⊢
  refine ⟨fun hc=>(by cases hc),fun _=>⟨fun hc=>absurd rfl hc,fun _=>⟨w,hw.size,ak (h.le _ _ q8),?_⟩⟩⟩
  refine h.runv (vG (hw.le l4) (GV.zero G4) ⟨by decide,by decide,by decide,by decide,by decide,by decide,by decide,fun _ h=>(by cases h),fun _ h=>(by cases h),fun _ h=>(by cases h),fun _ h=>(by cases h)⟩) fun G5 F5 l5 h=> ?_
  rw [decide_eq_true rfl]
  exact ⟨_,rfl,fun hc=>(by cases hc),fun _=>last l5 h⟩
end Go.Proofs.YtenpmjhnhepfdaaGreatDoor
