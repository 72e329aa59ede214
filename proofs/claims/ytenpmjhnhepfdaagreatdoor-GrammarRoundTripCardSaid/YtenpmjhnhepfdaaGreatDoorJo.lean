/-
  RoundTrip and Bytes: the walks.
-/
import Derived.Test.YtenpmjhnhepfdaaGreatDoorJk
import Derived.Test.YtenpmjhnhepfdaaGreatDoorIu
import Derived.Test.YtenpmjhnhepfdaaGreatDoorJm
import Derived.Test.YtenpmjhnhepfdaaGreatDoorTopj
namespace Go.Proofs.YtenpmjhnhepfdaaGreatDoor
open Go Go.Proofs.Tryz Tr
set_option maxRecDepth 10000
theorem i63 {x:Int} (h0:0≤x) (h1:x≤1000000000000):I63 x:=⟨h0,by omega⟩
theorem n63 {n:Nat} (h:n≤1000000000000):N63 n:=by show n<128 ^ 9;omega
theorem u9 {d:Dia} (h:chk d=0):pD d∧d.1.length≤4096:=by
 unfold chk at h
 split at h
 ·cases h
 rename_i hl
 split at h
 ·rename_i hv
  obtain ⟨t,hk,rfl⟩:=hv
  have hlen:(aK t).length≤4096:=by
   have:(dia t).1.length=(aK t).length:=aO _
   omega
  refine ⟨⟨⟨n63 (by omega),fun b hb=> ?_⟩,?_⟩,by omega⟩
  ·obtain ⟨x,hx,rfl⟩:=List.mem_map.1 (show b∈(aK t).map (br (aK t)) from hb)
   obtain ⟨ok,v,l,r,rfl,hl',hr'⟩:=(cu hk).mem x hx
   have h1:=cq hl'
   have h2:=cq hr'
   have h3:=ok.1
   exact ⟨i63 (by show (0:Int)≤(v:Nat);omega) (by show ((v:Nat):Int)≤_;omega),i63 (by show (0:Int)≤(num _ l:Nat);omega) (by show ((num _ l:Nat):Int)≤_;omega),i63 (by show (0:Int)≤(num _ r:Nat);omega) (by show ((num _ r:Nat):Int)≤_;omega)⟩
  ·have:=cq (ca hk)
   exact i63 (by show (0:Int)≤(num _ t:Nat);omega) (by show ((num _ t:Nat):Int)≤_;omega)
 ·cases h
theorem JS {l:List Nd} (h:fY l=0):l.length≤512∧∀x∈l,pNd x:=by
 unfold fY at h
 split at h
 ·cases h
 rename_i hl
 split at h
 ·rename_i hg
  refine ⟨by omega,fun x hx=> ?_⟩
  obtain ⟨i,hi⟩:=List.getElem?_of_mem hx
  have hil:=(List.getElem?_eq_some_iff.1 hi).1
  obtain ⟨a1,a2,a3,a4,a5,a6,a7⟩:=hg.ok i x hi
  have hk:0≤x.k∧x.k≤4:=by
   unfold ar at a1
   split at a1
   ·omega
   split at a1
   ·omega
   split at a1
   ·omega
   ·omega
  refine ⟨i63 hk.1 (by omega),?_,?_,?_,?_⟩
  ·by_cases e:x.k=1
   ·have:=a2 e;exact i63 (by omega) (by omega)
   ·rw [(a3 e).1];exact i63 (by omega) (by omega)
  ·by_cases e:x.k=1
   ·have:=a2 e;exact i63 (by omega) (by omega)
   ·rw [(a3 e).2];exact i63 (by omega) (by omega)
  ·by_cases e:ar x.k<1
   ·rw [a4 e];exact i63 (by omega) (by omega)
   ·have:=a6 (by omega);exact i63 (by omega) (by omega)
  ·by_cases e:ar x.k<2
   ·rw [a5 e];exact i63 (by omega) (by omega)
   ·have:=a7 (by omega);exact i63 (by omega) (by omega)
 ·cases h
theorem kT:∀(k n:Nat),n<128 ^ (k+1)→(dZ n).length≤k+1
 |0,n,h=>by rw [bK (by simpa using h)];exact Nat.le_refl _
 |k+1,n,h=>by
  by_cases hn:n<128
  ·rw [bK hn];simp
  ·rw [fO hn,List.length_cons]
   have:=kT k (n / 128) (by rw [Nat.pow_succ] at h;omega)
   omega
theorem bk {x:Int} (h:I63 x):(eI x).length≤9:=kT 8 _ (by have:=h.1;have:=h.2;omega)
theorem lP {s:ByteArray} (h:pS s):(eS s).length≤9+s.size:=by
 unfold eS
 rw [List.length_append,bJ]
 have:=kT 8 _ h
 omega
theorem kU {α:Type} {f:α→List Nat} {M:Nat}:∀{l:List α},(∀x∈l,(f x).length≤M)→(l.flatMap f).length≤l.length*M
 |[],_=>by simp
 |x::l,h=>by
  rw [List.flatMap_cons,List.length_append,List.length_cons,Nat.succ_mul]
  have:=h x (by simp)
  have:=kU (l:=l) fun y hy=>h y (by simp [hy])
  omega
theorem eF {α:Type} {f:α→List Nat} {P:α→Prop} {l:List α} {M k:Nat} (h:pL P l) (hk:l.length≤k) (hM:∀x∈l,(f x).length≤M):(eL f l).length≤9+k*M:=by
 unfold eL
 rw [List.length_append]
 have h1:=kT 8 _ h.1
 have h2:=kU hM
 have h3:l.length*M≤k*M:=Nat.mul_le_mul_right _ hk
 omega
theorem pY {d:Dia} (h:pD d) (hl:d.1.length≤4096):(eD d).length≤110610:=by
 unfold eD
 rw [List.length_append]
 have h1:=bk h.2
 have h2:=eF (f:=eBr) (M:=27) h.1 hl fun b hb=>by
  obtain ⟨h1,h2,h3⟩:=h.1.2 b hb
  unfold eBr
  rw [List.length_append,List.length_append]
  have:=bk h1
  have:=bk h2
  have:=bk h3
  omega
 omega
structure StB (g:Gr):Prop where
 c:∀s∈g.conds,s.size≤1000
 t:∀t∈g.toks,t.name.size≤1000∧t.lit.size≤1000∧t.smp.size≤1000
 s:∀s∈g.nons,s.size≤1000
 p:∀p∈g.prods,p.name.size≤1000
 l:∀l∈g.lvs,l.ps.length≤10000
 f:∀f∈g.fils,f.toks.length≤10000
theorem rB {n:Nat}:∀(l:List Tk) (done:List ByteArray),dt n done l→∀t∈l,∃d,Bo n d t
 |[],_,_,_,h=>by cases h
 |t::l,done,⟨h1,h2⟩,x,hx=>by
  rcases List.mem_cons.1 hx with rfl|hx
  ·exact ⟨_,h1⟩
  ·exact rB l _ h2 x hx
theorem rC {g:Gr}:∀(l:List Lv) (done:List Int),du g done l→∀t∈l,∃d,D9 g d t
 |[],_,_,_,h=>by cases h
 |t::l,done,⟨h1,h2⟩,x,hx=>by
  rcases List.mem_cons.1 hx with rfl|hx
  ·exact ⟨_,h1⟩
  ·exact rC l _ h2 x hx
theorem rD {g:Gr}:∀(l:List Pr) (done:List ByteArray),bY g done l=0→∀p∈l,dH g p∧∃d,vK g d p
 |[],_,_,_,h=>by cases h
 |p::l,done,h,x,hx=>by
  unfold bY at h
  by_cases h1:dH g p
  ·rw [if_neg (not_not_intro h1)] at h
   by_cases h2:vK g done p
   ·rw [if_neg (not_not_intro h2)] at h
    rcases List.mem_cons.1 hx with rfl|hx
    ·exact ⟨h1,_,h2⟩
    ·exact rD l _ h x hx
   ·rw [if_pos h2] at h;cases h
  ·rw [if_pos h1] at h;cases h
theorem yT {g:Gr} {s:Sy} (h:iW g s) (hn:g.nons.length≤2000) (ht:g.toks.length≤256):0≤s.i∧s.i≤2000:=by
 refine ⟨h.1,?_⟩
 cases e:s.t with
 |false=>have:=h.2.1 e;omega
 |true=>
  obtain ⟨t,h1,_⟩:=h.2.2 e
  have:=(List.getElem?_eq_some_iff.1 h1).1
  have:=h.1
  omega
theorem DB {g:Gr} {kd:Tk→Bool} {l:List Int} (h:eK g kd l) (ht:g.toks.length≤256):∀n∈l,I63 n:=fun n hn=>by
 obtain ⟨h0,t,h1,_⟩:=h.2.1 n hn
 have:=(List.getElem?_eq_some_iff.1 h1).1
 exact i63 h0 (by omega)
theorem va {r:List Sy} {k v lo hi:Int} (h:dk r k v lo hi) (hr:r.length≤16) (h0:0≤lo) (h1:hi≤255):I63 k∧I63 v:=by
 rcases h with ⟨rfl,rfl⟩|⟨a,b,_,c,d⟩
 ·exact ⟨i63 (by omega) (by omega),i63 (by omega) (by omega)⟩
 ·exact ⟨i63 (by omega) (by omega),i63 (by omega) (by omega)⟩
theorem JT {g:Gr} (h:OkG g) (hs:StB g):pGr g∧(eGr g).length≤50000000000:=by
 obtain ⟨bc,bt,bf,bn,bp,bl,bpr⟩:=eR h.large
 have z:I63 0:=i63 (by omega) (by omega)
 have fam:=u9 h.fam.2.2.1.1
 have tok:∀t∈g.toks,pTk t∧t.pat.length≤512∧t.cond.1.length≤4096:=fun t ht=>by
  obtain ⟨d,_,_,h1,h2,h3,h4,h5⟩:=rB _ _ h.toks t ht
  obtain ⟨s1,s2,s3⟩:=hs.t t ht
  have hp:t.pat.length≤512∧∀x∈t.pat,pNd x:=by
   by_cases e:t.lit=emp
   ·exact JS (h5 e).1
   ·rw [(h4 e).2];exact ⟨by decide,fun _ h=>(by cases h)⟩
  have hd:=u9 h3.1
  exact ⟨⟨n63 (by omega),i63 h1 (by omega),n63 (by omega),⟨n63 (by omega),hp.2⟩,n63 (by omega),hd.1⟩,hp.1,hd.2⟩
 have prd:∀p∈g.prods,pPr p∧p.cond.1.length≤4096:=fun p hp=>by
  obtain ⟨hsy,d,_,_,h3,h4,h5,h6,h7,h8,_⟩:=rD _ _ h.prods p hp
  obtain ⟨b1,b2⟩:=bpr p hp
  have s1:=hs.p p hp
  have hd:=u9 h3.1
  have hl:=yT hsy.1 bn bt
  obtain ⟨k1,k2⟩:=va h7 b1 (by omega) (by omega)
  obtain ⟨k3,k4⟩:=va h8 b1 (by omega) (by omega)
  refine ⟨⟨n63 (by omega),i63 hl.1 (by have:=hl.2;dsimp only at this;omega),⟨n63 (by omega),fun s hs'=>⟨trivial,?_⟩⟩,hd.1,trivial,i63 (by omega) (by omega),⟨n63 (by omega),fun x hx=> ?_⟩,trivial,k1,k2,k3,k4⟩,hd.2⟩
  ·have:=yT (hsy.2 s hs') bn bt
   exact i63 this.1 (by omega)
  ·obtain ⟨c1,c2,c3,c4,c5,c6,_⟩:=h6 x hx
   exact ⟨i63 (by omega) (by omega),i63 (by omega) (by omega),i63 (by omega) (by omega)⟩
 have lvl:∀l∈g.lvs,pLv l∧l.cond.1.length≤4096:=fun l hl=>by
  obtain ⟨d,h1,h2,h3,h4,_⟩:=rC _ _ h.lvs l hl
  have s1:=hs.l l hl
  have hd:=u9 h3.1
  exact ⟨⟨⟨n63 (by omega),fun p hp=>i63 (h4 p hp).1 (by have:=(h4 p hp).2;omega)⟩,i63 h1 (by omega),hd.1⟩,hd.2⟩
 have fil:∀f∈g.fils,pFi f∧f.cond.1.length≤4096:=fun f hf=>by
  obtain ⟨h1,h2⟩:=h.fils f hf
  have s1:=hs.f f hf
  have hd:=u9 h1.1
  refine ⟨?_,hd.2⟩
  have hl:N63 f.toks.length:=n63 (by omega)
  rcases h2 with ⟨k,⟨a,b,c,p,q,e1,e2,e3⟩,e4,e5,e6⟩|⟨k,⟨a,b,c⟩,e1,e2,e3,e4⟩|⟨k,⟨a,b,t,e0,_⟩,e1,e2,e3,e4⟩
  ·have g1:=(List.getElem?_eq_some_iff.1 e1).1
   have g2:=(List.getElem?_eq_some_iff.1 e2).1
   have g3:=(List.getElem?_eq_some_iff.1 e3).1
   have g4:=(bpr p (List.mem_of_getElem? e1)).1
   exact ⟨i63 (by omega) (by omega),i63 a (by omega),i63 c (by omega),i63 b (by omega),by rw [e4];exact z,by rw [e5];exact z,⟨hl,by rw [e6];exact fun _ h=>(by cases h)⟩,hd.1⟩
  ·exact ⟨i63 (by omega) (by omega),by rw [e1];exact z,by rw [e2];exact z,by rw [e3];exact z,i63 a (by omega),by rw [e4];exact z,⟨hl,DB c bt⟩,hd.1⟩
  ·have g1:=(List.getElem?_eq_some_iff.1 e0).1
   exact ⟨i63 (by omega) (by omega),by rw [e1];exact z,by rw [e2];exact z,by rw [e3];exact z,by rw [e4];exact z,i63 b (by omega),⟨hl,DB a bt⟩,hd.1⟩
 have pc:pL pS g.conds:=⟨n63 (by omega),fun s hs'=>n63 (by have:=hs.c s hs';omega)⟩
 have pt':pL pTk g.toks:=⟨n63 (by omega),fun t ht=>(tok t ht).1⟩
 have pn:pL pS g.nons:=⟨n63 (by omega),fun s hs'=>n63 (by have:=hs.s s hs';omega)⟩
 have pp:pL pPr g.prods:=⟨n63 (by omega),fun t ht=>(prd t ht).1⟩
 have ps:I63 g.start:=i63 h.nons.2.1 (by have:=h.nons.2.2;omega)
 have pl:pL pLv g.lvs:=⟨n63 (by omega),fun t ht=>(lvl t ht).1⟩
 have pf:pL pFi g.fils:=⟨n63 (by omega),fun t ht=>(fil t ht).1⟩
 refine ⟨⟨pc,fam.1,pt',pn,pp,ps,pl,pf⟩,?_⟩
 have l1:=eF (f:=eS) (M:=1009) pc bc fun s hs'=>Nat.le_trans (lP (pc.2 s hs')) (by have:=hs.c s hs';omega)
 have l2:=pY fam.1 fam.2
 have l3:=eF (f:=eTk) (M:=200000) pt' bt fun t ht=>by
  obtain ⟨⟨a1,a2,a3,a4,a5,a6⟩,b1,b2⟩:=tok t ht
  obtain ⟨s1,s2,s3⟩:=hs.t t ht
  unfold eTk
  simp only [List.length_append]
  have q1:=lP a1
  have q2:=bk a2
  have q3:=lP a3
  have q4:=eF (f:=eNd) (M:=45) a4 b1 fun x hx=>by
   obtain ⟨c1,c2,c3,c4,c5⟩:=a4.2 x hx
   unfold eNd
   simp only [List.length_append]
   have:=bk c1
   have:=bk c2
   have:=bk c3
   have:=bk c4
   have:=bk c5
   omega
  have q5:=lP a5
  have q6:=pY a6 b2
  omega
 have l4:=eF (f:=eS) (M:=1009) pn bn fun s hs'=>Nat.le_trans (lP (pn.2 s hs')) (by have:=hs.s s hs';omega)
 have l5:=eF (f:=ePr) (M:=200000) pp bp fun p hp=>by
  obtain ⟨⟨a1,a2,a3,a4,_,a5,a6,_,c1,c2,c3,c4⟩,b1⟩:=prd p hp
  have s1:=hs.p p hp
  obtain ⟨d1,d2⟩:=bpr p hp
  unfold ePr Bn eB
  simp only [List.length_append,List.length_singleton]
  have q1:=lP a1
  have q2:=bk a2
  have q3:=eF (f:=eSy) (M:=10) a3 d1 fun x hx=>by
   unfold eSy eB
   simp only [List.length_append,List.length_singleton]
   have:=bk (a3.2 x hx).2
   omega
  have q4:=pY a4 b1
  have q5:=bk a5
  have q6:=eF (f:=eCn) (M:=27) a6 d2 fun x hx=>by
   obtain ⟨u1,u2,u3⟩:=a6.2 x hx
   unfold eCn
   simp only [List.length_append]
   have:=bk u1
   have:=bk u2
   have:=bk u3
   omega
  have:=bk c1
  have:=bk c2
  have:=bk c3
  have:=bk c4
  omega
 have l6:=bk ps
 have l7:=eF (f:=eLv) (M:=300000) pl bl fun l hl=>by
  obtain ⟨⟨a1,a2,a3⟩,b1⟩:=lvl l hl
  unfold eLv
  simp only [List.length_append]
  have q1:=eF (f:=eI) (M:=9) a1 (hs.l l hl) fun x hx=>bk (a1.2 x hx)
  have q2:=bk a2
  have q3:=pY a3 b1
  omega
 have l8:=eF (f:=eFi) (M:=300000) pf bf fun f hf=>by
  obtain ⟨⟨a1,a2,a3,a4,a5,a6,a7,a8⟩,b1⟩:=fil f hf
  unfold eFi
  simp only [List.length_append]
  have q1:=eF (f:=eI) (M:=9) a7 (hs.f f hf) fun x hx=>bk (a7.2 x hx)
  have:=bk a1
  have:=bk a2
  have:=bk a3
  have:=bk a4
  have:=bk a5
  have:=bk a6
  have q3:=pY a8 b1
  omega
 unfold eGr
 simp only [List.length_append]
 omega
theorem MG.stb {g:Gr} {a b:Nat} (h:MG g) (hb:Bd g a b):StB g:=by
 refine ⟨fun s hs=> ?_,fun t ht=> ?_,fun s hs=>by have:=h.nons.2 s hs;omega,fun p hp=>by have:=(h.prods p hp).nm.2;omega,fun l hl=>by have:=hb.lp l hl;omega,fun f hf=>by have:=(h.fils f hf).2.2;omega⟩
 ·obtain ⟨n,hn,hc⟩:=h.cs
  rw [hc] at hs
  have:∀s∈abc,s.size≤1000:=by decide
  exact this s (List.mem_of_mem_take hs)
 ·have:lQ t∈dF:=by rw [← h.toks.1];exact List.mem_map_of_mem ht
  have h2:∀u∈dF,u.name.size≤1000∧u.lit.size≤1000∧u.smp.size≤1000:=by decide
  exact h2 (lQ t) this
theorem vb (x:Rw):pGr (fI x)∧NN (fI x)∧(eGr (fI x)).length≤50000000000:=by
 obtain ⟨mg,bd⟩:=jw x
 obtain ⟨h1,h2⟩:=JT (rS x) (mg.stb bd)
 exact ⟨h1,.of h1 fun p hp=>(mg.prods p hp).rank,h2⟩
theorem Fk {g g':Gr} (h:pGr g) (h':pGr g') (e:eGr g=eGr g'):g=g':=by
 have h1:=JX.wr g [] h
 have h2:=JX.wr g' [] h'
 rw [e,h2] at h1
 cases h1
 rfl
theorem pZ:∀n:Nat,∀b∈dZ n,b<256:=by
 intro n
 induction n using Nat.strongRecOn with
 |_ n ih=>
  intro b hb
  by_cases h:n<128
  ·rw [bK h,List.mem_singleton] at hb
   omega
  ·rw [fO h] at hb
   rcases List.mem_cons.1 hb with rfl|hb
   ·omega
   ·exact ih (n / 128) (by omega) b hb
theorem aC {a b:List Nat} (ha:∀x∈a,x<256) (hb:∀x∈b,x<256):∀x∈a++b,x<256:=fun x hx=>(List.mem_append.1 hx).elim (ha x) (hb x)
theorem eG {α:Type} {f:α→List Nat} (hf:∀x,∀b∈f x,b<256) (l:List α):∀b∈eL f l,b<256:=aC (pZ _) fun b hb=>by
 obtain ⟨x,_,hx⟩:=List.mem_flatMap.1 hb
 exact hf x b hx
theorem p9 (x:Int):∀b∈eI x,b<256:=pZ _
theorem JU (s:ByteArray):∀b∈eS s,b<256:=aC (pZ _) (Gs s)
theorem wZ (x:Bool):∀b∈eB x,b<256:=fun b hb=>by
 unfold eB at hb
 rw [List.mem_singleton] at hb
 subst hb
 cases x<;>decide
theorem JV (d:Dia):∀b∈eD d,b<256:=aC (eG (fun x=>aC (aC (p9 _) (p9 _)) (p9 _)) _) (p9 _)
theorem tL (g:Gr):∀b∈eGr g,b<256:=by
 have i:=p9
 have s:=JU
 have d:=JV
 refine aC (aC (aC (aC (aC (aC (aC (eG s _) (d _)) (eG (fun t=> ?_) _)) (eG s _)) (eG (fun p=> ?_) _)) (i _)) (eG (fun l=> ?_) _)) (eG (fun f=> ?_) _)
 ·exact aC (aC (aC (aC (aC (s _) (i _)) (s _)) (eG (fun x=>aC (aC (aC (aC (i _) (i _)) (i _)) (i _)) (i _)) _)) (s _)) (d _)
 ·exact aC (aC (aC (aC (aC (aC (aC (s _) (i _)) (eG (fun x=>aC (wZ _) (i _)) _)) (d _)) (wZ _)) (i _)) (eG (fun x=>aC (aC (i _) (i _)) (i _)) _)) (aC (wZ _) (aC (aC (aC (i _) (i _)) (i _)) (i _)))
 ·exact aC (aC (eG i _) (i _)) (d _)
 ·exact aC (aC (aC (aC (aC (aC (aC (i _) (i _)) (i _)) (i _)) (i _)) (i _)) (eG i _)) (d _)
theorem yU {g:Gr} (h:pGr g):dGr (eGr g)=some (g,[]):=by
 have:=JX.wr g [] h
 rw [List.append_nil] at this
 exact this
theorem Fl {g:Gr} (h:pGr g) (hc:cf g=0):qi (eGr g)=(g,0):=by
 unfold qi
 rw [yU h]
 exact if_pos hc
theorem Fm {a b:List Nat} (ha:∀x∈a,x<256) (hb:∀x∈b,x<256):decide (rP a=rP b)=decide (a=b):=by
 refine decide_eq_decide.2 ⟨fun h=> ?_,fun h=>by rw [h]⟩
 rw [vc,vc] at h
 rw [← qe ha,← qe hb,h]
theorem yV {F:PH} {w:Array Value} {g:Gr} (hT:Tab F) (hg:GV F w g) (hz:Sz g) (hm:Sm g) (hc:cf g=0) (hn:NN g) (hl:(eGr g).length≤100000000000):
  ac prog 14 #[.agg w] F fun r F'=>(∃s:Sl,r=.tuple #[s.v,vi 0]∧RdS F' s 1 ((eGr g).map vB))∧F.le F':=by
 refine (lV hT hg hz hm fun _=>⟨hn,hl⟩).mono ?_
 rintro r F' ⟨⟨s,h1,h2⟩,h3⟩
 rw [hc] at h1
 rw [if_pos hc] at h2
 exact ⟨⟨s,h1,h2⟩,h3⟩
theorem w5 {F:PH} {v v':Array Value} {x y:Rw} (hT:Tab F) (hx:vr F v x) (hy:vr F v' y):ac prog 4 #[.agg v,.agg v'] F (RT F):=by
 have hv5:v.size=5:=by obtain ⟨⟨_,_,_,rfl,_⟩,_,_⟩:=hx;rfl
 have hv5':v'.size=5:=by obtain ⟨⟨_,_,_,rfl,_⟩,_,_⟩:=hy;rfl
 refine cQ4 ?_
 unfold bQ4
 refine fresh fun b2 F1 l1 q2 _=>fresh fun b3 F2 l2 q3 _=> ?_
 have l12:=aa l1 l2
 refine (Ay (hT.le l12)).mono ?_
 rintro _ F3 ⟨rfl,l3⟩
 have l13:=aa l12 l3
 refine ⟨_,rfl,v,hv5,ai (l3 _ _ (l2 _ _ q2)),?_⟩
 refine (lR (hx.le l13)).mono ?_
 rintro _ F4 ⟨⟨w,rfl,hw⟩,l4⟩
 refine ⟨_,rfl,?_⟩
 refine zV hw.st (fun b6 F5 l5 q6=> ?_) rfl hw.size
 have l45:=aa l4 l5
 have l15:=aa l13 l45
 refine ⟨v',hv5',ai (l45 _ _ (l3 _ _ q3)),?_⟩
 refine (lR (hy.le l15)).mono ?_
 rintro _ F6 ⟨⟨w',rfl,hw'⟩,l6⟩
 refine ⟨_,rfl,?_⟩
 refine zV hw'.st (fun b7 F7 l7 q7=> ?_) rfl hw'.size
 have l67:=aa l6 l7
 have l17:=aa l15 l67
 obtain ⟨mg,bd⟩:=jw x
 obtain ⟨mg',bd'⟩:=jw y
 obtain ⟨p1,p2,p3⟩:=vb x
 obtain ⟨p1',p2',p3'⟩:=vb y
 have hc:=fa.2 (rS x)
 have hc':=fa.2 (rS y)
 generalize fI x=g at*
 generalize fI y=g' at*
 have hz:=mg.sz bd
 have hm:=mg.sm bd (by decide) (by decide)
 have hz':=mg'.sz bd'
 have hm':=mg'.sm bd' (by decide) (by decide)
 replace hw:=hw.le (aa l5 l67)
 replace hw':=hw'.le l7
 replace q6:=l67 _ _ q6
 refine ⟨w,hw.size,ai q6,?_⟩
 refine (yV (hT.le l17) hw hz hm hc p2 (by omega)).mono ?_
 rintro _ F8 ⟨⟨s,rfl,hs⟩,l8⟩
 refine ⟨_,_,rfl,w',hw'.size,ai (l8 _ _ q7),?_⟩
 refine (yV (hT.le (aa l17 l8)) (hw'.le l8) hz' hm' hc' p2' (by omega)).mono ?_
 rintro _ F9 ⟨⟨s',rfl,hs'⟩,l9⟩
 have l89:=aa l8 l9
 have l19:=aa l17 l89
 refine ⟨_,_,rfl,?_⟩
 refine (ve (B:=eGr g) (hT.le l19) ⟨hs.le l9,tL g,by omega⟩ fun g2 h2=> ?_).mono ?_
 ·rw [yU p1] at h2
  cases h2
  exact hz
 rintro _ F10 ⟨⟨w2,rfl,hw2⟩,l10⟩
 rw [Fl p1 hc] at hw2 ⊢
 refine ⟨_,_,rfl,?_⟩
 refine zV hw2.st (fun b12 F11 l11 q12=> ?_) rfl hw2.size
 have l011:=aa l10 l11
 have l811:=aa l89 l011
 refine ⟨fun _=>⟨fun _=>⟨fun _=>⟨w2,hw2.size,ai q12,w,hw.size,ai (l811 _ _ q6),?_⟩,fun h=>absurd rfl h⟩,fun h=>absurd rfl h⟩,fun h=>absurd rfl h⟩
 refine (nY (hw2.le l11) (hw.le l811) hm).mono ?_
 rintro _ F12 ⟨rfl,l12'⟩
 rw [decide_eq_true rfl]
 have l812:=aa l811 l12'
 have k9:=aa l9 (aa l011 l12')
 have k10:=aa l011 l12'
 refine ⟨_,rfl,fun _=>⟨_,eZ (hs.le k9),_,eZ (hs'.le k10),w,hw.size,ai (l812 _ _ q6),w',hw'.size,ai (l812 _ _ q7),?_⟩,fun h=>(by cases h)⟩
 refine (nY (hw.le l812) (hw'.le l812) hm).mono ?_
 rintro _ F13 ⟨rfl,l13'⟩
 have e:(ByteArray.toList (rP (eGr g))==ByteArray.toList (rP (eGr g')))=decide (g=g'):=by
  rw [gU,Fm (tL g) (tL g')]
  exact decide_eq_decide.2 ⟨fun h=>Fk p1 p1' h,fun h=>by rw [h]⟩
 refine ⟨_,rfl,eZ (hs'.le (aa k10 l13')),eZ (hs.le (aa k9 l13')),?_⟩
 rw [e]
 refine ⟨fun _=>⟨rfl,aa l17 (aa l812 l13')⟩,fun h=> ?_⟩
 simp at h
end Go.Proofs.YtenpmjhnhepfdaaGreatDoor
