/-
  The codec that reads: its state, numbers, counts, strings, flags.
-/
import Derived.Test.YtenpmjhnhepfdaaGreatDoorHr
import Derived.Test.YtenpmjhnhepfdaaGreatDoorIy
import Derived.Test.YtenpmjhnhepfdaaGreatDoorRa
namespace Go.Proofs.YtenpmjhnhepfdaaGreatDoor
open Go Go.Proofs.Tryz
set_option maxRecDepth 10000
abbrev Ps (α:Type):=List Nat→Option (α×List Nat)
structure Co {α:Type} (e:α→List Nat) (d:Ps α) (P:α→Prop):Prop where
 wr:∀x r,P x→d (e x++r)=some (x,r)
 rd:∀l x r,(∀b∈l,b<256)→d l=some (x,r)→l=e x++r∧P x
 ne:∀x,0<(e x).length
section
variable {α β:Type} {e:α→List Nat} {d:Ps α} {P:α→Prop} {e':β→List Nat} {d':Ps β} {P':β→Prop}
def aW (d:Ps α) (d':Ps β):Ps (α×β):=fun l=>match d l with
 |none=>none
 |some (x,r)=>match d' r with
  |none=>none
  |some (y,r')=>some ((x,y),r')
def eY (f:α→β) (d:Ps α):Ps β:=fun l=>match d l with
 |none=>none
 |some (x,r)=>some (f x,r)
theorem Co.pair (h:Co e d P) (h':Co e' d' P'):Co (fun x:α×β=>e x.1++e' x.2) (aW d d') (fun x=>P x.1∧P' x.2):=by
 refine ⟨fun x r hp=> ?_,fun l x r hb hd=> ?_,fun x=>by rw [List.length_append];have:=h.ne x.1;omega⟩
 ·unfold aW
  rw [List.append_assoc,h.wr _ _ hp.1]
  dsimp only
  rw [h'.wr _ _ hp.2]
 ·unfold aW at hd
  cases h1:d l with
  |none=>rw [h1] at hd;cases hd
  |some q=>
   obtain ⟨a,r1⟩:=q
   rw [h1] at hd
   dsimp only at hd
   obtain ⟨e1,p1⟩:=h.rd _ _ _ hb h1
   cases h2:d' r1 with
   |none=>rw [h2] at hd;cases hd
   |some q=>
    obtain ⟨b,r2⟩:=q
    rw [h2] at hd
    cases hd
    obtain ⟨e2,p2⟩:=h'.rd _ _ _ (fun x hx=>hb x (by rw [e1];exact List.mem_append_right _ hx)) h2
    exact ⟨by rw [e1,e2,List.append_assoc],p1,p2⟩
theorem Co.iso (h:Co e d P) {f:α→β} {g:β→α} (h1:∀y,f (g y)=y) (h2:∀x,g (f x)=x) {e2:β→List Nat} (he:∀y,e2 y=e (g y)) {P2:β→Prop} (hP:∀y,P2 y↔P (g y)):Co e2 (eY f d) P2:=by
 refine ⟨fun y r hp=> ?_,fun l y r hb hd=> ?_,fun y=>by rw [he];exact h.ne _⟩
 ·unfold eY
  rw [he,h.wr _ _ ((hP y).1 hp)]
  dsimp only
  rw [h1]
 ·unfold eY at hd
  cases h3:d l with
  |none=>rw [h3] at hd;cases hd
  |some q=>
   obtain ⟨a,r1⟩:=q
   rw [h3] at hd
   cases hd
   obtain ⟨e1,p1⟩:=h.rd _ _ _ hb h3
   exact ⟨by rw [he,h2];exact e1,(hP _).2 (by rw [h2];exact p1)⟩
def dV (d:Ps α):Nat→Ps (List α)
 |0,l=>some ([],l)
 |k+1,l=>match d l with
  |none=>none
  |some (x,r)=>match dV d k r with
   |none=>none
   |some (xs,r')=>some (x::xs,r')
theorem Co.times (h:Co e d P):∀(xs:List α) (r:List Nat),(∀x∈xs,P x)→dV d xs.length (xs.flatMap e++r)=some (xs,r)
 |[],_,_=>rfl
 |x::xs,r,hp=>by
  rw [List.length_cons,List.flatMap_cons,List.append_assoc]
  unfold dV
  rw [h.wr _ _ (hp x (by simp))]
  dsimp only
  rw [h.times xs r fun y hy=>hp y (by simp [hy])]
theorem Co.times_rd (h:Co e d P):∀(k:Nat) (l:List Nat) (xs:List α) (r:List Nat),(∀b∈l,b<256)→dV d k l=some (xs,r)→l=xs.flatMap e++r∧xs.length=k∧∀x∈xs,P x
 |0,l,xs,r,_,hd=>by
  cases hd
  exact ⟨rfl,rfl,fun _ h=>(by cases h)⟩
 |k+1,l,xs,r,hb,hd=>by
  unfold dV at hd
  cases h1:d l with
  |none=>rw [h1] at hd;cases hd
  |some q=>
   obtain ⟨a,r1⟩:=q
   rw [h1] at hd
   dsimp only at hd
   obtain ⟨e1,p1⟩:=h.rd _ _ _ hb h1
   cases h2:dV d k r1 with
   |none=>rw [h2] at hd;cases hd
   |some q=>
    obtain ⟨ys,r2⟩:=q
    rw [h2] at hd
    cases hd
    obtain ⟨e2,l2,p2⟩:=h.times_rd k _ _ _ (fun x hx=>hb x (by rw [e1];exact List.mem_append_right _ hx)) h2
    refine ⟨by rw [List.flatMap_cons,e1,e2,List.append_assoc],by rw [List.length_cons,l2],fun x hx=> ?_⟩
    rcases List.mem_cons.1 hx with rfl|hx
    ·exact p1
    ·exact p2 x hx
theorem jz (h:Co e d P):∀xs:List α,xs.length≤(xs.flatMap e).length
 |[]=>by simp
 |x::xs=>by
  rw [List.flatMap_cons,List.length_append,List.length_cons]
  have:=jz h xs
  have:=h.ne x
  omega
end
def dN:Nat→Ps Nat
 |0,_=>none
 |_+1,[]=>none
 |k+1,x::l=>if x<128 then (if x=0∧k≠8 then none else some (x,l)) else match dN k l with
  |none=>none
  |some (n,r)=>some (x - 128+128*n,r)
theorem Ol:∀(k n:Nat) (r:List Nat),n<128 ^ (k+1)→(n≠0∨k=8)→dN (k+1) (dZ n++r)=some (n,r):=by
 intro k
 induction k with
 |zero=>
  intro n r h h0
  have h:n<128:=by simpa using h
  rw [bK h,List.cons_append,List.nil_append]
  unfold dN
  rw [if_pos h,if_neg (by omega)]
 |succ k ih=>
  intro n r h h0
  by_cases hn:n<128
  ·rw [bK hn,List.cons_append,List.nil_append]
   unfold dN
   rw [if_pos hn,if_neg (by omega)]
  ·rw [fN hn,List.cons_append]
   unfold dN
   rw [if_neg (by omega),ih (n / 128) r (by rw [Nat.pow_succ] at h;omega) (.inl (by omega))]
   dsimp only
   rw [show n % 128+128 - 128+128*(n / 128)=n by omega]
theorem DG:∀(k:Nat) (l:List Nat) (n:Nat) (r:List Nat),k≤9→(∀b∈l,b<256)→dN k l=some (n,r)→l=dZ n++r∧n<128 ^ k∧(n≠0∨k=9):=by
 intro k
 induction k with
 |zero=>intro l n r _ _ h;cases h
 |succ k ih=>
  intro l n r hk hb h
  cases l with
  |nil=>cases h
  |cons x l=>
   unfold dN at h
   by_cases hx:x<128
   ·rw [if_pos hx] at h
    by_cases h0:x=0∧k≠8
    ·rw [if_pos h0] at h;cases h
    ·rw [if_neg h0] at h
     cases h
     refine ⟨by rw [bK hx];rfl,?_,by omega⟩
     have:0<128 ^ k:=Nat.pow_pos (by decide)
     rw [Nat.pow_succ];omega
   ·rw [if_neg hx] at h
    cases h1:dN k l with
    |none=>rw [h1] at h;cases h
    |some q=>
     obtain ⟨m,r1⟩:=q
     rw [h1] at h
     cases h
     have hx2:=hb x (by simp)
     obtain ⟨e1,e2,e3⟩:=ih l m _ (by omega) (fun b hb'=>hb b (by simp [hb'])) h1
     refine ⟨?_,by rw [Nat.pow_succ];omega,.inl (by omega)⟩
     rw [fN (by omega),show (x - 128+128*m) % 128+128=x by omega,show (x - 128+128*m) / 128=m by omega,List.cons_append,← e1]
def N63 (n:Nat):Prop:=n<128 ^ 9
def gb:Ps Nat:=dN 9
theorem coN:Co dZ gb N63:=⟨fun n r h=>Ol 8 n r h (.inr rfl),fun l n r hb h=>⟨(DG 9 l n r (Nat.le_refl _) hb h).1,(DG 9 l n r (Nat.le_refl _) hb h).2.1⟩,iF⟩
def I63 (x:Int):Prop:=0≤x∧x<128 ^ 9
def dI:Ps Int:=eY Int.ofNat gb
theorem coI:Co eI dI I63:=by
 refine ⟨fun x r h=> ?_,fun l x r hb h=> ?_,fun x=>iF _⟩
 ·unfold dI eY eI
  rw [coN.wr _ _ (show x.toNat<128 ^ 9 by have:=h.1;have:=h.2;omega)]
  dsimp only
  rw [show Int.ofNat x.toNat=x from Int.toNat_of_nonneg h.1]
 ·unfold dI eY at h
  cases h1:gb l with
  |none=>rw [h1] at h;cases h
  |some q=>
   obtain ⟨n,r1⟩:=q
   rw [h1] at h
   cases h
   obtain ⟨e1,e2⟩:=coN.rd _ _ _ hb h1
   have e2:n<128 ^ 9:=e2
   exact ⟨e1,by show (0:Int)≤n;omega,by show (n:Int)<128 ^ 9;omega⟩
def dC:Ps Nat:=fun l=>match gb l with
 |none=>none
 |some (n,r)=>if n≤r.length then some (n,r) else none
theorem H0 {n:Nat} {r:List Nat} (h:N63 n) (hr:n≤r.length):dC (dZ n++r)=some (n,r):=by
 unfold dC
 rw [coN.wr _ _ h]
 exact if_pos hr
theorem Ia {l r:List Nat} {n:Nat} (hb:∀b∈l,b<256) (h:dC l=some (n,r)):l=dZ n++r∧N63 n∧n≤r.length:=by
 unfold dC at h
 cases h1:gb l with
 |none=>rw [h1] at h;cases h
 |some q=>
  obtain ⟨m,r1⟩:=q
  rw [h1] at h
  dsimp only at h
  by_cases hm:m≤r1.length
  ·rw [if_pos hm] at h
   cases h
   obtain ⟨e1,e2⟩:=coN.rd _ _ _ hb h1
   exact ⟨e1,e2,hm⟩
  ·rw [if_neg hm] at h;cases h
section
variable {α:Type} {e:α→List Nat} {d:Ps α} {P:α→Prop}
def dL (d:Ps α):Ps (List α):=fun l=>match dC l with
 |none=>none
 |some (n,r)=>dV d n r
theorem Co.list (h:Co e d P):Co (eL e) (dL d) (fun xs=>N63 xs.length∧∀x∈xs,P x):=by
 refine ⟨fun xs r hp=> ?_,fun l xs r hb hd=> ?_,fun xs=> ?_⟩
 ·unfold dL eL
  rw [List.append_assoc,H0 hp.1 (by rw [List.length_append];have:=jz h xs;omega)]
  exact h.times xs r hp.2
 ·unfold dL at hd
  cases h1:dC l with
  |none=>rw [h1] at hd;cases hd
  |some q=>
   obtain ⟨n,r1⟩:=q
   rw [h1] at hd
   dsimp only at hd
   obtain ⟨e1,n1,_⟩:=Ia hb h1
   obtain ⟨e2,e3,e4⟩:=h.times_rd n r1 xs r (fun x hx=>hb x (by rw [e1];exact List.mem_append_right _ hx)) hd
   exact ⟨by unfold eL;rw [e3,e1,e2,List.append_assoc],by rw [e3];exact n1,e4⟩
 ·unfold eL
  rw [List.length_append]
  have:=iF xs.length
  omega
end
def ofB (l:List Nat):ByteArray:=⟨(l.map UInt8.ofNat).toArray⟩
theorem wY {l:List Nat} (h:∀b∈l,b<256):bs (ofB l)=l:=by
 unfold bs ofB
 rw [List.map_map]
 conv=>rhs;rw [← List.map_id l]
 refine List.map_congr_left fun b hb=> ?_
 have:=h b hb
 simp only [Function.comp_apply,id_eq,UInt8.toNat_ofNat']
 omega
theorem J3 (s:ByteArray):ofB (bs s)=s:=sX (wY (Gy s))
def dS:Ps ByteArray:=fun l=>match dC l with
 |none=>none
 |some (n,r)=>some (ofB (r.take n),r.drop n)
theorem coS:Co eS dS (fun s=>N63 s.size):=by
 refine ⟨fun s r h=> ?_,fun l s r hb hd=> ?_,fun s=> ?_⟩
 ·unfold dS eS
  rw [List.append_assoc,H0 h (by rw [List.length_append,bE];omega)]
  dsimp only
  rw [← bE,List.take_left,List.drop_left,J3]
 ·unfold dS at hd
  cases h1:dC l with
  |none=>rw [h1] at hd;cases hd
  |some q=>
   obtain ⟨n,r1⟩:=q
   rw [h1] at hd
   cases hd
   obtain ⟨e1,n1,n2⟩:=Ia hb h1
   have hx:∀b∈r1.take n,b<256:=fun x hx=>hb x (by rw [e1];exact List.mem_append_right _ (List.mem_of_mem_take hx))
   have hs:(ofB (r1.take n)).size=n:=by rw [← bE,wY hx,List.length_take];omega
   exact ⟨by unfold eS;rw [wY hx,hs,List.append_assoc,List.take_append_drop];exact e1,by rw [hs];exact n1⟩
 ·unfold eS
  rw [List.length_append]
  have:=iF s.size
  omega
def dB:Ps Bool:=fun l=>match gb l with
 |none=>none
 |some (n,r)=>if n≤1 then some (decide (n=1),r) else none
theorem coB:Co eB dB (fun _=>True):=by
 have e:∀b,eB b=dZ (if b then 1 else 0):=fun b=>by cases b<;>exact (bK (by decide)).symm
 refine ⟨fun b r _=> ?_,fun l b r hb hd=> ?_,fun b=>by rw [e];exact iF _⟩
 ·unfold dB
  rw [e,coN.wr _ _ (by cases b<;>(show _<128 ^ 9;decide))]
  cases b<;>rfl
 ·unfold dB at hd
  cases h1:gb l with
  |none=>rw [h1] at hd;cases hd
  |some q=>
   obtain ⟨n,r1⟩:=q
   rw [h1] at hd
   dsimp only at hd
   obtain ⟨e1,_⟩:=coN.rd _ _ _ hb h1
   by_cases hn:n≤1
   ·rw [if_pos hn] at hd
    cases hd
    refine ⟨?_,trivial⟩
    rw [e,e1]
    have:n=0∨n=1:=by omega
    rcases this with rfl|rfl<;>rfl
   ·rw [if_neg hn] at hd;cases hd
def pBr (b:Br):Prop:=I63 b.v∧I63 b.l∧I63 b.h
def dBr:Ps Br:=eY (fun x=>⟨x.1,x.2.1,x.2.2⟩) (aW dI (aW dI dI))
theorem Om:Co eBr dBr pBr:=(coI.pair (coI.pair coI)).iso (g:=fun (b:Br)=>(b.v,b.l,b.h)) (fun _=>rfl) (fun _=>rfl) (fun _=>by unfold eBr;simp only [List.append_assoc]) fun _=>Iff.rfl
def pL {α:Type} (P:α→Prop) (xs:List α):Prop:=N63 xs.length∧∀x∈xs,P x
def pD (d:Dia):Prop:=pL pBr d.1∧I63 d.2
def dD:Ps Dia:=aW (dL dBr) dI
theorem coD:Co eD dD pD:=Om.list.pair coI
def pNd (x:Nd):Prop:=I63 x.k∧I63 x.lo∧I63 x.hi∧I63 x.a∧I63 x.b
def dNd:Ps Nd:=eY (fun x=>⟨x.1,x.2.1,x.2.2.1,x.2.2.2.1,x.2.2.2.2⟩) (aW dI (aW dI (aW dI (aW dI dI))))
theorem On:Co eNd dNd pNd:=(coI.pair (coI.pair (coI.pair (coI.pair coI)))).iso (g:=fun (x:Nd)=>(x.k,x.lo,x.hi,x.a,x.b)) (fun _=>rfl) (fun _=>rfl) (fun _=>by unfold eNd;simp only [List.append_assoc]) fun _=>Iff.rfl
def pS (s:ByteArray):Prop:=N63 s.size
def pTk (t:Tk):Prop:=pS t.name∧I63 t.cls∧pS t.lit∧pL pNd t.pat∧pS t.smp∧pD t.cond
def dTk:Ps Tk:=eY (fun x=>⟨x.1,x.2.1,x.2.2.1,x.2.2.2.1,x.2.2.2.2.1,x.2.2.2.2.2⟩) (aW dS (aW dI (aW dS (aW (dL dNd) (aW dS dD)))))
theorem Oo:Co eTk dTk pTk:=(coS.pair (coI.pair (coS.pair (On.list.pair (coS.pair coD))))).iso (g:=fun (x:Tk)=>(x.name,x.cls,x.lit,x.pat,x.smp,x.cond)) (fun _=>rfl) (fun _=>rfl) (fun _=>by unfold eTk;simp only [List.append_assoc]) fun _=>Iff.rfl
def pSy (s:Sy):Prop:=True∧I63 s.i
def dSy:Ps Sy:=eY (fun x=>⟨x.1,x.2⟩) (aW dB dI)
theorem Oq:Co eSy dSy pSy:=(coB.pair coI).iso (g:=fun (x:Sy)=>(x.t,x.i)) (fun _=>rfl) (fun _=>rfl) (fun _=>rfl) fun _=>Iff.rfl
def pCn (x:Cn):Prop:=I63 x.k∧I63 x.a∧I63 x.b
def dCn:Ps Cn:=eY (fun x=>⟨x.1,x.2.1,x.2.2⟩) (aW dI (aW dI dI))
theorem Ot:Co eCn dCn pCn:=(coI.pair (coI.pair coI)).iso (g:=fun (b:Cn)=>(b.k,b.a,b.b)) (fun _=>rfl) (fun _=>rfl) (fun _=>by unfold eCn;simp only [List.append_assoc]) fun _=>Iff.rfl
def Ou (s:Sco):Prop:=True∧I63 s.d∧I63 s.k∧I63 s.u∧I63 s.a
def Ov:Ps Sco:=eY (fun x=>⟨x.1,x.2.1,x.2.2.1,x.2.2.2.1,x.2.2.2.2⟩) (aW dB (aW dI (aW dI (aW dI dI))))
theorem Ow:Co Bo Ov Ou:=(coB.pair (coI.pair (coI.pair (coI.pair coI)))).iso (g:=fun (x:Sco)=>(x.o,x.d,x.k,x.u,x.a)) (fun _=>rfl) (fun _=>rfl) (fun _=>by unfold Bo;simp only [List.append_assoc]) fun _=>Iff.rfl
def pPr (p:Pr):Prop:=pS p.name∧I63 p.left∧pL pSy p.right∧pD p.cond∧True∧I63 (p.rank+1)∧pL pCn p.lay∧Ou p.sco
def dPr:Ps Pr:=eY (fun x=>⟨x.1,x.2.1,x.2.2.1,x.2.2.2.1,x.2.2.2.2.1,x.2.2.2.2.2.1 - 1,x.2.2.2.2.2.2.1,x.2.2.2.2.2.2.2⟩) (aW dS (aW dI (aW (dL dSy) (aW dD (aW dB (aW dI (aW (dL dCn) Ov)))))))
theorem Ox:Co ePr dPr pPr:=(coS.pair (coI.pair (Oq.list.pair (coD.pair (coB.pair (coI.pair (Ot.list.pair Ow))))))).iso (g:=fun (x:Pr)=>(x.name,x.left,x.right,x.cond,x.brk,x.rank+1,x.lay,x.sco)) (fun y=>by obtain ⟨_,_,_,_,_,r,_,_⟩:=y;show Pr.mk _ _ _ _ _ (r+1 - 1) _ _=_;rw [Int.add_sub_cancel])
 (fun x=>by obtain ⟨_,_,_,_,_,r,_,_⟩:=x;show (_,_,_,_,_,r - 1+1,_,_)=_;rw [Int.sub_add_cancel]) (fun _=>by unfold ePr;simp only [List.append_assoc]) fun _=>Iff.rfl
def pLv (l:Lv):Prop:=pL I63 l.ps∧I63 l.assoc∧pD l.cond
def dLv:Ps Lv:=eY (fun x=>⟨x.1,x.2.1,x.2.2⟩) (aW (dL dI) (aW dI dD))
theorem Oy:Co eLv dLv pLv:=(coI.list.pair (coI.pair coD)).iso (g:=fun (x:Lv)=>(x.ps,x.assoc,x.cond)) (fun _=>rfl) (fun _=>rfl) (fun _=>by unfold eLv;simp only [List.append_assoc]) fun _=>Iff.rfl
def pFi (f:Fi):Prop:=I63 f.k∧I63 f.par∧I63 f.pos∧I63 f.ch∧I63 f.left∧I63 f.tok∧pL I63 f.toks∧pD f.cond
def dFi:Ps Fi:=eY (fun x=>⟨x.1,x.2.1,x.2.2.1,x.2.2.2.1,x.2.2.2.2.1,x.2.2.2.2.2.1,x.2.2.2.2.2.2.1,x.2.2.2.2.2.2.2⟩) (aW dI (aW dI (aW dI (aW dI (aW dI (aW dI (aW (dL dI) dD)))))))
theorem Oz:Co eFi dFi pFi:=(coI.pair (coI.pair (coI.pair (coI.pair (coI.pair (coI.pair (coI.list.pair coD))))))).iso (g:=fun (x:Fi)=>(x.k,x.par,x.pos,x.ch,x.left,x.tok,x.toks,x.cond)) (fun _=>rfl) (fun _=>rfl) (fun _=>by unfold eFi;simp only [List.append_assoc]) fun _=>Iff.rfl
def pGr (g:Gr):Prop:=pL pS g.conds∧pD g.fam∧pL pTk g.toks∧pL pS g.nons∧pL pPr g.prods∧I63 g.start∧pL pLv g.lvs∧pL pFi g.fils
def dGr:Ps Gr:=eY (fun x=>⟨x.1,x.2.1,x.2.2.1,x.2.2.2.1,x.2.2.2.2.1,x.2.2.2.2.2.1,x.2.2.2.2.2.2.1,x.2.2.2.2.2.2.2⟩) (aW (dL dS) (aW dD (aW (dL dTk) (aW (dL dS) (aW (dL dPr) (aW dI (aW (dL dLv) (dL dFi))))))))
theorem wZ:Co eGr dGr pGr:=(coS.list.pair (coD.pair (Oo.list.pair (coS.list.pair (Ox.list.pair (coI.pair (Oy.list.pair Oz.list))))))).iso (g:=fun (x:Gr)=>(x.conds,x.fam,x.toks,x.nons,x.prods,x.start,x.lvs,x.fils)) (fun _=>rfl) (fun _=>rfl) (fun _=>by unfold eGr;simp only [List.append_assoc]) fun _=>Iff.rfl
theorem NN.of {g:Gr} (h:pGr g) (hr:∀p∈g.prods,-1≤p.rank∧p.rank≤1):NN g:=by
 obtain ⟨_,h2,h3,_,h5,h6,h7,h8⟩:=h
 have hd:∀{d:Dia},pD d→(∀b∈d.1,0≤b.v∧0≤b.l∧0≤b.h)∧0≤d.2:=fun h=>⟨fun b hb=>⟨(h.1.2 b hb).1.1,(h.1.2 b hb).2.1.1,(h.1.2 b hb).2.2.1⟩,h.2.1⟩
 refine ⟨hd h2,fun t ht=> ?_,fun p hp=> ?_,h6.1,fun l hl=> ?_,fun f hf=> ?_⟩
 ·obtain ⟨_,a1,_,a2,_,a3⟩:=h3.2 t ht
  exact ⟨a1.1,fun x hx=>by obtain ⟨b1,b2,b3,b4,b5⟩:=a2.2 x hx;exact ⟨b1.1,b2.1,b3.1,b4.1,b5.1⟩,hd a3⟩
 ·obtain ⟨_,a1,a2,a3,_,_,a4,_,a5,a6,a7,a8⟩:=h5.2 p hp
  exact ⟨a1.1,fun s hs=>(a2.2 s hs).2.1,hd a3,(hr p hp).1,(hr p hp).2,fun x hx=>by obtain ⟨b1,b2,b3⟩:=a4.2 x hx;exact ⟨b1.1,b2.1,b3.1⟩,a5.1,a6.1,a7.1,a8.1⟩
 ·obtain ⟨a1,a2,a3⟩:=h7.2 l hl
  exact ⟨fun x hx=>(a1.2 x hx).1,a2.1,hd a3⟩
 ·obtain ⟨a1,a2,a3,a4,a5,a6,a7,a8⟩:=h8.2 f hf
  exact ⟨a1.1,a2.1,a3.1,a4.1,a5.1,a6.1,fun x hx=>(a7.2 x hx).1,hd a8⟩
def Res {α:Type} (d:Ps α) (r:Option (List Nat)) (y:α) (r':Option (List Nat)):Prop:=match r with
 |none=>r'=none
 |some l=>match d l with
  |none=>r'=none
  |some (x,l')=>y=x∧r'=some l'
section
variable {α β:Type} {d:Ps α} {d':Ps β} {r r' r'':Option (List Nat)} {x:α} {y:β}
theorem Res.pair (h:Res d r x r') (h':Res d' r' y r''):Res (aW d d') r (x,y) r'':=by
 cases r with
 |none=>
  have h:r'=none:=h
  subst h
  exact h'
 |some l=>
  unfold Res aW at*
  dsimp only at*
  cases h1:d l with
  |none=>
   rw [h1] at h
   dsimp only at h
   subst h
   exact h'
  |some q=>
   obtain ⟨a,l1⟩:=q
   rw [h1] at h
   obtain ⟨rfl,rfl⟩:=h
   dsimp only at*
   cases h2:d' l1 with
   |none=>rw [h2] at h';exact h'
   |some q=>
    obtain ⟨b,l2⟩:=q
    rw [h2] at h'
    obtain ⟨rfl,rfl⟩:=h'
    exact ⟨rfl,rfl⟩
theorem Res.map (f:α→β) (h:Res d r x r'):Res (eY f d) r (f x) r':=by
 cases r with
 |none=>exact h
 |some l=>
  unfold Res eY at*
  dsimp only at*
  cases h1:d l with
  |none=>rw [h1] at h;exact h
  |some q=>
   obtain ⟨a,l1⟩:=q
   rw [h1] at h
   obtain ⟨rfl,rfl⟩:=h
   exact ⟨rfl,rfl⟩
end
structure Rd (G:PH) (s:Sl) (B:List Nat):Prop where
 rd:RdS G s 1 (B.map vB)
 b:∀x∈B,x<256
 l:B.length≤100000000000
theorem Rd.le {G G':PH} {s:Sl} {B:List Nat} (h:Rd G s B) (l:G.le G'):Rd G' s B:=⟨h.rd.le l,h.b,h.l⟩
theorem Rd.len {G:PH} {s:Sl} {B:List Nat} (h:Rd G s B):s.len=B.length:=by
 have:=h.rd.len
 rw [List.length_map] at this
 omega
abbrev io (s:Sl) (k:Nat) (bad:Bool):Array Value:= #[vi 1,s.v,vi k,.bool bad]
def rcS (s:Sl) (B:List Nat) (bc:Nat) (r:Option (List Nat)):PH→Prop:=fun H=>∃k:Nat,(k≤B.length∧∀l,r=some l→B.drop k=l)∧H bc=some (.cells (io s k r.isNone) 116)
section
variable {G F:PH} {As:List (PH→Prop)} {s:Sl} {B:List Nat} {bc:Nat} {r:Option (List Nat)}
theorem St.exR (h:St G F (rcS s B bc r::As)):∃k:Nat,(k≤B.length∧∀l,r=some l→B.drop k=l)∧St G F (pt bc (.cells (io s k r.isNone) 116)::As):=by
 obtain ⟨H1,h1⟩:=h.get (i:=0) rfl
 obtain ⟨k,hk,e⟩:=h1.1
 refine ⟨k,hk,h.imp (A':=pt bc (.cells (io s k r.isNone) 116)) 0 rfl fun H' hl hH'=> ?_⟩
 obtain ⟨k',hk',e'⟩:=hH'
 have i1:=h1.2.2 _ _ e
 have i2:=hl _ _ e'
 rw [i1] at i2
 show H' bc=_
 rw [e',← i2]
theorem St.mkR {k:Nat} {bad:Bool} (h:St G F (pt bc (.cells (io s k bad) 116)::As)) (hb:bad=r.isNone) (hk:k≤B.length) (hl:∀l,r=some l→B.drop k=l):St G F (rcS s B bc r::As):=
 h.imp (A':=rcS s B bc r) 0 rfl fun H _ hH=>⟨k,⟨hk,hl⟩,by rw [← hb];exact hH⟩
end
theorem RdS.at1 {F:PH} {s:Sl} {vs:List Value} (h:RdS F s 1 vs) {i:Nat} {v:Value} (hi:vs[i]? =some v):∃a,s.base=some a∧0≤(i:Int)∧(i:Int)<(s.len:Int)∧F.cell (Addr.add a (Int.toNat (i:Int)*1))=some v:=by
 obtain ⟨hlt,rfl⟩:=List.getElem?_eq_some_iff.1 hi
 have hl:=h.len
 obtain ⟨b,o,h1,h2⟩:=h.cells (by omega)
 refine ⟨_,h1,by omega,by omega,?_⟩
 have:=h2 i hlt
 simpa using this
theorem J4 {x:Nat} (h:x<256):IntKind.u8.wrap ((BitVec.ofInt (IntKind.u8).bits (x:Int) &&& BitVec.ofInt (IntKind.u8).bits (127:Int)).toNat)=((x % 128:Nat):Int):=by
 have key:∀m:Fin 256,IntKind.u8.wrap ((BitVec.ofInt (IntKind.u8).bits ((m.val:Nat):Int) &&& BitVec.ofInt (IntKind.u8).bits (127:Int)).toNat)=((m.val % 128:Nat):Int):=by decide+kernel
 exact key ⟨x,h⟩
theorem J5 {x N i:Nat} (hx:x<256) (hi:i<9) (hN:N<2 ^ (7*i)):
  IntKind.i64.wrap ((BitVec.ofInt (IntKind.i64).bits (N:Int) ||| BitVec.ofInt (IntKind.i64).bits (IntKind.i64.wrap ((IntKind.i64.wrap (IntKind.u8.wrap ((BitVec.ofInt (IntKind.u8).bits (x:Int) &&& BitVec.ofInt (IntKind.u8).bits (127:Int)).toNat)))*2 ^ (min (Int.toNat ((7*i:Nat):Int)) (IntKind.i64).bits)))).toNat)=((N+x % 128*2 ^ (7*i):Nat):Int)∧N+x % 128*2 ^ (7*i)<2 ^ (7*(i+1)):=by
 have hp:2 ^ (7*(i+1))=128*2 ^ (7*i):=by rw [show 7*(i+1)=7*i+7 by omega,Nat.pow_add];omega
 have hle:2 ^ (7*(i+1))≤2 ^ 63:=Nat.pow_le_pow_right (by decide) (by omega)
 have hm:x % 128*2 ^ (7*i)≤127*2 ^ (7*i):=Nat.mul_le_mul_right _ (by omega)
 have h63:(2:Nat) ^ 63=9223372036854775808:=by decide
 rw [J4 hx,aK (x:=((x % 128:Nat):Int)) (by omega) (by omega),Int.toNat_natCast,show min (7*i) (IntKind.i64).bits=7*i from by show min (7*i) 64=_;omega]
 rw [show ((x % 128:Nat):Int)*2 ^ (7*i)=((x % 128*2 ^ (7*i):Nat):Int) by norm_cast]
 generalize hy:x % 128*2 ^ (7*i)=y at*
 rw [aK (x:=(y:Int)) (by omega) (by omega)]
 have ho:N ||| y=N+y:=by
  have:=Nat.shiftLeft_add_eq_or_of_lt hN (x % 128)
  rw [Nat.shiftLeft_eq,hy] at this
  rw [Nat.or_comm,← this,Nat.add_comm]
 refine ⟨?_,by omega⟩
 rw [BitVec.toNat_or,show (BitVec.ofInt (IntKind.i64).bits (N:Int)).toNat=N from qT (by omega),show (BitVec.ofInt (IntKind.i64).bits (y:Int)).toNat=y from qT (by omega),ho,aK (by omega) (by omega)]
theorem J6 {x:Nat} (h:¬x<128) (k:Nat) (l:List Nat):dN (k+1) (x::l)=(dN k l).map fun q=>(x - 128+128*q.1,q.2):=by
 rw [dN,if_neg h]
 cases dN k l<;>rfl
def sh (i N:Nat) (q:Option (Nat×List Nat)):Option (Nat×List Nat):=q.map fun q=>(N+2 ^ (7*i)*q.1,q.2)
section
variable {G F:PH} {As:List (PH→Prop)} {s:Sl} {B:List Nat} {bc b o:Nat} {e:TypeId} {r:Option (List Nat)} {w:Array Value}
theorem cQ (K:Rd G s B) {v0:Int} (h:St G F (rcS s B bc r::pt b (.cells w e)::As)) (hv:w[o]? =some (vi v0)):
  ac prog 125 #[pc bc,.pointer (some (Addr.mk b o none))] F fun res F'=>res=.tuple #[]∧∃y r',Res dI r y r'∧St G F' (rcS s B bc r'::pt b (.cells (w.setIfInBounds o (vi y)) e)::As):=by
 obtain ⟨k,⟨hk,hl⟩,h⟩:=h.exR
 have ho:=(Array.getElem?_eq_some_iff.1 hv).1
 have hw0:w.setIfInBounds o (vi v0)=w:=by
  apply Array.ext_getElem?
  intro i
  rw [Array.getElem?_setIfInBounds]
  split
  ·rename_i e;subst e;exact hv.symm
  ·rfl
 refine Hf ?_
 unfold Dr
 refine ⟨_,rfl,_,h.ld0 rfl,fun hc=>absurd hc (by decide),fun _=> ?_⟩
 unfold yz
 have j2:∀{F':PH} {k':Nat} {bad:Bool},k'≤B.length→(∀l,r=some l→gb l=none)→St G F' (pt bc (.cells (io s k' bad) 116)::pt b (.cells w e)::As)→
   ky (some (Addr.mk bc 0 none)) (fun res F'=>res=.tuple #[]∧∃y r',Res dI r y r'∧St G F' (rcS s B bc r'::pt b (.cells (w.setIfInBounds o (vi y)) e)::As)) F':=fun {F' k' bad} hk' hn h=>by
  unfold ky
  refine ⟨_,rfl,?_⟩
  rw [aD]
  refine h.set0 (w':=io s k' true) (by simp) rfl fun F2 h=>⟨rfl,v0,none,?_,?_⟩
  ·cases r with
   |none=>rfl
   |some l=>unfold Res dI eY;simp only [hn l rfl]
  ·rw [hw0]
   exact h.mkR rfl hk' fun _ hc=>(by cases hc)
 refine ⟨fun m n q F'=>∃i k' N:Nat,i≤9∧m=9 - i∧n=(N:Int)∧q=((7*i:Nat):Int)∧k'≤B.length∧N<2 ^ (7*i)∧(∀l,r=some l→gb l=sh i N (dN (9 - i) (B.drop k')))∧St G F' (pt bc (.cells (io s k' r.isNone) 116)::pt b (.cells w e)::As),9,
  ⟨0,k,0,by omega,rfl,rfl,rfl,hk,by decide,fun l hr=> ?_,h⟩,?_⟩
 ·rw [hl l hr]
  unfold sh gb
  cases dN 9 l with
  |none=>rfl
  |some q=>simp
 rintro m n q F2 ⟨i,k',N,hi,rfl,rfl,rfl,hk',hN,hd,h⟩
 unfold yy
 refine ⟨fun h63=>⟨_,rfl,_,by rw [aD];exact h.ld0 rfl,_,by rw [aD];exact h.ld0 rfl,fun hlt=>⟨_,by rw [aD];exact h.ld0 rfl,fun hb=> ?_,fun hb=> ?_⟩,fun hge=> ?_⟩,fun h63=> ?_⟩
 ·have hi9:i<9:=by omega
  rw [K.len] at hlt
  have hlt':k'<B.length:=by omega
  have hx:=List.getElem?_eq_getElem hlt'
  generalize B[k']=x at hx
  have hx256:=K.b x (List.mem_of_getElem? hx)
  have hdrop:B.drop k'=x::B.drop (k'+1):=iJ hx
  have hB:=K.l
  obtain ⟨a1,p1,p2,p3,p4⟩:=(K.rd.le h.le).at1 (i:=k') (v:=vB x) (by rw [List.getElem?_map,hx];rfl)
  obtain ⟨l,rfl⟩:∃l,r=some l:=by cases r with|none=>cases hb|some l=>exact ⟨l,rfl⟩
  have hd:=hd l rfl
  obtain ⟨o1,o2⟩:=J5 hx256 hi9 hN
  refine ⟨_,by rw [aD];exact h.ld0 rfl,_,by rw [aD];exact h.ld0 rfl,a1,p1,p2,p3,_,p4,_,by rw [aD];exact h.ld0 rfl,?_⟩
  dsimp only
  rw [aD,aQ hlt' (by omega)]
  refine h.set0 (w':=io s (k'+1) false) (by simp) rfl fun F3 h=>⟨by omega,fun hx128=> ?_,fun hx128=> ?_⟩
  ·have hx':x<128:=by omega
   have j3:∀{F':PH} {bad:Bool},(bad=decide (x=0∧8 - i≠8))→St G F' (pt bc (.cells (io s (k'+1) bad) 116)::pt b (.cells w e)::As)→
     ∀N1,nr N1 (some (Addr.mk b o none)) (N:Int) (x:Int) ((7*i:Nat):Int) (fun res F'=>res=.tuple #[]∧∃y r',Res dI (some l) y r'∧St G F' (rcS s B bc r'::pt b (.cells (w.setIfInBounds o (vi y)) e)::As)) F':=fun {F' bad} hbad h N1=>by
    unfold nr
    rw [o1]
    refine ⟨_,rfl,h.set1 (w':=w.setIfInBounds o (vi ((N+x % 128*2 ^ (7*i):Nat):Int))) ho rfl fun F4 h=>⟨rfl,_,if x=0∧8 - i≠8 then none else some (B.drop (k'+1)),?_,h.mkR ?_ (by omega) ?_⟩⟩
    ·unfold Res dI eY
     dsimp only
     rw [hd,hdrop,show 9 - i=8 - i+1 by omega]
     unfold dN sh
     rw [if_pos hx']
     by_cases h0:x=0∧8 - i≠8
     ·rw [if_pos h0,if_pos h0];rfl
     ·rw [if_neg h0,if_neg h0]
      refine ⟨?_,rfl⟩
      rw [show x % 128=x by omega,Nat.mul_comm x]
      rfl
    ·rw [hbad]
     by_cases h0:x=0∧8 - i≠8
     ·rw [if_pos h0,decide_eq_true h0];rfl
     ·rw [if_neg h0,decide_eq_false h0];rfl
    ·intro l' hl'
     by_cases h0:x=0∧8 - i≠8
     ·rw [if_pos h0] at hl';cases hl'
     ·rw [if_neg h0] at hl';cases hl';rfl
   refine ⟨fun hx0=> ?_,fun hx0=> ?_⟩
   ·rw [aD]
    refine h.set0 (w':=io s (k'+1) (decide ((0:Int)<((7*i:Nat):Int)))) (by simp) rfl fun F4 h=>j3 ?_ h _
    exact decide_eq_decide.2 ⟨fun h=>⟨by omega,by omega⟩,fun h=>by omega⟩
   ·rw [aD]
    refine h.set0 (w':=io s (k'+1) false) (by simp) rfl fun F4 h=>j3 ?_ h _
    exact (decide_eq_false fun h=>hx0 (by omega)).symm
  ·have hx':¬x<128:=by omega
   rw [o1]
   refine ⟨9 - (i+1),by omega,i+1,k'+1,_,by omega,rfl,rfl,?_,by omega,o2,fun l' hl'=> ?_,h⟩
   ·rw [aK (by omega) (by omega)];omega
   ·cases hl'
    rw [hd,hdrop,show 9 - i=9 - (i+1)+1 by omega]
    rw [J6 hx']
    unfold sh
    cases dN (9 - (i+1)) (B.drop (k'+1)) with
    |none=>rfl
    |some q=>
     simp only [Option.map_some]
     refine congrArg some (Prod.ext ?_ rfl)
     show N+2 ^ (7*i)*(x - 128+128*q.1)=N+x % 128*2 ^ (7*i)+2 ^ (7*(i+1))*q.1
     rw [show x % 128=x - 128 by omega,show 2 ^ (7*(i+1))=2 ^ (7*i)*128 by rw [show 7*(i+1)=7*i+7 by omega,Nat.pow_add],Nat.mul_add,Nat.mul_comm (x - 128),Nat.mul_assoc,Nat.add_assoc]
 ·refine j2 hk' (fun l hr=> ?_) h
  rw [hr] at hb
  cases hb
 ·refine j2 hk' (fun l hr=> ?_) h
  rw [K.len] at hge
  rw [hd l hr,show k'=B.length by omega,List.drop_length,show 9 - i=8 - i+1 by omega]
  rfl
 ·refine j2 hk' (fun l hr=> ?_) h
  rw [hd l hr,show i=9 by omega]
  rfl
theorem Res.num {y:Int} {r':Option (List Nat)} (h:Res dI r y r'):∃n:Nat,Res gb r n r'∧(r'≠none→y=(n:Int)):=by
 cases r with
 |none=>exact ⟨0,h,fun hc=>absurd h hc⟩
 |some l=>
  unfold Res dI eY at h
  dsimp only at h
  cases h1:gb l with
  |none=>
   rw [h1] at h
   exact ⟨0,by unfold Res;simp only [h1];exact h,fun hc=>absurd h hc⟩
  |some q=>
   obtain ⟨n,l1⟩:=q
   rw [h1] at h
   exact ⟨n,by unfold Res;simp only [h1];exact ⟨trivial,h.2⟩,fun _=>h.1⟩
theorem Res.then {α:Type} {d:Ps α} {n:Nat} {y:α} {r1 r2:Option (List Nat)} (h:Res gb r n r1) (f:Nat→List Nat→Option (α×List Nat)) (hd:∀l,d l=(gb l).bind fun q=>f q.1 q.2) (h1:r1=none→r2=none) (h2:∀l1,r1=some l1→match f n l1 with|none=>r2=none|some (x,l2)=>y=x∧r2=some l2):Res d r y r2:=by
 cases r with
 |none=>
  have h:r1=none:=h
  exact h1 h
 |some l=>
  unfold Res at h ⊢
  dsimp only at h ⊢
  rw [hd l]
  cases h3:gb l with
  |none=>
   rw [h3] at h
   exact h1 h
  |some q=>
   obtain ⟨m,l1⟩:=q
   rw [h3] at h
   obtain ⟨rfl,rfl⟩:=h
   exact h2 l1 rfl
theorem yW (K:Rd G s B) (n0:Int) (h:St G F (rcS s B bc r::As)):
  ac prog 178 #[pc bc,vi n0] F fun res F'=>∃(m:Nat) (r':Option (List Nat)),res=vi m∧Res dC r m r'∧(r'=none→m=0)∧(∀l1,r'=some l1→m≤l1.length)∧St G F' (rcS s B bc r'::As):=by
 have hs:=K.len
 have hB:=K.l
 refine Hu ?_
 unfold Du
 refine h.new fun b3 F1 h=> ?_
 refine (cQ K (o:=0) h.swap rfl).mono ?_
 rintro _ F2 ⟨rfl,y,r1,hr,h⟩
 obtain ⟨k,⟨hk,hl⟩,h⟩:=h.exR
 obtain ⟨n,hn,hy⟩:=hr.num
 have hdC:∀l,dC l=(gb l).bind fun q=>if q.1≤q.2.length then some (q.1,q.2) else none:=fun l=>by unfold dC;cases gb l<;>rfl
 have j1t:∀{F':PH} {bad:Bool},(∀l1,r1=some l1→¬n≤l1.length)→St G F' (pt bc (.cells (io s k bad) 116)::pt b3 (.cells #[vi y] 3)::As)→
   gC (some (Addr.mk bc 0 none)) b3 true (fun res F'=>∃(m:Nat) (r':Option (List Nat)),res=vi m∧Res dC r m r'∧(r'=none→m=0)∧(∀l1,r'=some l1→m≤l1.length)∧St G F' (rcS s B bc r'::As)) F':=fun {F' bad} hno h=>by
  unfold gC
  refine ⟨fun _=>⟨_,rfl,?_⟩,fun hc=>(by cases hc)⟩
  rw [aD]
  refine h.set0 (w':=io s k true) (by simp) rfl fun F3 h=>⟨0,none,rfl,?_,fun _=>rfl,fun _ hc=>(by cases hc),(h.mkR (r:=none) rfl hk fun _ hc=>(by cases hc)).swap.tail⟩
  exact hn.then (fun n l=>if n≤l.length then some (n,l) else none) hdC (fun _=>rfl) fun l1 e=>by rw [if_neg (hno l1 e)]
 refine ⟨rfl,_,rfl,_,h.ld0 rfl,fun _=>⟨_,by rw [aD];exact h.ld0 rfl,fun hb=> ?_,fun hb=> ?_⟩,fun hc=>absurd rfl hc⟩
 ·exact j1t (fun l1 e=>by rw [e] at hb;cases hb) h
 ·obtain ⟨l1,rfl⟩:∃l1,r1=some l1:=by cases r1 with|none=>cases hb|some l=>exact ⟨l,rfl⟩
  have e1:=hl l1 rfl
  have hy:=hy (fun hc=>(by cases hc))
  subst hy
  have hlen:l1.length=B.length - k:=by rw [← e1,List.length_drop]
  refine ⟨_,h.ld1 rfl,_,by rw [aD];exact h.ld0 rfl,_,by rw [aD];exact h.ld0 rfl,?_⟩
  dsimp only
  rw [hs,aK (by omega) (by omega)]
  by_cases hle:n≤l1.length
  ·rw [decide_eq_false (by omega)]
   unfold gC
   refine ⟨fun hc=>(by cases hc),fun _=>⟨_,h.ld1 rfl,n,some l1,rfl,?_,fun hc=>(by cases hc),fun _ e=>by cases e;exact hle,(h.mkR rfl hk hl).swap.tail⟩⟩
   exact hn.then (fun n l=>if n≤l.length then some (n,l) else none) hdC (fun hc=>(by cases hc)) fun l' e=>by cases e;rw [if_pos hle];exact ⟨rfl,rfl⟩
  ·rw [decide_eq_true (by omega)]
   exact j1t (fun l' e=>by cases e;exact hle) h
theorem qi (K:Rd G s B) {x0:ByteArray} (h:St G F (rcS s B bc r::pt b (.cells w e)::As)) (hv:w[o]? =some (.string x0)):
  ac prog 119 #[pc bc,.pointer (some (Addr.mk b o none))] F fun res F'=>res=.tuple #[]∧∃y r',Res dS r y r'∧St G F' (rcS s B bc r'::pt b (.cells (w.setIfInBounds o (.string y)) e)::As):=by
 have hs:=K.len
 have hB:=K.l
 have ho:=(Array.getElem?_eq_some_iff.1 hv).1
 refine Hb ?_
 unfold Dn
 refine ⟨_,rfl,_,h.ld1 hv,?_⟩
 refine (yW K _ h).mono ?_
 rintro _ F2 ⟨m,r1,rfl,hr,hm,hm2,h⟩
 obtain ⟨k,⟨hk,hl⟩,h⟩:=h.exR
 have hkm:k+m≤B.length:=by
  cases r1 with
  |none=>rw [hm rfl];omega
  |some l1=>
   have h1:=hm2 l1 rfl
   rw [← hl l1 rfl,List.length_drop] at h1
   omega
 have hcut:=(K.rd.le h.le).cut (l:=k) (r:=k+m) (m:=s.cap) (by omega) (by omega) (by have:=K.rd.cap;omega)
 rw [Nat.mul_one,Nat.mul_one,show k+m - k=m by omega,← List.map_drop,← List.map_take] at hcut
 have hcap:=K.rd.cap
 refine ⟨_,rfl,_,rfl,_,h.ld0 rfl,fun hc=>absurd hc (by decide),fun _=>⟨_,by rw [aD];exact h.ld0 rfl,_,by rw [aD];exact h.ld0 rfl,_,by rw [aD];exact h.ld0 rfl,?_⟩⟩
 have ew:IntKind.i64.wrap ((k:Int)+(m:Int))=((k+m:Nat):Int):=by rw [aK (by omega) (by omega)];omega
 dsimp only
 rw [ew,Int.toNat_natCast,Int.toNat_natCast]
 refine ⟨by omega,by omega,by omega,by omega,_,iw hcut,?_⟩
 refine h.set1 (w':=w.setIfInBounds o (.string (DP ((B.drop k).take m)))) ho rfl fun F3 h=>⟨_,by rw [aD];exact h.ld0 rfl,?_⟩
 dsimp only
 rw [aD,ew]
 refine h.set0 (w':=io s (k+m) r1.isNone) (by simp) rfl fun F4 h=>⟨rfl,DP ((B.drop k).take m),r1.map (List.drop m),?_,h.mkR (by cases r1<;>rfl) (by omega) ?_⟩
 ·cases r with
  |none=>
   have hr:r1=none:=hr
   rw [hr]
   rfl
  |some l=>
   unfold Res dS at*
   dsimp only at*
   cases h1:dC l with
   |none=>
    rw [h1] at hr
    dsimp only at hr ⊢
    rw [hr]
    rfl
   |some q=>
    obtain ⟨n,l1⟩:=q
    rw [h1] at hr
    obtain ⟨rfl,rfl⟩:=hr
    dsimp only
    rw [hl l1 rfl]
    exact ⟨rfl,rfl⟩
 ·intro l' hl'
  cases r1 with
  |none=>cases hl'
  |some l1=>
   cases hl'
   rw [← hl l1 rfl,List.drop_drop]
theorem w5 (K:Rd G s B) {x0:Bool} (h:St G F (rcS s B bc r::pt b (.cells w e)::As)) (hv:w[o]? =some (.bool x0)):
  ac prog 186 #[pc bc,.pointer (some (Addr.mk b o none))] F fun res F'=>res=.tuple #[]∧∃y r',Res dB r y r'∧St G F' (rcS s B bc r'::pt b (.cells (w.setIfInBounds o (.bool y)) e)::As):=by
 have ho:=(Array.getElem?_eq_some_iff.1 hv).1
 have hdB:∀l,dB l=(gb l).bind fun q=>if q.1≤1 then some (decide (q.1=1),q.2) else none:=fun l=>by unfold dB;cases gb l<;>rfl
 refine Hz ?_
 unfold Dz
 refine h.new fun b4 F1 h=> ?_
 refine h.set0 (w':= #[vi 0]) (by simp) rfl fun F1 h=>⟨_,rfl,_,h.ld2 hv,?_⟩
 have j1:∀{F':PH} {n0:Int},St G F' (pt b4 (.cells #[vi n0] 3)::rcS s B bc r::pt b (.cells w e)::As)→
   fe (some (Addr.mk bc 0 none)) (some (Addr.mk b o none)) b4 (fun res F'=>res=.tuple #[]∧∃y r',Res dB r y r'∧St G F' (rcS s B bc r'::pt b (.cells (w.setIfInBounds o (.bool y)) e)::As)) F':=fun {F' n0} h=>by
  unfold fe
  refine (cQ K (o:=0) h.swap rfl).mono ?_
  rintro _ F2 ⟨rfl,y,r1,hr,h⟩
  obtain ⟨k,⟨hk,hl⟩,h⟩:=h.exR
  obtain ⟨n,hn,hy⟩:=hr.num
  have j2:∀{F':PH} {bad:Bool} {r2:Option (List Nat)},bad=r2.isNone→(∀l,r2=some l→B.drop k=l)→Res dB r (decide (y=1)) r2→St G F' (pt bc (.cells (io s k bad) 116)::pt b4 (.cells #[vi y] 3)::pt b (.cells w e)::As)→
    nA (some (Addr.mk b o none)) b4 (fun res F'=>res=.tuple #[]∧∃y r',Res dB r y r'∧St G F' (rcS s B bc r'::pt b (.cells (w.setIfInBounds o (.bool y)) e)::As)) F':=fun {F' bad r2} hb hl2 hr2 h=>by
   unfold nA
   refine ⟨_,h.ld1 rfl,_,rfl,?_⟩
   refine h.set2 (w':=w.setIfInBounds o (.bool (decide (y=1)))) ho rfl fun F3 h=>⟨rfl,_,r2,hr2,(h.mkR hb hk hl2).swap.tail⟩
  refine ⟨rfl,_,rfl,_,h.ld0 rfl,fun _=>⟨_,by rw [aD];exact h.ld0 rfl,fun hb=> ?_,fun hb=> ?_⟩,fun hc=>absurd rfl hc⟩
  ·have h1:r1=none:=by cases r1 with|none=>rfl|some l=>cases hb
   rw [aD]
   refine h.set0 (w':=io s k true) (by simp) rfl fun F3 h=>j2 (r2:=none) rfl (fun _ hc=>(by cases hc)) ?_ h
   exact hn.then (fun n l=>if n≤1 then some (decide (n=1),l) else none) hdB (fun _=>rfl) fun l1 e=>by rw [h1] at e;cases e
  ·obtain ⟨l1,rfl⟩:∃l1,r1=some l1:=by cases r1 with|none=>cases hb|some l=>exact ⟨l,rfl⟩
   have hy:=hy (fun hc=>(by cases hc))
   subst hy
   refine ⟨_,h.ld1 rfl,?_⟩
   rw [aD]
   refine h.set0 (w':=io s k (decide ((1:Int)<(n:Int)))) (by simp) rfl fun F3 h=>j2 (r2:=if n≤1 then some l1 else none) ?_ ?_ ?_ h
   ·by_cases hn1:n≤1
    ·rw [if_pos hn1,decide_eq_false (by omega)];rfl
    ·rw [if_neg hn1,decide_eq_true (by omega)];rfl
   ·intro l' hl'
    by_cases hn1:n≤1
    ·rw [if_pos hn1] at hl';exact hl l' hl'
    ·rw [if_neg hn1] at hl';cases hl'
   ·refine hn.then (fun n l=>if n≤1 then some (decide (n=1),l) else none) hdB (fun hc=>(by cases hc)) fun l' e=> ?_
    cases e
    by_cases hn1:n≤1
    ·rw [if_pos hn1,if_pos hn1]
     exact ⟨decide_eq_decide.2 (by omega),rfl⟩
    ·rw [if_neg hn1,if_neg hn1]
 exact ⟨fun _=>h.set0 (w':= #[vi 1]) (by simp) rfl fun F2 h=>j1 h,fun _=>j1 h⟩
end
end Go.Proofs.YtenpmjhnhepfdaaGreatDoor
