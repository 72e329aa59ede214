/-
  The codec that reads: its state, numbers, counts, strings, flags.
-/
import Derived.Test.YtenpmjhnhepfdaaGreatDoorHp
import Derived.Test.YtenpmjhnhepfdaaGreatDoorHr
import Derived.Test.YtenpmjhnhepfdaaGreatDoorTopk
import Derived.Test.YtenpmjhnhepfdaaGreatDoorPhn
namespace Go.Proofs.YtenpmjhnhepfdaaGreatDoor
open Go.IntKind (i64 u8 u64)
open Go Go.Proofs.Tryz
set_option maxRecDepth 10000
abbrev Ps (α:Type):=Δ->Option (α×Δ)
structure Co {α:Type} (e:α->Δ) (d:Ps α) (P:α->Prop):Prop where
 wr:∀x r,P x->d (e x++r)=some (x,r)
 rd:∀l x r,(∀b∈l,b<256)->d l=some (x,r)->l=e x++r/\P x
 ne:∀x,0<(e x).length
section
variable {α β:Type} {e:α->Δ} {d:Ps α} {P:α->Prop} {e':β->Δ} {d':Ps β} {P':β->Prop}
def aT (d:Ps α) (d':Ps β):Ps (α×β):=λl=>match d l with
 |none=>none
 |some (x,r)=>match d' r with
  |none=>none
  |some (y,r')=>some ((x,y),r')
def ft (f:α->β) (d:Ps α):Ps β:=λl=>match d l with
 |none=>none
 |some (x,r)=>some (f x,r)
theorem Co.pair (h:Co e d P) (h':Co e' d' P'):Co (λx:α×β=>e x.1++e' x.2) (aT d d') (λx=>P x.1/\P' x.2):=by
 refine ⟨λx r hp=> ?_,λl x r hb hd=> ?_,λx=>by rw [N3];have:=h.ne x.1;omega⟩
 ·unfold aT;rw [Xz,h.wr _ _ hp.1];dsimp only;rw [h'.wr _ _ hp.2]
 ·unfold aT at hd;cases h1:d l with
  |none=>rw [h1] at hd;cases hd
  |some q=>
   obtain ⟨a,r1⟩:=q;rw [h1] at hd;dsimp only at hd;obtain ⟨e1,p1⟩:=h.rd _ _ _ hb h1;cases h2:d' r1 with
   |none=>rw [h2] at hd;cases hd
   |some q=>obtain ⟨b,r2⟩:=q;rw [h2] at hd;cases hd;obtain ⟨e2,p2⟩:=h'.rd _ _ _ (λx hx=>hb x (by rw [e1];exact YD _ hx)) h2;exact ⟨by rw [e1,e2,Xz],p1,p2⟩
theorem Co.iso (h:Co e d P) {f:α->β} {g:β->α} (h1:∀y,f (g y)=y) (h2:∀x,g (f x)=x) {e2:β->Δ} (he:∀y,e2 y=e (g y)) {P2:β->Prop} (hP:∀y,P2 y↔P (g y)):Co e2 (ft f d) P2:=by
 refine ⟨λy r hp=> ?_,λl y r hb hd=> ?_,λy=>by rw [he];exact h.ne _⟩
 ·unfold ft;rw [he,h.wr _ _ ((hP y).1 hp)];dsimp only;rw [h1]
 ·unfold ft at hd;cases h3:d l with
  |none=>rw [h3] at hd;cases hd
  |some q=>obtain ⟨a,r1⟩:=q;rw [h3] at hd;cases hd;obtain ⟨e1,p1⟩:=h.rd _ _ _ hb h3;exact ⟨by rw [he,h2];exact e1,(hP _).2 (by rw [h2];exact p1)⟩
def dk (d:Ps α):Nat->Ps (List α)
 |0,l=>some ([],l)
 |k+1,l=>match d l with
  |none=>none
  |some (x,r)=>match dk d k r with
   |none=>none
   |some (xs,r')=>some (x::xs,r')
theorem Co.times (h:Co e d P):∀(xs:List α) (r:Δ),(∀x∈xs,P x)->dk d xs.length (xs.flatMap e++r)=some (xs,r)
 |[],_,_=>rfl
 |x::xs,r,hp=>by rw [XI,XT,Xz];unfold dk;rw [h.wr _ _ (hp x (by simp))];dsimp only;rw [h.times xs r λy hy=>hp y (by simp [hy])]
theorem Co.times_rd (h:Co e d P):∀(k:Nat) (l:Δ) (xs:List α) (r:Δ),(∀b∈l,b<256)->dk d k l=some (xs,r)->l=xs.flatMap e++r/\xs.length=k/\∀x∈xs,P x
 |0,l,xs,r,_,hd=>by cases hd;exact ⟨rfl,rfl,λ_ h=>(by cases h)⟩
 |k+1,l,xs,r,hb,hd=>by
  unfold dk at hd;cases h1:d l with
  |none=>rw [h1] at hd;cases hd
  |some q=>
   obtain ⟨a,r1⟩:=q;rw [h1] at hd;dsimp only at hd;obtain ⟨e1,p1⟩:=h.rd _ _ _ hb h1;cases h2:dk d k r1 with
   |none=>rw [h2] at hd;cases hd
   |some q=>
    obtain ⟨ys,r2⟩:=q;rw [h2] at hd;cases hd;obtain ⟨e2,l2,p2⟩:=h.times_rd k _ _ _ (λx hx=>hb x (by rw [e1];exact YD _ hx)) h2;refine ⟨by rw [XT,e1,e2,Xz],by rw [XI,l2],λx hx=> ?_⟩;rcases XB.1 hx with rfl|hx
    ·exact p1
    ·exact p2 x hx
theorem kM (h:Co e d P):∀xs:List α,xs.length<=(xs.flatMap e).length
 |[]=>by simp
 |x::xs=>by rw [XT,N3,XI];have:=kM h xs;have:=h.ne x;omega
end
def dN:Nat->Ps Nat
 |0,_=>none
 |_+1,[]=>none
 |k+1,x::l=>if x<128 then (if x=0/\k≠8 then none else some (x,l)) else match dN k l with
  |none=>none
  |some (n,r)=>some (x - 128+128*n,r)
theorem VK:∀(k n:Nat) (r:Δ),n<128 ^ (k+1)->(n≠0\/k=8)->dN (k+1) (bQ n++r)=some (n,r):=by
 intro k;induction k with
 |zero=>
  intro n r h h0;have h:n<128:=by simpa using h
  rw [bR h,XY,XX];unfold dN;rw [if_pos h,if_neg (by omega)]
 |succ k ih=>
  intro n r h h0;by_cases hn:n<128
  ·rw [bR hn,XY,XX];unfold dN;rw [if_pos hn,if_neg (by omega)]
  ·rw [gK hn,XY];unfold dN;rw [if_neg (by omega),ih (n / 128) r (by rw [YJ] at h;omega) (.inl (by omega))];dsimp only;rw [show n % 128+128 - 128+128*(n / 128)=n by omega]
theorem Je:∀(k:Nat) (l:Δ) (n:Nat) (r:Δ),k<=9->(∀b∈l,b<256)->dN k l=some (n,r)->l=bQ n++r/\n<128 ^ k/\(n≠0\/k=9):=by
 intro k;induction k with
 |zero=>intro l n r _ _ h;cases h
 |succ k ih=>
  intro l n r hk hb h;cases l with
  |nil=>cases h
  |cons x l=>
   unfold dN at h;by_cases hx:x<128
   ·rw [if_pos hx] at h;by_cases h0:x=0/\k≠8
    ·rw [if_pos h0] at h;cases h
    ·rw [if_neg h0] at h;cases h;refine ⟨by rw [bR hx];rfl,?_,by omega⟩;have:0<128 ^ k:=Nat.pow_pos (by decide);rw [YJ];omega
   ·rw [if_neg hx] at h;cases h1:dN k l with
    |none=>rw [h1] at h;cases h
    |some q=>obtain ⟨m,r1⟩:=q;rw [h1] at h;cases h;have hx2:=hb x (by simp);obtain ⟨e1,e2,e3⟩:=ih l m _ (by omega) (λb hb'=>hb b (by simp [hb'])) h1;refine ⟨?_,by rw [YJ];omega,.inl (by omega)⟩;rw [gK (by omega),show (x - 128+128*m) % 128+128=x by omega,show (x - 128+128*m) / 128=m by omega,XY,<- e1]
def N63 (n:Nat):Prop:=n<128 ^ 9
def ff:Ps Nat:=dN 9
theorem coN:Co bQ ff N63:=⟨λn r h=>VK 8 n r h (.inr rfl),λl n r hb h=>⟨(Je 9 l n r (XA _) hb h).1,(Je 9 l n r (XA _) hb h).2.1⟩,dX⟩
def I63 (x:Int):Prop:=0<=x/\x<128 ^ 9
def dI:Ps Int:=ft Int.ofNat ff
theorem coI:Co eI dI I63:=by
 refine ⟨λx r h=> ?_,λl x r hb h=> ?_,λx=>dX _⟩
 ·unfold dI ft eI;rw [coN.wr _ _ (show x.toNat<128 ^ 9 by have:=h.1;have:=h.2;omega)];dsimp only;rw [show Int.ofNat x.toNat=x from Int.toNat_of_nonneg h.1]
 ·unfold dI ft at h;cases h1:ff l with
  |none=>rw [h1] at h;cases h
  |some q=>obtain ⟨n,r1⟩:=q;rw [h1] at h;cases h;obtain ⟨e1,e2⟩:=coN.rd _ _ _ hb h1;have e2:n<128 ^ 9:=e2;exact ⟨e1,by show (0:Int)<=n;omega,by show (n:Int)<128 ^ 9;omega⟩
def dC:Ps Nat:=λl=>match ff l with
 |none=>none
 |some (n,r)=>if n<=r.length then some (n,r) else none
theorem Om {n:Nat} {r:Δ} (h:N63 n) (hr:n<=r.length):dC (bQ n++r)=some (n,r):=by unfold dC;rw [coN.wr _ _ h];exact if_pos hr
theorem On {l r:Δ} {n:Nat} (hb:∀b∈l,b<256) (h:dC l=some (n,r)):l=bQ n++r/\N63 n/\n<=r.length:=by
 unfold dC at h;cases h1:ff l with
 |none=>rw [h1] at h;cases h
 |some q=>
  obtain ⟨m,r1⟩:=q;rw [h1] at h;dsimp only at h;by_cases hm:m<=r1.length
  ·rw [if_pos hm] at h;cases h;obtain ⟨e1,e2⟩:=coN.rd _ _ _ hb h1;exact ⟨e1,e2,hm⟩
  ·rw [if_neg hm] at h;cases h
section
variable {α:Type} {e:α->Δ} {d:Ps α} {P:α->Prop}
def dL (d:Ps α):Ps (List α):=λl=>match dC l with
 |none=>none
 |some (n,r)=>dk d n r
theorem Co.list (h:Co e d P):Co (eL e) (dL d) (λxs=>N63 xs.length/\∀x∈xs,P x):=by
 refine ⟨λxs r hp=> ?_,λl xs r hb hd=> ?_,λxs=> ?_⟩
 ·unfold dL eL;rw [Xz,Om hp.1 (by rw [N3];have:=kM h xs;omega)];exact h.times xs r hp.2
 ·unfold dL at hd;cases h1:dC l with
  |none=>rw [h1] at hd;cases hd
  |some q=>obtain ⟨n,r1⟩:=q;rw [h1] at hd;dsimp only at hd;obtain ⟨e1,n1,_⟩:=On hb h1;obtain ⟨e2,e3,e4⟩:=h.times_rd n r1 xs r (λx hx=>hb x (by rw [e1];exact YD _ hx)) hd;exact ⟨by unfold eL;rw [e3,e1,e2,Xz],by rw [e3];exact n1,e4⟩
 ·unfold eL;rw [N3];have:=dX xs.length;omega
end
def ofB (l:Δ):ByteArray:=⟨(l.map UInt8.ofNat).toArray⟩
theorem AN {l:Δ} (h:∀b∈l,b<256):bs (ofB l)=l:=by
 unfold bs ofB;rw [List.map_map]
 conv=>rhs;rw [<- List.map_id l]
 refine Y6 λb hb=> ?_;have:=h b hb;simp only [Function.comp_apply,id_eq,UInt8.toNat_ofNat'];omega
theorem Qr (s:ByteArray):ofB (bs s)=s:=qN (AN (L6 s))
def dS:Ps ByteArray:=λl=>match dC l with
 |none=>none
 |some (n,r)=>some (ofB (r.take n),r.drop n)
theorem coS:Co eS dS (λs=>N63 s.size):=by
 refine ⟨λs r h=> ?_,λl s r hb hd=> ?_,λs=> ?_⟩
 ·unfold dS eS;rw [Xz,Om h (by rw [N3,aX];omega)];dsimp only;rw [<- aX,List.take_left,List.drop_left,Qr]
 ·unfold dS at hd;cases h1:dC l with
  |none=>rw [h1] at hd;cases hd
  |some q=>
   obtain ⟨n,r1⟩:=q;rw [h1] at hd;cases hd;obtain ⟨e1,n1,n2⟩:=On hb h1;have hx:∀b∈r1.take n,b<256:=λx hx=>hb x (by rw [e1];exact YD _ (Y2 hx));have hs:(ofB (r1.take n)).size=n:=by rw [<- aX,AN hx,XL];omega
   exact ⟨by unfold eS;rw [AN hx,hs,Xz,X9];exact e1,by rw [hs];exact n1⟩
 ·unfold eS;rw [N3];have:=dX s.size;omega
def dB:Ps Bool:=λl=>match ff l with
 |none=>none
 |some (n,r)=>if n<=1 then some (decide (n=1),r) else none
theorem coB:Co eB dB (λ_=>True):=by
 have e:∀b,eB b=bQ (if b then 1 else 0):=λb=>by cases b<;>exact (bR (by decide)).symm
 refine ⟨λb r _=> ?_,λl b r hb hd=> ?_,λb=>by rw [e];exact dX _⟩
 ·unfold dB;rw [e,coN.wr _ _ (by cases b<;>(show _<128 ^ 9;decide))];cases b<;>rfl
 ·unfold dB at hd;cases h1:ff l with
  |none=>rw [h1] at hd;cases hd
  |some q=>
   obtain ⟨n,r1⟩:=q;rw [h1] at hd;dsimp only at hd;obtain ⟨e1,_⟩:=coN.rd _ _ _ hb h1;by_cases hn:n<=1
   ·rw [if_pos hn] at hd;cases hd;refine ⟨?_,trivial⟩;rw [e,e1];have:n=0\/n=1:=by omega
    rcases this with rfl|rfl<;>rfl
   ·rw [if_neg hn] at hd;cases hd
def pBr (b:Br):Prop:=I63 b.v/\I63 b.l/\I63 b.h
def dBr:Ps Br:=ft (λx=>⟨x.1,x.2.1,x.2.2⟩) (aT dI (aT dI dI))
theorem VL:Co eBr dBr pBr:=(coI.pair (coI.pair coI)).iso (g:=λ(b:Br)=>(b.v,b.l,b.h)) (λ_=>rfl) (λ_=>rfl) (λ_=>by unfold eBr;simp only [Xz]) λ_=>Iff.rfl
def pL {α:Type} (P:α->Prop) (xs:List α):Prop:=N63 xs.length/\∀x∈xs,P x
def pD (d:Dia):Prop:=pL pBr d.1/\I63 d.2
def dD:Ps Dia:=aT (dL dBr) dI
theorem coD:Co eD dD pD:=VL.list.pair coI
def pNd (x:Nd):Prop:=I63 x.k/\I63 x.lo/\I63 x.hi/\I63 x.a/\I63 x.b
def dNd:Ps Nd:=ft (λx=>⟨x.1,x.2.1,x.2.2.1,x.2.2.2.1,x.2.2.2.2⟩) (aT dI (aT dI (aT dI (aT dI dI))))
theorem VM:Co eNd dNd pNd:=(coI.pair (coI.pair (coI.pair (coI.pair coI)))).iso (g:=λ(x:Nd)=>(x.k,x.lo,x.hi,x.a,x.b)) (λ_=>rfl) (λ_=>rfl) (λ_=>by unfold eNd;simp only [Xz]) λ_=>Iff.rfl
def pS (s:ByteArray):Prop:=N63 s.size
def pTk (t:Tk):Prop:=pS t.name/\I63 t.cls/\pS t.lit/\pL pNd t.pat/\pS t.smp/\pD t.cond
def dTk:Ps Tk:=ft (λx=>⟨x.1,x.2.1,x.2.2.1,x.2.2.2.1,x.2.2.2.2.1,x.2.2.2.2.2⟩) (aT dS (aT dI (aT dS (aT (dL dNd) (aT dS dD)))))
theorem Qs:Co eTk dTk pTk:=(coS.pair (coI.pair (coS.pair (VM.list.pair (coS.pair coD))))).iso (g:=λ(x:Tk)=>(x.name,x.cls,x.lit,x.pat,x.smp,x.cond)) (λ_=>rfl) (λ_=>rfl) (λ_=>by unfold eTk;simp only [Xz]) λ_=>Iff.rfl
def pSy (s:Sy):Prop:=True/\I63 s.i
def dSy:Ps Sy:=ft (λx=>⟨x.1,x.2⟩) (aT dB dI)
theorem VN:Co eSy dSy pSy:=(coB.pair coI).iso (g:=λ(x:Sy)=>(x.t,x.i)) (λ_=>rfl) (λ_=>rfl) (λ_=>rfl) λ_=>Iff.rfl
def pCn (x:Cn):Prop:=I63 x.k/\I63 x.a/\I63 x.b
def dCn:Ps Cn:=ft (λx=>⟨x.1,x.2.1,x.2.2⟩) (aT dI (aT dI dI))
theorem VO:Co eCn dCn pCn:=(coI.pair (coI.pair coI)).iso (g:=λ(b:Cn)=>(b.k,b.a,b.b)) (λ_=>rfl) (λ_=>rfl) (λ_=>by unfold eCn;simp only [Xz]) λ_=>Iff.rfl
def VQ (s:Sco):Prop:=True/\I63 s.d/\I63 s.k/\I63 s.u/\I63 s.a
def Lw:Ps Sco:=ft (λx=>⟨x.1,x.2.1,x.2.2.1,x.2.2.2.1,x.2.2.2.2⟩) (aT dB (aT dI (aT dI (aT dI dI))))
theorem VT:Co yQ Lw VQ:=(coB.pair (coI.pair (coI.pair (coI.pair coI)))).iso (g:=λ(x:Sco)=>(x.o,x.d,x.k,x.u,x.a)) (λ_=>rfl) (λ_=>rfl) (λ_=>by unfold yQ;simp only [Xz]) λ_=>Iff.rfl
def pPr (p:Pr):Prop:=pS p.name/\I63 p.left/\pL pSy p.right/\pD p.cond/\True/\I63 (p.rank+1)/\pL pCn p.lay/\VQ p.sco
def dPr:Ps Pr:=ft (λx=>⟨x.1,x.2.1,x.2.2.1,x.2.2.2.1,x.2.2.2.2.1,x.2.2.2.2.2.1 - 1,x.2.2.2.2.2.2.1,x.2.2.2.2.2.2.2⟩) (aT dS (aT dI (aT (dL dSy) (aT dD (aT dB (aT dI (aT (dL dCn) Lw)))))))
theorem Qt:Co ePr dPr pPr:=(coS.pair (coI.pair (VN.list.pair (coD.pair (coB.pair (coI.pair (VO.list.pair VT))))))).iso (g:=λ(x:Pr)=>(x.name,x.left,x.right,x.cond,x.brk,x.rank+1,x.lay,x.sco)) (λy=>by obtain ⟨_,_,_,_,_,r,_,_⟩:=y;show Pr.mk _ _ _ _ _ (r+1 - 1) _ _=_;rw [Int.add_sub_cancel])
 (λx=>by obtain ⟨_,_,_,_,_,r,_,_⟩:=x;show (_,_,_,_,_,r - 1+1,_,_)=_;rw [Int.sub_add_cancel]) (λ_=>by unfold ePr;simp only [Xz]) λ_=>Iff.rfl
def pLv (l:Lv):Prop:=pL I63 l.ps/\I63 l.assoc/\pD l.cond
def dLv:Ps Lv:=ft (λx=>⟨x.1,x.2.1,x.2.2⟩) (aT (dL dI) (aT dI dD))
theorem Qu:Co eLv dLv pLv:=(coI.list.pair (coI.pair coD)).iso (g:=λ(x:Lv)=>(x.ps,x.assoc,x.cond)) (λ_=>rfl) (λ_=>rfl) (λ_=>by unfold eLv;simp only [Xz]) λ_=>Iff.rfl
def pFi (f:Fi):Prop:=I63 f.k/\I63 f.par/\I63 f.pos/\I63 f.ch/\I63 f.left/\I63 f.tok/\pL I63 f.toks/\pD f.cond
def dFi:Ps Fi:=ft (λx=>⟨x.1,x.2.1,x.2.2.1,x.2.2.2.1,x.2.2.2.2.1,x.2.2.2.2.2.1,x.2.2.2.2.2.2.1,x.2.2.2.2.2.2.2⟩) (aT dI (aT dI (aT dI (aT dI (aT dI (aT dI (aT (dL dI) dD)))))))
theorem Qv:Co eFi dFi pFi:=(coI.pair (coI.pair (coI.pair (coI.pair (coI.pair (coI.pair (coI.list.pair coD))))))).iso (g:=λ(x:Fi)=>(x.k,x.par,x.pos,x.ch,x.left,x.tok,x.toks,x.cond)) (λ_=>rfl) (λ_=>rfl) (λ_=>by unfold eFi;simp only [Xz]) λ_=>Iff.rfl
def pGr (g:Gr):Prop:=pL pS g.conds/\pD g.fam/\pL pTk g.toks/\pL pS g.nons/\pL pPr g.prods/\I63 g.start/\pL pLv g.lvs/\pL pFi g.fils
def dGr:Ps Gr:=ft (λx=>⟨x.1,x.2.1,x.2.2.1,x.2.2.2.1,x.2.2.2.2.1,x.2.2.2.2.2.1,x.2.2.2.2.2.2.1,x.2.2.2.2.2.2.2⟩) (aT (dL dS) (aT dD (aT (dL dTk) (aT (dL dS) (aT (dL dPr) (aT dI (aT (dL dLv) (dL dFi))))))))
theorem Xw:Co eGr dGr pGr:=(coS.list.pair (coD.pair (Qs.list.pair (coS.list.pair (Qt.list.pair (coI.pair (Qu.list.pair Qv.list))))))).iso (g:=λ(x:Gr)=>(x.conds,x.fam,x.toks,x.nons,x.prods,x.start,x.lvs,x.fils)) (λ_=>rfl) (λ_=>rfl) (λ_=>by unfold eGr;simp only [Xz]) λ_=>Iff.rfl
theorem NN.of {g:Gr} (h:pGr g) (hr:∀p∈g.prods,-1<=p.rank/\p.rank<=1):NN g:=by
 obtain ⟨_,h2,h3,_,h5,h6,h7,h8⟩:=h;have hd:∀{d:Dia},pD d->(∀b∈d.1,0<=b.v/\0<=b.l/\0<=b.h)/\0<=d.2:=λh=>⟨λb hb=>⟨(h.1.2 b hb).1.1,(h.1.2 b hb).2.1.1,(h.1.2 b hb).2.2.1⟩,h.2.1⟩;refine ⟨hd h2,λt ht=> ?_,λp hp=> ?_,h6.1,λl hl=> ?_,λf hf=> ?_⟩
 ·obtain ⟨_,a1,_,a2,_,a3⟩:=h3.2 t ht;exact ⟨a1.1,λx hx=>by obtain ⟨b1,b2,b3,b4,b5⟩:=a2.2 x hx;exact ⟨b1.1,b2.1,b3.1,b4.1,b5.1⟩,hd a3⟩
 ·obtain ⟨_,a1,a2,a3,_,_,a4,_,a5,a6,a7,a8⟩:=h5.2 p hp;exact ⟨a1.1,λs hs=>(a2.2 s hs).2.1,hd a3,(hr p hp).1,(hr p hp).2,λx hx=>by obtain ⟨b1,b2,b3⟩:=a4.2 x hx;exact ⟨b1.1,b2.1,b3.1⟩,a5.1,a6.1,a7.1,a8.1⟩
 ·obtain ⟨a1,a2,a3⟩:=h7.2 l hl;exact ⟨λx hx=>(a1.2 x hx).1,a2.1,hd a3⟩
 ·obtain ⟨a1,a2,a3,a4,a5,a6,a7,a8⟩:=h8.2 f hf;exact ⟨a1.1,a2.1,a3.1,a4.1,a5.1,a6.1,λx hx=>(a7.2 x hx).1,hd a8⟩
def Res {α:Type} (d:Ps α) (r:Option Δ) (y:α) (r':Option Δ):Prop:=match r with
 |none=>r'=none
 |some l=>match d l with
  |none=>r'=none
  |some (x,l')=>y=x/\r'=some l'
section
variable {α β:Type} {d:Ps α} {d':Ps β} {r r' r'':Option Δ} {x:α} {y:β}
theorem Res.pair (h:Res d r x r') (h':Res d' r' y r''):Res (aT d d') r (x,y) r'':=by
 cases r with
 |none=>have h:r'=none:=h;subst h;exact h'
 |some l=>
  unfold Res aT at*;dsimp only at*;cases h1:d l with
  |none=>rw [h1] at h;dsimp only at h;subst h;exact h'
  |some q=>
   obtain ⟨a,l1⟩:=q;rw [h1] at h;obtain ⟨rfl,rfl⟩:=h;dsimp only at*;cases h2:d' l1 with
   |none=>rw [h2] at h';exact h'
   |some q=>obtain ⟨b,l2⟩:=q;rw [h2] at h';obtain ⟨rfl,rfl⟩:=h';exact ⟨rfl,rfl⟩
theorem Res.map (f:α->β) (h:Res d r x r'):Res (ft f d) r (f x) r':=by
 cases r with
 |none=>exact h
 |some l=>
  unfold Res ft at*;dsimp only at*;cases h1:d l with
  |none=>rw [h1] at h;exact h
  |some q=>obtain ⟨a,l1⟩:=q;rw [h1] at h;obtain ⟨rfl,rfl⟩:=h;exact ⟨rfl,rfl⟩
end
structure Rd (G:PH) (s:Sl) (B:Δ):Prop where
 rd:RdS G s 1 (B.map vB)
 b:∀x∈B,x<256
 l:B.length<=100000000000
theorem Rd.le {G G':PH} {s:Sl} {B:Δ} (h:Rd G s B) (l:G.le G'):Rd G' s B:=⟨h.rd.le l,h.b,h.l⟩
theorem Rd.len {G:PH} {s:Sl} {B:Δ} (h:Rd G s B):s.len=B.length:=by have:=h.rd.len;rw [XH] at this;omega
abbrev jA (s:Sl) (k:Nat) (bad:Bool):Γ:= #[vi 1,s.v,vi k,.bool bad]
def rcS (s:Sl) (B:Δ) (bc:Nat) (r:Option Δ):Ψ:=λH=>∃k:Nat,(k<=B.length/\∀l,r=some l->B.drop k=l)/\H bc=some (.cells (jA s k r.isNone) 116)
section
variable {G F:PH} {As:List (Ψ)} {s:Sl} {B:Δ} {bc:Nat} {r:Option Δ}
theorem St.exR (h:St G F (rcS s B bc r::As)):∃k:Nat,(k<=B.length/\∀l,r=some l->B.drop k=l)/\St G F (pt bc (.cells (jA s k r.isNone) 116)::As):=by obtain ⟨H1,h1⟩:=h.get (i:=0) rfl;obtain ⟨k,hk,e⟩:=h1.1;refine ⟨k,hk,h.imp (A':=pt bc (.cells (jA s k r.isNone) 116)) 0 rfl λH' hl hH'=> ?_⟩;obtain ⟨k',hk',e'⟩:=hH';have i1:=h1.2.2 _ _ e;have i2:=hl _ _ e';rw [i1] at i2;show H' bc=_;rw [e',<- i2]
theorem St.mkR {k:Nat} {bad:Bool} (h:St G F (pt bc (.cells (jA s k bad) 116)::As)) (hb:bad=r.isNone) (hk:k<=B.length) (hl:∀l,r=some l->B.drop k=l):St G F (rcS s B bc r::As):=
 h.imp (A':=rcS s B bc r) 0 rfl λH _ hH=>⟨k,⟨hk,hl⟩,by rw [<- hb];exact hH⟩
end
theorem RdS.at1 {F:PH} {s:Sl} {vs:Ξ} (h:RdS F s 1 vs) {i:Nat} {v:Value} (hi:vs[i]? =some v):∃a,s.base=some a/\0<=(i:Int)/\(i:Int)<(s.len:Int)/\F.cell (Addr.add a (Int.toNat (i:Int)*1))=some v:=by obtain ⟨hlt,rfl⟩:=N6.1 hi;have hl:=h.len;obtain ⟨b,o,h1,h2⟩:=h.cells (by omega);refine ⟨_,h1,by omega,by omega,?_⟩;have:=h2 i hlt;simpa using this
theorem Qw {x:Nat} (h:x<256):u8.wrap ((BitVec.ofInt (u8).bits (x:Int) &&& BitVec.ofInt (u8).bits (127:Int)).toNat)=((x % 128:Nat):Int):=by
 have key:∀m:Fin 256,u8.wrap ((BitVec.ofInt (u8).bits ((m.val:Nat):Int) &&& BitVec.ofInt (u8).bits (127:Int)).toNat)=((m.val % 128:Nat):Int):=by decide+kernel
 exact key ⟨x,h⟩
theorem Qx {x N i:Nat} (hx:x<256) (hi:i<9) (hN:N<2 ^ (7*i)):
  i64.wrap ((BitVec.ofInt (i64).bits (N:Int) ||| BitVec.ofInt (i64).bits (i64.wrap ((i64.wrap (u8.wrap ((BitVec.ofInt (u8).bits (x:Int) &&& BitVec.ofInt (u8).bits (127:Int)).toNat)))*2 ^ (min (Int.toNat ((7*i:Nat):Int)) (i64).bits)))).toNat)=((N+x % 128*2 ^ (7*i):Nat):Int)/\N+x % 128*2 ^ (7*i)<2 ^ (7*(i+1)):=by
 have hp:2 ^ (7*(i+1))=128*2 ^ (7*i):=by rw [show 7*(i+1)=7*i+7 by omega,Nat.pow_add];omega
 have hle:2 ^ (7*(i+1))<=2 ^ 63:=X0 (by decide) (by omega);have hm:x % 128*2 ^ (7*i)<=127*2 ^ (7*i):=Yl _ (by omega);have h63:(2:Nat) ^ 63=9223372036854775808:=by decide
 rw [Qw hx,aH (x:=((x % 128:Nat):Int)) (by omega) (by omega),N5,show min (7*i) (i64).bits=7*i from by show min (7*i) 64=_;omega];rw [show ((x % 128:Nat):Int)*2 ^ (7*i)=((x % 128*2 ^ (7*i):Nat):Int) by norm_cast];generalize hy:x % 128*2 ^ (7*i)=y at*;rw [aH (x:=(y:Int)) (by omega) (by omega)];have ho:N ||| y=N+y:=by have:=Nat.shiftLeft_add_eq_or_of_lt hN (x % 128);rw [Nat.shiftLeft_eq,hy] at this;rw [Nat.or_comm,<- this,Nat.add_comm]
 refine ⟨?_,by omega⟩;rw [BitVec.toNat_or,show (BitVec.ofInt (i64).bits (N:Int)).toNat=N from t7 (by omega),show (BitVec.ofInt (i64).bits (y:Int)).toNat=y from t7 (by omega),ho,aH (by omega) (by omega)]
theorem Jf {x:Nat} (h:¬x<128) (k:Nat) (l:Δ):dN (k+1) (x::l)=(dN k l).map λq=>(x - 128+128*q.1,q.2):=by rw [dN,if_neg h];cases dN k l<;>rfl
def sh (i N:Nat) (q:Option (Nat×Δ)):Option (Nat×Δ):=q.map λq=>(N+2 ^ (7*i)*q.1,q.2)
section
variable {G F:PH} {As:List (Ψ)} {s:Sl} {B:Δ} {bc b o:Nat} {e:TypeId} {r:Option Δ} {w:Γ}
theorem dz (K:Rd G s B) {v0:Int} (h:St G F (rcS s B bc r::pt b (.cells w e)::As)) (hv:w[o]? =some (vi v0)):
  ae prog 125 #[pc bc,.pointer (some (Addr.mk b o none))] F λres F'=>res=.tuple #[]/\∃y r',Res dI r y r'/\St G F' (rcS s B bc r'::pt b (.cells (w.setIfInBounds o (vi y)) e)::As):=by
 obtain ⟨k,⟨hk,hl⟩,h⟩:=h.exR;have ho:=(X6.1 hv).1;have hw0:w.setIfInBounds o (vi v0)=w:=by
  apply Array.ext_getElem?;intro i;rw [Yt];split
  ·rename_i e;subst e;exact hv.symm
  ·rfl
 refine M2 ?_;unfold Ie;refine ⟨_,rfl,_,h.ld0 rfl,λhc=>absurd hc (by decide),λ_=> ?_⟩;unfold Ct;have j2:∀{F':PH} {k':Nat} {bad:Bool},k'<=B.length->(∀l,r=some l->ff l=none)->St G F' (pt bc (.cells (jA s k' bad) 116)::pt b (.cells w e)::As)->
   mb (some (Addr.mk bc 0 none)) (λres F'=>res=.tuple #[]/\∃y r',Res dI r y r'/\St G F' (rcS s B bc r'::pt b (.cells (w.setIfInBounds o (vi y)) e)::As)) F':=λ{F' k' bad} hk' hn h=>by
  unfold mb;refine ⟨_,rfl,?_⟩;rw [av];refine h.set0 (w':=jA s k' true) (by simp) rfl λF2 h=>⟨rfl,v0,none,?_,?_⟩
  ·cases r with
   |none=>rfl
   |some l=>unfold Res dI ft;simp only [hn l rfl]
  ·rw [hw0];exact h.mkR rfl hk' λ_ hc=>(by cases hc)
 refine ⟨λm n q F'=>∃i k' N:Nat,i<=9/\m=9 - i/\n=(N:Int)/\q=((7*i:Nat):Int)/\k'<=B.length/\N<2 ^ (7*i)/\(∀l,r=some l->ff l=sh i N (dN (9 - i) (B.drop k')))/\St G F' (pt bc (.cells (jA s k' r.isNone) 116)::pt b (.cells w e)::As),9,
  ⟨0,k,0,by omega,rfl,rfl,rfl,hk,by decide,λl hr=> ?_,h⟩,?_⟩
 ·rw [hl l hr];unfold sh ff;cases dN 9 l with
  |none=>rfl
  |some q=>simp
 rintro m n q F2 ⟨i,k',N,hi,rfl,rfl,rfl,hk',hN,hd,h⟩;unfold Cr;refine ⟨λh63=>⟨_,rfl,_,by rw [av];exact h.ld0 rfl,_,by rw [av];exact h.ld0 rfl,λhlt=>⟨_,by rw [av];exact h.ld0 rfl,λhb=> ?_,λhb=> ?_⟩,λhge=> ?_⟩,λh63=> ?_⟩
 ·have hi9:i<9:=by omega
  rw [K.len] at hlt;have hlt':k'<B.length:=by omega
  have hx:=N4 hlt';generalize B[k']=x at hx;have hx256:=K.b x (XG hx);have hdrop:B.drop k'=x::B.drop (k'+1):=bP hx;have hB:=K.l;obtain ⟨a1,p1,p2,p3,p4⟩:=(K.rd.le h.le).at1 (i:=k') (v:=vB x) (by rw [XM,hx];rfl);obtain ⟨l,rfl⟩:∃l,r=some l:=by cases r with|none=>cases hb|some l=>exact ⟨l,rfl⟩
  have hd:=hd l rfl;obtain ⟨o1,o2⟩:=Qx hx256 hi9 hN;refine ⟨_,by rw [av];exact h.ld0 rfl,_,by rw [av];exact h.ld0 rfl,a1,p1,p2,p3,_,p4,_,by rw [av];exact h.ld0 rfl,?_⟩;dsimp only;rw [av,aE hlt' (by omega)];refine h.set0 (w':=jA s (k'+1) false) (by simp) rfl λF3 h=>⟨by omega,λhx128=> ?_,λhx128=> ?_⟩
  ·have hx':x<128:=by omega
   have j3:∀{F':PH} {bad:Bool},(bad=decide (x=0/\8 - i≠8))->St G F' (pt bc (.cells (jA s (k'+1) bad) 116)::pt b (.cells w e)::As)->
     ∀N1,pq N1 (some (Addr.mk b o none)) (N:Int) (x:Int) ((7*i:Nat):Int) (λres F'=>res=.tuple #[]/\∃y r',Res dI (some l) y r'/\St G F' (rcS s B bc r'::pt b (.cells (w.setIfInBounds o (vi y)) e)::As)) F':=λ{F' bad} hbad h N1=>by
    unfold pq;rw [o1];refine ⟨_,rfl,h.set1 (w':=w.setIfInBounds o (vi ((N+x % 128*2 ^ (7*i):Nat):Int))) ho rfl λF4 h=>⟨rfl,_,if x=0/\8 - i≠8 then none else some (B.drop (k'+1)),?_,h.mkR ?_ (by omega) ?_⟩⟩
    ·unfold Res dI ft;dsimp only;rw [hd,hdrop,show 9 - i=8 - i+1 by omega];unfold dN sh;rw [if_pos hx'];by_cases h0:x=0/\8 - i≠8
     ·rw [if_pos h0,if_pos h0];rfl
     ·rw [if_neg h0,if_neg h0];refine ⟨?_,rfl⟩;rw [show x % 128=x by omega,Nat.mul_comm x];rfl
    ·rw [hbad];by_cases h0:x=0/\8 - i≠8
     ·rw [if_pos h0,decide_eq_true h0];rfl
     ·rw [if_neg h0,decide_eq_false h0];rfl
    ·intro l' hl';by_cases h0:x=0/\8 - i≠8
     ·rw [if_pos h0] at hl';cases hl'
     ·rw [if_neg h0] at hl';cases hl';rfl
   refine ⟨λhx0=> ?_,λhx0=> ?_⟩
   ·rw [av];refine h.set0 (w':=jA s (k'+1) (decide ((0:Int)<((7*i:Nat):Int)))) (by simp) rfl λF4 h=>j3 ?_ h _;exact decide_eq_decide.2 ⟨λh=>⟨by omega,by omega⟩,λh=>by omega⟩
   ·rw [av];refine h.set0 (w':=jA s (k'+1) false) (by simp) rfl λF4 h=>j3 ?_ h _;exact (decide_eq_false λh=>hx0 (by omega)).symm
  ·have hx':¬x<128:=by omega
   rw [o1];refine ⟨9 - (i+1),by omega,i+1,k'+1,_,by omega,rfl,rfl,?_,by omega,o2,λl' hl'=> ?_,h⟩
   ·rw [aH (by omega) (by omega)];omega
   ·cases hl';rw [hd,hdrop,show 9 - i=9 - (i+1)+1 by omega];rw [Jf hx'];unfold sh;cases dN (9 - (i+1)) (B.drop (k'+1)) with
    |none=>rfl
    |some q=>simp only [Yj];refine congrArg some (Prod.ext ?_ rfl);show N+2 ^ (7*i)*(x - 128+128*q.1)=N+x % 128*2 ^ (7*i)+2 ^ (7*(i+1))*q.1;rw [show x % 128=x - 128 by omega,show 2 ^ (7*(i+1))=2 ^ (7*i)*128 by rw [show 7*(i+1)=7*i+7 by omega,Nat.pow_add],Nat.mul_add,Nat.mul_comm (x - 128),Nat.mul_assoc,Y4]
 ·refine j2 hk' (λl hr=> ?_) h;rw [hr] at hb;cases hb
 ·refine j2 hk' (λl hr=> ?_) h;rw [K.len] at hge;rw [hd l hr,show k'=B.length by omega,Ys,show 9 - i=8 - i+1 by omega];rfl
 ·refine j2 hk' (λl hr=> ?_) h;rw [hd l hr,show i=9 by omega];rfl
theorem Res.num {y:Int} {r':Option Δ} (h:Res dI r y r'):∃n:Nat,Res ff r n r'/\(r'≠none->y=(n:Int)):=by
 cases r with
 |none=>exact ⟨0,h,λhc=>absurd h hc⟩
 |some l=>
  unfold Res dI ft at h;dsimp only at h;cases h1:ff l with
  |none=>rw [h1] at h;exact ⟨0,by unfold Res;simp only [h1];exact h,λhc=>absurd h hc⟩
  |some q=>obtain ⟨n,l1⟩:=q;rw [h1] at h;exact ⟨n,by unfold Res;simp only [h1];exact ⟨trivial,h.2⟩,λ_=>h.1⟩
theorem Res.then {α:Type} {d:Ps α} {n:Nat} {y:α} {r1 r2:Option Δ} (h:Res ff r n r1) (f:Nat->Δ->Option (α×Δ)) (hd:∀l,d l=(ff l).bind λq=>f q.1 q.2) (h1:r1=none->r2=none) (h2:∀l1,r1=some l1->match f n l1 with|none=>r2=none|some (x,l2)=>y=x/\r2=some l2):Res d r y r2:=by
 cases r with
 |none=>have h:r1=none:=h;exact h1 h
 |some l=>
  unfold Res at h ⊢;dsimp only at h ⊢;rw [hd l];cases h3:ff l with
  |none=>rw [h3] at h;exact h1 h
  |some q=>obtain ⟨m,l1⟩:=q;rw [h3] at h;obtain ⟨rfl,rfl⟩:=h;exact h2 l1 rfl
theorem Dn (K:Rd G s B) (n0:Int) (h:St G F (rcS s B bc r::As)):
  ae prog 178 #[pc bc,vi n0] F λres F'=>∃(m:Nat) (r':Option Δ),res=vi m/\Res dC r m r'/\(r'=none->m=0)/\(∀l1,r'=some l1->m<=l1.length)/\St G F' (rcS s B bc r'::As):=by
 have hs:=K.len;have hB:=K.l;refine Nj ?_;unfold Ih;refine h.new λb3 F1 h=> ?_;refine (dz K (o:=0) h.swap rfl).mono ?_;rintro _ F2 ⟨rfl,y,r1,hr,h⟩;obtain ⟨k,⟨hk,hl⟩,h⟩:=h.exR;obtain ⟨n,hn,hy⟩:=hr.num;have hdC:∀l,dC l=(ff l).bind λq=>if q.1<=q.2.length then some (q.1,q.2) else none:=λl=>by unfold dC;cases ff l<;>rfl
 have j1t:∀{F':PH} {bad:Bool},(∀l1,r1=some l1->¬n<=l1.length)->St G F' (pt bc (.cells (jA s k bad) 116)::pt b3 (.cells #[vi y] 3)::As)->
   iB (some (Addr.mk bc 0 none)) b3 true (λres F'=>∃(m:Nat) (r':Option Δ),res=vi m/\Res dC r m r'/\(r'=none->m=0)/\(∀l1,r'=some l1->m<=l1.length)/\St G F' (rcS s B bc r'::As)) F':=λ{F' bad} hno h=>by
  unfold iB;refine ⟨λ_=>⟨_,rfl,?_⟩,λhc=>(by cases hc)⟩;rw [av];refine h.set0 (w':=jA s k true) (by simp) rfl λF3 h=>⟨0,none,rfl,?_,λ_=>rfl,λ_ hc=>(by cases hc),(h.mkR (r:=none) rfl hk λ_ hc=>(by cases hc)).swap.tail⟩;exact hn.then (λn l=>if n<=l.length then some (n,l) else none) hdC (λ_=>rfl) λl1 e=>by rw [if_neg (hno l1 e)]
 refine ⟨rfl,_,rfl,_,h.ld0 rfl,λ_=>⟨_,by rw [av];exact h.ld0 rfl,λhb=> ?_,λhb=> ?_⟩,λhc=>absurd rfl hc⟩
 ·exact j1t (λl1 e=>by rw [e] at hb;cases hb) h
 ·obtain ⟨l1,rfl⟩:∃l1,r1=some l1:=by cases r1 with|none=>cases hb|some l=>exact ⟨l,rfl⟩
  have e1:=hl l1 rfl;have hy:=hy (λhc=>(by cases hc));subst hy;have hlen:l1.length=B.length - k:=by rw [<- e1,Yp]
  refine ⟨_,h.ld1 rfl,_,by rw [av];exact h.ld0 rfl,_,by rw [av];exact h.ld0 rfl,?_⟩;dsimp only;rw [hs,aH (by omega) (by omega)];by_cases hle:n<=l1.length
  ·rw [decide_eq_false (by omega)];unfold iB;refine ⟨λhc=>(by cases hc),λ_=>⟨_,h.ld1 rfl,n,some l1,rfl,?_,λhc=>(by cases hc),λ_ e=>by cases e;exact hle,(h.mkR rfl hk hl).swap.tail⟩⟩;exact hn.then (λn l=>if n<=l.length then some (n,l) else none) hdC (λhc=>(by cases hc)) λl' e=>by cases e;rw [if_pos hle];exact ⟨rfl,rfl⟩
  ·rw [decide_eq_true (by omega)];exact j1t (λl' e=>by cases e;exact hle) h
theorem sR (K:Rd G s B) {x0:ByteArray} (h:St G F (rcS s B bc r::pt b (.cells w e)::As)) (hv:w[o]? =some (.string x0)):
  ae prog 119 #[pc bc,.pointer (some (Addr.mk b o none))] F λres F'=>res=.tuple #[]/\∃y r',Res dS r y r'/\St G F' (rcS s B bc r'::pt b (.cells (w.setIfInBounds o (.string y)) e)::As):=by
 have hs:=K.len;have hB:=K.l;have ho:=(X6.1 hv).1;refine MY ?_;unfold Ia;refine ⟨_,rfl,_,h.ld1 hv,?_⟩;refine (Dn K _ h).mono ?_;rintro _ F2 ⟨m,r1,rfl,hr,hm,hm2,h⟩;obtain ⟨k,⟨hk,hl⟩,h⟩:=h.exR;have hkm:k+m<=B.length:=by
  cases r1 with
  |none=>rw [hm rfl];omega
  |some l1=>have h1:=hm2 l1 rfl;rw [<- hl l1 rfl,Yp] at h1;omega
 have hcut:=(K.rd.le h.le).cut (l:=k) (r:=k+m) (m:=s.cap) (by omega) (by omega) (by have:=K.rd.cap;omega);rw [XS,XS,show k+m - k=m by omega,<- List.map_drop,<- List.map_take] at hcut;have hcap:=K.rd.cap;refine ⟨_,rfl,_,rfl,_,h.ld0 rfl,λhc=>absurd hc (by decide),λ_=>⟨_,by rw [av];exact h.ld0 rfl,_,by rw [av];exact h.ld0 rfl,_,by rw [av];exact h.ld0 rfl,?_⟩⟩;have ew:i64.wrap ((k:Int)+(m:Int))=((k+m:Nat):Int):=by rw [aH (by omega) (by omega)];omega
 dsimp only;rw [ew,N5,N5];refine ⟨by omega,by omega,by omega,by omega,_,g0 hcut,?_⟩;refine h.set1 (w':=w.setIfInBounds o (.string (EI ((B.drop k).take m)))) ho rfl λF3 h=>⟨_,by rw [av];exact h.ld0 rfl,?_⟩;dsimp only;rw [av,ew];refine h.set0 (w':=jA s (k+m) r1.isNone) (by simp) rfl λF4 h=>⟨rfl,EI ((B.drop k).take m),r1.map (List.drop m),?_,h.mkR (by cases r1<;>rfl) (by omega) ?_⟩
 ·cases r with
  |none=>have hr:r1=none:=hr;rw [hr];rfl
  |some l=>
   unfold Res dS at*;dsimp only at*;cases h1:dC l with
   |none=>rw [h1] at hr;dsimp only at hr ⊢;rw [hr];rfl
   |some q=>obtain ⟨n,l1⟩:=q;rw [h1] at hr;obtain ⟨rfl,rfl⟩:=hr;dsimp only;rw [hl l1 rfl];exact ⟨rfl,rfl⟩
 ·intro l' hl';cases r1 with
  |none=>cases hl'
  |some l1=>cases hl';rw [<- hl l1 rfl,List.drop_drop]
theorem AO (K:Rd G s B) {x0:Bool} (h:St G F (rcS s B bc r::pt b (.cells w e)::As)) (hv:w[o]? =some (.bool x0)):
  ae prog 186 #[pc bc,.pointer (some (Addr.mk b o none))] F λres F'=>res=.tuple #[]/\∃y r',Res dB r y r'/\St G F' (rcS s B bc r'::pt b (.cells (w.setIfInBounds o (.bool y)) e)::As):=by
 have ho:=(X6.1 hv).1;have hdB:∀l,dB l=(ff l).bind λq=>if q.1<=1 then some (decide (q.1=1),q.2) else none:=λl=>by unfold dB;cases ff l<;>rfl
 refine Np ?_;unfold Im;refine h.new λb4 F1 h=> ?_;refine h.set0 (w':= #[vi 0]) (by simp) rfl λF1 h=>⟨_,rfl,_,h.ld2 hv,?_⟩;have j1:∀{F':PH} {n0:Int},St G F' (pt b4 (.cells #[vi n0] 3)::rcS s B bc r::pt b (.cells w e)::As)->
   gh (some (Addr.mk bc 0 none)) (some (Addr.mk b o none)) b4 (λres F'=>res=.tuple #[]/\∃y r',Res dB r y r'/\St G F' (rcS s B bc r'::pt b (.cells (w.setIfInBounds o (.bool y)) e)::As)) F':=λ{F' n0} h=>by
  unfold gh;refine (dz K (o:=0) h.swap rfl).mono ?_;rintro _ F2 ⟨rfl,y,r1,hr,h⟩;obtain ⟨k,⟨hk,hl⟩,h⟩:=h.exR;obtain ⟨n,hn,hy⟩:=hr.num;have j2:∀{F':PH} {bad:Bool} {r2:Option Δ},bad=r2.isNone->(∀l,r2=some l->B.drop k=l)->Res dB r (decide (y=1)) r2->St G F' (pt bc (.cells (jA s k bad) 116)::pt b4 (.cells #[vi y] 3)::pt b (.cells w e)::As)->
    py (some (Addr.mk b o none)) b4 (λres F'=>res=.tuple #[]/\∃y r',Res dB r y r'/\St G F' (rcS s B bc r'::pt b (.cells (w.setIfInBounds o (.bool y)) e)::As)) F':=λ{F' bad r2} hb hl2 hr2 h=>by
   unfold py;refine ⟨_,h.ld1 rfl,_,rfl,?_⟩;refine h.set2 (w':=w.setIfInBounds o (.bool (decide (y=1)))) ho rfl λF3 h=>⟨rfl,_,r2,hr2,(h.mkR hb hk hl2).swap.tail⟩
  refine ⟨rfl,_,rfl,_,h.ld0 rfl,λ_=>⟨_,by rw [av];exact h.ld0 rfl,λhb=> ?_,λhb=> ?_⟩,λhc=>absurd rfl hc⟩
  ·have h1:r1=none:=by cases r1 with|none=>rfl|some l=>cases hb
   rw [av];refine h.set0 (w':=jA s k true) (by simp) rfl λF3 h=>j2 (r2:=none) rfl (λ_ hc=>(by cases hc)) ?_ h;exact hn.then (λn l=>if n<=1 then some (decide (n=1),l) else none) hdB (λ_=>rfl) λl1 e=>by rw [h1] at e;cases e
  ·obtain ⟨l1,rfl⟩:∃l1,r1=some l1:=by cases r1 with|none=>cases hb|some l=>exact ⟨l,rfl⟩
   have hy:=hy (λhc=>(by cases hc));subst hy;refine ⟨_,h.ld1 rfl,?_⟩;rw [av];refine h.set0 (w':=jA s k (decide ((1:Int)<(n:Int)))) (by simp) rfl λF3 h=>j2 (r2:=if n<=1 then some l1 else none) ?_ ?_ ?_ h
   ·by_cases hn1:n<=1
    ·rw [if_pos hn1,decide_eq_false (by omega)];rfl
    ·rw [if_neg hn1,decide_eq_true (by omega)];rfl
   ·intro l' hl';by_cases hn1:n<=1
    ·rw [if_pos hn1] at hl';exact hl l' hl'
    ·rw [if_neg hn1] at hl';cases hl'
   ·refine hn.then (λn l=>if n<=1 then some (decide (n=1),l) else none) hdB (λhc=>(by cases hc)) λl' e=> ?_;cases e;by_cases hn1:n<=1
    ·rw [if_pos hn1,if_pos hn1];exact ⟨decide_eq_decide.2 (by omega),rfl⟩
    ·rw [if_neg hn1,if_neg hn1]
 exact ⟨λ_=>h.set0 (w':= #[vi 1]) (by simp) rfl λF2 h=>j1 h,λ_=>j1 h⟩
end
end Go.Proofs.YtenpmjhnhepfdaaGreatDoor
