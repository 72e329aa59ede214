/-
  The reference: a grammar as a row of numbers.
-/
import Derived.Test.YtenpmjhnhepfdaaGreatDoorEa
import Derived.Test.YtenpmjhnhepfdaaGreatDoorEr
import Derived.Test.YtenpmjhnhepfdaaGreatDoorLd
import Derived.Test.YtenpmjhnhepfdaaGreatDoorEx
import Derived.Test.YtenpmjhnhepfdaaGreatDoorHr
import Derived.Test.YtenpmjhnhepfdaaGreatDoorIw
import Derived.Test.YtenpmjhnhepfdaaGreatDoorGkoineref05
namespace Go.Proofs.YtenpmjhnhepfdaaGreatDoor
open Go Go.Proofs.Tryz Tr
set_option maxRecDepth 10000
section
variable {F:PH} {v:Array Value}
theorem Jn {t:Tr} (ha:DV F v (dia t)) (ht:t.ok) (hf:(aH t).length<=4096) {c:Int} (h0:0<=c) (h1:c<18446744073709551616):ae prog 93 #[.agg v,.int .u64 c] F fun r F'=>r=.bool (t.ev (cfg c))/\F.le F':=by
 obtain ⟨s,rfl,hr⟩:=ha
 have hT:=cx ht
 have hr':RdS F s 3 (aS (brs (aH t))):=hr
 have hlen:=hr'.blen
 rw [aO] at hlen
 refine Um ?_
 unfold Pw
 intro b2 hb2
 refine atI ?_
 have l2:=ac (.cells #[s.v,vi (dia t).2] 33) hb2
 have q2:=an F b2 (.cells #[s.v,vi (dia t).2] 33)
 generalize F.set b2 (.cells #[s.v,vi (dia t).2] 33)=F3 at*
 refine ⟨(num (aH t) t:Int),by rw [am q2];rfl,?_⟩
 refine ⟨fun m i F'=>∃t',i=(num (aH t) t':Int)/\inn (aH t) t'/\m=t'.sz/\F3.le F'/\t'.ev (cfg c)=t.ev (cfg c),t.sz,⟨t,rfl,ce ht,rfl,PH.le_rfl,rfl⟩,?_⟩
 rintro m i F4 ⟨t',rfl,hin,rfl,l4,hev⟩
 unfold FA
 refine ⟨fun hlt=> ?_,fun hge=> ?_⟩
 ·cases t' with
  |leaf x=>have:=cd (aH t) x;omega
  |node w l r=>
   obtain ⟨il,ir⟩:=hT.inn_kids hin
   obtain ⟨o1,_⟩:=hT.inn_ok hin
   have hg:=cZ (S:=aH t) (t:=node w l r) rfl
   have hnl:=cY hin
   have hw:=pz (n:=num (aH t) (node w l r)) (by omega) hg
   obtain ⟨p,hp,hrow,_⟩:=rdb (hr'.le (l2.trans l4)) (gL (eQ (ca hin rfl) rfl))
   refine ⟨s,by rw [am (l4 _ _ q2)];rfl,p,hp,by rw [hw];omega,by rw [hw];omega,aQ (br (aH t) (node w l r)),rfl,by rw [hw];exact hrow,?_⟩
   intro b6 hb6
   refine atI ?_
   refine stW (an _ _ _) rfl rfl (fR _) ?_
   rw [aR]
   have l6:=l4.trans (ac (.cells (aQ (br (aH t) (node w l r))) 103) hb6)
   refine ⟨(w:Int),by rw [am (an _ _ _)];rfl,by rw [eG (by omega) (by omega)];omega,fun hb=> ?_,fun hb=> ?_⟩
   ·rw [eG (x:=(w:Int)) (by omega) (by omega)] at hb
    have hb':=(kV h0 h1 o1).1 hb
    refine ⟨_,by rw [am (an _ _ _)];rfl,r.sz,by simp only [sz];omega,r,rfl,ir,rfl,l6,?_⟩
    rw [<- hev]
    simp [Tr.ev,hb']
   ·have hb':¬cfg c w=true:=fun hc=>hb (by rw [eG (x:=(w:Int)) (by omega) (by omega)];exact (kV h0 h1 o1).2 hc)
    refine ⟨_,by rw [am (an _ _ _)];rfl,l.sz,by simp only [sz];omega,l,rfl,il,rfl,l6,?_⟩
    rw [<- hev]
    simp [Tr.ev,hb']
 ·unfold Fz
  refine ⟨?_,l2.trans l4⟩
  rw [<- hev]
  cases t' with
  |leaf x=>cases x<;>simp [num,Tr.ev]
  |node w l r=>have:=cZ (S:=aH t) (t:=node w l r) rfl;omega
end
abbrev Ps (α:Type):=List Nat->Option (α×List Nat)
section
variable {α β:Type} {e:α->List Nat} {d:Ps α} {P:α->Prop} {e':β->List Nat} {d':Ps β} {P':β->Prop}
end
def dN:Nat->Ps Nat
 |0,_=>none
 |_+1,[]=>none
 |k+1,x::l=>if x<128 then (if x=0/\k≠8 then none else some (x,l)) else match dN k l with
  |none=>none
  |some (n,r)=>some (x - 128+128*n,r)
def N63 (n:Nat):Prop:=n<128 ^ 9
def U1:Ps Nat:=dN 9
def I63 (x:Int):Prop:=0<=x/\x<128 ^ 9
section
variable {α:Type} {e:α->List Nat} {d:Ps α} {P:α->Prop}
end
def dB:Ps Bool:=fun l=>match U1 l with
 |none=>none
 |some (n,r)=>if n<=1 then some (decide (n=1),r) else none
def pBr (b:Br):Prop:=I63 b.v/\I63 b.l/\I63 b.h
def pL {α:Type} (P:α->Prop) (xs:List α):Prop:=N63 xs.length/\∀x∈xs,P x
def pD (d:Dia):Prop:=pL pBr d.1/\I63 d.2
def pNd (x:Nd):Prop:=I63 x.k/\I63 x.lo/\I63 x.hi/\I63 x.a/\I63 x.b
def pS (s:ByteArray):Prop:=N63 s.size
def pTk (t:Tk):Prop:=pS t.name/\I63 t.cls/\pS t.lit/\pL pNd t.pat/\pS t.smp/\pD t.cond
def pSy (s:Sy):Prop:=True/\I63 s.i
def pCn (x:Cn):Prop:=I63 x.k/\I63 x.a/\I63 x.b
def U2 (s:Sco):Prop:=True/\I63 s.d/\I63 s.k/\I63 s.u/\I63 s.a
def pPr (p:Pr):Prop:=pS p.name/\I63 p.left/\pL pSy p.right/\pD p.cond/\True/\I63 (p.rank+1)/\pL pCn p.lay/\U2 p.sco
def pLv (l:Lv):Prop:=pL I63 l.ps/\I63 l.assoc/\pD l.cond
def pFi (f:Fi):Prop:=I63 f.k/\I63 f.par/\I63 f.pos/\I63 f.ch/\I63 f.left/\I63 f.tok/\pL I63 f.toks/\pD f.cond
def pGr (g:Gr):Prop:=pL pS g.conds/\pD g.fam/\pL pTk g.toks/\pL pS g.nons/\pL pPr g.prods/\I63 g.start/\pL pLv g.lvs/\pL pFi g.fils
theorem NN.of {g:Gr} (h:pGr g) (hr:∀p∈g.prods,-1<=p.rank/\p.rank<=1):NN g:=by
 obtain ⟨_,h2,h3,_,h5,h6,h7,h8⟩:=h
 have hd:∀{d:Dia},pD d->(∀b∈d.1,0<=b.v/\0<=b.l/\0<=b.h)/\0<=d.2:=fun h=>⟨fun b hb=>⟨(h.1.2 b hb).1.1,(h.1.2 b hb).2.1.1,(h.1.2 b hb).2.2.1⟩,h.2.1⟩
 refine ⟨hd h2,fun t ht=> ?_,fun p hp=> ?_,h6.1,fun l hl=> ?_,fun f hf=> ?_⟩
 ·obtain ⟨_,a1,_,a2,_,a3⟩:=h3.2 t ht
  exact ⟨a1.1,fun x hx=>by obtain ⟨b1,b2,b3,b4,b5⟩:=a2.2 x hx;exact ⟨b1.1,b2.1,b3.1,b4.1,b5.1⟩,hd a3⟩
 ·obtain ⟨_,a1,a2,a3,_,_,a4,_,a5,a6,a7,a8⟩:=h5.2 p hp
  exact ⟨a1.1,fun s hs=>(a2.2 s hs).2.1,hd a3,(hr p hp).1,(hr p hp).2,fun x hx=>by obtain ⟨b1,b2,b3⟩:=a4.2 x hx;exact ⟨b1.1,b2.1,b3.1⟩,a5.1,a6.1,a7.1,a8.1⟩
 ·obtain ⟨a1,a2,a3⟩:=h7.2 l hl
  exact ⟨fun x hx=>(a1.2 x hx).1,a2.1,hd a3⟩
 ·obtain ⟨a1,a2,a3,a4,a5,a6,a7,a8⟩:=h8.2 f hf
  exact ⟨a1.1,a2.1,a3.1,a4.1,a5.1,a6.1,fun x hx=>(a7.2 x hx).1,hd a8⟩
theorem tz {n:Nat}:∀(l:List Tk) (done:List ByteArray),cN n done l->∀t∈l,∃d,wT n d t
 |[],_,_,_,h=>by cases h
 |t::l,done,⟨h1,h2⟩,x,hx=>by
  rcases List.mem_cons.1 hx with rfl|hx
  ·exact ⟨_,h1⟩
  ·exact tz l _ h2 x hx
theorem tC {g:Gr}:∀(l:List Lv) (done:List Int),cC g done l->∀t∈l,∃d,C7 g d t
 |[],_,_,_,h=>by cases h
 |t::l,done,⟨h1,h2⟩,x,hx=>by
  rcases List.mem_cons.1 hx with rfl|hx
  ·exact ⟨_,h1⟩
  ·exact tC l _ h2 x hx
theorem tD {g:Gr}:∀(l:List Pr) (done:List ByteArray),bJ g done l=0->∀p∈l,cz g p/\∃d,qi g d p
 |[],_,_,_,h=>by cases h
 |p::l,done,h,x,hx=>by
  unfold bJ at h
  by_cases h1:cz g p
  ·rw [if_neg (not_not_intro h1)] at h
   by_cases h2:qi g done p
   ·rw [if_neg (not_not_intro h2)] at h
    rcases List.mem_cons.1 hx with rfl|hx
    ·exact ⟨h1,_,h2⟩
    ·exact tD l _ h x hx
   ·rw [if_pos h2] at h;cases h
  ·rw [if_pos h1] at h;cases h
section
variable {F G:PH} {g:Gr} {c:Int}
theorem oS {v:Array Value} {d:Dia} {n:Nat} (hd:DV F v d) (hf:fg d n) (c0:0<=c) (c1:c<18446744073709551616):ae prog 93 #[.agg v,.int .u64 c] F fun r F'=>r=.bool (dQ d c)/\F.le F':=by
 obtain ⟨t,h1,rfl,_,h3,_⟩:=sU hf
 rw [FD ⟨h1,h3⟩]
 exact Jn hd h1 h3 c0 c1
theorem tE {v:Array Value} (hg:GV F v g) (hO:OkG g) (c0:0<=c) (c1:c<18446744073709551616):ae prog 88 #[.agg v,.int .u64 c] F fun r F'=>r=.bool (inW g c)/\F.le F':=by
 obtain ⟨hl,_⟩:=dU hO.large
 have hf:=hO.fam.2.2.1
 obtain ⟨cs,n,t,s,p,l,f,rfl,hs⟩:=hg
 have ec:=hs.c.len (by decide)
 refine UY ?_
 unfold Sj
 refine fresh fun b2 F1 l1 q2 _=>⟨_,ld q2 rfl,fun h64=> ?_,fun h64=> ?_⟩
 ·refine ⟨#[n.v,vi g.fam.2],rfl,dP q2 rfl,?_⟩
  refine (oS (DV.mk (hs.n.le l1)) hf c0 c1).mono ?_
  rintro _ F2 ⟨rfl,l2⟩
  refine ⟨_,rfl,?_,aa l1 l2⟩
  unfold inW
  rw [show min g.conds.length 64=64 by omega,decide_eq_true,Bool.true_and]
  rw [Int.fdiv_eq_ediv_of_nonneg _ (by decide)]
  exact Int.ediv_eq_zero_of_lt c0 c1
 ·have ew:IntKind.u64.wrap (cs.len:Int)=(cs.len:Int):=by
   have h1:cs.len<=64:=by omega
   rw [eG (by omega) (by omega)]
  rw [ew,Int.toNat_natCast,ec]
  refine ⟨by omega,fun hz=> ?_,fun hz=> ?_⟩
  ·refine ⟨#[n.v,vi g.fam.2],rfl,dP q2 rfl,?_⟩
   refine (oS (DV.mk (hs.n.le l1)) hf c0 c1).mono ?_
   rintro _ F2 ⟨rfl,l2⟩
   refine ⟨_,rfl,?_,aa l1 l2⟩
   unfold inW
   rw [decide_eq_true (show Int.fdiv c (2 ^ min g.conds.length 64)=0 from hz),Bool.true_and]
  ·refine ⟨?_,l1⟩
   unfold inW
   rw [decide_eq_false (show ¬Int.fdiv c (2 ^ min g.conds.length 64)=0 from hz),Bool.false_and]
theorem Hb {v:Array Value} (hg:GV F v g) (hz:Sml g) (c0:0<=c) (c1:c<18446744073709551616):ae prog 26 #[.agg v,.int .u64 c] F fun r F'=>r=.bool (inG g c)/\F.le F':=by
 refine UO ?_
 unfold R7
 refine fresh fun b2 F1 l1 q2 _=>⟨_,hg.size,aj q2,?_⟩
 refine (jg (hg.le l1) hz).mono ?_
 rintro _ F2 ⟨rfl,l2⟩
 have l12:=aa l1 l2
 refine ⟨_,rfl,fun h0=>⟨_,hg.size,aj (l2 _ _ q2),?_⟩,fun h0=>⟨?_,l12⟩⟩
 ·refine (tE (hg.le l12) (eV.1 h0) c0 c1).mono ?_
  rintro _ F3 ⟨rfl,l3⟩
  refine ⟨_,rfl,?_,aa l12 l3⟩
  unfold inG
  rw [decide_eq_true h0,Bool.true_and]
 ·unfold inG
  rw [decide_eq_false h0,Bool.false_and]
theorem oT {v:Array Value} {d:Dia} (hd:DV F v d) (hf:∃n,fg d n) (c0:0<=c) (c1:c<18446744073709551616):ae prog 90 #[.agg v,.int .u64 c] F fun r F'=>(∃n,r=.agg #[Sl.v n,vi (atD d c).2]/\RL F' n (atD d c).1)/\F.le F':=by
 obtain ⟨n,hf⟩:=hf
 refine UZ ?_
 unfold Sk
 refine (St.start F).newG fun b2 G1 F1 l1 q2 _ h=> ?_
 refine h.new fun b4 F2 h=>⟨_,hd.size,aj (h.le _ _ q2),?_⟩
 refine h.runv (oS (hd.le l1) hf c0 c1) fun G3 F3 l3 h=>⟨_,rfl,?_⟩
 refine h.run (P:=fun r G=>∃w,r=.agg w/\DV G w (dia (leaf (dQ d c)))) ((cE (dQ d c)).mono fun r F' ⟨w,h1,h2,h3⟩=>⟨⟨w,h1,h2⟩,h3⟩) fun r G4 F4 hr l4 h=> ?_
 obtain ⟨w,rfl,s,rfl,hw⟩:=hr
 refine ⟨_,rfl,?_⟩
 refine h.put0 (w':= #[s.v,vi (atD d c).2]) rfl rfl (by simp [ai,Sl.v]) fun F5 h=>⟨_,rfl,h.whole0,⟨s,rfl,(RL.brs.2 hw).le h.le⟩,aa l1 (aa l3 (aa l4 h.le))⟩
theorem oU {α:Type} {l:List α} {k:Nat} {x:α} {f:α->α} (h:l[k]? =some x):((l.take k).map f++l.drop k).set k (f x)=(l.take (k+1)).map f++l.drop (k+1):=by
 have hk:=(List.getElem?_eq_some_iff.1 h).1
 have hl:((l.take k).map f).length=k:=by rw [List.length_map,List.length_take];omega
 rw [List.set_append_right _ _ (by omega),hl,Nat.sub_self,du h,aI h,List.map_append]
 simp
theorem oV {α:Type} {l:List α} {k:Nat} {x:α} {f:α->α} (h:l[k]? =some x):((l.take k).map f++l.drop k)[k]? =some x:=by
 have hk:=(List.getElem?_eq_some_iff.1 h).1
 have hl:((l.take k).map f).length=k:=by rw [List.length_map,List.length_take];omega
 rw [List.getElem?_append_right (by omega),hl,Nat.sub_self,du h]
 rfl
end
section
variable {F G:PH} {g:Gr} {c:Int} {b2 b4 b7:Nat} {cs n t s p l f n' t' p' l':Sl} {root:Int} {R:VR}
theorem Ta (hs:GS G g cs n t s p l f) (q2:G b2=some (.cells (g.arr cs n t s p l f) 39)) (hm:g.fils.length<=1000000000) (hfit:∀x∈g.fils,∃m,fg x.cond m) (c0:0<=c) (c1:c<18446744073709551616)
  (h:St G F [pt b7 (.cells (cw Sl.nil n' t' s p' l' f root g.start) 39),pt b4 (.cells zG 39)])
  (next:∀G' F' y',G.le G'->RL G' y' (g.fils.map fun x=>{x with cond:=atD x.cond c})->St G' F' [pt b7 (.cells (cw Sl.nil n' t' s p' l' y' root g.start) 39),pt b4 (.cells zG 39)]->y8 b4 b7 R F'):
  uY c b2 b4 b7 R F:=by
 obtain ⟨_,_,T⟩:=IH
 obtain ⟨vs,hR,hd⟩:=id hs.f
 have ef:=hs.f.len (by decide)
 unfold uY
 refine h.new fun b1 F1 h=> ?_
 have h:=h.imp (A':=own (Sl.mk (some (Addr.mk b1 0 none)) 0 0) 74 9 []) 0 rfl fun H _ hH=>bK hH
 refine ⟨_,ld (h.le _ _ q2) rfl,?_⟩
 refine St.app0 T h (hd.le h.le) hR.st (by show 0+f.len<=_;omega) fun y1 F2 h hl1=> ?_
 rw [List.nil_append] at h
 refine h.set1 (w':=cw Sl.nil n' t' s p' l' y1 root g.start) (by show 8<9;decide) rfl fun F3 h=> ?_
 have e1:y1.len=g.fils.length:=by rw [hl1];show 0+f.len=_;omega
 refine bj (y9 · c b4 b7 R) g.fils.length (fun k F'=>∃G' vs,G.le G'/\bZ G' ((g.fils.take k).map (fun x=>{x with cond:=atD x.cond c})++g.fils.drop k) vs/\St G' F' [own y1 74 9 (cat vs),pt b7 (.cells (cw Sl.nil n' t' s p' l' y1 root g.start) 39),pt b4 (.cells zG 39)])
  ⟨G,vs,le_refl' _,by simpa using hR,h⟩ ?_
 rintro k F4 N hk ⟨G1,vs1,l1,hR1,h⟩ nxt
 unfold y9
 refine ⟨_,h.ld1 rfl,fun hlt=> ?_,fun hge=> ?_⟩
 ·have hlt:k<g.fils.length:=by omega
  obtain ⟨x,hx⟩:∃x,g.fils[k]? =some x:=⟨_,List.getElem?_eq_getElem hlt⟩
  obtain ⟨w,w1,⟨ya,yn,rfl,k1,k2⟩,wd⟩:=hR1.get (oV hx)
  refine ⟨_,h.ld1 rfl,_,h.ld1 rfl,?_⟩
  refine h.elR 0 rfl hR1.sz w1 (by decide) wd fun y hy=>⟨#[yn.v,vi x.cond.2],rfl,fu hy rfl,?_⟩
  refine h.run (P:=fun r G=>∃n,r=.agg #[Sl.v n,vi (atD x.cond c).2]/\RL G n (atD x.cond c).1) (oT (DV.mk k2) (hfit x (List.mem_of_getElem? hx)) c0 c1) fun r G2 F5 hr l2 h=> ?_
  obtain ⟨n2,rfl,hn2⟩:=hr
  refine ⟨_,rfl,h.ld1 rfl,h.ld1 rfl,?_⟩
  refine h.elN 0 rfl hR1.sz w1 (by decide) rfl (by show 7+2<=9;decide) (by simp [ai,Sl.v]) fun F6 h=> ?_
  rw [aB hlt (by omega)]
  refine nxt _ hlt ⟨G2,_,aa l1 l2,?_,h⟩
  rw [<- oU hx]
  exact (hR1.le l2).set ⟨ya,n2,rfl,k1.le l2,hn2⟩
 ·have e:k=g.fils.length:=by omega
  subst e
  rw [List.take_length,List.drop_length,List.append_nil] at hR1
  obtain ⟨G2,l2,d2,h⟩:=h.pinO
  exact next G2 _ y1 (aa l1 l2) ⟨vs1,hR1.le l2,d2⟩ h
theorem Tb (hs:GS G g cs n t s p l f) (q2:G b2=some (.cells (g.arr cs n t s p l f) 39)) (hm:g.lvs.length<=1000000000) (hfit:∀x∈g.lvs,∃m,fg x.cond m) (c0:0<=c) (c1:c<18446744073709551616)
  (h:St G F [pt b7 (.cells (cw Sl.nil n' t' s p' l f root g.start) 39),pt b4 (.cells zG 39)])
  (next:∀G' F' y',G.le G'->RL G' y' (g.lvs.map fun x=>{x with cond:=atD x.cond c})->St G' F' [pt b7 (.cells (cw Sl.nil n' t' s p' y' f root g.start) 39),pt b4 (.cells zG 39)]->uY c b2 b4 b7 R F'):
  uZ c b2 b4 b7 R F:=by
 obtain ⟨_,_,T⟩:=IG
 obtain ⟨vs,hR,hd⟩:=id hs.l
 have ef:=hs.l.len (by decide)
 unfold uZ
 refine h.new fun b1 F1 h=> ?_
 have h:=h.imp (A':=own (Sl.mk (some (Addr.mk b1 0 none)) 0 0) 72 4 []) 0 rfl fun H _ hH=>bK hH
 refine ⟨_,ld (h.le _ _ q2) rfl,?_⟩
 refine St.app0 T h (hd.le h.le) hR.st (by show 0+l.len<=_;omega) fun y1 F2 h hl1=> ?_
 rw [List.nil_append] at h
 refine h.set1 (w':=cw Sl.nil n' t' s p' y1 f root g.start) (by show 7<9;decide) rfl fun F3 h=> ?_
 have e1:y1.len=g.lvs.length:=by rw [hl1];show 0+l.len=_;omega
 refine bj (za · c b2 b4 b7 R) g.lvs.length (fun k F'=>∃G' vs,G.le G'/\bZ G' ((g.lvs.take k).map (fun x=>{x with cond:=atD x.cond c})++g.lvs.drop k) vs/\St G' F' [own y1 72 4 (cat vs),pt b7 (.cells (cw Sl.nil n' t' s p' y1 f root g.start) 39),pt b4 (.cells zG 39)])
  ⟨G,vs,le_refl' _,by simpa using hR,h⟩ ?_
 rintro k F4 N hk ⟨G1,vs1,l1,hR1,h⟩ nxt
 unfold za
 refine ⟨_,h.ld1 rfl,fun hlt=> ?_,fun hge=> ?_⟩
 ·have hlt:k<g.lvs.length:=by omega
  obtain ⟨x,hx⟩:∃x,g.lvs[k]? =some x:=⟨_,List.getElem?_eq_getElem hlt⟩
  obtain ⟨w,w1,⟨ya,yn,rfl,k1,k2⟩,wd⟩:=hR1.get (oV hx)
  refine ⟨_,h.ld1 rfl,_,h.ld1 rfl,?_⟩
  refine h.elR 0 rfl hR1.sz w1 (by decide) wd fun y hy=>⟨#[yn.v,vi x.cond.2],rfl,fu hy rfl,?_⟩
  refine h.run (P:=fun r G=>∃n,r=.agg #[Sl.v n,vi (atD x.cond c).2]/\RL G n (atD x.cond c).1) (oT (DV.mk k2) (hfit x (List.mem_of_getElem? hx)) c0 c1) fun r G2 F5 hr l2 h=> ?_
  obtain ⟨n2,rfl,hn2⟩:=hr
  refine ⟨_,rfl,h.ld1 rfl,h.ld1 rfl,?_⟩
  refine h.elN 0 rfl hR1.sz w1 (by decide) rfl (by show 2+2<=4;decide) (by simp [ai,Sl.v]) fun F6 h=> ?_
  rw [aB hlt (by omega)]
  refine nxt _ hlt ⟨G2,_,aa l1 l2,?_,h⟩
  rw [<- oU hx]
  exact (hR1.le l2).set ⟨ya,n2,rfl,k1.le l2,hn2⟩
 ·have e:k=g.lvs.length:=by omega
  subst e
  rw [List.take_length,List.drop_length,List.append_nil] at hR1
  obtain ⟨G2,l2,d2,h⟩:=h.pinO
  exact next G2 _ y1 (aa l1 l2) ⟨vs1,hR1.le l2,d2⟩ h
theorem Tc (hs:GS G g cs n t s p l f) (q2:G b2=some (.cells (g.arr cs n t s p l f) 39)) (hm:g.prods.length<=1000000000) (hfit:∀x∈g.prods,∃m,fg x.cond m) (c0:0<=c) (c1:c<18446744073709551616)
  (h:St G F [pt b7 (.cells (cw Sl.nil n' t' s p l f root g.start) 39),pt b4 (.cells zG 39)])
  (next:∀G' F' y',G.le G'->RL G' y' (g.prods.map fun x=>{x with cond:=atD x.cond c})->St G' F' [pt b7 (.cells (cw Sl.nil n' t' s y' l f root g.start) 39),pt b4 (.cells zG 39)]->uZ c b2 b4 b7 R F'):
  u0 c b2 b4 b7 R F:=by
 obtain ⟨_,_,T⟩:=C5
 obtain ⟨vs,hR,hd⟩:=id hs.p
 have ef:=hs.p.len (by decide)
 unfold u0
 refine h.new fun b1 F1 h=> ?_
 have h:=h.imp (A':=own (Sl.mk (some (Addr.mk b1 0 none)) 0 0) 67 13 []) 0 rfl fun H _ hH=>bK hH
 refine ⟨_,ld (h.le _ _ q2) rfl,?_⟩
 refine St.app0 T h (hd.le h.le) hR.st (by show 0+p.len<=_;omega) fun y1 F2 h hl1=> ?_
 rw [List.nil_append] at h
 refine h.set1 (w':=cw Sl.nil n' t' s y1 l f root g.start) (by show 5<9;decide) rfl fun F3 h=> ?_
 have e1:y1.len=g.prods.length:=by rw [hl1];show 0+p.len=_;omega
 refine bj (zc · c b2 b4 b7 R) g.prods.length (fun k F'=>∃G' vs,G.le G'/\bZ G' ((g.prods.take k).map (fun x=>{x with cond:=atD x.cond c})++g.prods.drop k) vs/\St G' F' [own y1 67 13 (cat vs),pt b7 (.cells (cw Sl.nil n' t' s y1 l f root g.start) 39),pt b4 (.cells zG 39)])
  ⟨G,vs,le_refl' _,by simpa using hR,h⟩ ?_
 rintro k F4 N hk ⟨G1,vs1,l1,hR1,h⟩ nxt
 unfold zc
 refine ⟨_,h.ld1 rfl,fun hlt=> ?_,fun hge=> ?_⟩
 ·have hlt:k<g.prods.length:=by omega
  obtain ⟨x,hx⟩:∃x,g.prods[k]? =some x:=⟨_,List.getElem?_eq_getElem hlt⟩
  obtain ⟨w,w1,⟨ya,yn,yb,rfl,k1,k2,k3⟩,wd⟩:=hR1.get (oV hx)
  refine ⟨_,h.ld1 rfl,_,h.ld1 rfl,?_⟩
  refine h.elR 0 rfl hR1.sz w1 (by decide) wd fun y hy=>⟨#[yn.v,vi x.cond.2],rfl,fu hy rfl,?_⟩
  refine h.run (P:=fun r G=>∃n,r=.agg #[Sl.v n,vi (atD x.cond c).2]/\RL G n (atD x.cond c).1) (oT (DV.mk k2) (hfit x (List.mem_of_getElem? hx)) c0 c1) fun r G2 F5 hr l2 h=> ?_
  obtain ⟨n2,rfl,hn2⟩:=hr
  refine ⟨_,rfl,h.ld1 rfl,h.ld1 rfl,?_⟩
  refine h.elN 0 rfl hR1.sz w1 (by decide) rfl (by show 3+2<=13;decide) (by simp [ai,Sl.v]) fun F6 h=> ?_
  rw [aB hlt (by omega)]
  refine nxt _ hlt ⟨G2,_,aa l1 l2,?_,h⟩
  rw [<- oU hx]
  exact (hR1.le l2).set ⟨ya,n2,yb,rfl,k1.le l2,hn2,k3.le l2⟩
 ·have e:k=g.prods.length:=by omega
  subst e
  rw [List.take_length,List.drop_length,List.append_nil] at hR1
  obtain ⟨G2,l2,d2,h⟩:=h.pinO
  exact next G2 _ y1 (aa l1 l2) ⟨vs1,hR1.le l2,d2⟩ h
theorem Td (hs:GS G g cs n t s p l f) (q2:G b2=some (.cells (g.arr cs n t s p l f) 39)) (hm:g.toks.length<=1000000000) (hfit:∀x∈g.toks,∃m,fg x.cond m) (c0:0<=c) (c1:c<18446744073709551616)
  (h:St G F [pt b7 (.cells (cw Sl.nil n' t s p l f root g.start) 39),pt b4 (.cells zG 39)])
  (next:∀G' F' y',G.le G'->RL G' y' (g.toks.map fun x=>{x with cond:=atD x.cond c})->St G' F' [pt b7 (.cells (cw Sl.nil n' y' s p l f root g.start) 39),pt b4 (.cells zG 39)]->u0 c b2 b4 b7 R F'):
  (∀b,F b=none->atF (F.set b (.cells #[] 79)) fun F=>Ls F (Am b2 3) fun v=>Ap 34 #[(Sl.v (Sb b 0)),(Sl.v v)] F fun w F=>sto F (Am b7 3) (Sl.v w) fun F=>Lp (0:Int) F fun N i F=>u6 N c b2 b4 b7 R i F):=by
 obtain ⟨_,_,T⟩:=Fl
 obtain ⟨vs,hR,hd⟩:=id hs.t
 have ef:=hs.t.len (by decide)
 refine h.new fun b1 F1 h=> ?_
 have h:=h.imp (A':=own (Sl.mk (some (Addr.mk b1 0 none)) 0 0) 79 7 []) 0 rfl fun H _ hH=>bK hH
 refine ⟨_,ld (h.le _ _ q2) rfl,?_⟩
 refine St.app0 T h (hd.le h.le) hR.st (by show 0+t.len<=_;omega) fun y1 F2 h hl1=> ?_
 rw [List.nil_append] at h
 refine h.set1 (w':=cw Sl.nil n' y1 s p l f root g.start) (by show 3<9;decide) rfl fun F3 h=> ?_
 have e1:y1.len=g.toks.length:=by rw [hl1];show 0+t.len=_;omega
 refine bj (u6 · c b2 b4 b7 R) g.toks.length (fun k F'=>∃G' vs,G.le G'/\bZ G' ((g.toks.take k).map (fun x=>{x with cond:=atD x.cond c})++g.toks.drop k) vs/\St G' F' [own y1 79 7 (cat vs),pt b7 (.cells (cw Sl.nil n' y1 s p l f root g.start) 39),pt b4 (.cells zG 39)])
  ⟨G,vs,le_refl' _,by simpa using hR,h⟩ ?_
 rintro k F4 N hk ⟨G1,vs1,l1,hR1,h⟩ nxt
 unfold u6
 refine ⟨_,h.ld1 rfl,fun hlt=> ?_,fun hge=> ?_⟩
 ·have hlt:k<g.toks.length:=by omega
  obtain ⟨x,hx⟩:∃x,g.toks[k]? =some x:=⟨_,List.getElem?_eq_getElem hlt⟩
  obtain ⟨w,w1,⟨ya,yn,rfl,k1,k2⟩,wd⟩:=hR1.get (oV hx)
  refine ⟨_,h.ld1 rfl,_,h.ld1 rfl,?_⟩
  refine h.elR 0 rfl hR1.sz w1 (by decide) wd fun y hy=>⟨#[yn.v,vi x.cond.2],rfl,fu hy rfl,?_⟩
  refine h.run (P:=fun r G=>∃n,r=.agg #[Sl.v n,vi (atD x.cond c).2]/\RL G n (atD x.cond c).1) (oT (DV.mk k2) (hfit x (List.mem_of_getElem? hx)) c0 c1) fun r G2 F5 hr l2 h=> ?_
  obtain ⟨n2,rfl,hn2⟩:=hr
  refine ⟨_,rfl,h.ld1 rfl,h.ld1 rfl,?_⟩
  refine h.elN 0 rfl hR1.sz w1 (by decide) rfl (by show 5+2<=7;decide) (by simp [ai,Sl.v]) fun F6 h=> ?_
  rw [aB hlt (by omega)]
  refine nxt _ hlt ⟨G2,_,aa l1 l2,?_,h⟩
  rw [<- oU hx]
  exact (hR1.le l2).set ⟨ya,n2,rfl,k1.le l2,hn2⟩
 ·have e:k=g.toks.length:=by omega
  subst e
  rw [List.take_length,List.drop_length,List.append_nil] at hR1
  obtain ⟨G2,l2,d2,h⟩:=h.pinO
  exact next G2 _ y1 (aa l1 l2) ⟨vs1,hR1.le l2,d2⟩ h
end
theorem Hc {F:PH} {v:Array Value} {g:Gr} {c:Int} (hg:GV F v g) (hz:Sml g) (c0:0<=c) (c1:c<18446744073709551616):
  ae prog 22 #[.agg v,.int .u64 c] F fun r F'=>(∃w,r=.tuple #[.agg w,vi (j9 g c)]/\GV F' w (jE g c))/\F.le F':=by
 have hg0:=hg
 have hm:=hz.m
 obtain ⟨cs,n,t,s,p,l,f,rfl,hs⟩:=hg
 refine UM ?_
 unfold R5
 refine (St.start F).newG fun b2 G1 F1 l1 q2 _ h=> ?_
 refine h.new fun b4 F3 h=>⟨_,hg0.size,aj (h.le _ _ q2),?_⟩
 refine h.runv (jg (hg0.le l1) hz) fun G4 F4 l4 h=>⟨_,rfl,fun hb=> ?_,fun hb=>⟨_,hg0.size,aj (h.le _ _ (l4 _ _ q2)),?_⟩⟩
 ·refine h.put0 (w':=zG) rfl rfl (by simp [ai]) fun F5 h=>⟨_,rfl,h.whole0,⟨zG,?_,?_⟩,aa l1 (aa l4 h.le)⟩
  ·rw [show j9 g c=bT g from if_pos hb]
  ·rw [show jE g c=gr0 by unfold jE j9;rw [if_pos hb,if_pos hb]]
   exact GV.zero _
 have hb:bT g=0:=Classical.not_not.1 hb
 have hO:=eV.1 hb
 refine h.runv (tE (hg0.le (aa l1 l4)) hO c0 c1) fun G5 F5 l5 h=>⟨_,rfl,fun hw=> ?_,fun hw=> ?_⟩
 ·have hw:inW g c=false:=by simpa using hw
  have e1:j9 g c=1:=by unfold j9;rw [if_neg (fun h=>h hb),if_pos hw]
  refine h.put0 (w':=zG) rfl rfl (by simp [ai]) fun F5 h=>⟨_,rfl,h.whole0,⟨zG,?_,?_⟩,aa l1 (aa l4 (aa l5 h.le))⟩
  ·rw [e1]
  ·rw [show jE g c=gr0 by unfold jE;rw [e1];rfl]
   exact GV.zero _
 have hw:inW g c=true:=by simpa using hw
 have e1:j9 g c=0:=by unfold j9;rw [if_neg (fun h=>h hb),if_neg (by rw [hw];decide)]
 have e2:jE g c=atG g c:=by unfold jE;rw [if_neg (fun h=>h e1)]
 rw [e1,e2]
 have l25:=aa l4 l5
 replace q2:=l25 _ _ q2
 replace l1:=aa l1 l25
 replace hs:=hs.le l1
 refine ⟨g.arr cs n t s p l f,rfl,aj (h.le _ _ q2),?_⟩
 refine h.new fun b7 F6 h=> ?_
 refine h.put0 (w':=g.arr cs n t s p l f) rfl rfl (by simp [ai,Sl.v]) fun F7 h=> ?_
 refine h.set0 (w':=g.arr Sl.nil n t s p l f) (by show 0<9;decide) rfl fun F8 h=> ?_
 refine h.run (P:=fun r G=>∃n,r=.agg #[Sl.v n,vi (dia (leaf true)).2]/\RL G n (dia (leaf true)).1) ((cE true).mono fun r F' ⟨w,h1,⟨s,h4,h5⟩,h3⟩=>⟨⟨s,by rw [h1,h4],RL.brs.2 h5⟩,h3⟩) fun r G6 F9 hr l6 h=> ?_
 obtain ⟨n',rfl,hn⟩:=hr
 refine ⟨_,rfl,?_⟩
 refine h.putR0 (w':=cw Sl.nil n' t s p l f (dia (leaf true)).2 g.start) rfl (by simp [ai,Sl.v]) (by show 1+2<=9;decide) rfl fun F10 h=> ?_
 replace hs:=hs.le l6
 replace q2:=l6 _ _ q2
 have T:=fun x hx=>(tz _ _ hO.toks x hx:∃d,wT g.conds.length d x)
 have P:=fun x hx=>(tD _ _ hO.prods x hx:cz g x/\∃d,qi g d x)
 have V:=fun x hx=>(tC _ _ hO.lvs x hx:∃d,C7 g d x)
 refine Td hs q2 hm.t (fun x hx=>⟨_,by obtain ⟨d,hd⟩:=T x hx;exact hd.2.2.2.2.1⟩) c0 c1 h fun G7 F11 t' l7 ht h=> ?_
 refine Tc (hs.le l7) (l7 _ _ q2) hm.p (fun x hx=>⟨_,by obtain ⟨_,d,hd⟩:=P x hx;exact hd.2.2.1⟩) c0 c1 h fun G8 F12 p' l8 hp h=> ?_
 have l78:=aa l7 l8
 refine Tb (hs.le l78) (l78 _ _ q2) hm.l (fun x hx=>⟨_,by obtain ⟨d,hd⟩:=V x hx;exact hd.2.2.1⟩) c0 c1 h fun G9 F13 l' l9 hl h=> ?_
 have l79:=aa l78 l9
 refine Ta (hs.le l79) (l79 _ _ q2) hm.f (fun x hx=>⟨_,(hO.fils x hx).1⟩) c0 c1 h fun G10 F14 f' l10 hf h=> ?_
 have l70:=aa l79 l10
 have l80:=aa l8 (aa l9 l10)
 have l90:=aa l9 l10
 unfold y8
 refine ⟨cw Sl.nil n' t' s p' l' f' (dia (leaf true)).2 g.start,rfl,h.whole0,?_⟩
 refine h.put1 (w':=cw Sl.nil n' t' s p' l' f' (dia (leaf true)).2 g.start) rfl rfl (gX _ _ _ _ _ _ _ _ _) fun F15 h=>⟨_,rfl,h.whole1,⟨_,rfl,?_⟩,aa l1 (aa l6 (aa l70 h.le))⟩
 exact ⟨Sl.nil,n',t',s,p',l',f',rfl,RL.nil _,(hn.le l70).le h.le,(ht.le l80).le h.le,(hs.s.le l70).le h.le,(hp.le l90).le h.le,(hl.le l10).le h.le,hf.le h.le⟩
theorem vN {p:Nat->Bool} {N k:Nat} (hk:k<N):∃r,(List.range N).filter p=(List.range k).filter p++(if p k=true then [k] else [])++r:=by
 obtain ⟨d,rfl⟩:∃d,N=(k+1)+d:=⟨N - (k+1),by omega⟩
 refine ⟨((List.range d).map fun x=>k+1+x).filter p,?_⟩
 rw [List.range_add,List.filter_append,List.range_succ,List.filter_append,List.filter_cons,List.filter_nil]
theorem fX {p:Nat->Bool} {k:Nat}:(List.range (k+1)).filter p=(List.range k).filter p++if p k=true then [k] else []:=by
 rw [List.range_succ,List.filter_append,List.filter_cons,List.filter_nil]
theorem U3 {n:Nat} (h:n<=3):IntKind.u64.wrap ((1:Int)*2 ^ (min n (IntKind.u64).bits))=((2 ^ n:Nat):Int)/\2 ^ n<=8:=by
 have:n=0\/n=1\/n=2\/n=3:=by omega
 rcases this with rfl|rfl|rfl|rfl<;>exact ⟨by decide,by decide⟩
theorem rQ {F:PH} {v:Array Value} {g:Gr} (hg:GV F v g) (hz:Sml g) (hc:g.conds.length<=3) (most:Int):
  ae prog 24 #[.agg v,vi most] F fun r F'=>(∃s:Sl,r=.tuple #[s.v,.bool (dD g most).2]/\RdS F' s 1 ((dD g most).1.map vC))/\F.le F':=by
 have hg0:=hg
 obtain ⟨c,n,t,s,p,l,f,rfl,hs⟩:=hg
 have ec:=hs.c.len (by decide)
 refine UN ?_
 unfold R6
 refine (St.start F).newG fun b2 G1 F1 l1 q2 _ h=> ?_
 refine h.new fun b8 F2 h=> ?_
 have h:=h.imp (A':=own (Sl.mk (some (Addr.mk b8 0 none)) 0 0) 54 1 []) 0 rfl fun H _ hH=>bK hH
 refine ⟨_,hg0.size,aj (h.le _ _ q2),?_⟩
 refine h.runv (jg (hg0.le l1) hz) fun G3 F3 l3 h=> ?_
 have l13:=aa l1 l3
 have bad:bT g≠0\/most<1->(∃s:Sl,Value.tuple #[(Sl.mk (some (Addr.mk b8 0 none)) 0 0).v,.bool false]=.tuple #[s.v,.bool (dD g most).2]/\RdS F3 s 1 ((dD g most).1.map vC))/\F.le F3:=fun hh=>by
  unfold dD
  rw [if_pos hh]
  exact ⟨⟨_,rfl,bA.rd (h.ownAt (i:=0) rfl).1⟩,aa l13 h.le⟩
 refine ⟨_,rfl,fun h0=>bad (.inl h0),fun h0=>⟨fun h1=>bad (.inr h1),fun h1=> ?_⟩⟩
 have q3:=l3 _ _ q2
 refine ⟨_,ld (h.le _ _ q3) rfl,fun h2=>by omega,fun h2=> ?_⟩
 have h0:bT g=0:=Classical.not_not.1 h0
 have hf:=(eV.1 h0).fam.2.2.1
 obtain ⟨e2,e8⟩:=U3 hc
 have ew:IntKind.u64.wrap (c.len:Int)=(c.len:Int):=eG (by omega) (by omega)
 have eR:dD g most=((mY g).take most.toNat,decide (((mY g).length:Int)<=most)):=by unfold dD;rw [if_neg (by omega)]
 rw [eR]
 have ep:∀k:Nat,dQ g.fam (k:Int)=(tre g.fam).ev (cfg (k:Nat)):=fun k=>by unfold dQ;rw [if_neg (fun h=>h hf.1)]
 let P:Nat->Bool:=fun c=>(tre g.fam).ev (cfg (c:Nat))
 have eC:mY g=(List.range (2 ^ g.conds.length)).filter P:=rfl
 generalize 2 ^ g.conds.length=M at*
 refine ⟨fun m out i F'=>∃(k:Nat) (G:PH),i=(k:Int)/\m=M - k/\k<=M/\((((List.range k).filter P).length:Nat):Int)<=most/\G3.le G/\St G F' [own out 54 1 (((List.range k).filter P).map vC)],M,
  ⟨0,G3,rfl,by omega,by omega,by simp;omega,le_refl' _,h⟩,?_⟩
 rintro m out i F4 ⟨k,G,rfl,rfl,hk,hm,lG,h⟩
 have lF:=aa l13 (aa lG h.le)
 have hrd:=bA.rd (h.ownAt (i:=0) rfl).1
 have hol:out.len=((List.range k).filter P).length:=by have:=hrd.len;rw [List.length_map,Nat.mul_one] at this;exact this.symm
 have hfl:((List.range k).filter P).length<=k:=by have:=List.length_filter_le P (List.range k);rwa [List.length_range] at this
 unfold GL
 refine ⟨_,ld (h.le _ _ (lG _ _ q3)) rfl,?_⟩
 dsimp only
 rw [ew,Int.toNat_natCast,ec,e2]
 refine ⟨by omega,fun hlt=> ?_,fun hge=> ?_⟩
 ·have hlt:k<M:=by omega
  have es:IntKind.u64.wrap ((k:Int)+1)=((k+1:Nat):Int):=by rw [eG (by omega) (by omega)];rfl
  refine ⟨#[n.v,vi g.fam.2],rfl,dP (h.le _ _ (lG _ _ q3)) rfl,?_⟩
  refine h.runv (oS (DV.mk (hs.n.le (aa l13 lG))) hf (by omega) (by omega)) fun G5 F5 l5 h=> ?_
  rw [ep]
  refine ⟨_,rfl,fun hn=> ?_,fun hy=> ?_⟩
  ·have hn:P k=false:=by simpa using hn
   unfold u7
   rw [es]
   refine ⟨M - (k+1),by omega,k+1,G5,rfl,rfl,by omega,?_,aa lG l5,?_⟩
   ·rw [fX,hn];simpa using hm
   ·rw [fX,hn];simpa using h
  ·have hy:P k=true:=by simpa using hy
   refine ⟨fun he=> ?_,fun he=> ?_⟩
   ·obtain ⟨r,er⟩:=vN (p:=P) hlt
    rw [hy,if_pos rfl] at er
    rw [eC,er]
    refine ⟨⟨out,?_,?_⟩,aa l13 (aa lG (aa l5 h.le))⟩
    ·rw [decide_eq_false]
     simp only [List.length_append,List.length_singleton]
     omega
    ·rw [List.append_assoc,List.take_append_of_le_length (by omega),List.take_of_length_le (by omega)]
     exact bA.rd (h.ownAt (i:=0) rfl).1
   ·refine h.push0 Ph rfl (by simp [ai]) (by omega) fun s' G' F' l' h hl'=> ?_
    unfold u7
    rw [es]
    refine ⟨M - (k+1),by omega,k+1,G',rfl,rfl,by omega,?_,aa lG (aa l5 l'),?_⟩
    ·rw [fX,hy,if_pos rfl,List.length_append,List.length_singleton];omega
    ·rw [fX,hy,if_pos rfl,List.map_append];exact h
 ·have e:k=M:=by omega
  rw [e] at hm hrd
  unfold GK
  rw [eC]
  refine ⟨⟨out,?_,?_⟩,lF⟩
  ·rw [decide_eq_true hm]
  ·rw [List.take_of_length_le (by omega)]
   exact hrd
def wB (s:ByteArray) (i:Nat):Int:=if hx:i<s.size then IntKind.i64.wrap ((s[i]'hx).toNat:Int) else 0
def fc (s:ByteArray):List Int:=(s.size:Int)::(List.range s.size).map (wB s)
def rA (l:List Int):List Int:=(l.length:Int)::l
def wBr (b:Br):List Int:=[b.v,b.l,b.h]
def rR (d:Dia):List Int:=[(d.1.length:Int)]++d.1.flatMap wBr++[d.2]
def wNd (n:Nd):List Int:=[n.k,n.lo,n.hi,n.a,n.b]
def rS (t:Tk):List Int:=fc t.name++[t.cls]++fc t.lit++[(t.pat.length:Int)]++t.pat.flatMap wNd++fc t.smp++rR t.cond
def wF (b:Bool):Int:=if b=true then 1 else 0
def wSy (s:Sy):List Int:=[wF s.t,s.i]
def wCn (c:Cn):List Int:=[c.k,c.a,c.b]
def wPr (p:Pr):List Int:=fc p.name++[p.left,(p.right.length:Int)]++p.right.flatMap wSy++rR p.cond++[wF p.brk,IntKind.i64.wrap (p.rank+1),(p.lay.length:Int)]++p.lay.flatMap wCn++[wF p.sco.o,p.sco.d,p.sco.k,p.sco.u,p.sco.a]
def wLv (l:Lv):List Int:=rA l.ps++[l.assoc]++rR l.cond
def wFi (f:Fi):List Int:=[f.k,f.par,f.pos,f.ch,f.left,f.tok]++rA f.toks++rR f.cond
def wGr (g:Gr):List Int:=[(g.conds.length:Int)]++g.conds.flatMap fc++rR g.fam++[(g.toks.length:Int)]++g.toks.flatMap rS++[(g.nons.length:Int)]++g.nons.flatMap fc++[(g.prods.length:Int)]++g.prods.flatMap wPr++[g.start,(g.lvs.length:Int)]++g.lvs.flatMap wLv++[(g.fils.length:Int)]++g.fils.flatMap wFi
abbrev Ou (G F:PH) (s:Sl) (l:List Int):Prop:=St G F [own s 3 1 (l.map vi)]
abbrev PR (G:PH) (l:List Int):VR:=fun r F'=>∃s' G',r=Sl.v s'/\G.le G'/\Ou G' F' s' l
section
variable {F G:PH} {s:Sl} {l:List Int}
theorem Ou.len (h:Ou G F s l):s.len=l.length:=by
 have:=(bA.rd (St.ownAt h (i:=0) rfl).1).len
 rw [List.length_map,Nat.mul_one] at this
 exact this.symm
theorem bH (h:Ou G F s l) (xs:List Int) (hl:(l++xs).length<=400000000000) {ty:TypeId} {K:Sl->PH->Prop} (k:∀s' G' F',G.le G'->Ou G' F' s' (l++xs)->K s' F'):
  ∀b,F b=none->atF (F.set b (.cells (xs.map vi).toArray 3)) fun F=>aE prog (Builtin.append_ #[70,70] ty #[s.v,Sl.v (Sl.mk (some (Addr.mk b 0 none)) xs.length xs.length)]) F fun v F=>∃s':Sl,v=Sl.v s'/\K s' F:=by
 refine St.newG h fun b G' F' l1 q _ h=> ?_
 rw [List.length_append] at hl
 have hx:RdS F' (Sl.mk (some (Addr.mk b 0 none)) xs.length xs.length) 1 (xs.map vi):=RdS.new (h.le _ _ q) (by rw [List.take_of_length_le (by simp)]) (by simp) (Nat.le_refl _)
 refine St.app0 Av h hx (fun v hv=>by obtain ⟨x,_,rfl⟩:=List.mem_map.1 hv;simp [ai]) (by have e:=Ou.len h;show s.len+xs.length<=_;omega) fun s' F'' h hl'=> ?_
 rw [<- List.map_append] at h
 exact k s' G' F'' l1 h
theorem NX (h:Ou G F s l) {x:Sl} {xs:List Int} (hx:RdS G x 1 (xs.map vi)) (hl:(l++xs).length<=400000000000) {ty:TypeId} {K:Sl->PH->Prop} (k:∀s' F',Ou G F' s' (l++xs)->K s' F'):
  aE prog (Builtin.append_ #[70,70] ty #[s.v,x.v]) F fun v F=>∃s':Sl,v=Sl.v s'/\K s' F:=by
 rw [List.length_append] at hl
 have ex:=hx.len
 rw [List.length_map,Nat.mul_one] at ex
 refine St.app0 Av h (hx.le h.le) (fun v hv=>by obtain ⟨x,_,rfl⟩:=List.mem_map.1 hv;simp [ai]) (by have e:=Ou.len h;omega) fun s' F'' h hl'=> ?_
 rw [<- List.map_append] at h
 exact k s' F'' h
theorem Hd {α:Type} {w:α->List Int} (hw:∀x,1<=(w x).length) (xs:List α):xs.length<=(xs.flatMap w).length:=by
 induction xs with
 |nil=>simp
 |cons x xs ih=>rw [List.flatMap_cons,List.length_append,List.length_cons];have:=hw x;omega
theorem je {α:Type} (xs:List α) (w:α->List Int) (hw:∀x,1<=(w x).length) (B:(Sl->Int->PH->Prop)->Sl->Int->PH->Prop) (h:Ou G F s l) (hl:(l++xs.flatMap w).length<=400000000000)
  (step:∀k G' F' s' l' N,k<=xs.length->G.le G'->Ou G' F' s' l'->
   (∀x,xs[k]? =some x->(l'++w x).length<=400000000000/\xs.length<=400000000000/\∀G'' F'' s'',G'.le G''->Ou G'' F'' s'' (l'++w x)->N s'' ((k+1:Nat):Int) F'')->(k=xs.length->l'=l++xs.flatMap w)->B N s' (k:Int) F'):
  ∃(I:Nat->Sl->Int->PH->Prop) (m:Nat),I m s (0:Int) F/\∀m out i F,I m out i F->B (fun y z F=>∃m',m'<m/\I m' y z F) out i F:=by
 refine ⟨fun m out i F'=>∃(k:Nat) (G':PH),i=(k:Int)/\m=xs.length - k/\k<=xs.length/\G.le G'/\Ou G' F' out (l++(xs.take k).flatMap w),xs.length,⟨0,G,rfl,rfl,by omega,le_refl' _,by simpa using h⟩,?_⟩
 rintro m out i F' ⟨k,G',rfl,rfl,hk,lG,h⟩
 refine step k G' F' out _ _ hk lG h (fun x hx=> ?_) (fun e=>by rw [e,List.take_length])
 have e:l++(xs.take (k+1)).flatMap w=l++(xs.take k).flatMap w++w x:=by rw [aI hx,List.flatMap_append,List.flatMap_singleton,List.append_assoc]
 have hk':=(List.getElem?_eq_some_iff.1 hx).1
 refine ⟨?_,by have:=Hd hw xs;rw [List.length_append] at hl;omega,fun G'' F'' s'' l2 h=>⟨xs.length - (k+1),by omega,k+1,G'',rfl,rfl,by omega,aa lG l2,by rw [e];exact h⟩⟩
 rw [<- e]
 refine Nat.le_trans ?_ hl
 have:xs.flatMap w=(xs.take (k+1)).flatMap w++(xs.drop (k+1)).flatMap w:=by rw [<- List.flatMap_append,List.take_append_drop]
 rw [this]
 simp only [List.length_append]
 omega
theorem fH {x:ByteArray} (h:Ou G F s l) (hl:(l++fc x).length<=400000000000):ae prog 137 #[s.v,.string x] F (PR G (l++fc x)):=by
 have ex:((List.range x.size).flatMap fun i=>[wB x i])=(List.range x.size).map (wB x):=(List.map_eq_flatMap ..).symm
 have e:fc x=[(x.size:Int)]++(List.range x.size).flatMap fun i=>[wB x i]:=by rw [ex];rfl
 rw [e,<- List.append_assoc] at hl ⊢
 refine SN ?_
 unfold LZ
 refine bH h [(x.size:Int)] (by simp only [List.length_append] at hl ⊢;omega) fun s1 G1 F1 l1 h=> ?_
 refine je (List.range x.size) (fun i=>[wB x i]) (fun _=>Nat.le_refl _) (vz · x _) h hl fun k G2 F2 s2 l' N hk l2 h next fin=> ?_
 rw [List.length_range] at hk fin
 unfold vz
 refine ⟨fun hlt=>⟨by omega,hlt,?_⟩,fun hge=> ?_⟩
 ·have hlt:k<x.size:=by omega
  obtain ⟨n1,n0,n2⟩:=next k (List.getElem?_range hlt)
  have e:IntKind.i64.wrap ((x[k]'hlt).toNat:Int)=wB x k:=by unfold wB;rw [dif_pos hlt]
  refine ⟨hlt,_,rfl,?_⟩
  refine bH h [IntKind.i64.wrap ((x[k]'hlt).toNat:Int)] (by rw [e];exact n1) fun s3 G3 F3 l3 h=> ?_
  rw [aB hlt (by rw [List.length_range] at n0;omega)]
  rw [e] at h
  exact n2 _ _ _ l3 h
 ·unfold BV
  rw [fin (by omega)] at h
  exact ⟨s2,G2,rfl,aa l1 l2,h⟩
theorem tF {x:Sl} {ns:List Int} (hx:RL G x ns) (h:Ou G F s l) (hl:(l++rA ns).length<=400000000000):ae prog 141 #[s.v,x.v] F (PR G (l++rA ns)):=by
 have e:rA ns=[(ns.length:Int)]++ns:=rfl
 have ex:=hx.len (by decide)
 rw [e,<- List.append_assoc] at hl ⊢
 refine SR ?_
 unfold L5
 rw [ex]
 refine bH h [(ns.length:Int)] (by simp only [List.length_append] at hl ⊢;omega) fun s1 G1 F1 l1 h=> ?_
 refine NX h (RL.ints.1 (hx.le l1)) hl fun s2 F2 h=>⟨s2,G1,rfl,l1,h⟩
theorem jf {v:Array Value} {d:Dia} (hd:DV G v d) (h:Ou G F s l) (hl:(l++rR d).length<=400000000000):ae prog 138 #[s.v,.agg v] F (PR G (l++rR d)):=by
 obtain ⟨x,rfl,hr⟩:=hd
 have hr:RL G x d.1:=RL.brs.2 hr
 have ex:=hr.len (by decide)
 unfold rR at hl ⊢
 simp only [<- List.append_assoc] at hl ⊢
 refine SO ?_
 unfold L0
 refine St.newG h fun b3 G1 F1 l1 q3 _ h=>⟨_,ld (h.le _ _ q3) rfl,?_⟩
 dsimp only
 rw [ex]
 refine bH h [(d.1.length:Int)] (by simp only [List.length_append] at hl ⊢;omega) fun s2 G2 F2 l2 h=> ?_
 have l12:=aa l1 l2
 refine je d.1 wBr (fun _=>by show 1<=3;decide) (vA · b3 _) h (by simp only [List.length_append] at hl ⊢;omega) fun k G3 F3 s3 l' N hk l3 h next fin=> ?_
 have l13:=aa l12 l3
 have q:=fun {F':PH} (hl:G3.le F')=>ld (hl _ _ (aa l2 l3 _ _ q3)) (show (#[x.v,vi d.2]:Array Value)[0]? =some x.v from rfl)
 unfold vA
 refine ⟨_,q h.le,fun hlt=> ?_,fun hge=> ?_⟩
 ·have hlt:k<d.1.length:=by omega
  have hr3:=hr.le l13
  refine ⟨_,q h.le,h.ix hr3 (by decide) (by omega) (by omega) fun a1 c1 y hy hrow hc=> ?_⟩
  rw [Int.toNat_natCast] at hy
  rw [show c1=aQ y from hc] at hrow
  refine ⟨y.v,aF hrow rfl,_,q h.le,h.ix hr3 (by decide) (by omega) (by omega) fun a2 c2 y2 hy2 hrow2 hc2=> ?_⟩
  rw [Int.toNat_natCast,hy] at hy2
  obtain rfl:=Option.some.inj hy2
  rw [show c2=aQ y from hc2] at hrow2
  refine ⟨y.l,aD hrow2 rfl,_,q h.le,h.ix hr3 (by decide) (by omega) (by omega) fun a3 c3 y3 hy3 hrow3 hc3=> ?_⟩
  rw [Int.toNat_natCast,hy] at hy3
  obtain rfl:=Option.some.inj hy3
  rw [show c3=aQ y from hc3] at hrow3
  obtain ⟨n1,n0,n2⟩:=next y hy
  refine ⟨y.h,aD hrow3 rfl,?_⟩
  refine bH h [y.v,y.l,y.h] n1 fun s4 G4 F4 l4 h=> ?_
  have q4:=q (aa l4 h.le)
  refine ⟨q4,q4,q4,?_⟩
  rw [aB hlt (by omega)]
  exact n2 _ _ _ l4 h
 ·unfold BW
  rw [fin (by omega)] at h
  refine ⟨_,ld (h.le _ _ (aa l2 l3 _ _ q3)) rfl,?_⟩
  refine bH h [d.2] hl fun s4 G4 F4 l4 h=>⟨s4,G4,rfl,aa l13 l4,h⟩
end
end Go.Proofs.YtenpmjhnhepfdaaGreatDoor
