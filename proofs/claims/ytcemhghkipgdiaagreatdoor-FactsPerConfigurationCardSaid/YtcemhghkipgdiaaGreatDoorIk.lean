/-
  withLine: the loop and the whole.
-/
import Derived.Test.YtcemhghkipgdiaaGreatDoorIf
namespace Go.Proofs.YtcemhghkipgdiaaGreatDoor
open Go.IntKind (i64 u8 u64)
open Go Go.Proofs.Tryz Tr
set_option maxRecDepth 10000
noncomputable def iY (b n:Nat):Tr:=if n=0\/b % 6<3 then leaf true else if b % 6=3 then tv (b / 6 % n) else if b % 6=4 then ap2 kQ (tv (b / 6 % n)) (leaf true) else i9 [(b:Int)] n 0 0
theorem wT {n:Nat} (h:n<256):u8.wrap (n:Int)=n:=by simp only [IntKind.wrap,IntKind.bits,IntKind.signed,WI,Vu,if_false];omega
theorem uH {F G F1:PH} {b:Nat} {As:List (Ψ)} {w c:Γ} {d:Dia} {P:Prop} (h:St G F1 (pt b (.cells c 31)::As)) (hc:c.size=2) (hw:DV G w d) (hl:F.le G) (hp:P):
  au F1 (Addr.mk b 0 none) 2 w λF2=>∃v:Γ,v.size=2/\F2.row (Addr.mk b 0 none) v/\((wZ d (Value.agg v) F2/\P)/\F.le F2):=by
 obtain ⟨n,rfl,hn⟩:=hw.out;refine h.put0 (w':= #[n.v,vi d.2]) rfl hc (by simp [ak,Sl.v]) λF2 h=> ?_;exact ⟨_,rfl,h.whole0,⟨⟨_,rfl,DV.mk (hn.le h.le)⟩,hp⟩,aa hl h.le⟩
theorem qn (b n:Nat) (hb:b<256) (hn:n<=6) (F:PH):ai prog 33 #[.int .u8 (b:Int),vi n] F λr F'=>(wZ (dia (iY b n)) r F'/\Sx n (iY b n))/\F.le F':=by
 refine T5 ?_;unfold Q2;refine (St.start F).new λb4 F1 h=> ?_;have em:Int.tmod (b:Int) 6=((b % 6:Nat):Int):=by rw [VH (by omega)];omega
 have j1:∀q:Bool,(n=0->q=true)->(n≠0->q=decide (b % 6<3))->vM (b:Int) (n:Int) b4 q (λr F'=>(wZ (dia (iY b n)) r F'/\Sx n (iY b n))/\F.le F') F1:=λq h0 h1=>by
  unfold vM;refine ⟨λhq=> ?_,λhq=> ?_⟩
  ·have e:iY b n=leaf true:=by
    unfold iY;rw [if_pos];by_cases hn0:n=0
    ·exact .inl hn0
    ·have:=h1 hn0;rw [hq] at this;exact .inr (of_decide_eq_true this.symm)
   rw [e];refine h.run (fW _) λ_ G F2 hr l h=> ?_;obtain ⟨w,rfl,hw⟩:=hr;exact ⟨_,rfl,uH h rfl hw l (Sx.leaf n true)⟩
  ·have hn0:n≠0:=λhn0=>by rw [h0 hn0] at hq;cases hq
   have hb3:¬b % 6<3:=by have:=h1 hn0;rw [hq] at this;exact of_decide_eq_false this.symm
   have ev:Int.tmod (i64.wrap (u8.wrap (Int.tdiv (b:Int) 6))) (n:Int)=((b / 6 % n:Nat):Int):=by
    have e1:Int.tdiv (b:Int) 6=((b / 6:Nat):Int):=by rw [V8 (by omega)];omega
    have e2:u8.wrap ((b / 6:Nat):Int)=((b / 6:Nat):Int):=wT (by omega);rw [e1,e2,aS (by omega) (by omega),VH (by omega)];exact (Int.natCast_emod _ _).symm
   have hvn:b / 6 % n<n:=VU _ (by omega);refine ⟨by omega,?_⟩;rw [ev,em];generalize hx:b / 6 % n=x at*;refine h.run (aQ x (by omega) _) λ_ G F2 hr l h=> ?_;obtain ⟨w,rfl,hw⟩:=hr;obtain ⟨m,rfl,hm⟩:=hw.out;refine ⟨_,rfl,?_⟩;refine h.new λb5 F3 h=> ?_;refine h.put0 (w':= #[m.v,vi (dia (tv x)).2]) rfl rfl (by simp [ak,Sl.v]) λF4 h=> ?_;have kx:Sx n (tv x):=Sx.tv hvn hn;refine ⟨λh3=> ?_,λh3=>⟨λh4=> ?_,λh4=> ?_⟩⟩
   ·have e:iY b n=tv x:=by unfold iY;rw [if_neg (by omega),if_pos (by omega),hx]
    rw [e];refine ⟨_,rfl,h.whole0,?_⟩;have h:=h.swap;exact uH h rfl (DV.mk hm) l kx
   ·have e:iY b n=ap2 kQ (tv x) (leaf true):=by unfold iY;rw [if_neg (by omega),if_neg (by omega),if_pos (by omega),hx]
    rw [e];refine ⟨_,rfl,h.whole0,?_⟩;refine h.run (bC (x:=x) (by omega) (DV.mk hm)) λ_ G2 F5 hr l2 h=> ?_;obtain ⟨w,rfl,hw⟩:=hr;refine ⟨_,rfl,?_⟩;have h:=h.swap;exact uH h rfl hw (aa l l2) (kx.ap2 (Sx.leaf n true))
   ·have e:iY b n=i9 [(b:Int)] n 0 0:=by unfold iY;rw [if_neg (by omega),if_neg (by omega),if_neg (by omega)]
    rw [e];refine h.newG λb30 G2 F5 l2 q _ h=> ?_;have hr:RdS G2 (Sl.mk (some (Addr.mk b30 0 none)) 1 1) 1 ([(b:Int)].map (Value.int .u8)):=RdS.new q rfl rfl (UW _);refine h.run (P:=λr G=>(∃u,r=.agg u/\DV G u (dia (i9 [(b:Int)] n 0 0)))/\Sx n (i9 [(b:Int)] n 0 0)) ((oD hn hr).mono λr F' ⟨u,t,h1,⟨h2,h3⟩,h4,h5⟩=>⟨⟨⟨u,h1,h3▸h4⟩,h3▸h2⟩,h5⟩) λ_ G3 F6 hr l3 h=> ?_;obtain ⟨⟨w,rfl,hw⟩,hs⟩:=hr;refine ⟨_,rfl,?_⟩;have h:=h.swap;exact uH h rfl hw (aa l (aa l2 l3)) hs
 refine ⟨λh0=>j1 true (λ_=>rfl) (λhn=>absurd (by omega) hn),λh0=>j1 _ (λhn=>absurd (by omega) h0) (λ_=> ?_)⟩;rw [em];exact decide_eq_decide.2 (by omega)
open Classical in
noncomputable def uI (p:Pr):Bool:=decide (yF p)
theorem uJ {F:PH} {w:Γ} {p:Pr} (hw:Mem.rep F p w) (_:p.right.length<=1000):ai prog 171 #[.agg w] F λr F'=>r=.bool (uI p)/\F.le F':=by
 obtain ⟨s,n,l,rfl,h1,h2,h3⟩:=hw;have e1:=h1.len (by decide);have e3:=h3.len (by decide);have no:∀{F1:PH},F.le F1->¬yF p->(Value.bool false=.bool (uI p)/\F.le F1):=λhl hn=>⟨by unfold uI;simp [hn],hl⟩;have sy:∀{F1:PH},F.le F1->∀i:Nat,i<p.right.length->∃(a:Addr) (x:Sy),s.base=some a/\p.right[i]? =some x/\F1.cell (Addr.add a (Int.toNat (i:Int)*2))=some (.bool x.t)/\F1.cell (Addr.add (Addr.add a (Int.toNat (i:Int)*2)) 1)=some (vi x.i):=λhl i hi=>by obtain ⟨a,c,ha,hrow,hc⟩:=(h1.le hl).get (by decide) (N5 hi);cases hc;rw [N4];exact ⟨a,_,ha,N5 hi,be hrow rfl,dc hrow rfl⟩
 refine Rp ?_;unfold Lz;refine (St.start F).newG λb1 G1 F1 l1 q _ h=> ?_;replace q:=h.le _ _ q;have lF:=aa l1 h.le;refine ⟨_,ld q rfl,λhc=>no lF λhp=>hc (by rw [e1,hp.1];rfl),λhc=>⟨_,ld q rfl,λhk=>no lF λhp=>hk hp.2.1,λhk=>⟨_,ld q rfl,λhy=>no lF λhp=> ?_,λhy=>⟨p.sco.arr,rfl,kD q rfl,decide (p.sco=qz),λF=>Jx p.sco qz F,λhs=>no lF λhp=> ?_,λhs=> ?_⟩⟩⟩⟩
 ·rw [e3,hp.2.2.1] at hy;simp at hy
 ·rw [decide_eq_true hp.2.2.2.1] at hs;cases hs
 have hc:p.right.length=3:=by omega
 have hs:p.sco=qz:=by simpa using hs
 have hlay:p.lay=[]:=Vc (by omega);have hrk:p.rank=0:=Classical.not_not.1 hk;obtain ⟨a,x0,ha,hx0,c0,_⟩:=sy lF 0 (by omega);obtain ⟨_,x1,ha1,hx1,c1,d1⟩:=sy lF 1 (by omega);obtain ⟨_,x2,ha2,hx2,c2,_⟩:=sy lF 2 (by omega);rw [ha] at ha1 ha2;cases ha1;cases ha2;refine ⟨_,ld q rfl,a,ha,by decide,by omega,x0.t,c0,λt0=>⟨_,ld q rfl,a,ha,by decide,by omega,x2.t,c2,λt2=>⟨_,ld q rfl,a,ha,by decide,by omega,x1.t,c1,λt1=>⟨_,ld q rfl,a,ha,by decide,by omega,x1.i,d1,p.left,ld q rfl,?_,lF⟩,λt1=>no lF λhp=> ?_⟩,λt2=>no lF λhp=> ?_⟩,λt0=>no lF λhp=> ?_⟩
 ·have t1:x1.t=false:=by simpa using t1
  unfold uI;congr 1;refine decide_eq_decide.2 ⟨λh=>⟨hc,hrk,hlay,hs,⟨x0,hx0,t0⟩,?_,⟨x2,hx2,t2⟩⟩,λhp=> ?_⟩
  ·rw [hx1,<- h,<- t1]
  ·have:=hp.2.2.2.2.2.1;rw [hx1] at this;cases this;rfl
 ·have:=hp.2.2.2.2.2.1;rw [hx1] at this;cases this;cases t1
 ·obtain ⟨y,hy,ht⟩:=hp.2.2.2.2.2.2;rw [hx2] at hy;cases hy;rw [ht] at t2;cases t2
 ·obtain ⟨y,hy,ht⟩:=hp.2.2.2.2.1;rw [hx0] at hy;cases hy;rw [ht] at t0;cases t0
noncomputable def cz (p:Pr) (m:Nat):Pr:=
 if p.right.length=0 then p else
 if m % 8=1 then {p with rank:=1} else
 if m % 8=2 then {p with rank:= -1} else
 if m % 8=3 then {p with brk:=uI p} else
 if m % 8=4 then {p with lay:=[⟨((1+m / 8 % 4:Nat):Int),((m / 8 / 4 % p.right.length:Nat):Int),if m / 8 % 4=0 then 0 else ((p.right.length - 1:Nat):Int)⟩]} else
 if m % 8=5 then {p with sco:={p.sco with o:=true}} else
 if m % 8=6 then (if (p.right.getD (m / 8 % p.right.length) ⟨false,0⟩).t=true then {p with sco:=⟨false,((m / 8 % p.right.length+1:Nat):Int),((1+m / 8 % 2:Nat):Int),0,0⟩} else p) else
 if m % 8=7 then (if (p.right.getD (m / 8 % p.right.length) ⟨false,0⟩).t=true then {p with sco:=⟨false,0,0,((m / 8 % p.right.length+1:Nat):Int),((1+m / 8 % 7:Nat):Int)⟩} else p) else p
abbrev z13:Γ:= #[.string ⟨#[]⟩,.int .i64 0,.slice none 0 0,.slice none 0 0,.int .i64 0,.bool false,.int .i64 0,.slice none 0 0,.bool false,.int .i64 0,.int .i64 0,.int .i64 0,.int .i64 0]
theorem wU {F:PH} {w:Γ} {p:Pr} {m:Nat} (hw:Mem.rep F p w) (hm:m<256) (hb:p.right.length<=1000):ai prog 136 #[.agg w,.int .u8 (m:Int)] F λr F'=>(∃w',r=.agg w'/\Mem.rep F' (cz p m) w')/\F.le F':=by
 obtain ⟨s,n,l,rfl,h1,h2,h3⟩:=hw;have e1:s.len=p.right.length:=h1.len (by decide);refine Ri ?_;unfold Lj;refine (St.start F).new λb2 F1 h=> ?_;refine h.new λb4 F2 h=> ?_;have e8:Int.tmod (m:Int) 8=((m % 8:Nat):Int):=by rw [VH (by omega)];omega
 have ek:i64.wrap (u8.wrap (Int.tdiv (m:Int) 8))=((m / 8:Nat):Int):=by rw [V8 (by omega),show (m:Int) / 8=((m / 8:Nat):Int) by omega,wT (by omega),aS (by omega) (by omega)]
 have tm:∀a b:Nat,Int.tmod (a:Int) (b:Int)=((a % b:Nat):Int):=λa b=>by rw [VH (by omega)];exact (Int.natCast_emod _ _).symm
 have fin:∀{G F1:PH} {p':Pr} {l':Sl},F.le G->p'=cz p m->p'.right=p.right->p'.cond=p.cond->RL G l' p'.lay->St G F1 [pt b4 (.cells z13 55),pt b2 (.cells (p'.arr s n l') 55)]->dK b2 b4 (λr F'=>(∃w',r=.agg w'/\Mem.rep F' (cz p m) w')/\F.le F') F1:=λ{G F1 p' l'} hl hp hr hc hl' h=>by unfold dK;refine ⟨_,rfl,h.whole1,?_⟩;refine h.put0 (w':=p'.arr s n l') rfl rfl (by simp [ak,Sl.v]) λF3 h=> ?_;have lF:=aa hl h.le;exact ⟨_,rfl,h.whole0,⟨_,rfl,hp▸⟨s,n,l',rfl,by rw [hr];exact h1.le lF,by rw [hc];exact h2.le lF,hl'.le h.le⟩⟩,lF⟩
 refine ⟨_,h.ld1 rfl,λh0=> ?_,λh0=> ?_⟩
 ·have e:cz p m=p:=by unfold cz;rw [if_pos (by omega)]
  refine ⟨_,rfl,h.whole1,?_⟩;refine h.put0 (w':=p.arr s n l) rfl rfl (by simp [ak,Sl.v]) λF3 h=> ?_;exact ⟨_,rfl,h.whole0,⟨_,rfl,by rw [e];exact ⟨s,n,l,rfl,h1.le h.le,h2.le h.le,h3.le h.le⟩⟩,h.le⟩
 have hn0:p.right.length≠0:=λh=>h0 (by rw [e1,h];rfl);have hn1:s.len≠0:=by omega
 rw [e8,ek];refine ⟨λc1=> ?_,λc1=>⟨λc2=> ?_,λc2=>⟨λc3=> ?_,λc3=>⟨λc4=> ?_,λc4=>⟨λc5=> ?_,λc5=>⟨λc6=> ?_,λc6=>⟨λc7=> ?_,λc7=> ?_⟩⟩⟩⟩⟩⟩⟩
 ·refine h.set1 (w':=Pr.arr {p with rank:=1} s n l) (by show 6<13;decide) rfl λF3 h=> ?_;exact fin (p':={p with rank:=1}) (aq _) (by unfold cz;rw [if_neg hn0,if_pos (by omega)]) rfl rfl h3 h
 ·refine h.set1 (w':=Pr.arr {p with rank:= -1} s n l) (by show 6<13;decide) rfl λF3 h=> ?_;exact fin (p':={p with rank:= -1}) (aq _) (by unfold cz;rw [if_neg hn0,if_neg (by omega),if_pos (by omega)]) rfl rfl h3 h
 ·refine h.set1 (w':=Pr.arr {p with brk:=true} s n l) (by show 5<13;decide) rfl λF3 h=> ?_;refine ⟨_,rfl,h.whole1,?_⟩;refine h.runv (uJ (p:={p with brk:=true}) ⟨s,n,l,rfl,h1,h2,h3⟩ hb) λG F4 l4 h=> ?_;refine ⟨_,rfl,?_⟩;refine h.set1 (w':=Pr.arr {p with brk:=uI p} s n l) (by show 5<13;decide) rfl λF5 h=> ?_;exact fin (p':={p with brk:=uI p}) l4 (by unfold cz;rw [if_neg hn0,if_neg (by omega),if_neg (by omega),if_pos (by omega)]) rfl rfl (h3.le l4) h
 ·have k4:Int.tmod ((m / 8:Nat):Int) 4=((m / 8 % 4:Nat):Int):=tm _ 4;have d4:i64.wrap (Int.tdiv ((m / 8:Nat):Int) 4)=((m / 8 / 4:Nat):Int):=by rw [V8 (by omega),aS (by omega) (by omega)];omega
  have x1:i64.wrap ((1:Int)+((m / 8 % 4:Nat):Int))=((1+m / 8 % 4:Nat):Int):=by rw [aS (by omega) (by omega)];omega
  have x3:i64.wrap ((s.len:Int) - 1)=((p.right.length - 1:Nat):Int):=by rw [aS (by omega) (by omega)];omega
  rw [k4,d4,tm,x1,x3,e1];refine ⟨by omega,rfl,?_⟩;refine h.new λb42 F3 h=> ?_;refine h.set2 (w':=Pr.arr p s n (Sl.mk (some (Addr.mk b42 0 none)) 1 1)) (by show 7<13;decide) rfl λF4 h=> ?_;refine ⟨λhk=> ?_,λhk=> ?_⟩
  ·refine ⟨_,h.ld2 rfl,_,rfl,by decide,(by show (0:Int)<1;decide),?_⟩;simp only [aB];refine h.set0 (i:=2) (w':=Cn.arr ⟨((1+m / 8 % 4:Nat):Int),((m / 8 / 4 % p.right.length:Nat):Int),0⟩) (by show 2<3;decide) rfl λF5 h=> ?_;obtain ⟨G,l5,⟨H,hA,hH⟩,h⟩:=h.pin;exact fin (p':={p with lay:=[⟨((1+m / 8 % 4:Nat):Int),((m / 8 / 4 % p.right.length:Nat):Int),0⟩]}) l5 (by unfold cz;rw [if_neg hn0,if_neg (by omega),if_neg (by omega),if_neg (by omega),if_pos (by omega),if_pos (by omega)]) rfl rfl (yw (hH _ _ hA)) h
  ·obtain ⟨G,l5,⟨H,hA,hH⟩,h⟩:=h.pin;exact fin (p':={p with lay:=[⟨((1+m / 8 % 4:Nat):Int),((m / 8 / 4 % p.right.length:Nat):Int),((p.right.length - 1:Nat):Int)⟩]}) l5 (by unfold cz;rw [if_neg hn0,if_neg (by omega),if_neg (by omega),if_neg (by omega),if_pos (by omega),if_neg (by omega)]) rfl rfl (yw (x:=⟨((1+m / 8 % 4:Nat):Int),((m / 8 / 4 % p.right.length:Nat):Int),((p.right.length - 1:Nat):Int)⟩) (hH _ _ hA)) h
 ·refine h.set1 (w':=Pr.arr {p with sco:={p.sco with o:=true}} s n l) (by show 8<13;decide) rfl λF3 h=> ?_;exact fin (p':={p with sco:={p.sco with o:=true}}) (aq _) (by unfold cz;rw [if_neg hn0,if_neg (by omega),if_neg (by omega),if_neg (by omega),if_neg (by omega),if_pos (by omega)]) rfl rfl h3 h
 ·refine ⟨_,h.ld1 rfl,by omega,?_⟩;have hlt:m / 8 % p.right.length<p.right.length:=VU _ (by omega);have hx:=N5 hlt;obtain ⟨a,c,ha,hrow,hc⟩:=(h1.le h.le).get (by decide) hx;cases hc;rw [tm,e1];have kw:((p.right.length:Nat):Int)≠0:=by omega
  have gd:p.right.getD (m / 8 % p.right.length) ⟨false,0⟩=p.right[m / 8 % p.right.length]:=by rw [Vr,hx];rfl
  have k2:Int.tmod ((m / 8:Nat):Int) 2=((m / 8 % 2:Nat):Int):=tm _ 2;have x1:i64.wrap ((1:Int)+((m / 8 % 2:Nat):Int))=((1+m / 8 % 2:Nat):Int):=by rw [aS (by omega) (by omega)];omega
  have x3:i64.wrap (((m / 8 % p.right.length:Nat):Int)+1)=((m / 8 % p.right.length+1:Nat):Int):=by rw [aS (by omega) (by omega)];omega
  rw [k2,x1,x3];refine ⟨a,ha,by omega,by omega,_,by rw [N4];exact be hrow rfl,λht=>⟨kw,?_⟩,λht=> ?_⟩
  ·refine h.putR1 (w':=Pr.arr {p with sco:=⟨false,((m / 8 % p.right.length+1:Nat):Int),((1+m / 8 % 2:Nat):Int),0,0⟩} s n l) rfl (by simp [ak]) (by show 8+5<=13;decide) rfl λF3 h=> ?_;exact fin (p':={p with sco:=⟨false,((m / 8 % p.right.length+1:Nat):Int),((1+m / 8 % 2:Nat):Int),0,0⟩}) (aq _) (by unfold cz;rw [if_neg hn0,if_neg (by omega),if_neg (by omega),if_neg (by omega),if_neg (by omega),if_neg (by omega),if_pos (by omega),if_pos (by rw [gd];exact ht)]) rfl rfl h3 h
  ·exact fin (p':=p) (aq _) (by unfold cz;rw [if_neg hn0,if_neg (by omega),if_neg (by omega),if_neg (by omega),if_neg (by omega),if_neg (by omega),if_pos (by omega),if_neg (by rw [gd,ht];decide)]) rfl rfl h3 h
 ·refine ⟨_,h.ld1 rfl,by omega,?_⟩;have hlt:m / 8 % p.right.length<p.right.length:=VU _ (by omega);have hx:=N5 hlt;obtain ⟨a,c,ha,hrow,hc⟩:=(h1.le h.le).get (by decide) hx;cases hc;rw [tm,e1];have kw:((p.right.length:Nat):Int)≠0:=by omega
  have gd:p.right.getD (m / 8 % p.right.length) ⟨false,0⟩=p.right[m / 8 % p.right.length]:=by rw [Vr,hx];rfl
  have k7:Int.tmod ((m / 8:Nat):Int) 7=((m / 8 % 7:Nat):Int):=tm _ 7;have x1:i64.wrap ((1:Int)+((m / 8 % 7:Nat):Int))=((1+m / 8 % 7:Nat):Int):=by rw [aS (by omega) (by omega)];omega
  have x3:i64.wrap (((m / 8 % p.right.length:Nat):Int)+1)=((m / 8 % p.right.length+1:Nat):Int):=by rw [aS (by omega) (by omega)];omega
  rw [k7,x1,x3];refine ⟨a,ha,by omega,by omega,_,by rw [N4];exact be hrow rfl,λht=>⟨kw,?_⟩,λht=> ?_⟩
  ·refine h.putR1 (w':=Pr.arr {p with sco:=⟨false,0,0,((m / 8 % p.right.length+1:Nat):Int),((1+m / 8 % 7:Nat):Int)⟩} s n l) rfl (by simp [ak]) (by show 8+5<=13;decide) rfl λF3 h=> ?_;exact fin (p':={p with sco:=⟨false,0,0,((m / 8 % p.right.length+1:Nat):Int),((1+m / 8 % 7:Nat):Int)⟩}) (aq _) (by unfold cz;rw [if_neg hn0,if_neg (by omega),if_neg (by omega),if_neg (by omega),if_neg (by omega),if_neg (by omega),if_neg (by omega),if_pos (by omega),if_pos (by rw [gd];exact ht)]) rfl rfl h3 h
  ·exact fin (p':=p) (aq _) (by unfold cz;rw [if_neg hn0,if_neg (by omega),if_neg (by omega),if_neg (by omega),if_neg (by omega),if_neg (by omega),if_neg (by omega),if_pos (by omega),if_neg (by rw [gd,ht];decide)]) rfl rfl h3 h
 ·exact fin (p':=p) (aq _) (by unfold cz;rw [if_neg hn0,if_neg (by omega),if_neg (by omega),if_neg (by omega),if_neg (by omega),if_neg (by omega),if_neg (by omega),if_neg (by omega)]) rfl rfl h3 h
theorem jB {b e n:Nat} {H:PH} (h:H b=some (.cells #[] e)):own (Sl.mk (some (Addr.mk b 0 none)) 0 0) e n [] H:=.inr ⟨b,#[],rfl,h,by simp,UW _,by simp,by simp⟩
section
variable {α:Type} [Mem α] {G F:PH} {As:List (Ψ)} {t e bytes n:Nat} {z:Value} {x:List α} {y:α} {sx:Sl} {w:Γ}
theorem St.grow2 (T:SlT t e (Mem.n α) bytes z) {vs:List Γ} {s:Sl} (h:St G F (own s e (Mem.n α) (cat vs)::As)) (hr:cN G x vs) (hy:Mem.rep G y w) {sw:Sl} (hw:RdS G sw (Mem.n α) w.toList) (hs:s.len=x.length) (hsw:sw.len=1) (hl:x.length<=1000000) {C:Sl->Ψ}
  (k:∀s' G' F',G.le G'->RL G' s' (x++[y])->St G' F' As->C s' F'):
  aG prog (Builtin.append_ #[t,t] t #[Sl.v s,Sl.v sw]) F λv F=>∃s2:Sl,v=Sl.v s2/\C s2 F:=by
 refine h.app0 T (hw.le h.le) (Mem.st hy) (by omega) λs2 F2 h2 hl2=> ?_;refine h2.pinOwn (K:=C s2) λG2 l2 hrd h3=>k s2 G2 F2 l2 ⟨vs++[w],(hr.le l2).append (.cons (Mem.le l2 hy) .nil),?_⟩ h3;rw [bF,bV];exact hrd
theorem yu {b:Nat} (q:G b=some (.cells w e)) (hw:w.size=n):RdS G (Sl.mk (some (Addr.mk b 0 none)) 1 1) n w.toList:=RdS.new q (UZ (by rw [U4,hw,Wp];exact UW _)) (by rw [U4,hw,Wp]) (UW _)
theorem St.grow (T:SlT t e (Mem.n α) bytes z) (h:St G F As) (hx:RL G sx x) (hy:Mem.rep G y w) (hl:x.length<=1000000) (hn:Mem.n α=n) {Q:Ψ} (hq:∀G' F',St G' F' As->Q F') {C:Sl->Ψ}
    (k:∀s' G' F',G.le G'->RL G' s' (x++[y])->St G' F' As->C s' F'):
    ((∀b1,F b1=none->atF (F.set b1 (.cells #[] e)) λF=>
      ((aG prog (Builtin.append_ #[t,t] t #[Sl.v (Sl.mk (some (Addr.mk b1 0 none)) 0 0),Sl.v sx]) F λv F=>∃s1:Sl,v=Sl.v s1/\Q F/\w.size=n/\∀b2,F b2=none->atF (F.set b2 (.cells w e)) λF=>
        aG prog (Builtin.append_ #[t,t] t #[Sl.v s1,Sl.v (Sl.mk (some (Addr.mk b2 0 none)) 1 1)]) F λv F=>∃s2:Sl,v=Sl.v s2/\C s2 F)/\
       (w.size=n/\∀b2,F b2=none->atF (F.set b2 (.cells w e)) λF=>
        aG prog (Builtin.append_ #[t,t] t #[Sl.v (Sl.mk (some (Addr.mk b1 0 none)) 0 0),Sl.v sx]) F λv F=>∃s1:Sl,v=Sl.v s1/\
        aG prog (Builtin.append_ #[t,t] t #[Sl.v s1,Sl.v (Sl.mk (some (Addr.mk b2 0 none)) 1 1)]) F λv F=>∃s2:Sl,v=Sl.v s2/\C s2 F)))/\
     (w.size=n/\∀b2,F b2=none->atF (F.set b2 (.cells w e)) λF=>∀b1,F b1=none->atF (F.set b1 (.cells #[] e)) λF=>
        aG prog (Builtin.append_ #[t,t] t #[Sl.v (Sl.mk (some (Addr.mk b1 0 none)) 0 0),Sl.v sx]) F λv F=>∃s1:Sl,v=Sl.v s1/\
        aG prog (Builtin.append_ #[t,t] t #[Sl.v s1,Sl.v (Sl.mk (some (Addr.mk b2 0 none)) 1 1)]) F λv F=>∃s2:Sl,v=Sl.v s2/\C s2 F)):=by
  subst hn;have hsx:=hx.len T.hn;obtain ⟨vs,hr,hrd⟩:=hx;have hwn:=Mem.len hy;have e0:∀s1:Sl,s1.len=(Sl.mk (some (Addr.mk 0 0 none)) 0 0).len+sx.len->s1.len=x.length:=λs1 h=>by rw [h];show 0+sx.len=_;omega
  refine ⟨?_,?_⟩
  · refine h.new λb1 F1 h=> ?_
    have h:=h.imp (A':=own (Sl.mk (some (Addr.mk b1 0 none)) 0 0) e (Mem.n α) []) 0 rfl λH _ hH=>jB hH;refine ⟨?_,hwn,?_⟩
    · refine St.app0 T h (hrd.le h.le) hr.st (by show 0+sx.len<=_;omega) λs1 F2 h hl1=>⟨hq _ _ h.tail,hwn,?_⟩
      rw [Vt] at h;refine h.newG λb2 G2 F3 l2 q _ h=> ?_;exact St.grow2 T h (hr.le l2) (Mem.le l2 hy) (yu q hwn) (e0 s1 hl1) rfl hl λs' G' F' l'=>k s' G' F' (aa l2 l')
    · refine h.newG λb2 G2 F3 l2 q _ h=> ?_
      refine St.app0 T h ((hrd.le l2).le h.le) hr.st (by show 0+sx.len<=_;omega) λs1 F2 h hl1=> ?_;rw [Vt] at h;exact St.grow2 T h (hr.le l2) (Mem.le l2 hy) (yu q hwn) (e0 s1 hl1) rfl hl λs' G' F' l'=>k s' G' F' (aa l2 l')
  · refine ⟨hwn,?_⟩
    refine h.newG λb2 G2 F3 l2 q _ h=> ?_;refine h.new λb1 F1 h=> ?_;have h:=h.imp (A':=own (Sl.mk (some (Addr.mk b1 0 none)) 0 0) e (Mem.n α) []) 0 rfl λH _ hH=>jB hH;refine St.app0 T h ((hrd.le l2).le h.le) hr.st (by show 0+sx.len<=_;omega) λs1 F2 h hl1=> ?_;rw [Vt] at h;exact St.grow2 T h (hr.le l2) (Mem.le l2 hy) (yu q hwn) (e0 s1 hl1) rfl hl λs' G' F' l'=>k s' G' F' (aa l2 l')
end
theorem ic {F:PH} {P:Program} {b n:Nat} {e:TypeId} (q:F b=some (.cells #[vB n] e)):rdo P (Conv.bytesToString (Sl.v (Sl.mk (some (Addr.mk b 0 none)) 1 1))) F (.string ⟨#[UInt8.ofNat n]⟩):=by
 have h:RdS F (Sl.mk (some (Addr.mk b 0 none)) 1 1) 1 [vB n]:=RdS.new q rfl rfl (UW _);unfold Conv.bytesToString Sl.v;simp only [aj];refine ⟨#[vB n],?_,?_⟩
 ·have hr:=h.row (a:=Addr.mk b 0 none) rfl 0 #[vB n] (by simp);rw [show (Addr.mk b 0 none).add 0=Addr.mk b 0 none from rfl] at hr;exact fc (P:=P) hr
 ·refine ⟨ByteArray.empty.push (UInt8.ofNat n),?_,?_⟩
  ·rw [<- Array.forIn_toList];simp []
  ·show (Value.string _)=_;simp [ByteArray.empty,ByteArray.emptyWithCapacity,ByteArray.push];rfl
structure Ln where
 left:Nat
 right:Δ
 cond:Nat
 mark:Nat
instance:Mem Ln where
 n:=4
 rep F x c:=∃r:Sl,c= #[vB x.left,r.v,vB x.cond,vB x.mark]/\RdS F r 1 (x.right.map vB)/\x.left<256/\x.cond<256/\x.mark<256/\∀y∈x.right,y<256
 len h:=by obtain ⟨r,rfl,_⟩:=h;rfl
 le hl h:=by obtain ⟨r,h1,h2,h3⟩:=h;exact ⟨r,h1,h2.le hl,h3⟩
 st h:=by obtain ⟨r,rfl,_⟩:=h;simp [ak,Sl.v]
theorem kA (nm:ByteArray) (left:Int) {s:Sl} {F:PH}:ai prog 81 #[.string nm,vi left,s.v] F λr F'=>(∃n,r=.agg ((bH nm left []).arr s n Sl.nil)/\RL F' n aP.1)/\F.le F':=by refine Q7 ?_;unfold M8;refine (St.start F).new λb F1 h=> ?_;refine h.run (fW _) λ_ G F2 hr l h=> ?_;obtain ⟨w,rfl,hw⟩:=hr;obtain ⟨n,rfl,hn⟩:=hw.out;refine ⟨_,rfl,rfl,?_⟩;refine h.put0 (w':=(bH nm left []).arr s n Sl.nil) rfl rfl (by simp [ak,Sl.v]) λF2 h=> ?_;exact ⟨_,rfl,h.whole0,⟨n,rfl,hn.le h.le⟩,aa l h.le⟩
def lh (nn b:Nat):Sy:=if b % 14<9 then ⟨true,((b % 14:Nat):Int)⟩ else ⟨false,(((b % 14 - 9) % nn:Nat):Int)⟩
def aR (nn:Nat) (x:Ln):List Sy:=(x.right.take 4).map (lh nn)
def dO (l:List Sy):Nat:=(l.filter (·.t)).length
def cU (left:Nat) (l:List Sy):Bool:=l.all λs=>s.t || decide ((left:Int)<s.i)
def bi (k:Nat):ByteArray:=⟨#[112]⟩++⟨#[UInt8.ofNat (97+k)]⟩
noncomputable def jg (g:Gr) (x:Ln):Pr:={bH (bi g.prods.length) ((x.left % g.nons.length:Nat):Int) (aR g.nons.length x) with cond:=dia (iY x.cond g.conds.length)}
noncomputable def lineG (g:Gr) (x:Ln) (cg:Bool):Gr:=
 if dO (aR g.nons.length x)=0/\(cg=true\/cU (x.left % g.nons.length) (aR g.nons.length x)=false) then g
 else {g with prods:=g.prods++[cz (jg g x) x.mark]}
theorem fV (a b:Nat):Int.tmod (a:Int) (b:Int)=((a % b:Nat):Int):=by rw [VH (by omega)];exact (Int.natCast_emod _ _).symm
theorem nZ (l:List Sy) (s:Sy):dO (l++[s])=dO l+if s.t=true then 1 else 0:=by unfold dO;rw [List.filter_append,UV];congr 1;cases h:s.t<;>simp [h]
theorem lj (left:Nat) (l:List Sy) (s:Sy):cU left (l++[s])=(cU left l && (s.t || decide ((left:Int)<s.i))):=by simp [cU]
theorem Ck {G:PH} (l:List Sy):cN G l (l.map Sy.arr):=by
 induction l with
 |nil=>exact .nil
 |cons x l ih=>exact .cons rfl ih
structure LK (F G:PH) (b4:Nat) (g:Gr) (x:Ln) (c n t s sp l f rx n0:Sl):Prop where
 lF:F.le G
 q4:G b4=some (.cells #[vB x.left,rx.v,vB x.cond,vB x.mark] 91)
 gs:GS G g c n t s sp l f
 rr:RdS G rx 1 (x.right.map vB)
 n0:RL G n0 aP.1
theorem LK.le {F G G':PH} {b4:Nat} {g:Gr} {x:Ln} {c n t s sp l f rx n0:Sl} (h:LK F G b4 g x c n t s sp l f rx n0) (hl:G.le G'):LK F G' b4 g x c n t s sp l f rx n0:=
 ⟨aa h.lF hl,hl _ _ h.q4,h.gs.le hl,h.rr.le hl,h.n0.le hl⟩
section
variable {F G F1:PH} {b3 b4 b6 b8:Nat} {g:Gr} {x:Ln} {c n t s sp l f rx n0 sr:Sl} {cg:Bool}
abbrev LR (F:PH) (g':Gr):VR:=λr F'=>(∃w,r=.agg w/\GV F' w g')/\F.le F'
theorem Hy {g':Gr} {sp':Sl} (hF:F.le G) (hg:GS G g' c n t s sp' l f) (st:St G F1 [pt b6 (.cells zG 37),pt b3 (.cells (g'.arr c n t s sp' l f) 37)]):rB b3 b6 (LR F g') F1:=by unfold rB;refine ⟨_,rfl,st.whole1,?_⟩;refine st.put0 (w':=g'.arr c n t s sp' l f) rfl rfl (by simp [ak,Sl.v]) λF3 h=> ?_;exact ⟨_,rfl,h.whole0,⟨_,rfl,c,n,t,s,sp',l,f,rfl,hg.le h.le⟩,aa hF h.le⟩
theorem DI (K:LK F G b4 g x c n t s sp l f rx n0) (hn:g.conds.length<=6) (hp:g.prods.length<=1000) (h4:x.cond<256) (h5:x.mark<256) (hsr:RL G sr (aR g.nons.length x))
  (st:St G F1 [pt b8 (.cells ((bH (bi g.prods.length) ((x.left % g.nons.length:Nat):Int) []).arr sr n0 Sl.nil) 55),pt b6 (.cells zG 37),pt b3 (.cells (g.arr c n t s sp l f) 37)]):
  gI b3 b4 b6 (some (Addr.mk b8 0 none)) false (LR F {g with prods:=g.prods++[cz (jg g x) x.mark]}) F1:=by
 obtain ⟨_,_,T⟩:=HG;unfold gI;refine ⟨λhc=>(by cases hc),λ_=> ?_⟩;have ec:=K.gs.c.len (by decide);refine ⟨_,ld (st.le _ _ K.q4) rfl,_,st.ld2 rfl,?_⟩;dsimp only;rw [ec];refine st.run (qn x.cond g.conds.length h4 hn _) λ_ G2 F2 hr l2 st=> ?_;obtain ⟨⟨_,rfl,hw⟩,-⟩:=hr;obtain ⟨m,rfl,hm⟩:=hw.out;replace K:=K.le l2;replace hsr:=hsr.le l2;refine ⟨_,rfl,_,rfl,?_⟩;simp only [aB];refine st.putR0 (o:=3) (w':=(jg g x).arr sr m Sl.nil) rfl (by simp [ak,Sl.v]) (by show 3+2<=13;decide) rfl λF3 st=> ?_;refine ⟨_,rfl,st.whole0,_,ld (st.le _ _ K.q4) rfl,?_⟩;refine st.run (wU (p:=jg g x) (m:=x.mark) ⟨sr,m,Sl.nil,rfl,hsr,hm,.nil _⟩ h5 (by show (aR _ _).length<=1000;unfold aR;rw [U6,Vb];omega)) λ_ G3 F4 hr l3 st=> ?_;obtain ⟨w,rfl,hw⟩:=hr;replace K:=K.le l3;refine ⟨w,rfl,?_⟩;refine st.put0 (w':=w) (Mem.len hw) rfl (Mem.st hw) λF5 st=> ?_;refine ⟨_,st.ld2 rfl,w,Mem.len hw,st.whole0,?_⟩;refine St.grow T st K.gs.p hw (by omega) rfl (λG' F' st=>st.whole0) λs' G' F' l' hs' st=> ?_;replace K:=K.le l';refine st.set2 (w':=Gr.arr {g with prods:=g.prods++[cz (jg g x) x.mark]} c n t s s' l f) (by show 5<9;decide) rfl λF6 st=> ?_;exact Hy (g':={g with prods:=g.prods++[cz (jg g x) x.mark]}) (sp':=s') K.lF ⟨K.gs.c,K.gs.n,K.gs.t,K.gs.s,hs',K.gs.l,K.gs.f⟩ st.tail
theorem DJ {p8:Θ} (K:LK F G b4 g x c n t s sp l f rx n0) (st:St G F1 [pt b6 (.cells zG 37),pt b3 (.cells (g.arr c n t s sp l f) 37)]):gI b3 b4 b6 p8 true (LR F g) F1:=by unfold gI;refine ⟨λ_=> ?_,λhc=>(by cases hc)⟩;refine ⟨_,rfl,st.whole1,?_⟩;refine st.put0 (w':=g.arr c n t s sp l f) rfl rfl (by simp [ak,Sl.v]) λF3 h=> ?_;exact ⟨_,rfl,h.whole0,⟨_,rfl,c,n,t,s,sp,l,f,rfl,K.gs.le h.le⟩,aa K.lF h.le⟩
theorem Hz (K:LK F G b4 g x c n t s sp l f rx n0) (hn:g.conds.length<=6) (hp:g.prods.length<=1000) (h4:x.cond<256) (h5:x.mark<256) {tk:Int} {later:Bool} (htk:tk=((dO (aR g.nons.length x):Nat):Int)) (hla:later=cU (x.left % g.nons.length) (aR g.nons.length x))
  (st:St G F1 [pt b8 (.cells ((bH (bi g.prods.length) ((x.left % g.nons.length:Nat):Int) []).arr sr n0 Sl.nil) 55),own sr 63 2 (cat ((aR g.nons.length x).map Sy.arr)),pt b6 (.cells zG 37),pt b3 (.cells (g.arr c n t s sp l f) 37)]):
  rC cg b3 b4 b6 (some (Addr.mk b8 0 none)) tk later (LR F (lineG g x cg)) F1:=by
 unfold rC;have bad:dO (aR g.nons.length x)=0/\(cg=true\/cU (x.left % g.nons.length) (aR g.nons.length x)=false)->gI b3 b4 b6 (some (Addr.mk b8 0 none)) true (LR F (lineG g x cg)) F1:=λhc=>by
  have e:lineG g x cg=g:=by unfold lineG;rw [if_pos hc]
  rw [e];exact DJ K st.tail.tail
 have good:¬(dO (aR g.nons.length x)=0/\(cg=true\/cU (x.left % g.nons.length) (aR g.nons.length x)=false))->gI b3 b4 b6 (some (Addr.mk b8 0 none)) false (LR F (lineG g x cg)) F1:=λhc=>by
  have e:lineG g x cg={g with prods:=g.prods++[cz (jg g x) x.mark]}:=by unfold lineG;rw [if_neg hc]
  rw [e];refine st.front1.pinOwn (K:=λF1=>gI b3 b4 b6 (some (Addr.mk b8 0 none)) false (LR F {g with prods:=g.prods++[cz (jg g x) x.mark]}) F1) λG' lg hrd st=> ?_;exact DI (K.le lg) hn hp h4 h5 ⟨_,Ck _,hrd⟩ st
 refine ⟨λh0=>⟨λhk=>bad ⟨by omega,.inl hk⟩,λhk=> ?_⟩,λh0=>good λhc=>h0 (by rw [htk,hc.1];rfl)⟩;cases hl':later with
 |true=>refine good λhc=> ?_;rw [<- hla,hl',hk] at hc;simp at hc
 |false=>exact bad ⟨by omega,.inr (by rw [<- hla,hl'])⟩
end
theorem wV (l:List Sy) (y:Sy):cat (l.map Sy.arr)++y.arr.toList=cat ((l++[y]).map Sy.arr):=by rw [Vm,bF,Vi,List.map_nil,bV]
section
variable {F G F1:PH} {b3 b4 b6 b8:Nat} {g:Gr} {x:Ln} {c n t s sp l f rx n0 sr:Sl} {cg:Bool}
theorem HB (K:LK F G b4 g x c n t s sp l f rx n0) (hn:g.conds.length<=6) (hp:g.prods.length<=1000) (h4:x.cond<256) (h5:x.mark<256) (h6:∀y∈x.right,y<256) (hn0:g.nons.length≠0) (_:g.nons.length<=1000000)
  (st:St G F1 [pt b8 (.cells ((bH (bi g.prods.length) ((x.left % g.nons.length:Nat):Int) []).arr Sl.nil n0 Sl.nil) 55),pt b6 (.cells zG 37),pt b3 (.cells (g.arr c n t s sp l f) 37)]):
  nH cg b3 b4 b6 s (some (Addr.mk b8 0 none)) (LR F (lineG g x cg)) F1:=by
 obtain ⟨_,_,T⟩:=NI;have es:=K.gs.s.len (by decide);have er:=K.rr.len;rw [U6,Vs] at er;unfold nH;have hL:(aR g.nons.length x).length=min 4 x.right.length:=by unfold aR;rw [U6,Vb]
 refine ⟨λm tk la i F'=>∃(k:Nat) (G':PH) (sr:Sl),i=k/\k<=(aR g.nons.length x).length/\m=4 - k/\tk=((dO ((aR g.nons.length x).take k):Nat):Int)/\la=cU (x.left % g.nons.length) ((aR g.nons.length x).take k)/\LK F G' b4 g x c n t s sp l f rx n0/\sr.len=k/\
  St G' F' [pt b8 (.cells ((bH (bi g.prods.length) ((x.left % g.nons.length:Nat):Int) []).arr sr n0 Sl.nil) 55),own sr 63 2 (cat (((aR g.nons.length x).take k).map Sy.arr)),pt b6 (.cells zG 37),pt b3 (.cells (g.arr c n t s sp l f) 37)],4,
  ⟨0,G,Sl.nil,rfl,Nat.zero_le _,rfl,rfl,rfl,K,rfl,(st.nilOwn 63 2).swap⟩,?_⟩
 rintro m tk la i F' ⟨k,G',sr,rfl,hk,rfl,rfl,rfl,K,hsr,st⟩;unfold Gi;have done:k=(aR g.nons.length x).length->rC cg b3 b4 b6 (some (Addr.mk b8 0 none)) ((dO ((aR g.nons.length x).take k):Nat):Int) (cU (x.left % g.nons.length) ((aR g.nons.length x).take k)) (LR F (lineG g x cg)) F':=λe=>by rw [e,U7] at st ⊢;exact Hz K hn hp h4 h5 rfl rfl st
 refine ⟨_,ld (st.le _ _ K.q4) rfl,λhlt=>⟨λh4'=> ?_,λh4'=>done (by omega)⟩,λhlt=>done (by omega)⟩;have hkr:k<x.right.length:=by omega
 have hkl:k<(aR g.nons.length x).length:=by omega
 obtain ⟨ab,ao,hab,_⟩:=K.rr.cells (by omega);have hcell:=(K.rr.le st.le).cell hab (i:=k) (by rw [U6];exact hkr);rw [List.getElem_map] at hcell;have hy6:x.right[k]<256:=h6 _ (Wd hkr);have hsym:(aR g.nons.length x)[k]? =some (lh g.nons.length x.right[k]):=by unfold aR;rw [U5,VN (by omega),N5 hkr];rfl
 have htake:(aR g.nons.length x).take (k+1)=(aR g.nons.length x).take k++[lh g.nons.length x.right[k]]:=by rw [V7,hsym];rfl
 generalize x.right[k]=y at*;have ey:Int.tmod (i64.wrap (y:Int)) (14:Int)=((y % 14:Nat):Int):=by rw [aS (by omega) (by omega)];exact fV y 14
 refine ⟨_,ld (st.le _ _ K.q4) rfl,_,hab,by omega,hlt,(y:Int),by rw [N4,Vs];exact hcell,?_⟩;dsimp only;rw [ey];have hk1:i64.wrap ((k:Int)+1)=((k+1:Nat):Int):=aI (n:=4) (by omega) (by decide);have htl:dO ((aR g.nons.length x).take k)<=4:=VK (List.length_filter_le _ _) (by rw [Vb];omega);refine ⟨λh9=> ?_,λh9=> ?_⟩
 ·have esy:lh g.nons.length y=⟨true,((y % 14:Nat):Int)⟩:=by unfold lh;rw [if_pos (by omega)]
  refine ⟨_,rfl,?_⟩;simp only [aB];refine ⟨sr,st.ld0 rfl,?_⟩;refine st.runv (kB _ _) λG2 F2 l2 st=> ?_;refine ⟨_,rfl,st.ld0 rfl,rfl,?_⟩;refine st.push1 T (c:=Sy.arr ⟨true,((y % 14:Nat):Int)⟩) rfl (by simp [ak]) (by omega) λs' G3 F3 l3 st hl'=> ?_;rw [wV,<- esy,<- htake] at st;refine st.set0 (w':=(bH (bi g.prods.length) ((x.left % g.nons.length:Nat):Int) []).arr s' n0 Sl.nil) (by show 2<13;decide) rfl λF4 st=> ?_;unfold rD;rw [hk1];refine ⟨4 - (k+1),by omega,k+1,G3,s',rfl,by omega,rfl,?_,?_,K.le (aa l2 l3),by omega,st⟩
  ·rw [htake,nZ,esy,aS (by omega) (by omega)];rfl
  ·rw [htake,lj,esy];simp
 ·have hnn:y % 14 - 9<5:=by omega
  have ez:Int.tmod (i64.wrap (((y % 14:Nat):Int) - (9:Int))) (s.len:Int)=(((y % 14 - 9) % g.nons.length:Nat):Int):=by rw [es,show ((y % 14:Nat):Int) - 9=((y % 14 - 9:Nat):Int) by omega,aS (by omega) (by omega),fV]
  have esy:lh g.nons.length y=⟨false,(((y % 14 - 9) % g.nons.length:Nat):Int)⟩:=by unfold lh;rw [if_neg (by omega)]
  refine ⟨_,rfl,?_⟩;simp only [aB];rw [ez];refine ⟨sr,st.ld0 rfl,by omega,?_⟩;refine st.runv (ie _ _) λG2 F2 l2 st=> ?_;refine ⟨_,rfl,st.ld0 rfl,rfl,?_⟩;refine st.push1 T (c:=Sy.arr ⟨false,(((y % 14 - 9) % g.nons.length:Nat):Int)⟩) rfl (by simp [ak]) (by omega) λs' G3 F3 l3 st hl'=> ?_;rw [wV,<- esy,<- htake] at st;refine st.set0 (w':=(bH (bi g.prods.length) ((x.left % g.nons.length:Nat):Int) []).arr s' n0 Sl.nil) (by show 2<13;decide) rfl λF4 st=> ?_;have etk:((dO ((aR g.nons.length x).take k):Nat):Int)=((dO ((aR g.nons.length x).take (k+1)):Nat):Int):=by rw [htake,nZ,esy];rfl
  have ela:cU (x.left % g.nons.length) ((aR g.nons.length x).take (k+1))=(cU (x.left % g.nons.length) ((aR g.nons.length x).take k) && decide (((x.left % g.nons.length:Nat):Int)<(((y % 14 - 9) % g.nons.length:Nat):Int))):=by rw [htake,lj,esy];simp
  unfold rD;rw [hk1];refine ⟨λhla=>⟨by omega,((x.left % g.nons.length:Nat):Int),st.ld0 rfl,4 - (k+1),by omega,k+1,G3,s',rfl,by omega,rfl,etk,?_,K.le (aa l2 l3),by omega,st⟩,λhla=>⟨4 - (k+1),by omega,k+1,G3,s',rfl,by omega,rfl,etk,?_,K.le (aa l2 l3),by omega,st⟩⟩
  ·rw [ela,hla,V4]
  ·rw [ela,hla,WI]
end
theorem Cm {F:PH} {w v:Γ} {g:Gr} {x:Ln} {cg:Bool} (hg:GV F w g) (hx:Mem.rep F x v) (hn:g.conds.length<=6) (hp:g.prods.length<=150) (hn0:g.nons.length≠0) (hn1:g.nons.length<=1000000):
  ai prog 83 #[.agg w,.agg v,.bool cg] F (LR F (lineG g x cg)):=by
 obtain ⟨c,n,t,s,sp,l,f,rfl,hs⟩:=hg;obtain ⟨rx,rfl,hr,h3,h4,h5,h6⟩:=hx;have es:=hs.s.len (by decide);have ep:=hs.p.len (by decide);refine Ua ?_;unfold Q8;refine (St.start F).new λb3 F1 st=> ?_;refine st.newG λb4 G1 F2 l1 q4 _ st=> ?_;refine st.new λb6 F3 st=> ?_;have ec:u8.wrap (i64.wrap ((97:Int)+(sp.len:Int)))=((97+g.prods.length:Nat):Int):=by rw [ep,show (97:Int)+((g.prods.length:Nat):Int)=((97+g.prods.length:Nat):Int) by omega,aS (by omega) (by omega),wT (by omega)]
 have el:Int.tmod (i64.wrap (x.left:Int)) (s.len:Int)=((x.left % g.nons.length:Nat):Int):=by rw [es,aS (by omega) (by omega),fV]
 refine ⟨_,st.ld1 rfl,_,st.ld1 rfl,_,ld (st.le _ _ q4) rfl,by omega,?_⟩;rw [ec,el];have fin:∀{G F':PH} {b8:Nat} {n0:Sl},G1.le G->RL G n0 aP.1->St G F' [pt b8 (.cells ((bH (bi g.prods.length) ((x.left % g.nons.length:Nat):Int) []).arr Sl.nil n0 Sl.nil) 55),pt b6 (.cells zG 37),pt b3 (.cells (g.arr c n t s sp l f) 37)]->
   nH cg b3 b4 b6 s (some (Addr.mk b8 0 none)) (LR F (lineG g x cg)) F':=λ{G F' b8 n0} hl h0 st=>
  HB ⟨aa l1 hl,hl _ _ q4,hs.le (aa l1 hl),hr.le (aa l1 hl),h0⟩ hn (by omega) h4 h5 h6 hn0 hn1 st
 have sz2:(ByteArray.mk #[112]).size+(ByteArray.mk #[UInt8.ofNat (97+g.prods.length)]).size<=9223372036854775807:=by show 1+1<=9223372036854775807;decide
 refine ⟨?_,?_⟩
 ·refine st.newG λb21 G2 F4 l2 q21 _ st=> ?_;refine ⟨_,ic (st.le _ _ q21),sz2,?_,?_⟩
  ·refine st.run (kA (bi g.prods.length) _) λ_ G3 F5 hr3 l3 st=> ?_;obtain ⟨n0,rfl,h0⟩:=hr3;refine ⟨_,rfl,ic (st.le _ _ (l3 _ _ q21)),ld (st.le _ _ (l3 _ _ (l2 _ _ q4))) rfl,st.ld1 rfl,?_⟩;refine st.new λb8 F6 st=> ?_;refine st.put0 (w':=(bH (bi g.prods.length) ((x.left % g.nons.length:Nat):Int) []).arr Sl.nil n0 Sl.nil) rfl rfl (by simp [ak,Sl.v]) λF7 st=> ?_;exact fin (aa l2 l3) h0 st
  ·refine st.new λb8 F6 st=> ?_;refine st.run (kA (bi g.prods.length) _) λ_ G3 F5 hr3 l3 st=> ?_;obtain ⟨n0,rfl,h0⟩:=hr3;refine ⟨_,rfl,ic (st.le _ _ (l3 _ _ q21)),ld (st.le _ _ (l3 _ _ (l2 _ _ q4))) rfl,st.ld2 rfl,?_⟩;refine st.put0 (w':=(bH (bi g.prods.length) ((x.left % g.nons.length:Nat):Int) []).arr Sl.nil n0 Sl.nil) rfl rfl (by simp [ak,Sl.v]) λF7 st=> ?_;exact fin (aa l2 l3) h0 st
 ·refine st.new λb8 F6 st=> ?_;refine st.newG λb21 G2 F4 l2 q21 _ st=> ?_;refine ⟨_,ic (st.le _ _ q21),sz2,?_⟩;refine st.run (kA (bi g.prods.length) _) λ_ G3 F5 hr3 l3 st=> ?_;obtain ⟨n0,rfl,h0⟩:=hr3;refine ⟨_,rfl,ic (st.le _ _ (l3 _ _ q21)),ld (st.le _ _ (l3 _ _ (l2 _ _ q4))) rfl,st.ld2 rfl,?_⟩;refine st.put0 (w':=(bH (bi g.prods.length) ((x.left % g.nons.length:Nat):Int) []).arr Sl.nil n0 Sl.nil) rfl rfl (by simp [ak,Sl.v]) λF7 st=> ?_;exact fin (aa l2 l3) h0 st
end Go.Proofs.YtcemhghkipgdiaaGreatDoor
