/-
  The reference's matcher: offsets behind the matches of a node.
-/
import Derived.Test.YtenpmjhnhepfdaaGreatDoorMz
import Derived.Test.YtenpmjhnhepfdaaGreatDoorQr
import Derived.Test.YtenpmjhnhepfdaaGreatDoorGkoineref04
import Derived.Test.YtenpmjhnhepfdaaGreatDoorEe
import Derived.Test.YtenpmjhnhepfdaaGreatDoorPhn
namespace Go.Proofs.YtenpmjhnhepfdaaGreatDoor
open Go Go.Proofs.Tryz Tr
set_option maxRecDepth 10000
section
variable {G F:PH} {As:List (Ψ)} {s:Sl} {B:Δ} {br:Nat} {r:Option Δ}
abbrev prA (nm:ByteArray) (le:Int) (ri nd:Sl) (ro:Int) (bk:Bool) (ra:Int) (la:Sl) (o:Bool) (d k u a:Int):Γ:= #[.string nm,vi le,ri.v,nd.v,vi ro,.bool bk,vi ra,la.v,.bool o,vi d,vi k,vi u,vi a]
theorem IR (K:Rd G s B) {b2 b3:Nat} {nm:ByteArray} {le ro ra:Int} {ri nd la:Sl} {bk:Bool} (h:St G F (rrS s B br r::pt b3 (.cells (prA nm le ri nd ro bk ra la false 0 0 0 0) 67)::pt b2 (.cells zP 67)::As)) {R:VR}
  (fin:∀F' sc r',Res Lw r sc r'->St G F' (rrS s B br r'::As)->R (.agg (prA nm le ri nd ro bk ra la sc.o sc.d sc.k sc.u sc.a)) F'):rT (some (Addr.mk br 0 none)) b2 b3 R F:=by
 unfold rT;refine (Jg K h).mono ?_;rintro _ F5 ⟨y1,r1,rfl,h1,h⟩;refine ⟨_,rfl,h.set1 (w':=prA nm le ri nd ro bk ra la y1 0 0 0 0) (by show 8<13;decide) rfl λF6 h=> ?_⟩;refine (ba K h).mono ?_;rintro _ F5 ⟨y2,r2,rfl,h2,h⟩;refine ⟨_,rfl,h.set1 (w':=prA nm le ri nd ro bk ra la y1 y2 0 0 0) (by show 9<13;decide) rfl λF6 h=> ?_⟩;refine (ba K h).mono ?_;rintro _ F5 ⟨y3,r3,rfl,h3,h⟩;refine ⟨_,rfl,h.set1 (w':=prA nm le ri nd ro bk ra la y1 y2 y3 0 0) (by show 10<13;decide) rfl λF6 h=> ?_⟩;refine (ba K h).mono ?_;rintro _ F5 ⟨y4,r4,rfl,h4,h⟩;refine ⟨_,rfl,h.set1 (w':=prA nm le ri nd ro bk ra la y1 y2 y3 y4 0) (by show 11<13;decide) rfl λF6 h=> ?_⟩;refine (ba K h).mono ?_;rintro _ F5 ⟨y5,r5,rfl,h5,h⟩;refine ⟨_,rfl,h.set1 (w':=prA nm le ri nd ro bk ra la y1 y2 y3 y4 y5) (by show 12<13;decide) rfl λF6 h=>⟨_,rfl,h.whole1,?_⟩⟩;refine h.put2 (w':=prA nm le ri nd ro bk ra la y1 y2 y3 y4 y5) rfl rfl (by simp [ai,Sl.v]) λFa h=>⟨_,rfl,h.whole2,?_⟩;exact fin _ ⟨y1,y2,y3,y4,y5⟩ r5 (Res.map _ (h1.pair (h2.pair (h3.pair (h4.pair h5))))) h.swap.tail.swap.tail
end
section
variable {G F:PH} {As:List (Ψ)} {s:Sl} {B:Δ} {br:Nat} {r:Option Δ}
abbrev yr (l:List Cn):Ξ:=l.flatMap λx=>x.arr.toList
theorem IS {F:PH} {s:Sl} {l:List Cn}:RL F s l↔RdS F s 3 (yr l):=RL.flat (f:=Cn.arr) (λ_ _ _=>Iff.rfl)
theorem IT (K:Rd G s B) {b2 b3:Nat} {nm:ByteArray} {le:Int} {ri:Sl} (h:St G F (rrS s B br r::pt b3 (.cells (prA nm le ri Sl.nil 0 false 0 Sl.nil false 0 0 0 0) 67)::pt b2 (.cells zP 67)::As)) {R:VR}
  (fin:∀G' F' n la (y:Dia×Bool×Int×List Cn×Sco) r',G.le G'->Res (aT dD (aT dB (aT dI (aT (dL dCn) Lw)))) r y r'->RL G' n y.1.1->RL G' la y.2.2.2.1->St G' F' (rrS s B br r'::As)->
   R (.agg (prA nm le ri n y.1.2 y.2.1 (y.2.2.1 - 1) la y.2.2.2.2.o y.2.2.2.2.d y.2.2.2.2.k y.2.2.2.2.u y.2.2.2.2.a)) F'):rU (some (Addr.mk br 0 none)) b2 b3 R F:=by
 obtain ⟨_,_,T⟩:=QF;unfold rU;refine (Ja K h).mono ?_;rintro _ F1 ⟨n,d,r1,G1,rfl,h1,l1,hn,h⟩;have K:=K.le l1;refine ⟨_,rfl,h.putR1 (w':=prA nm le ri n d.2 false 0 Sl.nil false 0 0 0 0) rfl (by simp [ai,Sl.v]) (by show 3+2<=13;decide) rfl λF2 h=> ?_⟩;refine (Jg K h).mono ?_;rintro _ F3 ⟨bk,r2,rfl,h2,h⟩;refine ⟨_,rfl,h.set1 (w':=prA nm le ri n d.2 bk 0 Sl.nil false 0 0 0 0) (by show 5<13;decide) rfl λF2 h=> ?_⟩;refine (yz K h).mono ?_;rintro _ F3 ⟨ra,r3,rfl,h3,⟨ra0,ra1⟩,h⟩;refine ⟨_,rfl,?_⟩;dsimp only;rw [aH (x:=ra - 1) (by omega) (by omega)];refine h.set1 (w':=prA nm le ri n d.2 bk (ra - 1) Sl.nil false 0 0 0 0) (by show 6<13;decide) rfl λF2 h=> ?_;refine (f7 K h).mono ?_;rintro _ F4 ⟨m,rm,rfl,hr,hm,hm2,h⟩;have hmB:=fj K h hm hm2;refine ⟨_,rfl,?_⟩;have h:=(h.nilOwn 101 3).swap;refine ⟨λmm i F'=>∃(k:Nat) (G':PH) (sl:Sl) (xs:List Cn) (rk:Option Δ),i=(k:Int)/\mm=k/\k<=m/\G1.le G'/\xs.length+k=m/\Rk dCn rm m xs k rk/\St G' F' (rrS s B br rk::own sl 101 3 (yr xs)::pt b3 (.cells (prA nm le ri n d.2 bk (ra - 1) sl false 0 0 0 0) 67)::pt b2 (.cells zP 67)::As),m,⟨m,G1,Sl.nil,[],rm,rfl,rfl,XA _,am _,by simp,Rk.start,h⟩,?_⟩;rintro mm i F5 ⟨k,G2,sl,xs,rk,rfl,hmm,hk,l2,hx,hR,h⟩;have K:=K.le l2;have fin2:(k=0\/rk=none)->rT (some (Addr.mk br 0 none)) b2 b3 R F5:=λhc=>by obtain ⟨G3,l3,hd,h6⟩:=h.swap.pinO;refine IR (K.le l3) h6 λF' sc r' hs h=> ?_;exact fin G3 F' n sl (d,bk,ra,xs,sc) r' (aa l1 (aa l2 l3)) (h1.pair (h2.pair (h3.pair ((hR.fin hr hc).pair hs)))) (hn.le (aa l2 l3)) (IS.2 hd) h
 unfold IC;refine ⟨λhp=>⟨_,rfl,_,by rw [av];exact h.rbad,λhb=> ?_,λhb=>fin2 (.inr (by cases rk with|none=>rfl|some l=>cases hb))⟩,λhn=>fin2 (.inl (by omega))⟩;obtain ⟨li,rfl⟩:∃li,rk=some li:=by cases rk with|none=>cases hb|some l=>exact ⟨l,rfl⟩
 obtain ⟨k,rfl⟩:∃k',k=k'+1:=⟨k - 1,by omega⟩;refine (ba K h).mono ?_;rintro _ Fa ⟨z1,ra',rfl,g1,h⟩;refine ⟨_,rfl,?_⟩;refine h.new λb7 Fb h=> ?_;refine h.put0 (w':= #[vi z1,vi 0,vi 0]) rfl rfl (by simp [ai]) λFc h=> ?_;refine (ba K h.swap).mono ?_;rintro _ Fd ⟨z2,rb,rfl,g2,h⟩;refine ⟨_,rfl,h.set1 (w':= #[vi z1,vi z2,vi 0]) (by show 1<3;decide) rfl λFe h=> ?_⟩;refine (ba K h).mono ?_;rintro _ Fd ⟨z3,rc,rfl,g3,h⟩;refine ⟨_,rfl,h.set1 (w':= #[vi z1,vi z2,vi z3]) (by show 2<3;decide) rfl λFe h=> ?_⟩;refine ⟨_,h.ld3 rfl,_,rfl,h.whole1,rfl,?_⟩;have h:=h.swap.tail;have hsl:sl.len=xs.length:=(IS.2 (bj.rd (h.ownAt (i:=1) rfl).1)).len (by decide);refine h.push1 T (c:=Cn.arr ⟨z1,z2,z3⟩) rfl (by simp [ai]) (by omega) λs' G3 F6 l3 h hl'=> ?_;refine h.set2 (w':=prA nm le ri n d.2 bk (ra - 1) s' false 0 0 0 0) (by show 7<13;decide) rfl λF7 h=> ?_;rw [dW (by omega) (by omega),Yf];refine ⟨k,by omega,k,G3,s',xs++[⟨z1,z2,z3⟩],rc,rfl,rfl,by omega,aa l2 l3,by rw [N3,XJ];omega,hR.step (show Res dCn (some li) ⟨z1,z2,z3⟩ rc from Res.map _ (g1.pair (g2.pair g3))),?_⟩;have e:yr (xs++[⟨z1,z2,z3⟩])=yr xs++(Cn.arr ⟨z1,z2,z3⟩).toList:=by unfold yr;rw [XU,Yn]
 rw [e];exact h
end
section
variable {G F:PH} {As:List (Ψ)} {s:Sl} {B:Δ} {br:Nat} {r:Option Δ}
abbrev yt (l:List Sy):Ξ:=l.flatMap λx=>x.arr.toList
theorem IU {F:PH} {s:Sl} {l:List Sy}:RL F s l↔RdS F s 2 (yt l):=RL.flat (f:=Sy.arr) (λ_ _ _=>Iff.rfl)
theorem Vo (K:Rd G s B) (h:St G F (rrS s B br r::As)):ae prog 56 #[rp br] F (RQ G s B br As dPr r):=by
 obtain ⟨_,_,T⟩:=JD;refine Xo ?_;unfold Uy;refine h.new λb2 F1 h=> ?_;refine (yA K h.swap).mono ?_;rintro _ F2 ⟨nm,ra,rfl,h1,h⟩;refine ⟨_,rfl,?_⟩;refine h.new λb3 F3 h=> ?_;refine h.put0 (w':=prA nm 0 Sl.nil Sl.nil 0 false 0 Sl.nil false 0 0 0 0) rfl rfl (by simp [ai,Sl.v]) λF4 h=> ?_;refine (ba K h.swap).mono ?_;rintro _ F5 ⟨le,rb,rfl,h2,h⟩;refine ⟨_,rfl,h.set1 (w':=prA nm le Sl.nil Sl.nil 0 false 0 Sl.nil false 0 0 0 0) (by show 1<13;decide) rfl λF6 h=> ?_⟩;refine (f7 K h).mono ?_;rintro _ F4 ⟨m,rm,rfl,hr,hm,hm2,h⟩;have hmB:=fj K h hm hm2;refine ⟨_,rfl,?_⟩;have h:=(h.nilOwn 69 2).swap;refine ⟨λmm i F'=>∃(k:Nat) (G':PH) (sl:Sl) (xs:List Sy) (rk:Option Δ),i=(k:Int)/\mm=k/\k<=m/\G.le G'/\xs.length+k=m/\Rk dSy rm m xs k rk/\St G' F' (rrS s B br rk::own sl 69 2 (yt xs)::pt b3 (.cells (prA nm le sl Sl.nil 0 false 0 Sl.nil false 0 0 0 0) 67)::pt b2 (.cells zP 67)::As),m,⟨m,G,Sl.nil,[],rm,rfl,rfl,XA _,am _,by simp,Rk.start,h⟩,?_⟩;rintro mm i F5 ⟨k,G2,sl,xs,rk,rfl,hmm,hk,l2,hx,hR,h⟩;have K:=K.le l2;have fin2:(k=0\/rk=none)->rU (some (Addr.mk br 0 none)) b2 b3 (RQ G s B br As dPr r) F5:=λhc=>by obtain ⟨G3,l3,hd,h6⟩:=h.swap.pinO;refine IT (K.le l3) h6 λG' F' n la y r' l4 hy hn hla h=> ?_;exact ⟨_,⟨nm,le,xs,y.1,y.2.1,y.2.2.1 - 1,y.2.2.2.1,y.2.2.2.2⟩,r',G',rfl,Res.map _ (h1.pair (h2.pair ((hR.fin hr hc).pair hy))),aa l2 (aa l3 l4),⟨sl,n,la,rfl,(IU.2 hd).le l4,hn,hla⟩,h⟩
 unfold ID;refine ⟨λhp=>⟨_,rfl,_,by rw [av];exact h.rbad,λhb=> ?_,λhb=>fin2 (.inr (by cases rk with|none=>rfl|some l=>cases hb))⟩,λhn=>fin2 (.inl (by omega))⟩;obtain ⟨li,rfl⟩:∃li,rk=some li:=by cases rk with|none=>cases hb|some l=>exact ⟨l,rfl⟩
 obtain ⟨k,rfl⟩:∃k',k=k'+1:=⟨k - 1,by omega⟩;refine (Jg K h).mono ?_;rintro _ Fa ⟨z1,ra',rfl,g1,h⟩;refine ⟨_,rfl,?_⟩;refine h.new λb7 Fb h=> ?_;refine h.put0 (w':= #[.bool z1,vi 0]) rfl rfl (by simp [ai]) λFc h=> ?_;refine (ba K h.swap).mono ?_;rintro _ Fd ⟨z2,rc,rfl,g2,h⟩;refine ⟨_,rfl,h.set1 (w':= #[.bool z1,vi z2]) (by show 1<2;decide) rfl λFe h=> ?_⟩;refine ⟨_,h.ld3 rfl,_,rfl,h.whole1,rfl,?_⟩;have h:=h.swap.tail;have hsl:sl.len=xs.length:=(IU.2 (bj.rd (h.ownAt (i:=1) rfl).1)).len (by decide);refine h.push1 T (c:=Sy.arr ⟨z1,z2⟩) rfl (by simp [ai]) (by omega) λs' G3 F6 l3 h hl'=> ?_;refine h.set2 (w':=prA nm le s' Sl.nil 0 false 0 Sl.nil false 0 0 0 0) (by show 2<13;decide) rfl λF7 h=> ?_;rw [dW (by omega) (by omega),Yf];refine ⟨k,by omega,k,G3,s',xs++[⟨z1,z2⟩],rc,rfl,rfl,by omega,aa l2 l3,by rw [N3,XJ];omega,hR.step (show Res dSy (some li) ⟨z1,z2⟩ rc from Res.map _ (g1.pair g2)),?_⟩;have e:yt (xs++[⟨z1,z2⟩])=yt xs++(Sy.arr ⟨z1,z2⟩).toList:=by unfold yt;rw [XU,Yn]
 rw [e];exact h
end
theorem kK {F:PH} {a:Addr} {y:Int} {K:Int->Prop} (h:F.cell a=some (vi y)):(∃v:Int,F.cell a=some (.int .i64 v)/\K v)↔K y:=
 ⟨λ⟨v,hv,k⟩=>by rw [h] at hv;cases hv;exact k,λk=>⟨y,h,k⟩⟩
theorem Df {k:Int} (h:0<=k/\k<=4):lM k=ar k/\0<=ar k:=by
 unfold lM ar;split
 ·exact ⟨rfl,by omega⟩
 ·split
  ·exact ⟨rfl,by omega⟩
  ·rw [if_pos (by omega)];exact ⟨rfl,by omega⟩
theorem yu {k:Int} (h:0<=ar k):0<=k/\k<=4:=by have:=qL h;omega
section
variable {F:PH}
theorem AL {s:Sl} {l:List Nd} (hs:RdS F s 5 (cX l)) {i:Nat} {x:Nd} (hx:l[i]? =some x) (hi9:(i:Int)<9223372036854775807):ae prog 236 #[s.v,vi i] F λr F'=>(∃b:Bool,r=.bool b/\(b=true↔okN i x))/\F.le F':=by
 obtain ⟨a,ha,hrow⟩:=rdn hs hx;have hlen:=hs.nlen;have hi:=(N6.1 hx).1;refine Tc ?_;unfold MT;refine ⟨a,ha,by omega,by omega,x.arr,rfl,hrow,λb5 hb5=> ?_⟩;refine atI ?_;refine stW (aq _ _ _) rfl rfl (dY x) ?_;rw [aU];have l5:F.le (F.set b5 (.cells x.arr 97)):=ac _ hb5;have q5:=aq F b5 (.cells x.arr 97);generalize F.set b5 (.cells x.arr 97)=F1 at*;have c0:F1.cell (Addr.mk b5 0 none)=some (vi x.k):=by rw [an q5];rfl
 have c1:F1.cell (Addr.mk b5 1 none)=some (vi x.lo):=by rw [an q5];rfl
 have c2:F1.cell (Addr.mk b5 2 none)=some (vi x.hi):=by rw [an q5];rfl
 have c3:F1.cell (Addr.mk b5 3 none)=some (vi x.a):=by rw [an q5];rfl
 have c4:F1.cell (Addr.mk b5 4 none)=some (vi x.b):=by rw [an q5];rfl
 refine ⟨x.k,c0,?_⟩;refine (kg F1 x.k).mono ?_;rintro _ F2 ⟨rfl,e⟩;obtain rfl:=e.symm;have K:∀b:Bool,(b=true↔okN i x)->(∃b':Bool,Value.bool b=.bool b'/\(b'=true↔okN i x))/\F.le F1:=λb hb=>⟨⟨b,rfl,hb⟩,l5⟩;refine ⟨_,_,rfl,λhk=>K _ ?_,λhk=> ?_⟩
 ·have hk':¬(0<=x.k/\x.k<=4):=by
   have:decide (0<=x.k/\x.k<=4)=false:=by simpa only [eR,YI] using hk
   exact of_decide_eq_false this
  exact ⟨λh=>by (cases h),λh=>absurd (yu h.1) hk'⟩
 have hk':0<=x.k/\x.k<=4:=by simpa [eR] using hk
 obtain ⟨hn,hn0⟩:=Df hk';rw [hn];clear hk hn;have f1:∀(P:Prop),¬P->(false=true↔P):=λP h=>⟨λh=>by (cases h),λh'=>absurd h' h⟩;have t1:∀(P:Prop),P->(true=true↔P):=λP h=>⟨λ_=>h,λ_=>rfl⟩;have j2:(ar x.k<1->x.a=0)->(ar x.k<2->x.b=0)->(x.k=1->0<=x.lo/\x.lo<=x.hi/\x.hi<=255)->(x.k≠1->x.lo=0/\x.hi=0)->jT i b5 (ar x.k) (λr F'=>(∃b':Bool,r=.bool b'/\(b'=true↔okN i x))/\F.le F') F1:=λha hb h1 h2=>by have e:okN i x↔(1<=ar x.k->0<=x.a/\x.a<i)/\(2<=ar x.k->0<=x.b/\x.b<i):=⟨λh=>⟨h.2.2.2.2.2.1,h.2.2.2.2.2.2⟩,λh=>⟨hn0,h1,h2,ha,hb,h.1,h.2⟩⟩;unfold jT;simp only [kK c3,kK c4];refine ⟨λh=>⟨λh'=>K _ (t1 _ (e.2 ⟨by omega,by omega⟩)),λh'=>absurd h' (by omega)⟩,λh=>⟨λh3=>⟨λh4=>⟨λh5=>K _ (t1 _ (e.2 ⟨λ_=>⟨h3,h4⟩,by omega⟩)),λh5=>⟨λh6=>K _ ?_,λh6=>K _ (f1 _ λho=>h6 ((e.1 ho).2 (by omega)).1)⟩⟩,λh4=>K _ (f1 _ λho=>h4 ((e.1 ho).1 (by omega)).2)⟩,λh3=>K _ (f1 _ λho=>h3 ((e.1 ho).1 (by omega)).1)⟩⟩;rw [decide_eq_true_eq,e];exact ⟨λh7=>⟨λ_=>⟨h3,h4⟩,λ_=>⟨h6,h7⟩⟩,λh7=>(h7.2 (by omega)).2⟩
 have j1:(x.k=1->0<=x.lo/\x.lo<=x.hi/\x.hi<=255)->(x.k≠1->x.lo=0/\x.hi=0)->ph i b5 (ar x.k) (λr F'=>(∃b':Bool,r=.bool b'/\(b'=true↔okN i x))/\F.le F') F1:=λh1 h2=>by unfold ph;simp only [kK c3,kK c4];refine ⟨λh=>⟨λh3=>K _ (f1 _ λho=>h3 (ho.2.2.2.1 h)),λh3=>⟨λh4=>⟨λh5=>K _ (f1 _ λho=>h5 (ho.2.2.2.2.1 h4)),λh5=>j2 (λ_=>by omega) (λ_=>by omega) h1 h2⟩,λh4=>absurd h4 (by omega)⟩⟩,λh=>⟨λh4=>⟨λh5=>K _ (f1 _ λho=>h5 (ho.2.2.2.2.1 h4)),λh5=>j2 (λh=>by omega) (λ_=>by omega) h1 h2⟩,λh4=>j2 (λh=>by omega) (λh=>by omega) h1 h2⟩⟩
 simp only [kK c0,kK c1,kK c2]
 refine ⟨λh=>⟨λh1=>K _ (f1 _ λho=>h1 (ho.2.2.1 h).1),λh1=>⟨λh2=>K _ (f1 _ λho=>h2 (ho.2.2.1 h).2),λh2=>⟨λh3=>absurd h3 (by omega),λh3=>⟨λh4=>absurd h4 (by omega),λh4=>⟨λh5=>absurd h5 (by omega),λh5=>j1 (λh6=>absurd h6 h) (λ_=>⟨by omega,by omega⟩)⟩⟩⟩⟩⟩,
  λh=>⟨λh1=>K _ (f1 _ λho=>by have:=ho.2.1 (by omega);omega),λh1=>⟨λh2=>K _ (f1 _ λho=>by have:=ho.2.1 (by omega);omega),λh2=>⟨λh3=>K _ (f1 _ λho=>by have:=ho.2.1 (by omega);omega),λh3=>j1 (λ_=>⟨by omega,by omega,by omega⟩) (λh6=>absurd (by omega) h6)⟩⟩⟩⟩
def oF (n:Nat) (W:Φ):Ξ:=(List.range n).map λ(i:Nat)=>vi (W.count (i:Int):Nat)
theorem IV {n:Nat} {W:Φ} {i:Nat} (hi:i<n):(oF n W).toArray[i]? =some (vi (W.count (i:Int):Nat)):=by simp [oF,hi]
theorem IW (n:Nat) (W:Φ) (i:Nat) (hi:i<n):(oF n W).toArray.setIfInBounds i (vi ((W.count (i:Int)+1:Nat):Int))=(oF n ((i:Int)::W)).toArray:=by
 apply Array.ext';rw [Array.toList_setIfInBounds];apply Yd;intro j;rw [YL];simp only [oF,XH,Ym,XM];by_cases h:i=j
 ·subst h;rw [if_pos rfl,if_pos hi,Yi hi];simp
 ·rw [if_neg h];by_cases hj:j<n
  ·rw [Yi hj];simp only [Yj];rw [List.count_cons_of_ne (by omega)]
  ·rw [X8 (by simp;omega)];rfl
structure Cnt (F0 F:PH) (u n:Nat) (W:Φ):Prop where
 zu:F0 u=none
 le:F0.le F
 qu:F u=some (.cells (oF n W).toArray 3)
theorem Cnt.cell {F0 F:PH} {u n:Nat} {W:Φ} (h:Cnt F0 F u n W) {k:Int} (h0:0<=k) (h1:k<n):F.cell ((Addr.mk u 0 none).add (Int.toNat k*1))=some (vi (W.count k:Nat)):=by obtain ⟨i,rfl⟩:=YU h0;rw [N5,XS,show (Addr.mk u 0 none).add i=⟨u,i,none⟩ by simp [Addr.add,XZ];omega,an h.qu];exact IV (by omega)
theorem Cnt.inc {F0 F:PH} {u n:Nat} {W:Φ} (h:Cnt F0 F u n W) {k:Int} (h0:0<=k) (h1:k<n) (hW:W.length<=100000) {K:Ψ} (hk:∀F',Cnt F0 F' u n (k::W)->K F'):
  ∃c e,F (Addr.add (Addr.mk u 0 none) (Int.toNat k*1)).block=some (.cells c e (0,0))/\(Addr.add (Addr.mk u 0 none) (Int.toNat k*1)).spot=none/\(Addr.add (Addr.mk u 0 none) (Int.toNat k*1)).off<c.size/\
   atF (F.set (Addr.add (Addr.mk u 0 none) (Int.toNat k*1)).block (.cells (c.setIfInBounds (Addr.add (Addr.mk u 0 none) (Int.toNat k*1)).off (.int .i64 (IntKind.i64.wrap ((W.count k:Nat)+(1:Int))))) e)) K:=by
 obtain ⟨i,rfl⟩:=YU h0;have hc:W.count (i:Int)<=W.length:=List.count_le_length;rw [fC (by omega)];refine qZ (b:=u) (o:=i) (by rw [N5,XS];simp [Addr.add];omega) h.qu (by simp [oF];omega) ?_;rw [IW n W i (by omega)];exact hk _ ⟨h.zu,aA h.le h.zu,aq _ _ _⟩
theorem Dg:∀(l:List Nd),(usL l).length<=2*l.length
 |[]=>XA _
 |x::l=>by
  have:=Dg l;have:(us x).length<=2:=by unfold us;split<;>(try split)<;>simp
  simp only [usL,N3,XI];omega
def IX (l:List Nd) (j:Nat):Prop:=∀i x,i<j->l[i]? =some x->okN i x
theorem EG {l:List Nd} {j:Nat} (h:IX l j):∀k∈usL (l.take j),0<=k/\k+1<j:=by
 induction j with
 |zero=>intro k hk;simp [usL] at hk
 |succ j ih=>
  intro k hk;by_cases hj:j<l.length
  ·have hx:=N4 hj;have ho:=h j _ (by omega) hx;rw [Yy,hx] at hk;simp only [Option.toList_some,jb,XD] at hk;rcases hk with hk|hk
   ·unfold us at hk;obtain ⟨h0,h1,h2,h3,h4,h5,h6⟩:=ho;split at hk
    ·rename_i h2';have:=h5 (by omega);have:=h6 (by omega);simp at hk;rcases hk with rfl|rfl<;>omega
    ·split at hk
     ·rename_i h1';have:=h5 (by omega);simp at hk;subst hk;omega
     ·simp at hk
   ·have:=ih (λi x hi=>h i x (by omega)) k hk;omega
  ·rw [XK (by omega)] at hk;have:=ih (λi x hi=>h i x (by omega)) k (by rw [XK (by omega)];exact hk);omega
theorem IY {l:List Nd} (h:IX l l.length):GoodL l↔l≠[]/\∀i:Nat,i+1<l.length->(usL l).count (i:Int)=1:=by
 have hb:=EG h;rw [XF] at hb;constructor
 ·rintro ⟨h1,h2,h3,h4⟩;refine ⟨h1,λi hi=> ?_⟩;have:=List.nodup_iff_count.1 h3 (i:Int);have:=List.count_pos_iff.2 (h4 i hi);omega
 ·rintro ⟨h1,h2⟩;refine ⟨h1,λi x hx=>h i x (N6.1 hx).1 hx,List.nodup_iff_count.2 λa=> ?_,λi hi=>List.count_pos_iff.1 (by rw [h2 i hi];decide)⟩;by_cases ha:a∈usL l
  ·obtain ⟨a0,a1⟩:=hb a ha;obtain ⟨k,rfl⟩:=YU a0;rw [h2 k (by omega)];exact XA _
  ·rw [List.count_eq_zero.2 ha];omega
theorem Le:tsz prog 3=some (1,8):=by kernel_rfl
theorem Lf:bC prog 3=some (.int .i64 0):=by kernel_rfl
theorem Lh:prog.underlying 70=some (.slice 3):=by kernel_rfl
theorem kq {s:Sl} {l:List Nd} (hs:RdS F s 5 (cX l)):ae prog 218 #[s.v] F λr F'=>r=vi (fw l)/\F.le F':=by
 have hlen:=hs.nlen;refine Ta ?_;unfold MR;refine ⟨λh=>⟨?_,am F⟩,λh=> ?_⟩
 ·have e:fw l=2:=by unfold fw;rw [if_pos (by omega)]
  rw [e]
 have hl:l.length<=512:=by omega
 refine cd Lh Le Lf rfl (by omega) (Zc _) (by omega) (by omega) ?_;intro u hu;rw [zc1 _ rfl,N5,hlen];have em:(List.replicate l.length (vi 0)).toArray=(oF l.length []).toArray:=by
  congr 1;apply Yd;intro j;by_cases hj:j<l.length
  ·simp [oF,hj]
  ·rw [X8 (by simp;omega),X8 (by simp [oF];omega)]
 rw [em];refine ⟨_,rfl,?_⟩;have hU:Cnt F (F.set u (.cells (oF l.length []).toArray 3)) u l.length []:=⟨hu,ac _ hu,aq _ _ _⟩;generalize F.set u (.cells (oF l.length []).toArray 3)=F1 at*;have bad:∀{F':PH},¬GoodL l->F.le F'->vi 40=vi (fw l)/\F.le F':=λh hl'=>⟨by rw [xD hl h],hl'⟩;refine ⟨λm i F'=>∃j:Nat,i=j/\j<=l.length/\m=l.length - j/\IX l j/\Cnt F F' u l.length (usL (l.take j)),l.length,⟨0,rfl,by omega,rfl,λi x hi=>by omega,by simpa [usL] using hU⟩,?_⟩;clear hU;rintro _ _ F2 ⟨j,rfl,hj,rfl,hg,hW⟩;unfold B9;refine ⟨λhlt=> ?_,λhge=> ?_⟩
 ·have hjl:j<l.length:=by omega
  have hx:l[j]? =some l[j]:=N4 hjl;generalize l[j]=x at hx;refine (AL (hs.le hW.le) hx (by omega)).mono ?_;rintro _ F3 ⟨⟨b,rfl,hb⟩,l3⟩;have hW3:Cnt F F3 u l.length (usL (l.take j)):=⟨hW.zu,aa hW.le l3,l3 _ _ hW.qu⟩;refine ⟨b,rfl,λhbf=>bad (λhG=> ?_) hW3.le,λhbt=> ?_⟩
  ·have:=hb.2 (hG.ok j x hx);rw [this] at hbf;cases hbf
  have hok:okN j x:=hb.1 (by simpa using hbt);have hok1:IX l (j+1):=λi y hi hy=>by
   by_cases hij:i=j
   ·subst hij;rw [hx] at hy;cases hy;exact hok
   ·exact hg i y (by omega) hy
  obtain ⟨a,ha,hrow⟩:=rdn (hs.le hW3.le) hx;have hk4:=yu hok.1;obtain ⟨hn,hn0⟩:=Df hk4;have cl:∀{F':PH},F.le F'->∀(o:Nat) (y:Value),o<5->x.arr[o]? =some y->F'.cell ((a.add (j*5)).add o)=some y:=λhle o y ho hy=>by obtain ⟨a',ha',hrow'⟩:=rdn (hs.le hle) hx;rw [ha] at ha';cases ha';have:=hrow' o (by show o<5;exact ho);rw [this];rw [<- hy];exact (XV (xs:=x.arr) (i:=o) _).symm
  refine ⟨a,ha,by omega,by omega,x.k,by have:=cl hW3.le 0 (vi x.k) (by omega) rfl;exact this,?_⟩;refine (kg F3 x.k).mono ?_;rintro _ F4 ⟨rfl,e⟩;obtain rfl:=e.symm;refine ⟨_,_,rfl,?_⟩;rw [hn];have hlen2:(usL (l.take j)).length<=1024:=by have:=Dg (l.take j);rw [XL] at this;omega
  have fin:∀F',Cnt F F' u l.length (us x++usL (l.take j))->pe (λy2_0 F_1=>∃m',m'<l.length - j/\∃j:Nat,y2_0=j/\j<=l.length/\m'=l.length - j/\IX l j/\Cnt F F_1 u l.length (usL (l.take j))) s ⟨some ⟨u,0,none⟩,l.length,l.length⟩ j (λr F'=>r=vi (fw l)/\F.le F') F':=λF' hF'=>by unfold pe;refine ⟨l.length - (j+1),by omega,j+1,fC (by omega),hjl,rfl,hok1,?_⟩;rw [Yy,hx];show Cnt F F' u l.length (usL (l.take j++[x]));rw [jb];exact hF'
  refine ⟨λh1=> ?_,λh1=> ?_⟩
  ·obtain ⟨a0,a1⟩:=hok.2.2.2.2.2.1 h1;refine ⟨a,ha,by omega,by omega,x.a,cl hW3.le 3 (vi x.a) (by omega) rfl,_,rfl,a0,by simp only;omega,_,hW3.cell a0 (by omega),_,rfl,a0,by simp only;omega,?_⟩;refine hW3.inc a0 (by omega) (by omega) λF5 hW5=> ?_;unfold pg;refine ⟨λh2=> ?_,λh2=> ?_⟩
   ·obtain ⟨b0,b1⟩:=hok.2.2.2.2.2.2 h2;refine ⟨a,ha,by omega,by omega,x.b,cl hW5.le 4 (vi x.b) (by omega) rfl,_,rfl,b0,by simp only;omega,_,hW5.cell b0 (by omega),_,rfl,b0,by simp only;omega,?_⟩;refine hW5.inc b0 (by omega) (by simp only [XI];omega) λF6 hW6=>fin F6 ?_;have:us x=[x.b,x.a]:=by unfold us;rw [if_pos h2]
    rw [this];exact hW6
   ·refine fin F5 ?_;have:us x=[x.a]:=by unfold us;rw [if_neg h2,if_pos h1]
    rw [this];exact hW5
  ·unfold pg;refine ⟨λh2=>absurd h2 (by omega),λh2=>fin F3 ?_⟩;have:us x=[]:=by unfold us;rw [if_neg h2,if_neg h1]
   rw [this];exact hW3
 ·obtain rfl:j=l.length:=by omega
  rw [XF] at hW;have hgc:=IY hg;unfold B8;have ew:IntKind.i64.wrap ((s.len:Int) - 1)=(l.length:Int) - 1:=by rw [hlen,aH (by omega) (by omega)]
  refine ⟨λm i F'=>∃j:Nat,i=j/\j<=l.length/\m=l.length - j/\F'=F2/\∀i:Nat,i<j->(usL l).count (i:Int)=1,l.length,⟨0,rfl,by omega,rfl,rfl,λi hi=>by omega⟩,?_⟩;rintro _ _ F3 ⟨j,rfl,hj',rfl,e3,hall⟩;obtain rfl:=e3.symm;unfold B7;rw [ew];refine ⟨λhlt=> ?_,λhge=> ?_⟩
  ·refine ⟨_,rfl,by omega,by simp only;omega,_,hW.cell (k:=(j:Int)) (by omega) (by omega),λhm=>bad (λhG=> ?_) hW.le,λhm=>⟨l.length - (j+1),by omega,j+1,fC (by omega),by omega,rfl,rfl,λi hi=> ?_⟩⟩
   ·have:=(hgc.1 hG).2 j (by omega);rw [this] at hm;exact hm rfl
   ·by_cases hij:i=j
    ·subst hij;omega
    ·exact hall i (by omega)
  ·unfold B6;refine ⟨λh0=>bad (λhG=>hG.ne (Yg.1 (by omega))) hW.le,λh0=>⟨?_,hW.le⟩⟩;rw [tS hl (hgc.2 ⟨λe=>by rw [e] at hlen;simp at hlen;omega,λi hi=>hall i (by omega)⟩)]
end
abbrev PrQ:=Nat×Nat
section
end
section
end
end Go.Proofs.YtenpmjhnhepfdaaGreatDoor
namespace Go.Proofs.YtenpmjhnhepfdaaGreatDoor
set_option maxRecDepth 10000
structure Two where
 acc:PrQ->Nat->Prop
 lnk:PrQ->PrQ->Prop
 ini:PrQ->Prop
 fin:PrQ->Prop
namespace Two
end Two
section
end
section
end
end Go.Proofs.YtenpmjhnhepfdaaGreatDoor
namespace Go.Proofs.YtenpmjhnhepfdaaGreatDoor
open Go Go.Proofs.Tryz
set_option maxRecDepth 10000
structure Ov (e:TypeId) (G F:PH) (s:Sl) (vs:Ξ):Prop where
 le:G.le F
 own:bj F e 1 s vs
 oz:∀a,s.base=some a->G a.block=none
section
variable {e:TypeId} {G F:PH} {s:Sl} {vs:Ξ}
theorem Ov.fresh (h:Ov e G F s vs) {x:Nat} (hx:F x=none) (o:Obj):Ov e G (F.set x o) s vs:=
 ⟨aa h.le (ac o hx),h.own.keep λa ha=>by
  obtain ⟨o',ho⟩:=h.own.som ha
  exact aC _ _ (aJ hx ho),h.oz⟩
theorem Ov.len (h:Ov e G F s vs):s.len=vs.length:=by have:=h.own.rd.len;omega
theorem Ov.push {t bytes:Nat} {z:Value} (ht:prog.underlying t=some (.slice e)) (hsz:tsz prog e=some (1,bytes)) (hz:bC prog e=some z) (hzs:z.cells.size=1) (hby:bytes<=64) (h:Ov e G F s vs) {v:Value} (hst:ai v) (hl:s.len<=1000000) {K:Sl->Ψ} (k:∀s' F',Ov e G F' s' (vs++[v])->K s' F'):
  ∀x,F x=none->atF (F.set x (.cells #[v] e)) λF=>
   aG prog (Builtin.append_ #[t,t] t #[(Sl.v s),(Sl.v (Sl.mk (some (Addr.mk x 0 none)) 1 1))]) F λv F=>∃s':Sl,v=(Sl.v s')/\K s' F:=by
 intro x hx;refine atI ?_;have h1:=h.fresh hx (.cells #[v] e);have q1:=aq F x (.cells #[v] e);generalize F.set x (.cells #[v] e)=F1 at*;have hb:(s.len+1)*bytes<=1000001*64:=Nat.mul_le_mul (by omega) hby;refine iw (F0:=G) (x:=⟨some ⟨x,0,none⟩,1,1⟩) (news:=[v]) ht hsz hz hzs (by decide) h1.le h1.own h1.oz (RdS.new q1 rfl rfl (XA _)) (λw hw=>by rw [XC] at hw;subst hw;exact hst) (by simp only;omega) (by simp only;omega) ?_;intro s' F2 le2 ho2 hl2 hnew keep hsome;exact ⟨s',rfl,k s' F2 ⟨le2,ho2,hnew⟩⟩
end
section
end
def slc (w:Δ) (f e:Nat):Δ:=(w.drop f).take (e - f)
theorem iC {w:Δ} {f e:Nat} (h:f<=e) (he:e<=w.length):(slc w f e).length=e - f:=by unfold slc;rw [XL,Yp];omega
theorem sO {w:Δ} {f m e:Nat} (h1:f<=m) (h2:m<=e):slc w f m++slc w m e=slc w f e:=by unfold slc;obtain ⟨a,rfl⟩:=Nat.exists_eq_add_of_le h1;obtain ⟨b,rfl⟩:=Nat.exists_eq_add_of_le h2;rw [show f+a - f=a by omega,show f+a+b - (f+a)=b by omega,show f+a+b - f=a+b by omega,<- List.drop_drop,List.take_add]
theorem uw {w:Δ} {f e:Nat} (h:f<=e) (he:e<=w.length) {u v:Δ} (hw:slc w f e=u++v):∃m,f<=m/\m<=e/\slc w f m=u/\slc w m e=v:=by
 have hl:=iC h he;rw [hw,N3] at hl;have h1:f<=f+u.length:=by omega
 have h2:f+u.length<=e:=by omega
 have hj:=sO (w:=w) h1 h2;rw [hw] at hj;have:=List.append_inj hj (by rw [iC h1 (by omega)];omega);exact ⟨f+u.length,h1,h2,this.1,this.2⟩
theorem Dh {w:Δ} {f e:Nat} (h:f<=e) (he:e<=w.length) (hw:slc w f e=[]):f=e:=by have:=iC h he;rw [hw] at this;simp at this;omega
theorem yv (w:Δ) (f:Nat):slc w f f=[]:=by simp [slc]
theorem Di {w:Δ} {f:Nat} (h:f<w.length):slc w f (f+1)=[w[f]]:=by unfold slc;rw [show f+1 - f=1 by omega,List.drop_eq_getElem_cons h];rfl
def Bh (P:Δ->Prop) (w fr:Δ) (e:Nat):Prop:=∃f∈fr,f<=e/\e<=w.length/\P (slc w f e)
theorem Qb {w fr:Δ} (hf:∀f∈fr,f<=w.length) (e:Nat):Bh (Lg .emp) w fr e↔e∈fr:=by
 constructor
 ·rintro ⟨f,hm,h1,h2,h3⟩;have:f=e:=Dh h1 h2 h3;subst this;exact hm
 ·intro h;exact ⟨e,h,XA _,hf e h,yv _ _⟩
theorem Qc {x y:Pat} {w fr o:Δ} (ho:∀e,e∈o↔Bh (Lg x) w fr e) (e:Nat):Bh (Lg y) w o e↔Bh (Lg (.seq x y)) w fr e:=by
 constructor
 ·rintro ⟨m,hm,h1,h2,h3⟩;obtain ⟨f,hf,g1,g2,g3⟩:=(ho m).1 hm;exact ⟨f,hf,by omega,h2,_,_,(sO g1 h1).symm,g3,h3⟩
 ·rintro ⟨f,hf,h1,h2,u,v,e1,hu,hv⟩;obtain ⟨m,m1,m2,rfl,rfl⟩:=uw h1 h2 e1;exact ⟨m,(ho m).2 ⟨f,hf,m1,by omega,hu⟩,m2,h2,hv⟩
theorem Qd {x y:Pat} {w fr:Δ} (e:Nat):Bh (Lg (.alt x y)) w fr e↔Bh (Lg x) w fr e\/Bh (Lg y) w fr e:=by
 constructor
 ·rintro ⟨f,hf,h1,h2,h3|h3⟩
  ·exact .inl ⟨f,hf,h1,h2,h3⟩
  ·exact .inr ⟨f,hf,h1,h2,h3⟩
 ·rintro (⟨f,hf,h1,h2,h3⟩|⟨f,hf,h1,h2,h3⟩)
  ·exact ⟨f,hf,h1,h2,.inl h3⟩
  ·exact ⟨f,hf,h1,h2,.inr h3⟩
theorem jY.append {P:Δ->Prop} {u v:Δ} (hu:jY P u) (hv:P v):jY P (u++v):=by
 induction hu with
 |nil=>have:=jY.cons hv .nil;rw [Ye] at this;exact this
 |cons h _ ih=>rw [Xz];exact .cons h ih
theorem Lj {x:Pat} {w fr o:Δ} (ho:∀e∈o,Bh (Lg (.rep x)) w fr e) {e:Nat} (h:Bh (Lg x) w o e):Bh (Lg (.rep x)) w fr e:=by obtain ⟨m,hm,h1,h2,h3⟩:=h;obtain ⟨f,hf,g1,g2,g3⟩:=ho m hm;refine ⟨f,hf,by omega,h2,?_⟩;rw [<- sO g1 h1];exact jY.append g3 h3
theorem Qe {x:Pat} {w fr o:Δ} (hi:∀f∈fr,f∈o) (ho:∀e∈o,Bh (Lg (.rep x)) w fr e) (hc:∀e,Bh (Lg x) w o e->e∈o) (e:Nat):e∈o↔Bh (Lg (.rep x)) w fr e:=by
 refine ⟨ho e,?_⟩;rintro ⟨f,hf,h1,h2,h3⟩;have key:∀u,jY (Lg x) u->∀f,f∈o->f<=e->slc w f e=u->e∈o:=by
  intro u hu;induction hu with
  |nil=>intro f hf h1 hs;have:=Dh h1 h2 hs;subst this;exact hf
  |cons hu _ ih=>intro f hf h1 hs;obtain ⟨m,m1,m2,rfl,e2⟩:=uw h1 h2 hs;exact ih m (hc m ⟨f,hf,m1,by omega,hu⟩) m2 e2
 exact key _ h3 f (hi f hf) h1 rfl
def tog:Δ->Δ->Δ
 |o,[]=>o
 |o,m::ms=>tog (if m∈o then o else o++[m]) ms
theorem yw (m:Nat):∀(ms o:Δ),tog o (ms++[m])=if m∈tog o ms then tog o ms else tog o ms++[m]
 |[],o=>rfl
 |k::ms,o=>yw m ms _
theorem iD (e:Nat):∀(ms o:Δ),e∈tog o ms↔e∈o\/e∈ms
 |[],o=>by simp [tog]
 |m::ms,o=>by
  rw [tog,iD e ms];split
  ·rename_i h;simp only [XB];constructor
   ·rintro (h1|h1)
    ·exact .inl h1
    ·exact .inr (.inr h1)
   ·rintro (h1|rfl|h1)
    ·exact .inl h1
    ·exact .inl h
    ·exact .inr h1
  ·simp only [XD,XB,Yq,or_false,or_assoc]
theorem nL:∀(ms o:Δ),o.Nodup->(tog o ms).Nodup
 |[],o,h=>h
 |m::ms,o,h=>by
  rw [tog];refine nL ms _ ?_;split
  ·exact h
  ·rename_i hm;exact X4.2 ⟨h,by simp,λa ha b hb e=>hm (by simp at hb;subst hb;subst e;exact ha)⟩
theorem wL:∀(ms o:Δ),∃k,tog o ms=o++k
 |[],o=>⟨[],by simp [tog]⟩
 |m::ms,o=>by
  rw [tog];obtain ⟨k,hk⟩:=wL ms (if m∈o then o else o++[m]);rw [hk];split
  ·exact ⟨k,rfl⟩
  ·exact ⟨[m]++k,by simp⟩
theorem Ll (ms o:Δ):(tog o ms).length<=o.length+ms.length:=by
 induction ms generalizing o with
 |nil=>simp [tog]
 |cons m ms ih=>rw [tog];refine X1 (ih _) ?_;split<;>simp<;>omega
theorem IZ {ms o:Δ} (h:(tog o ms).length<=o.length):∀m∈ms,m∈o:=by obtain ⟨k,hk⟩:=wL ms o;rw [hk,N3] at h;have:k=[]:=Yg.1 (by omega);subst this;intro m hm;have:=(iD m ms o).2 (.inr hm);rw [hk] at this;simpa using this
theorem iE {o:Δ} {n:Nat} (h:o.Nodup) (hb:∀e∈o,e<=n):o.length<=n+1:=nodup_bound' (n+1) o h λe he=>by have:=hb e he;omega
where nodup_bound':∀(n:Nat) (ns:Δ),ns.Nodup->(∀j∈ns,j<n)->ns.length<=n
 |0,[],_,_=>XA _
 |0,j::ns,_,h=>absurd (h j (by simp)) (by omega)
 |n+1,ns,hn,h=>by
  by_cases hm:n∈ns
  ·have:=nodup_bound' n (ns.erase n) (hn.erase n) λj hj=>by
    have h1:=h j (List.mem_of_mem_erase hj);have h2:j≠n:=λe=>by rw [e] at hj;exact (hn.not_mem_erase hj)
    omega
   rw [List.length_erase_of_mem hm] at this;omega
  ·have:=nodup_bound' n ns hn λj hj=>by have h1:=h j hj;have h2:j≠n:=λe=>hm (e▸hj);omega
   omega
def il (ns:Δ):Ξ:=ns.map λ(n:Nat)=>vi n
theorem I0 (a b:Δ):il (a++b)=il a++il b:=by simp [il]
theorem Vp (a:Δ):∀v∈il a,ai v:=λv hv=>by obtain ⟨n,_,rfl⟩:=X3.1 hv;exact ⟨λ_ h=>(by cases h),λ_ h=>(by cases h)⟩
section
variable {F:PH}
theorem nN {s:Sl} {ns:Δ} (h:RdS F s 1 (il ns)):s.len=ns.length:=by have:=h.len;simp [il] at this;omega
theorem wM {s:Sl} {ns:Δ} (h:RdS F s 1 (il ns)) {i:Nat} (hi:i<ns.length):∃a,s.base=some a/\F.cell (a.add (Int.toNat (i:Int)*1))=some (vi (ns[i]:Nat)):=by have hl:=nN h;obtain ⟨b,o,hb,_⟩:=h.cells (by omega);refine ⟨_,hb,?_⟩;rw [N5,XS];have:=h.cell hb (i:=i) (by simp [il];exact hi);rw [this];simp [il]
theorem Dk {s:Sl} {ns:Δ} (h:RdS F s 1 (il ns)) (hn:ns.length<=1000000) (n:Nat):ae prog 238 #[s.v,vi n] F λr F'=>r=.bool (decide (n∈ns))/\F'=F:=by
 have hl:=nN h;refine Te ?_;unfold MV;refine ⟨λm i F'=>∃j:Nat,i=j/\j<=ns.length/\m=ns.length - j/\F'=F/\n ∉ ns.take j,ns.length,⟨0,rfl,by omega,rfl,rfl,by simp⟩,?_⟩;rintro _ _ F' ⟨j,rfl,hj,rfl,e,hno⟩;obtain rfl:=e.symm;unfold Cc;refine ⟨λhlt=> ?_,λhge=> ?_⟩
 ·have hjl:j<ns.length:=by omega
  obtain ⟨a,ha,hc⟩:=wM h hjl;refine ⟨a,ha,by omega,by omega,_,hc,λhe=>⟨?_,rfl⟩,λhe=>⟨ns.length - (j+1),by omega,j+1,fC (by omega),by omega,rfl,rfl,?_⟩⟩
  ·have:n=ns[j]:=by omega
   rw [decide_eq_true (by rw [this];exact Yv hjl)]
  ·rw [Yy,N4 hjl];simp only [Option.toList_some,XD,XC];rintro (h1|h1)
   ·exact hno h1
   ·exact he (by omega)
 ·unfold Cb;obtain rfl:j=ns.length:=by omega
  rw [XF] at hno;exact ⟨by rw [decide_eq_false hno],rfl⟩
def IlV (F:PH) (v:Value) (o:Δ):Prop:=∃s:Sl,v=s.v/\RdS F s 1 (il o)
theorem mP {s s2:Sl} {ns ms:Δ} (h:RdS F s 1 (il ns)) (h2:RdS F s2 1 (il ms)) (hn:ns.length<=200000) (hm:ms.length<=200000):ae prog 243 #[s.v,s2.v] F λr F'=>IlV F' r (tog ns ms)/\F.le F':=by
 have hl:=nN h;have hl2:=nN h2;refine Tg ?_;unfold MW;intro b4 hb4;refine atI ?_;have l4:=ac (.cells #[] 3) hb4;have q4:=aq F b4 (.cells #[] 3);generalize F.set b4 (.cells #[] 3)=F4 at*;have ho:bj F4 3 1 ⟨some ⟨b4,0,none⟩,0,0⟩ (il []):=.inr ⟨b4,#[],rfl,q4,rfl,XA _,rfl,rfl⟩;refine iw (F0:=F) Lh Le Lf rfl (by decide) l4 ho (λa ha=>by cases ha;exact hb4) (h.le l4) (Vp ns) (by simp only;omega) (by simp only;omega) ?_;intro s' F5 le5 ho5 hl5 hnew5 _ _;rw [show il []++il ns=il ns from rfl] at ho5;refine ⟨s',rfl,λm o i F'=>∃j:Nat,i=j/\j<=ms.length/\m=ms.length - j/\Ov 3 F F' o (il (tog ns (ms.take j))),ms.length,⟨0,rfl,by omega,rfl,⟨le5,by simpa [tog] using ho5,hnew5⟩⟩,?_⟩;clear hnew5 ho5 le5 l4 q4 hb4 ho;rintro _ o _ F6 ⟨j,rfl,hj,rfl,hO⟩;unfold Ck;refine ⟨λhlt=> ?_,λhge=> ?_⟩
 ·have hjl:j<ms.length:=by omega
  have hlen:(tog ns (ms.take j)).length<=400000:=by have:=Ll (ms.take j) ns;rw [XL] at this;omega
  have hx:ms[j]? =some ms[j]:=N4 hjl;obtain ⟨a,ha,hc⟩:=wM (h2.le hO.le) hjl;refine ⟨a,ha,by omega,by omega,_,hc,?_⟩;refine (Dk hO.own.rd (by omega) _).mono ?_;rintro _ F7 ⟨rfl,e⟩;obtain rfl:=e.symm;have htk:tog ns (ms.take (j+1))=if ms[j]∈tog ns (ms.take j) then tog ns (ms.take j) else tog ns (ms.take j)++[ms[j]]:=by rw [Yy,hx];exact yw _ _ _
  refine ⟨_,rfl,λhno=>⟨a,ha,by omega,by omega,_,hc,?_⟩,λhin=> ?_⟩
  ·have hno':ms[j] ∉ tog ns (ms.take j):=by simpa using hno
   rw [if_neg hno'] at htk;refine hO.push (t:=70) Lh Le Lf rfl (by decide) ⟨λ_ h=>(by cases h),λ_ h=>(by cases h)⟩ (by rw [hO.len];simp [il];omega) λs' F' h'=> ?_;unfold pm;refine ⟨ms.length - (j+1),by omega,j+1,fC (by omega),by omega,rfl,?_⟩;rw [htk,I0];exact h'
  ·have hin':ms[j]∈tog ns (ms.take j):=by simpa using hin
   rw [if_pos hin'] at htk;unfold pm;refine ⟨ms.length - (j+1),by omega,j+1,fC (by omega),by omega,rfl,?_⟩;rw [htk];exact hO
 ·unfold Cj;obtain rfl:j=ms.length:=by omega
  rw [XF] at hO;exact ⟨⟨_,rfl,hO.own.rd⟩,hO.le⟩
end
end Go.Proofs.YtenpmjhnhepfdaaGreatDoor
