/-
  Package facts: Cyclic, Check.
-/
import Derived.Test.YtcemhghkipgdiaaGreatDoorAc
import Derived.Test.YtcemhghkipgdiaaGreatDoorAy
namespace Go.Proofs.YtcemhghkipgdiaaGreatDoor
open Go Go.Proofs.Tryz Tr
set_option maxRecDepth 10000
section
end
theorem RL.cut {α:Type} [Mem α] {G:PH} {s:Sl} {l:List α} {n k:Nat} (h:RL G s l) (hn:Mem.n α=n) (hk:k<=s.len):RL G (Sl.cut s n 0 k s.cap) (l.take k):=by subst hn;obtain ⟨vs,hr,hd⟩:=h;refine ⟨vs.take k,hr.take k,?_⟩;have:=hd.cut (l:=0) (r:=k) (m:=s.cap) (by omega) hk (by have:=hd.cap;omega);rw [V5,Vz,We,hr.cat_take] at this;exact this
section
variable {F G F1:PH} {b8 b9:Nat} {g:Gr} {c m t s p l f:Sl} {part:Nat} {d:Dia} {kc kt kn kp:Nat} {tk:Tk} {pr:Pr}
structure KK (F G:PH) (g:Gr) (c m t s p l f:Sl) (b8:Nat):Prop where
 lF:F.le G
 hT:Tab G
 gs:GS G g c m t s p l f
 q8:G b8=some (.cells (g.arr c m t s p l f) 37)
 mg:MG g
 bd:Bd g 18 10
theorem KK.le {G':PH} (h:KK F G g c m t s p l f b8) (hl:G.le G'):KK F G' g c m t s p l f b8:=⟨aa h.lF hl,h.hT.le hl,h.gs.le hl,hl _ _ h.q8,h.mg,h.bd⟩
end
theorem RL.cutD {α:Type} [Mem α] {G:PH} {s:Sl} {l:List α} {n k:Nat} (h:RL G s l) (hn:Mem.n α=n) (h0:0<n) (hk:k<=s.len):RL G (Sl.cut s n k s.len s.cap) (l.drop k):=by subst hn;have hl:=h.len h0;obtain ⟨vs,hr,hd⟩:=h;refine ⟨vs.drop k,hr.drop k,?_⟩;have:=hd.cut (l:=k) (r:=s.len) (m:=s.cap) hk (UW _) hd.cap;rw [hr.cat_drop,UZ (by rw [(hr.drop k).cat_len,List.length_drop,hl];exact UW _)] at this;exact this
theorem LL:∃b z,SlT 50 63 2 b z:=⟨_,_,underlying50,OI,OO,rfl,by decide,by decide⟩
theorem x7:∀a b:Int×Int,bU a=bU b->a=b:=λa b h=>by
 injection h with h
 have h:=congrArg Array.toList h;simp at h;exact Prod.ext h.1 h.2
theorem x8:∀a b:Int,aM a=aM b->a=b:=λa b h=>by have h:(vi a)=vi b:=h;injection h
section
variable {κ:Type} [DecidableEq κ] {enc:κ->Value} {G G0 G1 F:PH} {As:List (Ψ)} {m:Nat} {S S':κ->Tr} {K:List κ} {A:Ψ}
theorem St.mA_at (h:St G F As) {i:Nat} (hi:As[i]? =some A) (hA:∀H,A H->mS enc G0 m S H):∃o mp,F m=some o/\eH enc mp o/\jx G0 S mp:=by obtain ⟨H,hH,_,h4⟩:=h.get hi;obtain ⟨o,mp,h1,h2,h3⟩:=hA H hH;exact ⟨o,mp,h4 _ _ h1,h2,h3⟩
def mG (enc:κ->Value) (K:List κ) (G:PH) (m:Nat) (S:κ->Tr):Ψ:=λH=>∃o mp,H m=some o/\yc enc mp o/\jx G S mp/\∀n,mp n≠none->n∈K
theorem mG.mS {H:PH} (h:mG enc K G m S H):mS enc G m S H:=by obtain ⟨o,mp,h1,h2,h3,_⟩:=h;exact ⟨o,mp,h1,h2.mapO,h3⟩
theorem mG.le {H:PH} (h:mG enc K G0 m S H) (l:G0.le G1):mG enc K G1 m S H:=by obtain ⟨o,mp,h1,h2,h3,h4⟩:=h;exact ⟨o,mp,h1,h2,h3.le l,h4⟩
theorem St.mG_new (enc:κ->Value) (K:List κ) (h:St G F (pt m (.map #[] 0)::As)):St G F (mG enc K G m (λ_=>leaf false)::As):=
 h.imp (A':=mG enc K G m (λ_=>leaf false)) 0 rfl λH _ hH=>⟨_,_,hH,yc.empty enc,jx.empty G,λ_ h=>absurd rfl h⟩
theorem St.mG_put {mt:TypeId} {z:Value} (hm:fY prog mt enc z) (inj:∀a b,enc a=enc b->a=b) (h:St G F As) (i:Nat) (hi:As[i]? =some (mG enc K G0 m S)) (l0:G0.le G) {n:κ} (hn:n∈K) {w:Γ} {t:Tr} (hw:DV G w (dia t)) {C:Ψ}
  (k:∀F',St G F' (As.set i (mG enc K G m (eU S n t)))->C F'):aG prog (Instr.mapUpdate mt (.map (some m)) (enc n) (.agg w)) F λ_ F=>C F:=by
 obtain ⟨H,⟨o,mp,a1,a2,a3,a4⟩,b2,b3,b4⟩:=h.set (A':=mG enc K G m (eU S n t)) hi;refine Dp hm inj (b3 _ _ a1) a2 n (.agg w) λo' ho'=>k _ ?_;refine b4 (H.set m o') _ ⟨o',_,al _ _ _,ho',(a3.le l0).put hw,λx hx=> ?_⟩ (λx hx=> ?_) (λx p hx=> ?_) (λx p hx hn=> ?_)
 ·by_cases e:x=n
  ·rw [e];exact hn
  ·rw [if_neg e] at hx;exact a4 x hx
 ·by_cases e:x=m
  ·rw [e,a1];exact .inl (by simp)
  ·rw [av _ _ e] at hx;exact .inl hx
 ·by_cases e:x=m
  ·rw [e,al] at hx ⊢;exact hx
  ·rw [av _ _ e] at hx ⊢;exact b3 _ _ hx
 ·have e:x≠m:=λe=>by rw [e,a1] at hn;cases hn
  rw [av _ _ e];exact hx
end
section
variable {G G0 F:PH} {As:List (Ψ)} {m:Nat} {k:Nat} {A:Ψ}
theorem Do {S:Int×Int->Tr} (hA:∀H,A H->mS bU G0 m S H) (h:St G F (A::As)) (l0:G0.le G) (n:Int×Int):
  ai prog 75 #[.map (some m),.agg (vn n)] F λr F'=>∃G' w,r=.agg w/\DV G' w (dia (S n))/\G.le G'/\St G' F' (A::As):=by
 refine SA ?_;unfold Nt;refine h.new λb3 Fa h=> ?_;refine h.new λb4 F1 h=> ?_;refine ⟨_,rfl,ac (h.ptAt (i:=1) rfl),?_⟩;obtain ⟨o,mp,h1,h2,h3⟩:=h.mA_at (i:=2) rfl hA;have hlk:=bL (F:=F1) GJ h1 h2 n true;rcases h3 n with ⟨e1,e2⟩|⟨w,e1,e2⟩
 ·rw [e1] at hlk;refine ⟨_,_,hlk,?_⟩;refine h.new λb5 F2 h=> ?_;refine h.put0 (w':=zD) rfl rfl (by simp [ak]) λF3 h=>⟨λhc=>(by cases hc),λ_=> ?_⟩;refine (h.call (di false)).mono ?_;rintro _ F4 ⟨G',⟨w,rfl,hw,l1⟩,h⟩;refine ⟨w,rfl,?_⟩;refine h.put1 (w':=w) hw.size rfl hw.st λF5 h=>⟨w,hw.size,ac (h.ptAt (i:=1) rfl),?_⟩;exact ⟨G',w,rfl,by rw [e2];exact hw,l1,h.tail.tail.tail⟩
 ·rw [e1] at hlk;refine ⟨_,_,hlk,?_⟩;have hw:=e2.le l0;refine h.new λb5 F2 h=> ?_;refine h.put0 (w':=w) hw.size rfl hw.st λF3 h=>⟨λ_=>⟨w,hw.size,ac (h.ptAt (i:=0) rfl),?_⟩,λhc=>(by cases hc)⟩;refine h.put1 (w':=w) hw.size rfl hw.st λF5 h=>⟨w,hw.size,ac (h.ptAt (i:=1) rfl),?_⟩;exact ⟨G,w,rfl,hw,aq _,h.tail.tail.tail⟩
end
section
variable {G F Gn:PH} {g:Gr} {k ms mn ban b4:Nat} {N:Int->Tr} {R:VR}
theorem SG {q p:Sl} (hk:OkK g k) (hN:Sxs k N) (lN:Gn.le G) (hl:∀x∈g.prods,x.right.length<=1000000) (hp:g.prods.length<=1000000) (hrp:RL G p g.prods) (qa:∃c n t s p l f,G ban=some (.cells (anA g c n t s p l f q) 107)) (hq:RL G q (oU g g.prods.length))
  (q4:G b4=some (.cells #[.map (some ms)] 113)) (h:St G F [mG bU (iW g.prods) G ms (λ_=>leaf false),mS aM Gn mn N])
  (fin:∀G' F',G.le G'->St G' F' [mG bU (iW g.prods) G' ms (sW N (aK g) 0 g.prods λ_=>leaf false)]->wx (some (Addr.mk ban 0 none)) b4 R F'):
  Lp (0:Int) F λN v F=>wz N (Addr.mk ban 0 none) (some mn) b4 p R v F:=by
 obtain ⟨_,_,T⟩:=LL;obtain ⟨c',n',t',s',p',l',f',qa⟩:=qa;have ep:=hrp.len (by decide);have eq:=hq.len (by decide);rw [jy] at eq
 refine bz (wz · (Addr.mk ban 0 none) (some mn) b4 p R) g.prods.length (λi F'=>∃(G':PH) (S:Int×Int->Tr),G.le G'/\Sxs k S/\(sW N (aK g) 0 g.prods λ_=>leaf false)=sW N (aK g) i (g.prods.drop i) S/\
  St G' F' [mG bU (iW g.prods) G' ms S,mS aM Gn mn N]) ⟨G,_,aq _,λ_=>Sx.leaf k false,by rw [Vz],h⟩ ?_
 rintro i F1 N1 hi ⟨G1,S1,l1,hS1,hst,h⟩ next;unfold wz;refine ⟨λhlt=> ?_,λhge=> ?_⟩
 ·have hlt:i<g.prods.length:=by omega
  refine h.ix (hrp.le l1) (by decide) (by omega) (by omega) λa c6 x hx hrow hc6=>⟨c6,Mem.len hc6,hrow,?_⟩;rw [N4] at hx;have hxm:=UY hx;have hlx:=hl x hxm;have edrop:g.prods.drop i=x::g.prods.drop (i+1):=cL hx;refine h.var (Mem.st hc6) (λb6 G2 F2 l2 q6 h=> ?_) rfl (Mem.len hc6);obtain ⟨r,n6,l6,rfl,hr,hn6,_⟩:=hc6;have l12:=aa l1 l2;have hr2:=hr.le l2;have er:=hr2.len (by decide);have erc:=hr2.cap;refine ⟨_,ld (h.le _ _ q6) rfl,?_⟩
  refine bz (Ao N1 · (Addr.mk ban 0 none) (some mn) b4 (i:Int) b6 p r R) x.right.length (λj F'=>∃(G':PH) (S2:Int×Int->Tr),G2.le G'/\Sxs k S2/\sF N (aK g i) x 0 x.right S1=sF N (aK g i) x j (x.right.drop j) S2/\
   ∃Bs,St G' F' ([mG bU (iW g.prods) G' ms S2,mS aM Gn mn N]++Bs)) ⟨G2,S1,aq _,hS1,by rw [Vz],[],h.imp 0 rfl λ_ _ hH=>mG.le hH l2⟩ ?_
  rintro j F3 N2 hj ⟨G3,S2,l3,hS2,hsx,Bs,h⟩ next2;replace h:St G3 F3 [mG bU (iW g.prods) G3 ms S2,mS aM Gn mn N]:=h.pick id (λ_ _ _ _ e=>e) λi hi=>by rw [id,U9 hi]
  unfold Ao;refine ⟨λhjl=> ?_,λhjg=> ?_⟩
  ·have hjl:j<x.right.length:=by omega
   refine ixc (hr2.le l3) (by decide) (by omega) (by omega) λa8 c8 sy hsy hrow8 hc8=>⟨c8,Mem.len hc8,bJ h.le hrow8,?_⟩;rw [N4] at hsy;obtain rfl:c8=sy.arr:=hc8;have edr:x.right.drop j=sy::x.right.drop (j+1):=cL hsy;refine h.var (by simp [ak]) (λb8 G4 F4 l4 q8 h=>⟨_,ld (h.le _ _ q8) rfl,λhyt=> ?_,λhyt=> ?_⟩) rfl rfl
   ·have hyt:sy.t=true:=hyt;unfold nQ;rw [aI hjl (by omega)];refine next2 _ hjl ⟨G4,S2,aa l3 l4,hS2,?_,[],h.imp 0 rfl λ_ _ hH=>mG.le hH l4⟩;rw [hsx,edr];show sF N (aK g i) x (j+1) _ (if sy.t=true then S2 else _)=_;rw [if_pos hyt]
   ·have hyt:sy.t=false:=hyt;have l34:=aa l3 l4;have q64:=l34 _ _ q6;have hr4:=hr2.le l34;have hw1:IntKind.i64.wrap ((j:Int)+1)=((j+1:Nat):Int):=aI hjl (by omega);refine ⟨_,ld (h.le _ _ q64) rfl,by omega,by omega,by rw [N4];omega,_,ld (h.le _ _ q64) rfl,?_⟩;dsimp only;rw [hw1];refine ⟨by omega,by rw [N4];omega,erc,?_⟩;simp only [N4];obtain ⟨v1,ha1,hb1⟩:=hr4.cut (n:=2) rfl (k:=j) (by omega);obtain ⟨v2,ha2,hb2⟩:=hr4.cutD (n:=2) rfl (by decide) (k:=j+1) (by omega);refine h.new λb46 F5 h=> ?_;have h:=h.imp (A':=own (Sl.mk (some (Addr.mk b46 0 none)) 0 0) 63 2 []) 0 rfl λH _ hH=>jB hH;have hcl1:(Sl.cut r 2 0 j r.cap).len=j:=by unfold Sl.cut;dsimp only;omega
    have hcl2:(Sl.cut r 2 (j+1) r.len r.cap).len=r.len - (j+1):=rfl;refine h.app0 T (hb1.le h.le) ha1.st (by rw [hcl1];show 0+j<=_;omega) λs1 F6 h hs1=> ?_;rw [Vt] at h;refine ⟨ld (h.le _ _ q64) rfl,ld (h.le _ _ q64) rfl,?_⟩;have hs1:s1.len=0+j:=by rw [hs1,hcl1]
    refine h.app0 T (hb2.le h.le) ha2.st (by rw [hcl2];omega) λs2 F7 h hs2=> ?_;refine ⟨ld (h.le _ _ q64) rfl,ld (h.le _ _ q64) rfl,?_⟩;obtain ⟨G5,l5,hd5,h⟩:=h.pinO;have hoth:RL G5 s2 (x.right.eraseIdx j):=by rw [List.eraseIdx_eq_take_drop_succ];refine ⟨v1++v2,(ha1.le l5).append (ha2.le l5),?_⟩;rw [bF];exact hd5
    have hol:(x.right.eraseIdx j).length<=1000000:=by have:=List.length_eraseIdx_le x.right j;omega
    have eol:=hoth.len (by decide);have l15:=aa l12 (aa l34 l5);refine ⟨_,by rw [aB];exact ld (h.le _ _ (l15 _ _ qa)) rfl,?_⟩;refine ixc (hq.le l15) (by decide) (by omega) (by omega) λa9 c9 dd hdd hrow9 hc9=>⟨c9,Mem.len hc9,bJ h.le hrow9,?_⟩;rw [N4] at hdd;have hdd:dd=dia (aK g i):=by unfold oU at hdd;rw [U5,Vy hlt] at hdd;exact (Vl hdd).symm
    have hc9:DV G5 c9 (dia (aK g i)):=by rw [<- hdd];exact hc9
    refine (ia h.swap (aa lN l15) hk.le hN (hk.prs i) hc9 hoth hol).mono ?_;rintro _ F8 ⟨G6,u,rfl,hu,l6,h⟩;have h:=h.swap;refine ⟨u,rfl,?_⟩;refine h.new λb10 F9 h=> ?_;refine h.put0 (w':=u) hu.size rfl hu.st λF10 h=> ?_;obtain ⟨hal,_⟩:=bx hN (x.right.eraseIdx j) (hk.prs i);obtain ⟨hsd,_⟩:=iQ hN (hk.prs i) x.right j;have l56:=aa l5 l6
    refine bz (An N1 N2 · (Addr.mk ban 0 none) (some mn) b4 (i:Int) b6 b8 b10 p r (j:Int) s2 R) (x.right.eraseIdx j).length (λe F'=>∃(G':PH) (y:Γ),G6.le G'/\
     DV G' y (dia (if ((x.right.eraseIdx j).take e).any (·.t)=true then leaf false else dF N (aK g i) (x.right.eraseIdx j)))/\St G' F' [pt b10 (.cells y 31),mG bU (iW g.prods) G3 ms S2,mS aM Gn mn N]) ⟨G6,u,aq _,by rw [Wi];exact hu,h⟩ ?_
    rintro e F11 N3 he ⟨G7,y,l7,hy,h⟩ next3;unfold An;have l57:=aa l6 l7;refine ⟨λhel=> ?_,λheg=> ?_⟩
    ·have hel:e<(x.right.eraseIdx j).length:=by omega
     refine ixc (hoth.le l57) (by decide) (by omega) (by omega) λa12 c12 sz hsz hrow12 hc12=>⟨c12,Mem.len hc12,bJ h.le hrow12,?_⟩;rw [N4] at hsz;obtain rfl:c12=sz.arr:=hc12;have et:=fb hsz;refine h.var (by simp [ak]) (λb12 G8 F12 l8 q12 h=>⟨_,ld (h.le _ _ q12) rfl,λhzt=> ?_,λhzt=> ?_⟩) rfl rfl
     ·have hzt:sz.t=true:=hzt;refine (h.call (di false)).mono ?_;rintro _ F13 ⟨G9,⟨w,rfl,hw,l9⟩,h⟩;refine ⟨w,rfl,?_⟩;refine h.put0 (w':=w) hw.size hy.size hw.st λF14 h=> ?_;unfold wy;rw [aI hel (by omega)];refine next3 _ hel ⟨G9,w,aa l7 (aa l8 l9),?_,h⟩;rw [et,List.any_append,List.any_cons,hzt,Bool.true_or,Bool.or_true,if_pos rfl];exact hw
     ·have hzt:sz.t=false:=hzt;unfold wy;rw [aI hel (by omega)];refine next3 _ hel ⟨G8,y,aa l7 l8,?_,h⟩;rw [et,List.any_append,List.any_cons,hzt,List.any_nil,WM,WM];exact hy.le l8
    ·have he:e=(x.right.eraseIdx j).length:=by omega
     subst he;rw [U7] at hy;have hy:DV G7 y (dia (nU N (aK g i) x.right j)):=hy;have l37:=aa l4 (aa l5 l57);have go:∀{G' F':PH} {Bs:List (Ψ)},G7.le G'->St G' F' ([mG bU (iW g.prods) G' ms (cC S2 (x.left,sy.i) (nU N (aK g i) x.right j)),mS aM Gn mn N]++Bs)->nQ N1 N2 (Addr.mk ban 0 none) (some mn) b4 (i:Int) b6 p r (j:Int) R F':=λ{G' F' Bs} l h=>by unfold nQ;rw [hw1];refine next2 _ hjl ⟨G',_,aa l3 (aa l37 l),dE hS2 hsd,?_,Bs,h⟩;rw [hsx,edr];show sF N (aK g i) x (j+1) _ (if sy.t=true then S2 else _)=_;rw [hyt,if_neg Wc]
     unfold GY;obtain ⟨sd,ey,_⟩:=id hy;have q67:=aa (aa l3 l37) (aq _) _ _ q6;refine ⟨_,ld (h.ptAt (i:=0) rfl) (by rw [ey];rfl),λh0=> ?_,λh0=> ?_⟩
     ·refine ⟨_,ld (h.le _ _ q67) rfl,_,ld (h.le _ _ (aa l5 l57 _ _ q8)) rfl,?_⟩;refine h.var (by simp [ak]) (λb13 G8 F12 l8 q13 h=> ?_) rfl rfl;have l18:=aa l15 (aa l57 l8);have q48:=l18 _ _ q4;have key:(x.left,sy.i)∈iW g.prods:=WJ.2 ⟨x,hxm,U8.2 ⟨sy,UY hsy,rfl⟩⟩;refine ⟨_,ld (h.le _ _ q48) rfl,_,rfl,ac (h.le _ _ q13),_,ld (h.le _ _ q48) rfl,_,rfl,ac (h.le _ _ q13),y,hy.size,ac (h.ptAt (i:=0) rfl),?_⟩;refine (Do (λH hH=>mG.mS hH) h.swap (aa l37 l8) (x.left,sy.i)).mono ?_;rintro _ F13 ⟨G9,w,rfl,hw,l9,h⟩;have h:=h.swap;have q139:=l9 _ _ q13;have q49:=l9 _ _ q48;refine ⟨w,rfl,ac (h.ptAt (i:=0) rfl),ac (h.le _ _ q139),ld (h.le _ _ q49) rfl,?_⟩;refine h.run (P:=λr' G'=>∃z,r'=.tuple #[.agg z,vi 0]/\DV G' z (dia (ap2 oOr (S2 (x.left,sy.i)) (nU N (aK g i) x.right j)))) ((wl hk.le (hS2 _) hsd hw (hy.le (aa l8 l9))).mono λr F' ⟨x,a,b,c⟩=>⟨⟨x,a,b⟩,c⟩) λ_ G10 F14 hr10 l10 h=> ?_;obtain ⟨z,rfl,hz⟩:=hr10;refine ⟨_,_,rfl,ac (h.le _ _ (l10 _ _ q139)),ld (h.le _ _ (l10 _ _ q49)) rfl,?_⟩;refine h.runv (bq hz) λG11 F15 l11 h=>⟨_,rfl,ac (h.le _ _ (l11 _ _ (l10 _ _ q139))),ld (h.le _ _ (l11 _ _ (l10 _ _ q49))) rfl,?_⟩;have l711:=aa l8 (aa l9 (aa l10 l11));refine h.mG_put GJ x7 1 rfl (aa l37 l711) key (hz.le l11) λF16 h=> ?_;exact go (Bs:=[pt b10 (.cells y 31)]) l711 h.rot
     ·have e0:nU N (aK g i) x.right j=leaf false:=(dU hsd.1).1 (by simpa using h0);refine go (Bs:=[pt b10 (.cells y 31)]) (aq _) ?_;rw [e0,dD hS2];exact (h.imp 1 rfl λ_ _ hH=>mG.le hH l37).rot
  ·have hj:j=x.right.length:=by omega
   subst hj;rw [VO] at hsx;have hsx:sF N (aK g i) x 0 x.right S1=S2:=hsx;unfold GX;rw [aI hlt (by omega)];refine next _ hlt ⟨G3,S2,aa l12 l3,hS2,?_,h⟩;rw [hst,edrop];show sW N (aK g) (i+1) _ (sF N (aK g i) x 0 x.right S1)=_;rw [hsx]
 ·have e:i=g.prods.length:=by omega
  subst e;rw [VO] at hst;have hst:(sW N (aK g) 0 g.prods λ_=>leaf false)=S1:=hst;refine fin G1 F1 l1 ?_;rw [hst];exact h.hd
end
abbrev Ns:=List (Int×Sl×Φ)
def nsF:Ns->Int->Option Value
 |[],_=>none
 |e::l,a=>if a=e.1 then some e.2.1.v else nsF l a
def nsL:Ns->Int->Φ
 |[],_=>[]
 |e::l,a=>if a=e.1 then e.2.2 else nsL l a
theorem sB {e:Int×Sl×Φ} {l:Ns} {a:Int} (h:a=e.1):nsF (e::l) a=some e.2.1.v:=if_pos h
theorem nR {e:Int×Sl×Φ} {l:Ns} {a:Int} (h:a≠e.1):nsF (e::l) a=nsF l a:=if_neg h
theorem nS {e:Int×Sl×Φ} {l:Ns} {a:Int} (h:a=e.1):nsL (e::l) a=e.2.2:=if_pos h
theorem kX {e:Int×Sl×Φ} {l:Ns} {a:Int} (h:a≠e.1):nsL (e::l) a=nsL l a:=if_neg h
def nsO (l:Ns):List (Ψ):=l.map λe=>own e.2.1 3 1 (e.2.2.map vi)
section
variable {G F:PH}
theorem St.init {As Bs:List (Ψ)} (h:St G F (As++Bs)):St G F As:=h.pick id (λ_ _ _ _ e=>e) λi hi=>by rw [id,U9 hi]
theorem St.mid {A:Ψ} {Ps Qs:List (Ψ)} (h:St G F (Ps++A::Qs)):St G F (A::(Ps++Qs)):=by
 refine h.pick (λi=>if i=0 then Ps.length else if i<=Ps.length then i - 1 else i) (λi j _ _ e=> ?_) (λi hi=> ?_)
 ·split at e<;>split at e<;>(try split at e)<;>(try split at e)<;>omega
 ·by_cases h0:i=0
  ·rw [if_pos h0,h0,Vn (UW _),Nat.sub_self];rfl
  ·obtain ⟨j,rfl⟩:∃j,i=j+1:=⟨i - 1,by omega⟩;rw [if_neg h0];by_cases h1:j+1<=Ps.length
   ·rw [if_pos h1,Nat.add_sub_cancel,VG,U9 (by omega),U9 (by omega)]
   ·rw [if_neg h1,VG,Vn (by omega),Vn (by omega)];rw [show j+1 - Ps.length=(j - Ps.length)+1 by omega,VG]
theorem Cb (a:Int):∀(l:Ns) (Ps:List (Ψ)),(l.map (·.1)).Nodup->St G F (Ps++nsO l)->∃s l',St G F (own s 3 1 ((nsL l a).map vi)::(Ps++nsO l'))/\(nsF l a).getD (Sl.v Sl.nil)=s.v/\
  (∀k,k≠a->nsF l' k=nsF l k/\nsL l' k=nsL l k)/\(l'.map (·.1)).Sublist (l.map (·.1))/\a ∉ l'.map (·.1)
 |[],Ps,_,h=>⟨Sl.nil,[],h.nilOwn _ _,rfl,λ_ _=>⟨rfl,rfl⟩,List.Sublist.refl _,by simp⟩
 |e::l,Ps,hn,h=>by
  rw [Vi,VM] at hn;by_cases he:a=e.1
  ·have h':St G F (Ps++own e.2.1 3 1 (e.2.2.map vi)::nsO l):=h;refine ⟨e.2.1,l,?_,?_,λk hk=> ?_,?_,by rw [he];exact hn.1⟩
   ·have:=h'.mid;rw [nS he];exact this
   ·rw [sB he];rfl
   ·have hk':k≠e.1:=by rw [<- he];exact hk
    exact ⟨(nR hk').symm,(kX hk').symm⟩
   ·rw [Vi];exact List.sublist_cons_self _ _
  ·have h':St G F ((Ps++[own e.2.1 3 1 (e.2.2.map vi)])++nsO l):=by rw [Vo];exact h
   obtain ⟨s,l',h1,h2,h3,h4,h5⟩:=Cb a l _ hn.2 h';refine ⟨s,e::l',?_,?_,λk hk=> ?_,?_,?_⟩
   ·rw [Vo] at h1;rw [kX he];exact h1
   ·rw [nR he];exact h2
   ·obtain ⟨g1,g2⟩:=h3 k hk;by_cases ke:k=e.1
    ·rw [sB ke,sB ke,nS ke,nS ke];exact ⟨rfl,rfl⟩
    ·rw [nR ke,nR ke,kX ke,kX ke];exact ⟨g1,g2⟩
   ·rw [Vi,Vi];exact h4.cons_cons _
   ·rw [Vi,UT,not_or];exact ⟨he,h5⟩
theorem Hi:∀(l:Ns) {G:PH},St G F (nsO l)->∃G',G.le G'/\(∀e∈l,RL G' e.2.1 e.2.2)/\St G' F []
 |[],G,h=>⟨G,aq _,λ_ h=>(by cases h),h⟩
 |e::l,G,h=>by
  have h':St G F (own e.2.1 3 1 (e.2.2.map vi)::nsO l):=h;obtain ⟨G1,l1,hd,h1⟩:=h'.pinO;obtain ⟨G2,l2,hall,h2⟩:=Hi l h1;refine ⟨G2,aa l1 l2,λx hx=> ?_,h2⟩;rcases UT.1 hx with rfl|hx
  ·exact RL.ints.2 (hd.le l2)
  ·exact hall x hx
theorem Hj {a:Int}:∀{l:Ns},(nsF l a=none/\nsL l a=[])\/∃e∈l,nsF l a=some e.2.1.v/\nsL l a=e.2.2
 |[]=> .inl ⟨rfl,rfl⟩
 |e::l=>by
  by_cases he:a=e.1
  ·rw [sB he,nS he];exact .inr ⟨e,by simp,rfl,rfl⟩
  ·rw [nR he,kX he];rcases Hj (a:=a) (l:=l) with h|⟨x,hx,h⟩
   ·exact .inl h
   ·exact .inr ⟨x,Ve _ hx,h⟩
end
section
variable {G F:PH} {g:Gr} {ms b4:Nat} {a0:Θ} {T:Int×Int->Tr} {R:VR} {K:List (Int×Int)}
theorem SH {es:Array MapEntry} {c:Nat} {L:List ((Int×Int)×Value)} {mp:Int×Int->Option Value} (q4:G b4=some (.cells #[.map (some ms)] 113)) (qs:G ms=some (.map es c)) (hL:sD bU mp es c L) (hS:jx G T mp) (hK:∀n,mp n≠none->n∈K) (hKl:K.length<=1000000)
  (h:St G F []) (fin:∀G' F' b14 mn nx,G.le G'->CyE G' b14 mn b4 ms nx T->(∀a b,T (a,b)≠leaf false->b∈nx a)->(∀a b,b∈nx a->(a,b)∈K)->(∀a,(nx a).length<=K.length)->St G' F' []->ww a0 b4 b14 R F'):
  wx a0 b4 R F:=by
 obtain ⟨_,_,TI⟩:=Nz;unfold wx;refine h.newMap aM λmn F1 h=> ?_;refine h.var1 λb14 G1 F2 l1 q14 h=> ?_;have hesl:es.size<=K.length:=by rw [hL.len,<- U6 (f:=(·.1))];refine gz hL.nodup λx hx=> ?_;obtain ⟨p,hp,rfl⟩:=U8.1 hx;refine hK _ ?_;rw [hL.lk,(j0 hL.nodup).2 hp];simp
 refine ⟨_,ld (h.le _ _ (l1 _ _ q4)) rfl,?_⟩;refine h.rangeG underlying113 bU (h.le _ _ (l1 _ _ qs)) λb100 F3 h=> ?_
 refine ⟨λq F'=>∃(G':PH) (ks:List (Int×Int)) (l:Ns),q=es.size - ks.length/\G1.le G'/\ks.Nodup/\(∀n∈ks,∃v,mp n=some v)/\(l.map (·.1)).Nodup/\(∀a b,b∈nsL l a↔(a,b)∈ks)/\(∀a,(nsL l a).length<=ks.length)/\
  ∃Bs,St G' F' ([itG bU ms b100 es c ks,mpE mn aM (nsF l)]++nsO l++Bs),es.size,⟨G1,[],[],rfl,aq _,List.nodup_nil,λ_ h=>(by cases h),List.nodup_nil,λa b=>by simp [nsL],λa=>by simp [nsL],[],h⟩,?_⟩
 rintro q F4 ⟨G2,ks,l,rfl,l2,hkn,hks,hln,hlk,hll,Bs,h⟩;replace h:St G2 F4 (itG bU ms b100 es c ks::mpE mn aM (nsF l)::nsO l):=St.init (As:=[itG bU ms b100 es c ks,mpE mn aM (nsF l)]++nsO l) h;unfold GW;have l12:=aa l1 l2;refine h.nextG hL x7 hkn hks (h.le _ _ (l12 _ _ qs)) (λhall=> ?_) λn v F5 hnv hnk hlt h hr hent=> ?_
 ·refine ⟨_,rfl,false,rfl,λhc=>(by cases hc),λ_=> ?_⟩;have h1:=h.tail;obtain ⟨G3,l3,⟨H,⟨o,e1,e2⟩,hH⟩,h2⟩:=h1.pin;obtain ⟨G4,l4,hRL,h3⟩:=Hi l h2;have l24:=aa l2 (aa l3 l4);have l14:=aa l1 l24;refine fin G4 F4 b14 mn (nsL l) l14 ⟨l24 _ _ q14,l14 _ _ q4,⟨o,_,l4 _ _ (hH _ _ e1),e2,λa=> ?_⟩,⟨_,mp,l14 _ _ qs,⟨es,c,L,rfl,hL.eq,hL.lk⟩,hS.le l14⟩⟩ (λa b hT=> ?_) (λa b hb=> ?_) (λa=> ?_) h3
  ·rcases Hj (a:=a) (l:=l) with h|⟨e,he,g1,g2⟩
   ·exact .inl h
   ·exact .inr ⟨e.2.1,g1,by rw [g2];exact hRL e he⟩
  ·refine (hlk a b).2 ?_;rcases hS (a,b) with ⟨_,e⟩|⟨w,e,_⟩
   ·exact absurd e hT
   ·exact hall _ _ e
  ·obtain ⟨v,hv⟩:=hks _ ((hlk a b).1 hb);exact hK _ (by rw [hv];simp)
  ·have hsub:ks.length<=K.length:=gz hkn λx hx=>by obtain ⟨v,hv⟩:=hks x hx;exact hK _ (by rw [hv];simp)
   exact VK (hll a) hsub
 ·refine ⟨_,rfl,true,rfl,λ_=> ?_,λhc=>(by cases hc)⟩;refine ⟨_,hent,vn n,rfl,?_⟩;refine h.var (by simp [ak]) (λb15 G3 F6 l3 q15 h=> ?_) rfl rfl;have l13:=aa l2 l3;have q143:=l13 _ _ q14;have c0:∀{G' F':PH} {As:List (Ψ)},G3.le G'->St G' F' As->F'.cell (Addr.add (Addr.mk b15 0 none) (Int.toNat (0:Int)*1))=some (vi n.1):=λl h=>by rw [aB];exact ld (h.le _ _ (l _ _ q15)) rfl
  have c14:∀{G' F':PH} {As:List (Ψ)},G3.le G'->St G' F' As->F'.cell (Addr.mk b14 0 none)=some (.map (some mn)):=λl h=>ld (h.le _ _ (l _ _ q143)) rfl;obtain ⟨s,l',h,hsv,hoth,hsl,hna⟩:=Cb n.1 l [itG bU ms b100 es c (ks++[n]),mpE mn aM (nsF l)] hln h;have h:St G3 F6 (own s 3 1 ((nsL l n.1).map vi)::itG bU ms b100 es c (ks++[n])::mpE mn aM (nsF l)::nsO l'):=h;have hlook:=h.lookAt (i:=2) rfl NA n.1 false;rw [if_neg Wc,hsv] at hlook;refine ⟨_,c14 (aq _) h,by decide,by decide,_,c0 (aq _) h,_,c14 (aq _) h,by decide,by decide,_,c0 (aq _) h,s,hlook,by decide,by decide,n.2,?_,?_⟩
  ·rw [aB];exact ld (h.le _ _ q15) rfl
  ·have hslen:s.len=(nsL l n.1).length:=by have:=(cf.rd (h.ownAt (i:=0) rfl).1).len;rw [U6,Vs] at this;exact this.symm
   have hbl:=hll n.1;refine h.push0 TI (c:= #[vi n.2]) rfl (by simp [ak]) (by omega) λs' G4 F7 l4 h hs'=> ?_;refine ⟨c0 l4 h,c14 l4 h,c0 l4 h,c14 l4 h,?_⟩;refine h.updAt 2 rfl NA n.1 (Sl.v s') λF8 h=> ?_;have hln':((n.1,s',nsL l n.1++[n.2])::l').map (·.1)=n.1::l'.map (·.1):=rfl;refine ⟨es.size - (ks++[n]).length,by rw [UV,Va];omega,G4,ks++[n],(n.1,s',nsL l n.1++[n.2])::l',rfl,aa l13 l4,?_,λx hx=> ?_,?_,λa b=> ?_,λa=> ?_,[],?_⟩
   ·rw [Vp];exact ⟨hkn,by simp,λa ha b hb e=>hnk (by rw [UU.1 hb] at e;rw [<- e];exact ha)⟩
   ·rcases UX.1 hx with hx|hx
    ·exact hks x hx
    ·rw [UU.1 hx];exact ⟨v,hnv⟩
   ·rw [hln',VM];exact ⟨hna,hsl.nodup hln⟩
   ·by_cases e:a=n.1
    ·rw [nS e,UX,UU,UX,UU,e,hlk];exact or_congr_right ⟨λh=>by rw [h],λh=>congrArg Prod.snd h⟩
    ·rw [kX e,(hoth a e).2,hlk,UX,UU];exact ⟨.inl,λh=>h.resolve_right λh=>e (congrArg Prod.fst h)⟩
   ·have:=hll a;by_cases e:a=n.1
    ·rw [nS e,UV,UV,Va,Va];omega
    ·rw [kX e,(hoth a e).2,UV];omega
   ·have em:(λk'=>if k'=n.1 then some (Sl.v s') else nsF l k')=nsF ((n.1,s',nsL l n.1++[n.2])::l'):=by
     funext k';by_cases e:k'=n.1
     ·rw [if_pos e,sB e]
     ·rw [if_neg e,nR e,(hoth k' e).1]
    rw [em] at h;have h2:=h.back2;rw [Vx];have e3:nsO ((n.1,s',nsL l n.1++[n.2])::l')=own s' 3 1 ((nsL l n.1).map vi++[vi n.2])::nsO l':=by unfold nsO;rw [Vi,Vm];rfl
    rw [e3];exact h2
end
theorem x9 {κ:Type} (k:Nat) (S:κ->Tr):∀keys:List κ,mu k keys S<=keys.length*2 ^ k
 |[]=>Nat.zero_le _
 |x::l=>by
  have:=x9 k S l;have e:mu k (x::l) S=(2 ^ k - wt k (S x))+mu k l S:=by unfold mu;rw [Vi,List.sum_cons]
  rw [e,Vf,Wy,Wp,Nat.add_comm];exact Nat.add_le_add this (Nat.sub_le _ _)
theorem RdS.at6 {F:PH} {s:Sl} {vs:Ξ} (h:RdS F s 1 vs) {i:Nat} {v:Value} (hi:vs[i]? =some v):∃a,s.base=some a/\0<=(i:Int)/\(i:Int)<(s.len:Int)/\F.cell (Addr.add a (Int.toNat (i:Int)*1))=some v:=by obtain ⟨hlt,rfl⟩:=N6.1 hi;have hl:=h.len;obtain ⟨b,o,h1,h2⟩:=h.cells (by omega);refine ⟨_,h1,by omega,by omega,?_⟩;rw [N4,Vs,aB];exact h2 i hlt
theorem Jn {G G0 F:PH} {As:List (Ψ)} {m i:Nat} {S:Int->Tr} (h:St G F As) (hi:As[i]? =some (mS aM G0 m S)) (l0:G0.le G) (n:Int):∃w,rdo prog (Instr.lookup 95 (.map (some m)) (vi n) false) F (.agg w)/\DV G w (dia (S n)):=by
 obtain ⟨o,mp,h1,h2,h3⟩:=h.mS_at hi;have hl:=bL (F:=F) xW h1 h2 n false;rcases h3 n with ⟨e1,e2⟩|⟨w,e1,e2⟩
 ·rw [e1] at hl;exact ⟨zD,hl,by rw [e2];exact DV.mk (s:=Sl.nil) (d:=dia (leaf false)) (RL.nil G)⟩
 ·rw [e1] at hl;exact ⟨w,hl,e2.le l0⟩
section
variable {G F:PH} {g:Gr} {k ms mn ban b4 b14:Nat} {T:Int×Int->Tr} {nx:Int->Φ} {R:VR}
theorem SI {K:List (Int×Int)} (hk:OkK g k) (hn:g.nons.length<=1000000) (hAn:AnV G ban g) (E:CyE G b14 mn b4 ms nx T) (hT:ye k g.prods (aK g) T) (h1:∀a b,T (a,b)≠leaf false->b∈nx a) (h2:∀a b,b∈nx a->(a,b)∈K) (h3:∀a,(nx a).length<=K.length) (hKl:K.length<=1000000)
  (h:St G F []) (fin:∀G' F' mo C,G.le G'->mR k g.nons.length g.prods (aK g) C->St G' F' [mG aM (dq g.nons.length) G' mo C]->R (.map (some mo)) F'):
  ww (some (Addr.mk ban 0 none)) b4 b14 R F:=by
 obtain ⟨_,_,TI⟩:=Nz;obtain ⟨c,n,t,s,p,lv,f,q,qa,hs,hq⟩:=hAn.ex;have es:=hs.s.len (by decide);have hfam:DV G #[n.v,vi g.fam.2] (dia (tre g.fam)):=by rw [<- hk.fam.2];exact DV.mk hs.n
 have hkeys:∀a,∀m∈nx a,m∈K.map (·.2):=λa m hm=>U8.2 ⟨_,h2 a m hm,rfl⟩;have hkl:(K.map (·.2)).length*2 ^ k<=64000000:=by rw [U6];have:2 ^ k<=64:=VK (Vq (by decide) hk.le) (by decide);exact VK (Nat.mul_le_mul hKl this) (by decide)
 unfold ww;refine h.new λmo F1 h=> ?_;have h:=h.mG_new aM (dq g.nons.length);refine ⟨_,rfl,_,by rw [aB];exact ld (h.le _ _ qa) rfl,?_⟩
 refine bz (Al · (Addr.mk ban 0 none) b4 b14 mo s R) g.nons.length (λi F'=>∃(G':PH) (C:Int->Tr),G.le G'/\Sxs k C/\(∀(a:Nat) c,a<i->((C a).ev c=true↔Tg (Stp g.prods (aK g) c) a a))/\(∀a:Nat,i<=a->C a=leaf false)/\
  ∃Bs,St G' F' (mG aM (dq g.nons.length) G' mo C::Bs)) ⟨G,_,aq _,λ_=>Sx.leaf k false,λa c ha=>by omega,λ_ _=>rfl,[],h⟩ ?_
 rintro i F2 N1 hi ⟨G2,C,l2,hC,hC1,hC2,Bs,h⟩ next;replace h:=h.hd;have E2:=E.le l2;unfold Al;refine ⟨λhlt=> ?_,λhge=> ?_⟩
 ·have hlt:i<g.nons.length:=by omega
  obtain ⟨sn,hlk,hsn⟩:=E2.look h.le (i:Int);have hsl:=hsn.len (by decide);refine ⟨_,ld (h.le _ _ E2.q14) rfl,sn,hlk,λh0=> ?_,λh0=> ?_⟩
  ·have e0:nx (i:Int)=[]:=Vc (by omega);unfold wu;rw [aI hlt (by omega)];refine next _ hlt ⟨G2,C,l2,hC,λa c ha=> ?_,λa ha=>hC2 a (by omega),[],h⟩;by_cases e:a=i
   ·subst e;rw [hC2 a (UW _)];refine ⟨λh=>(by cases h),λtg=> ?_⟩;obtain ⟨d,hd⟩:=tg.head;have:=(hT.iff ((a:Int),d) c).2 hd;have hin:=h1 a d λe=>by rw [e] at this;cases this
    rw [e0] at hin;cases hin
   ·exact hC1 a c (by omega)
  ·refine h.new λmr F3 h=> ?_;have h:=h.toMap aM;refine h.var1 λb18 G3 F4 l3 q18 h=> ?_;refine h.new λb132 F5 h=> ?_;have h:=h.imp (A':=que 3 (Sl.mk (some (Addr.mk b132 0 none)) 0 0) []) 0 rfl λH _ hH=>Ds hH;refine h.new λb19 F6 h=> ?_;refine h.set0 (w':= #[Sl.v (Sl.mk (some (Addr.mk b132 0 none)) 0 0)]) (by show 0<1;decide) rfl λF7 h=> ?_;have l23:=aa l2 l3;refine ⟨#[n.v,vi g.fam.2],rfl,by rw [aB];exact kD (h.le _ _ (l23 _ _ qa)) rfl,?_⟩;have h:St G3 F7 (mS aM G3 mr (λ_=>leaf false)::pt b19 (.cells #[Sl.v (Sl.mk (some (Addr.mk b132 0 none)) 0 0)] 67)::que 3 (Sl.mk (some (Addr.mk b132 0 none)) 0 0) (([]:Φ).map vi)::[mG aM (dq g.nons.length) G2 mo C]):=
    (h.front2).imp 0 rfl λ_ _ hH=>mS.le hH l3
   refine (oK (keys:=K.map (·.2)) hk.le (E.le l23) q18 hT.sx hk.fam.1 (hfam.le l23) (λ_=>Sx.leaf k false) (λm=>h1 _ m) (λm=>hkeys _ m) (by have:=h3 i;omega) (by simp) h).mono ?_;rintro _ F8 ⟨G4,R4,ps,qs4,rfl,l4,hv,h⟩;have l34:=aa l23 l4;refine ⟨rfl,?_⟩;have hmu0:=x9 k (λ_:Int=>leaf false) (K.map (·.2))
   refine ⟨λq F'=>∃(G':PH) (R':Int->Tr) (qq:Φ) (qs':Sl),q=mu k (K.map (·.2)) R'+qq.length/\G4.le G'/\q<=64000000/\Bfs k g.prods (aK g) T (tre g.fam) i R' qq/\
    St G' F' (mS aM G' mr R'::pt b19 (.cells #[Sl.v qs'] 67)::que 3 qs' (qq.map vi)::[mG aM (dq g.nons.length) G2 mo C]),_,⟨G4,R4,ps,qs4,rfl,aq _,by have:=hv.mu;omega,Bfs.start hT hv,h⟩,?_⟩
   rintro q F9 ⟨G5,R5,qq,qs5,rfl,l5,hq5,hb,h⟩;have l35:=aa l34 l5;have q185:=l5 _ _ (l4 _ _ q18);have hqd:=h.queAt (i:=2) rfl;have hql:=hqd.len;rw [U6,Vs] at hql;have hqc:=hqd.cap;unfold GU;refine ⟨_,ld (h.ptAt (i:=1) rfl) rfl,λhpos=> ?_,λhz=> ?_⟩
   ·cases qq with
    |nil=>rw [List.length_nil] at hql;omega
    |cons m qq=>
     obtain ⟨a,g1,g2,g3,g4⟩:=hqd.at6 (i:=0) (v:=vi m) rfl;refine ⟨_,ld (h.ptAt (i:=1) rfl) rfl,a,g1,g2,g3,m,g4,_,ld (h.ptAt (i:=1) rfl) rfl,by omega,hqc,?_⟩;refine h.set1 (w':= #[Sl.v (Sl.cut qs5 1 1 qs5.len qs5.cap)]) (by show 0<1;decide) rfl λF10 h=> ?_;have h:=h.imp (A':=que 3 (Sl.cut qs5 1 1 qs5.len qs5.cap) (qq.map vi)) 2 rfl λH _ hH=>Jq hH;rw [Vf] at hq5;refine ⟨λhne=> ?_,λhe=> ?_⟩
     ·obtain ⟨w,hlw,hw⟩:=Jn h (i:=0) rfl (aq _) m;refine ⟨_,ld (h.le _ _ q185) rfl,w,hlw,?_⟩;refine (oK (keys:=K.map (·.2)) hk.le (E.le l35) q185 hT.sx (hb.sx m) hw hb.sx (λm'=>h1 _ m') (λm'=>hkeys _ m') (by have:=h3 m;omega) (by omega) h).mono ?_;rintro _ F11 ⟨G6,R6,ps6,qs6,rfl,l6,hv6,h⟩;have:=hv6.mu;exact ⟨rfl,_,by rw [Vf];show mu k (K.map (·.2)) R6+(qq++ps6).length<_;rw [UV];omega,G6,R6,qq++ps6,qs6,rfl,aa l5 l6,by rw [UV];omega,hb.visit hT hv6,h⟩
     ·have he:m=(i:Int):=by simpa using he
      subst he;exact ⟨_,by rw [Vf];show mu k (K.map (·.2)) R5+qq.length<_;omega,G5,R5,qq,_,rfl,l5,by omega,hb.skip,h⟩
   ·have e0:qq=[]:=Vc (by omega);subst e0;unfold GT;refine ⟨_,ld (h.le _ _ q185) rfl,?_⟩;refine (fC h (aq _) (i:Int)).mono ?_;rintro _ F10 ⟨G6,w,rfl,hw,l6,h⟩;refine ⟨w,rfl,?_⟩;have l26:G2.le G6:=aa l3 (aa l4 (aa l5 l6));refine h.mG_put xW x8 3 rfl l26 (UY (sH hlt)) hw λF11 h=> ?_;unfold wu;rw [aI hlt (by omega)];refine next _ hlt ⟨G6,_,aa l2 l26,hC.upd (hb.sx _),λa c ha=> ?_,λa ha=> ?_,_,h.front3⟩
    ·unfold eU;by_cases e:a=i
     ·rw [if_pos (by rw [e]),e];exact hb.fin hT (λa b c=>hk.stp_fam) c
     ·rw [if_neg (by omega)];exact hC1 a c (by omega)
    ·unfold eU;rw [if_neg (by omega)];exact hC2 a (by omega)
 ·have e:i=g.nons.length:=by omega
  subst e;unfold GR;exact fin G2 F2 mo C l2 ⟨hC,λa c ha=>hC1 a c ha⟩ h
end
section
variable {G F:PH} {g:Gr} {k:Nat}
theorem ib (h:OkG g):g.prods.length<=2000/\g.nons.length<=2000/\g.toks.length<=256/\∀x∈g.prods,x.right.length<=16:=by have hl:=h.large;unfold dP at hl;rw [Bool.or_eq_false_iff,List.any_eq_false] at hl;have:=of_decide_eq_false hl.1;refine ⟨by omega,by omega,by omega,λx hx=> ?_⟩;have h2:=hl.2 x hx;rw [decide_eq_true_eq] at h2;omega
theorem ya {ban:Nat} (hk:OkK g k) (hAn:AnV G ban g) (h:St G F []):
  ai prog 59 #[.pointer (some ⟨ban,0,none⟩)] F λr F'=>∃G' mo C,r=.map (some mo)/\G.le G'/\mR k g.nons.length g.prods (aK g) C/\St G' F' [mG aM (dq g.nons.length) G' mo C]:=by
 obtain ⟨o1,o2,o3,o4⟩:=ib hk.ok;have hl:∀x∈g.prods,x.right.length<=1000000:=λx hx=>by have:=o4 x hx;omega
 have hKl:(iW g.prods).length<=1000000:=by have:=Dr o4;omega
 refine UF ?_;unfold Si;refine (cR hk hl (by omega) hAn h).mono ?_;rintro _ F1 ⟨G1,mnn,N,rfl,l1,hN,h⟩;refine ⟨_,rfl,?_⟩;refine h.new λms F2 h=> ?_;have h:=h.mG_new bU (iW g.prods);refine h.var1 λb4 G2 F3 l2 q4 h=> ?_;obtain ⟨c,n,t,s,p,lv,f,q,qa,hs,hq⟩:=(hAn.le (aa l1 l2)).ex;refine ⟨_,rfl,_,by rw [aB];exact ld (h.le _ _ qa) rfl,?_⟩;refine SG hk hN.sx l2 hl (by omega) hs.p ⟨c,n,t,s,p,lv,f,qa⟩ hq q4 (h.imp 0 rfl λ_ _ hH=>mG.le hH l2) λG3 F4 l3 h=> ?_;obtain ⟨G4,l4,⟨H,⟨o,mp,e1,⟨es,cc,L,rfl,hL⟩,e3,e4⟩,hH⟩,h⟩:=h.pin;refine SH (l4 _ _ (l3 _ _ q4)) (hH _ _ e1) hL (e3.le l4) e4 hKl h λG5 F5 b14 mn nx l5 E5 g1 g2 g3 h=> ?_;have l15:=aa l1 (aa l2 (aa l3 (aa l4 l5)));refine SI hk (by omega) (hAn.le l15) E5 (Jp hN hk.prs) g1 g2 g3 hKl h λG6 F6 mo C l6 hC h=> ?_;exact ⟨G6,mo,C,rfl,aa l15 l6,hC,h⟩
end
theorem Nu:aE prog 58=true:=by kernel_rfl
theorem Nv:aE prog 71=true:=by kernel_rfl
def Nw (k:Nat) (g:Gr) (ds:List Dia):Prop:=∃C,mR k g.nons.length g.prods (aK g) C/\ds=fQ C g.nons.length
def kY (g:Gr):Prop:=∃(n:Nat) (c:Cf),n<g.nons.length/\Tg (Stp g.prods (aK g) c) n n
section
variable {G F:PH} {g:Gr} {k:Nat}
theorem mT {ban:Nat} {As:List (Ψ)} (hk:OkK g k) (hAn:AnV G ban g) (h:St G F As):
  ai prog 59 #[.pointer (some ⟨ban,0,none⟩)] F λr F'=>∃G' mo C,r=.map (some mo)/\G.le G'/\mR k g.nons.length g.prods (aK g) C/\St G' F' (mG aM (dq g.nons.length) G' mo C::As):=by
 have h0:St G F ([]++As):=h;refine (h0.callL (P:=λr G'=>∃mo C,r=.map (some mo)/\mR k g.nons.length g.prods (aK g) C) (Bs':=λr G'=>[λH=>∃mo C,(r=.map (some mo)/\mR k g.nons.length g.prods (aK g) C)/\mG aM (dq g.nons.length) G' mo C H]) λF1 h1=> ?_).mono ?_
 ·refine (ya hk hAn h1).mono ?_;rintro r F2 ⟨G',mo,C,h1,h2,h3,h4⟩;exact ⟨G',⟨mo,C,h1,h3⟩,h2,h4.imp 0 rfl λH _ hH=>⟨mo,C,⟨h1,h3⟩,hH⟩⟩
 ·rintro r F2 ⟨G',_,h2,h⟩;obtain ⟨mo,h⟩:=h.exI 0 rfl;obtain ⟨C,h⟩:=h.exI 0 rfl;obtain ⟨⟨e1,e2⟩,h⟩:=h.prI 0 rfl;exact ⟨G',mo,C,e1,h2,e2,h⟩
theorem wI {v:Γ} {ban b1 b2:Nat} (hk:OkK g k) (hAn:AnV G ban g) (q1:G b1=some (.cells v 37)) (hg:GV G v g)
  (h:St G F [pt b2 (.cells #[Sl.v Sl.nil] 39)]):ai prog 58 #[.pointer (some ⟨ban,0,none⟩),.pointer (some ⟨b1,0,none⟩),.pointer (some ⟨b2,0,none⟩)] F λr F'=>∃G',r=.tuple #[]/\G.le G'/\St G' F' (GI (Nw k g) b2 G'):=by
 obtain ⟨o1,o2,o3,o4⟩:=ib hk.ok;obtain ⟨c,n,t,s,p,l,f,rfl,hgs⟩:=hg;have es:=hgs.s.len (by decide);refine UE ?_;unfold Sh;refine ⟨_,rfl,_,by rw [aB];exact ld (h.le _ _ q1) rfl,?_⟩;refine (mT hk hAn h).mono ?_;rintro _ F1 ⟨G1,mo,C,rfl,l1,hC,h⟩;have h:=h.imp 0 rfl λ_ _ hH=>mG.mS hH;refine ⟨_,rfl,by rw [aB];exact ld (h.le _ _ (l1 _ _ q1)) rfl,?_⟩;rw [es];refine (fz h hk.le g.nons.length (λi _=>hC.sx i) (by omega)).mono ?_;rintro _ F2 ⟨G2,sl,rfl,l2,hsl,h⟩;refine ⟨_,rfl,by rw [aB];exact ld (h.le _ _ (l2 _ _ (l1 _ _ q1))) rfl,_,rfl,?_⟩;refine h.set0 (w':= #[Sl.v sl]) (by show 0<1;decide) rfl λF3 h=>⟨G2,rfl,aa l1 l2,?_⟩;exact h.imp 0 rfl λH _ hH=>⟨sl,_,⟨C,hC,rfl⟩,hsl,hH⟩
theorem iP {v:Γ} (hT:Tab F) (hg:GV F v g) (hz:Sz g) (hk:OkK g k):
  ai prog 19 #[.agg v] F λr F'=>(∃sl ds,r=.tuple #[Sl.v sl,vi 0]/\Nw k g ds/\RL F' sl ds)/\F.le F':=by
 obtain ⟨o1,o2,o3,o4⟩:=ib hk.ok;refine Uv ?_;unfold R3;refine (St.start F).newG λb1 G1 F1 l1 q1 _ h=>h.new λb2 F2 h=>⟨v,hg.size,ac (h.le _ _ q1),?_⟩;refine (eC (kr:=58) (fst:= #[]) (cap:= #[.pointer (some ⟨b1,0,none⟩),.pointer (some ⟨b2,0,none⟩)]) (Bs:=GI (Nw k g) b2) (hT.le l1) (hg.le l1) hz hk (λx hx=>by have:=o4 x hx;omega) (by omega) h Nu λG' ban F' l hAn h=> ?_).mono ?_
 ·have e:(#[]++ #[.pointer (some ⟨ban,0,none⟩)]++ #[.pointer (some ⟨b1,0,none⟩),.pointer (some ⟨b2,0,none⟩)]:Γ)= #[.pointer (some ⟨ban,0,none⟩),.pointer (some ⟨b1,0,none⟩),.pointer (some ⟨b2,0,none⟩)]:=by simp
  rw [e];exact wI hk hAn (l _ _ q1) ((hg.le l1).le l) h
 rintro _ F3 ⟨rfl,G3,l3,h⟩;obtain ⟨sl,ds,h1,h2,h⟩:=un h;refine ⟨_,rfl,sl,h.ld0 rfl,?_⟩;refine h.set0 (w':= #[Sl.v sl]) (by show 0<1;decide) rfl λF4 h=>⟨_,h.ld0 rfl,⟨sl,ds,rfl,h1,h2.le h.le⟩,aa l1 (aa l3 h.le)⟩
theorem Jo {C:Int->Tr} (hC:mR k g.nons.length g.prods (aK g) C):(∃n:Nat,n<g.nons.length/\C n≠leaf false)↔kY g:=by
 constructor
 ·rintro ⟨n,hn,hne⟩;have hex:¬∀c,(C n).ev c=(leaf false).ev c:=λh=>hne (eL (hC.sx n).1 trivial h);obtain ⟨c,hc⟩:=Classical.not_forall.1 hex;refine ⟨n,c,hn,(hC.iff n c hn).1 ?_⟩;cases e:(C n).ev c with
  |true=>rfl
  |false=>rw [e] at hc;exact absurd rfl hc
 ·rintro ⟨n,c,hn,h⟩;have:=(hC.iff n c hn).2 h;exact ⟨n,hn,λe=>by rw [e] at this;cases this⟩
def SJ (A:Bool->Prop) (b:Nat) (G:PH):List (Ψ):=[λH=>∃q,A q/\H b=some (.cells #[.bool q] 4)]
theorem yb {ban b3:Nat} (hk:OkK g k) (hAn:AnV G ban g)
  (h:St G F [pt b3 (.cells #[.bool false] 4)]):ai prog 71 #[.pointer (some ⟨ban,0,none⟩),.pointer (some ⟨b3,0,none⟩)] F λr F'=>∃G',r=.tuple #[]/\G.le G'/\St G' F' (SJ (λq=>q=true↔kY g) b3 G'):=by
 refine UM ?_;unfold Ss;refine (mT hk hAn h).mono ?_;rintro _ F1 ⟨G1,mo,C,rfl,l1,hC,h⟩;refine ⟨_,rfl,?_⟩;obtain ⟨G2,l2,⟨H,⟨o,mp,e1,⟨es,c,L,rfl,hL⟩,e3,e4⟩,hH⟩,h⟩:=h.pin;have qo:=hH _ _ e1;have hS:=e3.le l2;refine h.rangeG underlying95 aM (h.le _ _ qo) λb7 F2 h=> ?_
 refine ⟨λq F'=>∃(G':PH) (ks:Φ) (fd:Bool),q=es.size - ks.length/\G2.le G'/\ks.Nodup/\(∀n∈ks,∃v,mp n=some v)/\(fd=true↔∃n∈ks,C n≠leaf false)/\
  St G' F' [itG aM mo b7 es c ks,pt b3 (.cells #[.bool fd] 4)],_,⟨G2,[],false,rfl,aq _,List.nodup_nil,λ_ h=>(by cases h),by simp,h⟩,?_⟩
 rintro q F3 ⟨G3,ks,fd,rfl,l3,hkn,hks,hfd,h⟩;unfold Hc;refine h.nextG hL x8 hkn hks (h.le _ _ (l3 _ _ qo)) (λhall=> ?_) λn v F4 hnv hnk hlt h hr hent=> ?_
 ·refine ⟨_,rfl,false,rfl,λhc=>(by cases hc),λ_=> ?_⟩;refine ⟨G3,rfl,aa l1 (aa l2 l3),h.tail.imp 0 rfl λH _ hH=>⟨fd,?_,hH⟩⟩;dsimp only;rw [hfd,<- Jo hC];constructor
  ·rintro ⟨n,hn,hne⟩;obtain ⟨v,hv⟩:=hks n hn;have hm:=e4 n (by rw [hv];simp);obtain ⟨i,hi,rfl⟩:=U8.1 hm;exact ⟨i,VA.1 hi,hne⟩
  ·rintro ⟨n,hn,hne⟩;rcases hS (n:Int) with ⟨_,e⟩|⟨w,e,_⟩
   ·exact absurd e hne
   ·exact ⟨n,hall _ _ e,hne⟩
 ·refine ⟨_,rfl,true,rfl,λ_=> ?_,λhc=>(by cases hc)⟩;have hw:∃w,v=.agg w/\DV G2 w (dia (C n)):=by
   rcases hS n with ⟨e,_⟩|⟨w,e,hw⟩
   ·rw [e] at hnv;cases hnv
   ·rw [e] at hnv;cases hnv;exact ⟨w,rfl,hw⟩
  obtain ⟨w,rfl,hw⟩:=hw;refine ⟨_,hent,w,rfl,?_⟩;refine h.var hw.st (λb4 G4 F5 l4 q4 h=> ?_) rfl hw.size;have l34:=aa l3 l4;have nd:(ks++[n]).Nodup:=by rw [Vp];exact ⟨hkn,by simp,λa ha b hb e=>hnk (by rw [UU.1 hb] at e;rw [<- e];exact ha)⟩
  have hks':∀x∈ks++[n],∃v,mp x=some v:=λx hx=>by
   rcases UX.1 hx with hx|hx
   ·exact hks x hx
   ·rw [UU.1 hx];exact ⟨_,hnv⟩
  have ms:es.size - (ks++[n]).length<es.size - ks.length:=by rw [UV,Va];omega
  refine ⟨_,rfl,fd,ld (h.ptAt (i:=1) rfl) rfl,λht=> ?_,λhf=> ?_⟩
  ·refine h.set1 (w':= #[.bool true]) (by show 0<1;decide) rfl λF6 h=> ?_;refine ⟨_,ms,G4,ks++[n],true,rfl,l34,nd,hks',⟨λ_=> ?_,λ_=>rfl⟩,h⟩;obtain ⟨x,hx,hne⟩:=hfd.1 ht;exact ⟨x,UX.2 (.inl hx),hne⟩
  ·obtain ⟨sd,ew,_⟩:=id hw;refine ⟨_,ld (h.le _ _ q4) (by rw [ew];rfl),?_⟩;refine h.set1 (w':= #[.bool (decide ((dia (C n)).2≠0))]) (by show 0<1;decide) rfl λF6 h=> ?_;refine ⟨_,ms,G4,ks++[n],_,rfl,l34,nd,hks',?_,h⟩;rw [decide_eq_true_eq];have hno:¬∃n∈ks,C n≠leaf false:=λh=>by rw [hfd.2 h] at hf;cases hf
   constructor
   ·intro hne;exact ⟨n,by simp,λe=>hne ((dU (hC.sx n).1).2 e)⟩
   ·rintro ⟨x,hx,hne⟩ h0;rcases UX.1 hx with hx|hx
    ·exact hno ⟨x,hx,hne⟩
    ·rw [UU.1 hx] at hne;exact hne ((dU (hC.sx n).1).1 h0)
theorem sC {v:Γ} (hT:Tab F) (hg:GV F v g) (hz:Sz g) (hk:OkK g k):
  ai prog 23 #[.agg v] F λr F'=>(kY g/\r=vi 60\/¬kY g/\r=vi 0)/\F.le F':=by
 obtain ⟨o1,o2,o3,o4⟩:=ib hk.ok;refine Ux ?_;unfold R8;refine (St.start F).newG λb1 G1 F1 l1 q1 _ h=>h.new λb3 F2 h=> ?_;refine h.set0 (w':= #[.bool false]) (by show 0<1;decide) rfl λF3 h=>⟨v,hg.size,ac (h.le _ _ q1),?_⟩;refine (eC (kr:=71) (fst:= #[]) (cap:= #[.pointer (some ⟨b3,0,none⟩)]) (Bs:=SJ (λq=>q=true↔kY g) b3) (hT.le l1) (hg.le l1) hz hk (λx hx=>by have:=o4 x hx;omega) (by omega) h Nv λG' ban F' l hAn h=> ?_).mono ?_
 ·have e:(#[]++ #[.pointer (some ⟨ban,0,none⟩)]++ #[.pointer (some ⟨b3,0,none⟩)]:Γ)= #[.pointer (some ⟨ban,0,none⟩),.pointer (some ⟨b3,0,none⟩)]:=by simp
  rw [e];exact yb hk hAn h
 rintro _ F3 ⟨rfl,G3,l3,h⟩;obtain ⟨q,h⟩:=h.exI 0 rfl;obtain ⟨hq,h⟩:=h.prI 0 rfl;have h:St G3 F3 [pt b3 (.cells #[.bool q] 4)]:=h;refine ⟨_,rfl,λ_=>⟨q,h.ld0 rfl,λht=> ?_,λhf=> ?_⟩,λe=>absurd rfl e⟩
 ·exact ⟨.inl ⟨hq.1 ht,rfl⟩,aa l1 (aa l3 h.le)⟩
 ·exact ⟨.inr ⟨λhc=>(by rw [hq.2 hc] at hf;cases hf),rfl⟩,aa l1 (aa l3 h.le)⟩
end
end Go.Proofs.YtcemhghkipgdiaaGreatDoor
