/-
  The codec that writes: tokens, productions, levels, filters, grammars; Encode. Printed in part by a program (mkHr.py).
-/
import Derived.Test.YtcemhghkipgdiaaGreatDoorHm
namespace Go.Proofs.YtcemhghkipgdiaaGreatDoor
open Go Go.Proofs.Tryz Tr
set_option maxRecDepth 10000
instance (t:Tr):Decidable (t=leaf false):=match t with
 |leaf true=>isFalse (by simp)
 |leaf false=>isTrue rfl
 |node _ _ _=>isFalse (by simp)
noncomputable def eW:Nat->Tr->Nat->Δ
 |0,t,a=>if t=leaf false then [] else [a]
 |n+1,t,a=>if t=leaf false then [] else eW n (fx n false t) a++eW n (fx n true t) (a+2 ^ n)
theorem eA (n a:Nat):eW n (leaf false) a=[]:=by cases n<;>simp [eW]
theorem cE {n:Nat} {b:Bool}:∀(t:Tr),t.ok->df (n+1) t->df n (fx n b t)
 |leaf x,_,_=>by rw [jW];trivial
 |node v l h,hk,⟨b0,b1,b2⟩=>by
  have hf:=vz (w:=n) (b:=b) hk;obtain ⟨h0,h1,h2,h3,h4,h5⟩:=hk;rw [hf];split
  ·split
   ·exact cE h h5 b2
   ·exact cE l h4 b1
  ·exact xH (by omega) (cE l h4 b1) (cE h h5 b2)
theorem oZ (c i:Nat):cfg (c:Int) i=c.testBit i:=by simp [cfg]
theorem HE {n c:Nat} (h:c<2 ^ n):(cfg (c:Int)).set n false=cfg (c:Int):=by
 funext i;unfold Cf.set;split
 ·rename_i e;subst e;rw [oZ,VJ h]
 ·rfl
theorem DN {n c:Nat} (h:c<2 ^ n):(cfg (c:Int)).set n true=cfg ((2 ^ n+c:Nat):Int):=by
 funext i;unfold Cf.set;split
 ·rename_i e;subst e;rw [oZ,Nat.testBit_two_pow_add_eq,VJ h];rfl
 ·rename_i e;rw [oZ,oZ];by_cases hi:i<n
  ·rw [Nat.testBit_two_pow_add_gt hi]
  ·have h1:2 ^ n+c<2 ^ i:=by have:2 ^ (n+1)<=2 ^ i:=Vq (by decide) (by omega);rw [WA] at this;omega
   rw [VJ h1,VJ (by omega)]
theorem lr:∀(n:Nat) (t:Tr),t.ok->df n t->∀a,eW n t a=((List.range (2 ^ n)).filter λc=>t.ev (cfg (c:Nat))).map (a+ ·)
 |0,t,_,hb,a=>by
  cases t with
  |node v l h=>exact absurd hb.1 (by omega)
  |leaf x=>
   cases x
   ·rw [eA];simp [Tr.ev]
   ·simp [eW,Tr.ev,Wv]
 |n+1,t,hk,hb,a=>by
  by_cases ht:t=leaf false
  ·subst ht;rw [eA];simp [Tr.ev]
  ·rw [eW,if_neg ht];obtain ⟨k0,_,e0⟩:=dC n false hk;obtain ⟨k1,_,e1⟩:=dC n true hk;rw [lr n _ k0 (cE t hk hb),lr n _ k1 (cE t hk hb)];rw [show 2 ^ (n+1)=2 ^ n+2 ^ n by rw [WA];omega,List.range_add,List.filter_append,Vm];congr 1
   ·congr 1;apply List.filter_congr;intro c hc;rw [e0,HE (VA.1 hc)]
   ·rw [List.filter_map,List.map_map];have:((λc=>t.ev (cfg (c:Nat)))∘λx=>2 ^ n+x)=λc=>t.ev (cfg ((2 ^ n+c:Nat):Int)):=rfl;rw [this];have hf:(List.range (2 ^ n)).filter (λc=>(fx n true t).ev (cfg (c:Nat)))=(List.range (2 ^ n)).filter λc=>t.ev (cfg ((2 ^ n+c:Nat):Int)):=by apply List.filter_congr;intro c hc;rw [e1,DN (VA.1 hc)]
    rw [hf];apply Wk;intro c _;simp only [Function.comp_apply];omega
theorem tJ (n:Nat) (t:Tr) (hk:t.ok) (hb:df n t) (a:Nat):(eW n t a).length<=2 ^ n:=by rw [lr n t hk hb,U6];exact VK (List.length_filter_le _ _) (by simp)
theorem tK {d:Dia} {n:Nat} (h:ij d n):∃t:Tr,t.ok/\d=dia t/\tre d=t/\(aL t).length<=4096/\df n t:=by
 obtain ⟨h1,h2⟩:=h;unfold chk at h1;split at h1
 ·cases h1
 ·rename_i hl;split at h1
  ·rename_i hv;obtain ⟨t,ht,rfl⟩:=hv;refine ⟨t,ht,rfl,dJ ht,by simpa [dia,aO] using hl,?_⟩;refine rk (bv ht) (λx hx=> ?_) t (bI ht);obtain ⟨_,v,l,r,rfl,_,_⟩:=(bv ht).mem x hx;have:=h2 (br (aL t) (node v l r)) (U8.2 ⟨_,hx,rfl⟩);simp only [br] at this;simp only [top];omega
  ·cases h1
abbrev vC (c:Nat):Value:=.int .u64 (c:Int)
theorem yx:aE prog 97=true:=by kernel_rfl
theorem DO {t:Tr} (hk:t.ok) (hl:(aL t).length<=4096) {n:Nat} (hn:n<64) (b:Bool):sS (dia t) (n:Int) b=(dia (fx n b t),0):=by have h1:=pG hk hl;have h2:=nB (w:=n) (b:=b) hk;unfold sS;rw [if_neg (λh=>h h1),if_neg (by omega),dJ hk,N4];unfold lim;rw [if_neg (by simp only [dia,aO];omega)]
theorem CJ {G0:PH} {b3 b6 b7:Nat} {most:Int} (h3:G0.cell ⟨b3,0,none⟩=some (vi most)) (h7:G0.cell ⟨b7,0,none⟩=some (.func (.func 97) #[] #[.pointer (some ⟨b6,0,none⟩),.pointer (some ⟨b3,0,none⟩),.pointer (some ⟨b7,0,none⟩)])):
  ∀(n:Nat),n<=30->∀(t:Tr) (above:Nat) (out:Δ) (G F:PH) (s:Sl) (v:Γ),t.ok->(aL t).length<=4096->df n t->above % 2 ^ n=0->above+2 ^ n<=2 ^ 63->G0.le G->DV G v (dia t)->(out.length:Int)<=most->out.length+2 ^ n<=2 ^ 31->
   St G F [own s 77 1 (out.map vC),pt b6 (.cells #[s.v] 73)]->
   ai prog 97 #[.agg v,vi n,.int .u64 above,.pointer (some ⟨b6,0,none⟩),.pointer (some ⟨b3,0,none⟩),.pointer (some ⟨b7,0,none⟩)] F
    λr F'=>∃G' s',r=.bool (decide ((out.length+(eW n t above).length:Nat)<=most))/\G.le G'/\St G' F' [own s' 77 1 (((out++eW n t above).take most.toNat).map vC),pt b6 (.cells #[s'.v] 73)]:=by
 intro n;induction n with
 |zero=>
  intro _ t above out G F s v hk hl hb ha ha2 l0 hd hm hlen h;obtain ⟨sn,rfl,hn⟩:=hd;refine QH ?_;unfold M7;refine h.newG λb F1 F2 l1 q1 _ h=>⟨_,ld (h.le _ _ q1) rfl,λh0=> ?_,λh0=>⟨λ_=> ?_,λh=>absurd rfl h⟩⟩
  ·have e:t=leaf false:=xL.1 (Int.natCast_eq_zero.1 h0);subst e;refine ⟨F1,s,?_,l1,?_⟩
   ·rw [eA,decide_eq_true (by simpa using hm)]
   ·rw [eA,Vx,UZ (by omega)];exact h
  ·have e:t≠leaf false:=λe=>h0 (by rw [e];rfl);have ee:eW 0 t above=[above]:=by rw [eW,if_neg e]
   have hsl:s.len=out.length:=by have:=(h.ownAt (i:=0) rfl).1.rd.len;simp at this;exact this.symm
   refine ⟨_,rfl,_,h.ld1 rfl,_,rfl,_,aH (aa l0 (aa l1 h.le)) h3,λh1=> ?_,λh1=>⟨_,h.ld1 rfl,?_⟩⟩
   ·refine ⟨F1,s,?_,l1,?_⟩
    ·rw [ee,decide_eq_false (by simp only [Va];omega)]
    ·rw [ee,Vg (by omega),UZ (by omega)];exact h
   ·refine h.push0 SQ (c:= #[vC above]) rfl (by simp [ak]) (by omega) λs' G3 F3 l3 h hl'=> ?_;refine h.set1 (w':= #[s'.v]) (by simp) rfl λF4 h=>⟨G3,s',?_,aa l1 l3,?_⟩
    ·rw [ee,decide_eq_true (by simp only [Va];omega)]
    ·rw [ee,UZ (by simp;omega),Vm];exact h
 |succ n ih=>
  intro hn30 t above out G F s v hk hl hb ha ha2 l0 hd hm hlen h;have hd0:=hd;obtain ⟨sn,rfl,hn⟩:=hd;refine QH ?_;unfold M7;refine h.newG λb F1 F2 l1 q1 _ h=>⟨_,ld (h.le _ _ q1) rfl,λh0=> ?_,λh0=>⟨λh=>by omega,λ_=>⟨_,rfl,ac (h.le _ _ q1),?_⟩⟩⟩
  ·have e:t=leaf false:=xL.1 (Int.natCast_eq_zero.1 h0);subst e;refine ⟨F1,s,?_,l1,?_⟩
   ·rw [eA,decide_eq_true (by simpa using hm)]
   ·rw [eA,Vx,UZ (by omega)];exact h
  ·have e:t≠leaf false:=λe=>h0 (by rw [e];rfl);have ee:eW (n+1) t above=eW n (fx n false t) above++eW n (fx n true t) (above+2 ^ n):=by rw [eW,if_neg e]
   have ew:IntKind.i64.wrap (((n+1:Nat):Int) - 1)=(n:Int):=by rw [aS (by omega) (by omega)];omega
   rw [ew];have hp:2 ^ (n+1)=2 ^ n+2 ^ n:=by rw [WA];omega
   have hm2:above % 2 ^ n=0:=by have:2 ^ n ∣ 2 ^ (n+1):=⟨2,by rw [WA]⟩;rw [<- Nat.mod_mod_of_dvd above this,ha,Nat.zero_mod]
   have hor:above ||| 2 ^ n=above+2 ^ n:=by obtain ⟨q,hq⟩:2 ^ (n+1) ∣ above:=Nat.dvd_of_mod_eq_zero ha;rw [hq,Nat.mul_comm,<- Nat.shiftLeft_eq,<- Nat.shiftLeft_add_eq_or_of_lt (by omega)]
   have rs:∀(x:Bool) {G:PH},F1.le G->ai prog 98 #[.agg #[sn.v,vi (dia t).2],vi n,.bool x] G λr F'=>(∃w,r=.tuple #[.agg w,vi 0]/\DV F' w (dia (fx n x t)))/\G.le F':=λx {G} l=>by have:=sT (hd0.le (aa l1 l)) (n:Int) x;rw [DO hk hl (by omega)] at this;exact this.mono λr F' ⟨⟨w,h1,h2⟩,h3⟩=>⟨⟨w,h1,h2⟩,h3⟩
   refine h.run (rs false (aq F1)) λr G3 F3 hr l3 h=> ?_;obtain ⟨w,rfl,hw⟩:=hr;refine ⟨_,_,rfl,?_⟩;refine h.var hw.st (λb10 G4 F4 l4 q10 h=> ?_) (by rfl) hw.size;refine ⟨_,rfl,ac (h.le _ _ (l4 _ _ (l3 _ _ q1))),?_⟩;refine h.run (rs true (aa l3 l4)) λr G5 F5 hr l5 h=> ?_;obtain ⟨u,rfl,hu⟩:=hr;refine ⟨_,_,rfl,?_⟩;refine h.var hu.st (λb12 G6 F6 l6 q12 h=> ?_) (by rfl) hu.size;have l16:=aa l3 (aa l4 (aa l5 l6));obtain ⟨k0,_,_⟩:=dC n false hk;obtain ⟨k1,_,_⟩:=dC n true hk;have s0:=nB (w:=n) (b:=false) hk;have s1:=nB (w:=n) (b:=true) hk;have b0:=cE (b:=false) t hk hb;have b1:=cE (b:=true) t hk hb;have en0:=tJ n _ k0 b0 above;have en1:=tJ n _ k1 b1 (above+2 ^ n);have l06:=aa l0 (aa l1 l16);refine ⟨_,rfl,_,aH (aa l06 h.le) h7,w,hw.size,ac (h.le _ _ (l6 _ _ (l5 _ _ q10))),_,_,_,rfl,yx,?_⟩;refine (ih (by omega) (fx n false t) above out G6 F6 s w k0 (by omega) b0 hm2 (by omega) l06 (hw.le (aa l4 (aa l5 l6))) hm (by omega) h).mono ?_;rintro _ F7 ⟨G7,s7,rfl,l7,h⟩;refine ⟨_,rfl,λht=> ?_,λht=> ?_⟩
   ·have ht:=of_decide_eq_true ht;rw [UZ (by rw [UV];omega)] at h;have hbit:=MZ (x:=above) (v:=n) (by omega) (by omega);refine ⟨_,aH (aa l06 (aa l7 h.le)) h7,u,hu.size,ac (h.le _ _ (l7 _ _ q12)),by omega,_,_,_,rfl,yx,?_⟩;rw [hbit,hor];refine (ih (by omega) (fx n true t) (above+2 ^ n) (out++eW n (fx n false t) above) G7 F7 s7 u k1 (by omega) b1 (by rw [Nat.add_mod_right];exact hm2) (by omega) (aa l06 l7) (hu.le (aa l6 l7)) (by rw [UV];exact ht) (by rw [UV];omega) h).mono ?_;rintro _ F8 ⟨G8,s8,rfl,l8,h⟩;refine ⟨_,rfl,G8,s8,?_,aa l1 (aa l16 (aa l7 l8)),?_⟩
    ·congr 1;rw [ee,UV,UV,Nat.add_assoc]
    ·rw [ee,<- Vo];exact h
   ·have ht:=of_decide_eq_false ht;refine ⟨G7,s7,?_,aa l1 (aa l16 l7),?_⟩
    ·rw [ee,decide_eq_false (by rw [UV];omega)]
    ·rw [ee,<- Vo,Vg (by rw [UV];omega)];exact h
noncomputable def mZ (g:Gr):Δ:=(List.range (2 ^ g.conds.length)).filter λc=>(tre g.fam).ev (cfg (c:Nat))
noncomputable def oc (g:Gr) (most:Int):Δ×Bool:=if nf g≠0\/most<1 then ([],false) else ((mZ g).take most.toNat,decide (((mZ g).length:Int)<=most))
theorem uO {F:PH} {v:Γ} {g:Gr} (hT:Tab F) (hg:GV F v g) (hz:Sz g) (hc:g.conds.length<=30) (most:Int):
  ai prog 39 #[.agg v,vi most] F λr F'=>(∃s:Sl,r=.tuple #[s.v,.bool (oc g most).2]/\RdS F' s 1 ((oc g most).1.map vC))/\F.le F':=by
 have hg0:=hg;obtain ⟨c,n,t,s,p,l,f,rfl,hs⟩:=hg;have ec:=hs.c.len (by decide);refine TV ?_;unfold Qy;refine fresh λb2 F1 l1 q2 _=> ?_;refine fresh λb3 F2 l2 q3 _=>⟨_,hg0.size,ac (l2 _ _ q2),?_⟩;have l12:=aa l1 l2;refine (ji (hT.le l12) (hg0.le l12) hz).mono ?_;rintro _ F3 ⟨rfl,l3⟩;have l13:=aa l12 l3;have bad:nf g≠0\/most<1->(∃s:Sl,Value.tuple #[Sl.nil.v,.bool false]=.tuple #[s.v,.bool (oc g most).2]/\RdS F3 s 1 ((oc g most).1.map vC))/\F.le F3:=λh=>by unfold oc;rw [if_pos h];exact ⟨⟨Sl.nil,rfl,RdS.nil _ _⟩,l13⟩
 refine ⟨_,rfl,λh=>bad (.inl h),λh0=>⟨_,ld (l3 _ _ q3) rfl,λh=>bad (.inr h),λh1=> ?_⟩⟩;have h0:nf g=0:=Classical.not_not.1 h0;obtain ⟨tr,hk,hd,ht,hl,hb⟩:=tK (lu.1 h0).fam.2.2.1;refine (St.start F3).new λb6 F4 h=> ?_;refine h.new λb7 F5 h=> ?_;refine h.set0 (by simp) rfl λF6 h=> ?_;refine h.pinb (K:=λF6=>_) λG6 l6 q7 h=> ?_;replace h:=h.nilOwn 77 1;have l36:=aa l3 l6;refine ⟨_,ld (h.le _ _ q7) rfl,#[n.v,vi g.fam.2],rfl,kD (h.le _ _ (l6 _ _ (l3 _ _ (l2 _ _ q2)))) rfl,_,ld (h.le _ _ (l6 _ _ (l3 _ _ (l2 _ _ q2)))) rfl,_,_,_,rfl,yx,?_⟩;rw [ec];have hp:2 ^ g.conds.length<=2 ^ 30:=Vq (by decide) hc;refine (CJ (G0:=G6) (most:=most) (ld (l36 _ _ q3) rfl) (ld q7 rfl) g.conds.length hc tr 0 [] G6 F6 Sl.nil _ hk hl hb (Nat.zero_mod _) (by omega) (aq _) (by rw [<- hd];exact DV.mk (hs.n.le (aa l13 l6))) (by simp;omega) (by simp;omega) h).mono ?_;rintro _ F7 ⟨G7,s7,rfl,l7,h⟩;have en:eW g.conds.length tr 0=mZ g:=by rw [lr _ _ hk hb];unfold mZ;rw [ht];simp
 rw [en] at h ⊢;refine ⟨_,rfl,s7,h.ld1 rfl,?_⟩;unfold oc;rw [if_neg (by omega)];refine ⟨⟨s7,by simp,?_⟩,aa l13 (aa l6 (aa l7 h.le))⟩;have:=(h.ownAt (i:=0) rfl).1.rd;simpa using this
abbrev vB (n:Nat):Value:=.int .u8 (n:Int)
section
variable {G:PH} {bc:Nat}
end
theorem St.pinO {G F:PH} {As:List (Ψ)} {e n:Nat} {s:Sl} {vs:Ξ} (h:St G F (own s e n vs::As)):∃G',G.le G'/\RdS G' s n vs/\St G' F As:=by obtain ⟨G',h1,⟨H,hA,hH⟩,h2⟩:=h.pin;exact ⟨G',h1,(cf.rd hA).le hH,h2⟩
section
end
end Go.Proofs.YtcemhghkipgdiaaGreatDoor
