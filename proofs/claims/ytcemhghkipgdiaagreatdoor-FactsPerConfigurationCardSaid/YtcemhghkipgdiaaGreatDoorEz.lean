/-
  The reference's diagrams: an operation on two diagrams: the numbers of the results.
-/
import Derived.Test.YtcemhghkipgdiaaGreatDoorEs
namespace Go.Proofs.YtcemhghkipgdiaaGreatDoor
open Go Go.Proofs.Tryz Tr
set_option maxRecDepth 10000
section
variable {F:PH} {v:Γ} {d:Dia} {S:List Tr} {t:Tr}
theorem fu (hd:DV F v d) (hp:brs S<+:d.1) (ht:inn S t) (hf:Fit (d.1.length+2)):
  ai prog 192 #[.agg v,vi (num S t)] F λr F'=>r=vi t.top/\F.le F':=by
 obtain ⟨hfit,hlt⟩:=pC hp ht hf;obtain ⟨s,rfl,hr⟩:=hd;refine Qn ?_;unfold Kz;intro b2 hb2;refine atI ?_;have hle:=ae (.cells #[s.v,vi d.2] 31) hb2;refine ⟨λh=> ?_,λh=> ?_⟩
 ·have hl:=pn (S:=S) (t:=t) (by omega);cases t with
  |leaf b=>exact ⟨rfl,hle⟩
  |node _ _ _=>cases hl
 ·cases t with
  |leaf b=>have:=cT S b;omega
  |node w l r=>have hx:=gq hp (ff (cx ht rfl) rfl);obtain ⟨a,h1,_,h2,_⟩:=rdb (hr.le hle) hx;have hw:=q0 hfit (dm (S:=S) (t:=node w l r) rfl);have hg:=dm (S:=S) (t:=node w l r) rfl;refine ⟨s,by simp,a,h1,by rw [hw];omega,by rw [hw,hr.blen];omega,_,by rw [hw];exact h2,rfl,hle⟩
theorem oE (hd:DV F v d) (hp:brs S<+:d.1) (ht:inn S t) (hf:Fit (d.1.length+2)) {w:Nat} (hw:w<64):
  ai prog 193 #[.agg v,vi (num S t),vi w] F λr F'=>r=.tuple #[vi (num S (lo w t)),vi (num S (hi w t))]/\F.le F':=by
 obtain ⟨hfit,hlt⟩:=pC hp ht hf;have hd':=hd;obtain ⟨s,rfl,hr⟩:=hd;refine Qo ?_;unfold KA;intro b3 hb3;refine atI ?_;have hle:=ae (.cells #[s.v,vi d.2] 31) hb3;refine ⟨_,rfl,ac (al _ _ _),?_⟩;refine (fu (hd'.le hle) hp ht hf).mono ?_;rintro _ F2 ⟨rfl,hle2⟩;have hc:F2 b3=some _:=hle2 _ _ (al _ _ _);have hle':F.le F2:=λb o h=>hle2 b o (hle b o h);refine ⟨_,rfl,λh=> ?_,λh=> ?_⟩
 ·refine ⟨?_,hle'⟩;cases t with
  |leaf b=>rfl
  |node w' l r=>have:¬w'=w:=λe=>h (by simp [Tr.top,e]);simp [lo,hi,this]
 ·cases t with
  |leaf b=>simp only [Tr.top] at h;omega
  |node w' l r=>
   have e:w'=w:=by simp only [Tr.top] at h;omega
   subst e;have hx:=gq hp (ff (cx ht rfl) rfl);obtain ⟨a,h1,_,_,h3,h4⟩:=rdb (hr.le hle') hx;have hw:=q0 hfit (dm (S:=S) (t:=node w' l r) rfl);have hg:=dm (S:=S) (t:=node w' l r) rfl
   refine ⟨s,by rw [am hc];rfl,a,h1,by rw [hw];omega,by rw [hw,hr.blen];omega,_,by rw [hw];exact h3,
    s,by rw [am hc];rfl,a,h1,by rw [hw];omega,by rw [hw,hr.blen];omega,_,by rw [hw];exact h4,?_,hle'⟩
   simp [lo,hi,br]
end
section
variable {F:PH}
theorem dy (x:Bool):ai prog 34 #[.bool x] F λr F'=>∃w,r=.agg w/\DV F' w (dia (leaf x))/\F.le F':=by
 refine TH ?_;unfold Qb;intro b2 hb2;refine atI ?_;have l2:=ae (.cells zD 31) hb2;have q2:=al F b2 (.cells zD 31);refine ⟨λh=> ?_,λh=> ?_⟩
 ·subst h;have hd:∀G:PH,DV G #[Value.slice none 0 0,vi 1] (dia (leaf true)):=λG=>⟨Sl.nil,rfl,RdS.nil G 3⟩;exact f8 (K:=λvres F'=>∃w,Value.agg vres=.agg w/\DV F' w (dia (leaf true))/\F.le F') (hd F) q2 rfl ⟨_,rfl,hd _,aw l2 hb2⟩
 ·subst h;have hd:∀G:PH,DV G zD (dia (leaf false)):=λG=>⟨Sl.nil,rfl,RdS.nil G 3⟩;exact f8 (K:=λvres F'=>∃w,Value.agg vres=.agg w/\DV F' w (dia (leaf false))/\F.le F') (hd F) q2 rfl ⟨_,rfl,hd _,aw l2 hb2⟩
theorem nA (x:Int):ai prog 109 #[vi x] F λr F'=>DRV F' r (sU x)/\F.le F':=by
 refine Qg ?_;unfold Kq;intro b2 hb2;refine atI ?_;have l2:=ae (.cells zD 31) hb2;have q2:=al F b2 (.cells zD 31);generalize F.set b2 (.cells zD 31)=F2 at*;have bad:x<0\/63<x->lZ x b2 true (λr F'=>DRV F' r (sU x)/\F.le F') F2:=λh=>by
  unfold lZ;refine ⟨λ_=> ?_,λhc=>by cases hc⟩;have e:sU x=(iT,1):=by unfold sU;rw [if_pos h]
  rw [e];exact zt q2 rfl l2 hb2
 refine ⟨λh=>bad (.inl h),λh=> ?_⟩;by_cases h2:63<x
 ·rw [decide_eq_true h2];exact bad (.inr h2)
 ·rw [decide_eq_false h2];unfold lZ;refine ⟨λhc=>(by cases hc),λ_=>⟨rfl,λb13 hb13=> ?_⟩⟩;refine atI ?_;have e:sU x=(dia (tv x.toNat),0):=by unfold sU;rw [if_neg (by omega)]
  have hx:((x.toNat:Nat):Int)=x:=by omega
  have lx:=ae (.cells #[vi x,vi 0,vi 1] 124) hb13;have q13:=al F2 b13 (.cells #[vi x,vi 0,vi 1] 124);have n:b13≠b2:=(aJ hb13 q2).symm;replace q2:=lx _ _ q2;have l3:=l2.trans lx;rw [e];have hd:∀G:PH,G b13=some (.cells #[vi x,vi 0,vi 1] 124)->DV G #[(Sl.mk (some ⟨b13,0,none⟩) 1 1).v,vi 2] (dia (tv x.toNat)):=λG hG=>by rw [M3,hx];exact ⟨_,rfl,RdS.new hG rfl rfl (UW _)⟩
  exact f8 (K:=λvres F'=>DRV F' (.tuple #[.agg vres,vi 0]) (dia (tv x.toNat),0)/\F.le F') (hd _ q13) q2 rfl ⟨⟨_,rfl,hd _ (by rw [av _ _ n];exact q13)⟩,aw l3 hb2⟩
end
def rnS (S:List Tr) (t:Tr):Nat:=if t∈S then num S t else 0
def rnL (S0 S:List Tr):Ξ:=S0.map λt=>vi (rnS S t:Int)
structure WS (F0 F:PH) (bw g:Nat) (ns:Sl) (S0 S:List Tr):Prop where
 le:F0.le F
 cl:Cl S
 sub:∀x∈S,x∈S0
 nw:F0 bw=none
 ng:F0 g=none
 rd:RdS F0 ns 3 (aY (brs S0))
 ex:∃s:Sl,F bw=some (.cells #[ns.v,Sl.v ⟨some ⟨g,0,none⟩,S0.length,S0.length⟩,s.v] 243)/\cf F 124 3 s (aY (brs S))/\∀a,s.base=some a->F0 a.block=none
 hg:F g=some (.cells (rnL S0 S).toArray 3)
theorem FF {S0 S:List Tr} (h0:Cl S0) {t:Tr} (hS':Cl (S++[t])) (ht:t∈S0) (hl:t.isL=false):(rnL S0 S).set (num S0 t - 2) (vi ((S.length+2:Nat):Int))=rnL S0 (S++[t]):=by
 apply VI;intro j;unfold rnL;rw [V6,U5,U5];have hg:=dm (S:=S0) hl;have hgt:=ff ht hl;by_cases hj:num S0 t - 2=j
 ·subst hj;have hlt:=(N6.1 hgt).1;rw [if_pos rfl,U6,if_pos hlt,hgt];simp only [VD,rnS];rw [if_pos (by simp),d8 hS' (k:=S.length) (by simp)]
 ·rw [if_neg hj];cases hx:S0[j]? with
  |none=>rfl
  |some u=>
   simp only [VD,rnS];have hne:u≠t:=λe=>by subst e;have:=d8 h0 hx;omega
   have hm:u∈S++[t]↔u∈S:=by simp [hne]
   by_cases hu:u∈S
   ·rw [if_pos hu,if_pos (hm.2 hu),bN (.inr hu)]
   ·rw [if_neg hu,if_neg (λh=>hu (hm.1 h))]
theorem xI {bw g:Nat} {ns:Sl} {S0:List Tr} (h0:Cl S0) (hf:Fit (S0.length+4)):∀(t:Tr),inn S0 t->∀(F0 F:PH) (S:List Tr),WS F0 F bw g ns S0 S->
  ai prog 195 #[.pointer (some ⟨bw,0,none⟩),vi (num S0 t)] F λr F'=>r=vi (num (vis t S) t)/\WS F0 F' bw g ns S0 (vis t S):=by
 intro t;induction t with
 |leaf x=>intro ht F0 F S hs;refine KC ?_;unfold FL;have:=cT S0 x;exact ⟨λ_=>⟨rfl,hs⟩,λh=>by omega⟩
 |node v l h ihl ihh=>
  intro ht F0 F S hs;have hs':=hs;obtain ⟨hle,hS,hsub,hnw,hng,hrd,⟨s,hw,ho,hsb⟩,hg⟩:=hs;have htm:=cx ht rfl;obtain ⟨hil,hih⟩:=h0.inn_kids ht;have hok:=h0.inn_ok ht;have hge:=dm (S:=S0) (t:=node v l h) rfl;have hnl:=dt ht;have hgt:=ff htm rfl;have hlt:=(N6.1 hgt).1;have hw2:=q0 (n:=num S0 (node v l h)) (by omega) hge;refine KC ?_;unfold FL;refine ⟨λh=>by omega,λ_=> ?_⟩;rw [hw2];have cell0:F.cell ⟨bw,0,none⟩=some ns.v:=by rw [am hw];rfl
  have cell1:F.cell (Addr.add ⟨bw,0,none⟩ 1)=some (Sl.v ⟨some ⟨g,0,none⟩,S0.length,S0.length⟩):=by rw [aB,am hw];rfl
  have cellg:F.cell (Addr.add ⟨g,0,none⟩ (Int.toNat ((num S0 (node v l h) - 2:Nat):Int)*1))=some (vi (rnS S (node v l h))):=by
   simp only [aB];rw [am hg];have:(rnL S0 S)[num S0 (node v l h) - 2]? =some (vi (rnS S (node v l h))):=by unfold rnL;rw [U5,hgt];rfl
   simpa using this
  refine ⟨_,rfl,_,cell1,_,rfl,by omega,by simp only;omega,_,cellg,λhpos=> ?_,λhpos=> ?_⟩
  ·have hin:node v l h∈S:=by
    unfold rnS at hpos;split at hpos
    ·assumption
    ·omega
   have e:vis (node v l h) S=S:=gn (.inr hin);rw [e];have e2:rnS S (node v l h)=num S (node v l h):=by unfold rnS;rw [if_pos hin]
   rw [e2] at cellg;exact ⟨_,cell1,_,rfl,by omega,by simp only;omega,_,cellg,rfl,hs'⟩
  ·have hin:node v l h ∉ S:=λhin=>hpos (by
    have:=dm (S:=S) (t:=node v l h) rfl;unfold rnS;rw [if_pos hin]
    omega)
   obtain ⟨a,ha,hrow,_⟩:=rdb (hrd.le hle) (jM hgt);have hns:=hrd.blen;rw [aO] at hns;refine ⟨ns,cell0,a,ha,by omega,by omega,aV (br S0 (node v l h)),rfl,by simpa using hrow,?_⟩;intro b5 hb5;refine atI ?_;refine stW (al _ _ _) rfl rfl (iA _) ?_;rw [bh];have h50:F0 b5=none:=aT hle hb5;have n5w:bw≠b5:=aJ hb5 hw;have n5g:g≠b5:=aJ hb5 hg;have hs5:WS (F0.set b5 (.cells (aV (br S0 (node v l h))) 124)) (F.set b5 (.cells (aV (br S0 (node v l h))) 124)) bw g ns S0 S:=by
    refine ⟨λx ob hx=> ?_,hS,hsub,by rw [av _ _ n5w];exact hnw,by rw [av _ _ n5g];exact hng,hrd.le (ae _ h50),⟨s,by rw [av _ _ n5w];exact hw,ho.upto (ae _ hb5),λa ha=> ?_⟩,by rw [av _ _ n5g];exact hg⟩
    ·by_cases hxb:x=b5
     ·subst hxb;rw [al] at hx ⊢;exact hx
     ·rw [av _ _ hxb] at hx ⊢;exact hle _ _ hx
    ·obtain ⟨cur,hcur⟩:=ho.elem ha;rw [av _ _ (aJ hb5 hcur)];exact hsb a ha
   have hle0:F0.le (F0.set b5 (.cells (aV (br S0 (node v l h))) 124)):=ae _ h50;have hc5:(F0.set b5 (.cells (aV (br S0 (node v l h))) 124)) b5=some (.cells (aV (br S0 (node v l h))) 124):=al _ _ _;generalize F0.set b5 (.cells (aV (br S0 (node v l h))) 124)=G0 at*;generalize F.set b5 (.cells (aV (br S0 (node v l h))) 124)=F1 at*;refine ⟨_,by rw [am (hs5.le _ _ hc5)];rfl,?_⟩;refine (ihl hil G0 F1 S hs5).mono ?_;rintro _ F2 ⟨rfl,hs2⟩;refine ⟨_,rfl,_,by rw [am (hs2.le _ _ hc5)];rfl,?_⟩;refine (ihh hih G0 F2 _ hs2).mono ?_;rintro _ F3 ⟨rfl,hs3⟩;obtain ⟨hle3,hS3,hsub3,hnw3,hng3,hrd3,⟨s3,hw3,ho3,hsb3⟩,hg3⟩:=hs3;obtain ⟨fl1,fl2,X,fl3,fl4⟩:=bo l S hok.2.2.2.2.1 hS;obtain ⟨fh1,fh2,Y,fh3,fh4⟩:=bo h (vis l S) hok.2.2.2.2.2 fl1;have hnl':num (vis l S) l=num (vis h (vis l S)) l:=by rw [fh3,bN fl2]
   have evis:vis (node v l h) S=vis h (vis l S)++[node v l h]:=by
    conv=>lhs;unfold vis
    rw [if_neg hin]
   obtain ⟨hSv,_,_⟩:=bo (node v l h) S hok hS;rw [evis] at hSv ⊢;rw [hnl'];have hil3:inn (vis h (vis l S)) l:=by rw [fh3];exact bG fl2
   generalize vis h (vis l S)=T at*;refine ⟨_,rfl,s3,by rw [aB,am hw3];rfl,_,by rw [am (hle3 _ _ hc5)];rfl,rfl,λb54 hb54=> ?_⟩;refine atI ?_;have hTl:T.length<=S0.length:=cY T S0 hS3.nodup hsub3;have hlen:=ho3.rd.blen;rw [aO] at hlen;have hle54:=ae (.cells (aV ⟨(v:Int),(num T l:Int),(num T h:Int)⟩) 124) hb54;have h54:=al F3 b54 (.cells (aV ⟨(v:Int),(num T l:Int),(num T h:Int)⟩) 124);show aG prog _ (F3.set b54 (.cells (aV ⟨(v:Int),(num T l:Int),(num T h:Int)⟩) 124)) _;replace hle3:G0.le (F3.set b54 (.cells (aV ⟨(v:Int),(num T l:Int),(num T h:Int)⟩) 124)):=λx ob hx=>hle54 _ _ (hle3 _ _ hx);replace ho3:=ho3.upto hle54;replace hw3:=hle54 _ _ hw3;replace hg3:=hle54 _ _ hg3;generalize F3.set b54 (.cells (aV ⟨(v:Int),(num T l:Int),(num T h:Int)⟩) 124)=F4 at*;refine lK underlying29 xy xz rfl (by decide) hle3 ho3 hsb3 (x:=⟨some ⟨b54,0,none⟩,1,1⟩) (news:=dn ⟨(v:Int),(num T l:Int),(num T h:Int)⟩) (RdS.new h54 rfl rfl (UW _))
    (λx hx=>gV [⟨(v:Int),(num T l:Int),(num T h:Int)⟩] x (by simpa [aY] using hx)) (by simp only [hlen];omega) (by simp only [hlen];omega) ?_
   intro s5 F5 hle5 ho5 hlen5 hsb5 hk5 _;have new:∀a,s3.base=some a->a.block≠bw:=λa ha e=>by obtain ⟨cur,hcur⟩:=ho3.elem ha;rw [e,hw3] at hcur;simp at hcur
   have neg:∀a,s3.base=some a->a.block≠g:=λa ha e=>by obtain ⟨cur,hcur⟩:=ho3.elem ha;rw [e,hg3] at hcur;simp at hcur
   replace hw3:=hk5 _ _ hw3 (λ⟨a,ha,e⟩=>new a ha e);replace hg3:=hk5 _ _ hg3 (λ⟨a,ha,e⟩=>neg a ha e);have nwg:bw≠g:=λe=>by rw [e,hg3] at hw3;simp at hw3
   have hsb6:∀a,s5.base=some a->a.block≠bw/\a.block≠g:=λa ha=>by
    obtain ⟨cur,hcur⟩:=ho5.elem ha;refine ⟨λe=> ?_,λe=> ?_⟩
    ·rw [e,hw3] at hcur;simp at hcur
    ·rw [e,hg3] at hcur;simp at hcur
   refine ⟨s5,rfl,by rw [am (hle5 _ _ hc5)];rfl,?_⟩;refine oR (b:=bw) (o:=2) (by simp) hw3 (by simp) ?_;rw [show (#[ns.v,Sl.v ⟨some ⟨g,0,none⟩,S0.length,S0.length⟩,s3.v].setIfInBounds 2 s5.v:Γ)= #[ns.v,Sl.v ⟨some ⟨g,0,none⟩,S0.length,S0.length⟩,s5.v] from rfl];have hle6:G0.le (F5.set bw (.cells #[ns.v,Sl.v ⟨some ⟨g,0,none⟩,S0.length,S0.length⟩,s5.v] 243)):=aw hle5 hnw3;have hw6:=al F5 bw (.cells #[ns.v,Sl.v ⟨some ⟨g,0,none⟩,S0.length,S0.length⟩,s5.v] 243);have hg6:(F5.set bw (.cells #[ns.v,Sl.v ⟨some ⟨g,0,none⟩,S0.length,S0.length⟩,s5.v] 243)) g=some (.cells (rnL S0 T).toArray 3):=by rw [av _ _ nwg.symm];exact hg3
   have ho6:cf (F5.set bw (.cells #[ns.v,Sl.v ⟨some ⟨g,0,none⟩,S0.length,S0.length⟩,s5.v] 243)) 124 3 s5 _:=ho5.keep λa ha=>av _ _ (hsb6 a ha).1;generalize F5.set bw (.cells #[ns.v,Sl.v ⟨some ⟨g,0,none⟩,S0.length,S0.length⟩,s5.v] 243)=F6 at*;have hlen6:s5.len=T.length+1:=by rw [hlen5,hlen]
   have hw7:IntKind.i64.wrap ((s5.len:Int)+1)=((T.length+2:Nat):Int):=by rw [hlen6,aS (by omega) (by omega)];omega
   refine ⟨_,by rw [aB,am hw6];rfl,s5,by rw [aB,am hw6];rfl,_,rfl,by omega,by simp only;omega,?_⟩;rw [hw7];refine oR (b:=g) (o:=num S0 (node v l h) - 2) (by simp) hg6 (by simp [rnL];omega) ?_;rw [List.setIfInBounds_toArray,FF h0 hSv htm rfl];refine ⟨s5,by rw [aB,am ((av _ _ nwg).trans hw6)];rfl,?_⟩;dsimp only;rw [hw7];refine ⟨by rw [d8 hSv (k:=T.length) (by simp)],λx ob hx=>aw hle6 hng3 _ _ (hle0 _ _ hx),hSv,λx hx=> ?_,hnw,hng,hrd,⟨s5,(av _ _ nwg).trans hw6,?_,λa ha=>aT hle0 (hsb5 a ha)⟩,al _ _ _⟩
   ·rcases UX.1 hx with hx|hx
    ·exact hsub3 x hx
    ·rw [UU.1 hx];exact htm
   ·have e3:aY (brs (T++[node v l h]))=aY (brs T)++dn ⟨(v:Int),(num T l:Int),(num T h:Int)⟩:=by rw [eN hS3 hil3 fh2,eP];simp [aY]
    rw [e3];exact ho6.keep λa ha=>av _ _ (hsb6 a ha).2
section
variable {F:PH} {ns:Sl} {S0:List Tr} {t:Tr}
theorem ko (hr:RdS F ns 3 (aY (brs S0))) (h0:Cl S0) (ht:inn S0 t) (hf:Fit (S0.length+4)):
  ai prog 161 #[ns.v,vi (num S0 t)] F λr F'=>∃v,r=.agg v/\DV F' v (dia t)/\F.le F':=by
 have hns:=hr.blen;rw [aO] at hns;refine Qk ?_;unfold Kw;intro b4 hb4;refine atI ?_;have l4:=ae (.cells zD 31) hb4;have q4:=al F b4 (.cells zD 31);generalize F.set b4 (.cells zD 31)=F4 at*;refine cP underlying67 sz3 zr3 rfl (by omega) (WO _) (by omega) (by omega) ?_;intro g hg;rw [zc1 _ rfl,N4,hns];refine ⟨_,rfl,?_⟩;have e0:List.replicate S0.length (vi 0)=rnL S0 []:=by
  apply VI;intro j;unfold rnL;rw [List.getElem?_replicate,U5];by_cases hj:j<S0.length
  ·rw [if_pos hj,N5 hj];simp [rnS]
  ·rw [if_neg hj,VX (by omega)];rfl
 rw [e0];have lg:=ae (.cells (rnL S0 []).toArray 3) hg;have qg:=al F4 g (.cells (rnL S0 []).toArray 3);have q4g:=lg _ _ q4;have n4g:b4≠g:=aJ hg q4;generalize hG:F4.set g (.cells (rnL S0 []).toArray 3)=Fg at*;intro b12 hb12;refine atI ?_;have n12g:g≠b12:=aJ hb12 qg;have f12:F4 b12=none:=aT lg hb12;have lx:=ae (.cells #[ns.v,Sl.v ⟨some ⟨g,0,none⟩,S0.length,S0.length⟩,Value.slice none 0 0] 243) hb12;have hs:WS F4 (Fg.set b12 (.cells #[ns.v,Sl.v ⟨some ⟨g,0,none⟩,S0.length,S0.length⟩,Value.slice none 0 0] 243)) b12 g ns S0 []:=
  ⟨lg.trans lx,.nil,λx hx=>(by cases hx),f12,hg,hr.le l4,⟨Sl.nil,al _ _ _,.inl ⟨rfl,rfl⟩,λa ha=>by cases ha⟩,lx _ _ qg⟩
 refine (xI h0 hf t ht F4 _ [] hs).mono ?_;rintro _ G ⟨rfl,hs'⟩;have ev:vis t []=aL t:=rfl;rw [ev] at*;obtain ⟨gle,gcl,_,_,_,_,⟨s,gw,go,gs⟩,_⟩:=hs';refine ⟨_,rfl,s,by rw [am gw];rfl,?_⟩;have h4:=gle _ _ q4;have hsb:∀a,s.base=some a->a.block≠b4:=λa ha e=>by obtain ⟨cur,hcur⟩:=go.elem ha;rw [e,h4] at hcur;simp at hcur
 have hd:DV (dz G b4) #[s.v,vi (num (aL t) t)] (dia t):=⟨s,rfl,(go.keep λa ha=>dX (hsb a ha)).rd⟩;exact f8 (K:=λvres F'=>∃v,Value.agg vres=.agg v/\DV F' v (dia t)/\F.le F') hd h4 rfl ⟨_,rfl,hd.le (aw (BO _ _) (zr _ _)),aw (l4.trans gle) hb4⟩
end
theorem cf.keepK {F G:PH} {e size:Nat} {s:Sl} {vs:Ξ} {fp:Nat->Prop} (h:cf F e size s vs) (hk:cO fp F G) (hn:∀a,s.base=some a->¬fp a.block):cf G e size s vs:=by
 rcases h with h|⟨b,cur,h1,h2,h3⟩
 ·exact .inl h
 ·exact .inr ⟨b,cur,h1,hk _ _ h2 (hn _ h1),h3⟩
section
variable {F0 F:PH} {l:Sl} {S:List Tr}
theorem xJ (hle:F0.le F) (ho:cf F 124 3 l (aY (brs S))) (hb:∀a,l.base=some a->F0 a.block=none) (hS:Cl S) {v:Nat} {A B:Tr} (hA:inn S A) (hB:inn S B) (hf:Fit (S.length+4)):
  ai prog 194 #[l.v,.agg (aV ⟨(v:Int),(num S A:Int),(num S B:Int)⟩)] F λr F'=>∃l',r=.tuple #[l'.v,vi (num (dv S (mk v A B)) (mk v A B))]/\F0.le F'/\cf F' 124 3 l' (aY (brs (dv S (mk v A B))))/\
   (∀a,l'.base=some a->F0 a.block=none)/\cO (λb=>∃a,l.base=some a/\a.block=b) F F':=by
 have hlen:=ho.rd.blen;rw [aO] at hlen;refine Qp ?_;unfold KB;intro b3 hb3;refine atI ?_;have l3:=ae (.cells (aV ⟨(v:Int),(num S A:Int),(num S B:Int)⟩) 124) hb3;have q3:=al F b3 (.cells (aV ⟨(v:Int),(num S A:Int),(num S B:Int)⟩) 124);have n3:∀a,l.base=some a->a.block≠b3:=λa ha=>by obtain ⟨cur,hcur⟩:=ho.elem ha;exact aJ hb3 hcur
 replace ho:=ho.upto l3;replace hle:=hle.trans l3;generalize F.set b3 (.cells (aV ⟨(v:Int),(num S A:Int),(num S B:Int)⟩) 124)=F1 at*;refine ⟨_,by rw [am q3];rfl,_,by rw [am q3];rfl,λhe=> ?_,λhe=> ?_⟩
 ·obtain rfl:=cJ hA hB (by have:(num S A:Int)=num S B:=he;omega);have e:mk v A A=A:=by simp [mk]
  have e2:dv S A=S:=by unfold dv;rw [if_pos hA]
  rw [e,e2];exact ⟨_,by rw [am q3];rfl,l,rfl,hle,ho,hb,cO.of_le l3⟩
 have hAB:A≠B:=λe=>he (by rw [e]);have emk:mk v A B=node v A B:=by simp [mk,hAB]
 rw [emk];have hbr:br S (node v A B)=⟨(v:Int),(num S A:Int),(num S B:Int)⟩:=rfl;refine ⟨λm i F'=>∃k:Nat,i=k/\k<=S.length/\m=S.length - k/\F'=F1/\br S (node v A B) ∉ (brs S).take k,S.length,⟨0,rfl,by omega,rfl,rfl,by simp⟩,?_⟩;rintro m i F' ⟨k,rfl,hk,rfl,rfl,hnot⟩;unfold BI;refine ⟨λhlt=> ?_,λhge=> ?_⟩
 ·have hkS:k<S.length:=by omega
  have hkB:k<(brs S).length:=by rw [aO];exact hkS
  obtain ⟨p,hp,hpr,_⟩:=rdb ho.rd (N5 hkB);refine ⟨p,hp,by omega,hlt,aV (brs S)[k],rfl,by simpa using hpr,aV (br S (node v A B)),rfl,ac q3,decide ((brs S)[k]=br S (node v A B)),λF=>Ff (brs S)[k] (br S (node v A B)) F,λheq=> ?_,λhne=> ?_⟩
  ·have heq':(brs S)[k]=br S (node v A B):=of_decide_eq_true heq;have hm:node v A B∈S:=(iC hS hA hB).1 (by rw [<- heq'];exact Wd _);have hSk:S[k]=node v A B:=EF hS (Wd hkS) hm (by rw [<- heq'];simp [brs]);have e2:dv S (node v A B)=S:=by unfold dv;rw [if_pos (.inr hm)]
   have hn:=d8 hS (k:=k) (t:=node v A B) (by rw [N5 hkS,hSk]);have hw:IntKind.i64.wrap ((k:Int)+2)=((k+2:Nat):Int):=by rw [aS (by omega) (by omega)];omega
   rw [e2,hn,hw];exact ⟨l,rfl,hle,ho,hb,cO.of_le l3⟩
  ·refine ⟨S.length - (k+1),by omega,k+1,i6 (by omega),by omega,rfl,rfl,?_⟩;rw [Vh hkB];intro hc;rcases UX.1 hc with hc|hc
   ·exact hnot hc
   ·rw [UU] at hc;rw [hc] at hne;simp at hne
 ·have hk':k=S.length:=by omega
  have hm:node v A B ∉ S:=λhm=>hnot (by
   rw [hk',UZ (by rw [aO];omega)]
   exact (iC hS hA hB).2 hm)
  have e2:dv S (node v A B)=S++[node v A B]:=by
   unfold dv;rw [if_neg];rintro (hc|hc)
   ·cases hc
   ·exact hm hc
  rw [e2];unfold BH;refine ⟨aV (br S (node v A B)),rfl,ac q3,rfl,λb32 hb32=> ?_⟩;refine atI ?_;have l32:=ae (.cells (aV (br S (node v A B))) 124) hb32;have q32:=al F' b32 (.cells (aV (br S (node v A B))) 124);have ho2:=ho.upto l32;have hle2:=hle.trans l32;generalize F'.set b32 (.cells (aV (br S (node v A B))) 124)=F2 at*;refine lK underlying29 xy xz rfl (by decide) hle2 ho2 hb (x:=⟨some ⟨b32,0,none⟩,1,1⟩) (news:=dn (br S (node v A B))) (RdS.new q32 rfl rfl (UW _)) (λx hx=>gV [br S (node v A B)] x (by simpa [aY] using hx)) (by simp only [hlen];omega) (by simp only [hlen];omega) ?_;intro s' F3 hle3 ho3 hlen3 hs3 hk3 _;have hw:IntKind.i64.wrap ((s'.len:Int)+1)=((S.length+2:Nat):Int):=by rw [hlen3,hlen,aS (by simp only;omega) (by simp only;omega)];simp only;omega
  have e3:aY (brs (S++[node v A B]))=aY (brs S)++dn (br S (node v A B)):=by rw [eN hS hA hB,<- hbr,eP];simp [aY]
  refine ⟨s',rfl,s',?_,hle3,by rw [e3];exact ho3,hs3,λx ob hx hn=>hk3 _ _ (l32 _ _ (l3 _ _ hx)) hn⟩;rw [hw];have hl2:num (S++[node v A B]) (node v A B)=S.length+2:=by simp only [num,List.idxOf_append,if_neg hm];simp
  rw [hl2]
end
structure RP where
 bp:Nat
 sa:Sl
 sb:Sl
 opc:Int
 o:Op2
 da:Dia
 db:Dia
 A:List Tr
 B:List Tr
def RP.q (p:RP):AP:=⟨0,0,0,0,0,0,0,0,.nilFunc,λx y _=>p.o x y,mb p.da p.db iT,mb p.A p.B []⟩
def RP.in2 (p:RP) (t:Nat->Tr):Prop:=inn p.A (t 0)/\inn p.B (t 1)/\t 2=leaf false
theorem RP.in2_in {p:RP} {t:Nat->Tr} (h:p.in2 t):p.q.inK t:=⟨h.1,h.2.1,by rw [h.2.2];exact eM _ _⟩
def RP.obj (p:RP) (nodes bK:Sl):Γ:= #[p.sa.v,vi p.da.2,p.sb.v,vi p.db.2,vi p.opc,nodes.v,bK.v]
structure RF (p:RP):Prop where
 cA:Cl p.A
 cB:Cl p.B
 pA:brs p.A<+:p.da.1
 pB:brs p.B<+:p.db.1
 fA:Fit (p.da.1.length+2)
 fB:Fit (p.db.1.length+2)
 fP:Fit ((p.A.length+2)*(p.B.length+2)+2)
 op:(p.opc=0/\p.o=bj)\/(p.opc=1/\p.o=oOr)\/(p.opc=2/\p.o=kQ)
theorem RF.af {p:RP} (h:RF p):AF p.q:=by
 refine ⟨λi hi=> ?_,λi hi=> ?_,λi hi=> ?_⟩
 ·match i,hi with
  |0,_=>exact h.cA
  |1,_=>exact h.cB
  |2,_=>exact .nil
 ·match i,hi with
  |0,_=>exact h.pA
  |1,_=>exact h.pB
  |2,_=>exact WL _
 ·match i,hi with
  |0,_=>exact h.fA
  |1,_=>exact h.fB
  |2,_=>simp [RP.q,mb]
structure RE (F0:PH) (p:RP):Prop where
 a:RdS F0 p.sa 3 (aY p.da.1)
 b:RdS F0 p.sb 3 (aY p.db.1)
theorem RE.le {F0 G:PH} {p:RP} (h:RE F0 p) (hl:F0.le G):RE G p:=⟨h.a.le hl,h.b.le hl⟩
structure Ent (p:RP) (e:Br) (u:Nat->Tr):Prop where
 i:p.in2 u
 x:e.v=(num p.A (u 0):Int)
 y:e.l=(num p.B (u 1):Int)
structure MX (p:RP) (S:List Tr) (Ls:List Br):Prop where
 all:∀e∈Ls,∃u,Ent p e u/\inn S (p.q.res u)/\e.h=(num S (p.q.res u):Int)
 nd:(Ls.map λe=>(e.v,e.l)).Nodup
def FG (p:RP) (Ls Ls':List Br) (n:Nat):Prop:=∀e∈Ls',e∈Ls\/∃u,Ent p e u/\szs u<=n
theorem zo {p:RP} (_:RF p) {e:Br} {u w:Nat->Tr} (hu:Ent p e u) (hw:Ent p e w):p.q.res u=p.q.res w/\szs u=szs w:=by
 have h0:u 0=w 0:=cJ hu.i.1 hw.i.1 (by have:=hu.x;have:=hw.x;omega);have h1:u 1=w 1:=cJ hu.i.2.1 hw.i.2.1 (by have:=hu.y;have:=hw.y;omega);have h2:u 2=w 2:=by rw [hu.i.2.2,hw.i.2.2]
 unfold AP.res szs;rw [h0,h1,h2];exact ⟨rfl,rfl⟩
theorem MX.length {p:RP} {S:List Tr} {Ls:List Br} (h:MX p S Ls):Ls.length<=(p.A.length+2)*(p.B.length+2):=by
 have hl:((List.range (p.A.length+2)).flatMap λ(i:Nat)=>(List.range (p.B.length+2)).map λ(j:Nat)=>((i:Int),(j:Int))).length=(p.A.length+2)*(p.B.length+2):=by simp only [List.length_flatMap,U6,Vw,List.map_const',List.sum_replicate_nat]
 have:=cY (Ls.map λe=>(e.v,e.l)) ((List.range (p.A.length+2)).flatMap λ(i:Nat)=>(List.range (p.B.length+2)).map λ(j:Nat)=>((i:Int),(j:Int))) h.nd λx hx=>by obtain ⟨e,he,rfl⟩:=U8.1 hx;obtain ⟨u,hu,_⟩:=h.all e he;have h1:=dt hu.i.1;have h2:=dt hu.i.2.1;exact WJ.2 ⟨num p.A (u 0),VA.2 (by omega),U8.2 ⟨num p.B (u 1),VA.2 (by omega),by rw [hu.x,hu.y]⟩⟩
 rw [hl,U6] at this;exact this
structure RS (F0 F:PH) (p:RP) (S:List Tr) (Ls:List Br):Prop where
 le:F0.le F
 nb:F0 p.bp=none
 cl:Cl S
 ok:MX p S Ls
 ex:∃nodes bK:Sl,F p.bp=some (.cells (p.obj nodes bK) 203)/\cf F 124 3 nodes (aY (brs S))/\(∀a,nodes.base=some a->F0 a.block=none)/\cf F 215 3 bK (aY Ls)/\(∀a,bK.base=some a->F0 a.block=none)
theorem vr {F:PH} {p:RP} {nodes bK:Sl} (hf:RF p) (hb:F p.bp=some (.cells (p.obj nodes bK) 203)) (x y:Bool):
  ai prog 191 #[.pointer (some ⟨p.bp,0,none⟩),vi (if x then 1 else 0:Nat),vi (if y then 1 else 0:Nat)] F λr F'=>r=vi (if p.o x y then 1 else 0:Nat)/\F'=F:=by
 refine Qm ?_;unfold Ky;refine ⟨_,rfl,p.opc,by rw [aB,am hb];rfl,λh=> ?_,λh=>⟨λh1=> ?_,λh1=> ?_⟩⟩
 ·have ho:p.o=bj:=by rcases hf.op with h'|h'|h'<;>first|exact h'.2|(exfalso;omega)
  rw [ho];cases x<;>cases y<;>exact ⟨congrArg (Value.int .i64) (by decide),rfl⟩
 ·have ho:p.o=oOr:=by rcases hf.op with h'|h'|h'<;>first|exact h'.2|(exfalso;omega)
  rw [ho];cases x<;>cases y<;>exact ⟨congrArg (Value.int .i64) (by decide),rfl⟩
 ·have ho:p.o=kQ:=by rcases hf.op with h'|h'|h'<;>first|exact h'.2|(exfalso;omega)
  rw [ho];cases x<;>cases y<;>exact ⟨congrArg (Value.int .i64) (by decide),rfl⟩
def RAt (p:RP) (t:Nat->Tr):Prop:=∀(F0 F:PH) (S:List Tr) (Ls:List Br),RE F0 p->RS F0 F p S Ls->Fit ((vis (p.q.res t) S).length+4)->
 ai prog 160 #[.pointer (some ⟨p.bp,0,none⟩),vi (num p.A (t 0)),vi (num p.B (t 1))] F λr F'=>r=vi (num (vis (p.q.res t) S) (p.q.res t))/\∃Ls',RS F0 F' p (vis (p.q.res t) S) Ls'/\FG p Ls Ls' (szs t)
section
variable {p:RP} {t:Nat->Tr} {F0 F:PH} {S:List Tr} {Ls:List Br}
theorem MY (hf:RF p) (ht:p.in2 t) (ih:∀u,p.in2 u->szs u<szs t->RAt p u) (he:RE F0 p) (hs:RS F0 F p S Ls) (hfit:Fit ((vis (p.q.res t) S).length+4)) (hn:¬((t 0).isL=true/\(t 1).isL=true))
  (hnew:∀e∈Ls,¬(e.v=(num p.A (t 0):Int)/\e.l=(num p.B (t 1):Int))) {R:Value->Ψ}
  (hR:∀F' Ls',RS F0 F' p (vis (p.q.res t) S) Ls'->FG p Ls Ls' (szs t)->R (vi (num (vis (p.q.res t) S) (p.q.res t))) F'):
  vu (some ⟨p.bp,0,none⟩) (num p.A (t 0)) (num p.B (t 1)) R F:=by
 have hv:aZ (t 0) (t 1) (t 2)<64:=by
  have k0:=λhl=>qR (hf.cA.inn_ok ht.1) hl;have k1:=λhl=>qR (hf.cB.inn_ok ht.2.1) hl;unfold aZ;cases e0:(t 0).isL with
  |false=>have:=k0 e0;omega
  |true=>
   cases e1:(t 1).isL with
   |false=>have:=k1 e1;omega
   |true=>exact absurd ⟨e0,e1⟩ hn
 have D:=Qw hf.af (RP.in2_in ht) hv;have hmin:min ((t 0).top:Int) ((t 1).top:Int)=((aZ (t 0) (t 1) (t 2):Nat):Int):=by
  have h2:(t 2).top=64:=by rw [ht.2.2];rfl
  unfold aZ at hv ⊢;rw [h2] at hv ⊢;omega
 have hlo2:∀v,lo v (t 2)=leaf false:=λv=>by rw [ht.2.2];rfl
 have hhi2:∀v,hi v (t 2)=leaf false:=λv=>by rw [ht.2.2];rfl
 obtain ⟨hle,hnb,hcl,hok,nodes,bK,hb,hon,hnn,hos,hsn⟩:=hs;have hs0:RS F0 F p S Ls:=⟨hle,hnb,hcl,hok,nodes,bK,hb,hon,hnn,hos,hsn⟩;unfold vu;have dA:∀{G:PH},F0.le G->DV G #[p.sa.v,vi p.da.2] p.da:=λhl=>⟨p.sa,rfl,(he.le hl).a⟩;have dB:∀{G:PH},F0.le G->DV G #[p.sb.v,vi p.db.2] p.db:=λhl=>⟨p.sb,rfl,(he.le hl).b⟩;have rowA:∀{G:PH} {n s:Sl},G p.bp=some (.cells (p.obj n s) 203)->G.row ⟨p.bp,0,none⟩ #[p.sa.v,vi p.da.2]:=λ{G n s} hG i hi=>by
  simp only [aB];rw [am hG]
  match i,hi with
  |0,_=>rfl
  |1,_=>rfl
 have rowB:∀{G:PH} {n s:Sl},G p.bp=some (.cells (p.obj n s) 203)->G.row (Addr.add ⟨p.bp,0,none⟩ 2) #[p.sb.v,vi p.db.2]:=λ{G n s} hG i hi=>by
  simp only [aB];rw [am hG]
  match i,hi with
  |0,_=>rfl
  |1,_=>rfl
 refine ⟨_,rfl,_,rfl,rowA hb,_,rfl,rowB hb,?_⟩;refine (fu (dA hle) hf.pA ht.1 hf.fA).mono ?_;rintro _ F1 ⟨rfl,l1⟩;have hb1:=l1 _ _ hb;refine ⟨_,rfl,rowB hb1,?_⟩;refine (fu (dB (hle.trans l1)) hf.pB ht.2.1 hf.fB).mono ?_;rintro _ F2 ⟨rfl,lx⟩;have l2:=l1.trans lx;have hb2:=l2 _ _ hb;refine ⟨_,rfl,_,rfl,rowA hb2,?_⟩;rw [hmin];generalize aZ (t 0) (t 1) (t 2)=v at*;refine (oE (dA (hle.trans l2)) hf.pA ht.1 hf.fA D.lt).mono ?_;rintro _ F3 ⟨rfl,lx3⟩;have l3:=l2.trans lx3;have hb3:=l3 _ _ hb;refine ⟨_,_,rfl,_,rfl,rowB hb3,?_⟩;refine (oE (dB (hle.trans l3)) hf.pB ht.2.1 hf.fB D.lt).mono ?_;rintro _ F4 ⟨rfl,lx4⟩;have l4:=l3.trans lx4;refine ⟨_,_,rfl,?_⟩;have hs4:RS F0 F4 p S Ls:=⟨hle.trans l4,hnb,hcl,hok,nodes,bK,l4 _ _ hb,hon.upto l4,hnn,hos.upto l4,hsn⟩;have kl:p.in2 (λi=>lo v (t i)):=⟨D.il.1,D.il.2.1,hlo2 v⟩;have kh:p.in2 (λi=>hi v (t i)):=⟨D.ih.1,D.ih.2.1,hhi2 v⟩;obtain ⟨a1,a2,X,a3,a4⟩:=bo (p.q.res λi=>lo v (t i)) S D.ol hcl;obtain ⟨c1,c2,Y,c3,c4⟩:=bo (p.q.res λi=>hi v (t i)) (vis (p.q.res λi=>lo v (t i)) S) D.oh a1;have hadd:=lT hcl (v:=v) (l:=p.q.res λi=>lo v (t i)) (h:=p.q.res λi=>hi v (t i)) ⟨D.lt,D.tl,D.th,D.ol,D.oh⟩;rw [<- D.res] at hadd;have g1:=xP (p.q.res λi=>hi v (t i)) (vis (p.q.res λi=>lo v (t i)) S);have g2:=BQ (vis (p.q.res λi=>hi v (t i)) (vis (p.q.res λi=>lo v (t i)) S)) (p.q.res t);rw [hadd] at g2;refine (ih _ kl D.sl F0 F4 S Ls he hs4 (by omega)).mono ?_;rintro _ F5 ⟨rfl,L1,hs5,gr1⟩;refine ⟨_,rfl,?_⟩;refine (ih _ kh D.sh F0 F5 _ L1 he hs5 (by omega)).mono ?_;rintro _ F6 ⟨rfl,L2,hs6,gr2⟩;obtain ⟨hle6,_,hcl6,hok6,nodes6,seen6,hb6,hon6,hnn6,hos6,hsn6⟩:=hs6;refine ⟨_,rfl,nodes6,by rw [aB,am hb6];rfl,?_⟩;have hnl:num (vis (p.q.res λi=>lo v (t i)) S) (p.q.res λi=>lo v (t i))=num (vis (p.q.res λi=>hi v (t i)) (vis (p.q.res λi=>lo v (t i)) S)) (p.q.res λi=>lo v (t i)):=by rw [c3,bN a2]
 rw [hnl];have hil:inn (vis (p.q.res λi=>hi v (t i)) (vis (p.q.res λi=>lo v (t i)) S)) (p.q.res λi=>lo v (t i)):=by rw [c3];exact bG a2
 refine (xJ hle6 hon6 hnn6 hcl6 (v:=v) hil c2 (by omega)).mono ?_;rintro _ F7 ⟨n7,rfl,hle7,hon7,hnn7,hk7⟩;rw [<- D.res,hadd] at hon7 ⊢;have nbn:∀a,nodes6.base=some a->a.block≠p.bp:=λa ha e=>by obtain ⟨cur,hcur⟩:=hon6.elem ha;rw [e,hb6] at hcur;simp at hcur
 have nns:∀a,seen6.base=some a->¬∃a',nodes6.base=some a'/\a'.block=a.block:=λa ha ⟨a',ha',e⟩=>by obtain ⟨cur,hcur⟩:=hon6.elem ha';obtain ⟨cur',hcur'⟩:=hos6.elem ha;rw [e,hcur'] at hcur;simp at hcur
 have hb7:=hk7 _ _ hb6 (λ⟨a,ha,e⟩=>nbn a ha e);have hos7:=hos6.keepK hk7 nns;refine ⟨_,_,rfl,?_⟩;refine oR (b:=p.bp) (o:=5) (by simp) hb7 (by simp [RP.obj]) ?_;rw [show ((p.obj nodes6 seen6).setIfInBounds 5 n7.v:Γ)=p.obj n7 seen6 from rfl];have nb7:∀a,n7.base=some a->a.block≠p.bp:=λa ha e=>by obtain ⟨cur,hcur⟩:=hon7.elem ha;rw [e,hb7] at hcur;simp at hcur
 have nbs:∀a,seen6.base=some a->a.block≠p.bp:=λa ha e=>by obtain ⟨cur,hcur⟩:=hos7.elem ha;rw [e,hb7] at hcur;simp at hcur
 have hle8:F0.le (F7.set p.bp (.cells (p.obj n7 seen6) 203)):=aw hle7 hnb;have hb8:=al F7 p.bp (.cells (p.obj n7 seen6) 203);have hon8:cf (F7.set p.bp (.cells (p.obj n7 seen6) 203)) 124 3 n7 (aY (brs (vis (p.q.res t) S))):=hon7.keep λa ha=>av _ _ (nb7 a ha);have hos8:cf (F7.set p.bp (.cells (p.obj n7 seen6) 203)) 215 3 seen6 (aY L2):=hos7.keep λa ha=>av _ _ (nbs a ha);generalize F7.set p.bp (.cells (p.obj n7 seen6) 203)=F8 at*;refine ⟨seen6,by rw [aB,am hb8];rfl,rfl,λb132 hb132=> ?_⟩;refine atI ?_;generalize hN:num (vis (p.q.res t) S) (p.q.res t)=N at*;have lx9:=ae (.cells (aV ⟨(num p.A (t 0):Int),(num p.B (t 1):Int),(N:Int)⟩) 215) hb132;have q132:=al F8 b132 (.cells (aV ⟨(num p.A (t 0):Int),(num p.B (t 1):Int),(N:Int)⟩) 215);show aG prog _ (F8.set b132 (.cells (aV ⟨(num p.A (t 0):Int),(num p.B (t 1):Int),(N:Int)⟩) 215)) _;have hle9:=hle8.trans lx9;have hb9:=lx9 _ _ hb8;have hon9:=hon8.upto lx9;have hos9:=hos8.upto lx9;generalize F8.set b132 (.cells (aV ⟨(num p.A (t 0):Int),(num p.B (t 1):Int),(N:Int)⟩) 215)=F9 at*;have hL2:=hok6.length;have hfP:=hf.fP;have hslen:=hos9.rd.blen;have J3:tsz prog 215=some (3,24):=by kernel_rfl
 have J4:bP prog 215=some (.agg #[.int .i64 0,.int .i64 0,.int .i64 0]):=by kernel_rfl
 refine lK underlying201 J3 J4 rfl (by decide) hle9 hos9 hsn6 (x:=⟨some ⟨b132,0,none⟩,1,1⟩) (news:=dn ⟨(num p.A (t 0):Int),(num p.B (t 1):Int),(N:Int)⟩) (RdS.new q132 rfl rfl (UW _))
  (λx hx=>gV [⟨(num p.A (t 0):Int),(num p.B (t 1):Int),(N:Int)⟩] x (by simpa [aY] using hx)) (by simp only [hslen];omega) (by simp only [hslen];omega) ?_
 intro s10 F10 hle10 hos10 hlen10 hsn10 hk10 _;have nbs9:∀a,seen6.base=some a->a.block≠p.bp:=nbs;have hb10:=hk10 _ _ hb9 (λ⟨a,ha,e⟩=>nbs9 a ha e);have hon10:=hon9.keepK hk10 λa ha ⟨a',ha',e⟩=>by obtain ⟨cur,hcur⟩:=hon9.elem ha;obtain ⟨cur',hcur'⟩:=hos9.elem ha';rw [e,hcur] at hcur';simp at hcur'
 refine ⟨s10,rfl,?_⟩;refine oR (b:=p.bp) (o:=6) (by simp) hb10 (by simp [RP.obj]) ?_;rw [show ((p.obj n7 seen6).setIfInBounds 6 s10.v:Γ)=p.obj n7 s10 from rfl];have nb10:∀a,n7.base=some a->a.block≠p.bp:=nb7;have nbs10:∀a,s10.base=some a->a.block≠p.bp:=λa ha e=>by obtain ⟨cur,hcur⟩:=hos10.elem ha;rw [e,hb10] at hcur;simp at hcur
 have hokT:(p.q.res t).ok:=by rw [D.res];exact tY D.lt D.tl D.th D.ol D.oh
 obtain ⟨v1,v2,Z,v3,v4⟩:=bo (p.q.res t) S hokT hcl;have het:Ent p ⟨(num p.A (t 0):Int),(num p.B (t 1):Int),(N:Int)⟩ t:=⟨ht,rfl,rfl⟩;have hL2new:∀e∈L2,(e.v,e.l)≠((num p.A (t 0):Int),(num p.B (t 1):Int)):=by
  intro e he2 hk;simp only [WN] at hk;rcases gr2 e he2 with h|⟨u,hu,hsz⟩
  ·rcases gr1 e h with h|⟨u,hu,hsz⟩
   ·exact hnew e h hk
   ·have:=(zo hf hu (w:=t) ⟨ht,hk.1,hk.2⟩).2;have:=D.sl;omega
  ·have:=(zo hf hu (w:=t) ⟨ht,hk.1,hk.2⟩).2;have:=D.sh;omega
 have hfin:=hR (F10.set p.bp (.cells (p.obj n7 s10) 203)) (L2++[⟨(num p.A (t 0):Int),(num p.B (t 1):Int),(N:Int)⟩])
  ⟨aw hle10 hnb,hnb,v1,⟨λe he2=> ?_,?_⟩,n7,s10,al _ _ _,hon10.keep λa ha=>av _ _ (nb10 a ha),hnn7,by rw [eP];simpa [aY] using hos10.keep λa ha=>av _ _ (nbs10 a ha),hsn10⟩ ?_
 ·exact hfin
 ·rcases UX.1 he2 with he2|he2
  ·obtain ⟨u,hu,hi2,hh2⟩:=hok6.all e he2;refine ⟨u,hu,?_,?_⟩
   ·rw [<- hadd];unfold dv;split
    ·exact hi2
    ·exact bG hi2
   ·rw [hh2,<- hadd];unfold dv;split
    ·rfl
    ·rw [bN hi2]
  ·rw [UU.1 he2];exact ⟨t,het,v2,by rw [hN]⟩
 ·rw [Vm,Vp];refine ⟨hok6.nd,by simp,?_⟩;intro x hx y hy;obtain ⟨e,he2,rfl⟩:=U8.1 hx;simp only [Vi,List.map_nil,UU] at hy;rw [hy];exact hL2new e he2
 ·intro e he2;rcases UX.1 he2 with he2|he2
  ·rcases gr2 e he2 with h|⟨u,hu,hsz⟩
   ·rcases gr1 e h with h|⟨u,hu,hsz⟩
    ·exact .inl h
    ·exact .inr ⟨u,hu,by have:=D.sl;omega⟩
   ·exact .inr ⟨u,hu,by have:=D.sh;omega⟩
  ·rw [UU.1 he2];exact .inr ⟨t,het,UW _⟩
theorem FH (hf:RF p):∀(n:Nat) (t:Nat->Tr),szs t<=n->p.in2 t->RAt p t:=by
 intro n;induction n with
 |zero=>intro t hn;have:=kI (t 0);unfold szs at hn;omega
 |succ n ih=>
  intro t hn ht F0 F S Ls he hs hfit;obtain ⟨hle,hnb,hcl,hok,nodes,bK,hb,hon,hnn,hos,hsn⟩:=id hs;refine Qj ?_;unfold Kv;have rest:¬((t 0).isL=true/\(t 1).isL=true)->ma (some ⟨p.bp,0,none⟩) (num p.A (t 0)) (num p.B (t 1)) false (λr F'=>r=vi (num (vis (p.q.res t) S) (p.q.res t))/\∃Ls',RS F0 F' p (vis (p.q.res t) S) Ls'/\FG p Ls Ls' (szs t)) F:=by
   intro hnl;unfold ma;refine ⟨λh=>(by cases h),λ_=> ?_⟩;have hslen:=hos.rd.blen;have hL:=hok.length;have hfP:=hf.fP;have csn:F.cell (Addr.add ⟨p.bp,0,none⟩ 6)=some bK.v:=by rw [aB,am hb];rfl
   refine ⟨λm i F'=>∃k:Nat,i=k/\k<=Ls.length/\m=Ls.length - k/\F'=F/\∀e∈Ls.take k,¬(e.v=(num p.A (t 0):Int)/\e.l=(num p.B (t 1):Int)),Ls.length,⟨0,rfl,by omega,rfl,rfl,by simp⟩,?_⟩;rintro m i F' ⟨k,rfl,hk,rfl,rfl,hnot⟩;unfold BG;refine ⟨_,rfl,bK,csn,λhlt=> ?_,λhge=> ?_⟩
   ·have hkL:k<Ls.length:=by omega
    obtain ⟨a,ha,_,hx,hy,hh⟩:=rdb hos.rd (N5 hkL);have hw1:IntKind.i64.wrap ((k:Int)+1)=((k+1:Nat):Int):=i6 (by omega);have next:¬(Ls[k].v=(num p.A (t 0):Int)/\Ls[k].l=(num p.B (t 1):Int))->∃m',m'<Ls.length - k/\∃k':Nat,((k+1:Nat):Int)=k'/\k'<=Ls.length/\m'=Ls.length - k'/\F'=F'/\∀e∈Ls.take k',¬(e.v=(num p.A (t 0):Int)/\e.l=(num p.B (t 1):Int)):=λhne=>
     ⟨Ls.length - (k+1),by omega,k+1,rfl,by omega,rfl,rfl,λe he2=>by
      rw [Vh hkL] at he2;rcases UX.1 he2 with he2|he2
      ·exact hnot e he2
      ·rw [UU.1 he2];exact hne⟩
    have ax:F'.cell (Addr.add (Addr.add a (Int.toNat (k:Int)*3)) (Int.toNat 0*1))=some (vi Ls[k].v):=by obtain ⟨ab,ao,asp⟩:=a;obtain ⟨b',o',hb',_⟩:=hos.rd.cells (by omega);rw [ha] at hb';cases hb';simpa using hx
    refine ⟨bK,csn,a,ha,by omega,by omega,by omega,by omega,_,ax,λhx1=> ?_,λhx1=> ?_⟩
    ·have ay:F'.cell (Addr.add (Addr.add a (Int.toNat (k:Int)*3)) (Int.toNat 1*1))=some (vi Ls[k].l):=by simpa using hy
     refine ⟨bK,csn,a,ha,by omega,by omega,by omega,by omega,_,ay,?_⟩;unfold pE;refine ⟨λhy1=> ?_,λhy1=> ?_⟩
     ·have hy1:=of_decide_eq_true hy1;have ah:F'.cell (Addr.add (Addr.add a (Int.toNat (k:Int)*3)) (Int.toNat 2*1))=some (vi Ls[k].h):=by simpa using hh
      obtain ⟨u,hu,hi2,hh2⟩:=hok.all _ (Wd hkL);have e:=(zo hf hu (w:=t) ⟨ht,hx1,hy1⟩).1;rw [e] at hi2 hh2;have hvi:=gn hi2;refine ⟨bK,csn,a,ha,by omega,by omega,by omega,by omega,_,ah,?_⟩;rw [hvi,hh2];exact ⟨rfl,Ls,hs,λe he2=> .inl he2⟩
     ·rw [hw1];exact next λhc=>of_decide_eq_false hy1 hc.2
    ·unfold pE;refine ⟨λh=>(by cases h),λ_=> ?_⟩;rw [hw1];exact next λhc=>hx1 hc.1
   ·refine MY hf ht (λu hu hlt=>ih u (by omega) hu) he hs hfit hnl (λe he2=> ?_) λF' Ls' h1 h2=>⟨rfl,Ls',h1,h2⟩;have hkL:k=Ls.length:=by omega
    rw [hkL,U7] at hnot;exact hnot e he2
  refine ⟨λhx=> ?_,λhx=>rest λhc=>hx (dT.2 hc.1)⟩;by_cases hy:(t 1).isL=true
  ·have e:decide ((num p.B (t 1):Int)<2)=true:=decide_eq_true (dT.2 hy);rw [e];have hx':=dT.1 hx;unfold ma;refine ⟨λ_=> ?_,λh=>by cases h⟩;have hres:∀x0 x1:Bool,t 0=leaf x0->t 1=leaf x1->p.q.res t=leaf (p.o x0 x1):=λx0 x1 e0 e1=>by unfold AP.res;rw [e0,e1,ht.2.2];exact lP _ _ _ _
   generalize ht0:t 0=y0 at*;generalize ht1:t 1=y1 at*;cases y0 with
   |node _ _ _=>cases hx'
   |leaf x0=>
    cases y1 with
    |node _ _ _=>cases hy
    |leaf x1=>have hr:=hres x0 x1 rfl rfl;rw [hr];refine (vr hf hb x0 x1).mono ?_;rintro _ F' ⟨rfl,rfl⟩;exact ⟨_,rfl,rfl,Ls,hs,λe he2=> .inl he2⟩
  ·have e:decide ((num p.B (t 1):Int)<2)=false:=decide_eq_false (λh=>hy (dT.1 h));rw [e];exact rest λhc=>hy hc.2
end
end Go.Proofs.YtcemhghkipgdiaaGreatDoor
