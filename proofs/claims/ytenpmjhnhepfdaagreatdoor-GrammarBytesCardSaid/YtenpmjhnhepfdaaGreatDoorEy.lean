/-
  The reference's diagrams: the list of different branches, an operation on two diagrams.
-/
import Derived.Test.YtenpmjhnhepfdaaGreatDoorEs
namespace Go.Proofs.YtenpmjhnhepfdaaGreatDoor
open Go Go.Proofs.Tryz Tr
set_option maxRecDepth 10000
section
variable {F:PH} {v:Array Value} {d:Dia} {S:List Tr} {t:Tr}
theorem ed (hd:DV F v d) (hp:brs S<+:d.1) (ht:inn S t) (hf:Fit (d.1.length+2)):
  ac prog 231 #[.agg v,vi (num S t)] F fun r F'=>r=vi t.top∧F.le F':=by
 obtain ⟨hfit,hlt⟩:=sZ hp ht hf
 obtain ⟨s,rfl,hr⟩:=hd
 refine KP ?_
 unfold FO
 intro b2 hb2
 refine atI ?_
 have hle:=ae (.cells #[s.v,vi d.2] 33) hb2
 refine ⟨fun h=> ?_,fun h=> ?_⟩
 ·have hl:=su (S:=S) (t:=t) (by omega)
  cases t with
  |leaf b=>exact ⟨rfl,hle⟩
  |node _ _ _=>cases hl
 ·cases t with
  |leaf b=>have:=cM S b;omega
  |node w l r=>
   have hx:=ik hp (fb (co ht rfl) rfl)
   obtain ⟨a,h1,_,h2,_⟩:=rdb (hr.le hle) hx
   have hw:=uW hfit (dM (S:=S) (t:=node w l r) rfl)
   have hg:=dM (S:=S) (t:=node w l r) rfl
   refine ⟨s,by simp,a,h1,by rw [hw];omega,by rw [hw,hr.blen];omega,_,by rw [hw];exact h2,rfl,hle⟩
theorem mi (hd:DV F v d) (hp:brs S<+:d.1) (ht:inn S t) (hf:Fit (d.1.length+2)) {w:Nat} (hw:w<64):
  ac prog 232 #[.agg v,vi (num S t),vi w] F fun r F'=>r=.tuple #[vi (num S (lo w t)),vi (num S (hi w t))]∧F.le F':=by
 obtain ⟨hfit,hlt⟩:=sZ hp ht hf
 have hd':=hd
 obtain ⟨s,rfl,hr⟩:=hd
 refine KQ ?_
 unfold FP
 intro b3 hb3
 refine atI ?_
 have hle:=ae (.cells #[s.v,vi d.2] 33) hb3
 refine ⟨_,rfl,ak (an _ _ _),?_⟩
 refine (ed (hd'.le hle) hp ht hf).mono ?_
 rintro _ F2 ⟨rfl,hle2⟩
 have hc:F2 b3=some _:=hle2 _ _ (an _ _ _)
 have hle':F.le F2:=fun b o h=>hle2 b o (hle b o h)
 refine ⟨_,rfl,fun h=> ?_,fun h=> ?_⟩
 ·refine ⟨?_,hle'⟩
  cases t with
  |leaf b=>rfl
  |node w' l r=>
   have:¬w'=w:=fun e=>h (by simp [Tr.top,e])
   simp [lo,hi,this]
 ·cases t with
  |leaf b=>simp only [Tr.top] at h;omega
  |node w' l r=>
   have e:w'=w:=by simp only [Tr.top] at h;omega
   subst e
   have hx:=ik hp (fb (co ht rfl) rfl)
   obtain ⟨a,h1,_,_,h3,h4⟩:=rdb (hr.le hle') hx
   have hw:=uW hfit (dM (S:=S) (t:=node w' l r) rfl)
   have hg:=dM (S:=S) (t:=node w' l r) rfl
   refine ⟨s,by rw [am hc];rfl,a,h1,by rw [hw];omega,by rw [hw,hr.blen];omega,_,by rw [hw];exact h3,
    s,by rw [am hc];rfl,a,h1,by rw [hw];omega,by rw [hw,hr.blen];omega,_,by rw [hw];exact h4,?_,hle'⟩
   simp [lo,hi,br]
end
section
variable {F:PH}
theorem dJ (x:Bool):ac prog 89 #[.bool x] F fun r F'=>∃w,r=.agg w∧DV F' w (dia (leaf x))∧F.le F':=by
 refine Ph ?_
 unfold KC
 intro b2 hb2
 refine atI ?_
 have l2:=ae (.cells #[Value.slice none 0 0,Value.int .i64 0] 33) hb2
 have q2:=an F b2 (.cells #[Value.slice none 0 0,Value.int .i64 0] 33)
 refine ⟨fun h=> ?_,fun h=> ?_⟩
 ·subst h
  have hd:∀G:PH,DV G #[Value.slice none 0 0,Value.int .i64 1] (dia (leaf true)):=fun G=>⟨Sl.nil,rfl,RdS.nil G 3⟩
  exact fW (K:=fun vres F'=>∃w,Value.agg vres=.agg w∧DV F' w (dia (leaf true))∧F.le F') (hd F) q2 rfl ⟨_,rfl,hd _,aw l2 hb2⟩
 ·subst h
  have hd:∀G:PH,DV G #[Value.slice none 0 0,Value.int .i64 0] (dia (leaf false)):=fun G=>⟨Sl.nil,rfl,RdS.nil G 3⟩
  exact fW (K:=fun vres F'=>∃w,Value.agg vres=.agg w∧DV F' w (dia (leaf false))∧F.le F') (hd F) q2 rfl ⟨_,rfl,hd _,aw l2 hb2⟩
theorem qR (x:Int):ac prog 165 #[vi x] F fun r F'=>DRV F' r (qt x)∧F.le F':=by
 refine KE ?_
 unfold FF
 intro b2 hb2
 refine atI ?_
 have l2:=ae (.cells #[Value.slice none 0 0,Value.int .i64 0] 33) hb2
 have q2:=an F b2 (.cells #[Value.slice none 0 0,Value.int .i64 0] 33)
 generalize F.set b2 (.cells #[Value.slice none 0 0,Value.int .i64 0] 33)=F2 at*
 have bad:x<0∨63<x→jU x b2 true (fun r F'=>DRV F' r (qt x)∧F.le F') F2:=fun h=>by
  unfold jU
  refine ⟨fun _=> ?_,fun hc=>by cases hc⟩
  have e:qt x=(ie,1):=by unfold qt;rw [if_pos h]
  rw [e]
  exact wB q2 rfl l2 hb2
 refine ⟨fun h=>bad (.inl h),fun h=> ?_⟩
 by_cases h2:63<x
 ·rw [decide_eq_true h2]
  exact bad (.inr h2)
 ·rw [decide_eq_false h2]
  unfold jU
  refine ⟨fun hc=>(by cases hc),fun _=>⟨rfl,fun b13 hb13=> ?_⟩⟩
  refine atI ?_
  have e:qt x=(dia (tv x.toNat),0):=by unfold qt;rw [if_neg (by omega)]
  have hx:((x.toNat:Nat):Int)=x:=by omega
  have lx:=ae (.cells #[vi x,vi 0,vi 1] 103) hb13
  have q13:=an F2 b13 (.cells #[vi x,vi 0,vi 1] 103)
  have n:b13≠b2:=(aG hb13 q2).symm
  replace q2:=lx _ _ q2
  have l3:=l2.trans lx
  rw [e]
  have hd:∀G:PH,G b13=some (.cells #[vi x,vi 0,vi 1] 103)→DV G #[(Sl.mk (some ⟨b13,0,none⟩) 1 1).v,vi 2] (dia (tv x.toNat)):=fun G hG=>by
   rw [Jl,hx]
   exact ⟨_,rfl,RdS.new hG rfl rfl (Nat.le_refl _)⟩
  exact fW (K:=fun vres F'=>DRV F' (.tuple #[.agg vres,vi 0]) (dia (tv x.toNat),0)∧F.le F') (hd _ q13) q2 rfl ⟨⟨_,rfl,hd _ (by rw [az _ _ n];exact q13)⟩,aw l3 hb2⟩
end
def rnS (S:List Tr) (t:Tr):Nat:=if t∈S then num S t else 0
def rnL (S0 S:List Tr):List Value:=S0.map fun t=>vi (rnS S t:Int)
structure WS (F0 F:PH) (bw g:Nat) (ns:Sl) (S0 S:List Tr):Prop where
 le:F0.le F
 cl:Cl S
 sub:∀x∈S,x∈S0
 nw:F0 bw=none
 ng:F0 g=none
 rd:RdS F0 ns 3 (aT (brs S0))
 ex:∃s:Sl,F bw=some (.cells #[ns.v,Sl.v ⟨some ⟨g,0,none⟩,S0.length,S0.length⟩,s.v] 313)∧bM F 103 3 s (aT (brs S))∧∀a,s.base=some a→F0 a.block=none
 hg:F g=some (.cells (rnL S0 S).toArray 3)
theorem Bz {S0 S:List Tr} (h0:Cl S0) {t:Tr} (hS':Cl (S++[t])) (ht:t∈S0) (hl:t.isL=false):(rnL S0 S).set (num S0 t - 2) (vi ((S.length+2:Nat):Int))=rnL S0 (S++[t]):=by
 apply List.ext_getElem?
 intro j
 unfold rnL
 rw [List.getElem?_set,List.getElem?_map,List.getElem?_map]
 have hg:=dM (S:=S0) hl
 have hgt:=fb ht hl
 by_cases hj:num S0 t - 2=j
 ·subst hj
  have hlt:=(List.getElem?_eq_some_iff.1 hgt).1
  rw [if_pos rfl,List.length_map,if_pos hlt,hgt]
  simp only [Option.map_some,rnS]
  rw [if_pos (by simp),dn hS' (k:=S.length) (by simp)]
 ·rw [if_neg hj]
  cases hx:S0[j]? with
  |none=>rfl
  |some u=>
   simp only [Option.map_some,rnS]
   have hne:u≠t:=fun e=>by
    subst e
    have:=dn h0 hx
    omega
   have hm:u∈S++[t]↔u∈S:=by simp [hne]
   by_cases hu:u∈S
   ·rw [if_pos hu,if_pos (hm.2 hu),bF (.inr hu)]
   ·rw [if_neg hu,if_neg (fun h=>hu (hm.1 h))]
theorem un {bw g:Nat} {ns:Sl} {S0:List Tr} (h0:Cl S0) (hf:Fit (S0.length+4)):∀(t:Tr),inn S0 t→∀(F0 F:PH) (S:List Tr),WS F0 F bw g ns S0 S→
  ac prog 234 #[.pointer (some ⟨bw,0,none⟩),vi (num S0 t)] F fun r F'=>r=vi (num (vis t S) t)∧WS F0 F' bw g ns S0 (vis t S):=by
 intro t
 induction t with
 |leaf x=>
  intro ht F0 F S hs
  refine FR ?_
  unfold BB
  have:=cM S0 x
  exact ⟨fun _=>⟨rfl,hs⟩,fun h=>by omega⟩
 |node v l h ihl ihh=>
  intro ht F0 F S hs
  have hs':=hs
  obtain ⟨hle,hS,hsub,hnw,hng,hrd,⟨s,hw,ho,hsb⟩,hg⟩:=hs
  have htm:=co ht rfl
  obtain ⟨hil,hih⟩:=h0.inn_kids ht
  have hok:=h0.inn_ok ht
  have hge:=dM (S:=S0) (t:=node v l h) rfl
  have hnl:=cq ht
  have hgt:=fb htm rfl
  have hlt:=(List.getElem?_eq_some_iff.1 hgt).1
  have hw2:=uW (n:=num S0 (node v l h)) (by omega) hge
  refine FR ?_
  unfold BB
  refine ⟨fun h=>by omega,fun _=> ?_⟩
  rw [hw2]
  have cell0:F.cell ⟨bw,0,none⟩=some ns.v:=by rw [am hw];rfl
  have cell1:F.cell (Addr.add ⟨bw,0,none⟩ 1)=some (Sl.v ⟨some ⟨g,0,none⟩,S0.length,S0.length⟩):=by rw [aD,am hw];rfl
  have cellg:F.cell (Addr.add ⟨g,0,none⟩ (Int.toNat ((num S0 (node v l h) - 2:Nat):Int)*1))=some (vi (rnS S (node v l h))):=by
   simp only [aD]
   rw [am hg]
   have:(rnL S0 S)[num S0 (node v l h) - 2]? =some (vi (rnS S (node v l h))):=by
    unfold rnL
    rw [List.getElem?_map,hgt]
    rfl
   simpa using this
  refine ⟨_,rfl,_,cell1,_,rfl,by omega,by simp only;omega,_,cellg,fun hpos=> ?_,fun hpos=> ?_⟩
  ·have hin:node v l h∈S:=by
    unfold rnS at hpos
    split at hpos
    ·assumption
    ·omega
   have e:vis (node v l h) S=S:=iK (.inr hin)
   rw [e]
   have e2:rnS S (node v l h)=num S (node v l h):=by unfold rnS;rw [if_pos hin]
   rw [e2] at cellg
   exact ⟨_,cell1,_,rfl,by omega,by simp only;omega,_,cellg,rfl,hs'⟩
  ·have hin:node v l h ∉ S:=fun hin=>hpos (by
    have:=dM (S:=S) (t:=node v l h) rfl
    unfold rnS
    rw [if_pos hin]
    omega)
   obtain ⟨a,ha,hrow,_⟩:=rdb (hrd.le hle) (jW hgt)
   have hns:=hrd.blen
   rw [aO] at hns
   refine ⟨ns,cell0,a,ha,by omega,by omega,aP (br S0 (node v l h)),rfl,by simpa using hrow,?_⟩
   intro b5 hb5
   refine atI ?_
   refine stW (an _ _ _) rfl rfl (iT _) ?_
   rw [ba]
   have h50:F0 b5=none:=aU hle hb5
   have n5w:bw≠b5:=aG hb5 hw
   have n5g:g≠b5:=aG hb5 hg
   have hs5:WS (F0.set b5 (.cells (aP (br S0 (node v l h))) 103)) (F.set b5 (.cells (aP (br S0 (node v l h))) 103)) bw g ns S0 S:=by
    refine ⟨fun x ob hx=> ?_,hS,hsub,by rw [az _ _ n5w];exact hnw,by rw [az _ _ n5g];exact hng,hrd.le (ae _ h50),⟨s,by rw [az _ _ n5w];exact hw,ho.upto (ae _ hb5),fun a ha=> ?_⟩,by rw [az _ _ n5g];exact hg⟩
    ·by_cases hxb:x=b5
     ·subst hxb;rw [an] at hx ⊢;exact hx
     ·rw [az _ _ hxb] at hx ⊢;exact hle _ _ hx
    ·obtain ⟨cur,hcur⟩:=ho.elem ha
     rw [az _ _ (aG hb5 hcur)]
     exact hsb a ha
   have hle0:F0.le (F0.set b5 (.cells (aP (br S0 (node v l h))) 103)):=ae _ h50
   have hc5:(F0.set b5 (.cells (aP (br S0 (node v l h))) 103)) b5=some (.cells (aP (br S0 (node v l h))) 103):=an _ _ _
   generalize F0.set b5 (.cells (aP (br S0 (node v l h))) 103)=G0 at*
   generalize F.set b5 (.cells (aP (br S0 (node v l h))) 103)=F1 at*
   refine ⟨_,by rw [am (hs5.le _ _ hc5)];rfl,?_⟩
   refine (ihl hil G0 F1 S hs5).mono ?_
   rintro _ F2 ⟨rfl,hs2⟩
   refine ⟨_,rfl,_,by rw [am (hs2.le _ _ hc5)];rfl,?_⟩
   refine (ihh hih G0 F2 _ hs2).mono ?_
   rintro _ F3 ⟨rfl,hs3⟩
   obtain ⟨hle3,hS3,hsub3,hnw3,hng3,hrd3,⟨s3,hw3,ho3,hsb3⟩,hg3⟩:=hs3
   obtain ⟨fl1,fl2,X,fl3,fl4⟩:=bq l S hok.2.2.2.2.1 hS
   obtain ⟨fh1,fh2,Y,fh3,fh4⟩:=bq h (vis l S) hok.2.2.2.2.2 fl1
   have hnl':num (vis l S) l=num (vis h (vis l S)) l:=by rw [fh3,bF fl2]
   have evis:vis (node v l h) S=vis h (vis l S)++[node v l h]:=by
    conv=>lhs;unfold vis
    rw [if_neg hin]
   obtain ⟨hSv,_,_⟩:=bq (node v l h) S hok hS
   rw [evis] at hSv ⊢
   rw [hnl']
   have hil3:inn (vis h (vis l S)) l:=by rw [fh3];exact bA fl2
   generalize vis h (vis l S)=T at*
   refine ⟨_,rfl,s3,by rw [aD,am hw3];rfl,_,by rw [am (hle3 _ _ hc5)];rfl,rfl,fun b54 hb54=> ?_⟩
   refine atI ?_
   have hTl:T.length≤S0.length:=cW T S0 hS3.nodup hsub3
   have hlen:=ho3.rd.blen
   rw [aO] at hlen
   have hle54:=ae (.cells (aP ⟨(v:Int),(num T l:Int),(num T h:Int)⟩) 103) hb54
   have h54:=an F3 b54 (.cells (aP ⟨(v:Int),(num T l:Int),(num T h:Int)⟩) 103)
   show aE prog _ (F3.set b54 (.cells (aP ⟨(v:Int),(num T l:Int),(num T h:Int)⟩) 103)) _
   replace hle3:G0.le (F3.set b54 (.cells (aP ⟨(v:Int),(num T l:Int),(num T h:Int)⟩) 103)):=fun x ob hx=>hle54 _ _ (hle3 _ _ hx)
   replace ho3:=ho3.upto hle54
   replace hw3:=hle54 _ _ hw3
   replace hg3:=hle54 _ _ hg3
   generalize F3.set b54 (.cells (aP ⟨(v:Int),(num T l:Int),(num T h:Int)⟩) 103)=F4 at*
   refine jZ underlying31 ur ut rfl (by decide) hle3 ho3 hsb3 (x:=⟨some ⟨b54,0,none⟩,1,1⟩) (news:=cJ ⟨(v:Int),(num T l:Int),(num T h:Int)⟩) (RdS.new h54 rfl rfl (Nat.le_refl _))
    (fun x hx=>ij [⟨(v:Int),(num T l:Int),(num T h:Int)⟩] x (by simpa [aT] using hx)) (by simp only [hlen];omega) (by simp only [hlen];omega) ?_
   intro s5 F5 hle5 ho5 hlen5 hsb5 hk5 _
   have new:∀a,s3.base=some a→a.block≠bw:=fun a ha e=>by
    obtain ⟨cur,hcur⟩:=ho3.elem ha
    rw [e,hw3] at hcur
    simp at hcur
   have neg:∀a,s3.base=some a→a.block≠g:=fun a ha e=>by
    obtain ⟨cur,hcur⟩:=ho3.elem ha
    rw [e,hg3] at hcur
    simp at hcur
   replace hw3:=hk5 _ _ hw3 (fun ⟨a,ha,e⟩=>new a ha e)
   replace hg3:=hk5 _ _ hg3 (fun ⟨a,ha,e⟩=>neg a ha e)
   have nwg:bw≠g:=fun e=>by rw [e,hg3] at hw3;simp at hw3
   have hsb6:∀a,s5.base=some a→a.block≠bw∧a.block≠g:=fun a ha=>by
    obtain ⟨cur,hcur⟩:=ho5.elem ha
    refine ⟨fun e=> ?_,fun e=> ?_⟩
    ·rw [e,hw3] at hcur;simp at hcur
    ·rw [e,hg3] at hcur;simp at hcur
   refine ⟨s5,rfl,by rw [am (hle5 _ _ hc5)];rfl,?_⟩
   refine ql (b:=bw) (o:=2) (by simp) hw3 (by simp) ?_
   rw [show (#[ns.v,Sl.v ⟨some ⟨g,0,none⟩,S0.length,S0.length⟩,s3.v].setIfInBounds 2 s5.v:Array Value)= #[ns.v,Sl.v ⟨some ⟨g,0,none⟩,S0.length,S0.length⟩,s5.v] from rfl]
   have hle6:G0.le (F5.set bw (.cells #[ns.v,Sl.v ⟨some ⟨g,0,none⟩,S0.length,S0.length⟩,s5.v] 313)):=aw hle5 hnw3
   have hw6:=an F5 bw (.cells #[ns.v,Sl.v ⟨some ⟨g,0,none⟩,S0.length,S0.length⟩,s5.v] 313)
   have hg6:(F5.set bw (.cells #[ns.v,Sl.v ⟨some ⟨g,0,none⟩,S0.length,S0.length⟩,s5.v] 313)) g=some (.cells (rnL S0 T).toArray 3):=by rw [az _ _ nwg.symm];exact hg3
   have ho6:bM (F5.set bw (.cells #[ns.v,Sl.v ⟨some ⟨g,0,none⟩,S0.length,S0.length⟩,s5.v] 313)) 103 3 s5 _:=ho5.keep fun a ha=>az _ _ (hsb6 a ha).1
   generalize F5.set bw (.cells #[ns.v,Sl.v ⟨some ⟨g,0,none⟩,S0.length,S0.length⟩,s5.v] 313)=F6 at*
   have hlen6:s5.len=T.length+1:=by rw [hlen5,hlen]
   have hw7:IntKind.i64.wrap ((s5.len:Int)+1)=((T.length+2:Nat):Int):=by rw [hlen6,aK (by omega) (by omega)];omega
   refine ⟨_,by rw [aD,am hw6];rfl,s5,by rw [aD,am hw6];rfl,_,rfl,by omega,by simp only;omega,?_⟩
   rw [hw7]
   refine ql (b:=g) (o:=num S0 (node v l h) - 2) (by simp) hg6 (by simp [rnL];omega) ?_
   rw [List.setIfInBounds_toArray,Bz h0 hSv htm rfl]
   refine ⟨s5,by rw [aD,am ((az _ _ nwg).trans hw6)];rfl,?_⟩
   dsimp only
   rw [hw7]
   refine ⟨by rw [dn hSv (k:=T.length) (by simp)],fun x ob hx=>aw hle6 hng3 _ _ (hle0 _ _ hx),hSv,fun x hx=> ?_,hnw,hng,hrd,⟨s5,(az _ _ nwg).trans hw6,?_,fun a ha=>aU hle0 (hsb5 a ha)⟩,an _ _ _⟩
   ·rcases List.mem_append.1 hx with hx|hx
    ·exact hsub3 x hx
    ·rw [List.mem_singleton.1 hx];exact htm
   ·have e3:aT (brs (T++[node v l h]))=aT (brs T)++cJ ⟨(v:Int),(num T l:Int),(num T h:Int)⟩:=by
     rw [dO hS3 hil3 fh2,dR]
     simp [aT]
    rw [e3]
    exact ho6.keep fun a ha=>az _ _ (hsb6 a ha).2
section
variable {F:PH} {ns:Sl} {S0:List Tr} {t:Tr}
theorem jb (hr:RdS F ns 3 (aT (brs S0))) (h0:Cl S0) (ht:inn S0 t) (hf:Fit (S0.length+4)):
  ac prog 214 #[ns.v,vi (num S0 t)] F fun r F'=>∃v,r=.agg v∧DV F' v (dia t)∧F.le F':=by
 have hns:=hr.blen
 rw [aO] at hns
 refine KM ?_
 unfold FL
 intro b4 hb4
 refine atI ?_
 have l4:=ae (.cells #[Value.slice none 0 0,Value.int .i64 0] 33) hb4
 have q4:=an F b4 (.cells #[Value.slice none 0 0,Value.int .i64 0] 33)
 generalize F.set b4 (.cells #[Value.slice none 0 0,Value.int .i64 0] 33)=F4 at*
 refine cN underlying70 sz3 zr3 rfl (by omega) (Int.le_refl _) (by omega) (by omega) ?_
 intro g hg
 rw [zc1 _ rfl,Int.toNat_natCast,hns]
 refine ⟨_,rfl,?_⟩
 have e0:List.replicate S0.length (Value.int .i64 0)=rnL S0 []:=by
  apply List.ext_getElem?
  intro j
  unfold rnL
  rw [List.getElem?_replicate,List.getElem?_map]
  by_cases hj:j<S0.length
  ·rw [if_pos hj,List.getElem?_eq_getElem hj]
   simp [rnS]
  ·rw [if_neg hj,List.getElem?_eq_none (by omega)]
   rfl
 rw [e0]
 have lg:=ae (.cells (rnL S0 []).toArray 3) hg
 have qg:=an F4 g (.cells (rnL S0 []).toArray 3)
 have q4g:=lg _ _ q4
 have n4g:b4≠g:=aG hg q4
 generalize hG:F4.set g (.cells (rnL S0 []).toArray 3)=Fg at*
 intro b12 hb12
 refine atI ?_
 have n12g:g≠b12:=aG hb12 qg
 have f12:F4 b12=none:=aU lg hb12
 have lx:=ae (.cells #[ns.v,Sl.v ⟨some ⟨g,0,none⟩,S0.length,S0.length⟩,Value.slice none 0 0] 313) hb12
 have hs:WS F4 (Fg.set b12 (.cells #[ns.v,Sl.v ⟨some ⟨g,0,none⟩,S0.length,S0.length⟩,Value.slice none 0 0] 313)) b12 g ns S0 []:=
  ⟨lg.trans lx,.nil,fun x hx=>(by cases hx),f12,hg,hr.le l4,⟨Sl.nil,an _ _ _,.inl ⟨rfl,rfl⟩,fun a ha=>by cases ha⟩,lx _ _ qg⟩
 refine (un h0 hf t ht F4 _ [] hs).mono ?_
 rintro _ G ⟨rfl,hs'⟩
 have ev:vis t []=aL t:=rfl
 rw [ev] at*
 obtain ⟨gle,gcl,_,_,_,_,⟨s,gw,go,gs⟩,_⟩:=hs'
 refine ⟨_,rfl,s,by rw [am gw];rfl,?_⟩
 have h4:=gle _ _ q4
 have hsb:∀a,s.base=some a→a.block≠b4:=fun a ha e=>by
  obtain ⟨cur,hcur⟩:=go.elem ha
  rw [e,h4] at hcur
  simp at hcur
 have hd:DV (dy G b4) #[s.v,vi (num (aL t) t)] (dia t):=⟨s,rfl,(go.keep fun a ha=>fc (hsb a ha)).rd⟩
 exact fW (K:=fun vres F'=>∃v,Value.agg vres=.agg v∧DV F' v (dia t)∧F.le F') hd h4 rfl ⟨_,rfl,hd.le (aw (xX _ _) (wA _ _)),aw (l4.trans gle) hb4⟩
end
theorem bM.keepK {F G:PH} {e size:Nat} {s:Sl} {vs:List Value} {fp:Nat→Prop} (h:bM F e size s vs) (hk:bU fp F G) (hn:∀a,s.base=some a→¬fp a.block):bM G e size s vs:=by
 rcases h with h|⟨b,cur,h1,h2,h3⟩
 ·exact .inl h
 ·exact .inr ⟨b,cur,h1,hk _ _ h2 (hn _ h1),h3⟩
section
variable {F0 F:PH} {l:Sl} {S:List Tr}
theorem uo (hle:F0.le F) (ho:bM F 103 3 l (aT (brs S))) (hb:∀a,l.base=some a→F0 a.block=none) (hS:Cl S) {v:Nat} {A B:Tr} (hA:inn S A) (hB:inn S B) (hf:Fit (S.length+4)):
  ac prog 233 #[l.v,.agg (aP ⟨(v:Int),(num S A:Int),(num S B:Int)⟩)] F fun r F'=>∃l',r=.tuple #[l'.v,vi (num (de S (mk v A B)) (mk v A B))]∧F0.le F'∧bM F' 103 3 l' (aT (brs (de S (mk v A B))))∧
   (∀a,l'.base=some a→F0 a.block=none)∧bU (fun b=>∃a,l.base=some a∧a.block=b) F F':=by
 have hlen:=ho.rd.blen
 rw [aO] at hlen
 refine KR ?_
 unfold FQ
 intro b3 hb3
 refine atI ?_
 have l3:=ae (.cells (aP ⟨(v:Int),(num S A:Int),(num S B:Int)⟩) 103) hb3
 have q3:=an F b3 (.cells (aP ⟨(v:Int),(num S A:Int),(num S B:Int)⟩) 103)
 have n3:∀a,l.base=some a→a.block≠b3:=fun a ha=>by
  obtain ⟨cur,hcur⟩:=ho.elem ha
  exact aG hb3 hcur
 replace ho:=ho.upto l3
 replace hle:=hle.trans l3
 generalize F.set b3 (.cells (aP ⟨(v:Int),(num S A:Int),(num S B:Int)⟩) 103)=F1 at*
 refine ⟨_,by rw [am q3];rfl,_,by rw [am q3];rfl,fun he=> ?_,fun he=> ?_⟩
 ·obtain rfl:=cT hA hB (by have:(num S A:Int)=num S B:=he;omega)
  have e:mk v A A=A:=by simp [mk]
  have e2:de S A=S:=by unfold de;rw [if_pos hA]
  rw [e,e2]
  exact ⟨_,by rw [am q3];rfl,l,rfl,hle,ho,hb,bU.of_le l3⟩
 have hAB:A≠B:=fun e=>he (by rw [e])
 have emk:mk v A B=node v A B:=by simp [mk,hAB]
 rw [emk]
 have hbr:br S (node v A B)=⟨(v:Int),(num S A:Int),(num S B:Int)⟩:=rfl
 refine ⟨fun m i F'=>∃k:Nat,i=k∧k≤S.length∧m=S.length - k∧F'=F1∧br S (node v A B) ∉ (brs S).take k,S.length,⟨0,rfl,by omega,rfl,rfl,by simp⟩,?_⟩
 rintro m i F' ⟨k,rfl,hk,rfl,rfl,hnot⟩
 unfold xC
 refine ⟨fun hlt=> ?_,fun hge=> ?_⟩
 ·have hkS:k<S.length:=by omega
  have hkB:k<(brs S).length:=by rw [aO];exact hkS
  obtain ⟨p,hp,hpr,_⟩:=rdb ho.rd (List.getElem?_eq_getElem hkB)
  refine ⟨p,hp,by omega,hlt,aP (brs S)[k],rfl,by simpa using hpr,aP (br S (node v A B)),rfl,ak q3,decide ((brs S)[k]=br S (node v A B)),fun F=>CQ (brs S)[k] (br S (node v A B)) F,fun heq=> ?_,fun hne=> ?_⟩
  ·have heq':(brs S)[k]=br S (node v A B):=of_decide_eq_true heq
   have hm:node v A B∈S:=(gy hS hA hB).1 (by rw [← heq'];exact List.getElem_mem _)
   have hSk:S[k]=node v A B:=BC hS (List.getElem_mem hkS) hm (by rw [← heq'];simp [brs])
   have e2:de S (node v A B)=S:=by unfold de;rw [if_pos (.inr hm)]
   have hn:=dn hS (k:=k) (t:=node v A B) (by rw [List.getElem?_eq_getElem hkS,hSk])
   have hw:IntKind.i64.wrap ((k:Int)+2)=((k+2:Nat):Int):=by rw [aK (by omega) (by omega)];omega
   rw [e2,hn,hw]
   exact ⟨l,rfl,hle,ho,hb,bU.of_le l3⟩
  ·refine ⟨S.length - (k+1),by omega,k+1,i6 (by omega),by omega,rfl,rfl,?_⟩
   rw [List.take_succ_eq_append_getElem hkB]
   intro hc
   rcases List.mem_append.1 hc with hc|hc
   ·exact hnot hc
   ·rw [List.mem_singleton] at hc
    rw [hc] at hne
    simp at hne
 ·have hk':k=S.length:=by omega
  have hm:node v A B ∉ S:=fun hm=>hnot (by
   rw [hk',List.take_of_length_le (by rw [aO];omega)]
   exact (gy hS hA hB).2 hm)
  have e2:de S (node v A B)=S++[node v A B]:=by
   unfold de
   rw [if_neg]
   rintro (hc|hc)
   ·cases hc
   ·exact hm hc
  rw [e2]
  unfold xB
  refine ⟨aP (br S (node v A B)),rfl,ak q3,rfl,fun b32 hb32=> ?_⟩
  refine atI ?_
  have l32:=ae (.cells (aP (br S (node v A B))) 103) hb32
  have q32:=an F' b32 (.cells (aP (br S (node v A B))) 103)
  have ho2:=ho.upto l32
  have hle2:=hle.trans l32
  generalize F'.set b32 (.cells (aP (br S (node v A B))) 103)=F2 at*
  refine jZ underlying31 ur ut rfl (by decide) hle2 ho2 hb (x:=⟨some ⟨b32,0,none⟩,1,1⟩) (news:=cJ (br S (node v A B))) (RdS.new q32 rfl rfl (Nat.le_refl _)) (fun x hx=>ij [br S (node v A B)] x (by simpa [aT] using hx)) (by simp only [hlen];omega) (by simp only [hlen];omega) ?_
  intro s' F3 hle3 ho3 hlen3 hs3 hk3 _
  have hw:IntKind.i64.wrap ((s'.len:Int)+1)=((S.length+2:Nat):Int):=by rw [hlen3,hlen,aK (by simp only;omega) (by simp only;omega)];simp only;omega
  have e3:aT (brs (S++[node v A B]))=aT (brs S)++cJ (br S (node v A B)):=by
   rw [dO hS hA hB,← hbr,dR]
   simp [aT]
  refine ⟨s',rfl,s',?_,hle3,by rw [e3];exact ho3,hs3,fun x ob hx hn=>hk3 _ _ (l32 _ _ (l3 _ _ hx)) hn⟩
  rw [hw]
  have hl2:num (S++[node v A B]) (node v A B)=S.length+2:=by
   simp only [num,List.idxOf_append,if_neg hm]
   simp
  rw [hl2]
end
end Go.Proofs.YtenpmjhnhepfdaaGreatDoor
