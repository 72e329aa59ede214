/-
  Natural numbers as limbs: trim, Valid, Of, Add, Compare.
-/
import Derived.Test.YtenpmjhnhepfdaaGreatDoorEk
import Derived.Test.YtenpmjhnhepfdaaGreatDoorPhp
import Derived.Test.YtenpmjhnhepfdaaGreatDoorPhz
namespace Go.Proofs.YtenpmjhnhepfdaaGreatDoor
open Go Go.Proofs.Tryz Tr
set_option maxRecDepth 10000
theorem oW (c:Cf) {v w:Nat} (h:v≠w) (b:Bool):(c.set w b) v=c v:=by simp [Cf.set,h]
theorem Cr (w:Nat) (b:Bool):∀(t:Tr),t.ok→∃u:Tr,u.ok∧t.top≤u.top∧∀c,u.ev c=t.ev (c.set w b)
 |leaf x,_=>⟨leaf x,trivial,Nat.le_refl _,fun _=>rfl⟩
 |node v l h,⟨h0,h1,h2,h3,h4,h5⟩=>by
  obtain ⟨ul,l1,l2,l3⟩:=Cr w b l h4
  obtain ⟨uh,g1,g2,g3⟩:=Cr w b h h5
  by_cases hv:v=w
  ·subst hv
   cases b with
   |true=>exact ⟨uh,g1,by show v≤uh.top;omega,fun c=>by rw [g3];simp [Tr.ev,Cf.set]⟩
   |false=>exact ⟨ul,l1,by show v≤ul.top;omega,fun c=>by rw [l3];simp [Tr.ev,Cf.set]⟩
  ·refine ⟨mk v ul uh,uc h0 (by omega) (by omega) l1 g1,(show v≤(mk v ul uh).top from Bv (by omega)),fun c=> ?_⟩
   rw [w6,l3,g3]
   simp only [Tr.ev,oW c hv b]
noncomputable def fx (w:Nat) (b:Bool) (t:Tr):Tr:=can fun c=>t.ev (c.set w b)
theorem bX (w:Nat) (b:Bool) {t:Tr} (ht:t.ok):(fx w b t).ok∧t.top≤(fx w b t).top∧∀c,(fx w b t).ev c=t.ev (c.set w b):=by
 obtain ⟨u,h1,h2,h3⟩:=Cr w b t ht
 have:fx w b t=u:=gZ h1 h3
 rw [this]
 exact ⟨h1,h2,h3⟩
theorem eJ (w:Nat) (b x:Bool):fx w b (leaf x)=leaf x:=gZ trivial fun _=>rfl
theorem mC {w:Nat} {b:Bool} {v:Nat} {l h:Tr} (hk:(node v l h).ok):fx w b (node v l h)=if v=w then (if b=true then fx w b h else fx w b l) else mk v (fx w b l) (fx w b h):=by
 obtain ⟨h0,h1,h2,h3,h4,h5⟩:=hk
 obtain ⟨l1,l2,l3⟩:=bX w b h4
 obtain ⟨g1,g2,g3⟩:=bX w b h5
 by_cases hv:v=w
 ·subst hv
  rw [if_pos rfl]
  cases b with
  |true=>exact gZ g1 fun c=>by rw [if_pos rfl,g3];simp [Tr.ev,Cf.set]
  |false=>exact gZ l1 fun c=>by rw [if_neg (by simp),l3];simp [Tr.ev,Cf.set]
 ·rw [if_neg hv]
  refine gZ (uc h0 (by omega) (by omega) l1 g1) fun c=> ?_
  rw [w6,l3,g3]
  simp only [Tr.ev,oW c hv b]
theorem BD.pin {F0 F:PH} {b m x:Nat} {c:Array Value} {e:TypeId} {fr:Nat×Nat} {S:List Tr} (h:BD F0 F b m S) (hx:F x=some (.cells c e fr)) (h1:e≠228) (h2:e≠103):BD (F0.set x (.cells c e fr)) F b m S:=by
 obtain ⟨k1,k2,k3,k4,⟨s,k5,k6,k7⟩,o',k8,k9⟩:=h
 refine ⟨fun y oy hy=> ?_,k2,?_,?_,⟨s,k5,k6,fun a ha=> ?_⟩,o',k8,k9⟩
 ·by_cases hyx:y=x
  ·subst hyx;rw [an] at hy;rw [hx];exact hy
  ·rw [aw _ _ hyx] at hy;exact k1 _ _ hy
 ·rw [aw _ _ (fun e'=>by rw [e',hx] at k5;simp at k5;exact h1 k5.2.1)];exact k3
 ·rw [aw _ _ (fun e'=>by
   obtain ⟨es,cl,L,rfl,_⟩:=k9
   rw [e',hx] at k8;simp at k8)];exact k4
 ·obtain ⟨cur,hcur⟩:=k6.elem ha
  rw [aw _ _ (fun e'=>by rw [e',hx] at hcur;simp at hcur;exact h2 hcur.2.1)]
  exact k7 a ha
theorem BD.setCells {F0 F:PH} {b m x:Nat} {c:Array Value} {e:TypeId} {fr:Nat×Nat} {o:Obj} {S:List Tr} (h:BD F0 F b m S) (h0:F0 x=none) (hx:F x=some (.cells c e fr)) (h1:e≠228) (h2:e≠103):BD F0 (F.set x o) b m S:=by
 obtain ⟨k1,k2,k3,k4,⟨s,k5,k6,k7⟩,o',k8,k9⟩:=h
 refine ⟨au k1 h0,k2,k3,k4,⟨s,?_,k6.keep fun a ha=>aw _ _ (fun e'=> ?_),k7⟩,o',?_,k9⟩
 ·rw [aw _ _ (fun e'=>by rw [e',hx] at k5;simp at k5;exact h1 k5.2.1)];exact k5
 ·obtain ⟨cur,hcur⟩:=k6.elem ha
  rw [e',hx] at hcur;simp at hcur;exact h2 hcur.2.1
 ·rw [aw _ _ (fun e'=>by
   obtain ⟨es,cl,L,rfl,_⟩:=k9
   rw [e',hx] at k8;simp at k8)];exact k8
noncomputable def fxA (w:Nat) (b:Bool) (T S:List Tr) (k:Nat):List Value:=(List.range (T.length+2)).map fun j=>if j<k+2 then vi (num S (fx w b (tr T j))) else vi 0
theorem sj {w:Nat} {b:Bool} {T S:List Tr} {k j:Nat} (h:j<k+2) (hk:k≤T.length):(fxA w b T S k)[j]? =some (vi (num S (fx w b (tr T j)))):=by
 unfold fxA
 rw [List.getElem?_map,List.getElem?_range (by omega)]
 simp [h]
theorem Ct (w:Nat) (b:Bool) (T:List Tr):(List.replicate (T.length+2) (vi 0)).set 1 (vi 1)=fxA w b T [] 0:=by
 apply List.ext_getElem?
 intro j
 unfold fxA
 rw [List.getElem?_map,List.getElem?_set]
 have h0:tr T 0=leaf false:=rfl
 have h1:tr T 1=leaf true:=rfl
 by_cases hj:j<T.length+2
 ·rw [List.getElem?_range hj]
  simp only [Option.map_some,List.length_replicate,List.getElem?_replicate]
  match j,hj with
  |0,_=>simp [h0,eJ,num]
  |1,_=>simp [h1,eJ,num]
  |j+2,hj=>rw [if_neg (by omega),if_pos hj,if_neg (by omega)]
 ·have e2:(List.range (T.length+2))[j]? =none:=by simp;omega
  rw [e2]
  simp only [List.getElem?_replicate,Option.map_none]
  rw [if_neg (by omega),if_neg (by omega)]
theorem Cv {w:Nat} {b:Bool} {T S S':List Tr} {k:Nat} (hk:k<T.length) (hn:∀j,j<k+2→num S' (fx w b (tr T j))=num S (fx w b (tr T j))):
  (fxA w b T S k).set (k+2) (vi (num S' (fx w b (tr T (k+2)))))=fxA w b T S' (k+1):=by
 apply List.ext_getElem?
 intro j
 unfold fxA
 rw [List.getElem?_set,List.getElem?_map,List.getElem?_map]
 by_cases hj:j<T.length+2
 ·rw [List.getElem?_range hj]
  simp only [Option.map_some,List.length_map,List.length_range]
  by_cases h1:k+2=j
  ·subst h1
   simp
   omega
  ·rw [if_neg h1]
   by_cases h2:j<k+2
   ·rw [if_pos h2,if_pos (by omega),hn j h2]
   ·rw [if_neg h2,if_neg (by omega)]
 ·have e2:(List.range (T.length+2))[j]? =none:=by simp;omega
  rw [e2]
  simp only [Option.map_none]
  rw [if_neg (by omega)]
section
variable {F:PH} {v:Array Value} {t:Tr}
theorem vW (hd:DV F v (dia t)) (ht:t.ok) (hl:(aA t).length≤4096) (w:Nat) (x:Bool):ae prog 161 #[.agg v,vi w,.bool x] F fun r F'=>∃u,r=.agg u∧DV F' u (dia (fx w x t))∧F.le F':=by
 have hT:=bW ht
 obtain ⟨s,rfl,hr⟩:=hd
 have hr':RdS F s 3 (aS (brs (aA t))):=hr
 have hlen:=hr'.blen
 rw [aK] at hlen
 refine J2 ?_
 unfold EY
 intro b3 hb3
 refine atI ?_
 have l3:=ac (.cells #[s.v,vi (dia t).2] 33) hb3
 have q3:=an F b3 (.cells #[s.v,vi (dia t).2] 33)
 generalize F.set b3 (.cells #[s.v,vi (dia t).2] 33)=F3 at*
 intro b6 hb6
 refine atI ?_
 have f6:F b6=none:=aR l3 hb6
 have lx:=ac (.cells #[Value.slice none 0 0,Value.int .i64 0] 33) hb6
 have q6:=an F3 b6 (.cells #[Value.slice none 0 0,Value.int .i64 0] 33)
 replace q3:=lx _ _ q3
 have l6:=l3.trans lx
 clear lx
 generalize F3.set b6 (.cells #[Value.slice none 0 0,Value.int .i64 0] 33)=E at*
 refine (lW E).mono ?_
 rintro _ G ⟨bb,mm,rfl,hne,bd⟩
 have hw2:IntKind.i64.wrap ((s.len:Int)+2)=(((aA t).length+2:Nat):Int):=by rw [hlen,aJ (by omega) (by omega)];omega
 refine ⟨_,rfl,s,by rw [am (bd.le _ _ q3)];rfl,?_⟩
 dsimp only
 rw [hw2]
 refine bL underlying70 sz3 zr3 rfl (by omega) (Int.le_refl _) (by omega) (by omega) ?_
 intro g hg
 rw [zc1 _ rfl,Int.toNat_natCast]
 have Eg:E g=none:=aR bd.le hg
 refine ⟨_,rfl,_,rfl,by omega,by simp only;omega,?_⟩
 refine jM (b:=g) (o:=1) (by simp) (an _ _ _) (by simp) ?_
 rw [aP,List.setIfInBounds_toArray]
 rw [Ct w x (aA t)]
 have bd1:=(bd.upto (ac (.cells (fxA w x (aA t) [] 0).toArray 3) hg))
 have qg:=an G g (.cells (fxA w x (aA t) [] 0).toArray 3)
 generalize G.set g (.cells (fxA w x (aA t) [] 0).toArray 3)=G1 at*
 refine ⟨s,by rw [am (bd1.le _ _ q3)];rfl,?_⟩
 refine ⟨fun m i F'=>∃(k:Nat) (S:List Tr),i=k∧k≤(aA t).length∧m=(aA t).length - k∧BD E F' bb mm S∧S.length≤k∧(∀j,j<k+2→inn S (fx w x (tr (aA t) j)))∧F' g=some (.cells (fxA w x (aA t) S k).toArray 3),(aA t).length,
  ⟨0,[],rfl,by omega,rfl,bd1,by simp,fun j hj=> ?_,qg⟩,?_⟩
 ·match j,hj with
  |0,_=>show inn [] (fx w x (leaf false));rw [eJ];exact dH _ _
  |1,_=>show inn [] (fx w x (leaf true));rw [eJ];exact dH _ _
 rintro m i F1 ⟨k,S,rfl,hk,rfl,hbd,hSk,hin,hg1⟩
 unfold w5
 refine ⟨fun hlt=> ?_,fun hge=> ?_⟩
 ·have hkT:k<(aA t).length:=by omega
  obtain ⟨hck,vv,lo',hi',hget,hlo,hhi,hok,_⟩:=oY hT k hkT
  have hlo2:=bY hlo
  have hhi2:=bY hhi
  rw [← fR hlo,List.length_take] at hlo2
  rw [← fR hhi,List.length_take] at hhi2
  have inl:inn (aA t) lo':=by rw [← List.take_append_drop k (aA t)];exact bj hlo
  have inh:inn (aA t) hi':=by rw [← List.take_append_drop k (aA t)];exact bj hhi
  obtain ⟨a,ha,hrow,_⟩:=rdb (hr'.le (l6.trans hbd.le)) (fa hget)
  refine ⟨a,ha,by omega,hlt,aO (br (aA t) (node vv lo' hi')),rfl,by simpa using hrow,?_⟩
  intro b10 hb10
  refine atI ?_
  refine stW (an _ _ _) rfl rfl (eE _) ?_
  rw [aP]
  have hE10:E b10=none:=aR hbd.le hb10
  have bd2:=(hbd.grow (F:=F1.set b10 (.cells (aO (br (aA t) (node vv lo' hi'))) 103)) (ac _ hb10) hb10 (an _ _ _))
  have n10:g≠b10:=aE hb10 hg1
  have qg2:(F1.set b10 (.cells (aO (br (aA t) (node vv lo' hi'))) 103)) g=some (.cells (fxA w x (aA t) S k).toArray 3):=by rw [aw _ _ n10];exact hg1
  have c10:∀G:PH,(F1.set b10 (.cells (aO (br (aA t) (node vv lo' hi'))) 103)).le G→G b10=some (.cells (aO (br (aA t) (node vv lo' hi'))) 103):=fun G hG=>hG _ _ (an _ _ _)
  have e10:=an E b10 (.cells (aO (br (aA t) (node vv lo' hi'))) 103)
  have lE:E.le (E.set b10 (.cells (aO (br (aA t) (node vv lo' hi'))) 103)):=ac _ hE10
  have Eg2:(E.set b10 (.cells (aO (br (aA t) (node vv lo' hi'))) 103)) g=none:=by rw [aw _ _ n10];exact Eg
  generalize F1.set b10 (.cells (aO (br (aA t) (node vv lo' hi'))) 103)=F2 at*
  generalize E.set b10 (.cells (aO (br (aA t) (node vv lo' hi'))) 103)=E2 at*
  have h10:=bd2.le _ _ e10
  have trl:=eV hT inl
  have trh:=eV hT inh
  have hnl:(fxA w x (aA t) S k)[num (aA t) lo']? =some (vi (num S (fx w x lo'))):=by rw [sj (by omega) (by omega),trl]
  have hnh:(fxA w x (aA t) S k)[num (aA t) hi']? =some (vi (num S (fx w x hi'))):=by rw [sj (by omega) (by omega),trh]
  have il:inn S (fx w x lo'):=by have:=hin (num (aA t) lo') (by omega);rwa [trl] at this
  have ih:inn S (fx w x hi'):=by have:=hin (num (aA t) hi') (by omega);rwa [trh] at this
  have hk2:tr (aA t) (k+2)=node vv lo' hi':=by
   unfold tr
   rw [if_neg (by omega),if_neg (by omega),Nat.add_sub_cancel,List.getD_eq_getElem?_getD,hget]
   rfl
  obtain ⟨o1,o2,o3,o4,o5,o6⟩:=hok
  obtain ⟨p1,p2,_⟩:=bX w x o5
  obtain ⟨r1,r2,_⟩:=bX w x o6
  have hfx:=mC (w:=w) (b:=x) (v:=vv) (l:=lo') (h:=hi') ⟨o1,o2,o3,o4,o5,o6⟩
  have rest:∀A B:Tr,inn S A→inn S B→vv<A.top→vv<B.top→fx w x (node vv lo' hi')=mk vv A B→∀{R:Value→PH→Prop} {N:Int→PH→Prop},
    (∀F',(∃S',BD E F' bb mm S'∧S'.length≤k+1∧(∀j,j<k+1+2→inn S' (fx w x (tr (aA t) j)))∧F' g=some (.cells (fxA w x (aA t) S' (k+1)).toArray 3))→N ((k+1:Nat):Int) F')→
    jS N w x b3 b6 (some ⟨bb,0,none⟩) ⟨some ⟨g,0,none⟩,(aA t).length+2,(aA t).length+2⟩ k b10 s (num S A) (num S B) R F2:=by
   intro A B hA hB tA tB hAB R N hN
   unfold jS
   refine ⟨_,by rw [am h10];rfl,?_⟩
   have bd3:=bd2.pin qg2 (by decide) (by decide)
   refine (uC bd3 hA hB ⟨o1,tA,tB⟩ (by omega)).mono ?_
   rintro _ F3 ⟨rfl,bd4⟩
   have qg4:=bd4.le _ _ (an E2 g (.cells (fxA w x (aA t) S k).toArray 3))
   have bd5:BD E2 F3 bb mm (dm S (mk vv A B)):=bd4.weaken (au PH.le_rfl Eg2)
   have hw3:IntKind.i64.wrap ((k:Int)+2)=((k+2:Nat):Int):=by rw [aJ (by omega) (by omega)];omega
   have hw4:IntKind.i64.wrap ((k:Int)+1)=((k+1:Nat):Int):=eW (by omega)
   rw [hw3,hw4]
   refine ⟨_,rfl,_,rfl,by omega,by simp only;omega,?_⟩
   refine jM (b:=g) (o:=k+2) (by simp;omega) qg4 (by simp [fxA];omega) ?_
   rw [List.setIfInBounds_toArray]
   have hnum:∀{u:Tr},inn S u→inn (dm S (mk vv A B)) u∧num (dm S (mk vv A B)) u=num S u:=fun {u} hu=>by
    unfold dm
    split
    ·exact ⟨hu,rfl⟩
    ·exact ⟨bj hu,bE hu⟩
   have hinT:inn (dm S (mk vv A B)) (mk vv A B):=by
    unfold dm
    split
    ·assumption
    ·exact .inr (by simp)
   have hst:=Cv (w:=w) (b:=x) (T:=aA t) (S:=S) (S':=dm S (mk vv A B)) hkT (fun j hj=>(hnum (hin j hj)).2)
   rw [hk2,hfx,← hfx,hAB] at hst
   rw [hst]
   refine hN _ ⟨_,((bd5.weaken lE).setCells Eg qg4 (by decide) (by decide)),?_,fun j hj=> ?_,an _ _ _⟩
   ·unfold dm
    split
    ·omega
    ·simp only [List.length_append,List.length_singleton];omega
   ·by_cases hj2:j<k+2
    ·exact (hnum (hin j hj2)).1
    ·obtain rfl:j=k+2:=by omega
     rw [hk2,hAB]
     exact hinT
  have done:∀F':PH,(∃S',BD E F' bb mm S'∧S'.length≤k+1∧(∀j,j<k+1+2→inn S' (fx w x (tr (aA t) j)))∧F' g=some (.cells (fxA w x (aA t) S' (k+1)).toArray 3))→
    ∃m',m'<(aA t).length - k∧∃(k':Nat) (S:List Tr),((k+1:Nat):Int)=k'∧k'≤(aA t).length∧m'=(aA t).length - k'∧BD E F' bb mm S∧S.length≤k'∧(∀j,j<k'+2→inn S (fx w x (tr (aA t) j)))∧F' g=some (.cells (fxA w x (aA t) S k').toArray 3):=fun F' ⟨S',h1,h2,h3,h4⟩=>
   ⟨(aA t).length - (k+1),by omega,k+1,S',rfl,by omega,rfl,h1,h2,h3,h4⟩
  refine ⟨_,by rw [am h10];rfl,_,rfl,by simp only [br];omega,by simp only [br];omega,vi (num S (fx w x lo')) |> fun _=>(num S (fx w x lo'):Int),by simp only [aL];rw [am qg2];simpa [br] using hnl,
   _,by rw [am h10];rfl,_,rfl,by simp only [br];omega,by simp only [br];omega,(num S (fx w x hi'):Int),by simp only [aL];rw [am qg2];simpa [br] using hnh,_,by rw [am h10];rfl,fun hv=> ?_,fun hv=> ?_⟩
  ·have hvw:vv=w:=by simp only [br] at hv;omega
   rw [if_pos hvw] at hfx
   refine ⟨fun hx=> ?_,fun hx=> ?_⟩
   ·rw [if_pos hx] at hfx
    exact rest (fx w x hi') (fx w x hi') ih ih (by omega) (by omega) (by rw [hfx];simp [mk]) done
   ·rw [if_neg (by simp [hx])] at hfx
    exact rest (fx w x lo') (fx w x lo') il il (by omega) (by omega) (by rw [hfx];simp [mk]) done
  ·have hvw:¬vv=w:=by simp only [br] at hv;omega
   rw [if_neg hvw] at hfx
   exact rest (fx w x lo') (fx w x hi') il ih (by omega) (by omega) hfx done
 ·obtain rfl:k=(aA t).length:=by omega
  unfold wZ
  have hni:=bG ht
  have hnl:=bY hni
  have hct:(fxA w x (aA t) S (aA t).length)[num (aA t) t]? =some (vi (num S (fx w x t))):=by rw [sj (by omega) (by omega),eV hT hni]
  refine ⟨(num (aA t) t:Int),by rw [am (hbd.le _ _ q3)];rfl,_,rfl,by omega,by simp only;omega,(num S (fx w x t):Int),by simp only [aL];rw [am hg1];simpa using hct,?_⟩
  have hinf:=hin (num (aA t) t) (by omega)
  rw [eV hT hni] at hinf
  obtain ⟨_,hcl,_,_,⟨sb,hbb,hob,_⟩,_⟩:=id hbd
  have h16:=hbd.le _ _ q6
  have nbb:bb≠b6:=fun e=>by rw [e,h16] at hbb;simp at hbb
  have hob':bR (bF F1 b6) 103 3 sb (aS (brs S)):=hob.keep fun a ha=>by
   obtain ⟨cur,hcur⟩:=hob.elem ha
   refine ca (fun e=> ?_)
   rw [e,h16] at hcur
   simp at hcur
  refine (fb (ke (b:=bb) (F:=bF F1 b6) (ns:=sb) (by rw [am ((ca nbb).trans hbb)];rfl) hob'.rd hcl hinf (by omega)) h16).mono ?_
  rintro _ F2 ⟨u,rfl,⟨G',hu,lG,gG⟩,l2,q2⟩
  refine ⟨_,rfl,?_⟩
  exact fS (K:=fun vres F'=>∃w',Value.agg vres=.agg w'∧DV F' w' (dia (fx w x t))∧F.le F') hu q2 rfl ⟨_,rfl,hu.le (au lG gG),au (l6.trans (hbd.le.trans l2)) f6⟩
end
theorem vX {w:Nat} {b:Bool} {T:Tr} (hT:T.ok):∀(t:Tr),inn (aA T) t→∀(S:List Tr),Cl S→∀u∈vis (fx w b t) S,u∈S∨u∈(aA T).map (fx w b)
 |leaf x,_,S,_=>by
  rw [eJ]
  exact fun u hu=> .inl hu
 |node v l h,ht,S,hS=>by
  have hcl:=bW hT
  have hk:=hcl.inn_ok ht
  obtain ⟨il,ih⟩:=hcl.inn_kids ht
  have hf:=mC (w:=w) (b:=b) hk
  obtain ⟨h0,h1,h2,h3,h4,h5⟩:=hk
  obtain ⟨l1,l2,l3⟩:=bX w b h4
  obtain ⟨g1,g2,g3⟩:=bX w b h5
  have vl:=vX (w:=w) (b:=b) hT l il
  have vh:=vX (w:=w) (b:=b) hT h ih
  by_cases hv:v=w
  ·rw [if_pos hv] at hf
   rw [hf]
   split
   ·exact vh S hS
   ·exact vl S hS
  ·rw [if_neg hv] at hf
   have hadd:=uB hS (v:=v) (l:=fx w b l) (h:=fx w b h) ⟨h0,by omega,by omega,l1,g1⟩
   rw [← hf] at hadd
   rw [← hadd]
   intro u hu
   have key:u∈vis (fx w b h) (vis (fx w b l) S)→u∈S∨u∈(aA T).map (fx w b):=fun hu=>by
    rcases vh _ (bo _ S l1 hS).1 u hu with h|h
    ·exact vl S hS u h
    ·exact .inr h
   unfold dm at hu
   split at hu
   ·exact key hu
   ·rcases List.mem_append.1 hu with hu|hu
    ·exact key hu
    ·rw [List.mem_singleton.1 hu]
     exact .inr (List.mem_map.2 ⟨_,bZ ht rfl,rfl⟩)
theorem kX {w:Nat} {b:Bool} {t:Tr} (ht:t.ok):(aA (fx w b t)).length≤(aA t).length:=by
 have:=cX (aA (fx w b t)) ((aA t).map (fx w b)) (bW (bX w b ht).1).nodup fun x hx=>by
  rcases vX ht t (bG ht) [] .nil x hx with h|h
  ·cases h
  ·exact h
 simpa using this
noncomputable def pR (a:Dia) (v:Int) (b:Bool):DR:=if chk a≠0 then (ij,chk a) else if v<0∨63<v then (ij,1) else lim (dia (fx v.toNat b (tre a)))
section
variable {F:PH} {v:Array Value} {a:Dia}
theorem pS (ha:DV F v a) (w:Int) (x:Bool):ae prog 92 #[.agg v,vi w,.bool x] F fun r F'=>DRV F' r (pR a w x)∧F.le F':=by
 refine N0 ?_
 unfold JW
 intro b3 hb3
 refine atI ?_
 have l3:=ac (.cells v 33) hb3
 have q3:=an F b3 (.cells v 33)
 generalize F.set b3 (.cells v 33)=F3 at*
 intro b6 hb6
 refine atI ?_
 have f6:F b6=none:=aR l3 hb6
 have lx:=ac (.cells #[Value.slice none 0 0,Value.int .i64 0] 33) hb6
 have q6:=an F3 b6 (.cells #[Value.slice none 0 0,Value.int .i64 0] 33)
 replace q3:=lx _ _ q3
 have l6:=l3.trans lx
 clear lx
 generalize F3.set b6 (.cells #[Value.slice none 0 0,Value.int .i64 0] 33)=F6 at*
 refine ⟨v,ha.size,aj q3,?_⟩
 refine (gy (ha.le l6)).mono ?_
 rintro _ F7 ⟨rfl,l7⟩
 replace q3:=l7 _ _ q3
 replace q6:=l7 _ _ q6
 replace l7:=l6.trans l7
 refine ⟨_,rfl,fun h=> ?_,fun h=> ?_⟩
 ·have e:pR a w x=(ij,chk a):=by unfold pR;rw [if_pos h]
  rw [e]
  exact vZ q6 rfl l7 f6
 have h0:chk a=0:=by omega
 have bad:w<0∨63<w→oA w x b3 b6 true (fun r F'=>DRV F' r (pR a w x)∧F.le F') F7:=fun hb=>by
  unfold oA
  refine ⟨fun _=> ?_,fun hc=>by cases hc⟩
  have e:pR a w x=(ij,1):=by unfold pR;rw [if_neg h,if_pos hb]
  rw [e]
  exact vZ q6 rfl l7 f6
 refine ⟨fun hb=>bad (.inl hb),fun hb=> ?_⟩
 by_cases hb2:63<w
 ·rw [decide_eq_true hb2]
  exact bad (.inr hb2)
 ·rw [decide_eq_false hb2]
  unfold oA
  refine ⟨fun hc=>(by cases hc),fun _=>⟨v,ha.size,aj q3,?_⟩⟩
  have e:pR a w x=lim (dia (fx w.toNat x (tre a))):=by unfold pR;rw [if_neg h,if_neg (by omega)]
  obtain ⟨ka,ea,la⟩:=Em h0
  have ld:F.le (bF F7 b6):=dY l7 f6
  have hd:=ha.le ld
  rw [ea] at hd
  have hw:((w.toNat:Nat):Int)=w:=by omega
  have hf:=vW hd ka (oZ h0) w.toNat x
  rw [hw] at hf
  refine (fb hf q6).mono ?_
  rintro _ F9 ⟨z,rfl,⟨G,hz,lG,gG⟩,l9,q9⟩
  refine ⟨_,rfl,?_⟩
  rw [e]
  refine (CA (sq (hz.beside lG gG)) q9).mono ?_
  rintro _ F10 ⟨z',rfl,⟨G',hz',lG',gG'⟩,l10,q10⟩
  exact ⟨_,_,rfl,LU hz' lG' gG' q10 rfl (l7.trans (l9.trans l10)) f6⟩
def cfg (c:Int):Cf:=fun i=>c.toNat.testBit i
theorem cV {x:Int} (h1:0≤x) (h2:x<18446744073709551616):IntKind.u64.wrap x=x:=by
 unfold IntKind.wrap
 simp only [IntKind.bits,IntKind.signed]
 simp only [Bool.false_and,Bool.false_eq_true,if_false]
 omega
theorem oX (n v:Nat):Int.fdiv (n:Int) (2 ^ v)=((n / 2 ^ v:Nat):Int):=by
 have e2:(2:Int) ^ v=((2 ^ v:Nat):Int):=by simp
 rw [e2,Int.fdiv_eq_ediv_of_nonneg _ (Int.natCast_nonneg _)]
 rfl
theorem iQ (n:Nat) (h:n<18446744073709551616):(BitVec.ofInt (IntKind.u64).bits (n:Int)).toNat=n:=by
 show (BitVec.ofInt 64 (n:Int)).toNat=n
 rw [BitVec.toNat_ofInt]
 omega
theorem ux {c:Int} (h0:0≤c) (h1:c<18446744073709551616) {v:Nat} (hv:v<64):
  (IntKind.u64.wrap ((BitVec.ofInt (IntKind.u64).bits (Int.fdiv c (2 ^ (min (Int.toNat (v:Int)) (IntKind.u64).bits))) &&& BitVec.ofInt (IntKind.u64).bits (1:Int)).toNat))=(1:Int)↔cfg c v=true:=by
 obtain ⟨n,rfl⟩:=Int.eq_ofNat_of_zero_le h0
 have hm:min (Int.toNat (v:Int)) (IntKind.u64).bits=v:=by simp only [IntKind.bits,Int.toNat_natCast];omega
 rw [hm,oX,BitVec.toNat_and]
 have hle:n / 2 ^ v≤n:=Nat.div_le_self _ _
 have h1':(BitVec.ofInt (IntKind.u64).bits (1:Int)).toNat=1:=iQ 1 (by omega)
 rw [iQ _ (by omega),h1',Nat.and_one_is_mod,cV (by omega) (by omega)]
 unfold cfg
 rw [Int.toNat_natCast,Nat.testBit_eq_decide_div_mod_eq,decide_eq_true_iff]
 omega
noncomputable def jq (a:Dia) (c:Int):Bool:=open Classical in if chk a≠0 then false else (tre a).ev (cfg c)
theorem vY (ha:DV F v a) {c:Int} (h0:0≤c) (h1:c<18446744073709551616):ae prog 31 #[.agg v,.int .u64 c] F fun r F'=>r=.bool (jq a c)∧F.le F':=by
 have ha':=ha
 obtain ⟨s,rfl,hr⟩:=ha
 refine NY ?_
 unfold JU
 intro b2 hb2
 refine atI ?_
 have l2:=ac (.cells #[s.v,vi a.2] 33) hb2
 have q2:=an F b2 (.cells #[s.v,vi a.2] 33)
 generalize F.set b2 (.cells #[s.v,vi a.2] 33)=F2 at*
 refine ⟨_,rfl,aj q2,?_⟩
 refine (gy (ha'.le l2)).mono ?_
 rintro _ F3 ⟨rfl,l3⟩
 refine ⟨_,rfl,fun h=> ?_,fun h=> ?_⟩
 ·refine ⟨?_,l2.trans l3⟩
  unfold jq
  rw [if_pos h]
 ·obtain ⟨ka,ea,la⟩:=Em (by omega:chk a=0)
  have hT:=bW ka
  have hr':RdS F s 3 (aS (brs (aA (tre a)))):=by rw [ea] at hr;exact hr
  have hlen:=hr'.blen
  rw [aK] at hlen
  have hsl:=oZ (by omega:chk a=0)
  have e2:a.2=(num (aA (tre a)) (tre a):Int):=by
   conv=>lhs;rw [ea]
   rfl
  have he:jq a c=(tre a).ev (cfg c):=by unfold jq;rw [if_neg h]
  refine ⟨a.2,by rw [am (l3 _ _ q2)];rfl,?_⟩
  refine ⟨fun m i F'=>∃t',i=(num (aA (tre a)) t':Int)∧inn (aA (tre a)) t'∧m=t'.sz∧F3.le F'∧t'.ev (cfg c)=(tre a).ev (cfg c),(tre a).sz,⟨tre a,e2,bG ka,rfl,PH.le_rfl,rfl⟩,?_⟩
  rintro m i F4 ⟨t',rfl,hin,rfl,l4,hev⟩
  unfold Bi
  refine ⟨fun hlt=> ?_,fun hge=> ?_⟩
  ·cases t' with
   |leaf x=>have:=cn (aA (tre a)) x;omega
   |node w l r=>
    obtain ⟨il,ir⟩:=hT.inn_kids hin
    obtain ⟨o1,_⟩:=hT.inn_ok hin
    have hg:=df (S:=aA (tre a)) (t:=node w l r) rfl
    have hnl:=bY hin
    have hw:=qJ (n:=num (aA (tre a)) (node w l r)) (by omega) hg
    obtain ⟨p,hp,hrow,_⟩:=rdb (hr'.le (l2.trans (l3.trans l4))) (fa (eF (bZ hin rfl) rfl))
    refine ⟨s,by rw [am (l4 _ _ (l3 _ _ q2))];rfl,p,hp,by rw [hw];omega,by rw [hw];omega,aO (br (aA (tre a)) (node w l r)),rfl,by rw [hw];exact hrow,?_⟩
    intro b6 hb6
    refine atI ?_
    refine stW (an _ _ _) rfl rfl (eE _) ?_
    rw [aP]
    have l6:=l4.trans (ac (.cells (aO (br (aA (tre a)) (node w l r))) 103) hb6)
    refine ⟨(w:Int),by rw [am (an _ _ _)];rfl,by omega,fun hb=> ?_,fun hb=> ?_⟩
    ·have hb':=(ux h0 h1 o1).1 hb
     refine ⟨_,by rw [am (an _ _ _)];rfl,r.sz,by simp only [sz];omega,r,rfl,ir,rfl,l6,?_⟩
     rw [← hev]
     simp [Tr.ev,hb']
    ·have hb':¬cfg c w=true:=fun hc=>hb ((ux h0 h1 o1).2 hc)
     refine ⟨_,by rw [am (an _ _ _)];rfl,l.sz,by simp only [sz];omega,l,rfl,il,rfl,l6,?_⟩
     rw [← hev]
     simp [Tr.ev,hb']
  ·unfold Bh
   refine ⟨?_,l2.trans (l3.trans l4)⟩
   rw [he,← hev]
   cases t' with
   |leaf x=>cases x<;>simp [num,Tr.ev]
   |node w l r=>have:=df (S:=aA (tre a)) (t:=node w l r) rfl;omega
end
variable {R:VR} {F:PH}
set_option maxRecDepth 10000
set_option maxHeartbeats 4000000
def IP (n_4:Int) (R:VR) (F:PH):Prop:=
 R (.tuple #[(.int .u64 n_4),(.bool true)]) F
def Cw (N1:Int→Int→PH→Prop) (a_0:Sl) (R:VR) (n_4_1 v_16:Int) (F:PH):Prop:=
 (Bc (v_16<(a_0.len:Int)) (
  Ix a_0 v_16 fun a22_=>
  ∃v_23,F.cell (Addr.add a22_ (Int.toNat v_16*1))=some (.int .u32 v_23)∧
  0≤(IntKind.i64.wrap (32*v_16))∧N1 (IntKind.u64.wrap ((BitVec.ofInt (IntKind.u64).bits n_4_1 ||| BitVec.ofInt (IntKind.u64).bits (IntKind.u64.wrap ((IntKind.u64.wrap v_23)*2 ^ (min (Int.toNat (IntKind.i64.wrap (32*v_16))) (IntKind.u64).bits)))).toNat)) (IntKind.i64.wrap (v_16+1)) F) (
  IP n_4_1 R F))
def LM (a_0:Sl) (R:VR) (F:PH):Prop:=
 Cbo 105 #[(Sl.v a_0)] F fun v_7 F=>
 (Bb ((!v_7)) (
  R (.tuple #[(.int .u64 0),(.bool false)]) F) (
  (Bc ((2:Int)<(a_0.len:Int)) (
   R (.tuple #[(.int .u64 0),(.bool false)]) F) (
   (∃(I1:Nat→Int→Int→PH→Prop) (m1:Nat),I1 m1 0 0 F∧∀m1 n_4_1 v_16 F,I1 m1 n_4_1 v_16 F→
    Cw (nx2 I1 m1) a_0 R n_4_1 v_16 F)))))
theorem Ow {a_0:Sl} (h:LM a_0 R F):ae prog 33 #[(Sl.v a_0)] F R:=Rx.sxC (args:=[(Sl.v a_0)]) (.T .N (.T .N (.T .N (.J false [(4,.int .u64)] (.T .N (.L [(4,.int .u64),(16,.int .i64)] .N)) .N)))) (by kernel_rfl) h
def FW (n_0:Int) (R:VR) (F:PH):Prop:=
 Nb F (.cells #[(.int .u32 (IntKind.u32.wrap n_0)),(.int .u32 (IntKind.u32.wrap (Int.fdiv n_0 (2 ^ (min (Int.toNat 32) (IntKind.u64).bits)))))] 171) fun b11 F=>
 ae prog 168 #[(Sl.v (Sb b11 2))] F fun v F=>∃v_12,∃v_12_1,v=(.tuple #[(Sl.v v_12),(.int .i64 v_12_1)])∧
 R (Sl.v v_12) F
theorem LN {n_0:Int} (h:FW n_0 R F):ae prog 100 #[(.int .u64 n_0)] F R:=Rx.sxC (args:=[(.int .u64 n_0)]) .N (by kernel_rfl) h
def xT (a_0_1 v_27:Sl) (carry_7:Int) (R:VR) (F:PH):Prop:=
 Ix v_27 (a_0_1.len:Int) fun a67_=>
 sto F (Addr.add a67_ (Int.toNat (a_0_1.len:Int)*1)) (.int .u32 (IntKind.u32.wrap carry_7)) fun F=>
 ae prog 168 #[(Sl.v v_27)] F fun v F=>∃v_69,∃v_69_1,v=(.tuple #[(Sl.v v_69),(.int .i64 v_69_1)])∧
 R (.tuple #[(Sl.v v_69),(.int .i64 v_69_1)]) F
def mD (N1:Int→Int→PH→Prop) (a_0_1 b_1_1 v_27:Sl) (v_33 carry_7_2:Int) (R:VR) (F:PH):Prop:=
 Ix v_27 v_33 fun a58_=>
 sto F (Addr.add a58_ (Int.toNat v_33*1)) (.int .u32 (IntKind.u32.wrap carry_7_2)) fun F=>
 N1 (Int.fdiv carry_7_2 (2 ^ (min (Int.toNat 32) (IntKind.u64).bits))) (IntKind.i64.wrap (v_33+1)) F
def sk (N1:Int→Int→PH→Prop) (a_0_1 b_1_1 v_27:Sl) (R:VR) (carry_7_1 v_33:Int) (F:PH):Prop:=
 (Bc (v_33<(a_0_1.len:Int)) (
  Ix v_27 v_33 fun a39_=>
  ∃v_40,F.cell (Addr.add a39_ (Int.toNat v_33*1))=some (.int .u32 v_40)∧
  (Bc (v_33<(b_1_1.len:Int)) (
   Ix b_1_1 v_33 fun a50_=>
   ∃v_51,F.cell (Addr.add a50_ (Int.toNat v_33*1))=some (.int .u32 v_51)∧
   mD N1 a_0_1 b_1_1 v_27 v_33 (IntKind.u64.wrap ((IntKind.u64.wrap (carry_7_1+(IntKind.u64.wrap v_40)))+(IntKind.u64.wrap v_51))) R F) (
   mD N1 a_0_1 b_1_1 v_27 v_33 (IntKind.u64.wrap (carry_7_1+(IntKind.u64.wrap v_40))) R F))) (
  xT a_0_1 v_27 carry_7_1 R F))
def mE (a_0_1 b_1_1:Sl) (R:VR) (F:PH):Prop:=
 aD prog (Instr.makeSlice 89 (.int .i64 (IntKind.i64.wrap ((a_0_1.len:Int)+1))) (.int .i64 (IntKind.i64.wrap ((a_0_1.len:Int)+1)))) F fun v F=>∃v_27,v=(Sl.v v_27)∧
 aD prog (Builtin.copy_ #[89,89] 3 #[(Sl.v v_27),(Sl.v a_0_1)]) F fun v F=>∃v_30,v=(.int .i64 v_30)∧
 (∃(I1:Nat→Int→Int→PH→Prop) (m1:Nat),I1 m1 0 0 F∧∀m1 carry_7_1 v_33 F,I1 m1 carry_7_1 v_33 F→
  sk (nx2 I1 m1) a_0_1 b_1_1 v_27 R carry_7_1 v_33 F)
def FX (a_0 b_1:Sl) (R:VR) (F:PH):Prop:=
 Cbo 105 #[(Sl.v a_0)] F fun v_10 F=>
 (Bb ((!v_10)) (
  R (.tuple #[(Sl.v Sl.nil),(.int .i64 1)]) F) (
  Cbo 105 #[(Sl.v b_1)] F fun v_14 F=>
  (Bb ((!v_14)) (
   R (.tuple #[(Sl.v Sl.nil),(.int .i64 1)]) F) (
   (Bc ((a_0.len:Int)<(b_1.len:Int)) (
    mE b_1 a_0 R F) (
    mE a_0 b_1 R F))))))
theorem LO {a_0:Sl} {b_1:Sl} (h:FX a_0 b_1 R F):ae prog 104 #[(Sl.v a_0),(Sl.v b_1)] F R:=Rx.sxC (args:=[(Sl.v a_0),(Sl.v b_1)]) (.T .N (.T .N (.J false [(0,.sl),(1,.sl)] .N (.T .N (.T .N (.T .N (.J false [(7,.int .u64)] (.T .N (.L [(7,.int .u64),(33,.int .i64)] (.T .N (.T .N (.T (.T .N (.T .N (.J false [(7,.int .u64)] .N .N))) .N))))) .N))))))) (by kernel_rfl) h
def FY (a_0:Sl) (R:VR) (F:PH):Prop:=
 (Bc ((a_0.len:Int)≤(1024:Int)) (
  (Bc ((a_0.len:Int)=0) (
   R (.bool true) F) (
   Ix a_0 (IntKind.i64.wrap ((a_0.len:Int) - 1)) fun a15_=>
   ∃v_16,F.cell (Addr.add a15_ (Int.toNat (IntKind.i64.wrap ((a_0.len:Int) - 1))*1))=some (.int .u32 v_16)∧
   R (.bool (decide (v_16≠0))) F))) (
  R (.bool false) F))
theorem LP {a_0:Sl} (h:FY a_0 R F):ae prog 105 #[(Sl.v a_0)] F R:=Rx.sxC (args:=[(Sl.v a_0)]) .N (by kernel_rfl) h
def mF (a_0:Sl) (n_4:Int) (R:VR) (F:PH):Prop:=
 (Bc (1024<n_4) (
  R (.tuple #[(Sl.v Sl.nil),(.int .i64 2)]) F) (
  0≤n_4∧0≤(Int.toNat n_4)∧(Int.toNat n_4)≤a_0.cap∧
  R (.tuple #[(Sl.v (Sl.cut a_0 1 0 (Int.toNat n_4) a_0.cap)),(.int .i64 0)]) F))
def xU (N1:Int→PH→Prop) (a_0:Sl) (R:VR) (n_4_1:Int) (F:PH):Prop:=
 (Bc (0<n_4_1) (
  Ix a_0 (IntKind.i64.wrap (n_4_1 - 1)) fun a13_=>
  ∃v_14,F.cell (Addr.add a13_ (Int.toNat (IntKind.i64.wrap (n_4_1 - 1))*1))=some (.int .u32 v_14)∧
  (Bc (v_14=0) (
   N1 (IntKind.i64.wrap (n_4_1 - 1)) F) (
   mF a_0 n_4_1 R F))) (
  mF a_0 n_4_1 R F))
def FZ (a_0:Sl) (R:VR) (F:PH):Prop:=
 (Lp (a_0.len:Int) F fun N n_4_1 F=>
  xU N a_0 R n_4_1 F)
theorem LQ {a_0:Sl} (h:FZ a_0 R F):ae prog 168 #[(Sl.v a_0)] F R:=Rx.sxC (args:=[(Sl.v a_0)]) (.T .N (.T .N (.J false [(4,.int .i64)] (.L [(4,.int .i64)] .N) .N))) (by kernel_rfl) h
def lv:List Nat→Nat
 |[]=>0
 |x::r=>x+4294967296*lv r
def lm (n:Nat):List Nat:=if h:n=0 then [] else n % 4294967296::lm (n / 4294967296)
termination_by n
decreasing_by exact Nat.div_lt_self (by omega) (by decide)
theorem cW:lm 0=[]:=by unfold lm;simp
theorem ie {n:Nat} (h:n≠0):lm n=n % 4294967296::lm (n / 4294967296):=by
 conv=>lhs;unfold lm
 rw [dif_neg h]
theorem xV:∀(n x:Nat),x∈lm n→x<4294967296:=by
 intro n
 induction n using Nat.strongRecOn with
 |_ n ih=>
  intro x hx
  by_cases h:n=0
  ·subst h;rw [cW] at hx;cases hx
  ·rw [ie h] at hx
   rcases List.mem_cons.1 hx with rfl|hx
   ·exact Nat.mod_lt _ (by decide)
   ·exact ih _ (Nat.div_lt_self (by omega) (by decide)) x hx
theorem xW:∀n,lv (lm n)=n:=by
 intro n
 induction n using Nat.strongRecOn with
 |_ n ih=>
  by_cases h:n=0
  ·subst h;rw [cW];rfl
  ·rw [ie h]
   simp only [lv]
   rw [ih _ (Nat.div_lt_self (by omega) (by decide))]
   exact Nat.mod_add_div n 4294967296
theorem Gg:∀(l:List Nat),(∀x∈l,x<4294967296)→(∀h:l≠[],l.getLast h≠0)→lm (lv l)=l
 |[],_,_=>cW
 |[x],h1,h2=>by
  have hx:=h1 x (by simp)
  have h0:=h2 (by simp)
  simp only [List.getLast_singleton] at h0
  have e:lv [x]=x:=by simp [lv]
  rw [e,ie h0,Nat.mod_eq_of_lt hx,Nat.div_eq_of_lt hx,cW]
 |x::y::r,h1,h2=>by
  have hx:=h1 x (by simp)
  have ih:=Gg (y::r) (fun z hz=>h1 z (by simp [List.mem_cons.1 hz])) (fun _=>by simpa using h2 (by simp))
  have hne:lv (y::r)≠0:=fun e=>by rw [e,cW] at ih;cases ih
  have e:lv (x::y::r)=x+4294967296*lv (y::r):=rfl
  rw [e,ie (by omega),Nat.add_mul_mod_self_left,Nat.mod_eq_of_lt hx,Nat.add_mul_div_left _ _ (by decide),Nat.div_eq_of_lt hx,Nat.zero_add,ih]
theorem iR (l m:List Nat):lv (l++m)=lv l+4294967296 ^ l.length*lv m:=by
 induction l with
 |nil=>simp [lv]
 |cons x l ih=>simp only [List.cons_append,lv,ih,List.length_cons,Nat.pow_succ,Nat.mul_add];rw [Nat.mul_comm (4294967296 ^ l.length) 4294967296,Nat.mul_assoc];omega
theorem uy:∀(l:List Nat),(∀x∈l,x=0)→lv l=0
 |[],_=>rfl
 |x::l,h=>by simp only [lv];rw [h x (by simp),uy l (fun y hy=>h y (by simp [hy]))]
theorem Eh {n:Nat} (h:lm n≠[]):(lm n).getLast h≠0:=by
 induction n using Nat.strongRecOn with
 |_ n ih=>
  by_cases h0:n=0
  ·subst h0;rw [cW] at h;exact absurd rfl h
  ·have e:=ie h0
   by_cases hq:n / 4294967296=0
   ·rw [hq,cW] at e
    simp only [e,List.getLast_singleton]
    have:=Nat.mod_add_div n 4294967296
    rw [hq] at this
    omega
   ·have hd:=Nat.div_lt_self (n:=n) (k:=4294967296) (by omega) (by decide)
    have hne:lm (n / 4294967296)≠[]:=by rw [ie hq];simp
    simp only [e]
    rw [List.getLast_cons hne]
    exact ih _ hd hne
abbrev dU (l:List Nat):List Value:=l.map fun (x:Nat)=>Value.int .u32 (x:Int)
theorem Ei (l:List Nat):∀v∈dU l,ak v:=by
 intro v hv
 obtain ⟨x,_,rfl⟩:=List.mem_map.1 hv
 exact gV
def NV (F:PH) (s:Sl) (n:Nat):Prop:=RdS F s 1 (dU (lm n))
theorem NV.le {F G:PH} {s:Sl} {n:Nat} (h:NV F s n) (hl:F.le G):NV G s n:=RdS.le h hl
theorem RdS.ulen {F:PH} {s:Sl} {l:List Nat} (h:RdS F s 1 (dU l)):s.len=l.length:=by have:=h.len;simp at this;omega
theorem RdS.u32 {F:PH} {s:Sl} {l:List Nat} (h:RdS F s 1 (dU l)) {i x:Nat} (hi:l[i]? =some x):∃a,s.base=some a∧F.cell (a.add (Int.toNat (i:Int)*1))=some (.int .u32 (x:Int)):=by
 obtain ⟨hlt,hx⟩:=List.getElem?_eq_some_iff.1 hi
 subst hx
 have hl:=h.ulen
 obtain ⟨b,o,h1,h2⟩:=h.cells (by omega)
 refine ⟨_,h1,?_⟩
 have:=h2 i (by simpa using hlt)
 simpa using this
section
variable {F:PH} {s:Sl} {l:List Nat}
theorem qU (hr:RdS F s 1 (dU l)) (hl:l.length≤1024) (hb:∀x∈l,x<4294967296):ae prog 168 #[s.v] F fun r F'=>∃s',r=.tuple #[s'.v,vi 0]∧NV F' s' (lv l)∧F'=F:=by
 have hlen:=hr.ulen
 refine LQ ?_
 unfold FZ
 refine ⟨fun m i F'=>∃k:Nat,i=k∧k≤l.length∧m=k∧F'=F∧∀x∈l.drop k,x=0,l.length,⟨l.length,by rw [hlen],Nat.le_refl _,rfl,rfl,by simp⟩,?_⟩
 rintro m i F' ⟨k,rfl,hk,hm,rfl,hz⟩
 have fin:(∀h:l.take k≠[],(l.take k).getLast h≠0)→mF s k (fun r F''=>∃s',r=.tuple #[s'.v,vi 0]∧NV F'' s' (lv l)∧F''=F') F':=fun hlast=>by
  unfold mF
  refine ⟨fun h=>by omega,fun _=>⟨by omega,by omega,?_,_,rfl,?_,rfl⟩⟩
  ·have:=hr.cap;simp only [Int.toNat_natCast];omega
  ·have hcut:=hr.cut (l:=0) (r:=k) (m:=s.cap) (by omega) (by omega) (by have:=hr.cap;omega)
   have e:lv l=lv (l.take k):=by
    conv=>lhs;rw [← List.take_append_drop k l]
    rw [iR,uy _ hz];simp
   unfold NV
   rw [e,Gg _ (fun x hx=>hb x (List.mem_of_mem_take hx)) hlast]
   simp only [Int.toNat_natCast]
   have e2:((dU l).drop (0*1)).take ((k - 0)*1)=dU (l.take k):=by simp [dU,List.map_take]
   rw [e2] at hcut
   exact hcut
 unfold xU
 refine ⟨fun h=> ?_,fun h=> ?_⟩
 ·have hk1:k - 1<l.length:=by omega
  have hw:IntKind.i64.wrap ((k:Int) - 1)=((k - 1:Nat):Int):=by rw [aJ (by omega) (by omega)];omega
  obtain ⟨a,ha,hc⟩:=hr.u32 (List.getElem?_eq_getElem hk1)
  rw [hw]
  refine ⟨a,ha,by omega,by omega,_,hc,fun h0=> ?_,fun h0=> ?_⟩
  ·refine ⟨k - 1,by omega,k - 1,rfl,by omega,rfl,rfl,fun x hx=> ?_⟩
   rw [List.drop_eq_getElem_cons hk1] at hx
   rcases List.mem_cons.1 hx with rfl|hx
   ·omega
   ·rw [show k - 1+1=k by omega] at hx
    exact hz x hx
  ·refine fin fun hne=> ?_
   have e:(l.take k).getLast hne=l[k - 1]:=by
    rw [List.getLast_eq_getElem]
    simp only [List.length_take,List.getElem_take]
    congr 1
    omega
   rw [e]
   omega
 ·obtain rfl:k=0:=by omega
  exact fin fun hne=>absurd (by simp) hne
theorem jr {n:Nat} (hr:NV F s n) (hl:(lm n).length≤1000):ae prog 105 #[s.v] F fun r F'=>r=.bool true∧F'=F:=by
 have hlen:=RdS.ulen hr
 refine LP ?_
 unfold FY
 refine ⟨fun _=>⟨fun _=>⟨rfl,rfl⟩,fun h=> ?_⟩,fun h=>by omega⟩
 have hne:lm n≠[]:=fun e=>by rw [e] at hlen;simp at hlen;omega
 have hlast:=Eh hne
 rw [List.getLast_eq_getElem] at hlast
 have hk:(lm n).length - 1<(lm n).length:=by have:=List.length_pos_iff.2 hne;omega
 have hw:IntKind.i64.wrap ((s.len:Int) - 1)=(((lm n).length - 1:Nat):Int):=by rw [hlen,aJ (by omega) (by omega)];omega
 obtain ⟨a,ha,hc⟩:=RdS.u32 hr (List.getElem?_eq_getElem hk)
 rw [hw]
 refine ⟨a,ha,by omega,by omega,_,hc,?_,rfl⟩
 rw [decide_eq_true]
 omega
theorem Ej {n:Nat} (hn:n<18446744073709551616):ae prog 100 #[.int .u64 (n:Int)] F fun r F'=>∃s',r=s'.v∧NV F' s' n∧F.le F':=by
 refine LN ?_
 unfold FW
 intro b11 hb11
 refine atI ?_
 have hd:Int.fdiv (n:Int) (2 ^ (min (Int.toNat (32:Int)) (IntKind.u64).bits))=((n / 4294967296:Nat):Int):=oX n 32
 have wu:∀m:Nat,IntKind.u32.wrap (m:Int)=((m % 4294967296:Nat):Int):=fun m=>by
  unfold IntKind.wrap
  simp only [IntKind.bits,IntKind.signed,Bool.false_and,Bool.false_eq_true,if_false]
  omega
 rw [hd,wu,wu]
 have hle:=ac (.cells #[Value.int .u32 ((n % 4294967296:Nat):Int),Value.int .u32 ((n / 4294967296 % 4294967296:Nat):Int)] 171) hb11
 have h11:=an F b11 (.cells #[Value.int .u32 ((n % 4294967296:Nat):Int),Value.int .u32 ((n / 4294967296 % 4294967296:Nat):Int)] 171)
 generalize F.set b11 (.cells #[Value.int .u32 ((n % 4294967296:Nat):Int),Value.int .u32 ((n / 4294967296 % 4294967296:Nat):Int)] 171)=G at*
 refine (qU (F:=G) (l:=[n % 4294967296,n / 4294967296 % 4294967296]) (RdS.new h11 rfl rfl (Nat.le_refl _)) (by simp) (fun x hx=> ?_)).mono ?_
 ·simp only [List.mem_cons,List.not_mem_nil,or_false] at hx
  rcases hx with rfl|rfl<;>exact Nat.mod_lt _ (by decide)
 rintro _ F' ⟨s',rfl,h,rfl⟩
 refine ⟨_,_,rfl,_,rfl,?_,hle⟩
 have e:lv [n % 4294967296,n / 4294967296 % 4294967296]=n:=by
  simp only [lv]
  have h1:=Nat.mod_add_div n 4294967296
  have h2:n / 4294967296 % 4294967296=n / 4294967296:=Nat.mod_eq_of_lt (Nat.div_lt_of_lt_mul hn)
  rw [h2]
  omega
 rw [e] at h
 exact h
end
end Go.Proofs.YtenpmjhnhepfdaaGreatDoor
