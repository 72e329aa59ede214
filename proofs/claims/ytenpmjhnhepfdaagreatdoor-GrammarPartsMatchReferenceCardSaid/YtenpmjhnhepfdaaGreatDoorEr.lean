/-
  The diagrams: Least.
-/
import Derived.Test.YtenpmjhnhepfdaaGreatDoorEk
import Derived.Test.YtenpmjhnhepfdaaGreatDoorPhp
import Derived.Test.YtenpmjhnhepfdaaGreatDoorEa
namespace Go.Proofs.YtenpmjhnhepfdaaGreatDoor
open Go Go.Proofs.Tryz Tr
set_option maxRecDepth 10000
theorem qz (c:Cf) {v w:Nat} (h:v≠w) (b:Bool):(c.set w b) v=c v:=by simp [Cf.set,h]
theorem FF (w:Nat) (b:Bool):∀(t:Tr),t.ok->∃u:Tr,u.ok/\t.top<=u.top/\∀c,u.ev c=t.ev (c.set w b)
 |leaf x,_=>⟨leaf x,trivial,Nat.le_refl _,fun _=>rfl⟩
 |node v l h,⟨h0,h1,h2,h3,h4,h5⟩=>by
  obtain ⟨ul,l1,l2,l3⟩:=FF w b l h4
  obtain ⟨uh,g1,g2,g3⟩:=FF w b h h5
  by_cases hv:v=w
  ·subst hv
   cases b with
   |true=>exact ⟨uh,g1,by show v<=uh.top;omega,fun c=>by rw [g3];simp [Tr.ev,Cf.set]⟩
   |false=>exact ⟨ul,l1,by show v<=ul.top;omega,fun c=>by rw [l3];simp [Tr.ev,Cf.set]⟩
  ·refine ⟨mk v ul uh,vV h0 (by omega) (by omega) l1 g1,(show v<=(mk v ul uh).top from DI (by omega)),fun c=> ?_⟩
   rw [zC,l3,g3]
   simp only [Tr.ev,qz c hv b]
noncomputable def fx (w:Nat) (b:Bool) (t:Tr):Tr:=can fun c=>t.ev (c.set w b)
theorem cU (w:Nat) (b:Bool) {t:Tr} (ht:t.ok):(fx w b t).ok/\t.top<=(fx w b t).top/\∀c,(fx w b t).ev c=t.ev (c.set w b):=by
 obtain ⟨u,h1,h2,h3⟩:=FF w b t ht
 have:fx w b t=u:=iA h1 h3
 rw [this]
 exact ⟨h1,h2,h3⟩
theorem ia (w:Nat) (b x:Bool):fx w b (leaf x)=leaf x:=iA trivial fun _=>rfl
theorem nN {w:Nat} {b:Bool} {v:Nat} {l h:Tr} (hk:(node v l h).ok):fx w b (node v l h)=if v=w then (if b=true then fx w b h else fx w b l) else mk v (fx w b l) (fx w b h):=by
 obtain ⟨h0,h1,h2,h3,h4,h5⟩:=hk
 obtain ⟨l1,l2,l3⟩:=cU w b h4
 obtain ⟨g1,g2,g3⟩:=cU w b h5
 by_cases hv:v=w
 ·subst hv
  rw [if_pos rfl]
  cases b with
  |true=>exact iA g1 fun c=>by rw [if_pos rfl,g3];simp [Tr.ev,Cf.set]
  |false=>exact iA l1 fun c=>by rw [if_neg (by simp),l3];simp [Tr.ev,Cf.set]
 ·rw [if_neg hv]
  refine iA (vV h0 (by omega) (by omega) l1 g1) fun c=> ?_
  rw [zC,l3,g3]
  simp only [Tr.ev,qz c hv b]
theorem BD.pin {F0 F:PH} {b m x:Nat} {c:Array Value} {e:TypeId} {fr:Nat×Nat} {S:List Tr} (h:BD F0 F b m S) (hx:F x=some (.cells c e fr)) (h1:e≠228) (h2:e≠103):BD (F0.set x (.cells c e fr)) F b m S:=by
 obtain ⟨k1,k2,k3,k4,⟨s,k5,k6,k7⟩,o',k8,k9⟩:=h
 refine ⟨fun y oy hy=> ?_,k2,?_,?_,⟨s,k5,k6,fun a ha=> ?_⟩,o',k8,k9⟩
 ·by_cases hyx:y=x
  ·subst hyx;rw [an] at hy;rw [hx];exact hy
  ·rw [az _ _ hyx] at hy;exact k1 _ _ hy
 ·rw [az _ _ (fun e'=>by rw [e',hx] at k5;simp at k5;exact h1 k5.2.1)];exact k3
 ·rw [az _ _ (fun e'=>by
   obtain ⟨es,cl,L,rfl,_⟩:=k9
   rw [e',hx] at k8;simp at k8)];exact k4
 ·obtain ⟨cur,hcur⟩:=k6.elem ha
  rw [az _ _ (fun e'=>by rw [e',hx] at hcur;simp at hcur;exact h2 hcur.2.1)]
  exact k7 a ha
theorem BD.setCells {F0 F:PH} {b m x:Nat} {c:Array Value} {e:TypeId} {fr:Nat×Nat} {o:Obj} {S:List Tr} (h:BD F0 F b m S) (h0:F0 x=none) (hx:F x=some (.cells c e fr)) (h1:e≠228) (h2:e≠103):BD F0 (F.set x o) b m S:=by
 obtain ⟨k1,k2,k3,k4,⟨s,k5,k6,k7⟩,o',k8,k9⟩:=h
 refine ⟨aw k1 h0,k2,k3,k4,⟨s,?_,k6.keep fun a ha=>az _ _ (fun e'=> ?_),k7⟩,o',?_,k9⟩
 ·rw [az _ _ (fun e'=>by rw [e',hx] at k5;simp at k5;exact h1 k5.2.1)];exact k5
 ·obtain ⟨cur,hcur⟩:=k6.elem ha
  rw [e',hx] at hcur;simp at hcur;exact h2 hcur.2.1
 ·rw [az _ _ (fun e'=>by
   obtain ⟨es,cl,L,rfl,_⟩:=k9
   rw [e',hx] at k8;simp at k8)];exact k8
noncomputable def fxA (w:Nat) (b:Bool) (T S:List Tr) (k:Nat):List Value:=(List.range (T.length+2)).map fun j=>if j<k+2 then vi (num S (fx w b (tr T j))) else vi 0
theorem uB {w:Nat} {b:Bool} {T S:List Tr} {k j:Nat} (h:j<k+2) (hk:k<=T.length):(fxA w b T S k)[j]? =some (vi (num S (fx w b (tr T j)))):=by
 unfold fxA
 rw [List.getElem?_map,List.getElem?_range (by omega)]
 simp [h]
theorem FG (w:Nat) (b:Bool) (T:List Tr):(List.replicate (T.length+2) (vi 0)).set 1 (vi 1)=fxA w b T [] 0:=by
 apply List.ext_getElem?
 intro j
 unfold fxA
 rw [List.getElem?_map,List.getElem?_set]
 have h0:tr T 0=leaf false:=rfl
 have h1:tr T 1=leaf true:=rfl
 by_cases hj:j<T.length+2
 ·rw [List.getElem?_range hj]
  simp only [Option.map_some,List.length_replicate,List.getElem?_replicate]
  match j,hj with
  |0,_=>simp [h0,ia,num]
  |1,_=>simp [h1,ia,num]
  |j+2,hj=>rw [if_neg (by omega),if_pos hj,if_neg (by omega)]
 ·have e2:(List.range (T.length+2))[j]? =none:=by simp;omega
  rw [e2]
  simp only [List.getElem?_replicate,Option.map_none]
  rw [if_neg (by omega),if_neg (by omega)]
theorem FH {w:Nat} {b:Bool} {T S S':List Tr} {k:Nat} (hk:k<T.length) (hn:∀j,j<k+2->num S' (fx w b (tr T j))=num S (fx w b (tr T j))):
  (fxA w b T S k).set (k+2) (vi (num S' (fx w b (tr T (k+2)))))=fxA w b T S' (k+1):=by
 apply List.ext_getElem?
 intro j
 unfold fxA
 rw [List.getElem?_set,List.getElem?_map,List.getElem?_map]
 by_cases hj:j<T.length+2
 ·rw [List.getElem?_range hj]
  simp only [Option.map_some,List.length_map,List.length_range]
  by_cases h1:k+2=j
  ·subst h1
   simp
   omega
  ·rw [if_neg h1]
   by_cases h2:j<k+2
   ·rw [if_pos h2,if_pos (by omega),hn j h2]
   ·rw [if_neg h2,if_neg (by omega)]
 ·have e2:(List.range (T.length+2))[j]? =none:=by simp;omega
  rw [e2]
  simp only [Option.map_none]
  rw [if_neg (by omega)]
section
variable {F:PH} {v:Array Value} {t:Tr}
theorem yC (hd:DV F v (dia t)) (ht:t.ok) (hl:(aH t).length<=4096) (w:Nat) (x:Bool):ae prog 161 #[.agg v,vi w,.bool x] F fun r F'=>∃u,r=.agg u/\DV F' u (dia (fx w x t))/\F.le F':=by
 have hT:=cx ht
 obtain ⟨s,rfl,hr⟩:=hd
 have hr':RdS F s 3 (aS (brs (aH t))):=hr
 have hlen:=hr'.blen
 rw [aO] at hlen
 refine OQ ?_
 unfold JM
 intro b3 hb3
 refine atI ?_
 have l3:=ac (.cells #[s.v,vi (dia t).2] 33) hb3
 have q3:=an F b3 (.cells #[s.v,vi (dia t).2] 33)
 generalize F.set b3 (.cells #[s.v,vi (dia t).2] 33)=F3 at*
 intro b6 hb6
 refine atI ?_
 have f6:F b6=none:=aV l3 hb6
 have lx:=ac (.cells #[Value.slice none 0 0,Value.int .i64 0] 33) hb6
 have q6:=an F3 b6 (.cells #[Value.slice none 0 0,Value.int .i64 0] 33)
 replace q3:=lx _ _ q3
 have l6:=l3.trans lx
 clear lx
 generalize F3.set b6 (.cells #[Value.slice none 0 0,Value.int .i64 0] 33)=E at*
 refine (nf E).mono ?_
 rintro _ G ⟨bb,mm,rfl,hne,bd⟩
 have hw2:IntKind.i64.wrap ((s.len:Int)+2)=(((aH t).length+2:Nat):Int):=by rw [hlen,aN (by omega) (by omega)];omega
 refine ⟨_,rfl,s,by rw [am (bd.le _ _ q3)];rfl,?_⟩
 dsimp only
 rw [hw2]
 refine bU underlying70 sz3 zr3 rfl (by omega) (Int.le_refl _) (by omega) (by omega) ?_
 intro g hg
 rw [zc1 _ rfl,Int.toNat_natCast]
 have Eg:E g=none:=aV bd.le hg
 refine ⟨_,rfl,_,rfl,by omega,by simp only;omega,?_⟩
 refine oY (b:=g) (o:=1) (by simp) (an _ _ _) (by simp) ?_
 rw [aR,List.setIfInBounds_toArray]
 rw [FG w x (aH t)]
 have bd1:=(bd.upto (ac (.cells (fxA w x (aH t) [] 0).toArray 3) hg))
 have qg:=an G g (.cells (fxA w x (aH t) [] 0).toArray 3)
 generalize G.set g (.cells (fxA w x (aH t) [] 0).toArray 3)=G1 at*
 refine ⟨s,by rw [am (bd1.le _ _ q3)];rfl,?_⟩
 refine ⟨fun m i F'=>∃(k:Nat) (S:List Tr),i=k/\k<=(aH t).length/\m=(aH t).length - k/\BD E F' bb mm S/\S.length<=k/\(∀j,j<k+2->inn S (fx w x (tr (aH t) j)))/\F' g=some (.cells (fxA w x (aH t) S k).toArray 3),(aH t).length,
  ⟨0,[],rfl,by omega,rfl,bd1,by simp,fun j hj=> ?_,qg⟩,?_⟩
 ·match j,hj with
  |0,_=>show inn [] (fx w x (leaf false));rw [ia];exact d3 _ _
  |1,_=>show inn [] (fx w x (leaf true));rw [ia];exact d3 _ _
 rintro m i F1 ⟨k,S,rfl,hk,rfl,hbd,hSk,hin,hg1⟩
 unfold zX
 refine ⟨fun hlt=> ?_,fun hge=> ?_⟩
 ·have hkT:k<(aH t).length:=by omega
  obtain ⟨hck,vv,lo',hi',hget,hlo,hhi,hok,_⟩:=yF hT k hkT
  have hlo2:=cY hlo
  have hhi2:=cY hhi
  rw [<- kY hlo,List.length_take] at hlo2
  rw [<- kY hhi,List.length_take] at hhi2
  have inl:inn (aH t) lo':=by rw [<- List.take_append_drop k (aH t)];exact bC hlo
  have inh:inn (aH t) hi':=by rw [<- List.take_append_drop k (aH t)];exact bC hhi
  obtain ⟨a,ha,hrow,_⟩:=rdb (hr'.le (l6.trans hbd.le)) (gL hget)
  refine ⟨a,ha,by omega,hlt,aQ (br (aH t) (node vv lo' hi')),rfl,by simpa using hrow,?_⟩
  intro b10 hb10
  refine atI ?_
  refine stW (an _ _ _) rfl rfl (fR _) ?_
  rw [aR]
  have hE10:E b10=none:=aV hbd.le hb10
  have bd2:=(hbd.grow (F:=F1.set b10 (.cells (aQ (br (aH t) (node vv lo' hi'))) 103)) (ac _ hb10) hb10 (an _ _ _))
  have n10:g≠b10:=aG hb10 hg1
  have qg2:(F1.set b10 (.cells (aQ (br (aH t) (node vv lo' hi'))) 103)) g=some (.cells (fxA w x (aH t) S k).toArray 3):=by rw [az _ _ n10];exact hg1
  have c10:∀G:PH,(F1.set b10 (.cells (aQ (br (aH t) (node vv lo' hi'))) 103)).le G->G b10=some (.cells (aQ (br (aH t) (node vv lo' hi'))) 103):=fun G hG=>hG _ _ (an _ _ _)
  have e10:=an E b10 (.cells (aQ (br (aH t) (node vv lo' hi'))) 103)
  have lE:E.le (E.set b10 (.cells (aQ (br (aH t) (node vv lo' hi'))) 103)):=ac _ hE10
  have Eg2:(E.set b10 (.cells (aQ (br (aH t) (node vv lo' hi'))) 103)) g=none:=by rw [az _ _ n10];exact Eg
  generalize F1.set b10 (.cells (aQ (br (aH t) (node vv lo' hi'))) 103)=F2 at*
  generalize E.set b10 (.cells (aQ (br (aH t) (node vv lo' hi'))) 103)=E2 at*
  have h10:=bd2.le _ _ e10
  have trl:=f7 hT inl
  have trh:=f7 hT inh
  have hnl:(fxA w x (aH t) S k)[num (aH t) lo']? =some (vi (num S (fx w x lo'))):=by rw [uB (by omega) (by omega),trl]
  have hnh:(fxA w x (aH t) S k)[num (aH t) hi']? =some (vi (num S (fx w x hi'))):=by rw [uB (by omega) (by omega),trh]
  have il:inn S (fx w x lo'):=by have:=hin (num (aH t) lo') (by omega);rwa [trl] at this
  have ih:inn S (fx w x hi'):=by have:=hin (num (aH t) hi') (by omega);rwa [trh] at this
  have hk2:tr (aH t) (k+2)=node vv lo' hi':=by
   unfold tr
   rw [if_neg (by omega),if_neg (by omega),Nat.add_sub_cancel,List.getD_eq_getElem?_getD,hget]
   rfl
  obtain ⟨o1,o2,o3,o4,o5,o6⟩:=hok
  obtain ⟨p1,p2,_⟩:=cU w x o5
  obtain ⟨r1,r2,_⟩:=cU w x o6
  have hfx:=nN (w:=w) (b:=x) (v:=vv) (l:=lo') (h:=hi') ⟨o1,o2,o3,o4,o5,o6⟩
  have rest:∀A B:Tr,inn S A->inn S B->vv<A.top->vv<B.top->fx w x (node vv lo' hi')=mk vv A B->∀{R:Value->PH->Prop} {N:Int->PH->Prop},
    (∀F',(∃S',BD E F' bb mm S'/\S'.length<=k+1/\(∀j,j<k+1+2->inn S' (fx w x (tr (aH t) j)))/\F' g=some (.cells (fxA w x (aH t) S' (k+1)).toArray 3))->N ((k+1:Nat):Int) F')->
    kv N w x b3 b6 (some ⟨bb,0,none⟩) ⟨some ⟨g,0,none⟩,(aH t).length+2,(aH t).length+2⟩ k b10 s (num S A) (num S B) R F2:=by
   intro A B hA hB tA tB hAB R N hN
   unfold kv
   refine ⟨_,by rw [am h10];rfl,?_⟩
   have bd3:=bd2.pin qg2 (by decide) (by decide)
   refine (xk bd3 hA hB ⟨o1,tA,tB⟩ (by omega)).mono ?_
   rintro _ F3 ⟨rfl,bd4⟩
   have qg4:=bd4.le _ _ (an E2 g (.cells (fxA w x (aH t) S k).toArray 3))
   have bd5:BD E2 F3 bb mm (dE S (mk vv A B)):=bd4.weaken (aw PH.le_rfl Eg2)
   have hw3:IntKind.i64.wrap ((k:Int)+2)=((k+2:Nat):Int):=by rw [aN (by omega) (by omega)];omega
   have hw4:IntKind.i64.wrap ((k:Int)+1)=((k+1:Nat):Int):=fd (by omega)
   rw [hw3,hw4]
   refine ⟨_,rfl,_,rfl,by omega,by simp only;omega,?_⟩
   refine oY (b:=g) (o:=k+2) (by simp;omega) qg4 (by simp [fxA];omega) ?_
   rw [List.setIfInBounds_toArray]
   have hnum:∀{u:Tr},inn S u->inn (dE S (mk vv A B)) u/\num (dE S (mk vv A B)) u=num S u:=fun {u} hu=>by
    unfold dE
    split
    ·exact ⟨hu,rfl⟩
    ·exact ⟨bC hu,bM hu⟩
   have hinT:inn (dE S (mk vv A B)) (mk vv A B):=by
    unfold dE
    split
    ·assumption
    ·exact .inr (by simp)
   have hst:=FH (w:=w) (b:=x) (T:=aH t) (S:=S) (S':=dE S (mk vv A B)) hkT (fun j hj=>(hnum (hin j hj)).2)
   rw [hk2,hfx,<- hfx,hAB] at hst
   rw [hst]
   refine hN _ ⟨_,((bd5.weaken lE).setCells Eg qg4 (by decide) (by decide)),?_,fun j hj=> ?_,an _ _ _⟩
   ·unfold dE
    split
    ·omega
    ·simp only [List.length_append,List.length_singleton];omega
   ·by_cases hj2:j<k+2
    ·exact (hnum (hin j hj2)).1
    ·obtain rfl:j=k+2:=by omega
     rw [hk2,hAB]
     exact hinT
  have done:∀F':PH,(∃S',BD E F' bb mm S'/\S'.length<=k+1/\(∀j,j<k+1+2->inn S' (fx w x (tr (aH t) j)))/\F' g=some (.cells (fxA w x (aH t) S' (k+1)).toArray 3))->
    ∃m',m'<(aH t).length - k/\∃(k':Nat) (S:List Tr),((k+1:Nat):Int)=k'/\k'<=(aH t).length/\m'=(aH t).length - k'/\BD E F' bb mm S/\S.length<=k'/\(∀j,j<k'+2->inn S (fx w x (tr (aH t) j)))/\F' g=some (.cells (fxA w x (aH t) S k').toArray 3):=fun F' ⟨S',h1,h2,h3,h4⟩=>
   ⟨(aH t).length - (k+1),by omega,k+1,S',rfl,by omega,rfl,h1,h2,h3,h4⟩
  refine ⟨_,by rw [am h10];rfl,_,rfl,by simp only [br];omega,by simp only [br];omega,vi (num S (fx w x lo')) |> fun _=>(num S (fx w x lo'):Int),by simp only [aK];rw [am qg2];simpa [br] using hnl,
   _,by rw [am h10];rfl,_,rfl,by simp only [br];omega,by simp only [br];omega,(num S (fx w x hi'):Int),by simp only [aK];rw [am qg2];simpa [br] using hnh,_,by rw [am h10];rfl,fun hv=> ?_,fun hv=> ?_⟩
  ·have hvw:vv=w:=by simp only [br] at hv;omega
   rw [if_pos hvw] at hfx
   refine ⟨fun hx=> ?_,fun hx=> ?_⟩
   ·rw [if_pos hx] at hfx
    exact rest (fx w x hi') (fx w x hi') ih ih (by omega) (by omega) (by rw [hfx];simp [mk]) done
   ·rw [if_neg (by simp [hx])] at hfx
    exact rest (fx w x lo') (fx w x lo') il il (by omega) (by omega) (by rw [hfx];simp [mk]) done
  ·have hvw:¬vv=w:=by simp only [br] at hv;omega
   rw [if_neg hvw] at hfx
   exact rest (fx w x lo') (fx w x hi') il ih (by omega) (by omega) hfx done
 ·obtain rfl:k=(aH t).length:=by omega
  unfold zW
  have hni:=ce ht
  have hnl:=cY hni
  have hct:(fxA w x (aH t) S (aH t).length)[num (aH t) t]? =some (vi (num S (fx w x t))):=by rw [uB (by omega) (by omega),f7 hT hni]
  refine ⟨(num (aH t) t:Int),by rw [am (hbd.le _ _ q3)];rfl,_,rfl,by omega,by simp only;omega,(num S (fx w x t):Int),by simp only [aK];rw [am hg1];simpa using hct,?_⟩
  have hinf:=hin (num (aH t) t) (by omega)
  rw [f7 hT hni] at hinf
  obtain ⟨_,hcl,_,_,⟨sb,hbb,hob,_⟩,_⟩:=id hbd
  have h16:=hbd.le _ _ q6
  have nbb:bb≠b6:=fun e=>by rw [e,h16] at hbb;simp at hbb
  have hob':bA (dX F1 b6) 103 3 sb (aS (brs S)):=hob.keep fun a ha=>by
   obtain ⟨cur,hcur⟩:=hob.elem ha
   refine fS (fun e=> ?_)
   rw [e,h16] at hcur
   simp at hcur
  refine (fU (kX (b:=bb) (F:=dX F1 b6) (ns:=sb) (by rw [am ((fS nbb).trans hbb)];rfl) hob'.rd hcl hinf (by omega)) h16).mono ?_
  rintro _ F2 ⟨u,rfl,⟨G',hu,lG,gG⟩,l2,q2⟩
  refine ⟨_,rfl,?_⟩
  exact gD (K:=fun vres F'=>∃w',Value.agg vres=.agg w'/\DV F' w' (dia (fx w x t))/\F.le F') hu q2 rfl ⟨_,rfl,hu.le (aw lG gG),aw (l6.trans (hbd.le.trans l2)) f6⟩
end
theorem yD {w:Nat} {b:Bool} {T:Tr} (hT:T.ok):∀(t:Tr),inn (aH T) t->∀(S:List Tr),Cl S->∀u∈vis (fx w b t) S,u∈S\/u∈(aH T).map (fx w b)
 |leaf x,_,S,_=>by
  rw [ia]
  exact fun u hu=> .inl hu
 |node v l h,ht,S,hS=>by
  have hcl:=cx hT
  have hk:=hcl.inn_ok ht
  obtain ⟨il,ih⟩:=hcl.inn_kids ht
  have hf:=nN (w:=w) (b:=b) hk
  obtain ⟨h0,h1,h2,h3,h4,h5⟩:=hk
  obtain ⟨l1,l2,l3⟩:=cU w b h4
  obtain ⟨g1,g2,g3⟩:=cU w b h5
  have vl:=yD (w:=w) (b:=b) hT l il
  have vh:=yD (w:=w) (b:=b) hT h ih
  by_cases hv:v=w
  ·rw [if_pos hv] at hf
   rw [hf]
   split
   ·exact vh S hS
   ·exact vl S hS
  ·rw [if_neg hv] at hf
   have hadd:=xj hS (v:=v) (l:=fx w b l) (h:=fx w b h) ⟨h0,by omega,by omega,l1,g1⟩
   rw [<- hf] at hadd
   rw [<- hadd]
   intro u hu
   have key:u∈vis (fx w b h) (vis (fx w b l) S)->u∈S\/u∈(aH T).map (fx w b):=fun hu=>by
    rcases vh _ (bv _ S l1 hS).1 u hu with h|h
    ·exact vl S hS u h
    ·exact .inr h
   unfold dE at hu
   split at hu
   ·exact key hu
   ·rcases List.mem_append.1 hu with hu|hu
    ·exact key hu
    ·rw [List.mem_singleton.1 hu]
     exact .inr (List.mem_map.2 ⟨_,ca ht rfl,rfl⟩)
theorem mo {w:Nat} {b:Bool} {t:Tr} (ht:t.ok):(aH (fx w b t)).length<=(aH t).length:=by
 have:=dv (aH (fx w b t)) ((aH t).map (fx w b)) (cx (cU w b ht).1).nodup fun x hx=>by
  rcases yD ht t (ce ht) [] .nil x hx with h|h
  ·cases h
  ·exact h
 simpa using this
noncomputable def rL (a:Dia) (v:Int) (b:Bool):DR:=if chk a≠0 then (i7,chk a) else if v<0\/63<v then (i7,1) else lim (dia (fx v.toNat b (tre a)))
section
variable {F:PH} {v:Array Value} {a:Dia}
theorem rM (ha:DV F v a) (w:Int) (x:Bool):ae prog 92 #[.agg v,vi w,.bool x] F fun r F'=>DRV F' r (rL a w x)/\F.le F':=by
 refine TO ?_
 unfold OM
 intro b3 hb3
 refine atI ?_
 have l3:=ac (.cells v 33) hb3
 have q3:=an F b3 (.cells v 33)
 generalize F.set b3 (.cells v 33)=F3 at*
 intro b6 hb6
 refine atI ?_
 have f6:F b6=none:=aV l3 hb6
 have lx:=ac (.cells #[Value.slice none 0 0,Value.int .i64 0] 33) hb6
 have q6:=an F3 b6 (.cells #[Value.slice none 0 0,Value.int .i64 0] 33)
 replace q3:=lx _ _ q3
 have l6:=l3.trans lx
 clear lx
 generalize F3.set b6 (.cells #[Value.slice none 0 0,Value.int .i64 0] 33)=F6 at*
 refine ⟨v,ha.size,aj q3,?_⟩
 refine (ke (ha.le l6)).mono ?_
 rintro _ F7 ⟨rfl,l7⟩
 replace q3:=l7 _ _ q3
 replace q6:=l7 _ _ q6
 replace l7:=l6.trans l7
 refine ⟨_,rfl,fun h=> ?_,fun h=> ?_⟩
 ·have e:rL a w x=(i7,chk a):=by unfold rL;rw [if_pos h]
  rw [e]
  exact yH q6 rfl l7 f6
 have h0:chk a=0:=by omega
 have bad:w<0\/63<w->py w x b3 b6 true (fun r F'=>DRV F' r (rL a w x)/\F.le F') F7:=fun hb=>by
  unfold py
  refine ⟨fun _=> ?_,fun hc=>by cases hc⟩
  have e:rL a w x=(i7,1):=by unfold rL;rw [if_neg h,if_pos hb]
  rw [e]
  exact yH q6 rfl l7 f6
 refine ⟨fun hb=>bad (.inl hb),fun hb=> ?_⟩
 by_cases hb2:63<w
 ·rw [decide_eq_true hb2]
  exact bad (.inr hb2)
 ·rw [decide_eq_false hb2]
  unfold py
  refine ⟨fun hc=>(by cases hc),fun _=>⟨v,ha.size,aj q3,?_⟩⟩
  have e:rL a w x=lim (dia (fx w.toNat x (tre a))):=by unfold rL;rw [if_neg h,if_neg (by omega)]
  obtain ⟨ka,ea,la⟩:=Nu h0
  have ld:F.le (dX F7 b6):=fz l7 f6
  have hd:=ha.le ld
  rw [ea] at hd
  have hw:((w.toNat:Nat):Int)=w:=by omega
  have hf:=yC hd ka (xg h0) w.toNat x
  rw [hw] at hf
  refine (fU hf q6).mono ?_
  rintro _ F9 ⟨z,rfl,⟨G,hz,lG,gG⟩,l9,q9⟩
  refine ⟨_,rfl,?_⟩
  rw [e]
  refine (FM (uE (hz.beside lG gG)) q9).mono ?_
  rintro _ F10 ⟨z',rfl,⟨G',hz',lG',gG'⟩,l10,q10⟩
  exact ⟨_,_,rfl,PO hz' lG' gG' q10 rfl (l7.trans (l9.trans l10)) f6⟩
def cfg (c:Int):Cf:=fun i=>c.toNat.testBit i
theorem eG {x:Int} (h1:0<=x) (h2:x<18446744073709551616):IntKind.u64.wrap x=x:=by
 unfold IntKind.wrap
 simp only [IntKind.bits,IntKind.signed]
 simp only [Bool.false_and,Bool.false_eq_true,if_false]
 omega
theorem FI (n v:Nat):Int.fdiv (n:Int) (2 ^ v)=((n / 2 ^ v:Nat):Int):=by
 have e2:(2:Int) ^ v=((2 ^ v:Nat):Int):=by simp
 rw [e2,Int.fdiv_eq_ediv_of_nonneg _ (Int.natCast_nonneg _)]
 rfl
theorem js (n:Nat) (h:n<18446744073709551616):(BitVec.ofInt (IntKind.u64).bits (n:Int)).toNat=n:=by
 show (BitVec.ofInt 64 (n:Int)).toNat=n
 rw [BitVec.toNat_ofInt]
 omega
theorem kV {c:Int} (h0:0<=c) (h1:c<18446744073709551616) {v:Nat} (hv:v<64):
  (IntKind.u64.wrap ((BitVec.ofInt (IntKind.u64).bits (Int.fdiv c (2 ^ (min (Int.toNat (v:Int)) (IntKind.u64).bits))) &&& BitVec.ofInt (IntKind.u64).bits (1:Int)).toNat))=(1:Int)↔cfg c v=true:=by
 obtain ⟨n,rfl⟩:=Int.eq_ofNat_of_zero_le h0
 have hm:min (Int.toNat (v:Int)) (IntKind.u64).bits=v:=by simp only [IntKind.bits,Int.toNat_natCast];omega
 rw [hm,FI,BitVec.toNat_and]
 have hle:n / 2 ^ v<=n:=Nat.div_le_self _ _
 have h1':(BitVec.ofInt (IntKind.u64).bits (1:Int)).toNat=1:=js 1 (by omega)
 rw [js _ (by omega),h1',Nat.and_one_is_mod,eG (by omega) (by omega)]
 unfold cfg
 rw [Int.toNat_natCast,Nat.testBit_eq_decide_div_mod_eq,decide_eq_true_iff]
 omega
noncomputable def dQ (a:Dia) (c:Int):Bool:=open Classical in if chk a≠0 then false else (tre a).ev (cfg c)
theorem qA (ha:DV F v a) {c:Int} (h0:0<=c) (h1:c<18446744073709551616):ae prog 31 #[.agg v,.int .u64 c] F fun r F'=>r=.bool (dQ a c)/\F.le F':=by
 have ha':=ha
 obtain ⟨s,rfl,hr⟩:=ha
 refine TN ?_
 unfold OL
 intro b2 hb2
 refine atI ?_
 have l2:=ac (.cells #[s.v,vi a.2] 33) hb2
 have q2:=an F b2 (.cells #[s.v,vi a.2] 33)
 generalize F.set b2 (.cells #[s.v,vi a.2] 33)=F2 at*
 refine ⟨_,rfl,aj q2,?_⟩
 refine (ke (ha'.le l2)).mono ?_
 rintro _ F3 ⟨rfl,l3⟩
 refine ⟨_,rfl,fun h=> ?_,fun h=> ?_⟩
 ·refine ⟨?_,l2.trans l3⟩
  unfold dQ
  rw [if_pos h]
 ·obtain ⟨ka,ea,la⟩:=Nu (by omega:chk a=0)
  have hT:=cx ka
  have hr':RdS F s 3 (aS (brs (aH (tre a)))):=by rw [ea] at hr;exact hr
  have hlen:=hr'.blen
  rw [aO] at hlen
  have hsl:=xg (by omega:chk a=0)
  have e2:a.2=(num (aH (tre a)) (tre a):Int):=by
   conv=>lhs;rw [ea]
   rfl
  have he:dQ a c=(tre a).ev (cfg c):=by unfold dQ;rw [if_neg h]
  refine ⟨a.2,by rw [am (l3 _ _ q2)];rfl,?_⟩
  refine ⟨fun m i F'=>∃t',i=(num (aH (tre a)) t':Int)/\inn (aH (tre a)) t'/\m=t'.sz/\F3.le F'/\t'.ev (cfg c)=(tre a).ev (cfg c),(tre a).sz,⟨tre a,e2,ce ka,rfl,PH.le_rfl,rfl⟩,?_⟩
  rintro m i F4 ⟨t',rfl,hin,rfl,l4,hev⟩
  unfold Ee
  refine ⟨fun hlt=> ?_,fun hge=> ?_⟩
  ·cases t' with
   |leaf x=>have:=cd (aH (tre a)) x;omega
   |node w l r=>
    obtain ⟨il,ir⟩:=hT.inn_kids hin
    obtain ⟨o1,_⟩:=hT.inn_ok hin
    have hg:=cZ (S:=aH (tre a)) (t:=node w l r) rfl
    have hnl:=cY hin
    have hw:=pz (n:=num (aH (tre a)) (node w l r)) (by omega) hg
    obtain ⟨p,hp,hrow,_⟩:=rdb (hr'.le (l2.trans (l3.trans l4))) (gL (eQ (ca hin rfl) rfl))
    refine ⟨s,by rw [am (l4 _ _ (l3 _ _ q2))];rfl,p,hp,by rw [hw];omega,by rw [hw];omega,aQ (br (aH (tre a)) (node w l r)),rfl,by rw [hw];exact hrow,?_⟩
    intro b6 hb6
    refine atI ?_
    refine stW (an _ _ _) rfl rfl (fR _) ?_
    rw [aR]
    have l6:=l4.trans (ac (.cells (aQ (br (aH (tre a)) (node w l r))) 103) hb6)
    refine ⟨(w:Int),by rw [am (an _ _ _)];rfl,by omega,fun hb=> ?_,fun hb=> ?_⟩
    ·have hb':=(kV h0 h1 o1).1 hb
     refine ⟨_,by rw [am (an _ _ _)];rfl,r.sz,by simp only [sz];omega,r,rfl,ir,rfl,l6,?_⟩
     rw [<- hev]
     simp [Tr.ev,hb']
    ·have hb':¬cfg c w=true:=fun hc=>hb ((kV h0 h1 o1).2 hc)
     refine ⟨_,by rw [am (an _ _ _)];rfl,l.sz,by simp only [sz];omega,l,rfl,il,rfl,l6,?_⟩
     rw [<- hev]
     simp [Tr.ev,hb']
  ·unfold Ed
   refine ⟨?_,l2.trans (l3.trans l4)⟩
   rw [he,<- hev]
   cases t' with
   |leaf x=>cases x<;>simp [num,Tr.ev]
   |node w l r=>have:=cZ (S:=aH (tre a)) (t:=node w l r) rfl;omega
end
variable {R:VR} {F:PH}
set_option maxRecDepth 10000
set_option maxHeartbeats 4000000
def lv:List Nat->Nat
 |[]=>0
 |x::r=>x+4294967296*lv r
def lm (n:Nat):List Nat:=if h:n=0 then [] else n % 4294967296::lm (n / 4294967296)
termination_by n
decreasing_by exact Nat.div_lt_self (by omega) (by decide)
theorem IM:lm 0=[]:=by unfold lm;simp
abbrev Nq (l:List Nat):List Value:=l.map fun (x:Nat)=>Value.int .u32 (x:Int)
def NV (F:PH) (s:Sl) (n:Nat):Prop:=RdS F s 1 (Nq (lm n))
theorem NV.le {F G:PH} {s:Sl} {n:Nat} (h:NV F s n) (hl:F.le G):NV G s n:=RdS.le h hl
theorem RdS.ulen {F:PH} {s:Sl} {l:List Nat} (h:RdS F s 1 (Nq l)):s.len=l.length:=by have:=h.len;simp at this;omega
theorem RdS.u32 {F:PH} {s:Sl} {l:List Nat} (h:RdS F s 1 (Nq l)) {i x:Nat} (hi:l[i]? =some x):∃a,s.base=some a/\F.cell (a.add (Int.toNat (i:Int)*1))=some (.int .u32 (x:Int)):=by
 obtain ⟨hlt,hx⟩:=List.getElem?_eq_some_iff.1 hi
 subst hx
 have hl:=h.ulen
 obtain ⟨b,o,h1,h2⟩:=h.cells (by omega)
 refine ⟨_,h1,?_⟩
 have:=h2 i (by simpa using hlt)
 simpa using this
section
variable {F:PH} {s:Sl} {l:List Nat}
end
section
variable {F:PH} {sx sy:Sl} {lx ly:List Nat}
end
def cv (n:Nat):Tr->Prop
 |leaf _=>True
 |node v l h=>v<n/\cv n l/\cv n h
theorem mp {F G:PH} {x:Nat} (h:F.le G):(dX F x).le (dX G x):=fun y o hy=>by
 have hne:y≠x:=fun e=>by rw [e,yG] at hy;cases hy
 rw [fS hne] at hy ⊢
 exact h _ _ hy
section
variable {E F:PH} {b2 b3 b9 b10 g n:Nat} {t:Tr} {k:Nat} {Ls:List Sl}
end
theorem qB {T:List Tr} (hT:Cl T) {n:Nat} (h:∀x∈T,x.top<n):∀(t:Tr),inn T t->cv n t
 |leaf _,_=>trivial
 |node v l r,ht=>by
  obtain ⟨il,ir⟩:=hT.inn_kids ht
  exact ⟨h _ (ca ht rfl),qB hT h l il,qB hT h r ir⟩
theorem NV.nil (F:PH):NV F Sl.nil 0:=by unfold NV;rw [IM];exact RdS.nil F 1
section
variable {F:PH} {v:Array Value} {a:Dia}
end
theorem Nr {x v:Nat} (hx:x<18446744073709551616) (hv:v<64):
  (IntKind.u64.wrap ((BitVec.ofInt (IntKind.u64).bits (x:Int) ||| BitVec.ofInt (IntKind.u64).bits (IntKind.u64.wrap ((1:Int)*2 ^ (min (Int.toNat (v:Int)) (IntKind.u64).bits)))).toNat))=((x ||| 2 ^ v:Nat):Int):=by
 have hm:min (Int.toNat (v:Int)) (IntKind.u64).bits=v:=by simp only [IntKind.bits,Int.toNat_natCast];omega
 have hp:2 ^ v<2 ^ 64:=Nat.pow_lt_pow_right (by decide) hv
 have e1:(1:Int)*2 ^ v=((2 ^ v:Nat):Int):=by simp
 have ho:x ||| 2 ^ v<2 ^ 64:=Nat.or_lt_two_pow (by omega) hp
 rw [hm,e1]
 generalize 2 ^ v=w at*
 rw [eG (x:=(w:Int)) (by omega) (by omega),BitVec.toNat_or,js _ hx,js _ (by omega),eG (by omega) (by omega)]
theorem xd {S:List Tr} {t:Tr}:num S t=0↔t=leaf false:=by
 cases t with
 |leaf b=>cases b<;>simp [num]
 |node v l h=>
  have:=cZ (S:=S) (t:=node v l h) rfl;constructor
  ·intro h;omega
  ·intro h;cases h
section
variable {F:PH} {v:Array Value} {a:Dia}
end
end Go.Proofs.YtenpmjhnhepfdaaGreatDoor
