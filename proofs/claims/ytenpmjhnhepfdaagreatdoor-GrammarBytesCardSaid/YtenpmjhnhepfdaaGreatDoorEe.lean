/-
  The diagrams: the canonical diagram of a number of a builder.
-/
import Derived.Test.YtenpmjhnhepfdaaGreatDoorEb
namespace Go.Proofs.YtenpmjhnhepfdaaGreatDoor
open Go Go.Proofs.Tryz Tr
set_option maxRecDepth 10000
theorem wC {F:PH} {a b:Sl} {x y:List Br} (ha:RdS F a 3 (aT x)) (hb:RdS F b 3 (aT y)) (hl:Fit x.length):
  ac prog 98 #[a.v,b.v] F fun v F'=>v=.bool (decide (x=y))∧F'=F:=by
 have hal:=ha.blen
 have hbl:=hb.blen
 refine Qh ?_
 unfold Mw
 refine ⟨fun h=> ?_,fun h=> ?_⟩
 ·refine ⟨?_,rfl⟩
  have:¬x=y:=by intro e;subst e;omega
  simp [this]
 ·have hlen:x.length=y.length:=by omega
  refine ⟨fun m i F'=>∃k:Nat,i=k∧k≤x.length∧m=x.length - k∧F'=F∧x.take k=y.take k,x.length,⟨0,rfl,by omega,rfl,rfl,rfl⟩,?_⟩
  rintro m i F' ⟨k,rfl,hk,rfl,rfl,htake⟩
  unfold C7
  refine ⟨fun hlt=> ?_,fun hge=> ?_⟩
  ·have hkx:k<x.length:=by omega
   have hky:k<y.length:=by omega
   obtain ⟨p,hp,hpr,_⟩:=rdb ha (List.getElem?_eq_getElem hkx)
   obtain ⟨q,hq,hqr,_⟩:=rdb hb (List.getElem?_eq_getElem hky)
   refine ⟨p,hp,by omega,hlt,aP x[k],rfl,by simpa using hpr,q,hq,by omega,by omega,aP y[k],rfl,by simpa using hqr,decide (x[k]=y[k]),fun F=>CQ x[k] y[k] F,fun hne=> ?_,fun heq=> ?_⟩
   ·refine ⟨?_,rfl⟩
    have:¬x=y:=by rintro rfl;simp at hne
    simp [this]
   ·refine ⟨x.length - (k+1),by omega,k+1,i6 (by omega),by omega,rfl,rfl,?_⟩
    rw [List.take_succ_eq_append_getElem hkx,List.take_succ_eq_append_getElem hky,htake]
    simp at heq
    rw [heq]
  ·refine ⟨?_,rfl⟩
   have hk':k=x.length:=by omega
   rw [hk',List.take_length,hlen,List.take_length] at htake
   simp [htake]
theorem rk {F:PH} {v w:Array Value} {d e:Dia} (hd:DV F v d) (he:DV F w e) (hl:Fit d.1.length):
  ac prog 29 #[.agg v,.agg w] F fun r F'=>r=.bool (decide (d=e))∧F.le F':=by
 obtain ⟨s,rfl,hr⟩:=hd
 obtain ⟨t,rfl,ht⟩:=he
 refine PQ ?_
 unfold Mk
 intro b2 hb2
 refine atI ?_
 have hle2:=ae (.cells #[s.v,vi d.2] 33) hb2
 intro b3 hb3
 refine atI ?_
 have hle3:=ae (.cells #[t.v,vi e.2] 33) hb3
 have hle:F.le _:=fun b o h=>hle3 b o (hle2 b o h)
 have hc2:=hle3 _ _ (an F b2 (.cells #[s.v,vi d.2] 33))
 have hc3:=an (F.set b2 (.cells #[s.v,vi d.2] 33)) b3 (.cells #[t.v,vi e.2] 33)
 generalize (F.set b2 (.cells #[s.v,vi d.2] 33)).set b3 (.cells #[t.v,vi e.2] 33)=G at*
 refine ⟨_,by rw [am hc2];rfl,_,by rw [am hc3];rfl,fun h=> ?_,fun h=> ?_⟩
 ·refine ⟨s,by rw [am hc2];rfl,t,by rw [am hc3];rfl,?_⟩
  refine (wC (hr.le hle) (ht.le hle) hl).mono ?_
  rintro _ F' ⟨rfl,rfl⟩
  refine ⟨_,rfl,?_,hle⟩
  obtain ⟨d1,d2⟩:=d
  obtain ⟨e1,e2⟩:=e
  simp only at h
  simp [h]
 ·refine ⟨?_,hle⟩
  have:¬d=e:=by rintro rfl;exact h rfl
  simp [this]
def mpS (S:List Tr) (x:Br):Option Value:=if x∈brs S then some (vi (((brs S).idxOf x+2:Nat):Int)) else none
structure BD (F0 F:PH) (b m:Nat) (S:List Tr):Prop where
 le:F0.le F
 cl:Cl S
 nb:F0 b=none
 nm:F0 m=none
 ex:∃s:Sl,F b=some (.cells #[s.v,.map (some m)] 228)∧bM F 103 3 s (aT (brs S))∧∀a,s.base=some a→F0 a.block=none
 map:∃o,F m=some o∧fU wE (mpS S) o
theorem bM.elem {F:PH} {e size:Nat} {s:Sl} {vs:List Value} (h:bM F e size s vs) {a:Addr} (ha:s.base=some a):∃cur,F a.block=some (.cells cur e (0,0)):=by
 rcases h with ⟨rfl,rfl⟩|⟨b,cur,h1,h2,_⟩
 ·cases ha
 ·rw [h1] at ha
  cases ha
  exact ⟨cur,h2⟩
theorem mD (F:PH):ac prog 209 #[] F fun r F'=>∃b m,r=.pointer (some ⟨b,0,none⟩)∧b≠m∧BD F F' b m []:=by
 refine Ms ?_
 unfold GE
 intro b1 hb1
 refine atI ?_
 intro b3 hb3
 refine atI ?_
 have hle1:=ae (.map #[] 0) hb1
 have hle3:=ae (.cells #[Value.slice none 0 0,Value.map (some b1)] 228) hb3
 have hne:b3≠b1:=fun e=>by rw [e,an] at hb3;cases hb3
 refine ⟨b3,b1,rfl,hne,fun b o h=>hle3 b o (hle1 b o h),.nil,aU hle1 hb3,hb1,⟨Sl.nil,an _ _ _,.inl ⟨rfl,rfl⟩,fun a ha=>by cases ha⟩,_,hle3 _ _ (an _ _ _),?_⟩
 have:mpS []=fun _=>none:=by
  funext x
  simp [mpS,brs]
 rw [this]
 exact fU.empty wE
instance (S:List Tr) (t:Tr):Decidable (inn S t):=inferInstanceAs (Decidable (t.isL=true∨t∈S))
def de (S:List Tr) (t:Tr):List Tr:=if inn S t then S else S++[t]
theorem uO {S:List Tr} (hS:Cl S) {v:Nat} {l h:Tr} (hk:v<64∧v<l.top∧v<h.top∧l.ok∧h.ok):de (vis h (vis l S)) (mk v l h)=vis (mk v l h) S:=by
 obtain ⟨h0,h1,h2,h3,h4⟩:=hk
 obtain ⟨a1,a2,X,a3,a4⟩:=bq l S h3 hS
 obtain ⟨b1,b2,Y,b3,b4⟩:=bq h (vis l S) h4 a1
 unfold mk
 split
 ·rename_i e
  subst e
  rw [iK a2]
  unfold de
  rw [if_pos a2]
 ·rename_i e
  conv=>rhs;unfold vis
  unfold de
  by_cases hm:node v l h∈S
  ·have hl:=(hS.inn_kids (.inr hm)).1
   have hh:=(hS.inn_kids (.inr hm)).2
   rw [if_pos hm,iK hl,iK hh,if_pos (.inr hm)]
  ·rw [if_neg hm,if_neg]
   rintro (hc|hc)
   ·cases hc
   ·rw [b3,a3] at hc
    rcases List.mem_append.1 hc with hc|hc
    ·rcases List.mem_append.1 hc with hc|hc
     ·exact hm hc
     ·have:=a4 _ hc;simp only [sz] at this;omega
    ·have:=b4 _ hc;simp only [sz] at this;omega
theorem rm {α β:Type} [DecidableEq α] [DecidableEq β] (f:α→β) (x:α):∀(l:List α),x∈l→(∀y∈l,f y=f x→y=x)→(l.map f).idxOf (f x)=l.idxOf x
 |[],h,_=>by cases h
 |a::l,h,hi=>by
  simp only [List.map_cons,List.idxOf_cons]
  by_cases ha:a=x
  ·subst ha
   simp
  ·have h1:¬f a=f x:=fun e=>ha (hi a (by simp) e)
   have h2:(a==x)=false:=by simpa using ha
   have h3:(f a==f x)=false:=by simpa using h1
   rw [h2,h3]
   simp only [cond_false]
   rw [rm f x l (by simpa [Ne.symm ha] using h) (fun y hy=>hi y (by simp [hy]))]
theorem gy {S:List Tr} (hS:Cl S) {v:Nat} {l h:Tr} (hl:inn S l) (hh:inn S h):br S (node v l h)∈brs S↔node v l h∈S:=by
 constructor
 ·intro hm
  obtain ⟨u,hu,he⟩:=List.mem_map.1 hm
  obtain ⟨_,v',l',h',rfl,hl',hh'⟩:=hS.mem u hu
  simp only [br,Br.mk.injEq] at he
  obtain ⟨e1,e2,e3⟩:=he
  rw [← cT hl' hl (by omega),← cT hh' hh (by omega),← show v'=v by omega]
  exact hu
 ·intro hm
  exact List.mem_map_of_mem hm
theorem Ai {S:List Tr} (hS:Cl S) {v:Nat} {l h:Tr} (hm:node v l h∈S):(brs S).idxOf (br S (node v l h))+2=num S (node v l h):=by
 unfold brs
 rw [rm _ _ _ hm (fun y hy e=>BC hS hy hm e)]
 rfl
theorem CC {S:List Tr} (hS:Cl S) {v:Nat} {l h:Tr} (hl:inn S l) (hh:inn S h) (hn:node v l h ∉ S):
  mpS (S++[node v l h])=fun x=>if x=br S (node v l h) then some (vi (((S.length+2:Nat):Int))) else mpS S x:=by
 have hb:br S (node v l h) ∉ brs S:=fun hm=>hn ((gy hS hl hh).1 hm)
 have hbr:br S (node v l h)=⟨(v:Int),(num S l:Int),(num S h:Int)⟩:=rfl
 funext x
 unfold mpS
 rw [dO hS hl hh,← hbr]
 by_cases hx:x=br S (node v l h)
 ·subst hx
  rw [if_pos rfl,if_pos (by simp),List.idxOf_append,if_neg hb]
  simp [aO]
 ·rw [if_neg hx]
  by_cases hm:x∈brs S
  ·rw [if_pos hm,if_pos (by simp [hm]),List.idxOf_append,if_pos hm]
  ·rw [if_neg hm,if_neg (by simp [hm,hx])]
section
variable {F0 F:PH} {b m:Nat} {S:List Tr}
theorem uP (hd:BD F0 F b m S) {v:Nat} {l h:Tr} (hl:inn S l) (hh:inn S h) (hv:v<64∧v<l.top∧v<h.top) (hf:Fit (S.length+2)):
  ac prog 210 #[.pointer (some ⟨b,0,none⟩),vi v,vi (num S l),vi (num S h)] F fun r F'=>r=vi (num (de S (mk v l h)) (mk v l h))∧BD F0 F' b m (de S (mk v l h)):=by
 have hd':=hd
 obtain ⟨hle,hS,hb0,hm0,⟨s,hb,ho,hs0⟩,ob,hm,hmp⟩:=hd
 refine Mt ?_
 unfold GF
 refine ⟨fun he=> ?_,fun he=> ?_⟩
 ·obtain rfl:=cT hl hh (by omega)
  have e:mk v l l=l:=by simp [mk]
  rw [e]
  have e2:de S l=S:=by unfold de;rw [if_pos hl]
  rw [e2]
  exact ⟨rfl,hd'⟩
 have hlh:l≠h:=fun e=>he (by rw [e])
 have emk:mk v l h=node v l h:=by simp [mk,hlh]
 have hok:(node v l h).ok:=⟨hv.1,hv.2.1,hv.2.2,hlh,hS.inn_ok hl,hS.inn_ok hh⟩
 rw [emk]
 intro b9 hb9
 refine atI ?_
 refine stW (an _ _ _) rfl rfl (iT ⟨v,num S l,num S h⟩) ?_
 rw [ba]
 have hle9:=ae (.cells (aP ⟨v,num S l,num S h⟩) 103) hb9
 have h9:=an F b9 (.cells (aP ⟨v,num S l,num S h⟩) 103)
 have hbr:br S (node v l h)=⟨(v:Int),(num S l:Int),(num S h:Int)⟩:=rfl
 rw [← hbr] at h9 hle9
 show ∃b0a_:Addr,_
 rw [show (#[vi v,vi (num S l),vi (num S h)]:Array Value)=aP (br S (node v l h)) from rfl]
 replace hb:=hle9 _ _ hb
 replace hm:=hle9 _ _ hm
 have hle1:F0.le (F.set b9 (.cells (aP (br S (node v l h))) 103)):=fun x o hx=>hle9 x o (hle x o hx)
 have ne9:∀a,s.base=some a→a.block≠b9:=fun a ha e=>by
  obtain ⟨cur,hcur⟩:=ho.elem ha
  rw [e,hb9] at hcur
  cases hcur
 have hbase:∀a,s.base=some a→(∃cur,(F.set b9 (.cells (aP (br S (node v l h))) 103)) a.block=some (.cells cur 103 (0,0))):=fun a ha=>by
  obtain ⟨cur,hcur⟩:=ho.elem ha
  exact ⟨cur,hle9 _ _ hcur⟩
 replace ho:bM (F.set b9 (.cells (aP (br S (node v l h))) 103)) 103 3 s (aT (brs S)):=ho.keep fun a ha=>by
  obtain ⟨cur,hcur⟩:=ho.elem ha
  rw [hcur,hle9 _ _ hcur]
 generalize F.set b9 (.cells (aP (br S (node v l h))) 103)=F1 at*
 refine ⟨_,rfl,some m,by simp only [aD];rw [am hb];rfl,aP (br S (node v l h)),rfl,ak h9,?_⟩
 have hlk:=dp (F:=F1) mtB hm hmp (br S (node v l h)) true
 by_cases hmem:node v l h∈S
 ·have hx:=(gy hS hl hh).2 hmem
  have e1:mpS S (br S (node v l h))=some (vi (num S (node v l h))):=by
   unfold mpS
   rw [if_pos hx,Ai hS hmem]
  rw [e1] at hlk
  refine ⟨_,_,hlk,fun hc=>(by cases hc),fun _=> ?_⟩
  have e2:de S (node v l h)=S:=by unfold de;rw [if_pos (.inr hmem)]
  rw [e2]
  exact ⟨rfl,hle1,hS,hb0,hm0,⟨s,hb,ho,hs0⟩,ob,hm,hmp⟩
 ·have hx:br S (node v l h) ∉ brs S:=fun hx=>hmem ((gy hS hl hh).1 hx)
  have e1:mpS S (br S (node v l h))=none:=by
   unfold mpS
   rw [if_neg hx]
  rw [e1] at hlk
  have e2:de S (node v l h)=S++[node v l h]:=by
   unfold de
   rw [if_neg]
   rintro (hc|hc)
   ·cases hc
   ·exact hmem hc
  rw [e2]
  have hS':Cl (S++[node v l h]):=.snoc hS hl hh hok hmem
  refine ⟨_,_,hlk,fun _=> ?_,fun hc=>(by cases hc)⟩
  refine ⟨s,by rw [am hb];rfl,aP (br S (node v l h)),rfl,ak h9,rfl,fun b37 hb37=> ?_⟩
  refine atI ?_
  have hle37:=ae (.cells (aP (br S (node v l h))) 103) hb37
  have h37:=an F1 b37 (.cells (aP (br S (node v l h))) 103)
  replace hb:=hle37 _ _ hb
  replace hm:=hle37 _ _ hm
  replace h9:=hle37 _ _ h9
  have hle2:F0.le (F1.set b37 (.cells (aP (br S (node v l h))) 103)):=fun x o hx=>hle37 x o (hle1 x o hx)
  replace ho:bM (F1.set b37 (.cells (aP (br S (node v l h))) 103)) 103 3 s (aT (brs S)):=ho.keep fun a ha=>by
   obtain ⟨cur,hcur⟩:=hbase a ha
   rw [hcur,hle37 _ _ hcur]
  generalize F1.set b37 (.cells (aP (br S (node v l h))) 103)=F2 at*
  have hlen:=ho.rd.blen
  rw [aO] at hlen
  refine jZ underlying31 ur ut rfl (by decide) hle2 ho hs0 (x:=⟨some ⟨b37,0,none⟩,1,1⟩) (news:=cJ (br S (node v l h))) (RdS.new h37 rfl rfl (Nat.le_refl _)) (fun x hx=>ij [br S (node v l h)] x (by simpa [aT] using hx)) (by simp only [hlen];omega) (by simp only [hlen];omega) ?_
  intro s' F3 hle3 ho3 hlen3 hs3 hk3 hfr3
  have neB:∀a,s.base=some a→a.block≠b:=fun a ha e=>by
   obtain ⟨cur,hcur⟩:=ho.elem ha
   rw [e,hb] at hcur
   cases hcur
  have neM:∀a,s.base=some a→a.block≠m:=fun a ha e=>by
   obtain ⟨cur,hcur⟩:=ho.elem ha
   obtain ⟨es,c,L,rfl,_⟩:=hmp
   rw [e,hm] at hcur
   cases hcur
  replace hb:=hk3 _ _ hb (fun ⟨a,ha,e⟩=>neB a ha e)
  replace hm:=hk3 _ _ hm (fun ⟨a,ha,e⟩=>neM a ha e)
  replace h9:=hk3 _ _ h9 (fun ⟨a,ha,e⟩=>ne9 a ha e)
  refine ⟨s',rfl,?_⟩
  refine st1 hb (by simp) ?_
  have hbm:b≠m:=fun e=>by
   obtain ⟨es,c,L,rfl,_⟩:=hmp
   rw [e,hm] at hb
   cases hb
  have h9b:b9≠b:=fun e=>by rw [e,hb] at h9;cases h9
  have hsb:∀a,s'.base=some a→a.block≠b∧a.block≠m:=fun a ha=>by
   obtain ⟨cur,hcur⟩:=ho3.elem ha
   refine ⟨fun e=> ?_,fun e=> ?_⟩
   ·rw [e,hb] at hcur;cases hcur
   ·obtain ⟨es,c,L,rfl,_⟩:=hmp
    rw [e,hm] at hcur;cases hcur
  have hle4:F0.le (F3.set b (.cells (#[s'.v,Value.map (some m)]:Array Value) 228)):=aw hle3 hb0
  have hb4:=an F3 b (.cells (#[s'.v,Value.map (some m)]:Array Value) 228)
  have hm4:(F3.set b (.cells (#[s'.v,Value.map (some m)]:Array Value) 228)) m=some ob:=by rw [az _ _ hbm.symm];exact hm
  have h94:(F3.set b (.cells (#[s'.v,Value.map (some m)]:Array Value) 228)) b9=some (.cells (aP (br S (node v l h))) 103):=by rw [az _ _ h9b];exact h9
  have ho4:bM (F3.set b (.cells (#[s'.v,Value.map (some m)]:Array Value) 228)) 103 3 s' (aT (brs S)++cJ (br S (node v l h))):=ho3.keep fun a ha=>az _ _ (hsb a ha).1
  rw [show (#[s.v,Value.map (some m)].setIfInBounds 0 s'.v:Array Value)= #[s'.v,Value.map (some m)] from rfl]
  generalize F3.set b (.cells (#[s'.v,Value.map (some m)]:Array Value) 228)=F4 at*
  have hlen4:s'.len=S.length+1:=by rw [hlen3,hlen]
  refine ⟨s',by rw [am hb4];rfl,some m,by simp only [aD];rw [am hb4];rfl,aP (br S (node v l h)),rfl,ak h94,?_⟩
  refine bD mtB hm4 hmp (br S (node v l h)) _ fun o' ho'=> ?_
  have hw:IntKind.i64.wrap ((s'.len:Int)+1)=((S.length+2:Nat):Int):=by rw [hlen4,aK (by omega) (by omega)];omega
  rw [hw] at ho' ⊢
  refine ⟨?_,aw hle4 hm0,hS',hb0,hm0,⟨s',by rw [az _ _ hbm];exact hb4,?_,hs3⟩,o',an _ _ _,by rw [CC hS hl hh hmem];exact ho'⟩
  ·have hl2:=dn hS' (k:=S.length) (t:=node v l h) (by simp)
   rw [hl2]
  ·have e3:aT (brs (S++[node v l h]))=aT (brs S)++cJ (br S (node v l h)):=by
    rw [dO hS hl hh,← hbr,dR]
    simp [aT]
   rw [e3]
   exact ho4.keep fun a ha=>az _ _ (hsb a ha).2
end
theorem cW {α:Type} [DecidableEq α]:∀(l m:List α),l.Nodup→(∀x∈l,x∈m)→l.length≤m.length
 |[],_,_,_=>Nat.zero_le _
 |a::l,m,hn,hs=>by
  rw [List.nodup_cons] at hn
  have ha:=hs a (by simp)
  have h:=cW l (m.erase a) hn.2 (fun x hx=>(List.mem_erase_of_ne (by rintro rfl;exact hn.1 hx)).2 (hs x (by simp [hx])))
  rw [List.length_erase_of_mem ha] at h
  have:=List.length_pos_of_mem ha
  simp only [List.length_cons]
  omega
theorem CD:au prog 215=true:=by kernel_rfl
def nmS (S0 S:List Tr) (n:Int):Option Value:=
 if 0≤n∧n≤(S0.length:Int)+1∧inn S (tr S0 n.toNat) then some (vi (num S (tr S0 n.toNat):Int)) else none
theorem mZ {S0 S:List Tr} (h0:Cl S0) {t:Tr} (ht:inn S0 t) (hi:inn S t):nmS S0 S (num S0 t)=some (vi (num S t)):=by
 have h1:=cq ht
 unfold nmS
 rw [Int.toNat_natCast,fz h0 ht,if_pos ⟨by omega,by omega,hi⟩]
theorem CE {S0 S:List Tr} (h0:Cl S0) {t:Tr} (ht:inn S0 t) (hi:¬inn S t):nmS S0 S (num S0 t)=none:=by
 unfold nmS
 rw [Int.toNat_natCast,fz h0 ht,if_neg (fun h=>hi h.2.2)]
theorem CF {S0 S:List Tr} (h0:Cl S0) (hS:Cl S) {t:Tr} (ht:inn S0 t) (hS':Cl (S++[t])):
  nmS S0 (S++[t])=fun n=>if n=(num S0 t:Int) then some (vi (((S.length+2:Nat)):Int)) else nmS S0 S n:=by
 funext n
 by_cases hn:n=(num S0 t:Int)
 ·subst hn
  rw [if_pos rfl,mZ h0 ht (.inr (by simp)),dn hS' (k:=S.length) (by simp)]
 ·rw [if_neg hn]
  unfold nmS
  by_cases hr:0≤n∧n≤(S0.length:Int)+1
  ·have hne:tr S0 n.toNat≠t:=fun e=>by
    have:=eW h0 (n:=n.toNat) (by omega)
    rw [e] at this
    omega
   by_cases hi:inn S (tr S0 n.toNat)
   ·rw [if_pos ⟨hr.1,hr.2,bA hi⟩,if_pos ⟨hr.1,hr.2,hi⟩,bF hi]
   ·rw [if_neg,if_neg (fun h=>hi h.2.2)]
    rintro ⟨_,_,h|h⟩
    ·exact hi (.inl h)
    ·rcases List.mem_append.1 h with h|h
     ·exact hi (.inr h)
     ·exact hne (List.mem_singleton.1 h)
  ·rw [if_neg (fun h=>hr ⟨h.1,h.2.1⟩),if_neg (fun h=>hr ⟨h.1,h.2.1⟩)]
theorem EX {S0:List Tr} (h0:Cl S0):nmS S0 []=fun n=>if n=1 then some (vi 1) else if n=0 then some (vi 0) else none:=by
 funext n
 unfold nmS
 by_cases h1:n=1
 ·subst h1
  have e:tr S0 (Int.toNat 1)=leaf true:=rfl
  rw [if_pos rfl,e,if_pos ⟨by omega,by omega,dK _ _⟩]
  rfl
 ·rw [if_neg h1]
  by_cases h2:n=0
  ·subst h2
   have e:tr S0 (Int.toNat 0)=leaf false:=rfl
   rw [if_pos rfl,e,if_pos ⟨by omega,by omega,dK _ _⟩]
   rfl
  ·rw [if_neg h2,if_neg]
   rintro ⟨a,b,c|c⟩
   ·have h3:inn S0 (tr S0 n.toNat):=fw (by omega)
    have h4:=eW h0 (n:=n.toNat) (by omega)
    generalize tr S0 n.toNat=t at*
    cases t with
    |leaf x=>have:=cM S0 x;omega
    |node _ _ _=>cases c
   ·cases c
structure VE (F0:PH) (b6 b2 b7 b5 M b:Nat) (ns:Sl) (S0:List Tr):Prop where
 c6:F0.cell ⟨b6,0,none⟩=some (.map (some M))
 c2:F0.cell ⟨b2,0,none⟩=some (.pointer (some ⟨b,0,none⟩))
 c7:F0.cell ⟨b7,0,none⟩=some (.func (.func 215) #[] #[.pointer (some ⟨b6,0,none⟩),.pointer (some ⟨b2,0,none⟩),.pointer (some ⟨b7,0,none⟩),.pointer (some ⟨b5,0,none⟩)])
 cb:F0.cell ⟨b,0,none⟩=some ns.v
 rd:RdS F0 ns 3 (aT (brs S0))
theorem VE.le {F0 G:PH} {b6 b2 b7 b5 M b:Nat} {ns:Sl} {S0:List Tr} (h:VE F0 b6 b2 b7 b5 M b ns S0) (hl:F0.le G):VE G b6 b2 b7 b5 M b ns S0:=
 ⟨aq hl h.c6,aq hl h.c2,aq hl h.c7,aq hl h.cb,h.rd.le hl⟩
structure VS (F0 F:PH) (b5 M:Nat) (S0 S:List Tr):Prop where
 le:F0.le F
 cl:Cl S
 sub:∀x∈S,x∈S0
 n5:F0 b5=none
 nM:F0 M=none
 ex:∃(s:Sl),F b5=some (.cells #[s.v,vi 0] 33)∧bM F 103 3 s (aT (brs S))∧∀a,s.base=some a→F0 a.block=none
 map:∃o,F M=some o∧fU uQ (nmS S0 S) o
theorem bM.upto {F G:PH} {e size:Nat} {s:Sl} {vs:List Value} (h:bM F e size s vs) (hl:F.le G):bM G e size s vs:=by
 rcases h with h|⟨b,cur,h1,h2,h3⟩
 ·exact .inl h
 ·exact .inr ⟨b,cur,h1,hl _ _ h2,h3⟩
theorem wD {b6 b2 b7 b5 M b:Nat} {ns:Sl} {S0:List Tr} (h0:Cl S0) (hf:Fit (S0.length+4)):∀(t:Tr),inn S0 t→∀(F0 F:PH) (S:List Tr),VE F0 b6 b2 b7 b5 M b ns S0→VS F0 F b5 M S0 S→
  ac prog 215 #[vi (num S0 t),.pointer (some ⟨b6,0,none⟩),.pointer (some ⟨b2,0,none⟩),.pointer (some ⟨b7,0,none⟩),.pointer (some ⟨b5,0,none⟩)] F
   fun r F'=>r=vi (num (vis t S) t)∧VS F0 F' b5 M S0 (vis t S):=by
 intro t
 induction t with
 |leaf x=>
  intro ht F0 F S he hs
  have hs':=hs
  obtain ⟨hle,hS,hsub,hn5,hnM,⟨s,h5,ho,hsb⟩,o,hM,hmo⟩:=hs
  refine GG ?_
  unfold C4
  have hlk:=dp (F:=F) mtN hM hmo (num S0 (leaf x)) true
  rw [mZ h0 ht (dK _ _)] at hlk
  exact ⟨_,rfl,_,aq hle he.c6,_,_,hlk,fun _=>⟨rfl,hs'⟩,fun hc=>by cases hc⟩
 |node v l h ihl ihh=>
  intro ht F0 F S he hs
  have hs':=hs
  obtain ⟨hle,hS,hsub,hn5,hnM,⟨s,h5,ho,hsb⟩,o,hM,hmo⟩:=hs
  have htm:=co ht rfl
  obtain ⟨hil,hih⟩:=h0.inn_kids ht
  have hok:=h0.inn_ok ht
  refine GG ?_
  unfold C4
  have hlk:=dp (F:=F) mtN hM hmo (num S0 (node v l h)) true
  by_cases hin:node v l h∈S
  ·rw [mZ h0 ht (.inr hin)] at hlk
   have e:vis (node v l h) S=S:=iK (.inr hin)
   rw [e]
   exact ⟨_,rfl,_,aq hle he.c6,_,_,hlk,fun _=>⟨rfl,hs'⟩,fun hc=>by cases hc⟩
  ·have hnin:¬inn S (node v l h):=by
    rintro (hc|hc)
    ·cases hc
    ·exact hin hc
   rw [CE h0 ht hnin] at hlk
   have hw:=uW (n:=num S0 (node v l h)) (by have:=cq ht;omega) (dM rfl)
   have hnl:=cq ht
   have hng:=dM (S:=S0) (t:=node v l h) rfl
   obtain ⟨a,ha,hrow,_⟩:=rdb (he.rd.le hle) (jW (fb htm rfl))
   have hns:=he.rd.blen
   rw [aO] at hns
   refine ⟨_,rfl,_,aq hle he.c6,_,_,hlk,fun hc=>(by cases hc),fun _=> ?_⟩
   refine ⟨_,rfl,_,aq hle he.c2,_,rfl,ns,aq hle he.cb,a,ha,by rw [hw];omega,by rw [hw];omega,aP (br S0 (node v l h)),rfl,by rw [hw];exact hrow,?_⟩
   intro b9 hb9
   refine atI ?_
   refine stW (an _ _ _) rfl rfl (iT _) ?_
   rw [ba]
   have h90:F0 b9=none:=aU hle hb9
   have he9:VE (F0.set b9 (.cells (aP (br S0 (node v l h))) 103)) b6 b2 b7 b5 M b ns S0:=he.le (ae _ h90)
   have ne95:b5≠b9:=aG hb9 h5
   have ne9M:M≠b9:=aG hb9 hM
   have hle9:(F0.set b9 (.cells (aP (br S0 (node v l h))) 103)).le (F.set b9 (.cells (aP (br S0 (node v l h))) 103)):=fun x ob hx=>by
    by_cases hxb:x=b9
    ·subst hxb;rw [an] at hx ⊢;exact hx
    ·rw [az _ _ hxb] at hx ⊢;exact hle _ _ hx
   have hs9:VS (F0.set b9 (.cells (aP (br S0 (node v l h))) 103)) (F.set b9 (.cells (aP (br S0 (node v l h))) 103)) b5 M S0 S:=by
    refine ⟨hle9,hS,hsub,by rw [az _ _ ne95];exact hn5,by rw [az _ _ ne9M];exact hnM,⟨s,by rw [az _ _ ne95];exact h5,ho.upto (ae _ hb9),fun a ha=> ?_⟩,o,by rw [az _ _ ne9M];exact hM,hmo⟩
    obtain ⟨cur,hcur⟩:=ho.elem ha
    rw [az _ _ (aG hb9 hcur)]
    exact hsb a ha
   have hle0:F0.le (F0.set b9 (.cells (aP (br S0 (node v l h))) 103)):=ae _ h90
   have hc9:(F0.set b9 (.cells (aP (br S0 (node v l h))) 103)) b9=some (.cells (aP (br S0 (node v l h))) 103):=an _ _ _
   generalize F0.set b9 (.cells (aP (br S0 (node v l h))) 103)=G0 at*
   generalize F.set b9 (.cells (aP (br S0 (node v l h))) 103)=F1 at*
   refine ⟨_,rfl,_,aq hs9.le he9.c7,_,by rw [am (hs9.le _ _ hc9)];rfl,_,_,_,rfl,CD,?_⟩
   refine (ihl hil G0 F1 S he9 hs9).mono ?_
   rintro _ F2 ⟨rfl,hs2⟩
   refine ⟨_,rfl,_,aq hs2.le he9.c7,_,by rw [am (hs2.le _ _ hc9)];rfl,_,_,_,rfl,CD,?_⟩
   refine (ihh hih G0 F2 _ he9 hs2).mono ?_
   rintro _ F3 ⟨rfl,hs3⟩
   have hs3':=hs3
   obtain ⟨hle3,hS3,hsub3,hn53,hnM3,⟨s3,h53,ho3,hsb3⟩,o3,hM3,hmo3⟩:=hs3
   obtain ⟨fl1,fl2,X,fl3,fl4⟩:=bq l S hok.2.2.2.2.1 hS
   obtain ⟨fh1,fh2,Y,fh3,fh4⟩:=bq h (vis l S) hok.2.2.2.2.2 fl1
   have hnl':num (vis l S) l=num (vis h (vis l S)) l:=by rw [fh3,bF fl2]
   have evis:vis (node v l h) S=vis h (vis l S)++[node v l h]:=by
    conv=>lhs;unfold vis
    rw [if_neg hin]
   obtain ⟨hSv,_,_⟩:=bq (node v l h) S hok hS
   rw [evis] at hSv ⊢
   rw [hnl']
   have hil3:inn (vis h (vis l S)) l:=by rw [fh3];exact bA fl2
   generalize vis h (vis l S)=T at*
   refine ⟨_,rfl,_,rfl,s3,by rw [am h53];rfl,_,by rw [am (hle3 _ _ hc9)];rfl,rfl,fun b43 hb43=> ?_⟩
   refine atI ?_
   have hb430:G0 b43=none:=aU hle3 hb43
   have hTl:T.length≤S0.length:=cW T S0 hS3.nodup hsub3
   have hlen:=ho3.rd.blen
   rw [aO] at hlen
   have ex:(#[vi (v:Int),vi (num T l:Int),vi (num T h:Int)]:Array Value)=aP ⟨(v:Int),(num T l:Int),(num T h:Int)⟩:=rfl
   have hle43:=ae (.cells (aP ⟨(v:Int),(num T l:Int),(num T h:Int)⟩) 103) hb43
   have h43:=an F3 b43 (.cells (aP ⟨(v:Int),(num T l:Int),(num T h:Int)⟩) 103)
   show aE prog _ (F3.set b43 (.cells (aP ⟨(v:Int),(num T l:Int),(num T h:Int)⟩) 103)) _
   replace hle3:G0.le (F3.set b43 (.cells (aP ⟨(v:Int),(num T l:Int),(num T h:Int)⟩) 103)):=fun x ob hx=>hle43 _ _ (hle3 _ _ hx)
   replace ho3:=ho3.upto hle43
   replace h53:=hle43 _ _ h53
   replace hM3:=hle43 _ _ hM3
   generalize F3.set b43 (.cells (aP ⟨(v:Int),(num T l:Int),(num T h:Int)⟩) 103)=F4 at*
   refine jZ underlying31 ur ut rfl (by decide) hle3 ho3 hsb3 (x:=⟨some ⟨b43,0,none⟩,1,1⟩) (news:=cJ ⟨(v:Int),(num T l:Int),(num T h:Int)⟩) (RdS.new h43 rfl rfl (Nat.le_refl _))
    (fun x hx=>ij [⟨(v:Int),(num T l:Int),(num T h:Int)⟩] x (by simpa [aT] using hx)) (by simp only [hlen];omega) (by simp only [hlen];omega) ?_
   intro s5 F5 hle5 ho5 hlen5 hsb5 hk5 _
   have ne5:∀a,s3.base=some a→a.block≠b5:=fun a ha e=>by
    obtain ⟨cur,hcur⟩:=ho3.elem ha
    rw [e,h53] at hcur
    cases hcur
   have neM:∀a,s3.base=some a→a.block≠M:=fun a ha e=>by
    obtain ⟨cur,hcur⟩:=ho3.elem ha
    obtain ⟨es,c,L,rfl,_⟩:=hmo3
    rw [e,hM3] at hcur
    cases hcur
   replace h53:=hk5 _ _ h53 (fun ⟨a,ha,e⟩=>ne5 a ha e)
   replace hM3:=hk5 _ _ hM3 (fun ⟨a,ha,e⟩=>neM a ha e)
   have n5M:b5≠M:=fun e=>by
    obtain ⟨es,c,L,rfl,_⟩:=hmo3
    rw [e,hM3] at h53
    cases h53
   have hsb6:∀a,s5.base=some a→a.block≠b5∧a.block≠M:=fun a ha=>by
    obtain ⟨cur,hcur⟩:=ho5.elem ha
    refine ⟨fun e=> ?_,fun e=> ?_⟩
    ·rw [e,h53] at hcur;cases hcur
    ·obtain ⟨es,c,L,rfl,_⟩:=hmo3
     rw [e,hM3] at hcur;cases hcur
   refine ⟨s5,rfl,?_⟩
   refine st1 h53 (by simp) ?_
   rw [show (#[s3.v,vi 0].setIfInBounds 0 s5.v:Array Value)= #[s5.v,vi 0] from rfl]
   have hle6:G0.le (F5.set b5 (.cells #[s5.v,vi 0] 33)):=aw hle5 hn53
   have h56:=an F5 b5 (.cells #[s5.v,vi 0] 33)
   have hM6:(F5.set b5 (.cells #[s5.v,vi 0] 33)) M=some o3:=by rw [az _ _ n5M.symm];exact hM3
   have ho6:bM (F5.set b5 (.cells #[s5.v,vi 0] 33)) 103 3 s5 _:=ho5.keep fun a ha=>az _ _ (hsb6 a ha).1
   generalize F5.set b5 (.cells #[s5.v,vi 0] 33)=F6 at*
   have hlen6:s5.len=T.length+1:=by rw [hlen5,hlen]
   have hw6:IntKind.i64.wrap ((s5.len:Int)+1)=((T.length+2:Nat):Int):=by rw [hlen6,aK (by omega) (by omega)];omega
   refine ⟨_,aq hle6 he9.c6,s5,by rw [am h56];rfl,?_⟩
   dsimp only
   rw [hw6]
   refine bD mtN hM6 hmo3 (num S0 (node v l h):Int) _ fun o' ho'=> ?_
   rw [← CF h0 hS3 ht hSv] at ho'
   have hle7:G0.le (F6.set M o'):=aw hle6 hnM3
   have hlk7:=dp (F:=F6.set M o') mtN (an F6 M o') ho' (num S0 (node v l h)) false
   rw [mZ h0 ht (.inr (by simp))] at hlk7
   refine ⟨_,aq hle7 he9.c6,_,hlk7,rfl,fun x ob hx=>hle7 _ _ (hle0 _ _ hx),hSv,fun x hx=> ?_,hn5,hnM,⟨s5,by rw [az _ _ n5M];exact h56,?_,fun a ha=>aU hle0 (hsb5 a ha)⟩,o',an _ _ _,ho'⟩
   ·rcases List.mem_append.1 hx with hx|hx
    ·exact hsub3 x hx
    ·rw [List.mem_singleton.1 hx];exact htm
   ·have e3:aT (brs (T++[node v l h]))=aT (brs T)++cJ ⟨(v:Int),(num T l:Int),(num T h:Int)⟩:=by
     rw [dO hS3 hil3 fh2,dR]
     simp [aT]
    rw [e3]
    exact ho6.keep fun a ha=>az _ _ (hsb6 a ha).2
def lL (F:PH) (a b:Nat):PH:=fun x=>if x=a∨x=b then none else F x
theorem EY (F:PH) (a b:Nat):(lL F a b).le F:=fun x o h=>by
 unfold lL at h
 split at h
 ·cases h
 ·exact h
theorem kg {F:PH} {a b x:Nat} (h1:x≠a) (h2:x≠b):lL F a b x=F x:=by simp [lL,h1,h2]
theorem Jm (F:PH) (a b:Nat):lL F a b a=none:=by simp [lL]
theorem Jn (F:PH) (a b:Nat):lL F a b b=none:=by simp [lL]
theorem EZ {F G:PH} {a b:Nat} (h:F.le G) (ha:F a=none) (hb:F b=none):F.le (lL G a b):=fun x o hx=>by
 have h1:x≠a:=fun e=>by rw [e,ha] at hx;cases hx
 have h2:x≠b:=fun e=>by rw [e,hb] at hx;cases hx
 rw [kg h1 h2]
 exact h _ _ hx
theorem PH.le.trans {F G H:PH} (h:F.le G) (k:G.le H):F.le H:=fun b o hx=>k _ _ (h _ _ hx)
section
variable {F:PH} {b:Nat} {ns:Sl} {S0:List Tr} {t:Tr}
theorem ki (hb:F.cell ⟨b,0,none⟩=some ns.v) (hr:RdS F ns 3 (aT (brs S0))) (h0:Cl S0) (ht:inn S0 t) (hf:Fit (S0.length+4)):
  ac prog 167 #[.pointer (some ⟨b,0,none⟩),vi (num S0 t)] F fun r F'=>∃v,r=.agg v∧DV F' v (dia t)∧F.le F':=by
 have hok:=h0.inn_ok ht
 refine Mr ?_
 unfold GD
 intro b2 hb2
 refine atI ?_
 have l2:=ae (.cells #[Value.pointer (some ⟨b,0,none⟩)] 225) hb2
 have h2:=an F b2 (.cells #[Value.pointer (some ⟨b,0,none⟩)] 225)
 generalize F.set b2 (.cells #[Value.pointer (some ⟨b,0,none⟩)] 225)=F2 at*
 intro b4 hb4
 refine atI ?_
 have l4:=ae (.cells #[Value.slice none 0 0,Value.int .i64 0] 33) hb4
 have h4:=an F2 b4 (.cells #[Value.slice none 0 0,Value.int .i64 0] 33)
 replace h2:=l4 _ _ h2
 have f4:F b4=none:=aU l2 hb4
 replace l4:=l2.trans l4
 generalize F2.set b4 (.cells #[Value.slice none 0 0,Value.int .i64 0] 33)=F4 at*
 intro b5 hb5
 refine atI ?_
 have n25:b2≠b5:=aG hb5 h2
 have n45:b4≠b5:=aG hb5 h4
 refine stW (an _ _ _) rfl rfl (fun x hx=> ?_) ?_
 ·simp only [List.mem_cons,List.not_mem_nil,or_false] at hx
  rcases hx with rfl|rfl
  ·exact BX (x:=Sl.nil)
  ·exact js
 rw [ba]
 have l5:=ae (.cells #[Value.slice none 0 0,Value.int .i64 0] 33) hb5
 have h5:=an F4 b5 (.cells #[Value.slice none 0 0,Value.int .i64 0] 33)
 replace h2:=l5 _ _ h2
 replace h4:=l5 _ _ h4
 have f5:F b5=none:=aU l4 hb5
 replace l5:=l4.trans l5
 generalize F4.set b5 (.cells #[Value.slice none 0 0,Value.int .i64 0] 33)=F5 at*
 intro b9 hb9
 refine atI ?_
 have f9:F b9=none:=aU l5 hb9
 have n92:b2≠b9:=aG hb9 h2
 have n94:b4≠b9:=aG hb9 h4
 have n95:b5≠b9:=aG hb9 h5
 refine bD mtN (an _ _ _) (fU.empty uQ) 0 (vi 0) fun o1 ho1=> ?_
 rw [ba]
 refine bD mtN (an _ _ _) ho1 1 (vi 1) fun o2 ho2=> ?_
 rw [ba]
 have hn:nmS S0 []=(fun k'=>if k'=1 then some (vi 1) else if k'=0 then some (vi 0) else none):=EX h0
 rw [← hn] at ho2
 have l9:F.le (F5.set b9 o2):=l5.trans (ae o2 hb9)
 have h9:=an F5 b9 o2
 replace h2:=ae o2 hb9 _ _ h2
 replace h4:=ae o2 hb9 _ _ h4
 replace h5:=ae o2 hb9 _ _ h5
 generalize F5.set b9 o2=F9 at*
 intro b6 hb6
 refine atI ?_
 refine st1 (an _ _ _) (by simp) ?_
 rw [ba,show (#[Value.map none].setIfInBounds 0 (Value.map (some b9)):Array Value)= #[Value.map (some b9)] from rfl]
 have n65:b6≠b5:=(aG hb6 h5).symm
 have n69:b6≠b9:=(aG hb6 h9).symm
 have hx:=ae (.cells #[Value.map (some b9)] 299) hb6
 have h6:=an F9 b6 (.cells #[Value.map (some b9)] 299)
 have l6:F.le (F9.set b6 (.cells #[Value.map (some b9)] 299)):=l9.trans hx
 replace h2:=hx _ _ h2
 replace h4:=hx _ _ h4
 replace h5:=hx _ _ h5
 replace h9:=hx _ _ h9
 clear hx
 generalize F9.set b6 (.cells #[Value.map (some b9)] 299)=F6 at*
 intro b7 hb7
 refine atI ?_
 refine st1 (an _ _ _) (by simp) ?_
 rw [ba]
 generalize hfv:(Value.func (.func 215) #[] #[(Value.pointer (some (Addr.mk b6 0 none))),(Value.pointer (some (Addr.mk b2 0 none))),(Value.pointer (some (Addr.mk b7 0 none))),(Value.pointer (some (Addr.mk b5 0 none)))])=fv
 rw [show (#[Value.nilFunc].setIfInBounds (Addr.mk b7 0 none).off fv:Array Value)= #[fv] from rfl]
 have n75:b7≠b5:=(aG hb7 h5).symm
 have n79:b7≠b9:=(aG hb7 h9).symm
 have hx:=ae (.cells #[fv] 167) hb7
 have h7:=an F6 b7 (.cells #[fv] 167)
 have l7:F.le (F6.set b7 (.cells #[fv] 167)):=l6.trans hx
 replace h2:=hx _ _ h2
 replace h4:=hx _ _ h4
 replace h5:=hx _ _ h5
 replace h9:=hx _ _ h9
 replace h6:=hx _ _ h6
 clear hx
 generalize F6.set b7 (.cells #[fv] 167)=F7 at*
 have lF:F.le (lL F7 b5 b9):=EZ l7 f5 f9
 have g4:(lL F7 b5 b9) b4=_:=(kg n45 n94).trans h4
 have he:VE (lL F7 b5 b9) b6 b2 b7 b5 b9 b ns S0:=by
  refine ⟨?_,?_,?_,aq lF hb,hr.le lF⟩
  ·rw [am ((kg n65 n69).trans h6)];rfl
  ·rw [am ((kg n25 n92).trans h2)];rfl
  ·rw [am ((kg n75 n79).trans h7),← hfv];rfl
 have hs:VS (lL F7 b5 b9) F7 b5 b9 S0 []:=by
  refine ⟨EY _ _ _,.nil,fun x hx=>(by cases hx),Jm _ _ _,Jn _ _ _,⟨Sl.nil,h5,.inl ⟨rfl,rfl⟩,fun a ha=>by cases ha⟩,o2,h9,ho2⟩
 refine ⟨_,by rw [am h7];rfl,_,_,_,hfv.symm,CD,?_⟩
 refine (wD h0 hf t ht _ _ _ he hs).mono ?_
 rintro _ G ⟨rfl,hs'⟩
 refine ⟨_,rfl,?_⟩
 obtain ⟨gle,gcl,_,_,_,⟨s,g5,go,gs⟩,_⟩:=hs'
 have ev:vis t []=aL t:=rfl
 rw [ev] at*
 refine st1 g5 (by simp) ?_
 rw [show (#[s.v,vi 0].setIfInBounds 1 (vi (num (aL t) t)):Array Value)= #[s.v,vi (num (aL t) t)] from rfl]
 refine ⟨#[s.v,vi (num (aL t) t)],rfl,ak (an _ _ _),?_⟩
 have k4:(G.set b5 (.cells #[s.v,vi (num (aL t) t)] 33)) b4=some (.cells #[Value.slice none 0 0,Value.int .i64 0] 33):=by
  rw [az _ _ n45]
  exact gle _ _ g4
 refine stW k4 rfl rfl (fun x hx=> ?_) ?_
 ·simp only [List.mem_cons,List.not_mem_nil,or_false] at hx
  rcases hx with rfl|rfl
  ·exact BX
  ·exact js
 refine ⟨#[s.v,vi (num (aL t) t)],rfl,ak (an _ _ _),_,rfl,⟨s,rfl,?_⟩,?_⟩
 ·have hsb:∀a,s.base=some a→a.block≠b5∧a.block≠b4:=fun a ha=>by
   obtain ⟨cur,hcur⟩:=go.elem ha
   refine ⟨fun e=> ?_,fun e=> ?_⟩
   ·rw [e,g5] at hcur;cases hcur
   ·rw [e,gle _ _ g4] at hcur;cases hcur
  exact (go.keep fun a ha=>by rw [az _ _ (hsb a ha).2,az _ _ (hsb a ha).1]).rd
 ·exact aw (aw (lF.trans gle) f5) f4
end
end Go.Proofs.YtenpmjhnhepfdaaGreatDoor
