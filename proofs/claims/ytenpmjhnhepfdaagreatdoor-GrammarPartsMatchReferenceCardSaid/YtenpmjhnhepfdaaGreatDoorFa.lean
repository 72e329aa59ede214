/-
  The reference's diagrams: intersection, union, complement, difference.
-/
import Derived.Test.YtenpmjhnhepfdaaGreatDoorEx
namespace Go.Proofs.YtenpmjhnhepfdaaGreatDoor
open Go Go.Proofs.Tryz Tr
set_option maxRecDepth 10000
theorem bA.keepK {F G:PH} {e size:Nat} {s:Sl} {vs:List Value} {fp:Nat->Prop} (h:bA F e size s vs) (hk:cf fp F G) (hn:∀a,s.base=some a->¬fp a.block):bA G e size s vs:=by
 rcases h with h|⟨b,cur,h1,h2,h3⟩
 ·exact .inl h
 ·exact .inr ⟨b,cur,h1,hk _ _ h2 (hn _ h1),h3⟩
section
variable {F0 F:PH} {l:Sl} {S:List Tr}
theorem w9 (hle:F0.le F) (ho:bA F 103 3 l (aS (brs S))) (hb:∀a,l.base=some a->F0 a.block=none) (hS:Cl S) {v:Nat} {A B:Tr} (hA:inn S A) (hB:inn S B) (hf:Fit (S.length+4)):
  ae prog 233 #[l.v,.agg (aQ ⟨(v:Int),(num S A:Int),(num S B:Int)⟩)] F fun r F'=>∃l',r=.tuple #[l'.v,vi (num (dE S (mk v A B)) (mk v A B))]/\F0.le F'/\bA F' 103 3 l' (aS (brs (dE S (mk v A B))))/\
   (∀a,l'.base=some a->F0 a.block=none)/\cf (fun b=>∃a,l.base=some a/\a.block=b) F F':=by
 have hlen:=ho.rd.blen
 rw [aO] at hlen
 refine PK ?_
 unfold Kg
 intro b3 hb3
 refine atI ?_
 have l3:=ac (.cells (aQ ⟨(v:Int),(num S A:Int),(num S B:Int)⟩) 103) hb3
 have q3:=an F b3 (.cells (aQ ⟨(v:Int),(num S A:Int),(num S B:Int)⟩) 103)
 have n3:∀a,l.base=some a->a.block≠b3:=fun a ha=>by
  obtain ⟨cur,hcur⟩:=ho.elem ha
  exact aG hb3 hcur
 replace ho:=ho.upto l3
 replace hle:=hle.trans l3
 generalize F.set b3 (.cells (aQ ⟨(v:Int),(num S A:Int),(num S B:Int)⟩) 103)=F1 at*
 refine ⟨_,by rw [am q3];rfl,_,by rw [am q3];rfl,fun he=> ?_,fun he=> ?_⟩
 ·obtain rfl:=dk hA hB (by have:(num S A:Int)=num S B:=he;omega)
  have e:mk v A A=A:=by simp [mk]
  have e2:dE S A=S:=by unfold dE;rw [if_pos hA]
  rw [e,e2]
  exact ⟨_,by rw [am q3];rfl,l,rfl,hle,ho,hb,cf.of_le l3⟩
 have hAB:A≠B:=fun e=>he (by rw [e])
 have emk:mk v A B=node v A B:=by simp [mk,hAB]
 rw [emk]
 have hbr:br S (node v A B)=⟨(v:Int),(num S A:Int),(num S B:Int)⟩:=rfl
 refine ⟨fun m i F'=>∃k:Nat,i=k/\k<=S.length/\m=S.length - k/\F'=F1/\br S (node v A B) ∉ (brs S).take k,S.length,⟨0,rfl,by omega,rfl,rfl,by simp⟩,?_⟩
 rintro m i F' ⟨k,rfl,hk,rfl,rfl,hnot⟩
 unfold Ay
 refine ⟨fun hlt=> ?_,fun hge=> ?_⟩
 ·have hkS:k<S.length:=by omega
  have hkB:k<(brs S).length:=by rw [aO];exact hkS
  obtain ⟨p,hp,hpr,_⟩:=rdb ho.rd (List.getElem?_eq_getElem hkB)
  refine ⟨p,hp,by omega,hlt,aQ (brs S)[k],rfl,by simpa using hpr,aQ (br S (node v A B)),rfl,aj q3,decide ((brs S)[k]=br S (node v A B)),fun F=>FO (brs S)[k] (br S (node v A B)) F,fun heq=> ?_,fun hne=> ?_⟩
  ·have heq':(brs S)[k]=br S (node v A B):=of_decide_eq_true heq
   have hm:node v A B∈S:=(ib hS hA hB).1 (by rw [<- heq'];exact List.getElem_mem _)
   have hSk:S[k]=node v A B:=DJ hS (List.getElem_mem hkS) hm (by rw [<- heq'];simp [brs])
   have e2:dE S (node v A B)=S:=by unfold dE;rw [if_pos (.inr hm)]
   have hn:=dK hS (k:=k) (t:=node v A B) (by rw [List.getElem?_eq_getElem hkS,hSk])
   have hw:IntKind.i64.wrap ((k:Int)+2)=((k+2:Nat):Int):=by rw [aN (by omega) (by omega)];omega
   rw [e2,hn,hw]
   exact ⟨l,rfl,hle,ho,hb,cf.of_le l3⟩
  ·refine ⟨S.length - (k+1),by omega,k+1,fd (by omega),by omega,rfl,rfl,?_⟩
   rw [List.take_succ_eq_append_getElem hkB]
   intro hc
   rcases List.mem_append.1 hc with hc|hc
   ·exact hnot hc
   ·rw [List.mem_singleton] at hc
    rw [hc] at hne
    simp at hne
 ·have hk':k=S.length:=by omega
  have hm:node v A B ∉ S:=fun hm=>hnot (by
   rw [hk',List.take_of_length_le (by rw [aO];omega)]
   exact (ib hS hA hB).2 hm)
  have e2:dE S (node v A B)=S++[node v A B]:=by
   unfold dE
   rw [if_neg]
   rintro (hc|hc)
   ·cases hc
   ·exact hm hc
  rw [e2]
  unfold Ax
  refine ⟨aQ (br S (node v A B)),rfl,aj q3,rfl,fun b32 hb32=> ?_⟩
  refine atI ?_
  have l32:=ac (.cells (aQ (br S (node v A B))) 103) hb32
  have q32:=an F' b32 (.cells (aQ (br S (node v A B))) 103)
  have ho2:=ho.upto l32
  have hle2:=hle.trans l32
  generalize F'.set b32 (.cells (aQ (br S (node v A B))) 103)=F2 at*
  refine gK underlying31 zI zJ rfl (by decide) hle2 ho2 hb (x:=⟨some ⟨b32,0,none⟩,1,1⟩) (news:=dc (br S (node v A B))) (RdS.new q32 rfl rfl (Nat.le_refl _)) (fun x hx=>iL [br S (node v A B)] x (by simpa [aS] using hx)) (by simp only [hlen];omega) (by simp only [hlen];omega) ?_
  intro s' F3 hle3 ho3 hlen3 hs3 hk3 _
  have hw:IntKind.i64.wrap ((s'.len:Int)+1)=((S.length+2:Nat):Int):=by rw [hlen3,hlen,aN (by simp only;omega) (by simp only;omega)];simp only;omega
  have e3:aS (brs (S++[node v A B]))=aS (brs S)++dc (br S (node v A B)):=by
   rw [d9 hS hA hB,<- hbr,ed]
   simp [aS]
  refine ⟨s',rfl,s',?_,hle3,by rw [e3];exact ho3,hs3,fun x ob hx hn=>hk3 _ _ (l32 _ _ (l3 _ _ hx)) hn⟩
  rw [hw]
  have hl2:num (S++[node v A B]) (node v A B)=S.length+2:=by
   simp only [num,List.idxOf_append,if_neg hm]
   simp
  rw [hl2]
end
structure RP where
 bp:Nat
 sa:Sl
 sb:Sl
 opc:Int
 o:Op2
 da:Dia
 db:Dia
 A:List Tr
 B:List Tr
def RP.q (p:RP):AP:=⟨0,0,0,0,0,0,0,0,.nilFunc,fun x y _=>p.o x y,xf p.da p.db i7,xf p.A p.B []⟩
def RP.in2 (p:RP) (t:Nat->Tr):Prop:=inn p.A (t 0)/\inn p.B (t 1)/\t 2=leaf false
theorem RP.in2_in {p:RP} {t:Nat->Tr} (h:p.in2 t):p.q.inK t:=⟨h.1,h.2.1,by rw [h.2.2];exact d3 _ _⟩
def RP.obj (p:RP) (nodes cK:Sl):Array Value:= #[p.sa.v,vi p.da.2,p.sb.v,vi p.db.2,vi p.opc,nodes.v,cK.v]
structure RF (p:RP):Prop where
 cA:Cl p.A
 cB:Cl p.B
 pA:brs p.A<+:p.da.1
 pB:brs p.B<+:p.db.1
 fA:Fit (p.da.1.length+2)
 fB:Fit (p.db.1.length+2)
 fP:Fit ((p.A.length+2)*(p.B.length+2)+2)
 op:(p.opc=0/\p.o=i8)\/(p.opc=1/\p.o=oOr)\/(p.opc=2/\p.o=i9)
theorem RF.af {p:RP} (h:RF p):AF p.q:=by
 refine ⟨fun i hi=> ?_,fun i hi=> ?_,fun i hi=> ?_⟩
 ·match i,hi with
  |0,_=>exact h.cA
  |1,_=>exact h.cB
  |2,_=>exact .nil
 ·match i,hi with
  |0,_=>exact h.pA
  |1,_=>exact h.pB
  |2,_=>exact List.prefix_refl _
 ·match i,hi with
  |0,_=>exact h.fA
  |1,_=>exact h.fB
  |2,_=>simp [RP.q,xf]
structure RE (F0:PH) (p:RP):Prop where
 a:RdS F0 p.sa 3 (aS p.da.1)
 b:RdS F0 p.sb 3 (aS p.db.1)
theorem RE.le {F0 G:PH} {p:RP} (h:RE F0 p) (hl:F0.le G):RE G p:=⟨h.a.le hl,h.b.le hl⟩
structure Ent (p:RP) (e:Br) (u:Nat->Tr):Prop where
 i:p.in2 u
 x:e.v=(num p.A (u 0):Int)
 y:e.l=(num p.B (u 1):Int)
structure No (p:RP) (S:List Tr) (Ls:List Br):Prop where
 all:∀e∈Ls,∃u,Ent p e u/\inn S (p.q.res u)/\e.h=(num S (p.q.res u):Int)
 nd:(Ls.map fun e=>(e.v,e.l)).Nodup
def Fx (p:RP) (Ls Ls':List Br) (n:Nat):Prop:=∀e∈Ls',e∈Ls\/∃u,Ent p e u/\szs u<=n
theorem yy {p:RP} (hf:RF p) {e:Br} {u w:Nat->Tr} (hu:Ent p e u) (hw:Ent p e w):p.q.res u=p.q.res w/\szs u=szs w:=by
 have h0:u 0=w 0:=dk hu.i.1 hw.i.1 (by have:=hu.x;have:=hw.x;omega)
 have h1:u 1=w 1:=dk hu.i.2.1 hw.i.2.1 (by have:=hu.y;have:=hw.y;omega)
 have h2:u 2=w 2:=by rw [hu.i.2.2,hw.i.2.2]
 unfold AP.res szs
 rw [h0,h1,h2]
 exact ⟨rfl,rfl⟩
theorem No.length {p:RP} {S:List Tr} {Ls:List Br} (h:No p S Ls):Ls.length<=(p.A.length+2)*(p.B.length+2):=by
 have hl:((List.range (p.A.length+2)).flatMap fun (i:Nat)=>(List.range (p.B.length+2)).map fun (j:Nat)=>((i:Int),(j:Int))).length=(p.A.length+2)*(p.B.length+2):=by
  simp only [List.length_flatMap,List.length_map,List.length_range,List.map_const',List.sum_replicate_nat]
 have:=dv (Ls.map fun e=>(e.v,e.l)) ((List.range (p.A.length+2)).flatMap fun (i:Nat)=>(List.range (p.B.length+2)).map fun (j:Nat)=>((i:Int),(j:Int))) h.nd fun x hx=>by
  obtain ⟨e,he,rfl⟩:=List.mem_map.1 hx
  obtain ⟨u,hu,_⟩:=h.all e he
  have h1:=cY hu.i.1
  have h2:=cY hu.i.2.1
  exact List.mem_flatMap.2 ⟨num p.A (u 0),List.mem_range.2 (by omega),List.mem_map.2 ⟨num p.B (u 1),List.mem_range.2 (by omega),by rw [hu.x,hu.y]⟩⟩
 rw [hl,List.length_map] at this
 exact this
structure RS (F0 F:PH) (p:RP) (S:List Tr) (Ls:List Br):Prop where
 le:F0.le F
 nb:F0 p.bp=none
 cl:Cl S
 ok:No p S Ls
 ex:∃nodes cK:Sl,F p.bp=some (.cells (p.obj nodes cK) 296)/\bA F 103 3 nodes (aS (brs S))/\(∀a,nodes.base=some a->F0 a.block=none)/\bA F 289 3 cK (aS Ls)/\(∀a,cK.base=some a->F0 a.block=none)
theorem uz {F:PH} {p:RP} {nodes cK:Sl} (hf:RF p) (hb:F p.bp=some (.cells (p.obj nodes cK) 296)) (x y:Bool):
  ae prog 230 #[.pointer (some ⟨p.bp,0,none⟩),vi (if x then 1 else 0:Nat),vi (if y then 1 else 0:Nat)] F fun r F'=>r=vi (if p.o x y then 1 else 0:Nat)/\F'=F:=by
 refine PG ?_
 unfold Kc
 refine ⟨_,rfl,p.opc,by rw [aK,am hb];rfl,fun h=> ?_,fun h=>⟨fun h1=> ?_,fun h1=> ?_⟩⟩
 ·have ho:p.o=i8:=by rcases hf.op with h'|h'|h'<;>first|exact h'.2|(exfalso;omega)
  rw [ho]
  cases x<;>cases y<;>exact ⟨congrArg (Value.int .i64) (by decide),rfl⟩
 ·have ho:p.o=oOr:=by rcases hf.op with h'|h'|h'<;>first|exact h'.2|(exfalso;omega)
  rw [ho]
  cases x<;>cases y<;>exact ⟨congrArg (Value.int .i64) (by decide),rfl⟩
 ·have ho:p.o=i9:=by rcases hf.op with h'|h'|h'<;>first|exact h'.2|(exfalso;omega)
  rw [ho]
  cases x<;>cases y<;>exact ⟨congrArg (Value.int .i64) (by decide),rfl⟩
def RAt (p:RP) (t:Nat->Tr):Prop:=∀(F0 F:PH) (S:List Tr) (Ls:List Br),RE F0 p->RS F0 F p S Ls->Fit ((vis (p.q.res t) S).length+4)->
 ae prog 213 #[.pointer (some ⟨p.bp,0,none⟩),vi (num p.A (t 0)),vi (num p.B (t 1))] F fun r F'=>r=vi (num (vis (p.q.res t) S) (p.q.res t))/\∃Ls',RS F0 F' p (vis (p.q.res t) S) Ls'/\Fx p Ls Ls' (szs t)
section
variable {p:RP} {t:Nat->Tr} {F0 F:PH} {S:List Tr} {Ls:List Br}
theorem Np (hf:RF p) (ht:p.in2 t) (ih:∀u,p.in2 u->szs u<szs t->RAt p u) (he:RE F0 p) (hs:RS F0 F p S Ls) (hfit:Fit ((vis (p.q.res t) S).length+4)) (hn:¬((t 0).isL=true/\(t 1).isL=true))
  (hnew:∀e∈Ls,¬(e.v=(num p.A (t 0):Int)/\e.l=(num p.B (t 1):Int))) {R:Value->PH->Prop}
  (hR:∀F' Ls',RS F0 F' p (vis (p.q.res t) S) Ls'->Fx p Ls Ls' (szs t)->R (vi (num (vis (p.q.res t) S) (p.q.res t))) F'):
  uA (some ⟨p.bp,0,none⟩) (num p.A (t 0)) (num p.B (t 1)) R F:=by
 have hv:aY (t 0) (t 1) (t 2)<64:=by
  have k0:=fun hl=>DG (hf.cA.inn_ok ht.1) hl
  have k1:=fun hl=>DG (hf.cB.inn_ok ht.2.1) hl
  unfold aY
  cases e0:(t 0).isL with
  |false=>have:=k0 e0;omega
  |true=>
   cases e1:(t 1).isL with
   |false=>have:=k1 e1;omega
   |true=>exact absurd ⟨e0,e1⟩ hn
 have D:=Uq hf.af (RP.in2_in ht) hv
 have hmin:min ((t 0).top:Int) ((t 1).top:Int)=((aY (t 0) (t 1) (t 2):Nat):Int):=by
  have h2:(t 2).top=64:=by rw [ht.2.2];rfl
  unfold aY at hv ⊢
  rw [h2] at hv ⊢
  omega
 have hlo2:∀v,lo v (t 2)=leaf false:=fun v=>by rw [ht.2.2];rfl
 have hhi2:∀v,hi v (t 2)=leaf false:=fun v=>by rw [ht.2.2];rfl
 obtain ⟨hle,hnb,hcl,hok,nodes,cK,hb,hon,hnn,hos,hsn⟩:=hs
 have hs0:RS F0 F p S Ls:=⟨hle,hnb,hcl,hok,nodes,cK,hb,hon,hnn,hos,hsn⟩
 unfold uA
 have dA:∀{G:PH},F0.le G->DV G #[p.sa.v,vi p.da.2] p.da:=fun hl=>⟨p.sa,rfl,(he.le hl).a⟩
 have dB:∀{G:PH},F0.le G->DV G #[p.sb.v,vi p.db.2] p.db:=fun hl=>⟨p.sb,rfl,(he.le hl).b⟩
 have rowA:∀{G:PH} {n s:Sl},G p.bp=some (.cells (p.obj n s) 296)->G.row ⟨p.bp,0,none⟩ #[p.sa.v,vi p.da.2]:=fun {G n s} hG i hi=>by
  simp only [aK]
  rw [am hG]
  match i,hi with
  |0,_=>rfl
  |1,_=>rfl
 have rowB:∀{G:PH} {n s:Sl},G p.bp=some (.cells (p.obj n s) 296)->G.row (Addr.add ⟨p.bp,0,none⟩ 2) #[p.sb.v,vi p.db.2]:=fun {G n s} hG i hi=>by
  simp only [aK]
  rw [am hG]
  match i,hi with
  |0,_=>rfl
  |1,_=>rfl
 refine ⟨_,rfl,_,rfl,rowA hb,_,rfl,rowB hb,?_⟩
 refine (fb (dA hle) hf.pA ht.1 hf.fA).mono ?_
 rintro _ F1 ⟨rfl,l1⟩
 have hb1:=l1 _ _ hb
 refine ⟨_,rfl,rowB hb1,?_⟩
 refine (fb (dB (hle.trans l1)) hf.pB ht.2.1 hf.fB).mono ?_
 rintro _ F2 ⟨rfl,lx⟩
 have l2:=l1.trans lx
 have hb2:=l2 _ _ hb
 refine ⟨_,rfl,_,rfl,rowA hb2,?_⟩
 rw [hmin]
 generalize aY (t 0) (t 1) (t 2)=v at*
 refine (mO (dA (hle.trans l2)) hf.pA ht.1 hf.fA D.lt).mono ?_
 rintro _ F3 ⟨rfl,lx3⟩
 have l3:=l2.trans lx3
 have hb3:=l3 _ _ hb
 refine ⟨_,_,rfl,_,rfl,rowB hb3,?_⟩
 refine (mO (dB (hle.trans l3)) hf.pB ht.2.1 hf.fB D.lt).mono ?_
 rintro _ F4 ⟨rfl,lx4⟩
 have l4:=l3.trans lx4
 refine ⟨_,_,rfl,?_⟩
 have hs4:RS F0 F4 p S Ls:=⟨hle.trans l4,hnb,hcl,hok,nodes,cK,l4 _ _ hb,hon.upto l4,hnn,hos.upto l4,hsn⟩
 have kl:p.in2 (fun i=>lo v (t i)):=⟨D.il.1,D.il.2.1,hlo2 v⟩
 have kh:p.in2 (fun i=>hi v (t i)):=⟨D.ih.1,D.ih.2.1,hhi2 v⟩
 obtain ⟨a1,a2,X,a3,a4⟩:=bv (p.q.res fun i=>lo v (t i)) S D.ol hcl
 obtain ⟨c1,c2,Y,c3,c4⟩:=bv (p.q.res fun i=>hi v (t i)) (vis (p.q.res fun i=>lo v (t i)) S) D.oh a1
 have hadd:=xj hcl (v:=v) (l:=p.q.res fun i=>lo v (t i)) (h:=p.q.res fun i=>hi v (t i)) ⟨D.lt,D.tl,D.th,D.ol,D.oh⟩
 rw [<- D.res] at hadd
 have g1:=FL (p.q.res fun i=>hi v (t i)) (vis (p.q.res fun i=>lo v (t i)) S)
 have g2:=IR (vis (p.q.res fun i=>hi v (t i)) (vis (p.q.res fun i=>lo v (t i)) S)) (p.q.res t)
 rw [hadd] at g2
 refine (ih _ kl D.sl F0 F4 S Ls he hs4 (by omega)).mono ?_
 rintro _ F5 ⟨rfl,L1,hs5,gr1⟩
 refine ⟨_,rfl,?_⟩
 refine (ih _ kh D.sh F0 F5 _ L1 he hs5 (by omega)).mono ?_
 rintro _ F6 ⟨rfl,L2,hs6,gr2⟩
 obtain ⟨hle6,_,hcl6,hok6,nodes6,seen6,hb6,hon6,hnn6,hos6,hsn6⟩:=hs6
 refine ⟨_,rfl,nodes6,by rw [aK,am hb6];rfl,?_⟩
 have hnl:num (vis (p.q.res fun i=>lo v (t i)) S) (p.q.res fun i=>lo v (t i))=num (vis (p.q.res fun i=>hi v (t i)) (vis (p.q.res fun i=>lo v (t i)) S)) (p.q.res fun i=>lo v (t i)):=by
  rw [c3,bM a2]
 rw [hnl]
 have hil:inn (vis (p.q.res fun i=>hi v (t i)) (vis (p.q.res fun i=>lo v (t i)) S)) (p.q.res fun i=>lo v (t i)):=by rw [c3];exact bC a2
 refine (w9 hle6 hon6 hnn6 hcl6 (v:=v) hil c2 (by omega)).mono ?_
 rintro _ F7 ⟨n7,rfl,hle7,hon7,hnn7,hk7⟩
 rw [<- D.res,hadd] at hon7 ⊢
 have nbn:∀a,nodes6.base=some a->a.block≠p.bp:=fun a ha e=>by
  obtain ⟨cur,hcur⟩:=hon6.elem ha
  rw [e,hb6] at hcur
  simp at hcur
 have nns:∀a,seen6.base=some a->¬∃a',nodes6.base=some a'/\a'.block=a.block:=fun a ha ⟨a',ha',e⟩=>by
  obtain ⟨cur,hcur⟩:=hon6.elem ha'
  obtain ⟨cur',hcur'⟩:=hos6.elem ha
  rw [e,hcur'] at hcur
  simp at hcur
 have hb7:=hk7 _ _ hb6 (fun ⟨a,ha,e⟩=>nbn a ha e)
 have hos7:=hos6.keepK hk7 nns
 refine ⟨_,_,rfl,?_⟩
 refine oY (b:=p.bp) (o:=5) (by simp) hb7 (by simp [RP.obj]) ?_
 rw [show ((p.obj nodes6 seen6).setIfInBounds 5 n7.v:Array Value)=p.obj n7 seen6 from rfl]
 have nb7:∀a,n7.base=some a->a.block≠p.bp:=fun a ha e=>by
  obtain ⟨cur,hcur⟩:=hon7.elem ha
  rw [e,hb7] at hcur
  simp at hcur
 have nbs:∀a,seen6.base=some a->a.block≠p.bp:=fun a ha e=>by
  obtain ⟨cur,hcur⟩:=hos7.elem ha
  rw [e,hb7] at hcur
  simp at hcur
 have hle8:F0.le (F7.set p.bp (.cells (p.obj n7 seen6) 296)):=aw hle7 hnb
 have hb8:=an F7 p.bp (.cells (p.obj n7 seen6) 296)
 have hon8:bA (F7.set p.bp (.cells (p.obj n7 seen6) 296)) 103 3 n7 (aS (brs (vis (p.q.res t) S))):=hon7.keep fun a ha=>az _ _ (nb7 a ha)
 have hos8:bA (F7.set p.bp (.cells (p.obj n7 seen6) 296)) 289 3 seen6 (aS L2):=hos7.keep fun a ha=>az _ _ (nbs a ha)
 generalize F7.set p.bp (.cells (p.obj n7 seen6) 296)=F8 at*
 refine ⟨seen6,by rw [aK,am hb8];rfl,rfl,fun b132 hb132=> ?_⟩
 refine atI ?_
 generalize hN:num (vis (p.q.res t) S) (p.q.res t)=N at*
 have lx9:=ac (.cells (aQ ⟨(num p.A (t 0):Int),(num p.B (t 1):Int),(N:Int)⟩) 289) hb132
 have q132:=an F8 b132 (.cells (aQ ⟨(num p.A (t 0):Int),(num p.B (t 1):Int),(N:Int)⟩) 289)
 show aE prog _ (F8.set b132 (.cells (aQ ⟨(num p.A (t 0):Int),(num p.B (t 1):Int),(N:Int)⟩) 289)) _
 have hle9:=hle8.trans lx9
 have hb9:=lx9 _ _ hb8
 have hon9:=hon8.upto lx9
 have hos9:=hos8.upto lx9
 generalize F8.set b132 (.cells (aQ ⟨(num p.A (t 0):Int),(num p.B (t 1):Int),(N:Int)⟩) 289)=F9 at*
 have hL2:=hok6.length
 have hfP:=hf.fP
 have hslen:=hos9.rd.blen
 have Jt:tsz prog 289=some (3,24):=by kernel_rfl
 have Ju:bk prog 289=some (.agg #[.int .i64 0,.int .i64 0,.int .i64 0]):=by kernel_rfl
 refine gK underlying294 Jt Ju rfl (by decide) hle9 hos9 hsn6 (x:=⟨some ⟨b132,0,none⟩,1,1⟩) (news:=dc ⟨(num p.A (t 0):Int),(num p.B (t 1):Int),(N:Int)⟩) (RdS.new q132 rfl rfl (Nat.le_refl _))
  (fun x hx=>iL [⟨(num p.A (t 0):Int),(num p.B (t 1):Int),(N:Int)⟩] x (by simpa [aS] using hx)) (by simp only [hslen];omega) (by simp only [hslen];omega) ?_
 intro s10 F10 hle10 hos10 hlen10 hsn10 hk10 _
 have nbs9:∀a,seen6.base=some a->a.block≠p.bp:=nbs
 have hb10:=hk10 _ _ hb9 (fun ⟨a,ha,e⟩=>nbs9 a ha e)
 have hon10:=hon9.keepK hk10 fun a ha ⟨a',ha',e⟩=>by
  obtain ⟨cur,hcur⟩:=hon9.elem ha
  obtain ⟨cur',hcur'⟩:=hos9.elem ha'
  rw [e,hcur] at hcur'
  simp at hcur'
 refine ⟨s10,rfl,?_⟩
 refine oY (b:=p.bp) (o:=6) (by simp) hb10 (by simp [RP.obj]) ?_
 rw [show ((p.obj n7 seen6).setIfInBounds 6 s10.v:Array Value)=p.obj n7 s10 from rfl]
 have nb10:∀a,n7.base=some a->a.block≠p.bp:=nb7
 have nbs10:∀a,s10.base=some a->a.block≠p.bp:=fun a ha e=>by
  obtain ⟨cur,hcur⟩:=hos10.elem ha
  rw [e,hb10] at hcur
  simp at hcur
 have hokT:(p.q.res t).ok:=by rw [D.res];exact vV D.lt D.tl D.th D.ol D.oh
 obtain ⟨v1,v2,Z,v3,v4⟩:=bv (p.q.res t) S hokT hcl
 have het:Ent p ⟨(num p.A (t 0):Int),(num p.B (t 1):Int),(N:Int)⟩ t:=⟨ht,rfl,rfl⟩
 have hL2new:∀e∈L2,(e.v,e.l)≠((num p.A (t 0):Int),(num p.B (t 1):Int)):=by
  intro e he2 hk
  simp only [Prod.mk.injEq] at hk
  rcases gr2 e he2 with h|⟨u,hu,hsz⟩
  ·rcases gr1 e h with h|⟨u,hu,hsz⟩
   ·exact hnew e h hk
   ·have:=(yy hf hu (w:=t) ⟨ht,hk.1,hk.2⟩).2
    have:=D.sl
    omega
  ·have:=(yy hf hu (w:=t) ⟨ht,hk.1,hk.2⟩).2
   have:=D.sh
   omega
 have hfin:=hR (F10.set p.bp (.cells (p.obj n7 s10) 296)) (L2++[⟨(num p.A (t 0):Int),(num p.B (t 1):Int),(N:Int)⟩])
  ⟨aw hle10 hnb,hnb,v1,⟨fun e he2=> ?_,?_⟩,n7,s10,an _ _ _,hon10.keep fun a ha=>az _ _ (nb10 a ha),hnn7,by rw [ed];simpa [aS] using hos10.keep fun a ha=>az _ _ (nbs10 a ha),hsn10⟩ ?_
 ·exact hfin
 ·rcases List.mem_append.1 he2 with he2|he2
  ·obtain ⟨u,hu,hi2,hh2⟩:=hok6.all e he2
   refine ⟨u,hu,?_,?_⟩
   ·rw [<- hadd]
    unfold dE
    split
    ·exact hi2
    ·exact bC hi2
   ·rw [hh2,<- hadd]
    unfold dE
    split
    ·rfl
    ·rw [bM hi2]
  ·rw [List.mem_singleton.1 he2]
   exact ⟨t,het,v2,by rw [hN]⟩
 ·rw [List.map_append,List.nodup_append]
  refine ⟨hok6.nd,by simp,?_⟩
  intro x hx y hy
  obtain ⟨e,he2,rfl⟩:=List.mem_map.1 hx
  simp only [List.map_cons,List.map_nil,List.mem_singleton] at hy
  rw [hy]
  exact hL2new e he2
 ·intro e he2
  rcases List.mem_append.1 he2 with he2|he2
  ·rcases gr2 e he2 with h|⟨u,hu,hsz⟩
   ·rcases gr1 e h with h|⟨u,hu,hsz⟩
    ·exact .inl h
    ·exact .inr ⟨u,hu,by have:=D.sl;omega⟩
   ·exact .inr ⟨u,hu,by have:=D.sh;omega⟩
  ·rw [List.mem_singleton.1 he2]
   exact .inr ⟨t,het,Nat.le_refl _⟩
theorem Fy (hf:RF p):∀(n:Nat) (t:Nat->Tr),szs t<=n->p.in2 t->RAt p t:=by
 intro n
 induction n with
 |zero=>intro t hn;have:=o8 (t 0);unfold szs at hn;omega
 |succ n ih=>
  intro t hn ht F0 F S Ls he hs hfit
  obtain ⟨hle,hnb,hcl,hok,nodes,cK,hb,hon,hnn,hos,hsn⟩:=id hs
  refine PD ?_
  unfold J9
  have rest:¬((t 0).isL=true/\(t 1).isL=true)->kU (some ⟨p.bp,0,none⟩) (num p.A (t 0)) (num p.B (t 1)) false (fun r F'=>r=vi (num (vis (p.q.res t) S) (p.q.res t))/\∃Ls',RS F0 F' p (vis (p.q.res t) S) Ls'/\Fx p Ls Ls' (szs t)) F:=by
   intro hnl
   unfold kU
   refine ⟨fun h=>(by cases h),fun _=> ?_⟩
   have hslen:=hos.rd.blen
   have hL:=hok.length
   have hfP:=hf.fP
   have csn:F.cell (Addr.add ⟨p.bp,0,none⟩ 6)=some cK.v:=by rw [aK,am hb];rfl
   refine ⟨fun m i F'=>∃k:Nat,i=k/\k<=Ls.length/\m=Ls.length - k/\F'=F/\∀e∈Ls.take k,¬(e.v=(num p.A (t 0):Int)/\e.l=(num p.B (t 1):Int)),Ls.length,⟨0,rfl,by omega,rfl,rfl,by simp⟩,?_⟩
   rintro m i F' ⟨k,rfl,hk,rfl,rfl,hnot⟩
   unfold Aw
   refine ⟨_,rfl,cK,csn,fun hlt=> ?_,fun hge=> ?_⟩
   ·have hkL:k<Ls.length:=by omega
    obtain ⟨a,ha,_,hx,hy,hh⟩:=rdb hos.rd (List.getElem?_eq_getElem hkL)
    have hw1:IntKind.i64.wrap ((k:Int)+1)=((k+1:Nat):Int):=fd (by omega)
    have next:¬(Ls[k].v=(num p.A (t 0):Int)/\Ls[k].l=(num p.B (t 1):Int))->∃m',m'<Ls.length - k/\∃k':Nat,((k+1:Nat):Int)=k'/\k'<=Ls.length/\m'=Ls.length - k'/\F'=F'/\∀e∈Ls.take k',¬(e.v=(num p.A (t 0):Int)/\e.l=(num p.B (t 1):Int)):=fun hne=>
     ⟨Ls.length - (k+1),by omega,k+1,rfl,by omega,rfl,rfl,fun e he2=>by
      rw [List.take_succ_eq_append_getElem hkL] at he2
      rcases List.mem_append.1 he2 with he2|he2
      ·exact hnot e he2
      ·rw [List.mem_singleton.1 he2];exact hne⟩
    have ax:F'.cell (Addr.add (Addr.add a (Int.toNat (k:Int)*3)) (Int.toNat 0*1))=some (vi Ls[k].v):=by
     obtain ⟨ab,ao,asp⟩:=a
     obtain ⟨b',o',hb',_⟩:=hos.rd.cells (by omega)
     rw [ha] at hb'
     cases hb'
     simpa using hx
    refine ⟨cK,csn,a,ha,by omega,by omega,by omega,by omega,_,ax,fun hx1=> ?_,fun hx1=> ?_⟩
    ·have ay:F'.cell (Addr.add (Addr.add a (Int.toNat (k:Int)*3)) (Int.toNat 1*1))=some (vi Ls[k].l):=by simpa using hy
     refine ⟨cK,csn,a,ha,by omega,by omega,by omega,by omega,_,ay,?_⟩
     unfold nL
     refine ⟨fun hy1=> ?_,fun hy1=> ?_⟩
     ·have hy1:=of_decide_eq_true hy1
      have ah:F'.cell (Addr.add (Addr.add a (Int.toNat (k:Int)*3)) (Int.toNat 2*1))=some (vi Ls[k].h):=by simpa using hh
      obtain ⟨u,hu,hi2,hh2⟩:=hok.all _ (List.getElem_mem hkL)
      have e:=(yy hf hu (w:=t) ⟨ht,hx1,hy1⟩).1
      rw [e] at hi2 hh2
      have hvi:=jh hi2
      refine ⟨cK,csn,a,ha,by omega,by omega,by omega,by omega,_,ah,?_⟩
      rw [hvi,hh2]
      exact ⟨rfl,Ls,hs,fun e he2=> .inl he2⟩
     ·rw [hw1]
      exact next fun hc=>of_decide_eq_false hy1 hc.2
    ·unfold nL
     refine ⟨fun h=>(by cases h),fun _=> ?_⟩
     rw [hw1]
     exact next fun hc=>hx1 hc.1
   ·refine Np hf ht (fun u hu hlt=>ih u (by omega) hu) he hs hfit hnl (fun e he2=> ?_) fun F' Ls' h1 h2=>⟨rfl,Ls',h1,h2⟩
    have hkL:k=Ls.length:=by omega
    rw [hkL,List.take_length] at hnot
    exact hnot e he2
  refine ⟨fun hx=> ?_,fun hx=>rest fun hc=>hx (kZ.2 hc.1)⟩
  by_cases hy:(t 1).isL=true
  ·have e:decide ((num p.B (t 1):Int)<2)=true:=decide_eq_true (kZ.2 hy)
   rw [e]
   have hx':=kZ.1 hx
   unfold kU
   refine ⟨fun _=> ?_,fun h=>by cases h⟩
   have hres:∀x0 x1:Bool,t 0=leaf x0->t 1=leaf x1->p.q.res t=leaf (p.o x0 x1):=fun x0 x1 e0 e1=>by
    unfold AP.res
    rw [e0,e1,ht.2.2]
    exact zH _ _ _ _
   generalize ht0:t 0=y0 at*
   generalize ht1:t 1=y1 at*
   cases y0 with
   |node _ _ _=>cases hx'
   |leaf x0=>
    cases y1 with
    |node _ _ _=>cases hy
    |leaf x1=>
     have hr:=hres x0 x1 rfl rfl
     rw [hr]
     refine (uz hf hb x0 x1).mono ?_
     rintro _ F' ⟨rfl,rfl⟩
     exact ⟨_,rfl,rfl,Ls,hs,fun e he2=> .inl he2⟩
  ·have e:decide ((num p.B (t 1):Int)<2)=false:=decide_eq_false (fun h=>hy (kZ.1 h))
   rw [e]
   exact rest fun hc=>hy hc.2
end
noncomputable abbrev ap2 (o:Op2) (a b:Tr):Tr:=ap (fun x y _=>o x y) a b (leaf false)
structure F2 (o:Op2) (a b:Tr):Prop where
 ka:a.ok
 kb:b.ok
 fA:Fit ((aH a).length+2)
 fB:Fit ((aH b).length+2)
 fP:Fit (((aH a).length+2)*((aH b).length+2)+2)
 fT:Fit ((aH (ap2 o a b)).length+4)
theorem gC {o:Op2} {a b:Tr} (ha:a.ok) (hb:b.ok):(ap2 o a b).ok/\∀c,(ap2 o a b).ev c=o (a.ev c) (b.ev c):=by
 obtain ⟨h1,_,h2⟩:=gl (o:=fun x y _=>o x y) ha hb (d:=leaf false) trivial
 exact ⟨h1,h2⟩
section
variable {F:PH} {v w:Array Value} {a b:Tr}
theorem gh {o:Op2} {opc:Int} (hop:(opc=0/\o=i8)\/(opc=1/\o=oOr)\/(opc=2/\o=i9)) (ha:DV F v (dia a)) (hb:DV F w (dia b)) (h:F2 o a b):
  ae prog 166 #[.agg v,.agg w,vi opc] F fun r F'=>∃u,r=.agg u/\DV F' u (dia (ap2 o a b))/\F.le F':=by
 obtain ⟨ka,kb,fA,fB,fP,fT⟩:=h
 obtain ⟨sa,rfl,hra⟩:=ha
 obtain ⟨sb,rfl,hrb⟩:=hb
 refine Pz ?_
 unfold J5
 intro b3 hb3
 refine atI ?_
 have l3:=ac (.cells #[sa.v,vi (dia a).2] 33) hb3
 have q3:=an F b3 (.cells #[sa.v,vi (dia a).2] 33)
 generalize F.set b3 (.cells #[sa.v,vi (dia a).2] 33)=F3 at*
 intro b4 hb4
 refine atI ?_
 have lx:=ac (.cells #[sb.v,vi (dia b).2] 33) hb4
 have q4:=an F3 b4 (.cells #[sb.v,vi (dia b).2] 33)
 replace q3:=lx _ _ q3
 have l4:=l3.trans lx
 clear lx
 generalize F3.set b4 (.cells #[sb.v,vi (dia b).2] 33)=F4 at*
 intro b6 hb6
 refine atI ?_
 have f6:F b6=none:=aV l4 hb6
 have lx:=ac (.cells #[Value.slice none 0 0,Value.int .i64 0] 33) hb6
 have q6:=an F4 b6 (.cells #[Value.slice none 0 0,Value.int .i64 0] 33)
 replace q3:=lx _ _ q3
 replace q4:=lx _ _ q4
 have l6:=l4.trans lx
 clear lx
 generalize F4.set b6 (.cells #[Value.slice none 0 0,Value.int .i64 0] 33)=F6 at*
 refine ⟨#[sa.v,vi (dia a).2],rfl,aj q3,#[sb.v,vi (dia b).2],rfl,aj q4,rfl,rfl,fun b13 hb13=> ?_⟩
 refine atI ?_
 let p:RP:=⟨b13,sa,sb,opc,o,dia a,dia b,aH a,aH b⟩
 have e13:(Array.setIfInBounds (wr (wr (#[Value.slice none 0 0,Value.int .i64 0,Value.slice none 0 0,Value.int .i64 0,Value.int .i64 0,Value.slice none 0 0,Value.slice none 0 0]:Array Value) 0 (#[sa.v,vi (dia a).2]:Array Value).toList) 2 (#[sb.v,vi (dia b).2]:Array Value).toList) 4 (Value.int .i64 opc))=p.obj Sl.nil Sl.nil:=rfl
 rw [e13]
 have lx:=ac (.cells (p.obj Sl.nil Sl.nil) 296) hb13
 have q13:=an F6 b13 (.cells (p.obj Sl.nil Sl.nil) 296)
 have q3':=lx _ _ q3
 have q4':=lx _ _ q4
 have hrf:RF p:=⟨cx ka,cx kb,List.prefix_refl _,List.prefix_refl _,by show Fit ((brs (aH a)).length+2);rw [aO];exact fA,by show Fit ((brs (aH b)).length+2);rw [aO];exact fB,fP,hop⟩
 have hre:RE F6 p:=⟨hra.le l6,hrb.le l6⟩
 have hrs:RS F6 (F6.set b13 (.cells (p.obj Sl.nil Sl.nil) 296)) p [] []:=⟨lx,hb13,.nil,⟨fun e he=>(by cases he),by simp⟩,Sl.nil,Sl.nil,q13,.inl ⟨rfl,rfl⟩,fun a ha=>(by cases ha),.inl ⟨rfl,rfl⟩,fun a ha=>by cases ha⟩
 generalize F6.set b13 (.cells (p.obj Sl.nil Sl.nil) 296)=F7 at*
 refine ⟨(dia a).2,by rw [am q3'];rfl,(dia b).2,by rw [am q4'];rfl,?_⟩
 have hres:p.q.res (xf a b (leaf false))=ap2 o a b:=rfl
 have hat:=Fy hrf _ (xf a b (leaf false)) (Nat.le_refl _) ⟨ce ka,ce kb,rfl⟩ F6 F7 [] [] hre hrs (by rw [hres];exact fT)
 rw [hres] at hat
 refine hat.mono ?_
 rintro _ F8 ⟨rfl,Ls',hs8,_⟩
 obtain ⟨hle8,hnb8,hcl8,_,nodes,cK,hb8,hon8,hnn8,_,_⟩:=hs8
 replace hb8:F8 b13=some (.cells (p.obj nodes cK) 296):=hb8
 refine ⟨_,rfl,nodes,by rw [am hb8];rfl,?_⟩
 have ev:vis (ap2 o a b) []=aH (ap2 o a b):=rfl
 rw [ev] at*
 have q68:=hle8 _ _ q6
 have hon':bA (dX F8 b6) 103 3 nodes (aS (brs (aH (ap2 o a b)))):=hon8.keep fun a ha=>fS (fun e=>by
  have:=hnn8 a ha
  rw [e,q6] at this
  cases this)
 have hkT:=(gC (o:=o) ka kb).1
 refine (fU (jM hon'.rd hcl8 (ce hkT) fT) q68).mono ?_
 rintro _ F9 ⟨u,rfl,⟨G,hu,lG,gG⟩,l9,q9⟩
 refine ⟨_,rfl,?_⟩
 exact gD (K:=fun vres F'=>∃u,Value.agg vres=.agg u/\DV F' u (dia (ap2 o a b))/\F.le F') hu q9 rfl ⟨_,rfl,hu.le (aw lG gG),aw (l6.trans (hle8.trans l9)) f6⟩
theorem qx (ha:DV F v (dia a)) (hb:DV F w (dia b)) (h:F2 i8 a b):ae prog 170 #[.agg v,.agg w] F fun r F'=>∃u,r=.agg u/\DV F' u (dia (ap2 i8 a b))/\F.le F':=by
 refine PB ?_
 unfold J7
 intro b2 hb2
 refine atI ?_
 have l2:=ac (.cells v 33) hb2
 have q2:=an F b2 (.cells v 33)
 generalize F.set b2 (.cells v 33)=F2 at*
 intro b3 hb3
 refine atI ?_
 have lx:=ac (.cells w 33) hb3
 have q3:=an F2 b3 (.cells w 33)
 replace q2:=lx _ _ q2
 have l3:=l2.trans lx
 clear lx
 generalize F2.set b3 (.cells w 33)=F3 at*
 intro b4 hb4
 refine atI ?_
 have f4:F b4=none:=aV l3 hb4
 have lx:=ac (.cells #[Value.slice none 0 0,Value.int .i64 0] 33) hb4
 have q4:=an F3 b4 (.cells #[Value.slice none 0 0,Value.int .i64 0] 33)
 replace q2:=lx _ _ q2
 replace q3:=lx _ _ q3
 have l4:=l3.trans lx
 clear lx
 generalize F3.set b4 (.cells #[Value.slice none 0 0,Value.int .i64 0] 33)=F4 at*
 refine ⟨v,ha.size,aj q2,w,hb.size,aj q3,?_⟩
 have ld:=fz l4 f4
 refine (fU (gh (opc:=0) (.inl ⟨rfl,rfl⟩) (ha.le ld) (hb.le ld) h) q4).mono ?_
 rintro _ F5 ⟨z,rfl,⟨G,hz,lG,gG⟩,l5,q5⟩
 refine ⟨_,rfl,?_⟩
 exact gD (K:=fun vres F'=>∃u,Value.agg vres=.agg u/\DV F' u (dia (ap2 i8 a b))/\F.le F') hz q5 rfl ⟨_,rfl,hz.le (aw lG gG),aw (l4.trans l5) f4⟩
theorem yz (ha:DV F v (dia a)) (hb:DV F w (dia b)) (h:F2 oOr a b):ae prog 169 #[.agg v,.agg w] F fun r F'=>∃u,r=.agg u/\DV F' u (dia (ap2 oOr a b))/\F.le F':=by
 refine PA ?_
 unfold J6
 intro b2 hb2
 refine atI ?_
 have l2:=ac (.cells v 33) hb2
 have q2:=an F b2 (.cells v 33)
 generalize F.set b2 (.cells v 33)=F2 at*
 intro b3 hb3
 refine atI ?_
 have lx:=ac (.cells w 33) hb3
 have q3:=an F2 b3 (.cells w 33)
 replace q2:=lx _ _ q2
 have l3:=l2.trans lx
 clear lx
 generalize F2.set b3 (.cells w 33)=F3 at*
 intro b4 hb4
 refine atI ?_
 have f4:F b4=none:=aV l3 hb4
 have lx:=ac (.cells #[Value.slice none 0 0,Value.int .i64 0] 33) hb4
 have q4:=an F3 b4 (.cells #[Value.slice none 0 0,Value.int .i64 0] 33)
 replace q2:=lx _ _ q2
 replace q3:=lx _ _ q3
 have l4:=l3.trans lx
 clear lx
 generalize F3.set b4 (.cells #[Value.slice none 0 0,Value.int .i64 0] 33)=F4 at*
 refine ⟨v,ha.size,aj q2,w,hb.size,aj q3,?_⟩
 have ld:=fz l4 f4
 refine (fU (gh (opc:=1) (.inr (.inl ⟨rfl,rfl⟩)) (ha.le ld) (hb.le ld) h) q4).mono ?_
 rintro _ F5 ⟨z,rfl,⟨G,hz,lG,gG⟩,l5,q5⟩
 refine ⟨_,rfl,?_⟩
 exact gD (K:=fun vres F'=>∃u,Value.agg vres=.agg u/\DV F' u (dia (ap2 oOr a b))/\F.le F') hz q5 rfl ⟨_,rfl,hz.le (aw lG gG),aw (l4.trans l5) f4⟩
theorem qy (ha:DV F v (dia a)) (h:F2 i9 a (leaf true)):ae prog 97 #[.agg v] F fun r F'=>∃u,r=.agg u/\DV F' u (dia (ap2 i9 a (leaf true)))/\F.le F':=by
 refine Un ?_
 unfold Px
 intro b2 hb2
 refine atI ?_
 have l2:=ac (.cells v 33) hb2
 have q2:=an F b2 (.cells v 33)
 generalize F.set b2 (.cells v 33)=F3 at*
 intro b4 hb4
 refine atI ?_
 have f4:F b4=none:=aV l2 hb4
 have lx:=ac (.cells #[Value.slice none 0 0,Value.int .i64 0] 33) hb4
 have q4:=an F3 b4 (.cells #[Value.slice none 0 0,Value.int .i64 0] 33)
 replace q2:=lx _ _ q2
 have l4:=l2.trans lx
 clear lx
 generalize F3.set b4 (.cells #[Value.slice none 0 0,Value.int .i64 0] 33)=F4 at*
 refine ⟨v,ha.size,aj q2,?_⟩
 refine (fU (cE (F:=dX F4 b4) true) q4).mono ?_
 rintro _ F5 ⟨y,rfl,⟨G0,hy,lG0,gG0⟩,l5,q5⟩
 refine ⟨_,rfl,aj (l5 _ _ q2),?_⟩
 have ld:=fz (l4.trans l5) f4
 refine (fU (gh (opc:=2) (.inr (.inr ⟨rfl,rfl⟩)) (ha.le ld) (hy.beside lG0 gG0) h) q5).mono ?_
 rintro _ F6 ⟨z,rfl,⟨G,hz,lG,gG⟩,l6,q6⟩
 refine ⟨_,rfl,?_⟩
 exact gD (K:=fun vres F'=>∃u,Value.agg vres=.agg u/\DV F' u (dia (ap2 i9 a (leaf true)))/\F.le F') hz q6 rfl ⟨_,rfl,hz.le (aw lG gG),aw (l4.trans (l5.trans l6)) f4⟩
theorem yA (ha:DV F v (dia a)) (hb:DV F w (dia b)) (h1:F2 i9 b (leaf true)) (h2:F2 i8 a (ap2 i9 b (leaf true))):
  ae prog 171 #[.agg v,.agg w] F fun r F'=>∃u,r=.agg u/\DV F' u (dia (ap2 i8 a (ap2 i9 b (leaf true))))/\F.le F':=by
 refine PC ?_
 unfold J8
 intro b2 hb2
 refine atI ?_
 have l2:=ac (.cells v 33) hb2
 have q2:=an F b2 (.cells v 33)
 generalize F.set b2 (.cells v 33)=F2 at*
 intro b3 hb3
 refine atI ?_
 have lx:=ac (.cells w 33) hb3
 have q3:=an F2 b3 (.cells w 33)
 replace q2:=lx _ _ q2
 have l3:=l2.trans lx
 clear lx
 generalize F2.set b3 (.cells w 33)=F3 at*
 intro b4 hb4
 refine atI ?_
 have f4:F b4=none:=aV l3 hb4
 have lx:=ac (.cells #[Value.slice none 0 0,Value.int .i64 0] 33) hb4
 have q4:=an F3 b4 (.cells #[Value.slice none 0 0,Value.int .i64 0] 33)
 replace q2:=lx _ _ q2
 replace q3:=lx _ _ q3
 have l4:=l3.trans lx
 clear lx
 generalize F3.set b4 (.cells #[Value.slice none 0 0,Value.int .i64 0] 33)=F4 at*
 refine ⟨v,ha.size,aj q2,w,hb.size,aj q3,?_⟩
 refine (fU (qy (hb.le (fz l4 f4)) h1) q4).mono ?_
 rintro _ F5 ⟨y,rfl,⟨G0,hy,lG0,gG0⟩,l5,q5⟩
 refine ⟨_,rfl,aj (l5 _ _ q2),?_⟩
 refine (fU (qx (ha.le (fz (l4.trans l5) f4)) (hy.beside lG0 gG0) h2) q5).mono ?_
 rintro _ F6 ⟨z,rfl,⟨G,hz,lG,gG⟩,l6,q6⟩
 refine ⟨_,rfl,?_⟩
 exact gD (K:=fun vres F'=>∃u,Value.agg vres=.agg u/\DV F' u (dia (ap2 i8 a (ap2 i9 b (leaf true))))/\F.le F') hz q6 rfl ⟨_,rfl,hz.le (aw lG gG),aw (l4.trans (l5.trans l6)) f4⟩
end
end Go.Proofs.YtenpmjhnhepfdaaGreatDoor
