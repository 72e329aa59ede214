/-
  Trees over few conditions; the sets that the laws take.
-/
import Derived.Test.YtenpmjhnhepfdaaGreatDoorEx
namespace Go.Proofs.YtenpmjhnhepfdaaGreatDoor
open Go.IntKind (i64 u8 u64)
open Go Go.Proofs.Tryz Tr
set_option maxRecDepth 10000
theorem bj.keepK {F G:PH} {e size:Nat} {s:Sl} {vs:Ξ} {fp:Nat->Prop} (h:bj F e size s vs) (hk:cG fp F G) (hn:∀a,s.base=some a->¬fp a.block):bj G e size s vs:=by
 rcases h with h|⟨b,cur,h1,h2,h3⟩
 ·exact .inl h
 ·exact .inr ⟨b,cur,h1,hk _ _ h2 (hn _ h1),h3⟩
section
variable {F0 F:PH} {l:Sl} {S:List Tr}
theorem yc (hle:F0.le F) (ho:bj F 103 3 l (aS (brs S))) (hb:∀a,l.base=some a->F0 a.block=none) (hS:Cl S) {v:Nat} {A B:Tr} (hA:inn S A) (hB:inn S B) (hf:Fit (S.length+4)):
  ae prog 233 #[l.v,.agg (aR ⟨(v:Int),(num S A:Int),(num S B:Int)⟩)] F λr F'=>∃l',r=.tuple #[l'.v,vi (num (dR S (mk v A B)) (mk v A B))]/\F0.le F'/\bj F' 103 3 l' (aS (brs (dR S (mk v A B))))/\
   (∀a,l'.base=some a->F0 a.block=none)/\cG (λb=>∃a,l.base=some a/\a.block=b) F F':=by
 have hlen:=ho.rd.blen;rw [aQ] at hlen;refine Q6 ?_;unfold LY;intro b3 hb3;refine atI ?_;have l3:=ac (.cells (aR ⟨(v:Int),(num S A:Int),(num S B:Int)⟩) 103) hb3;have q3:=aq F b3 (.cells (aR ⟨(v:Int),(num S A:Int),(num S B:Int)⟩) 103);have n3:∀a,l.base=some a->a.block≠b3:=λa ha=>by obtain ⟨cur,hcur⟩:=ho.elem ha;exact aJ hb3 hcur
 replace ho:=ho.upto l3;replace hle:=hle.trans l3;generalize F.set b3 (.cells (aR ⟨(v:Int),(num S A:Int),(num S B:Int)⟩) 103)=F1 at*;refine ⟨_,by rw [an q3];rfl,_,by rw [an q3];rfl,λhe=> ?_,λhe=> ?_⟩
 ·obtain rfl:=dK hA hB (by have:(num S A:Int)=num S B:=he;omega);have e:mk v A A=A:=by simp [mk]
  have e2:dR S A=S:=by unfold dR;rw [if_pos hA]
  rw [e,e2];exact ⟨_,by rw [an q3];rfl,l,rfl,hle,ho,hb,cG.of_le l3⟩
 have hAB:A≠B:=λe=>he (by rw [e]);have emk:mk v A B=node v A B:=by simp [mk,hAB]
 rw [emk];have hbr:br S (node v A B)=⟨(v:Int),(num S A:Int),(num S B:Int)⟩:=rfl;refine ⟨λm i F'=>∃k:Nat,i=k/\k<=S.length/\m=S.length - k/\F'=F1/\br S (node v A B) ∉ (brs S).take k,S.length,⟨0,rfl,by omega,rfl,rfl,by simp⟩,?_⟩;rintro m i F' ⟨k,rfl,hk,rfl,rfl,hnot⟩;unfold Bg;refine ⟨λhlt=> ?_,λhge=> ?_⟩
 ·have hkS:k<S.length:=by omega
  have hkB:k<(brs S).length:=by rw [aQ];exact hkS
  obtain ⟨p,hp,hpr,_⟩:=rdb ho.rd (N4 hkB);refine ⟨p,hp,by omega,hlt,aR (brs S)[k],rfl,by simpa using hpr,aR (br S (node v A B)),rfl,aj q3,decide ((brs S)[k]=br S (node v A B)),λF=>FY (brs S)[k] (br S (node v A B)) F,λheq=> ?_,λhne=> ?_⟩
  ·have heq':(brs S)[k]=br S (node v A B):=of_decide_eq_true heq;have hm:node v A B∈S:=(ig hS hA hB).1 (by rw [<- heq'];exact Yv _);have hSk:S[k]=node v A B:=HF hS (Yv hkS) hm (by rw [<- heq'];simp [brs]);have e2:dR S (node v A B)=S:=by unfold dR;rw [if_pos (.inr hm)]
   have hn:=eA hS (k:=k) (t:=node v A B) (by rw [N4 hkS,hSk]);have hw:i64.wrap ((k:Int)+2)=((k+2:Nat):Int):=by rw [aH (by omega) (by omega)];omega
   rw [e2,hn,hw];exact ⟨l,rfl,hle,ho,hb,cG.of_le l3⟩
  ·refine ⟨S.length - (k+1),by omega,k+1,fC (by omega),by omega,rfl,rfl,?_⟩;rw [XR hkB];intro hc;rcases XD.1 hc with hc|hc
   ·exact hnot hc
   ·rw [XC] at hc;rw [hc] at hne;simp at hne
 ·have hk':k=S.length:=by omega
  have hm:node v A B ∉ S:=λhm=>hnot (by
   rw [hk',XK (by rw [aQ];omega)]
   exact (ig hS hA hB).2 hm)
  have e2:dR S (node v A B)=S++[node v A B]:=by
   unfold dR;rw [if_neg];rintro (hc|hc)
   ·cases hc
   ·exact hm hc
  rw [e2];unfold Bf;refine ⟨aR (br S (node v A B)),rfl,aj q3,rfl,λb32 hb32=> ?_⟩;refine atI ?_;have l32:=ac (.cells (aR (br S (node v A B))) 103) hb32;have q32:=aq F' b32 (.cells (aR (br S (node v A B))) 103);have ho2:=ho.upto l32;have hle2:=hle.trans l32;generalize F'.set b32 (.cells (aR (br S (node v A B))) 103)=F2 at*;refine iw underlying31 x7 x8 rfl (by decide) hle2 ho2 hb (x:=⟨some ⟨b32,0,none⟩,1,1⟩) (news:=di (br S (node v A B))) (RdS.new q32 rfl rfl (XA _)) (λx hx=>jd [br S (node v A B)] x (by simpa [aS] using hx)) (by simp only [hlen];omega) (by simp only [hlen];omega) ?_;intro s' F3 hle3 ho3 hlen3 hs3 hk3 _;have hw:i64.wrap ((s'.len:Int)+1)=((S.length+2:Nat):Int):=by rw [hlen3,hlen,aH (by simp only;omega) (by simp only;omega)];simp only;omega
  have e3:aS (brs (S++[node v A B]))=aS (brs S)++di (br S (node v A B)):=by rw [eY hS hA hB,<- hbr,eT];simp [aS]
  refine ⟨s',rfl,s',?_,hle3,by rw [e3];exact ho3,hs3,λx ob hx hn=>hk3 _ _ (l32 _ _ (l3 _ _ hx)) hn⟩;rw [hw];have hl2:num (S++[node v A B]) (node v A B)=S.length+2:=by simp only [num,List.idxOf_append,if_neg hm];simp
  rw [hl2]
end
structure RP where
 bp:Nat
 sa:Sl
 sb:Sl
 opc:Int
 o:Op2
 da:Dia
 db:Dia
 A:List Tr
 B:List Tr
def RP.q (p:RP):AP:=⟨0,0,0,0,0,0,0,0,.nilFunc,λx y _=>p.o x y,xy p.da p.db i8,xy p.A p.B []⟩
def RP.in2 (p:RP) (t:Nat->Tr):Prop:=inn p.A (t 0)/\inn p.B (t 1)/\t 2=leaf false
theorem RP.in2_in {p:RP} {t:Nat->Tr} (h:p.in2 t):p.q.inK t:=⟨h.1,h.2.1,by rw [h.2.2];exact eW _ _⟩
def RP.obj (p:RP) (nodes cL:Sl):Γ:= #[p.sa.v,vi p.da.2,p.sb.v,vi p.db.2,vi p.opc,nodes.v,cL.v]
structure RF (p:RP):Prop where
 cA:Cl p.A
 cB:Cl p.B
 pA:brs p.A<+:p.da.1
 pB:brs p.B<+:p.db.1
 fA:Fit (p.da.1.length+2)
 fB:Fit (p.db.1.length+2)
 fP:Fit ((p.A.length+2)*(p.B.length+2)+2)
 op:(p.opc=0/\p.o=i9)\/(p.opc=1/\p.o=oOr)\/(p.opc=2/\p.o=ja)
theorem RF.af {p:RP} (h:RF p):AF p.q:=by
 refine ⟨λi hi=> ?_,λi hi=> ?_,λi hi=> ?_⟩
 ·match i,hi with
  |0,_=>exact h.cA
  |1,_=>exact h.cB
  |2,_=>exact .nil
 ·match i,hi with
  |0,_=>exact h.pA
  |1,_=>exact h.pB
  |2,_=>exact List.prefix_refl _
 ·match i,hi with
  |0,_=>exact h.fA
  |1,_=>exact h.fB
  |2,_=>simp [RP.q,xy]
structure RE (F0:PH) (p:RP):Prop where
 a:RdS F0 p.sa 3 (aS p.da.1)
 b:RdS F0 p.sb 3 (aS p.db.1)
theorem RE.le {F0 G:PH} {p:RP} (h:RE F0 p) (hl:F0.le G):RE G p:=⟨h.a.le hl,h.b.le hl⟩
structure Ent (p:RP) (e:Br) (u:Nat->Tr):Prop where
 i:p.in2 u
 x:e.v=(num p.A (u 0):Int)
 y:e.l=(num p.B (u 1):Int)
structure PM (p:RP) (S:List Tr) (Ls:List Br):Prop where
 all:∀e∈Ls,∃u,Ent p e u/\inn S (p.q.res u)/\e.h=(num S (p.q.res u):Int)
 nd:(Ls.map λe=>(e.v,e.l)).Nodup
def HP (p:RP) (Ls Ls':List Br) (n:Nat):Prop:=∀e∈Ls',e∈Ls\/∃u,Ent p e u/\szs u<=n
theorem zS {p:RP} (hf:RF p) {e:Br} {u w:Nat->Tr} (hu:Ent p e u) (hw:Ent p e w):p.q.res u=p.q.res w/\szs u=szs w:=by
 have h0:u 0=w 0:=dK hu.i.1 hw.i.1 (by have:=hu.x;have:=hw.x;omega);have h1:u 1=w 1:=dK hu.i.2.1 hw.i.2.1 (by have:=hu.y;have:=hw.y;omega);have h2:u 2=w 2:=by rw [hu.i.2.2,hw.i.2.2]
 unfold AP.res szs;rw [h0,h1,h2];exact ⟨rfl,rfl⟩
theorem PM.length {p:RP} {S:List Tr} {Ls:List Br} (h:PM p S Ls):Ls.length<=(p.A.length+2)*(p.B.length+2):=by
 have hl:((List.range (p.A.length+2)).flatMap λ(i:Nat)=>(List.range (p.B.length+2)).map λ(j:Nat)=>((i:Int),(j:Int))).length=(p.A.length+2)*(p.B.length+2):=by simp only [List.length_flatMap,XH,Ym,List.map_const',List.sum_replicate_nat]
 have:=dG (Ls.map λe=>(e.v,e.l)) ((List.range (p.A.length+2)).flatMap λ(i:Nat)=>(List.range (p.B.length+2)).map λ(j:Nat)=>((i:Int),(j:Int))) h.nd λx hx=>by obtain ⟨e,he,rfl⟩:=X3.1 hx;obtain ⟨u,hu,_⟩:=h.all e he;have h1:=cS hu.i.1;have h2:=cS hu.i.2.1;exact List.mem_flatMap.2 ⟨num p.A (u 0),Yu.2 (by omega),X3.2 ⟨num p.B (u 1),Yu.2 (by omega),by rw [hu.x,hu.y]⟩⟩
 rw [hl,XH] at this;exact this
structure RS (F0 F:PH) (p:RP) (S:List Tr) (Ls:List Br):Prop where
 le:F0.le F
 nb:F0 p.bp=none
 cl:Cl S
 ok:PM p S Ls
 ex:∃nodes cL:Sl,F p.bp=some (.cells (p.obj nodes cL) 296)/\bj F 103 3 nodes (aS (brs S))/\(∀a,nodes.base=some a->F0 a.block=none)/\bj F 289 3 cL (aS Ls)/\(∀a,cL.base=some a->F0 a.block=none)
theorem vI {F:PH} {p:RP} {nodes cL:Sl} (hf:RF p) (hb:F p.bp=some (.cells (p.obj nodes cL) 296)) (x y:Bool):
  ae prog 230 #[.pointer (some ⟨p.bp,0,none⟩),vi (if x then 1 else 0:Nat),vi (if y then 1 else 0:Nat)] F λr F'=>r=vi (if p.o x y then 1 else 0:Nat)/\F'=F:=by
 refine Q3 ?_;unfold LV;refine ⟨_,rfl,p.opc,by rw [av,an hb];rfl,λh=> ?_,λh=>⟨λh1=> ?_,λh1=> ?_⟩⟩
 ·have ho:p.o=i9:=by rcases hf.op with h'|h'|h'<;>first|exact h'.2|(exfalso;omega)
  rw [ho];cases x<;>cases y<;>exact ⟨congrArg (Value.int .i64) (by decide),rfl⟩
 ·have ho:p.o=oOr:=by rcases hf.op with h'|h'|h'<;>first|exact h'.2|(exfalso;omega)
  rw [ho];cases x<;>cases y<;>exact ⟨congrArg (Value.int .i64) (by decide),rfl⟩
 ·have ho:p.o=ja:=by rcases hf.op with h'|h'|h'<;>first|exact h'.2|(exfalso;omega)
  rw [ho];cases x<;>cases y<;>exact ⟨congrArg (Value.int .i64) (by decide),rfl⟩
def RAt (p:RP) (t:Nat->Tr):Prop:=∀(F0 F:PH) (S:List Tr) (Ls:List Br),RE F0 p->RS F0 F p S Ls->Fit ((vis (p.q.res t) S).length+4)->
 ae prog 213 #[.pointer (some ⟨p.bp,0,none⟩),vi (num p.A (t 0)),vi (num p.B (t 1))] F λr F'=>r=vi (num (vis (p.q.res t) S) (p.q.res t))/\∃Ls',RS F0 F' p (vis (p.q.res t) S) Ls'/\HP p Ls Ls' (szs t)
section
variable {p:RP} {t:Nat->Tr} {F0 F:PH} {S:List Tr} {Ls:List Br}
theorem PN (hf:RF p) (ht:p.in2 t) (ih:∀u,p.in2 u->szs u<szs t->RAt p u) (he:RE F0 p) (hs:RS F0 F p S Ls) (hfit:Fit ((vis (p.q.res t) S).length+4)) (hn:¬((t 0).isL=true/\(t 1).isL=true))
  (hnew:∀e∈Ls,¬(e.v=(num p.A (t 0):Int)/\e.l=(num p.B (t 1):Int))) {R:Value->Ψ}
  (hR:∀F' Ls',RS F0 F' p (vis (p.q.res t) S) Ls'->HP p Ls Ls' (szs t)->R (vi (num (vis (p.q.res t) S) (p.q.res t))) F'):
  uY (some ⟨p.bp,0,none⟩) (num p.A (t 0)) (num p.B (t 1)) R F:=by
 have hv:bi (t 0) (t 1) (t 2)<64:=by
  have k0:=λhl=>HB (hf.cA.inn_ok ht.1) hl;have k1:=λhl=>HB (hf.cB.inn_ok ht.2.1) hl;unfold bi;cases e0:(t 0).isL with
  |false=>have:=k0 e0;omega
  |true=>
   cases e1:(t 1).isL with
   |false=>have:=k1 e1;omega
   |true=>exact absurd ⟨e0,e1⟩ hn
 have D:=Wj hf.af (RP.in2_in ht) hv;have hmin:min ((t 0).top:Int) ((t 1).top:Int)=((bi (t 0) (t 1) (t 2):Nat):Int):=by
  have h2:(t 2).top=64:=by rw [ht.2.2];rfl
  unfold bi at hv ⊢;rw [h2] at hv ⊢;omega
 have hlo2:∀v,lo v (t 2)=leaf false:=λv=>by rw [ht.2.2];rfl
 have hhi2:∀v,hi v (t 2)=leaf false:=λv=>by rw [ht.2.2];rfl
 obtain ⟨hle,hnb,hcl,hok,nodes,cL,hb,hon,hnn,hos,hsn⟩:=hs;have hs0:RS F0 F p S Ls:=⟨hle,hnb,hcl,hok,nodes,cL,hb,hon,hnn,hos,hsn⟩;unfold uY;have dA:∀{G:PH},F0.le G->DV G #[p.sa.v,vi p.da.2] p.da:=λhl=>⟨p.sa,rfl,(he.le hl).a⟩;have dB:∀{G:PH},F0.le G->DV G #[p.sb.v,vi p.db.2] p.db:=λhl=>⟨p.sb,rfl,(he.le hl).b⟩;have rowA:∀{G:PH} {n s:Sl},G p.bp=some (.cells (p.obj n s) 296)->G.row ⟨p.bp,0,none⟩ #[p.sa.v,vi p.da.2]:=λ{G n s} hG i hi=>by
  simp only [av];rw [an hG]
  match i,hi with
  |0,_=>rfl
  |1,_=>rfl
 have rowB:∀{G:PH} {n s:Sl},G p.bp=some (.cells (p.obj n s) 296)->G.row (Addr.add ⟨p.bp,0,none⟩ 2) #[p.sb.v,vi p.db.2]:=λ{G n s} hG i hi=>by
  simp only [av];rw [an hG]
  match i,hi with
  |0,_=>rfl
  |1,_=>rfl
 refine ⟨_,rfl,_,rfl,rowA hb,_,rfl,rowB hb,?_⟩;refine (fq (dA hle) hf.pA ht.1 hf.fA).mono ?_;rintro _ F1 ⟨rfl,l1⟩;have hb1:=l1 _ _ hb;refine ⟨_,rfl,rowB hb1,?_⟩;refine (fq (dB (hle.trans l1)) hf.pB ht.2.1 hf.fB).mono ?_;rintro _ F2 ⟨rfl,lx⟩;have l2:=l1.trans lx;have hb2:=l2 _ _ hb;refine ⟨_,rfl,_,rfl,rowA hb2,?_⟩;rw [hmin];generalize bi (t 0) (t 1) (t 2)=v at*;refine (nV (dA (hle.trans l2)) hf.pA ht.1 hf.fA D.lt).mono ?_;rintro _ F3 ⟨rfl,lx3⟩;have l3:=l2.trans lx3;have hb3:=l3 _ _ hb;refine ⟨_,_,rfl,_,rfl,rowB hb3,?_⟩;refine (nV (dB (hle.trans l3)) hf.pB ht.2.1 hf.fB D.lt).mono ?_;rintro _ F4 ⟨rfl,lx4⟩;have l4:=l3.trans lx4;refine ⟨_,_,rfl,?_⟩;have hs4:RS F0 F4 p S Ls:=⟨hle.trans l4,hnb,hcl,hok,nodes,cL,l4 _ _ hb,hon.upto l4,hnn,hos.upto l4,hsn⟩;have kl:p.in2 (λi=>lo v (t i)):=⟨D.il.1,D.il.2.1,hlo2 v⟩;have kh:p.in2 (λi=>hi v (t i)):=⟨D.ih.1,D.ih.2.1,hhi2 v⟩;obtain ⟨a1,a2,X,a3,a4⟩:=bE (p.q.res λi=>lo v (t i)) S D.ol hcl;obtain ⟨c1,c2,Y,c3,c4⟩:=bE (p.q.res λi=>hi v (t i)) (vis (p.q.res λi=>lo v (t i)) S) D.oh a1;have hadd:=xA hcl (v:=v) (l:=p.q.res λi=>lo v (t i)) (h:=p.q.res λi=>hi v (t i)) ⟨D.lt,D.tl,D.th,D.ol,D.oh⟩;rw [<- D.res] at hadd;have g1:=FR (p.q.res λi=>hi v (t i)) (vis (p.q.res λi=>lo v (t i)) S);have g2:=JR (vis (p.q.res λi=>hi v (t i)) (vis (p.q.res λi=>lo v (t i)) S)) (p.q.res t);rw [hadd] at g2;refine (ih _ kl D.sl F0 F4 S Ls he hs4 (by omega)).mono ?_;rintro _ F5 ⟨rfl,L1,hs5,gr1⟩;refine ⟨_,rfl,?_⟩;refine (ih _ kh D.sh F0 F5 _ L1 he hs5 (by omega)).mono ?_;rintro _ F6 ⟨rfl,L2,hs6,gr2⟩;obtain ⟨hle6,_,hcl6,hok6,nodes6,seen6,hb6,hon6,hnn6,hos6,hsn6⟩:=hs6;refine ⟨_,rfl,nodes6,by rw [av,an hb6];rfl,?_⟩;have hnl:num (vis (p.q.res λi=>lo v (t i)) S) (p.q.res λi=>lo v (t i))=num (vis (p.q.res λi=>hi v (t i)) (vis (p.q.res λi=>lo v (t i)) S)) (p.q.res λi=>lo v (t i)):=by rw [c3,bT a2]
 rw [hnl];have hil:inn (vis (p.q.res λi=>hi v (t i)) (vis (p.q.res λi=>lo v (t i)) S)) (p.q.res λi=>lo v (t i)):=by rw [c3];exact bK a2
 refine (yc hle6 hon6 hnn6 hcl6 (v:=v) hil c2 (by omega)).mono ?_;rintro _ F7 ⟨n7,rfl,hle7,hon7,hnn7,hk7⟩;rw [<- D.res,hadd] at hon7 ⊢;have nbn:∀a,nodes6.base=some a->a.block≠p.bp:=λa ha e=>by obtain ⟨cur,hcur⟩:=hon6.elem ha;rw [e,hb6] at hcur;simp at hcur
 have nns:∀a,seen6.base=some a->¬∃a',nodes6.base=some a'/\a'.block=a.block:=λa ha ⟨a',ha',e⟩=>by obtain ⟨cur,hcur⟩:=hon6.elem ha';obtain ⟨cur',hcur'⟩:=hos6.elem ha;rw [e,hcur'] at hcur;simp at hcur
 have hb7:=hk7 _ _ hb6 (λ⟨a,ha,e⟩=>nbn a ha e);have hos7:=hos6.keepK hk7 nns;refine ⟨_,_,rfl,?_⟩;refine qZ (b:=p.bp) (o:=5) (by simp) hb7 (by simp [RP.obj]) ?_;rw [show ((p.obj nodes6 seen6).setIfInBounds 5 n7.v:Γ)=p.obj n7 seen6 from rfl];have nb7:∀a,n7.base=some a->a.block≠p.bp:=λa ha e=>by obtain ⟨cur,hcur⟩:=hon7.elem ha;rw [e,hb7] at hcur;simp at hcur
 have nbs:∀a,seen6.base=some a->a.block≠p.bp:=λa ha e=>by obtain ⟨cur,hcur⟩:=hos7.elem ha;rw [e,hb7] at hcur;simp at hcur
 have hle8:F0.le (F7.set p.bp (.cells (p.obj n7 seen6) 296)):=aA hle7 hnb;have hb8:=aq F7 p.bp (.cells (p.obj n7 seen6) 296);have hon8:bj (F7.set p.bp (.cells (p.obj n7 seen6) 296)) 103 3 n7 (aS (brs (vis (p.q.res t) S))):=hon7.keep λa ha=>aC _ _ (nb7 a ha);have hos8:bj (F7.set p.bp (.cells (p.obj n7 seen6) 296)) 289 3 seen6 (aS L2):=hos7.keep λa ha=>aC _ _ (nbs a ha);generalize F7.set p.bp (.cells (p.obj n7 seen6) 296)=F8 at*;refine ⟨seen6,by rw [av,an hb8];rfl,rfl,λb132 hb132=> ?_⟩;refine atI ?_;generalize hN:num (vis (p.q.res t) S) (p.q.res t)=N at*;have lx9:=ac (.cells (aR ⟨(num p.A (t 0):Int),(num p.B (t 1):Int),(N:Int)⟩) 289) hb132;have q132:=aq F8 b132 (.cells (aR ⟨(num p.A (t 0):Int),(num p.B (t 1):Int),(N:Int)⟩) 289);show aG prog _ (F8.set b132 (.cells (aR ⟨(num p.A (t 0):Int),(num p.B (t 1):Int),(N:Int)⟩) 289)) _;have hle9:=hle8.trans lx9;have hb9:=lx9 _ _ hb8;have hon9:=hon8.upto lx9;have hos9:=hos8.upto lx9;generalize F8.set b132 (.cells (aR ⟨(num p.A (t 0):Int),(num p.B (t 1):Int),(N:Int)⟩) 289)=F9 at*;have hL2:=hok6.length;have hfP:=hf.fP;have hslen:=hos9.rd.blen;have MO:tsz prog 289=some (3,24):=by kernel_rfl
 have MP:bC prog 289=some (.agg #[.int .i64 0,.int .i64 0,.int .i64 0]):=by kernel_rfl
 refine iw underlying294 MO MP rfl (by decide) hle9 hos9 hsn6 (x:=⟨some ⟨b132,0,none⟩,1,1⟩) (news:=di ⟨(num p.A (t 0):Int),(num p.B (t 1):Int),(N:Int)⟩) (RdS.new q132 rfl rfl (XA _))
  (λx hx=>jd [⟨(num p.A (t 0):Int),(num p.B (t 1):Int),(N:Int)⟩] x (by simpa [aS] using hx)) (by simp only [hslen];omega) (by simp only [hslen];omega) ?_
 intro s10 F10 hle10 hos10 hlen10 hsn10 hk10 _;have nbs9:∀a,seen6.base=some a->a.block≠p.bp:=nbs;have hb10:=hk10 _ _ hb9 (λ⟨a,ha,e⟩=>nbs9 a ha e);have hon10:=hon9.keepK hk10 λa ha ⟨a',ha',e⟩=>by obtain ⟨cur,hcur⟩:=hon9.elem ha;obtain ⟨cur',hcur'⟩:=hos9.elem ha';rw [e,hcur] at hcur';simp at hcur'
 refine ⟨s10,rfl,?_⟩;refine qZ (b:=p.bp) (o:=6) (by simp) hb10 (by simp [RP.obj]) ?_;rw [show ((p.obj n7 seen6).setIfInBounds 6 s10.v:Γ)=p.obj n7 s10 from rfl];have nb10:∀a,n7.base=some a->a.block≠p.bp:=nb7;have nbs10:∀a,s10.base=some a->a.block≠p.bp:=λa ha e=>by obtain ⟨cur,hcur⟩:=hos10.elem ha;rw [e,hb10] at hcur;simp at hcur
 have hokT:(p.q.res t).ok:=by rw [D.res];exact xZ D.lt D.tl D.th D.ol D.oh
 obtain ⟨v1,v2,Z,v3,v4⟩:=bE (p.q.res t) S hokT hcl;have het:Ent p ⟨(num p.A (t 0):Int),(num p.B (t 1):Int),(N:Int)⟩ t:=⟨ht,rfl,rfl⟩;have hL2new:∀e∈L2,(e.v,e.l)≠((num p.A (t 0):Int),(num p.B (t 1):Int)):=by
  intro e he2 hk;simp only [Prod.mk.injEq] at hk;rcases gr2 e he2 with h|⟨u,hu,hsz⟩
  ·rcases gr1 e h with h|⟨u,hu,hsz⟩
   ·exact hnew e h hk
   ·have:=(zS hf hu (w:=t) ⟨ht,hk.1,hk.2⟩).2;have:=D.sl;omega
  ·have:=(zS hf hu (w:=t) ⟨ht,hk.1,hk.2⟩).2;have:=D.sh;omega
 have hfin:=hR (F10.set p.bp (.cells (p.obj n7 s10) 296)) (L2++[⟨(num p.A (t 0):Int),(num p.B (t 1):Int),(N:Int)⟩])
  ⟨aA hle10 hnb,hnb,v1,⟨λe he2=> ?_,?_⟩,n7,s10,aq _ _ _,hon10.keep λa ha=>aC _ _ (nb10 a ha),hnn7,by rw [eT];simpa [aS] using hos10.keep λa ha=>aC _ _ (nbs10 a ha),hsn10⟩ ?_
 ·exact hfin
 ·rcases XD.1 he2 with he2|he2
  ·obtain ⟨u,hu,hi2,hh2⟩:=hok6.all e he2;refine ⟨u,hu,?_,?_⟩
   ·rw [<- hadd];unfold dR;split
    ·exact hi2
    ·exact bK hi2
   ·rw [hh2,<- hadd];unfold dR;split
    ·rfl
    ·rw [bT hi2]
  ·rw [XC.1 he2];exact ⟨t,het,v2,by rw [hN]⟩
 ·rw [XP,X4];refine ⟨hok6.nd,by simp,?_⟩;intro x hx y hy;obtain ⟨e,he2,rfl⟩:=X3.1 hx;simp only [Yh,List.map_nil,XC] at hy;rw [hy];exact hL2new e he2
 ·intro e he2;rcases XD.1 he2 with he2|he2
  ·rcases gr2 e he2 with h|⟨u,hu,hsz⟩
   ·rcases gr1 e h with h|⟨u,hu,hsz⟩
    ·exact .inl h
    ·exact .inr ⟨u,hu,by have:=D.sl;omega⟩
   ·exact .inr ⟨u,hu,by have:=D.sh;omega⟩
  ·rw [XC.1 he2];exact .inr ⟨t,het,XA _⟩
theorem HQ (hf:RF p):∀(n:Nat) (t:Nat->Tr),szs t<=n->p.in2 t->RAt p t:=by
 intro n;induction n with
 |zero=>intro t hn;have:=rC (t 0);unfold szs at hn;omega
 |succ n ih=>
  intro t hn ht F0 F S Ls he hs hfit;obtain ⟨hle,hnb,hcl,hok,nodes,cL,hb,hon,hnn,hos,hsn⟩:=id hs;refine Q0 ?_;unfold LP;have rest:¬((t 0).isL=true/\(t 1).isL=true)->lz (some ⟨p.bp,0,none⟩) (num p.A (t 0)) (num p.B (t 1)) false (λr F'=>r=vi (num (vis (p.q.res t) S) (p.q.res t))/\∃Ls',RS F0 F' p (vis (p.q.res t) S) Ls'/\HP p Ls Ls' (szs t)) F:=by
   intro hnl;unfold lz;refine ⟨λh=>(by cases h),λ_=> ?_⟩;have hslen:=hos.rd.blen;have hL:=hok.length;have hfP:=hf.fP;have csn:F.cell (Addr.add ⟨p.bp,0,none⟩ 6)=some cL.v:=by rw [av,an hb];rfl
   refine ⟨λm i F'=>∃k:Nat,i=k/\k<=Ls.length/\m=Ls.length - k/\F'=F/\∀e∈Ls.take k,¬(e.v=(num p.A (t 0):Int)/\e.l=(num p.B (t 1):Int)),Ls.length,⟨0,rfl,by omega,rfl,rfl,by simp⟩,?_⟩;rintro m i F' ⟨k,rfl,hk,rfl,rfl,hnot⟩;unfold Be;refine ⟨_,rfl,cL,csn,λhlt=> ?_,λhge=> ?_⟩
   ·have hkL:k<Ls.length:=by omega
    obtain ⟨a,ha,_,hx,hy,hh⟩:=rdb hos.rd (N4 hkL);have hw1:i64.wrap ((k:Int)+1)=((k+1:Nat):Int):=fC (by omega);have next:¬(Ls[k].v=(num p.A (t 0):Int)/\Ls[k].l=(num p.B (t 1):Int))->∃m',m'<Ls.length - k/\∃k':Nat,((k+1:Nat):Int)=k'/\k'<=Ls.length/\m'=Ls.length - k'/\F'=F'/\∀e∈Ls.take k',¬(e.v=(num p.A (t 0):Int)/\e.l=(num p.B (t 1):Int)):=λhne=>
     ⟨Ls.length - (k+1),by omega,k+1,rfl,by omega,rfl,rfl,λe he2=>by
      rw [XR hkL] at he2;rcases XD.1 he2 with he2|he2
      ·exact hnot e he2
      ·rw [XC.1 he2];exact hne⟩
    have ax:F'.cell (Addr.add (Addr.add a (Int.toNat (k:Int)*3)) (Int.toNat 0*1))=some (vi Ls[k].v):=by obtain ⟨ab,ao,asp⟩:=a;obtain ⟨b',o',hb',_⟩:=hos.rd.cells (by omega);rw [ha] at hb';cases hb';simpa using hx
    refine ⟨cL,csn,a,ha,by omega,by omega,by omega,by omega,_,ax,λhx1=> ?_,λhx1=> ?_⟩
    ·have ay:F'.cell (Addr.add (Addr.add a (Int.toNat (k:Int)*3)) (Int.toNat 1*1))=some (vi Ls[k].l):=by simpa using hy
     refine ⟨cL,csn,a,ha,by omega,by omega,by omega,by omega,_,ay,?_⟩;unfold oM;refine ⟨λhy1=> ?_,λhy1=> ?_⟩
     ·have hy1:=of_decide_eq_true hy1;have ah:F'.cell (Addr.add (Addr.add a (Int.toNat (k:Int)*3)) (Int.toNat 2*1))=some (vi Ls[k].h):=by simpa using hh
      obtain ⟨u,hu,hi2,hh2⟩:=hok.all _ (Yv hkL);have e:=(zS hf hu (w:=t) ⟨ht,hx1,hy1⟩).1;rw [e] at hi2 hh2;have hvi:=jS hi2;refine ⟨cL,csn,a,ha,by omega,by omega,by omega,by omega,_,ah,?_⟩;rw [hvi,hh2];exact ⟨rfl,Ls,hs,λe he2=> .inl he2⟩
     ·rw [hw1];exact next λhc=>of_decide_eq_false hy1 hc.2
    ·unfold oM;refine ⟨λh=>(by cases h),λ_=> ?_⟩;rw [hw1];exact next λhc=>hx1 hc.1
   ·refine PN hf ht (λu hu hlt=>ih u (by omega) hu) he hs hfit hnl (λe he2=> ?_) λF' Ls' h1 h2=>⟨rfl,Ls',h1,h2⟩;have hkL:k=Ls.length:=by omega
    rw [hkL,XF] at hnot;exact hnot e he2
  refine ⟨λhx=> ?_,λhx=>rest λhc=>hx (lC.2 hc.1)⟩;by_cases hy:(t 1).isL=true
  ·have e:decide ((num p.B (t 1):Int)<2)=true:=decide_eq_true (lC.2 hy);rw [e];have hx':=lC.1 hx;unfold lz;refine ⟨λ_=> ?_,λh=>by cases h⟩;have hres:∀x0 x1:Bool,t 0=leaf x0->t 1=leaf x1->p.q.res t=leaf (p.o x0 x1):=λx0 x1 e0 e1=>by unfold AP.res;rw [e0,e1,ht.2.2];exact B5 _ _ _ _
   generalize ht0:t 0=y0 at*;generalize ht1:t 1=y1 at*;cases y0 with
   |node _ _ _=>cases hx'
   |leaf x0=>
    cases y1 with
    |node _ _ _=>cases hy
    |leaf x1=>have hr:=hres x0 x1 rfl rfl;rw [hr];refine (vI hf hb x0 x1).mono ?_;rintro _ F' ⟨rfl,rfl⟩;exact ⟨_,rfl,rfl,Ls,hs,λe he2=> .inl he2⟩
  ·have e:decide ((num p.B (t 1):Int)<2)=false:=decide_eq_false (λh=>hy (lC.1 h));rw [e];exact rest λhc=>hy hc.2
end
noncomputable abbrev ap2 (o:Op2) (a b:Tr):Tr:=ap (λx y _=>o x y) a b (leaf false)
structure F2 (o:Op2) (a b:Tr):Prop where
 ka:a.ok
 kb:b.ok
 fA:Fit ((aO a).length+2)
 fB:Fit ((aO b).length+2)
 fP:Fit (((aO a).length+2)*((aO b).length+2)+2)
 fT:Fit ((aO (ap2 o a b)).length+4)
theorem gR {o:Op2} {a b:Tr} (ha:a.ok) (hb:b.ok):(ap2 o a b).ok/\∀c,(ap2 o a b).ev c=o (a.ev c) (b.ev c):=by obtain ⟨h1,_,h2⟩:=gQ (o:=λx y _=>o x y) ha hb (d:=leaf false) trivial;exact ⟨h1,h2⟩
section
variable {F:PH} {v w:Γ} {a b:Tr}
theorem gz {o:Op2} {opc:Int} (hop:(opc=0/\o=i9)\/(opc=1/\o=oOr)\/(opc=2/\o=ja)) (ha:DV F v (dia a)) (hb:DV F w (dia b)) (h:F2 o a b):
  ae prog 166 #[.agg v,.agg w,vi opc] F λr F'=>∃u,r=.agg u/\DV F' u (dia (ap2 o a b))/\F.le F':=by
 obtain ⟨ka,kb,fA,fB,fP,fT⟩:=h;obtain ⟨sa,rfl,hra⟩:=ha;obtain ⟨sb,rfl,hrb⟩:=hb;refine QW ?_;unfold LL;intro b3 hb3;refine atI ?_;have l3:=ac (.cells #[sa.v,vi (dia a).2] 33) hb3;have q3:=aq F b3 (.cells #[sa.v,vi (dia a).2] 33);generalize F.set b3 (.cells #[sa.v,vi (dia a).2] 33)=F3 at*;intro b4 hb4;refine atI ?_;have lx:=ac (.cells #[sb.v,vi (dia b).2] 33) hb4;have q4:=aq F3 b4 (.cells #[sb.v,vi (dia b).2] 33);replace q3:=lx _ _ q3;have l4:=l3.trans lx;clear lx;generalize F3.set b4 (.cells #[sb.v,vi (dia b).2] 33)=F4 at*;intro b6 hb6;refine atI ?_;have f6:F b6=none:=aY l4 hb6;have lx:=ac (.cells zD 33) hb6;have q6:=aq F4 b6 (.cells zD 33);replace q3:=lx _ _ q3;replace q4:=lx _ _ q4;have l6:=l4.trans lx;clear lx;generalize F4.set b6 (.cells zD 33)=F6 at*;refine ⟨#[sa.v,vi (dia a).2],rfl,aj q3,#[sb.v,vi (dia b).2],rfl,aj q4,rfl,rfl,λb13 hb13=> ?_⟩;refine atI ?_
 let p:RP:=⟨b13,sa,sb,opc,o,dia a,dia b,aO a,aO b⟩
 have e13:(Array.setIfInBounds (wr (wr (#[Value.slice none 0 0,vi 0,Value.slice none 0 0,vi 0,vi 0,Value.slice none 0 0,Value.slice none 0 0]:Γ) 0 (#[sa.v,vi (dia a).2]:Γ).toList) 2 (#[sb.v,vi (dia b).2]:Γ).toList) 4 (vi opc))=p.obj Sl.nil Sl.nil:=rfl;rw [e13];have lx:=ac (.cells (p.obj Sl.nil Sl.nil) 296) hb13;have q13:=aq F6 b13 (.cells (p.obj Sl.nil Sl.nil) 296);have q3':=lx _ _ q3;have q4':=lx _ _ q4;have hrf:RF p:=⟨cT ka,cT kb,List.prefix_refl _,List.prefix_refl _,by show Fit ((brs (aO a)).length+2);rw [aQ];exact fA,by show Fit ((brs (aO b)).length+2);rw [aQ];exact fB,fP,hop⟩;have hre:RE F6 p:=⟨hra.le l6,hrb.le l6⟩;have hrs:RS F6 (F6.set b13 (.cells (p.obj Sl.nil Sl.nil) 296)) p [] []:=⟨lx,hb13,.nil,⟨λe he=>(by cases he),by simp⟩,Sl.nil,Sl.nil,q13,.inl ⟨rfl,rfl⟩,λa ha=>(by cases ha),.inl ⟨rfl,rfl⟩,λa ha=>by cases ha⟩;generalize F6.set b13 (.cells (p.obj Sl.nil Sl.nil) 296)=F7 at*;refine ⟨(dia a).2,by rw [an q3'];rfl,(dia b).2,by rw [an q4'];rfl,?_⟩;have hres:p.q.res (xy a b (leaf false))=ap2 o a b:=rfl;have hat:=HQ hrf _ (xy a b (leaf false)) (XA _) ⟨cH ka,cH kb,rfl⟩ F6 F7 [] [] hre hrs (by rw [hres];exact fT);rw [hres] at hat;refine hat.mono ?_;rintro _ F8 ⟨rfl,Ls',hs8,_⟩;obtain ⟨hle8,hnb8,hcl8,_,nodes,cL,hb8,hon8,hnn8,_,_⟩:=hs8;replace hb8:F8 b13=some (.cells (p.obj nodes cL) 296):=hb8;refine ⟨_,rfl,nodes,by rw [an hb8];rfl,?_⟩;have ev:vis (ap2 o a b) []=aO (ap2 o a b):=rfl;rw [ev] at*;have q68:=hle8 _ _ q6
 have hon':bj (eH F8 b6) 103 3 nodes (aS (brs (aO (ap2 o a b)))):=hon8.keep λa ha=>gc (λe=>by
  have:=hnn8 a ha;rw [e,q6] at this
  cases this)
 have hkT:=(gR (o:=o) ka kb).1;refine (gf (ke hon'.rd hcl8 (cH hkT) fT) q68).mono ?_;rintro _ F9 ⟨u,rfl,⟨G,hu,lG,gG⟩,l9,q9⟩;refine ⟨_,rfl,?_⟩;exact gN (K:=λvres F'=>∃u,Value.agg vres=.agg u/\DV F' u (dia (ap2 o a b))/\F.le F') hu q9 rfl ⟨_,rfl,hu.le (aA lG gG),aA (l6.trans (hle8.trans l9)) f6⟩
theorem rG (ha:DV F v (dia a)) (hb:DV F w (dia b)) (h:F2 i9 a b):ae prog 170 #[.agg v,.agg w] F λr F'=>∃u,r=.agg u/\DV F' u (dia (ap2 i9 a b))/\F.le F':=by refine QY ?_;unfold LN;intro b2 hb2;refine atI ?_;have l2:=ac (.cells v 33) hb2;have q2:=aq F b2 (.cells v 33);generalize F.set b2 (.cells v 33)=F2 at*;intro b3 hb3;refine atI ?_;have lx:=ac (.cells w 33) hb3;have q3:=aq F2 b3 (.cells w 33);replace q2:=lx _ _ q2;have l3:=l2.trans lx;clear lx;generalize F2.set b3 (.cells w 33)=F3 at*;intro b4 hb4;refine atI ?_;have f4:F b4=none:=aY l3 hb4;have lx:=ac (.cells zD 33) hb4;have q4:=aq F3 b4 (.cells zD 33);replace q2:=lx _ _ q2;replace q3:=lx _ _ q3;have l4:=l3.trans lx;clear lx;generalize F3.set b4 (.cells zD 33)=F4 at*;refine ⟨v,ha.size,aj q2,w,hb.size,aj q3,?_⟩;have ld:=fL l4 f4;refine (gf (gz (opc:=0) (.inl ⟨rfl,rfl⟩) (ha.le ld) (hb.le ld) h) q4).mono ?_;rintro _ F5 ⟨z,rfl,⟨G,hz,lG,gG⟩,l5,q5⟩;refine ⟨_,rfl,?_⟩;exact gN (K:=λvres F'=>∃u,Value.agg vres=.agg u/\DV F' u (dia (ap2 i9 a b))/\F.le F') hz q5 rfl ⟨_,rfl,hz.le (aA lG gG),aA (l4.trans l5) f4⟩
theorem zU (ha:DV F v (dia a)) (hb:DV F w (dia b)) (h:F2 oOr a b):ae prog 169 #[.agg v,.agg w] F λr F'=>∃u,r=.agg u/\DV F' u (dia (ap2 oOr a b))/\F.le F':=by refine QX ?_;unfold LM;intro b2 hb2;refine atI ?_;have l2:=ac (.cells v 33) hb2;have q2:=aq F b2 (.cells v 33);generalize F.set b2 (.cells v 33)=F2 at*;intro b3 hb3;refine atI ?_;have lx:=ac (.cells w 33) hb3;have q3:=aq F2 b3 (.cells w 33);replace q2:=lx _ _ q2;have l3:=l2.trans lx;clear lx;generalize F2.set b3 (.cells w 33)=F3 at*;intro b4 hb4;refine atI ?_;have f4:F b4=none:=aY l3 hb4;have lx:=ac (.cells zD 33) hb4;have q4:=aq F3 b4 (.cells zD 33);replace q2:=lx _ _ q2;replace q3:=lx _ _ q3;have l4:=l3.trans lx;clear lx;generalize F3.set b4 (.cells zD 33)=F4 at*;refine ⟨v,ha.size,aj q2,w,hb.size,aj q3,?_⟩;have ld:=fL l4 f4;refine (gf (gz (opc:=1) (.inr (.inl ⟨rfl,rfl⟩)) (ha.le ld) (hb.le ld) h) q4).mono ?_;rintro _ F5 ⟨z,rfl,⟨G,hz,lG,gG⟩,l5,q5⟩;refine ⟨_,rfl,?_⟩;exact gN (K:=λvres F'=>∃u,Value.agg vres=.agg u/\DV F' u (dia (ap2 oOr a b))/\F.le F') hz q5 rfl ⟨_,rfl,hz.le (aA lG gG),aA (l4.trans l5) f4⟩
theorem rH (ha:DV F v (dia a)) (h:F2 ja a (leaf true)):ae prog 97 #[.agg v] F λr F'=>∃u,r=.agg u/\DV F' u (dia (ap2 ja a (leaf true)))/\F.le F':=by refine Wh ?_;unfold QU;intro b2 hb2;refine atI ?_;have l2:=ac (.cells v 33) hb2;have q2:=aq F b2 (.cells v 33);generalize F.set b2 (.cells v 33)=F3 at*;intro b4 hb4;refine atI ?_;have f4:F b4=none:=aY l2 hb4;have lx:=ac (.cells zD 33) hb4;have q4:=aq F3 b4 (.cells zD 33);replace q2:=lx _ _ q2;have l4:=l2.trans lx;clear lx;generalize F3.set b4 (.cells zD 33)=F4 at*;refine ⟨v,ha.size,aj q2,?_⟩;refine (gf (eP (F:=eH F4 b4) true) q4).mono ?_;rintro _ F5 ⟨y,rfl,⟨G0,hy,lG0,gG0⟩,l5,q5⟩;refine ⟨_,rfl,aj (l5 _ _ q2),?_⟩;have ld:=fL (l4.trans l5) f4;refine (gf (gz (opc:=2) (.inr (.inr ⟨rfl,rfl⟩)) (ha.le ld) (hy.beside lG0 gG0) h) q5).mono ?_;rintro _ F6 ⟨z,rfl,⟨G,hz,lG,gG⟩,l6,q6⟩;refine ⟨_,rfl,?_⟩;exact gN (K:=λvres F'=>∃u,Value.agg vres=.agg u/\DV F' u (dia (ap2 ja a (leaf true)))/\F.le F') hz q6 rfl ⟨_,rfl,hz.le (aA lG gG),aA (l4.trans (l5.trans l6)) f4⟩
theorem zV (ha:DV F v (dia a)) (hb:DV F w (dia b)) (h1:F2 ja b (leaf true)) (h2:F2 i9 a (ap2 ja b (leaf true))):
  ae prog 171 #[.agg v,.agg w] F λr F'=>∃u,r=.agg u/\DV F' u (dia (ap2 i9 a (ap2 ja b (leaf true))))/\F.le F':=by
 refine QZ ?_;unfold LO;intro b2 hb2;refine atI ?_;have l2:=ac (.cells v 33) hb2;have q2:=aq F b2 (.cells v 33);generalize F.set b2 (.cells v 33)=F2 at*;intro b3 hb3;refine atI ?_;have lx:=ac (.cells w 33) hb3;have q3:=aq F2 b3 (.cells w 33);replace q2:=lx _ _ q2;have l3:=l2.trans lx;clear lx;generalize F2.set b3 (.cells w 33)=F3 at*;intro b4 hb4;refine atI ?_;have f4:F b4=none:=aY l3 hb4;have lx:=ac (.cells zD 33) hb4;have q4:=aq F3 b4 (.cells zD 33);replace q2:=lx _ _ q2;replace q3:=lx _ _ q3;have l4:=l3.trans lx;clear lx;generalize F3.set b4 (.cells zD 33)=F4 at*;refine ⟨v,ha.size,aj q2,w,hb.size,aj q3,?_⟩;refine (gf (rH (hb.le (fL l4 f4)) h1) q4).mono ?_;rintro _ F5 ⟨y,rfl,⟨G0,hy,lG0,gG0⟩,l5,q5⟩;refine ⟨_,rfl,aj (l5 _ _ q2),?_⟩;refine (gf (rG (ha.le (fL (l4.trans l5) f4)) (hy.beside lG0 gG0) h2) q5).mono ?_;rintro _ F6 ⟨z,rfl,⟨G,hz,lG,gG⟩,l6,q6⟩;refine ⟨_,rfl,?_⟩;exact gN (K:=λvres F'=>∃u,Value.agg vres=.agg u/\DV F' u (dia (ap2 i9 a (ap2 ja b (leaf true))))/\F.le F') hz q6 rfl ⟨_,rfl,hz.le (aA lG gG),aA (l4.trans (l5.trans l6)) f4⟩
end
theorem rI {n v:Nat} {t:Tr} (h:dq n t):dq n (lo v t):=by
 cases t with
 |leaf b=>trivial
 |node w l r=>
  simp only [lo];split
  ·exact h.2.1
  ·exact h
theorem rJ {n v:Nat} {t:Tr} (h:dq n t):dq n (hi v t):=by
 cases t with
 |leaf b=>trivial
 |node w l r=>
  simp only [hi];split
  ·exact h.2.2
  ·exact h
theorem yd {n v:Nat} {l h:Tr} (hv:v<n) (h1:dq n l) (h2:dq n h):dq n (mk v l h):=by
 unfold mk;split
 ·exact h1
 ·exact ⟨hv,h1,h2⟩
theorem nz {n:Nat} {t:Tr} (h:dq n t) (hl:t.isL=false):t.top<n:=by
 cases t with
 |leaf b=>cases hl
 |node v l r=>exact h.1
theorem HR (o:Op3) {n:Nat}:∀(k:Nat) (a b d:Tr),a.sz+b.sz+d.sz<=k->a.ok->b.ok->d.ok->dq n a->dq n b->dq n d->dq n (ap o a b d):=by
 intro k;induction k with
 |zero=>intro a b d hk;have:=rC a;omega
 |succ k ih=>
  intro a b d hk ha hb hd na nb nd;by_cases hv:bi a b d<64
  ·have hst:=B4 (o:=o) ha hb hd hv;have v1:bi a b d<=a.top:=by unfold bi;omega
   have v2:bi a b d<=b.top:=by unfold bi;omega
   have v3:bi a b d<=d.top:=by unfold bi;omega
   have hcase:bi a b d=a.top\/bi a b d=b.top\/bi a b d=d.top:=by unfold bi;omega
   generalize bi a b d=v at*;have nl:∀{t:Tr},v=t.top->t.isL=false:=λ{t} e=>by
    cases t with
    |leaf b=>simp only [top] at e;omega
    |node _ _ _=>rfl
   obtain ⟨al1,al2,al3,al4,al5⟩:=cY ha v1;obtain ⟨bl1,bl2,bl3,bl4,bl5⟩:=cY hb v2;obtain ⟨dl1,dl2,dl3,dl4,dl5⟩:=cY hd v3;obtain ⟨ah1,ah2,ah3,ah4,ah5⟩:=cZ ha v1;obtain ⟨bh1,bh2,bh3,bh4,bh5⟩:=cZ hb v2;obtain ⟨dh1,dh2,dh3,dh4,dh5⟩:=cZ hd v3;have hvn:v<n:=by
    rcases hcase with e|e|e
    ·have:=nz na (nl e);omega
    ·have:=nz nb (nl e);omega
    ·have:=nz nd (nl e);omega
   have hsl:(lo v a).sz+(lo v b).sz+(lo v d).sz<=k:=by
    rcases hcase with e|e|e
    ·have:=al4 e.symm (nl e);omega
    ·have:=bl4 e.symm (nl e);omega
    ·have:=dl4 e.symm (nl e);omega
   have hsh:(hi v a).sz+(hi v b).sz+(hi v d).sz<=k:=by
    rcases hcase with e|e|e
    ·have:=ah4 e.symm (nl e);omega
    ·have:=bh4 e.symm (nl e);omega
    ·have:=dh4 e.symm (nl e);omega
   rw [hst];exact yd hvn (ih _ _ _ hsl al1 bl1 dl1 (rI na) (rI nb) (rI nd)) (ih _ _ _ hsh ah1 bh1 dh1 (rJ na) (rJ nb) (rJ nd))
  ·unfold bi at hv;obtain ⟨p,rfl⟩:=jp ha (by omega);obtain ⟨q,rfl⟩:=jp hb (by omega);obtain ⟨r,rfl⟩:=jp hd (by omega);rw [B5];trivial
theorem zW {n:Nat} (hn:n<=64):∀(t:Tr),t.ok->dq n t->cnt t+1<=2 ^ (n - min n t.top)
 |leaf b,_,_=>by
  have:n - min n (leaf b).top=0:=by simp only [top];omega
  rw [this];simp [cnt]
 |node v l h,⟨h0,h1,h2,h3,h4,h5⟩,⟨b0,b1,b2⟩=>by
  have il:=zW hn l h4 b1;have ih:=zW hn h h5 b2;have k1:2 ^ (n - min n l.top)<=2 ^ (n - (v+1)):=X0 (by decide) (by omega);have k2:2 ^ (n - min n h.top)<=2 ^ (n - (v+1)):=X0 (by decide) (by omega);have e:n - min n (node v l h).top=n - (v+1)+1:=by simp only [top];omega
  rw [e,YJ];simp only [cnt];omega
def Sx (n:Nat) (t:Tr):Prop:=t.ok/\dq n t
theorem Sx.cnt63 {n:Nat} {t:Tr} (h:Sx n t) (hn:n<=6):cnt t<=63:=by have h1:=zW (by omega:n<=64) t h.1 h.2;have h2:2 ^ (n - min n t.top)<=2 ^ 6:=X0 (by decide) (by omega);omega
theorem Sx.len {n:Nat} {t:Tr} (h:Sx n t) (hn:n<=6):(aO t).length<=63:=X1 (x6 t) (h.cnt63 hn)
theorem Sx.ap {n:Nat} {o:Op3} {a b d:Tr} (ha:Sx n a) (hb:Sx n b) (hd:Sx n d):Sx n (Tr.ap o a b d):=⟨S6 ha.1 hb.1 hd.1,HR o _ a b d (XA _) ha.1 hb.1 hd.1 ha.2 hb.2 hd.2⟩
theorem Sx.leaf (n:Nat) (b:Bool):Sx n (Tr.leaf b):=⟨trivial,trivial⟩
theorem Sx.ap2 {n:Nat} {o:Op2} {a b:Tr} (ha:Sx n a) (hb:Sx n b):Sx n (ap2 o a b):=Sx.ap ha hb (Sx.leaf n _)
theorem Sx.tv {n v:Nat} (hv:v<n) (hn:n<=6):Sx n (tv v):=⟨Rc (by omega),hv,trivial,trivial⟩
theorem Sx.f2 {n:Nat} {o:Op2} {a b:Tr} (ha:Sx n a) (hb:Sx n b) (hn:n<=6):F2 o a b:=by have la:=ha.len hn;have lb:=hb.len hn;have lt:=(ha.ap2 (o:=o) hb).len hn;have hp:((aO a).length+2)*((aO b).length+2)<=65*65:=Nat.mul_le_mul (by omega) (by omega);exact ⟨ha.1,hb.1,by omega,by omega,by omega,by omega⟩
theorem MX {v:Nat} (h:v<64):u64.wrap (v:Int)=(v:Int):=oL (by omega) (by omega)
theorem HS {S:Tr->Prop} {f:FuncId} {args:Γ} {F:PH} {x:Nat} {o:Obj} (h:ae prog f args (eH F x) λr F'=>∃w t,r=.agg w/\S t/\DV F' w (dia t)/\(eH F x).le F') (hx:F x=some o):
  ae prog f args F λr F'=>∃w t,r=.agg w/\S t/\(∃G,DV G w (dia t)/\G.le F'/\G x=none)/\F.le F'/\F' x=some o:=
 (ae.avoid h hx).mono λr F' ⟨G,⟨w,t,hr,ht,hw,lg⟩,lG,q,g⟩=>⟨w,t,hr,ht,⟨G,hw,lG,g⟩,qF lg lG q hx,q⟩
def rK (l:Φ) (k:Nat):Bool:=
 if h:k / 8<l.length then decide (u8.wrap ((BitVec.ofInt (u8).bits (Int.fdiv l[k / 8] (2 ^ (min (Int.toNat (((k % 8:Nat):Int))) (u8).bits))) &&& BitVec.ofInt (u8).bits (1:Int)).toNat)=(1:Int)) else false
noncomputable def fe (l:Φ):Nat->Nat->Nat->Tr
 |0,_,k=>Tr.leaf (rK l k)
 |m+1,v,k=>ap2 oOr (ap2 i9 (tv v) (fe l m (v+1) (k+2 ^ v))) (ap2 i9 (fe l m (v+1) k) (ap2 ja (tv v) (Tr.leaf true)))
theorem zX {n:Nat} (hn:n<=6):∀(m v k:Nat),v+m=n->k<2 ^ v->∀(F:PH) (sl:Sl) (l:Φ),RdS F sl 1 (l.map (Value.int .u8))->
  ae prog 106 #[sl.v,vi n,vi v,vi k] F λr F'=>∃u t,r=.agg u/\(Sx n t/\t=fe l m v k)/\DV F' u (dia t)/\F.le F':=by
 intro m;induction m with
 |zero=>
  intro v k hvm hk F sl l hr;obtain rfl:v=n:=by omega
  have hk64:k<64:=Nat.lt_of_lt_of_le hk (X0 (by decide) hn);refine LI ?_;unfold FM;intro b8 hb8;refine atI ?_;have l8:=ac (.cells zD 33) hb8;have q8:=aq F b8 (.cells zD 33);have hr8:=hr.le l8;generalize F.set b8 (.cells zD 33)=F8 at*;have hd:i64.wrap (Int.tdiv (k:Int) 8)=((k / 8:Nat):Int):=by rw [YC (by omega),aH (by omega) (by omega)];rfl
  have hm:u64.wrap (Int.tmod (k:Int) 8)=((k % 8:Nat):Int):=by rw [Yr (by omega),oL (by omega) (by omega)];rfl
  have hlen:=hr8.len;simp at hlen;refine ⟨λ_=>⟨λhlt=> ?_,λ_=> ?_⟩,λh=>absurd rfl h⟩
  ·rw [hd] at hlt ⊢;have hkl:k / 8<l.length:=by omega
   obtain ⟨b,o,hb,hc⟩:=hr8.cells (by omega);have hcell:=hc (k / 8) (by simpa using hkl);refine ⟨_,hb,by omega,hlt,l[k / 8],by rw [av,N5,XS];simpa using hcell,by rw [hm];omega,?_⟩;refine (gf (eP (F:=eH F8 b8) _) q8).mono ?_;rintro _ F9 ⟨u,rfl,⟨G,hu,lG,gG⟩,l9,q9⟩;refine ⟨_,rfl,?_⟩;exact gN (K:=λvres F'=>∃u t,Value.agg vres=.agg u/\(Sx v t/\t=fe l 0 v k)/\DV F' u (dia t)/\F.le F') hu q9 rfl ⟨_,_,rfl,⟨Sx.leaf v _,by rw [fe,rK,dif_pos hkl,hm]⟩,hu.le (aA lG gG),aA (l8.trans l9) hb8⟩
  ·rename_i hge;rw [hd] at hge;refine (gf (eP (F:=eH F8 b8) false) q8).mono ?_;rintro _ F9 ⟨u,rfl,⟨G,hu,lG,gG⟩,l9,q9⟩;refine ⟨_,rfl,?_⟩;exact gN (K:=λvres F'=>∃u t,Value.agg vres=.agg u/\(Sx v t/\t=fe l 0 v k)/\DV F' u (dia t)/\F.le F') hu q9 rfl ⟨_,_,rfl,⟨Sx.leaf v _,by rw [fe,rK,dif_neg (by omega)]⟩,hu.le (aA lG gG),aA (l8.trans l9) hb8⟩
 |succ m ih=>
  intro v k hvm hk F sl l hr;have hvn:v<n:=by omega
  have hk64:k<64:=Nat.lt_of_lt_of_le hk (X1 (X0 (by decide:2>0) (by omega:v<=6)) (by decide));have hp64:2 ^ v<=32:=X1 (X0 (by decide:2>0) (by omega:v<=5)) (by decide);refine LI ?_;unfold FM;intro b8 hb8;refine atI ?_;have l8:=ac (.cells zD 33) hb8;have q8:=aq F b8 (.cells zD 33);generalize F.set b8 (.cells zD 33)=F8 at*;refine ⟨λh=>by omega,λ_=> ?_⟩;have hvar:=tN (F:=eH F8 b8) (v:Int);rw [JP (by omega)] at hvar;refine (FT hvar q8).mono ?_;rintro _ F9 ⟨x,rfl,⟨G,hx,lG,gG⟩,l9,q9⟩;refine ⟨_,_,rfl,?_⟩;intro b9 hb9;refine atI ?_;refine stW (aq _ _ _) hx.size rfl hx.st ?_;rw [aU];have n89:b8≠b9:=aJ hb9 q9;have lx:=ac (.cells x 33) hb9;have r9:=aq F9 b9 (.cells x 33);have q10:=lx _ _ q9;have hx10:=hx.beside (lG.trans lx) gG;have l10:=l8.trans (l9.trans lx);generalize F9.set b9 (.cells x 33)=F10 at*;have wv:i64.wrap ((v:Int)+1)=((v+1:Nat):Int):=fC (by omega);have w2:i64.wrap ((1:Int)*2 ^ (min (Int.toNat (u64.wrap (v:Int))) (i64).bits))=((2 ^ v:Nat):Int):=by
   rw [MX (by omega)];have hm:min (Int.toNat (v:Int)) (i64).bits=v:=by simp only [IntKind.bits,N5];omega
   have e1:(1:Int)*2 ^ v=((2 ^ v:Nat):Int):=by simp
   rw [hm,e1,aH (by omega) (by omega)]
  have wk:i64.wrap ((k:Int)+((2 ^ v:Nat):Int))=((k+2 ^ v:Nat):Int):=by rw [aH (by omega) (by omega)];omega
  rw [w2,wk,wv];refine ⟨x,hx.size,aj r9,by rw [MX (by omega)];omega,x,hx.size,aj r9,?_⟩;have hpow:2 ^ (v+1)=2 ^ v+2 ^ v:=by rw [YJ];omega
  refine (HS (ih (v+1) (k+2 ^ v) (by omega) (by omega) (eH F10 b8) sl l (hr.le (fL l10 hb8))) q10).mono ?_;rintro _ F11 ⟨u1,t1,rfl,⟨k1,e1⟩,⟨G1,h1,lG1,gG1⟩,l11,q11⟩;refine ⟨_,rfl,aj (l11 _ _ r9),aj (l11 _ _ r9),?_⟩;refine (gf (rG (hx10.le (nj l11)) (h1.beside lG1 gG1) ((Sx.tv hvn hn).f2 k1 hn)) q11).mono ?_;rintro _ F12 ⟨u2,rfl,⟨G2,h2,lG2,gG2⟩,l12,q12⟩;have k2:=(Sx.tv hvn hn).ap2 (o:=i9) k1;refine ⟨_,rfl,aj (l12 _ _ (l11 _ _ r9)),?_⟩;refine (HS (ih (v+1) k (by omega) (by omega) (eH F12 b8) sl l (hr.le (fL (l10.trans (l11.trans l12)) hb8))) q12).mono ?_;rintro _ F13 ⟨u3,t3,rfl,⟨k3,e3⟩,⟨G3,h3,lG3,gG3⟩,l13,q13⟩;refine ⟨_,rfl,aj (l13 _ _ (l12 _ _ (l11 _ _ r9))),?_⟩;have kx:=(Sx.tv hvn hn).ap2 (o:=ja) (Sx.leaf n true);refine (gf (zV (h3.beside lG3 gG3) (hx10.le (nj (l11.trans (l12.trans l13)))) ((Sx.tv hvn hn).f2 (Sx.leaf n true) hn) (k3.f2 kx hn)) q13).mono ?_;rintro _ F14 ⟨u4,rfl,⟨G4,h4,lG4,gG4⟩,l14,q14⟩;have k4:=k3.ap2 (o:=i9) kx;refine ⟨_,rfl,?_⟩;refine (gf (zU ((h2.beside lG2 gG2).le (nj (l13.trans l14))) (h4.beside lG4 gG4) (k2.f2 k4 hn)) q14).mono ?_;rintro _ F15 ⟨u5,rfl,⟨G5,h5,lG5,gG5⟩,l15,q15⟩;refine ⟨_,rfl,?_⟩;exact gN (K:=λvres F'=>∃u t,Value.agg vres=.agg u/\(Sx n t/\t=fe l (m+1) v k)/\DV F' u (dia t)/\F.le F') h5 q15 rfl ⟨_,_,rfl,⟨k2.ap2 k4,by rw [fe,<- e1,<- e3]⟩,h5.le (aA lG5 gG5),aA (l10.trans (l11.trans (l12.trans (l13.trans (l14.trans l15))))) hb8⟩
theorem jq {n:Nat} (hn:n<=6) {F:PH} {sl:Sl} {l:Φ} (hr:RdS F sl 1 (l.map (Value.int .u8))):ae prog 35 #[sl.v,vi n] F λr F'=>∃u t,r=.agg u/\(Sx n t/\t=fe l n 0 0)/\DV F' u (dia t)/\F.le F':=by
 refine Wf ?_;unfold QS;intro b4 hb4;refine atI ?_;have l4:=ac (.cells zD 33) hb4;have q4:=aq F b4 (.cells zD 33);generalize F.set b4 (.cells zD 33)=F4 at*;have e:max (0:Int) (min (n:Int) 6)=(n:Int):=by omega
 rw [e];refine (HS (zX hn n 0 0 (by omega) (by simp) (eH F4 b4) sl l (hr.le (fL l4 hb4))) q4).mono ?_;rintro _ F5 ⟨u,t,rfl,kt,⟨G,hu,lG,gG⟩,l5,q5⟩;refine ⟨_,rfl,?_⟩;exact gN (K:=λvres F'=>∃u t,Value.agg vres=.agg u/\(Sx n t/\t=fe l n 0 0)/\DV F' u (dia t)/\F.le F') hu q5 rfl ⟨_,_,rfl,kt,hu.le (aA lG gG),aA (l4.trans l5) hb4⟩
end Go.Proofs.YtenpmjhnhepfdaaGreatDoor
