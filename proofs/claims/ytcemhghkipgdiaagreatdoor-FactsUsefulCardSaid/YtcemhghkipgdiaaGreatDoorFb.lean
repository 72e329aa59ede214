/-
  Trees over few conditions; the sets that the laws take.
-/
import Derived.Test.YtcemhghkipgdiaaGreatDoorEx
namespace Go.Proofs.YtcemhghkipgdiaaGreatDoor
open Go.IntKind (i64 u8 u64)
open Go Go.Proofs.Tryz Tr
set_option maxRecDepth 10000
theorem cf.keepK {F G:PH} {e size:Nat} {s:Sl} {vs:Ξ} {fp:Nat->Prop} (h:cf F e size s vs) (hk:cH fp F G) (hn:∀a,s.base=some a->¬fp a.block):cf G e size s vs:=by
 rcases h with h|⟨b,cur,h1,h2,h3⟩
 ·exact .inl h
 ·exact .inr ⟨b,cur,h1,hk _ _ h2 (hn _ h1),h3⟩
section
variable {F0 F:PH} {l:Sl} {S:List Tr}
theorem wW (hle:F0.le F) (ho:cf F 124 3 l (aW (brs S))) (hb:∀a,l.base=some a->F0 a.block=none) (hS:Cl S) {v:Nat} {A B:Tr} (hA:inn S A) (hB:inn S B) (hf:Fit (S.length+4)):
  aj prog 194 #[l.v,.agg (aY ⟨(v:Int),(num S A:Int),(num S B:Int)⟩)] F λr F'=>∃l',r=.tuple #[l'.v,vi (num (eY S (mk v A B)) (mk v A B))]/\F0.le F'/\cf F' 124 3 l' (aW (brs (eY S (mk v A B))))/\
   (∀a,l'.base=some a->F0 a.block=none)/\cH (λb=>∃a,l.base=some a/\a.block=b) F F':=by
 have hlen:=ho.rd.blen;rw [aL] at hlen;refine OC ?_;unfold Jw;intro b3 hb3;refine atI ?_;have l3:=ae (.cells (aY ⟨(v:Int),(num S A:Int),(num S B:Int)⟩) 124) hb3;have q3:=ak F b3 (.cells (aY ⟨(v:Int),(num S A:Int),(num S B:Int)⟩) 124);have n3:∀a,l.base=some a->a.block≠b3:=λa ha=>by obtain ⟨cur,hcur⟩:=ho.elem ha;exact aE hb3 hcur
 replace ho:=ho.upto l3;replace hle:=hle.trans l3;generalize F.set b3 (.cells (aY ⟨(v:Int),(num S A:Int),(num S B:Int)⟩) 124)=F1 at*;refine ⟨_,by rw [am q3];rfl,_,by rw [am q3];rfl,λhe=> ?_,λhe=> ?_⟩
 ·obtain rfl:=bX hA hB (by have:(num S A:Int)=num S B:=he;omega);have e:mk v A A=A:=by simp [mk]
  have e2:eY S A=S:=by unfold eY;rw [if_pos hA]
  rw [e,e2];exact ⟨_,by rw [am q3];rfl,l,rfl,hle,ho,hb,cH.of_le l3⟩
 have hAB:A≠B:=λe=>he (by rw [e]);have emk:mk v A B=node v A B:=by simp [mk,hAB]
 rw [emk];have hbr:br S (node v A B)=⟨(v:Int),(num S A:Int),(num S B:Int)⟩:=rfl;refine ⟨λm i F'=>∃k:Nat,i=k/\k<=S.length/\m=S.length - k/\F'=F1/\br S (node v A B) ∉ (brs S).take k,S.length,⟨0,rfl,by omega,rfl,rfl,by simp⟩,?_⟩;rintro m i F' ⟨k,rfl,hk,rfl,rfl,hnot⟩;unfold Au;refine ⟨λhlt=> ?_,λhge=> ?_⟩
 ·have hkS:k<S.length:=by omega
  have hkB:k<(brs S).length:=by rw [aL];exact hkS
  obtain ⟨p,hp,hpr,_⟩:=rdb ho.rd (N4 hkB);refine ⟨p,hp,by omega,hlt,aY (brs S)[k],rfl,by simpa using hpr,aY (br S (node v A B)),rfl,ac q3,decide ((brs S)[k]=br S (node v A B)),λF=>El (brs S)[k] (br S (node v A B)) F,λheq=> ?_,λhne=> ?_⟩
  ·have heq':(brs S)[k]=br S (node v A B):=of_decide_eq_true heq;have hm:node v A B∈S:=(ie hS hA hB).1 (by rw [<- heq'];exact UA _);have hSk:S[k]=node v A B:=Dg hS (UA hkS) hm (by rw [<- heq'];simp [brs]);have e2:eY S (node v A B)=S:=by unfold eY;rw [if_pos (.inr hm)]
   have hn:=dU hS (k:=k) (t:=node v A B) (by rw [N4 hkS,hSk]);have hw:i64.wrap ((k:Int)+2)=((k+2:Nat):Int):=by rw [aP (by omega) (by omega)];omega
   rw [e2,hn,hw];exact ⟨l,rfl,hle,ho,hb,cH.of_le l3⟩
  ·refine ⟨S.length - (k+1),by omega,k+1,i9 (by omega),by omega,rfl,rfl,?_⟩;rw [TF hkB];intro hc;rcases Tm.1 hc with hc|hc
   ·exact hnot hc
   ·rw [Ti] at hc;rw [hc] at hne;simp at hne
 ·have hk':k=S.length:=by omega
  have hm:node v A B ∉ S:=λhm=>hnot (by
   rw [hk',Ts (by rw [aL];omega)]
   exact (ie hS hA hB).2 hm)
  have e2:eY S (node v A B)=S++[node v A B]:=by
   unfold eY;rw [if_neg];rintro (hc|hc)
   ·cases hc
   ·exact hm hc
  rw [e2];unfold At;refine ⟨aY (br S (node v A B)),rfl,ac q3,rfl,λb32 hb32=> ?_⟩;refine atI ?_;have l32:=ae (.cells (aY (br S (node v A B))) 124) hb32;have q32:=ak F' b32 (.cells (aY (br S (node v A B))) 124);have ho2:=ho.upto l32;have hle2:=hle.trans l32;generalize F'.set b32 (.cells (aY (br S (node v A B))) 124)=F2 at*;refine kW underlying29 wl wm rfl (by decide) hle2 ho2 hb (x:=⟨some ⟨b32,0,none⟩,1,1⟩) (news:=cY (br S (node v A B))) (RdS.new q32 rfl rfl (Tj _)) (λx hx=>gN [br S (node v A B)] x (by simpa [aW] using hx)) (by simp only [hlen];omega) (by simp only [hlen];omega) ?_;intro s' F3 hle3 ho3 hlen3 hs3 hk3 _;have hw:i64.wrap ((s'.len:Int)+1)=((S.length+2:Nat):Int):=by rw [hlen3,hlen,aP (by simp only;omega) (by simp only;omega)];simp only;omega
  have e3:aW (brs (S++[node v A B]))=aW (brs S)++cY (br S (node v A B)):=by rw [eg hS hA hB,<- hbr,eD];simp [aW]
  refine ⟨s',rfl,s',?_,hle3,by rw [e3];exact ho3,hs3,λx ob hx hn=>hk3 _ _ (l32 _ _ (l3 _ _ hx)) hn⟩;rw [hw];have hl2:num (S++[node v A B]) (node v A B)=S.length+2:=by simp only [num,List.idxOf_append,if_neg hm];simp
  rw [hl2]
end
structure RP where
 bp:Nat
 sa:Sl
 sb:Sl
 opc:Int
 o:Op2
 da:Dia
 db:Dia
 A:List Tr
 B:List Tr
def RP.q (p:RP):AP:=⟨0,0,0,0,0,0,0,0,.nilFunc,λx y _=>p.o x y,lj p.da p.db nR,lj p.A p.B []⟩
def RP.in2 (p:RP) (t:Nat->Tr):Prop:=inn p.A (t 0)/\inn p.B (t 1)/\t 2=leaf false
theorem RP.in2_in {p:RP} {t:Nat->Tr} (h:p.in2 t):p.q.inK t:=⟨h.1,h.2.1,by rw [h.2.2];exact fN _ _⟩
def RP.obj (p:RP) (nodes bE:Sl):Γ:= #[p.sa.v,vi p.da.2,p.sb.v,vi p.db.2,vi p.opc,nodes.v,bE.v]
structure RF (p:RP):Prop where
 cA:Cl p.A
 cB:Cl p.B
 pA:brs p.A<+:p.da.1
 pB:brs p.B<+:p.db.1
 fA:Fit (p.da.1.length+2)
 fB:Fit (p.db.1.length+2)
 fP:Fit ((p.A.length+2)*(p.B.length+2)+2)
 op:(p.opc=0/\p.o=aX)\/(p.opc=1/\p.o=oOr)\/(p.opc=2/\p.o=ko)
theorem RF.af {p:RP} (h:RF p):AF p.q:=by
 refine ⟨λi hi=> ?_,λi hi=> ?_,λi hi=> ?_⟩
 ·match i,hi with
  |0,_=>exact h.cA
  |1,_=>exact h.cB
  |2,_=>exact .nil
 ·match i,hi with
  |0,_=>exact h.pA
  |1,_=>exact h.pB
  |2,_=>exact Uh _
 ·match i,hi with
  |0,_=>exact h.fA
  |1,_=>exact h.fB
  |2,_=>simp [RP.q,lj]
structure RE (F0:PH) (p:RP):Prop where
 a:RdS F0 p.sa 3 (aW p.da.1)
 b:RdS F0 p.sb 3 (aW p.db.1)
theorem RE.le {F0 G:PH} {p:RP} (h:RE F0 p) (hl:F0.le G):RE G p:=⟨h.a.le hl,h.b.le hl⟩
structure Ent (p:RP) (e:Br) (u:Nat->Tr):Prop where
 i:p.in2 u
 x:e.v=(num p.A (u 0):Int)
 y:e.l=(num p.B (u 1):Int)
structure Ma (p:RP) (S:List Tr) (Ls:List Br):Prop where
 all:∀e∈Ls,∃u,Ent p e u/\inn S (p.q.res u)/\e.h=(num S (p.q.res u):Int)
 nd:(Ls.map λe=>(e.v,e.l)).Nodup
def EU (p:RP) (Ls Ls':List Br) (n:Nat):Prop:=∀e∈Ls',e∈Ls\/∃u,Ent p e u/\szs u<=n
theorem yK {p:RP} (_:RF p) {e:Br} {u w:Nat->Tr} (hu:Ent p e u) (hw:Ent p e w):p.q.res u=p.q.res w/\szs u=szs w:=by
 have h0:u 0=w 0:=bX hu.i.1 hw.i.1 (by have:=hu.x;have:=hw.x;omega);have h1:u 1=w 1:=bX hu.i.2.1 hw.i.2.1 (by have:=hu.y;have:=hw.y;omega);have h2:u 2=w 2:=by rw [hu.i.2.2,hw.i.2.2]
 unfold AP.res szs;rw [h0,h1,h2];exact ⟨rfl,rfl⟩
theorem Ma.length {p:RP} {S:List Tr} {Ls:List Br} (h:Ma p S Ls):Ls.length<=(p.A.length+2)*(p.B.length+2):=by
 have hl:((List.range (p.A.length+2)).flatMap λ(i:Nat)=>(List.range (p.B.length+2)).map λ(j:Nat)=>((i:Int),(j:Int))).length=(p.A.length+2)*(p.B.length+2):=by simp only [List.length_flatMap,Tu,TW,List.map_const',List.sum_replicate_nat]
 have:=dx (Ls.map λe=>(e.v,e.l)) ((List.range (p.A.length+2)).flatMap λ(i:Nat)=>(List.range (p.B.length+2)).map λ(j:Nat)=>((i:Int),(j:Int))) h.nd λx hx=>by obtain ⟨e,he,rfl⟩:=Tw.1 hx;obtain ⟨u,hu,_⟩:=h.all e he;have h1:=eK hu.i.1;have h2:=eK hu.i.2.1;exact U3.2 ⟨num p.A (u 0),Ua.2 (by omega),Tw.2 ⟨num p.B (u 1),Ua.2 (by omega),by rw [hu.x,hu.y]⟩⟩
 rw [hl,Tu] at this;exact this
structure RS (F0 F:PH) (p:RP) (S:List Tr) (Ls:List Br):Prop where
 le:F0.le F
 nb:F0 p.bp=none
 cl:Cl S
 ok:Ma p S Ls
 ex:∃nodes bE:Sl,F p.bp=some (.cells (p.obj nodes bE) 203)/\cf F 124 3 nodes (aW (brs S))/\(∀a,nodes.base=some a->F0 a.block=none)/\cf F 215 3 bE (aW Ls)/\(∀a,bE.base=some a->F0 a.block=none)
theorem uS {F:PH} {p:RP} {nodes bE:Sl} (hf:RF p) (hb:F p.bp=some (.cells (p.obj nodes bE) 203)) (x y:Bool):
  aj prog 191 #[.pointer (some ⟨p.bp,0,none⟩),vi (if x then 1 else 0:Nat),vi (if y then 1 else 0:Nat)] F λr F'=>r=vi (if p.o x y then 1 else 0:Nat)/\F'=F:=by
 refine Oz ?_;unfold Jt;refine ⟨_,rfl,p.opc,by rw [aC,am hb];rfl,λh=> ?_,λh=>⟨λh1=> ?_,λh1=> ?_⟩⟩
 ·have ho:p.o=aX:=by rcases hf.op with h'|h'|h'<;>first|exact h'.2|(exfalso;omega)
  rw [ho];cases x<;>cases y<;>exact ⟨congrArg (Value.int .i64) (by decide),rfl⟩
 ·have ho:p.o=oOr:=by rcases hf.op with h'|h'|h'<;>first|exact h'.2|(exfalso;omega)
  rw [ho];cases x<;>cases y<;>exact ⟨congrArg (Value.int .i64) (by decide),rfl⟩
 ·have ho:p.o=ko:=by rcases hf.op with h'|h'|h'<;>first|exact h'.2|(exfalso;omega)
  rw [ho];cases x<;>cases y<;>exact ⟨congrArg (Value.int .i64) (by decide),rfl⟩
def RAt (p:RP) (t:Nat->Tr):Prop:=∀(F0 F:PH) (S:List Tr) (Ls:List Br),RE F0 p->RS F0 F p S Ls->Fit ((vis (p.q.res t) S).length+4)->
 aj prog 160 #[.pointer (some ⟨p.bp,0,none⟩),vi (num p.A (t 0)),vi (num p.B (t 1))] F λr F'=>r=vi (num (vis (p.q.res t) S) (p.q.res t))/\∃Ls',RS F0 F' p (vis (p.q.res t) S) Ls'/\EU p Ls Ls' (szs t)
section
variable {p:RP} {t:Nat->Tr} {F0 F:PH} {S:List Tr} {Ls:List Br}
theorem Mb (hf:RF p) (ht:p.in2 t) (ih:∀u,p.in2 u->szs u<szs t->RAt p u) (he:RE F0 p) (hs:RS F0 F p S Ls) (hfit:Fit ((vis (p.q.res t) S).length+4)) (hn:¬((t 0).isL=true/\(t 1).isL=true))
  (hnew:∀e∈Ls,¬(e.v=(num p.A (t 0):Int)/\e.l=(num p.B (t 1):Int))) {R:Value->Ψ}
  (hR:∀F' Ls',RS F0 F' p (vis (p.q.res t) S) Ls'->EU p Ls Ls' (szs t)->R (vi (num (vis (p.q.res t) S) (p.q.res t))) F'):
  uH (some ⟨p.bp,0,none⟩) (num p.A (t 0)) (num p.B (t 1)) R F:=by
 have hv:aV (t 0) (t 1) (t 2)<64:=by
  have k0:=λhl=>mF (hf.cA.inn_ok ht.1) hl;have k1:=λhl=>mF (hf.cB.inn_ok ht.2.1) hl;unfold aV;cases e0:(t 0).isL with
  |false=>have:=k0 e0;omega
  |true=>
   cases e1:(t 1).isL with
   |false=>have:=k1 e1;omega
   |true=>exact absurd ⟨e0,e1⟩ hn
 have D:=OH hf.af (RP.in2_in ht) hv;have hmin:min ((t 0).top:Int) ((t 1).top:Int)=((aV (t 0) (t 1) (t 2):Nat):Int):=by
  have h2:(t 2).top=64:=by rw [ht.2.2];rfl
  unfold aV at hv ⊢;rw [h2] at hv ⊢;omega
 have hlo2:∀v,lo v (t 2)=leaf false:=λv=>by rw [ht.2.2];rfl
 have hhi2:∀v,hi v (t 2)=leaf false:=λv=>by rw [ht.2.2];rfl
 obtain ⟨hle,hnb,hcl,hok,nodes,bE,hb,hon,hnn,hos,hsn⟩:=hs;have hs0:RS F0 F p S Ls:=⟨hle,hnb,hcl,hok,nodes,bE,hb,hon,hnn,hos,hsn⟩;unfold uH;have dA:∀{G:PH},F0.le G->DV G #[p.sa.v,vi p.da.2] p.da:=λhl=>⟨p.sa,rfl,(he.le hl).a⟩;have dB:∀{G:PH},F0.le G->DV G #[p.sb.v,vi p.db.2] p.db:=λhl=>⟨p.sb,rfl,(he.le hl).b⟩;have rowA:∀{G:PH} {n s:Sl},G p.bp=some (.cells (p.obj n s) 203)->G.row ⟨p.bp,0,none⟩ #[p.sa.v,vi p.da.2]:=λ{G n s} hG i hi=>by
  simp only [aC];rw [am hG]
  match i,hi with
  |0,_=>rfl
  |1,_=>rfl
 have rowB:∀{G:PH} {n s:Sl},G p.bp=some (.cells (p.obj n s) 203)->G.row (Addr.add ⟨p.bp,0,none⟩ 2) #[p.sb.v,vi p.db.2]:=λ{G n s} hG i hi=>by
  simp only [aC];rw [am hG]
  match i,hi with
  |0,_=>rfl
  |1,_=>rfl
 refine ⟨_,rfl,_,rfl,rowA hb,_,rfl,rowB hb,?_⟩;refine (eX (dA hle) hf.pA ht.1 hf.fA).mono ?_;rintro _ F1 ⟨rfl,l1⟩;have hb1:=l1 _ _ hb;refine ⟨_,rfl,rowB hb1,?_⟩;refine (eX (dB (hle.trans l1)) hf.pB ht.2.1 hf.fB).mono ?_;rintro _ F2 ⟨rfl,lx⟩;have l2:=l1.trans lx;have hb2:=l2 _ _ hb;refine ⟨_,rfl,_,rfl,rowA hb2,?_⟩;rw [hmin];generalize aV (t 0) (t 1) (t 2)=v at*;refine (nQ (dA (hle.trans l2)) hf.pA ht.1 hf.fA D.lt).mono ?_;rintro _ F3 ⟨rfl,lx3⟩;have l3:=l2.trans lx3;have hb3:=l3 _ _ hb;refine ⟨_,_,rfl,_,rfl,rowB hb3,?_⟩;refine (nQ (dB (hle.trans l3)) hf.pB ht.2.1 hf.fB D.lt).mono ?_;rintro _ F4 ⟨rfl,lx4⟩;have l4:=l3.trans lx4;refine ⟨_,_,rfl,?_⟩;have hs4:RS F0 F4 p S Ls:=⟨hle.trans l4,hnb,hcl,hok,nodes,bE,l4 _ _ hb,hon.upto l4,hnn,hos.upto l4,hsn⟩;have kl:p.in2 (λi=>lo v (t i)):=⟨D.il.1,D.il.2.1,hlo2 v⟩;have kh:p.in2 (λi=>hi v (t i)):=⟨D.ih.1,D.ih.2.1,hhi2 v⟩;obtain ⟨a1,a2,X,a3,a4⟩:=bo (p.q.res λi=>lo v (t i)) S D.ol hcl;obtain ⟨c1,c2,Y,c3,c4⟩:=bo (p.q.res λi=>hi v (t i)) (vis (p.q.res λi=>lo v (t i)) S) D.oh a1;have hadd:=qE hcl (v:=v) (l:=p.q.res λi=>lo v (t i)) (h:=p.q.res λi=>hi v (t i)) ⟨D.lt,D.tl,D.th,D.ol,D.oh⟩;rw [<- D.res] at hadd;have g1:=wL (p.q.res λi=>hi v (t i)) (vis (p.q.res λi=>lo v (t i)) S);have g2:=AG (vis (p.q.res λi=>hi v (t i)) (vis (p.q.res λi=>lo v (t i)) S)) (p.q.res t);rw [hadd] at g2;refine (ih _ kl D.sl F0 F4 S Ls he hs4 (by omega)).mono ?_;rintro _ F5 ⟨rfl,L1,hs5,gr1⟩;refine ⟨_,rfl,?_⟩;refine (ih _ kh D.sh F0 F5 _ L1 he hs5 (by omega)).mono ?_;rintro _ F6 ⟨rfl,L2,hs6,gr2⟩;obtain ⟨hle6,_,hcl6,hok6,nodes6,seen6,hb6,hon6,hnn6,hos6,hsn6⟩:=hs6;refine ⟨_,rfl,nodes6,by rw [aC,am hb6];rfl,?_⟩;have hnl:num (vis (p.q.res λi=>lo v (t i)) S) (p.q.res λi=>lo v (t i))=num (vis (p.q.res λi=>hi v (t i)) (vis (p.q.res λi=>lo v (t i)) S)) (p.q.res λi=>lo v (t i)):=by rw [c3,bO a2]
 rw [hnl];have hil:inn (vis (p.q.res λi=>hi v (t i)) (vis (p.q.res λi=>lo v (t i)) S)) (p.q.res λi=>lo v (t i)):=by rw [c3];exact bT a2
 refine (wW hle6 hon6 hnn6 hcl6 (v:=v) hil c2 (by omega)).mono ?_;rintro _ F7 ⟨n7,rfl,hle7,hon7,hnn7,hk7⟩;rw [<- D.res,hadd] at hon7 ⊢;have nbn:∀a,nodes6.base=some a->a.block≠p.bp:=λa ha e=>by obtain ⟨cur,hcur⟩:=hon6.elem ha;rw [e,hb6] at hcur;simp at hcur
 have nns:∀a,seen6.base=some a->¬∃a',nodes6.base=some a'/\a'.block=a.block:=λa ha ⟨a',ha',e⟩=>by obtain ⟨cur,hcur⟩:=hon6.elem ha';obtain ⟨cur',hcur'⟩:=hos6.elem ha;rw [e,hcur'] at hcur;simp at hcur
 have hb7:=hk7 _ _ hb6 (λ⟨a,ha,e⟩=>nbn a ha e);have hos7:=hos6.keepK hk7 nns;refine ⟨_,_,rfl,?_⟩;refine rY (b:=p.bp) (o:=5) (by simp) hb7 (by simp [RP.obj]) ?_;rw [show ((p.obj nodes6 seen6).setIfInBounds 5 n7.v:Γ)=p.obj n7 seen6 from rfl];have nb7:∀a,n7.base=some a->a.block≠p.bp:=λa ha e=>by obtain ⟨cur,hcur⟩:=hon7.elem ha;rw [e,hb7] at hcur;simp at hcur
 have nbs:∀a,seen6.base=some a->a.block≠p.bp:=λa ha e=>by obtain ⟨cur,hcur⟩:=hos7.elem ha;rw [e,hb7] at hcur;simp at hcur
 have hle8:F0.le (F7.set p.bp (.cells (p.obj n7 seen6) 203)):=aw hle7 hnb;have hb8:=ak F7 p.bp (.cells (p.obj n7 seen6) 203);have hon8:cf (F7.set p.bp (.cells (p.obj n7 seen6) 203)) 124 3 n7 (aW (brs (vis (p.q.res t) S))):=hon7.keep λa ha=>au _ _ (nb7 a ha);have hos8:cf (F7.set p.bp (.cells (p.obj n7 seen6) 203)) 215 3 seen6 (aW L2):=hos7.keep λa ha=>au _ _ (nbs a ha);generalize F7.set p.bp (.cells (p.obj n7 seen6) 203)=F8 at*;refine ⟨seen6,by rw [aC,am hb8];rfl,rfl,λb132 hb132=> ?_⟩;refine atI ?_;generalize hN:num (vis (p.q.res t) S) (p.q.res t)=N at*;have lx9:=ae (.cells (aY ⟨(num p.A (t 0):Int),(num p.B (t 1):Int),(N:Int)⟩) 215) hb132;have q132:=ak F8 b132 (.cells (aY ⟨(num p.A (t 0):Int),(num p.B (t 1):Int),(N:Int)⟩) 215);show aD prog _ (F8.set b132 (.cells (aY ⟨(num p.A (t 0):Int),(num p.B (t 1):Int),(N:Int)⟩) 215)) _;have hle9:=hle8.trans lx9;have hb9:=lx9 _ _ hb8;have hon9:=hon8.upto lx9;have hos9:=hos8.upto lx9;generalize F8.set b132 (.cells (aY ⟨(num p.A (t 0):Int),(num p.B (t 1):Int),(N:Int)⟩) 215)=F9 at*;have hL2:=hok6.length;have hfP:=hf.fP;have hslen:=hos9.rd.blen;have IH:tsz prog 215=some (3,24):=by kernel_rfl
 have II:bS prog 215=some (.agg #[.int .i64 0,.int .i64 0,.int .i64 0]):=by kernel_rfl
 refine kW underlying201 IH II rfl (by decide) hle9 hos9 hsn6 (x:=⟨some ⟨b132,0,none⟩,1,1⟩) (news:=cY ⟨(num p.A (t 0):Int),(num p.B (t 1):Int),(N:Int)⟩) (RdS.new q132 rfl rfl (Tj _))
  (λx hx=>gN [⟨(num p.A (t 0):Int),(num p.B (t 1):Int),(N:Int)⟩] x (by simpa [aW] using hx)) (by simp only [hslen];omega) (by simp only [hslen];omega) ?_
 intro s10 F10 hle10 hos10 hlen10 hsn10 hk10 _;have nbs9:∀a,seen6.base=some a->a.block≠p.bp:=nbs;have hb10:=hk10 _ _ hb9 (λ⟨a,ha,e⟩=>nbs9 a ha e);have hon10:=hon9.keepK hk10 λa ha ⟨a',ha',e⟩=>by obtain ⟨cur,hcur⟩:=hon9.elem ha;obtain ⟨cur',hcur'⟩:=hos9.elem ha';rw [e,hcur] at hcur';simp at hcur'
 refine ⟨s10,rfl,?_⟩;refine rY (b:=p.bp) (o:=6) (by simp) hb10 (by simp [RP.obj]) ?_;rw [show ((p.obj n7 seen6).setIfInBounds 6 s10.v:Γ)=p.obj n7 s10 from rfl];have nb10:∀a,n7.base=some a->a.block≠p.bp:=nb7;have nbs10:∀a,s10.base=some a->a.block≠p.bp:=λa ha e=>by obtain ⟨cur,hcur⟩:=hos10.elem ha;rw [e,hb10] at hcur;simp at hcur
 have hokT:(p.q.res t).ok:=by rw [D.res];exact z7 D.lt D.tl D.th D.ol D.oh
 obtain ⟨v1,v2,Z,v3,v4⟩:=bo (p.q.res t) S hokT hcl;have het:Ent p ⟨(num p.A (t 0):Int),(num p.B (t 1):Int),(N:Int)⟩ t:=⟨ht,rfl,rfl⟩;have hL2new:∀e∈L2,(e.v,e.l)≠((num p.A (t 0):Int),(num p.B (t 1):Int)):=by
  intro e he2 hk;simp only [UX] at hk;rcases gr2 e he2 with h|⟨u,hu,hsz⟩
  ·rcases gr1 e h with h|⟨u,hu,hsz⟩
   ·exact hnew e h hk
   ·have:=(yK hf hu (w:=t) ⟨ht,hk.1,hk.2⟩).2;have:=D.sl;omega
  ·have:=(yK hf hu (w:=t) ⟨ht,hk.1,hk.2⟩).2;have:=D.sh;omega
 have hfin:=hR (F10.set p.bp (.cells (p.obj n7 s10) 203)) (L2++[⟨(num p.A (t 0):Int),(num p.B (t 1):Int),(N:Int)⟩])
  ⟨aw hle10 hnb,hnb,v1,⟨λe he2=> ?_,?_⟩,n7,s10,ak _ _ _,hon10.keep λa ha=>au _ _ (nb10 a ha),hnn7,by rw [eD];simpa [aW] using hos10.keep λa ha=>au _ _ (nbs10 a ha),hsn10⟩ ?_
 ·exact hfin
 ·rcases Tm.1 he2 with he2|he2
  ·obtain ⟨u,hu,hi2,hh2⟩:=hok6.all e he2;refine ⟨u,hu,?_,?_⟩
   ·rw [<- hadd];unfold eY;split
    ·exact hi2
    ·exact bT hi2
   ·rw [hh2,<- hadd];unfold eY;split
    ·rfl
    ·rw [bO hi2]
  ·rw [Ti.1 he2];exact ⟨t,het,v2,by rw [hN]⟩
 ·rw [TX,TN];refine ⟨hok6.nd,by simp,?_⟩;intro x hx y hy;obtain ⟨e,he2,rfl⟩:=Tw.1 hx;simp only [TK,List.map_nil,Ti] at hy;rw [hy];exact hL2new e he2
 ·intro e he2;rcases Tm.1 he2 with he2|he2
  ·rcases gr2 e he2 with h|⟨u,hu,hsz⟩
   ·rcases gr1 e h with h|⟨u,hu,hsz⟩
    ·exact .inl h
    ·exact .inr ⟨u,hu,by have:=D.sl;omega⟩
   ·exact .inr ⟨u,hu,by have:=D.sh;omega⟩
  ·rw [Ti.1 he2];exact .inr ⟨t,het,Tj _⟩
theorem EV (hf:RF p):∀(n:Nat) (t:Nat->Tr),szs t<=n->p.in2 t->RAt p t:=by
 intro n;induction n with
 |zero=>intro t hn;have:=i6 (t 0);unfold szs at hn;omega
 |succ n ih=>
  intro t hn ht F0 F S Ls he hs hfit;obtain ⟨hle,hnb,hcl,hok,nodes,bE,hb,hon,hnn,hos,hsn⟩:=id hs;refine Ow ?_;unfold Jq;have rest:¬((t 0).isL=true/\(t 1).isL=true)->li (some ⟨p.bp,0,none⟩) (num p.A (t 0)) (num p.B (t 1)) false (λr F'=>r=vi (num (vis (p.q.res t) S) (p.q.res t))/\∃Ls',RS F0 F' p (vis (p.q.res t) S) Ls'/\EU p Ls Ls' (szs t)) F:=by
   intro hnl;unfold li;refine ⟨λh=>(by cases h),λ_=> ?_⟩;have hslen:=hos.rd.blen;have hL:=hok.length;have hfP:=hf.fP;have csn:F.cell (Addr.add ⟨p.bp,0,none⟩ 6)=some bE.v:=by rw [aC,am hb];rfl
   refine ⟨λm i F'=>∃k:Nat,i=k/\k<=Ls.length/\m=Ls.length - k/\F'=F/\∀e∈Ls.take k,¬(e.v=(num p.A (t 0):Int)/\e.l=(num p.B (t 1):Int)),Ls.length,⟨0,rfl,by omega,rfl,rfl,by simp⟩,?_⟩;rintro m i F' ⟨k,rfl,hk,rfl,rfl,hnot⟩;unfold Ar;refine ⟨_,rfl,bE,csn,λhlt=> ?_,λhge=> ?_⟩
   ·have hkL:k<Ls.length:=by omega
    obtain ⟨a,ha,_,hx,hy,hh⟩:=rdb hos.rd (N4 hkL);have hw1:i64.wrap ((k:Int)+1)=((k+1:Nat):Int):=i9 (by omega);have next:¬(Ls[k].v=(num p.A (t 0):Int)/\Ls[k].l=(num p.B (t 1):Int))->∃m',m'<Ls.length - k/\∃k':Nat,((k+1:Nat):Int)=k'/\k'<=Ls.length/\m'=Ls.length - k'/\F'=F'/\∀e∈Ls.take k',¬(e.v=(num p.A (t 0):Int)/\e.l=(num p.B (t 1):Int)):=λhne=>
     ⟨Ls.length - (k+1),by omega,k+1,rfl,by omega,rfl,rfl,λe he2=>by
      rw [TF hkL] at he2;rcases Tm.1 he2 with he2|he2
      ·exact hnot e he2
      ·rw [Ti.1 he2];exact hne⟩
    have ax:F'.cell (Addr.add (Addr.add a (Int.toNat (k:Int)*3)) (Int.toNat 0*1))=some (vi Ls[k].v):=by obtain ⟨ab,ao,asp⟩:=a;obtain ⟨b',o',hb',_⟩:=hos.rd.cells (by omega);rw [ha] at hb';cases hb';simpa using hx
    refine ⟨bE,csn,a,ha,by omega,by omega,by omega,by omega,_,ax,λhx1=> ?_,λhx1=> ?_⟩
    ·have ay:F'.cell (Addr.add (Addr.add a (Int.toNat (k:Int)*3)) (Int.toNat 1*1))=some (vi Ls[k].l):=by simpa using hy
     refine ⟨bE,csn,a,ha,by omega,by omega,by omega,by omega,_,ay,?_⟩;unfold oW;refine ⟨λhy1=> ?_,λhy1=> ?_⟩
     ·have hy1:=of_decide_eq_true hy1;have ah:F'.cell (Addr.add (Addr.add a (Int.toNat (k:Int)*3)) (Int.toNat 2*1))=some (vi Ls[k].h):=by simpa using hh
      obtain ⟨u,hu,hi2,hh2⟩:=hok.all _ (UA hkL);have e:=(yK hf hu (w:=t) ⟨ht,hx1,hy1⟩).1;rw [e] at hi2 hh2;have hvi:=f7 hi2;refine ⟨bE,csn,a,ha,by omega,by omega,by omega,by omega,_,ah,?_⟩;rw [hvi,hh2];exact ⟨rfl,Ls,hs,λe he2=> .inl he2⟩
     ·rw [hw1];exact next λhc=>of_decide_eq_false hy1 hc.2
    ·unfold oW;refine ⟨λh=>(by cases h),λ_=> ?_⟩;rw [hw1];exact next λhc=>hx1 hc.1
   ·refine Mb hf ht (λu hu hlt=>ih u (by omega) hu) he hs hfit hnl (λe he2=> ?_) λF' Ls' h1 h2=>⟨rfl,Ls',h1,h2⟩;have hkL:k=Ls.length:=by omega
    rw [hkL,Tv] at hnot;exact hnot e he2
  refine ⟨λhx=> ?_,λhx=>rest λhc=>hx (dJ.2 hc.1)⟩;by_cases hy:(t 1).isL=true
  ·have e:decide ((num p.B (t 1):Int)<2)=true:=decide_eq_true (dJ.2 hy);rw [e];have hx':=dJ.1 hx;unfold li;refine ⟨λ_=> ?_,λh=>by cases h⟩;have hres:∀x0 x1:Bool,t 0=leaf x0->t 1=leaf x1->p.q.res t=leaf (p.o x0 x1):=λx0 x1 e0 e1=>by unfold AP.res;rw [e0,e1,ht.2.2];exact kQ _ _ _ _
   generalize ht0:t 0=y0 at*;generalize ht1:t 1=y1 at*;cases y0 with
   |node _ _ _=>cases hx'
   |leaf x0=>
    cases y1 with
    |node _ _ _=>cases hy
    |leaf x1=>have hr:=hres x0 x1 rfl rfl;rw [hr];refine (uS hf hb x0 x1).mono ?_;rintro _ F' ⟨rfl,rfl⟩;exact ⟨_,rfl,rfl,Ls,hs,λe he2=> .inl he2⟩
  ·have e:decide ((num p.B (t 1):Int)<2)=false:=decide_eq_false (λh=>hy (dJ.1 h));rw [e];exact rest λhc=>hy hc.2
end
noncomputable abbrev ap2 (o:Op2) (a b:Tr):Tr:=ap (λx y _=>o x y) a b (leaf false)
structure F2 (o:Op2) (a b:Tr):Prop where
 ka:a.ok
 kb:b.ok
 fA:Fit ((aO a).length+2)
 fB:Fit ((aO b).length+2)
 fP:Fit (((aO a).length+2)*((aO b).length+2)+2)
 fT:Fit ((aO (ap2 o a b)).length+4)
theorem bi {o:Op2} {a b:Tr} (ha:a.ok) (hb:b.ok):(ap2 o a b).ok/\∀c,(ap2 o a b).ev c=o (a.ev c) (b.ev c):=by obtain ⟨h1,_,h2⟩:=eV (o:=λx y _=>o x y) ha hb (d:=leaf false) trivial;exact ⟨h1,h2⟩
section
variable {F:PH} {v w:Γ} {a b:Tr}
theorem gu {o:Op2} {opc:Int} (hop:(opc=0/\o=aX)\/(opc=1/\o=oOr)\/(opc=2/\o=ko)) (ha:DV F v (dia a)) (hb:DV F w (dia b)) (h:F2 o a b):
  aj prog 110 #[.agg v,.agg w,vi opc] F λr F'=>∃u,r=.agg u/\DV F' u (dia (ap2 o a b))/\F.le F':=by
 obtain ⟨ka,kb,fA,fB,fP,fT⟩:=h;obtain ⟨sa,rfl,hra⟩:=ha;obtain ⟨sb,rfl,hrb⟩:=hb;refine Ou ?_;unfold Jn;intro b3 hb3;refine atI ?_;have l3:=ae (.cells #[sa.v,vi (dia a).2] 31) hb3;have q3:=ak F b3 (.cells #[sa.v,vi (dia a).2] 31);generalize F.set b3 (.cells #[sa.v,vi (dia a).2] 31)=F3 at*;intro b4 hb4;refine atI ?_;have lx:=ae (.cells #[sb.v,vi (dia b).2] 31) hb4;have q4:=ak F3 b4 (.cells #[sb.v,vi (dia b).2] 31);replace q3:=lx _ _ q3;have l4:=l3.trans lx;clear lx;generalize F3.set b4 (.cells #[sb.v,vi (dia b).2] 31)=F4 at*;intro b6 hb6;refine atI ?_;have f6:F b6=none:=aS l4 hb6;have lx:=ae (.cells zD 31) hb6;have q6:=ak F4 b6 (.cells zD 31);replace q3:=lx _ _ q3;replace q4:=lx _ _ q4;have l6:=l4.trans lx;clear lx;generalize F4.set b6 (.cells zD 31)=F6 at*;refine ⟨#[sa.v,vi (dia a).2],rfl,ac q3,#[sb.v,vi (dia b).2],rfl,ac q4,rfl,rfl,λb13 hb13=> ?_⟩;refine atI ?_
 let p:RP:=⟨b13,sa,sb,opc,o,dia a,dia b,aO a,aO b⟩
 have e13:(Array.setIfInBounds (wr (wr (#[Value.slice none 0 0,vi 0,Value.slice none 0 0,vi 0,vi 0,Value.slice none 0 0,Value.slice none 0 0]:Γ) 0 (#[sa.v,vi (dia a).2]:Γ).toList) 2 (#[sb.v,vi (dia b).2]:Γ).toList) 4 (vi opc))=p.obj Sl.nil Sl.nil:=rfl;rw [e13];have lx:=ae (.cells (p.obj Sl.nil Sl.nil) 203) hb13;have q13:=ak F6 b13 (.cells (p.obj Sl.nil Sl.nil) 203);have q3':=lx _ _ q3;have q4':=lx _ _ q4;have hrf:RF p:=⟨bu ka,bu kb,Uh _,Uh _,by show Fit ((brs (aO a)).length+2);rw [aL];exact fA,by show Fit ((brs (aO b)).length+2);rw [aL];exact fB,fP,hop⟩;have hre:RE F6 p:=⟨hra.le l6,hrb.le l6⟩;have hrs:RS F6 (F6.set b13 (.cells (p.obj Sl.nil Sl.nil) 203)) p [] []:=⟨lx,hb13,.nil,⟨λe he=>(by cases he),by simp⟩,Sl.nil,Sl.nil,q13,.inl ⟨rfl,rfl⟩,λa ha=>(by cases ha),.inl ⟨rfl,rfl⟩,λa ha=>by cases ha⟩;generalize F6.set b13 (.cells (p.obj Sl.nil Sl.nil) 203)=F7 at*;refine ⟨(dia a).2,by rw [am q3'];rfl,(dia b).2,by rw [am q4'];rfl,?_⟩;have hres:p.q.res (lj a b (leaf false))=ap2 o a b:=rfl;have hat:=EV hrf _ (lj a b (leaf false)) (Tj _) ⟨bH ka,bH kb,rfl⟩ F6 F7 [] [] hre hrs (by rw [hres];exact fT);rw [hres] at hat;refine hat.mono ?_;rintro _ F8 ⟨rfl,Ls',hs8,_⟩;obtain ⟨hle8,hnb8,hcl8,_,nodes,bE,hb8,hon8,hnn8,_,_⟩:=hs8;replace hb8:F8 b13=some (.cells (p.obj nodes bE) 203):=hb8;refine ⟨_,rfl,nodes,by rw [am hb8];rfl,?_⟩;have ev:vis (ap2 o a b) []=aO (ap2 o a b):=rfl;rw [ev] at*;have q68:=hle8 _ _ q6
 have hon':cf (dH F8 b6) 124 3 nodes (aW (brs (aO (ap2 o a b)))):=hon8.keep λa ha=>eT (λe=>by
  have:=hnn8 a ha;rw [e,q6] at this
  cases this)
 have hkT:=(bi (o:=o) ka kb).1;refine (iC (jU hon'.rd hcl8 (bH hkT) fT) q68).mono ?_;rintro _ F9 ⟨u,rfl,⟨G,hu,lG,gG⟩,l9,q9⟩;refine ⟨_,rfl,?_⟩;exact fV (K:=λvres F'=>∃u,Value.agg vres=.agg u/\DV F' u (dia (ap2 o a b))/\F.le F') hu q9 rfl ⟨_,rfl,hu.le (aw lG gG),aw (l6.trans (hle8.trans l9)) f6⟩
theorem ij (ha:DV F v (dia a)) (hb:DV F w (dia b)) (h:F2 aX a b):aj prog 45 #[.agg v,.agg w] F λr F'=>∃u,r=.agg u/\DV F' u (dia (ap2 aX a b))/\F.le F':=by refine RN ?_;unfold Om;intro b2 hb2;refine atI ?_;have l2:=ae (.cells v 31) hb2;have q2:=ak F b2 (.cells v 31);generalize F.set b2 (.cells v 31)=F2 at*;intro b3 hb3;refine atI ?_;have lx:=ae (.cells w 31) hb3;have q3:=ak F2 b3 (.cells w 31);replace q2:=lx _ _ q2;have l3:=l2.trans lx;clear lx;generalize F2.set b3 (.cells w 31)=F3 at*;intro b4 hb4;refine atI ?_;have f4:F b4=none:=aS l3 hb4;have lx:=ae (.cells zD 31) hb4;have q4:=ak F3 b4 (.cells zD 31);replace q2:=lx _ _ q2;replace q3:=lx _ _ q3;have l4:=l3.trans lx;clear lx;generalize F3.set b4 (.cells zD 31)=F4 at*;refine ⟨v,ha.size,ac q2,w,hb.size,ac q3,?_⟩;have ld:=eC l4 f4;refine (iC (gu (opc:=0) (.inl ⟨rfl,rfl⟩) (ha.le ld) (hb.le ld) h) q4).mono ?_;rintro _ F5 ⟨z,rfl,⟨G,hz,lG,gG⟩,l5,q5⟩;refine ⟨_,rfl,?_⟩;exact fV (K:=λvres F'=>∃u,Value.agg vres=.agg u/\DV F' u (dia (ap2 aX a b))/\F.le F') hz q5 rfl ⟨_,rfl,hz.le (aw lG gG),aw (l4.trans l5) f4⟩
theorem yL (ha:DV F v (dia a)) (hb:DV F w (dia b)) (h:F2 oOr a b):aj prog 123 #[.agg v,.agg w] F λr F'=>∃u,r=.agg u/\DV F' u (dia (ap2 oOr a b))/\F.le F':=by refine Ov ?_;unfold Jo;intro b2 hb2;refine atI ?_;have l2:=ae (.cells v 31) hb2;have q2:=ak F b2 (.cells v 31);generalize F.set b2 (.cells v 31)=F2 at*;intro b3 hb3;refine atI ?_;have lx:=ae (.cells w 31) hb3;have q3:=ak F2 b3 (.cells w 31);replace q2:=lx _ _ q2;have l3:=l2.trans lx;clear lx;generalize F2.set b3 (.cells w 31)=F3 at*;intro b4 hb4;refine atI ?_;have f4:F b4=none:=aS l3 hb4;have lx:=ae (.cells zD 31) hb4;have q4:=ak F3 b4 (.cells zD 31);replace q2:=lx _ _ q2;replace q3:=lx _ _ q3;have l4:=l3.trans lx;clear lx;generalize F3.set b4 (.cells zD 31)=F4 at*;refine ⟨v,ha.size,ac q2,w,hb.size,ac q3,?_⟩;have ld:=eC l4 f4;refine (iC (gu (opc:=1) (.inr (.inl ⟨rfl,rfl⟩)) (ha.le ld) (hb.le ld) h) q4).mono ?_;rintro _ F5 ⟨z,rfl,⟨G,hz,lG,gG⟩,l5,q5⟩;refine ⟨_,rfl,?_⟩;exact fV (K:=λvres F'=>∃u,Value.agg vres=.agg u/\DV F' u (dia (ap2 oOr a b))/\F.le F') hz q5 rfl ⟨_,rfl,hz.le (aw lG gG),aw (l4.trans l5) f4⟩
theorem qL (ha:DV F v (dia a)) (h:F2 ko a (leaf true)):aj prog 86 #[.agg v] F λr F'=>∃u,r=.agg u/\DV F' u (dia (ap2 ko a (leaf true)))/\F.le F':=by refine RR ?_;unfold Oq;intro b2 hb2;refine atI ?_;have l2:=ae (.cells v 31) hb2;have q2:=ak F b2 (.cells v 31);generalize F.set b2 (.cells v 31)=F3 at*;intro b4 hb4;refine atI ?_;have f4:F b4=none:=aS l2 hb4;have lx:=ae (.cells zD 31) hb4;have q4:=ak F3 b4 (.cells zD 31);replace q2:=lx _ _ q2;have l4:=l2.trans lx;clear lx;generalize F3.set b4 (.cells zD 31)=F4 at*;refine ⟨v,ha.size,ac q2,?_⟩;refine (iC (dh (F:=dH F4 b4) true) q4).mono ?_;rintro _ F5 ⟨y,rfl,⟨G0,hy,lG0,gG0⟩,l5,q5⟩;refine ⟨_,rfl,ac (l5 _ _ q2),?_⟩;have ld:=eC (l4.trans l5) f4;refine (iC (gu (opc:=2) (.inr (.inr ⟨rfl,rfl⟩)) (ha.le ld) (hy.beside lG0 gG0) h) q5).mono ?_;rintro _ F6 ⟨z,rfl,⟨G,hz,lG,gG⟩,l6,q6⟩;refine ⟨_,rfl,?_⟩;exact fV (K:=λvres F'=>∃u,Value.agg vres=.agg u/\DV F' u (dia (ap2 ko a (leaf true)))/\F.le F') hz q6 rfl ⟨_,rfl,hz.le (aw lG gG),aw (l4.trans (l5.trans l6)) f4⟩
theorem yM (ha:DV F v (dia a)) (hb:DV F w (dia b)) (h1:F2 ko b (leaf true)) (h2:F2 aX a (ap2 ko b (leaf true))):
  aj prog 175 #[.agg v,.agg w] F λr F'=>∃u,r=.agg u/\DV F' u (dia (ap2 aX a (ap2 ko b (leaf true))))/\F.le F':=by
 refine Oy ?_;unfold Js;intro b2 hb2;refine atI ?_;have l2:=ae (.cells v 31) hb2;have q2:=ak F b2 (.cells v 31);generalize F.set b2 (.cells v 31)=F2 at*;intro b3 hb3;refine atI ?_;have lx:=ae (.cells w 31) hb3;have q3:=ak F2 b3 (.cells w 31);replace q2:=lx _ _ q2;have l3:=l2.trans lx;clear lx;generalize F2.set b3 (.cells w 31)=F3 at*;intro b4 hb4;refine atI ?_;have f4:F b4=none:=aS l3 hb4;have lx:=ae (.cells zD 31) hb4;have q4:=ak F3 b4 (.cells zD 31);replace q2:=lx _ _ q2;replace q3:=lx _ _ q3;have l4:=l3.trans lx;clear lx;generalize F3.set b4 (.cells zD 31)=F4 at*;refine ⟨v,ha.size,ac q2,w,hb.size,ac q3,?_⟩;refine (iC (qL (hb.le (eC l4 f4)) h1) q4).mono ?_;rintro _ F5 ⟨y,rfl,⟨G0,hy,lG0,gG0⟩,l5,q5⟩;refine ⟨_,rfl,ac (l5 _ _ q2),?_⟩;refine (iC (ij (ha.le (eC (l4.trans l5) f4)) (hy.beside lG0 gG0) h2) q5).mono ?_;rintro _ F6 ⟨z,rfl,⟨G,hz,lG,gG⟩,l6,q6⟩;refine ⟨_,rfl,?_⟩;exact fV (K:=λvres F'=>∃u,Value.agg vres=.agg u/\DV F' u (dia (ap2 aX a (ap2 ko b (leaf true))))/\F.le F') hz q6 rfl ⟨_,rfl,hz.le (aw lG gG),aw (l4.trans (l5.trans l6)) f4⟩
end
theorem qM {n v:Nat} {t:Tr} (h:dY n t):dY n (lo v t):=by
 cases t with
 |leaf b=>trivial
 |node w l r=>
  simp only [lo];split
  ·exact h.2.1
  ·exact h
theorem qN {n v:Nat} {t:Tr} (h:dY n t):dY n (hi v t):=by
 cases t with
 |leaf b=>trivial
 |node w l r=>
  simp only [hi];split
  ·exact h.2.2
  ·exact h
theorem EW {n v:Nat} {l h:Tr} (hv:v<n) (h1:dY n l) (h2:dY n h):dY n (mk v l h):=by
 unfold mk;split
 ·exact h1
 ·exact ⟨hv,h1,h2⟩
theorem mP {n:Nat} {t:Tr} (h:dY n t) (hl:t.isL=false):t.top<n:=by
 cases t with
 |leaf b=>cases hl
 |node v l r=>exact h.1
theorem EX (o:Op3) {n:Nat}:∀(k:Nat) (a b d:Tr),a.sz+b.sz+d.sz<=k->a.ok->b.ok->d.ok->dY n a->dY n b->dY n d->dY n (ap o a b d):=by
 intro k;induction k with
 |zero=>intro a b d hk;have:=i6 a;omega
 |succ k ih=>
  intro a b d hk ha hb hd na nb nd;by_cases hv:aV a b d<64
  ·have hst:=uq (o:=o) ha hb hd hv;have v1:aV a b d<=a.top:=by unfold aV;omega
   have v2:aV a b d<=b.top:=by unfold aV;omega
   have v3:aV a b d<=d.top:=by unfold aV;omega
   have hcase:aV a b d=a.top\/aV a b d=b.top\/aV a b d=d.top:=by unfold aV;omega
   generalize aV a b d=v at*;have nl:∀{t:Tr},v=t.top->t.isL=false:=λ{t} e=>by
    cases t with
    |leaf b=>simp only [top] at e;omega
    |node _ _ _=>rfl
   obtain ⟨al1,al2,al3,al4,al5⟩:=bF ha v1;obtain ⟨bl1,bl2,bl3,bl4,bl5⟩:=bF hb v2;obtain ⟨dl1,dl2,dl3,dl4,dl5⟩:=bF hd v3;obtain ⟨ah1,ah2,ah3,ah4,ah5⟩:=bG ha v1;obtain ⟨bh1,bh2,bh3,bh4,bh5⟩:=bG hb v2;obtain ⟨dh1,dh2,dh3,dh4,dh5⟩:=bG hd v3;have hvn:v<n:=by
    rcases hcase with e|e|e
    ·have:=mP na (nl e);omega
    ·have:=mP nb (nl e);omega
    ·have:=mP nd (nl e);omega
   have hsl:(lo v a).sz+(lo v b).sz+(lo v d).sz<=k:=by
    rcases hcase with e|e|e
    ·have:=al4 e.symm (nl e);omega
    ·have:=bl4 e.symm (nl e);omega
    ·have:=dl4 e.symm (nl e);omega
   have hsh:(hi v a).sz+(hi v b).sz+(hi v d).sz<=k:=by
    rcases hcase with e|e|e
    ·have:=ah4 e.symm (nl e);omega
    ·have:=bh4 e.symm (nl e);omega
    ·have:=dh4 e.symm (nl e);omega
   rw [hst];exact EW hvn (ih _ _ _ hsl al1 bl1 dl1 (qM na) (qM nb) (qM nd)) (ih _ _ _ hsh ah1 bh1 dh1 (qN na) (qN nb) (qN nd))
  ·unfold aV at hv;obtain ⟨p,rfl⟩:=fZ ha (by omega);obtain ⟨q,rfl⟩:=fZ hb (by omega);obtain ⟨r,rfl⟩:=fZ hd (by omega);rw [kQ];trivial
theorem yN {n:Nat} (hn:n<=64):∀(t:Tr),t.ok->dY n t->cnt t+1<=2 ^ (n - min n t.top)
 |leaf b,_,_=>by
  have:n - min n (leaf b).top=0:=by simp only [top];omega
  rw [this];simp [cnt]
 |node v l h,⟨h0,h1,h2,h3,h4,h5⟩,⟨b0,b1,b2⟩=>by
  have il:=yN hn l h4 b1;have ih:=yN hn h h5 b2;have k1:2 ^ (n - min n l.top)<=2 ^ (n - (v+1)):=T2 (by decide) (by omega);have k2:2 ^ (n - min n h.top)<=2 ^ (n - (v+1)):=T2 (by decide) (by omega);have e:n - min n (node v l h).top=n - (v+1)+1:=by simp only [top];omega
  rw [e,Nat.pow_succ];simp only [cnt];omega
def Sx (n:Nat) (t:Tr):Prop:=t.ok/\dY n t
theorem Sx.cnt63 {n:Nat} {t:Tr} (h:Sx n t) (hn:n<=6):cnt t<=63:=by have h1:=yN (by omega:n<=64) t h.1 h.2;have h2:2 ^ (n - min n t.top)<=2 ^ 6:=T2 (by decide) (by omega);omega
theorem Sx.small {n:Nat} {t:Tr} (h:Sx n t) (hn:n<=6):gc t:=D9 h.1 (by have:=h.cnt63 hn;omega)
theorem Sx.len {n:Nat} {t:Tr} (h:Sx n t) (hn:n<=6):(aO t).length<=63:=Ut (nI t) (h.cnt63 hn)
theorem Sx.ap {n:Nat} {o:Op3} {a b d:Tr} (ha:Sx n a) (hb:Sx n b) (hd:Sx n d):Sx n (Tr.ap o a b d):=⟨Df ha.1 hb.1 hd.1,EX o _ a b d (Tj _) ha.1 hb.1 hd.1 ha.2 hb.2 hd.2⟩
theorem Sx.leaf (n:Nat) (b:Bool):Sx n (Tr.leaf b):=⟨trivial,trivial⟩
theorem Sx.ap2 {n:Nat} {o:Op2} {a b:Tr} (ha:Sx n a) (hb:Sx n b):Sx n (ap2 o a b):=Sx.ap ha hb (Sx.leaf n _)
theorem Sx.tv {n v:Nat} (hv:v<n) (hn:n<=6):Sx n (tv v):=⟨qA (by omega),hv,trivial,trivial⟩
theorem Sx.f2 {n:Nat} {o:Op2} {a b:Tr} (ha:Sx n a) (hb:Sx n b) (hn:n<=6):F2 o a b:=by have la:=ha.len hn;have lb:=hb.len hn;have lt:=(ha.ap2 (o:=o) hb).len hn;have hp:((aO a).length+2)*((aO b).length+2)<=65*65:=Nat.mul_le_mul (by omega) (by omega);exact ⟨ha.1,hb.1,by omega,by omega,by omega,by omega⟩
theorem JY {v:Nat} (h:v<64):u64.wrap (v:Int)=(v:Int):=AC (by omega) (by omega)
theorem EY {S:Tr->Prop} {f:FuncId} {args:Γ} {F:PH} {x:Nat} {o:Obj} (h:aj prog f args (dH F x) λr F'=>∃w t,r=.agg w/\S t/\DV F' w (dia t)/\(dH F x).le F') (hx:F x=some o):
  aj prog f args F λr F'=>∃w t,r=.agg w/\S t/\(∃G,DV G w (dia t)/\G.le F'/\G x=none)/\F.le F'/\F' x=some o:=
 (aj.avoid h hx).mono λr _ ⟨G,⟨w,t,hr,ht,hw,lg⟩,lG,q,g⟩=>⟨w,t,hr,ht,⟨G,hw,lG,g⟩,gK lg lG q hx,q⟩
def Mc (l:Φ) (k:Nat):Bool:=
 if h:k / 8<l.length then decide (u8.wrap ((BitVec.ofInt (u8).bits (Int.fdiv l[k / 8] (2 ^ (min (Int.toNat (((k % 8:Nat):Int))) (u8).bits))) &&& BitVec.ofInt (u8).bits (1:Int)).toNat)=(1:Int)) else false
noncomputable def iO (l:Φ):Nat->Nat->Nat->Tr
 |0,_,k=>Tr.leaf (Mc l k)
 |m+1,v,k=>ap2 oOr (ap2 aX (tv v) (iO l m (v+1) (k+2 ^ v))) (ap2 aX (iO l m (v+1) k) (ap2 ko (tv v) (Tr.leaf true)))
theorem yO {n:Nat} (hn:n<=6):∀(m v k:Nat),v+m=n->k<2 ^ v->∀(F:PH) (sl:Sl) (l:Φ),RdS F sl 1 (l.map (Value.int .u8))->
  aj prog 135 #[sl.v,vi n,vi v,vi k] F λr F'=>∃u t,r=.agg u/\(Sx n t/\t=iO l m v k)/\DV F' u (dia t)/\F.le F':=by
 intro m;induction m with
 |zero=>
  intro v k hvm hk F sl l hr;obtain rfl:v=n:=by omega
  have hk64:k<64:=Nat.lt_of_lt_of_le hk (T2 (by decide) hn);refine Jp ?_;unfold D7;intro b8 hb8;refine atI ?_;have l8:=ae (.cells zD 31) hb8;have q8:=ak F b8 (.cells zD 31);have hr8:=hr.le l8;generalize F.set b8 (.cells zD 31)=F8 at*;have hd:i64.wrap (Int.tdiv (k:Int) 8)=((k / 8:Nat):Int):=by rw [Uu (by omega),aP (by omega) (by omega)];rfl
  have hm:u64.wrap (Int.tmod (k:Int) 8)=((k % 8:Nat):Int):=by rw [Ub (by omega),AC (by omega) (by omega)];rfl
  have hlen:=hr8.len;simp at hlen;refine ⟨λ_=>⟨λhlt=> ?_,λ_=> ?_⟩,λh=>absurd rfl h⟩
  ·rw [hd] at hlt ⊢;have hkl:k / 8<l.length:=by omega
   obtain ⟨b,o,hb,hc⟩:=hr8.cells (by omega);have hcell:=hc (k / 8) (by simpa using hkl);refine ⟨_,hb,by omega,hlt,l[k / 8],by rw [aC,N6,TT];simpa using hcell,by rw [hm];omega,?_⟩;refine (iC (dh (F:=dH F8 b8) _) q8).mono ?_;rintro _ F9 ⟨u,rfl,⟨G,hu,lG,gG⟩,l9,q9⟩;refine ⟨_,rfl,?_⟩;exact fV (K:=λvres F'=>∃u t,Value.agg vres=.agg u/\(Sx v t/\t=iO l 0 v k)/\DV F' u (dia t)/\F.le F') hu q9 rfl ⟨_,_,rfl,⟨Sx.leaf v _,by rw [iO,Mc,dif_pos hkl,hm]⟩,hu.le (aw lG gG),aw (l8.trans l9) hb8⟩
  ·rename_i hge;rw [hd] at hge;refine (iC (dh (F:=dH F8 b8) false) q8).mono ?_;rintro _ F9 ⟨u,rfl,⟨G,hu,lG,gG⟩,l9,q9⟩;refine ⟨_,rfl,?_⟩;exact fV (K:=λvres F'=>∃u t,Value.agg vres=.agg u/\(Sx v t/\t=iO l 0 v k)/\DV F' u (dia t)/\F.le F') hu q9 rfl ⟨_,_,rfl,⟨Sx.leaf v _,by rw [iO,Mc,dif_neg (by omega)]⟩,hu.le (aw lG gG),aw (l8.trans l9) hb8⟩
 |succ m ih=>
  intro v k hvm hk F sl l hr;have hvn:v<n:=by omega
  have hk64:k<64:=Nat.lt_of_lt_of_le hk (Ut (T2 (by decide:2>0) (by omega:v<=6)) (by decide));have hp64:2 ^ v<=32:=Ut (T2 (by decide:2>0) (by omega:v<=5)) (by decide);refine Jp ?_;unfold D7;intro b8 hb8;refine atI ?_;have l8:=ae (.cells zD 31) hb8;have q8:=ak F b8 (.cells zD 31);generalize F.set b8 (.cells zD 31)=F8 at*;refine ⟨λh=>by omega,λ_=> ?_⟩;have hvar:=mJ (F:=dH F8 b8) (v:Int);rw [Az (by omega)] at hvar;refine (yA hvar q8).mono ?_;rintro _ F9 ⟨x,rfl,⟨G,hx,lG,gG⟩,l9,q9⟩;refine ⟨_,_,rfl,?_⟩;intro b9 hb9;refine atI ?_;refine stW (ak _ _ _) hx.size rfl hx.st ?_;rw [ba];have n89:b8≠b9:=aE hb9 q9;have lx:=ae (.cells x 31) hb9;have r9:=ak F9 b9 (.cells x 31);have q10:=lx _ _ q9;have hx10:=hx.beside (lG.trans lx) gG;have l10:=l8.trans (l9.trans lx);generalize F9.set b9 (.cells x 31)=F10 at*;have wv:i64.wrap ((v:Int)+1)=((v+1:Nat):Int):=i9 (by omega);have w2:i64.wrap ((1:Int)*2 ^ (min (Int.toNat (u64.wrap (v:Int))) (i64).bits))=((2 ^ v:Nat):Int):=by
   rw [JY (by omega)];have hm:min (Int.toNat (v:Int)) (i64).bits=v:=by simp only [IntKind.bits,N6];omega
   have e1:(1:Int)*2 ^ v=((2 ^ v:Nat):Int):=by simp
   rw [hm,e1,aP (by omega) (by omega)]
  have wk:i64.wrap ((k:Int)+((2 ^ v:Nat):Int))=((k+2 ^ v:Nat):Int):=by rw [aP (by omega) (by omega)];omega
  rw [w2,wk,wv];refine ⟨x,hx.size,ac r9,by rw [JY (by omega)];omega,x,hx.size,ac r9,?_⟩;have hpow:2 ^ (v+1)=2 ^ v+2 ^ v:=by rw [Nat.pow_succ];omega
  refine (EY (ih (v+1) (k+2 ^ v) (by omega) (by omega) (dH F10 b8) sl l (hr.le (eC l10 hb8))) q10).mono ?_;rintro _ F11 ⟨u1,t1,rfl,⟨k1,e1⟩,⟨G1,h1,lG1,gG1⟩,l11,q11⟩;refine ⟨_,rfl,ac (l11 _ _ r9),ac (l11 _ _ r9),?_⟩;refine (iC (ij (hx10.le (mL l11)) (h1.beside lG1 gG1) ((Sx.tv hvn hn).f2 k1 hn)) q11).mono ?_;rintro _ F12 ⟨u2,rfl,⟨G2,h2,lG2,gG2⟩,l12,q12⟩;have k2:=(Sx.tv hvn hn).ap2 (o:=aX) k1;refine ⟨_,rfl,ac (l12 _ _ (l11 _ _ r9)),?_⟩;refine (EY (ih (v+1) k (by omega) (by omega) (dH F12 b8) sl l (hr.le (eC (l10.trans (l11.trans l12)) hb8))) q12).mono ?_;rintro _ F13 ⟨u3,t3,rfl,⟨k3,e3⟩,⟨G3,h3,lG3,gG3⟩,l13,q13⟩;refine ⟨_,rfl,ac (l13 _ _ (l12 _ _ (l11 _ _ r9))),?_⟩;have kx:=(Sx.tv hvn hn).ap2 (o:=ko) (Sx.leaf n true);refine (iC (yM (h3.beside lG3 gG3) (hx10.le (mL (l11.trans (l12.trans l13)))) ((Sx.tv hvn hn).f2 (Sx.leaf n true) hn) (k3.f2 kx hn)) q13).mono ?_;rintro _ F14 ⟨u4,rfl,⟨G4,h4,lG4,gG4⟩,l14,q14⟩;have k4:=k3.ap2 (o:=aX) kx;refine ⟨_,rfl,?_⟩;refine (iC (yL ((h2.beside lG2 gG2).le (mL (l13.trans l14))) (h4.beside lG4 gG4) (k2.f2 k4 hn)) q14).mono ?_;rintro _ F15 ⟨u5,rfl,⟨G5,h5,lG5,gG5⟩,l15,q15⟩;refine ⟨_,rfl,?_⟩;exact fV (K:=λvres F'=>∃u t,Value.agg vres=.agg u/\(Sx n t/\t=iO l (m+1) v k)/\DV F' u (dia t)/\F.le F') h5 q15 rfl ⟨_,_,rfl,⟨k2.ap2 k4,by rw [iO,<- e1,<- e3]⟩,h5.le (aw lG5 gG5),aw (l10.trans (l11.trans (l12.trans (l13.trans (l14.trans l15))))) hb8⟩
theorem nX {n:Nat} (hn:n<=6) {F:PH} {sl:Sl} {l:Φ} (hr:RdS F sl 1 (l.map (Value.int .u8))):aj prog 82 #[sl.v,vi n] F λr F'=>∃u t,r=.agg u/\(Sx n t/\t=iO l n 0 0)/\DV F' u (dia t)/\F.le F':=by
 refine RQ ?_;unfold Oo;intro b4 hb4;refine atI ?_;have l4:=ae (.cells zD 31) hb4;have q4:=ak F b4 (.cells zD 31);generalize F.set b4 (.cells zD 31)=F4 at*;have e:max (0:Int) (min (n:Int) 6)=(n:Int):=by omega
 rw [e];refine (EY (yO hn n 0 0 (by omega) (by simp) (dH F4 b4) sl l (hr.le (eC l4 hb4))) q4).mono ?_;rintro _ F5 ⟨u,t,rfl,kt,⟨G,hu,lG,gG⟩,l5,q5⟩;refine ⟨_,rfl,?_⟩;exact fV (K:=λvres F'=>∃u t,Value.agg vres=.agg u/\(Sx n t/\t=iO l n 0 0)/\DV F' u (dia t)/\F.le F') hu q5 rfl ⟨_,_,rfl,kt,hu.le (aw lG gG),aw (l4.trans l5) hb4⟩
end Go.Proofs.YtcemhghkipgdiaaGreatDoor
