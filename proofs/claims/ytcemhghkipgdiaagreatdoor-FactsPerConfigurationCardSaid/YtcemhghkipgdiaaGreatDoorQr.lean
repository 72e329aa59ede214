/-
  Variables beside a heap that calls work on; the links of a machine.
-/
import Derived.Test.YtcemhghkipgdiaaGreatDoorQm
import Derived.Test.YtcemhghkipgdiaaGreatDoorGbits
import Derived.Test.YtcemhghkipgdiaaGreatDoorQq
namespace Go.Proofs.YtcemhghkipgdiaaGreatDoor
open Go Go.Proofs.Tryz
set_option maxRecDepth 10000
section
variable {F:PH}
open Classical in
noncomputable def bT (l:List Nd):Lt:=if h:GoodL l then (AV h (l.length) (l.length - 1) (by have:=Wl.2 h.ne;omega) (by have:=Wl.2 h.ne;omega)).choose else .emp
theorem kN {l:List Nd} (h:GoodL l):∃ns,cV l (l.length - 1) (bT l) ns:=by unfold bT;rw [dif_pos h];exact (AV h (l.length) (l.length - 1) (by have:=Wl.2 h.ne;omega) (by have:=Wl.2 h.ne;omega)).choose_spec
theorem C9 {l:List Nd} (h:iZ l=0):GoodL l/\l.length<=512:=by
 unfold iZ at h;split at h
 ·omega
 ·split at h
  ·rename_i hg;exact ⟨hg,by omega⟩
  ·omega
end
structure Lo (G F:PH) (xs:List (Nat×Γ×TypeId)):Prop where
 le:G.le F
 z:∀p∈xs,F p.1=some (.cells p.2.1 p.2.2)/\G p.1=none
 nd:(xs.map (·.1)).Nodup
theorem Lo.start (F:PH):Lo F F []:=⟨aq F,λp hp=>(by cases hp),List.nodup_nil⟩
section
variable {F G:PH} {xs:List (Nat×Γ×TypeId)}
theorem Lo.get (h:Lo G F xs) {b:Nat} {w:Γ} {e:TypeId} (hm:(b,w,e)∈xs):F b=some (.cells w e):=(h.z _ hm).1
theorem Lo.row (h:Lo G F xs) {b:Nat} {w:Γ} {e:TypeId} (hm:(b,w,e)∈xs):F.row (Addr.mk b 0 none) w:=ac (h.z _ hm).1
theorem Lo.cell (h:Lo G F xs) {b i:Nat} {w:Γ} {e:TypeId} (hm:(b,w,e)∈xs):F.cell (Addr.mk b i none)=w[i]? :=am (h.z _ hm).1
theorem Lo.call {f:FuncId} {args:Γ} {P:Value->Ψ} (h:Lo G F xs) (s:ai prog f args G P):ai prog f args F λr F'=>∃G',P r G'/\Lo G' F' xs:=
 (s.upon h.le).mono λr F' ⟨G',hp,hl,hk⟩=>⟨G',hp,hl,λp hp=>by
  obtain ⟨a,b⟩:=h.z p hp
  exact hk _ _ b a,h.nd⟩
theorem Lo.new (h:Lo G F xs) (c:Γ) (e:TypeId) {K:Nat->Ψ} (k:∀b F',Lo G F' ((b,c,e)::xs)->K b F'):∀b,F b=none->atF (F.set b (.cells c e)) (K b):=by
 intro b hb;refine atI ?_;have hne:∀p∈xs,p.1≠b:=λp hp=>aJ hb (h.z p hp).1;refine k b _ ⟨aa h.le (ae _ hb),λp hp=> ?_,?_⟩
 ·rcases UT.1 hp with rfl|hp
  ·exact ⟨al _ _ _,aT h.le hb⟩
  ·obtain ⟨a,c⟩:=h.z p hp;exact ⟨(av _ _ (hne p hp)).trans a,c⟩
 ·rw [Vi,VM];refine ⟨λhm=> ?_,h.nd⟩;obtain ⟨p,hp,e⟩:=U8.1 hm;exact hne p hp e
theorem Lo.upd (l1 l2:List (Nat×Γ×TypeId)) {b:Nat} {w0 w:Γ} {e:TypeId} (h:Lo G F (l1++(b,w0,e)::l2)) {F':PH} (hb:F' b=some (.cells w e)) (hk:cO (λx=>x=b) F F'):Lo G F' (l1++(b,w,e)::l2):=by
 obtain ⟨q,g⟩:=h.z (b,w0,e) (by simp);have nd:=h.nd;rw [Vm,Vi] at nd;have hne:∀p,p∈l1\/p∈l2->p.1≠b:=λp hp e=>by
  obtain ⟨_,n2,n3⟩:=Vp.1 nd;rcases hp with hp|hp
  ·exact n3 p.1 (U8.2 ⟨p,hp,rfl⟩) b (by simp) e
  ·exact (VM.1 n2).1 (U8.2 ⟨p,hp,e⟩)
 have hkp:∀p,p∈l1\/p∈l2->F' p.1=some (.cells p.2.1 p.2.2)/\G p.1=none:=λp hp=>by obtain ⟨a,c⟩:=h.z p (by simp only [UX,UT];rcases hp with hp|hp<;>simp [hp]);exact ⟨hk _ _ a (hne p hp),c⟩
 refine ⟨λx o hx=>hk x o (h.le x o hx) λe=>(by rw [e] at hx;rw [g] at hx;cases hx),λp hp=> ?_,by rw [Vm,Vi];exact nd⟩;rcases UX.1 hp with hp|hp
 ·exact hkp p (.inl hp)
 ·rcases UT.1 hp with rfl|hp
  ·exact ⟨hb,g⟩
  ·exact hkp p (.inr hp)
theorem Lo.put (l1 l2:List (Nat×Γ×TypeId)) {b n:Nat} {w0 w:Γ} {e:TypeId} (h:Lo G F (l1++(b,w0,e)::l2)) (h1:w.size=n) (h2:w0.size=n) (hst:∀v∈w.toList,ak v)
  {K:Ψ} (k:∀F',Lo G F' (l1++(b,w,e)::l2)->K F'):
  w.size=n/\(∀v∈w.toList,ak v)/\∃c e,F (Addr.mk b 0 none).block=some (.cells c e (0,0))/\(Addr.mk b 0 none).spot=none/\(Addr.mk b 0 none).off+n<=c.size/\
   atF (F.set (Addr.mk b 0 none).block (.cells (wr c (Addr.mk b 0 none).off w.toList) e)) K:=by
 obtain ⟨q,g⟩:=h.z (b,w0,e) (by simp);refine stW q h1 h2 hst (k _ (h.upd l1 l2 (al _ _ _) (cO.set _ (.inl rfl))))
theorem Lo.put1 (l1 l2:List (Nat×Γ×TypeId)) {b i:Nat} {w0 w:Γ} {v:Value} {e:TypeId} (h:Lo G F (l1++(b,w0,e)::l2)) (h2:i<w0.size) (hw:w0.setIfInBounds i v=w)
  {K:Ψ} (k:∀F',Lo G F' (l1++(b,w,e)::l2)->K F'):
  ∃c e,F (Addr.mk b i none).block=some (.cells c e (0,0))/\(Addr.mk b i none).spot=none/\(Addr.mk b i none).off<c.size/\
   atF (F.set (Addr.mk b i none).block (.cells (c.setIfInBounds (Addr.mk b i none).off v) e)) K:=by
 obtain ⟨q,g⟩:=h.z (b,w0,e) (by simp);subst hw;exact st1 (o:=i) q h2 (k _ (h.upd l1 l2 (al _ _ _) (cO.set _ (.inl rfl))))
theorem Lo.join (l1 l2:List (Nat×Γ×TypeId)) {b:Nat} {P Q:Nat->Bool} (h:Lo G F (l1++(b,plA P,229)::l2)):
  ai prog 205 #[pa b,.agg (plA Q)] F λr F'=>r=.tuple #[]/\Lo G F' (l1++(b,plA (λi=>P i || Q i),229)::l2):=by
 obtain ⟨q,g⟩:=h.z (b,plA P,229) (by simp);refine (tW (Q:=Q) (j8.own.2 q)).mono ?_;rintro _ F' ⟨rfl,hs,hk⟩;exact ⟨rfl,h.upd l1 l2 (j8.own.1 hs) hk⟩
theorem Lo.add (l1 l2:List (Nat×Γ×TypeId)) {b i:Nat} {P:Nat->Bool} (hi:i<512) (h:Lo G F (l1++(b,plA P,229)::l2)):
  ai prog 207 #[pa b,vi i] F λr F'=>r=.tuple #[]/\Lo G F' (l1++(b,plA (λj=>P j || decide (j=i)),229)::l2):=by
 obtain ⟨q,g⟩:=h.z (b,plA P,229) (by simp);refine (CY hi q).mono ?_;rintro _ F' ⟨rfl,rfl⟩;exact ⟨rfl,h.upd l1 l2 (al _ _ _) (cO.set _ (.inl rfl))⟩
end
def de (n:Nat) (R:Nat->Nat->Bool):Ξ:=(List.range n).flatMap λi=>(plA (R i)).toList
theorem vq (n:Nat) (R:Nat->Nat->Bool):(de n R).length=n*8:=by
 unfold de;induction n with
 |zero=>rfl
 |succ n ih=>rw [Wv,Wm,UV,ih];simp [plA];omega
theorem rc {f g:Nat->Ξ}:∀{l:Δ},(∀j∈l,f j=g j)->l.flatMap f=l.flatMap g
 |[],_=>rfl
 |a::l,h=>by rw [VC,VC,h a (by simp),rc λj hj=>h j (by simp [hj])]
theorem xG (f:Nat->Ξ) {n i:Nat} (hi:i<n):(List.range n).flatMap f=(List.range i).flatMap f++f i++((List.range (n - i - 1)).map (· +(i+1))).flatMap f:=by
 have:List.range n=List.range i++[i]++(List.range (n - i - 1)).map (· +(i+1)):=by
  have h1:n=(i+1)+(n - i - 1):=by omega
  rw [h1,List.range_add,Wv,show i+1+(n - i - 1) - i - 1=n - i - 1 by omega];congr 1;apply Wk;intro a _;omega
 rw [this,Wm,Wm,VC,List.flatMap_nil,Vx]
theorem oB {n:Nat} {R S:Nat->Nat->Bool} (h:∀i,i<n->R i=S i):de n R=de n S:=by unfold de;exact rc λj hj=>by rw [h j (VA.1 hj)]
theorem oC {n i:Nat} (hi:i<n) (R:Nat->Nat->Bool):∃pre post,pre.length=i*8/\de n R=pre++(plA (R i)).toList++post/\∀R',(∀j,j≠i->R' j=R j)->de n R'=pre++(plA (R' i)).toList++post:=by
 refine ⟨de i R,((List.range (n - i - 1)).map (· +(i+1))).flatMap (λj=>(plA (R j)).toList),vq i R,xG _ hi,λR' h=> ?_⟩;have e:=xG (λj=>(plA (R' j)).toList) hi;have e1:de i R'=de i R:=oB λj hj=>h j (by omega);have e2:((List.range (n - i - 1)).map (· +(i+1))).flatMap (λj=>(plA (R' j)).toList)=((List.range (n - i - 1)).map (· +(i+1))).flatMap (λj=>(plA (R j)).toList):=rc λj hj=>by obtain ⟨a,_,rfl⟩:=U8.1 hj;rw [h _ (by omega)]
 rw [e2] at e;rw [<- e1];exact e
structure Lnk (F:PH) (b3 bm bf n:Nat) (R:Nat->Nat->Bool):Prop where
 tab:Tab F
 q3:F b3=some (.cells #[pa bm] 226)
 q17:∃mc,F bm=some (.cells mc 232)/\mc[17]? =some (Sl.v ⟨some ⟨bf,0,none⟩,n,n⟩)
 qf:F bf=some (.cells (de n R).toArray 229)
theorem Lnk.keep {F F':PH} {b3 bm bf n:Nat} {R R':Nat->Nat->Bool} (h:Lnk F b3 bm bf n R) (hk:cO (λx=>x=bf) F F') (hf:F' bf=some (.cells (de n R').toArray 229)) (h0:bf≠0):Lnk F' b3 bm bf n R':=by
 obtain ⟨tab,q3,⟨mc,qm,h17⟩,qf⟩:=h;refine ⟨λk v hv=> ?_,hk _ _ q3 λe=> ?_,⟨mc,hk _ _ qm λe=> ?_,h17⟩,hf⟩
 ·have:=tab k v hv;unfold PH.cell at this ⊢;cases hz:F 0 with
  |none=>rw [hz] at this;cases this
  |some o=>rw [hz] at this;rw [hk _ _ hz h0.symm];exact this
 ·rw [e,qf] at q3;simp at q3
 ·rw [e,qf] at qm;simp at qm
theorem Lnk.le {F F':PH} {b3 bm bf n:Nat} {R:Nat->Nat->Bool} (h:Lnk F b3 bm bf n R) (hl:F.le F'):Lnk F' b3 bm bf n R:=by obtain ⟨tab,q3,⟨mc,qm,h17⟩,qf⟩:=h;exact ⟨tab.le hl,hl _ _ q3,⟨mc,hl _ _ qm,h17⟩,hl _ _ qf⟩
section
variable {F:PH} {b3 bm bf n:Nat} {R:Nat->Nat->Bool}
theorem zh (h:Lnk F b3 bm bf n R) (h0:bf≠0) {i bt:Nat} {Q:Nat->Bool} (hi:i<n) (ht:F bt=some (.cells (plA Q) 229)) (_:bt≠bf):
  ai prog 204 #[vi i,pa b3,pa bt] F λr F'=>r=.tuple #[]/\Lnk F' b3 bm bf n (λk j=>R k j || (decide (k=i) && Q j))/\cO (λx=>x=bf) F F':=by
 obtain ⟨tab,q3,⟨mc,qm,h17⟩,qf⟩:=id h;refine Oz ?_;unfold JY;obtain ⟨pre,post,hpre,hsp,hup⟩:=oC hi R;have c3:F.cell (Addr.mk b3 0 none)=some (pa bm):=by rw [am q3];rfl
 have c17:F.cell ((Addr.mk bm 0 none).add 17)=some (Sl.v ⟨some ⟨bf,0,none⟩,n,n⟩):=by rw [cw,Vd,am qm];exact h17
 refine ⟨_,rfl,_,c3,_,rfl,_,c17,_,rfl,by omega,by simp only;omega,_,rfl,plA Q,rfl,ac ht,?_⟩;have ea:(Addr.mk bf 0 none).add (Int.toNat (i:Int)*8)=⟨bf,pre.length,none⟩:=by rw [cw,Vd,N4,hpre]
 rw [ea];have hs:j8 F bf 229 pre (R i) post:=by unfold j8;rw [<- hsp];exact qf
 refine (tW (Q:=Q) hs).mono ?_;rintro _ F' ⟨rfl,hs',hk⟩;have e:∀k,k≠i->(λk j=>R k j || (decide (k=i) && Q j)) k=R k:=λk hk=>by funext j;simp [hk]
 have hL:Lnk F' b3 bm bf n (λk j=>R k j || (decide (k=i) && Q j)):=h.keep hk (by
  rw [hup _ e];have:(λj=>R i j || (decide (i=i) && Q j))=λj=>R i j || Q j:=by funext j;simp
  show F' bf=some (.cells (pre++(plA (λj=>R i j || (decide (i=i) && Q j))).toList++post).toArray 229);rw [this]
  exact hs') h0
 obtain ⟨mc',qm',h17'⟩:=hL.q17;exact ⟨rfl,by rw [cw,Vd,am qm'];exact h17',by rw [am hL.q3];rfl,rfl,hL,hk⟩
theorem MV:aE prog 204=true:=by kernel_rfl
theorem ud (h:Lnk F b3 bm bf n R) (h0:bf≠0) (hn:n<=512) {P Q:Nat->Bool} (hP:∀i,P i=true->i<n):
  ai prog 202 #[.agg (plA P),.agg (plA Q),pa b3] F λr F'=>r=.tuple #[]/\Lnk F' b3 bm bf n (λk j=>R k j || (P k && Q j))/\cO (λx=>x=bf) F F':=by
 refine Ox ?_;unfold JW;intro c hc;refine atI ?_;have lc:=ae (.cells (plA P) 229) hc;have qc:=al F c (.cells (plA P) 229);generalize F.set c (.cells (plA P) 229)=F1 at*;intro d hd;refine atI ?_;have ld:=ae (.cells (plA Q) 229) hd;have qd:=al F1 d (.cells (plA Q) 229);have qc':=ld _ _ qc;generalize F1.set d (.cells (plA Q) 229)=F2 at*;have hcf:c≠bf:=λe=>by rw [e,h.qf] at hc;cases hc
 have hdf:d≠bf:=λe=>by rw [e,lc _ _ h.qf] at hd;cases hd
 have l2:=aa lc ld
 refine (tX (a:=⟨c,0,none⟩) (P:=P) (k:=204) (cap:= #[pa b3,pa d]) (Inv:=λm F'=>Lnk F' b3 bm bf n (λk j=>R k j || (decide (k<m) && P k && Q j))/\cO (λx=>x=bf) F2 F') MV rfl
  (λm F' hI=>⟨hI.1.tab,ac (hI.2 _ _ qc' hcf)⟩) (λi F' hi hp hI=> ?_) (λi F' hi hp hI=> ?_) ⟨?_,cO.refl _ _⟩).mono ?_
 ·refine ⟨?_,hI.2⟩;have:(λk j=>R k j || (decide (k<i+1) && P k && Q j))=λk j=>R k j || (decide (k<i) && P k && Q j):=by
   funext k j;by_cases hk:k=i
   ·subst hk;simp [hp]
   ·rw [show decide (k<i+1)=decide (k<i) by rw [U3];simp;omega]
  rw [this];exact hI.1
 ·refine (zh hI.1 h0 (hP i hp) (hI.2 _ _ qd hdf) hdf).mono ?_;rintro _ F'' ⟨rfl,hL,hk⟩;refine ⟨rfl,?_,hI.2.trans hk⟩;have:(λk j=>(R k j || (decide (k<i) && P k && Q j)) || (decide (k=i) && Q j))=λk j=>R k j || (decide (k<i+1) && P k && Q j):=by
   funext k j;by_cases hk:k=i
   ·subst hk;simp [hp]
   ·rw [show decide (k<i+1)=decide (k<i) by rw [U3];simp;omega];simp [hk]
  rw [<- this];exact hL
 ·have:(λk j=>R k j || (decide (k<0) && P k && Q j))=R:=by funext k j;simp
  rw [this];exact h.le l2
 ·rintro _ F' ⟨rfl,hL,hk⟩;refine ⟨rfl,rfl,?_,λx o hx hn=>hk x o (l2 _ _ hx) hn⟩;have:Lnk F' b3 bm bf n (λk j=>R k j || (P k && Q j)):=by
   refine ⟨hL.tab,hL.q3,hL.q17,?_⟩;have e:de n (λk j=>R k j || (P k && Q j))=de n (λk j=>R k j || (decide (k<512) && P k && Q j)):=by refine oB λi hi=> ?_;funext j;rw [show decide (i<512)=true by simp;omega,V4]
   rw [e];exact hL.qf
  exact this
end
end Go.Proofs.YtcemhghkipgdiaaGreatDoor
