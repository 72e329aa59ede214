/-
  Variables beside a heap that calls work on; the links of a machine.
-/
import Derived.Test.YtcemhghkipgdiaaGreatDoorQl
import Derived.Test.YtcemhghkipgdiaaGreatDoorGbits
import Derived.Test.YtcemhghkipgdiaaGreatDoorQq
namespace Go.Proofs.YtcemhghkipgdiaaGreatDoor
open Go
def Par (l:List Nd) (j k:Nat):Prop:=∃x,l[k]? =some x/\(j:Int)∈us x
inductive Up (l:List Nd):Nat->Nat->Prop where
 |refl (j:Nat):Up l j j
 |step {j k m:Nat}:Up l j k->Par l k m->Up l j m
inductive cR (l:List Nd):Nat->Lt->Δ->Prop where
 |emp {i:Nat} {x:Nd}:l[i]? =some x->x.k=0->cR l i .emp [i]
 |rng {i lo hi:Nat} {x:Nd}:l[i]? =some x->x.k=1->x.lo=lo->x.hi=hi->lo<=hi->hi<=255->cR l i (.rng i lo hi) [i]
 |seq {i a b:Nat} {x:Nd} {t u:Lt} {na nb:Δ}:l[i]? =some x->x.k=2->x.a=a->x.b=b->cR l a t na->cR l b u nb->cR l i (.seq t u) (i::na++nb)
 |alt {i a b:Nat} {x:Nd} {t u:Lt} {na nb:Δ}:l[i]? =some x->x.k=3->x.a=a->x.b=b->cR l a t na->cR l b u nb->cR l i (.alt t u) (i::na++nb)
 |rep {i a:Nat} {x:Nd} {t:Lt} {na:Δ}:l[i]? =some x->x.k=4->x.a=a->cR l a t na->cR l i (.rep t) (i::na)
theorem gY {x:Nd} (h:x.k=2\/x.k=3):us x=[x.b,x.a]:=by
 have:ar x.k=2:=by unfold ar;rw [if_neg (by omega),if_pos h]
 unfold us;rw [this];rfl
theorem DH {x:Nd} (h:x.k=4):us x=[x.a]:=by
 have:ar x.k=1:=by unfold ar;rw [if_pos h]
 unfold us;rw [this];rfl
theorem vN {k:Int} (h:0<=ar k):k=0\/k=1\/k=2\/k=3\/k=4:=by
 unfold ar at h;split at h
 ·omega
 ·split at h
  ·omega
  ·split at h<;>omega
theorem t5 {k:Int} (h:k=2\/k=3):ar k=2:=by unfold ar;rw [if_neg (by omega),if_pos h]
theorem DI {k:Int} (h:k=4):ar k=1:=by unfold ar;rw [if_pos h]
theorem zB {k:Int} (h:k=0\/k=1):ar k=0:=by unfold ar;rw [if_neg (by omega),if_neg (by omega),if_pos h]
section
variable {l:List Nd} (hG:GoodL l)
include hG
theorem zC:∀(n i:Nat),i<n->i<l.length->∃t ns,cR l i t ns:=by
 intro n;induction n with
 |zero=>intro i h;omega
 |succ n ih=>
  intro i hi hl;have hx:=N4 hl;have ho:=hG.ok i _ hx;generalize l[i]=x at hx ho;obtain ⟨h0,h1,h2,h3,h4,h5,h6⟩:=ho;rcases vN h0 with hk|hk|hk|hk|hk
  ·exact ⟨_,_,.emp hx hk⟩
  ·obtain ⟨a,b,c⟩:=h1 hk;exact ⟨_,_,.rng (lo:=x.lo.toNat) (hi:=x.hi.toNat) hx hk (by omega) (by omega) (by omega) (by omega)⟩
  ·have e:=t5 (k:=x.k) (.inl hk);obtain ⟨a1,a2⟩:=h5 (by omega);obtain ⟨b1,b2⟩:=h6 (by omega);obtain ⟨t,na,ht⟩:=ih x.a.toNat (by omega) (by omega);obtain ⟨u,nb,hu⟩:=ih x.b.toNat (by omega) (by omega);exact ⟨_,_,.seq hx hk (by omega) (by omega) ht hu⟩
  ·have e:=t5 (k:=x.k) (.inr hk);obtain ⟨a1,a2⟩:=h5 (by omega);obtain ⟨b1,b2⟩:=h6 (by omega);obtain ⟨t,na,ht⟩:=ih x.a.toNat (by omega) (by omega);obtain ⟨u,nb,hu⟩:=ih x.b.toNat (by omega) (by omega);exact ⟨_,_,.alt hx hk (by omega) (by omega) ht hu⟩
  ·have e:=DI (k:=x.k) hk;obtain ⟨a1,a2⟩:=h5 (by omega);obtain ⟨t,na,ht⟩:=ih x.a.toNat (by omega) (by omega);exact ⟨_,_,.rep hx hk (by omega) ht⟩
theorem Par.lt {j k:Nat} (h:Par l j k):j<k/\k<l.length:=by
 obtain ⟨x,hx,hm⟩:=h;have hlt:=(N5.1 hx).1;obtain ⟨h0,h1,h2,h3,h4,h5,h6⟩:=hG.ok k x hx;rcases vN h0 with hk|hk|hk|hk|hk
 ·have e:=zB (k:=x.k) (.inl hk);unfold us at hm;rw [e] at hm;simp at hm
 ·have e:=zB (k:=x.k) (.inr hk);unfold us at hm;rw [e] at hm;simp at hm
 ·have e:=t5 (k:=x.k) (.inl hk);rw [gY (.inl hk)] at hm;have:=h5 (by omega);have:=h6 (by omega);simp at hm;omega
 ·have e:=t5 (k:=x.k) (.inr hk);rw [gY (.inr hk)] at hm;have:=h5 (by omega);have:=h6 (by omega);simp at hm;omega
 ·have e:=DI (k:=x.k) hk;rw [DH hk] at hm;have:=h5 (by omega);simp at hm;omega
omit hG in
theorem t6 {j:Int}:∀(l:List Nd) {k:Nat} {x:Nd},l[k]? =some x->j∈us x->j∈usL l
 |y::l,0,x,h,hm=>by simp at h;subst h;simp [usL,hm]
 |y::l,k+1,x,h,hm=>by simp at h;simp only [usL,Rl];exact .inl (t6 l h hm)
omit hG in
theorem vO {j:Int}:∀(l:List Nd),(usL l).Nodup->∀{k m:Nat} {x y:Nd},l[k]? =some x->l[m]? =some y->j∈us x->j∈us y->k=m
 |z::l,hn,0,0,x,y,h1,h2,h3,h4=>rfl
 |z::l,hn,0,m+1,x,y,h1,h2,h3,h4=>by simp at h1 h2;subst h1;rw [usL] at hn;exact absurd rfl ((RX.1 hn).2.2 j (t6 l h2 h4) j h3)
 |z::l,hn,k+1,0,x,y,h1,h2,h3,h4=>by simp at h1 h2;subst h2;rw [usL] at hn;exact absurd rfl ((RX.1 hn).2.2 j (t6 l h1 h3) j h4)
 |z::l,hn,k+1,m+1,x,y,h1,h2,h3,h4=>by simp at h1 h2;rw [usL] at hn;rw [vO l (RX.1 hn).1 h1 h2 h3 h4]
theorem Par.uniq {j k m:Nat} (h1:Par l j k) (h2:Par l j m):k=m:=by obtain ⟨x,hx,hm⟩:=h1;obtain ⟨y,hy,hn⟩:=h2;exact vO l hG.nd hx hy hm hn
omit hG in
theorem Up.head {j m:Nat} (h:Up l j m):j=m\/∃k,Par l j k/\Up l k m:=by
 induction h with
 |refl=>exact .inl rfl
 | @step k m h hp ih=>
  rcases ih with rfl|⟨c,h1,h2⟩
  ·exact .inr ⟨m,hp,.refl m⟩
  ·exact .inr ⟨c,h1,h2.step hp⟩
theorem Up.le {j m:Nat} (h:Up l j m):j<=m:=by
 induction h with
 |refl=>exact Rk _
 |step _ hp ih=>have:=hp.lt hG;omega
theorem Up.chain {j a b:Nat} (ha:Up l j a) (hb:Up l j b):Up l a b\/Up l b a:=by
 induction ha with
 |refl=>exact .inl hb
 | @step k m h hp ih=>
  rcases ih with h1|h1
  ·rcases h1.head with rfl|⟨c,h2,h3⟩
   ·exact .inr ((Up.refl k).step hp)
   ·rw [h2.uniq hG hp] at h3;exact .inl h3
  ·exact .inr (h1.step hp)
omit hG in
theorem ot {i:Nat} {t:Lt} {ns:Δ} (h:cR l i t ns):∀j∈ns,Up l j i:=by
 induction h with
 | @emp i x hx hk=>intro j hj;simp at hj;subst hj;exact .refl _
 | @rng i lo hi x hx hk _ _ _ _=>intro j hj;simp at hj;subst hj;exact .refl _
 | @seq i a b x t u na nb hx hk ha hb h1 h2 i1 i2=>
  intro j hj;simp only [Si,Ri,Rl] at hj;rcases hj with rfl|hj|hj
  ·exact .refl _
  ·exact (i1 j hj).step ⟨x,hx,by rw [gY (.inl hk),ha];simp⟩
  ·exact (i2 j hj).step ⟨x,hx,by rw [gY (.inl hk),hb];simp⟩
 | @alt i a b x t u na nb hx hk ha hb h1 h2 i1 i2=>
  intro j hj;simp only [Si,Ri,Rl] at hj;rcases hj with rfl|hj|hj
  ·exact .refl _
  ·exact (i1 j hj).step ⟨x,hx,by rw [gY (.inr hk),ha];simp⟩
  ·exact (i2 j hj).step ⟨x,hx,by rw [gY (.inr hk),hb];simp⟩
 | @rep i a x t na hx hk ha h1 i1=>
  intro j hj;simp only [Ri] at hj;rcases hj with rfl|hj
  ·exact .refl _
  ·exact (i1 j hj).step ⟨x,hx,by rw [DH hk,ha];simp⟩
theorem Nu {i a b:Nat} {x:Nd} (hx:l[i]? =some x) (hk:x.k=2\/x.k=3) (ha:x.a=a) (hb:x.b=b):a≠b:=by
 intro e;have hn:=hG.nd;have hsub:∀(l:List Nd) (i:Nat),l[i]? =some x->(usL l).Nodup->(us x).Nodup:=by
  intro l;induction l with
  |nil=>intro i h;simp at h
  |cons y l ih=>
   intro i h hn;rw [usL] at hn;cases i with
   |zero=>simp at h;subst h;exact (RX.1 hn).2.1
   |succ i=>simp at h;exact ih i h (RX.1 hn).1
 have:=hsub l i hx hn;rw [gY hk,ha,hb,e] at this;simp at this
theorem Ij {i a b j:Nat} {x:Nd} (hx:l[i]? =some x) (hk:x.k=2\/x.k=3) (ha:x.a=a) (hb:x.b=b) (h1:Up l j a) (h2:Up l j b):False:=by
 have pa:Par l a i:=⟨x,hx,by rw [gY hk,ha];simp⟩;have pb:Par l b i:=⟨x,hx,by rw [gY hk,hb];simp⟩;have hne:=Nu hG hx hk ha hb;rcases h1.chain hG h2 with h|h
 ·rcases h.head with e|⟨c,h3,h4⟩
  ·exact hne e
  ·rw [h3.uniq hG pa] at h4;have:=h4.le hG;have:=pb.lt hG;omega
 ·rcases h.head with e|⟨c,h3,h4⟩
  ·exact hne e.symm
  ·rw [h3.uniq hG pb] at h4;have:=h4.le hG;have:=pa.lt hG;omega
end
end Go.Proofs.YtcemhghkipgdiaaGreatDoor
namespace Go.Proofs.YtcemhghkipgdiaaGreatDoor
open Go Go.Proofs.Tryz
set_option maxRecDepth 10000
section
variable {F:PH}
open Classical in
noncomputable def bO (l:List Nd):Lt:=if h:GoodL l then (zC h (l.length) (l.length - 1) (by have:=SY.2 h.ne;omega) (by have:=SY.2 h.ne;omega)).choose else .emp
theorem jR {l:List Nd} (h:GoodL l):∃ns,cR l (l.length - 1) (bO l) ns:=by unfold bO;rw [dif_pos h];exact (zC h (l.length) (l.length - 1) (by have:=SY.2 h.ne;omega) (by have:=SY.2 h.ne;omega)).choose_spec
theorem Bl {l:List Nd} (h:iA l=0):GoodL l/\l.length<=512:=by
 unfold iA at h;split at h
 ·omega
 ·split at h
  ·rename_i hg;exact ⟨hg,by omega⟩
  ·omega
end
structure Lo (G F:PH) (xs:List (Nat×Γ×TypeId)):Prop where
 le:G.le F
 z:∀p∈xs,F p.1=some (.cells p.2.1 p.2.2)/\G p.1=none
 nd:(xs.map (·.1)).Nodup
theorem Lo.start (F:PH):Lo F F []:=⟨au F,λp hp=>(by cases hp),List.nodup_nil⟩
section
variable {F G:PH} {xs:List (Nat×Γ×TypeId)}
theorem Lo.get (h:Lo G F xs) {b:Nat} {w:Γ} {e:TypeId} (hm:(b,w,e)∈xs):F b=some (.cells w e):=(h.z _ hm).1
theorem Lo.row (h:Lo G F xs) {b:Nat} {w:Γ} {e:TypeId} (hm:(b,w,e)∈xs):F.row (Addr.mk b 0 none) w:=ae (h.z _ hm).1
theorem Lo.cell (h:Lo G F xs) {b i:Nat} {w:Γ} {e:TypeId} (hm:(b,w,e)∈xs):F.cell (Addr.mk b i none)=w[i]? :=aq (h.z _ hm).1
theorem Lo.call {f:FuncId} {args:Γ} {P:Value->Ψ} (h:Lo G F xs) (s:ak prog f args G P):ak prog f args F λr F'=>∃G',P r G'/\Lo G' F' xs:=
 (s.upon h.le).mono λr F' ⟨G',hp,hl,hk⟩=>⟨G',hp,hl,λp hp=>by
  obtain ⟨a,b⟩:=h.z p hp
  exact hk _ _ b a,h.nd⟩
theorem Lo.new (h:Lo G F xs) (c:Γ) (e:TypeId) {K:Nat->Ψ} (k:∀b F',Lo G F' ((b,c,e)::xs)->K b F'):∀b,F b=none->atF (F.set b (.cells c e)) (K b):=by
 intro b hb;refine atI ?_;have hne:∀p∈xs,p.1≠b:=λp hp=>aF hb (h.z p hp).1;refine k b _ ⟨aa h.le (ai _ hb),λp hp=> ?_,?_⟩
 ·rcases Ri.1 hp with rfl|hp
  ·exact ⟨am _ _ _,aQ h.le hb⟩
  ·obtain ⟨a,c⟩:=h.z p hp;exact ⟨(az _ _ (hne p hp)).trans a,c⟩
 ·rw [RT,So];refine ⟨λhm=> ?_,h.nd⟩;obtain ⟨p,hp,e⟩:=Rv.1 hm;exact hne p hp e
theorem Lo.upd (l1 l2:List (Nat×Γ×TypeId)) {b:Nat} {w0 w:Γ} {e:TypeId} (h:Lo G F (l1++(b,w0,e)::l2)) {F':PH} (hb:F' b=some (.cells w e)) (hk:cL (λx=>x=b) F F'):Lo G F' (l1++(b,w,e)::l2):=by
 obtain ⟨q,g⟩:=h.z (b,w0,e) (by simp);have nd:=h.nd;rw [R7,RT] at nd;have hne:∀p,p∈l1\/p∈l2->p.1≠b:=λp hp e=>by
  obtain ⟨_,n2,n3⟩:=RX.1 nd;rcases hp with hp|hp
  ·exact n3 p.1 (Rv.2 ⟨p,hp,rfl⟩) b (by simp) e
  ·exact (So.1 n2).1 (Rv.2 ⟨p,hp,e⟩)
 have hkp:∀p,p∈l1\/p∈l2->F' p.1=some (.cells p.2.1 p.2.2)/\G p.1=none:=λp hp=>by obtain ⟨a,c⟩:=h.z p (by simp only [Rl,Ri];rcases hp with hp|hp<;>simp [hp]);exact ⟨hk _ _ a (hne p hp),c⟩
 refine ⟨λx o hx=>hk x o (h.le x o hx) λe=>(by rw [e] at hx;rw [g] at hx;cases hx),λp hp=> ?_,by rw [R7,RT];exact nd⟩;rcases Rl.1 hp with hp|hp
 ·exact hkp p (.inl hp)
 ·rcases Ri.1 hp with rfl|hp
  ·exact ⟨hb,g⟩
  ·exact hkp p (.inr hp)
theorem Lo.put (l1 l2:List (Nat×Γ×TypeId)) {b n:Nat} {w0 w:Γ} {e:TypeId} (h:Lo G F (l1++(b,w0,e)::l2)) (h1:w.size=n) (h2:w0.size=n) (hst:∀v∈w.toList,al v)
  {K:Ψ} (k:∀F',Lo G F' (l1++(b,w,e)::l2)->K F'):
  w.size=n/\(∀v∈w.toList,al v)/\∃c e,F (Addr.mk b 0 none).block=some (.cells c e (0,0))/\(Addr.mk b 0 none).spot=none/\(Addr.mk b 0 none).off+n<=c.size/\
   atF (F.set (Addr.mk b 0 none).block (.cells (wr c (Addr.mk b 0 none).off w.toList) e)) K:=by
 obtain ⟨q,g⟩:=h.z (b,w0,e) (by simp);refine stW q h1 h2 hst (k _ (h.upd l1 l2 (am _ _ _) (cL.set _ (.inl rfl))))
theorem Lo.put1 (l1 l2:List (Nat×Γ×TypeId)) {b i:Nat} {w0 w:Γ} {v:Value} {e:TypeId} (h:Lo G F (l1++(b,w0,e)::l2)) (h2:i<w0.size) (hw:w0.setIfInBounds i v=w)
  {K:Ψ} (k:∀F',Lo G F' (l1++(b,w,e)::l2)->K F'):
  ∃c e,F (Addr.mk b i none).block=some (.cells c e (0,0))/\(Addr.mk b i none).spot=none/\(Addr.mk b i none).off<c.size/\
   atF (F.set (Addr.mk b i none).block (.cells (c.setIfInBounds (Addr.mk b i none).off v) e)) K:=by
 obtain ⟨q,g⟩:=h.z (b,w0,e) (by simp);subst hw;exact st1 (o:=i) q h2 (k _ (h.upd l1 l2 (am _ _ _) (cL.set _ (.inl rfl))))
theorem Lo.join (l1 l2:List (Nat×Γ×TypeId)) {b:Nat} {P Q:Nat->Bool} (h:Lo G F (l1++(b,plA P,229)::l2)):
  ak prog 205 #[pa b,.agg (plA Q)] F λr F'=>r=.tuple #[]/\Lo G F' (l1++(b,plA (λi=>P i || Q i),229)::l2):=by
 obtain ⟨q,g⟩:=h.z (b,plA P,229) (by simp);refine (ss (Q:=Q) (js.own.2 q)).mono ?_;rintro _ F' ⟨rfl,hs,hk⟩;exact ⟨rfl,h.upd l1 l2 (js.own.1 hs) hk⟩
theorem Lo.add (l1 l2:List (Nat×Γ×TypeId)) {b i:Nat} {P:Nat->Bool} (hi:i<512) (h:Lo G F (l1++(b,plA P,229)::l2)):
  ak prog 207 #[pa b,vi i] F λr F'=>r=.tuple #[]/\Lo G F' (l1++(b,plA (λj=>P j || decide (j=i)),229)::l2):=by
 obtain ⟨q,g⟩:=h.z (b,plA P,229) (by simp);refine (Bp hi q).mono ?_;rintro _ F' ⟨rfl,rfl⟩;exact ⟨rfl,h.upd l1 l2 (am _ _ _) (cL.set _ (.inl rfl))⟩
end
def cU (n:Nat) (R:Nat->Nat->Bool):Ξ:=(List.range n).flatMap λi=>(plA (R i)).toList
theorem t7 (n:Nat) (R:Nat->Nat->Bool):(cU n R).length=n*8:=by
 unfold cU;induction n with
 |zero=>rfl
 |succ n ih=>rw [Tv,SZ,Rj,ih];simp [plA];omega
theorem pX {f g:Nat->Ξ}:∀{l:Δ},(∀j∈l,f j=g j)->l.flatMap f=l.flatMap g
 |[],_=>rfl
 |a::l,h=>by rw [Sd,Sd,h a (by simp),pX λj hj=>h j (by simp [hj])]
theorem vP (f:Nat->Ξ) {n i:Nat} (hi:i<n):(List.range n).flatMap f=(List.range i).flatMap f++f i++((List.range (n - i - 1)).map (· +(i+1))).flatMap f:=by
 have:List.range n=List.range i++[i]++(List.range (n - i - 1)).map (· +(i+1)):=by
  have h1:n=(i+1)+(n - i - 1):=by omega
  rw [h1,List.range_add,Tv,show i+1+(n - i - 1) - i - 1=n - i - 1 by omega];congr 1;apply Tn;intro a _;omega
 rw [this,SZ,SZ,Sd,List.flatMap_nil,Sc]
theorem mZ {n:Nat} {R S:Nat->Nat->Bool} (h:∀i,i<n->R i=S i):cU n R=cU n S:=by unfold cU;exact pX λj hj=>by rw [h j (Sk.1 hj)]
theorem nc {n i:Nat} (hi:i<n) (R:Nat->Nat->Bool):∃pre post,pre.length=i*8/\cU n R=pre++(plA (R i)).toList++post/\∀R',(∀j,j≠i->R' j=R j)->cU n R'=pre++(plA (R' i)).toList++post:=by
 refine ⟨cU i R,((List.range (n - i - 1)).map (· +(i+1))).flatMap (λj=>(plA (R j)).toList),t7 i R,vP _ hi,λR' h=> ?_⟩;have e:=vP (λj=>(plA (R' j)).toList) hi;have e1:cU i R'=cU i R:=mZ λj hj=>h j (by omega);have e2:((List.range (n - i - 1)).map (· +(i+1))).flatMap (λj=>(plA (R' j)).toList)=((List.range (n - i - 1)).map (· +(i+1))).flatMap (λj=>(plA (R j)).toList):=pX λj hj=>by obtain ⟨a,_,rfl⟩:=Rv.1 hj;rw [h _ (by omega)]
 rw [e2] at e;rw [<- e1];exact e
structure Lnk (F:PH) (b3 bm bf n:Nat) (R:Nat->Nat->Bool):Prop where
 tab:Tab F
 q3:F b3=some (.cells #[pa bm] 226)
 q17:∃mc,F bm=some (.cells mc 232)/\mc[17]? =some (Sl.v ⟨some ⟨bf,0,none⟩,n,n⟩)
 qf:F bf=some (.cells (cU n R).toArray 229)
theorem Lnk.keep {F F':PH} {b3 bm bf n:Nat} {R R':Nat->Nat->Bool} (h:Lnk F b3 bm bf n R) (hk:cL (λx=>x=bf) F F') (hf:F' bf=some (.cells (cU n R').toArray 229)) (h0:bf≠0):Lnk F' b3 bm bf n R':=by
 obtain ⟨tab,q3,⟨mc,qm,h17⟩,qf⟩:=h;refine ⟨λk v hv=> ?_,hk _ _ q3 λe=> ?_,⟨mc,hk _ _ qm λe=> ?_,h17⟩,hf⟩
 ·have:=tab k v hv;unfold PH.cell at this ⊢;cases hz:F 0 with
  |none=>rw [hz] at this;cases this
  |some o=>rw [hz] at this;rw [hk _ _ hz h0.symm];exact this
 ·rw [e,qf] at q3;simp at q3
 ·rw [e,qf] at qm;simp at qm
theorem Lnk.le {F F':PH} {b3 bm bf n:Nat} {R:Nat->Nat->Bool} (h:Lnk F b3 bm bf n R) (hl:F.le F'):Lnk F' b3 bm bf n R:=by obtain ⟨tab,q3,⟨mc,qm,h17⟩,qf⟩:=h;exact ⟨tab.le hl,hl _ _ q3,⟨mc,hl _ _ qm,h17⟩,hl _ _ qf⟩
section
variable {F:PH} {b3 bm bf n:Nat} {R:Nat->Nat->Bool}
theorem xO (h:Lnk F b3 bm bf n R) (h0:bf≠0) {i bt:Nat} {Q:Nat->Bool} (hi:i<n) (ht:F bt=some (.cells (plA Q) 229)) (_:bt≠bf):
  ak prog 204 #[vi i,pa b3,pa bt] F λr F'=>r=.tuple #[]/\Lnk F' b3 bm bf n (λk j=>R k j || (decide (k=i) && Q j))/\cL (λx=>x=bf) F F':=by
 obtain ⟨tab,q3,⟨mc,qm,h17⟩,qf⟩:=id h;refine NG ?_;unfold Iu;obtain ⟨pre,post,hpre,hsp,hup⟩:=nc hi R;have c3:F.cell (Addr.mk b3 0 none)=some (pa bm):=by rw [aq q3];rfl
 have c17:F.cell ((Addr.mk bm 0 none).add 17)=some (Sl.v ⟨some ⟨bf,0,none⟩,n,n⟩):=by rw [cu,RB,aq qm];exact h17
 refine ⟨_,rfl,_,c3,_,rfl,_,c17,_,rfl,by omega,by simp only;omega,_,rfl,plA Q,rfl,ae ht,?_⟩;have ea:(Addr.mk bf 0 none).add (Int.toNat (i:Int)*8)=⟨bf,pre.length,none⟩:=by rw [cu,RB,N6,hpre]
 rw [ea];have hs:js F bf 229 pre (R i) post:=by unfold js;rw [<- hsp];exact qf
 refine (ss (Q:=Q) hs).mono ?_;rintro _ F' ⟨rfl,hs',hk⟩;have e:∀k,k≠i->(λk j=>R k j || (decide (k=i) && Q j)) k=R k:=λk hk=>by funext j;simp [hk]
 have hL:Lnk F' b3 bm bf n (λk j=>R k j || (decide (k=i) && Q j)):=h.keep hk (by
  rw [hup _ e];have:(λj=>R i j || (decide (i=i) && Q j))=λj=>R i j || Q j:=by funext j;simp
  show F' bf=some (.cells (pre++(plA (λj=>R i j || (decide (i=i) && Q j))).toList++post).toArray 229);rw [this]
  exact hs') h0
 obtain ⟨mc',qm',h17'⟩:=hL.q17;exact ⟨rfl,by rw [cu,RB,aq qm'];exact h17',by rw [aq hL.q3];rfl,rfl,hL,hk⟩
theorem Kn:aC prog 204=true:=by kernel_rfl
theorem sm (h:Lnk F b3 bm bf n R) (h0:bf≠0) (hn:n<=512) {P Q:Nat->Bool} (hP:∀i,P i=true->i<n):
  ak prog 202 #[.agg (plA P),.agg (plA Q),pa b3] F λr F'=>r=.tuple #[]/\Lnk F' b3 bm bf n (λk j=>R k j || (P k && Q j))/\cL (λx=>x=bf) F F':=by
 refine NE ?_;unfold Is;intro c hc;refine atI ?_;have lc:=ai (.cells (plA P) 229) hc;have qc:=am F c (.cells (plA P) 229);generalize F.set c (.cells (plA P) 229)=F1 at*;intro d hd;refine atI ?_;have ld:=ai (.cells (plA Q) 229) hd;have qd:=am F1 d (.cells (plA Q) 229);have qc':=ld _ _ qc;generalize F1.set d (.cells (plA Q) 229)=F2 at*;have hcf:c≠bf:=λe=>by rw [e,h.qf] at hc;cases hc
 have hdf:d≠bf:=λe=>by rw [e,lc _ _ h.qf] at hd;cases hd
 have l2:=aa lc ld
 refine (sA (a:=⟨c,0,none⟩) (P:=P) (k:=204) (cap:= #[pa b3,pa d]) (Inv:=λm F'=>Lnk F' b3 bm bf n (λk j=>R k j || (decide (k<m) && P k && Q j))/\cL (λx=>x=bf) F2 F') Kn rfl
  (λm F' hI=>⟨hI.1.tab,ae (hI.2 _ _ qc' hcf)⟩) (λi F' hi hp hI=> ?_) (λi F' hi hp hI=> ?_) ⟨?_,cL.refl _ _⟩).mono ?_
 ·refine ⟨?_,hI.2⟩;have:(λk j=>R k j || (decide (k<i+1) && P k && Q j))=λk j=>R k j || (decide (k<i) && P k && Q j):=by
   funext k j;by_cases hk:k=i
   ·subst hk;simp [hp]
   ·rw [show decide (k<i+1)=decide (k<i) by rw [Rp];simp;omega]
  rw [this];exact hI.1
 ·refine (xO hI.1 h0 (hP i hp) (hI.2 _ _ qd hdf) hdf).mono ?_;rintro _ F'' ⟨rfl,hL,hk⟩;refine ⟨rfl,?_,hI.2.trans hk⟩;have:(λk j=>(R k j || (decide (k<i) && P k && Q j)) || (decide (k=i) && Q j))=λk j=>R k j || (decide (k<i+1) && P k && Q j):=by
   funext k j;by_cases hk:k=i
   ·subst hk;simp [hp]
   ·rw [show decide (k<i+1)=decide (k<i) by rw [Rp];simp;omega];simp [hk]
  rw [<- this];exact hL
 ·have:(λk j=>R k j || (decide (k<0) && P k && Q j))=R:=by funext k j;simp
  rw [this];exact h.le l2
 ·rintro _ F' ⟨rfl,hL,hk⟩;refine ⟨rfl,rfl,?_,λx o hx hn=>hk x o (l2 _ _ hx) hn⟩;have:Lnk F' b3 bm bf n (λk j=>R k j || (P k && Q j)):=by
   refine ⟨hL.tab,hL.q3,hL.q17,?_⟩;have e:cU n (λk j=>R k j || (P k && Q j))=cU n (λk j=>R k j || (decide (k<512) && P k && Q j)):=by refine mZ λi hi=> ?_;funext j;rw [show decide (i<512)=true by simp;omega,ST]
   rw [e];exact hL.qf
  exact this
end
end Go.Proofs.YtcemhghkipgdiaaGreatDoor
