/-
  Variables beside a heap that calls work on; the links of a machine.
-/
import Derived.Test.YtenpmjhnhepfdaaGreatDoorQm
import Derived.Test.YtenpmjhnhepfdaaGreatDoorGbits
import Derived.Test.YtenpmjhnhepfdaaGreatDoorHa
namespace Go.Proofs.YtenpmjhnhepfdaaGreatDoor
open Go Go.Proofs.Tryz
set_option maxRecDepth 10000
section
variable {F:PH}
open Classical in
noncomputable def bz (l:List Nd):Lt:=if h:GoodL l then (A5 h (l.length) (l.length - 1) (by have:=List.length_pos_iff.2 h.ne;omega) (by have:=List.length_pos_iff.2 h.ne;omega)).choose else .emp
theorem fN {l:List Nd} (h:GoodL l):∃ns,cu l (l.length - 1) (bz l) ns:=by
 unfold bz
 rw [dif_pos h]
 exact (A5 h (l.length) (l.length - 1) (by have:=List.length_pos_iff.2 h.ne;omega) (by have:=List.length_pos_iff.2 h.ne;omega)).choose_spec
theorem ta {l:List Nd} (h:fh l=0):GoodL l/\l.length<=512:=by
 unfold fh at h
 split at h
 ·omega
 ·split at h
  ·rename_i hg
   exact ⟨hg,by omega⟩
  ·omega
end
structure Lo (G F:PH) (xs:List (Nat×Array Value×TypeId)):Prop where
 le:G.le F
 z:∀p∈xs,F p.1=some (.cells p.2.1 p.2.2)/\G p.1=none
 nd:(xs.map (·.1)).Nodup
theorem Lo.start (F:PH):Lo F F []:=⟨le_refl' F,fun p hp=>(by cases hp),List.nodup_nil⟩
section
variable {F G:PH} {xs:List (Nat×Array Value×TypeId)}
theorem Lo.get (h:Lo G F xs) {b:Nat} {w:Array Value} {e:TypeId} (hm:(b,w,e)∈xs):F b=some (.cells w e):=(h.z _ hm).1
theorem Lo.row (h:Lo G F xs) {b:Nat} {w:Array Value} {e:TypeId} (hm:(b,w,e)∈xs):F.row (Addr.mk b 0 none) w:=aj (h.z _ hm).1
theorem Lo.cell (h:Lo G F xs) {b i:Nat} {w:Array Value} {e:TypeId} (hm:(b,w,e)∈xs):F.cell (Addr.mk b i none)=w[i]? :=am (h.z _ hm).1
theorem Lo.call {f:FuncId} {args:Array Value} {P:Value->PH->Prop} (h:Lo G F xs) (s:ae prog f args G P):ae prog f args F fun r F'=>∃G',P r G'/\Lo G' F' xs:=
 (s.upon h.le).mono fun r F' ⟨G',hp,hl,hk⟩=>⟨G',hp,hl,fun p hp=>by
  obtain ⟨a,b⟩:=h.z p hp
  exact hk _ _ b a,h.nd⟩
theorem Lo.new (h:Lo G F xs) (c:Array Value) (e:TypeId) {K:Nat->PH->Prop} (k:∀b F',Lo G F' ((b,c,e)::xs)->K b F'):∀b,F b=none->atF (F.set b (.cells c e)) (K b):=by
 intro b hb
 refine atI ?_
 have hne:∀p∈xs,p.1≠b:=fun p hp=>aG hb (h.z p hp).1
 refine k b _ ⟨aa h.le (ac _ hb),fun p hp=> ?_,?_⟩
 ·rcases List.mem_cons.1 hp with rfl|hp
  ·exact ⟨an _ _ _,aV h.le hb⟩
  ·obtain ⟨a,c⟩:=h.z p hp
   exact ⟨(az _ _ (hne p hp)).trans a,c⟩
 ·rw [List.map_cons,List.nodup_cons]
  refine ⟨fun hm=> ?_,h.nd⟩
  obtain ⟨p,hp,e⟩:=List.mem_map.1 hm
  exact hne p hp e
theorem Lo.upd (l1 l2:List (Nat×Array Value×TypeId)) {b:Nat} {w0 w:Array Value} {e:TypeId} (h:Lo G F (l1++(b,w0,e)::l2)) {F':PH} (hb:F' b=some (.cells w e)) (hk:cf (fun x=>x=b) F F'):Lo G F' (l1++(b,w,e)::l2):=by
 obtain ⟨q,g⟩:=h.z (b,w0,e) (by simp)
 have nd:=h.nd
 rw [List.map_append,List.map_cons] at nd
 have hne:∀p,p∈l1\/p∈l2->p.1≠b:=fun p hp e=>by
  obtain ⟨_,n2,n3⟩:=List.nodup_append.1 nd
  rcases hp with hp|hp
  ·exact n3 p.1 (List.mem_map.2 ⟨p,hp,rfl⟩) b (by simp) e
  ·exact (List.nodup_cons.1 n2).1 (List.mem_map.2 ⟨p,hp,e⟩)
 have hkp:∀p,p∈l1\/p∈l2->F' p.1=some (.cells p.2.1 p.2.2)/\G p.1=none:=fun p hp=>by
  obtain ⟨a,c⟩:=h.z p (by simp only [List.mem_append,List.mem_cons];rcases hp with hp|hp<;>simp [hp])
  exact ⟨hk _ _ a (hne p hp),c⟩
 refine ⟨fun x o hx=>hk x o (h.le x o hx) fun e=>(by rw [e] at hx;rw [g] at hx;cases hx),fun p hp=> ?_,by rw [List.map_append,List.map_cons];exact nd⟩
 rcases List.mem_append.1 hp with hp|hp
 ·exact hkp p (.inl hp)
 ·rcases List.mem_cons.1 hp with rfl|hp
  ·exact ⟨hb,g⟩
  ·exact hkp p (.inr hp)
theorem Lo.put (l1 l2:List (Nat×Array Value×TypeId)) {b n:Nat} {w0 w:Array Value} {e:TypeId} (h:Lo G F (l1++(b,w0,e)::l2)) (h1:w.size=n) (h2:w0.size=n) (hst:∀v∈w.toList,ai v)
  {K:PH->Prop} (k:∀F',Lo G F' (l1++(b,w,e)::l2)->K F'):
  w.size=n/\(∀v∈w.toList,ai v)/\∃c e,F (Addr.mk b 0 none).block=some (.cells c e (0,0))/\(Addr.mk b 0 none).spot=none/\(Addr.mk b 0 none).off+n<=c.size/\
   atF (F.set (Addr.mk b 0 none).block (.cells (wr c (Addr.mk b 0 none).off w.toList) e)) K:=by
 obtain ⟨q,g⟩:=h.z (b,w0,e) (by simp)
 refine stW q h1 h2 hst (k _ (h.upd l1 l2 (an _ _ _) (cf.set _ (.inl rfl))))
theorem Lo.put1 (l1 l2:List (Nat×Array Value×TypeId)) {b i:Nat} {w0 w:Array Value} {v:Value} {e:TypeId} (h:Lo G F (l1++(b,w0,e)::l2)) (h2:i<w0.size) (hw:w0.setIfInBounds i v=w)
  {K:PH->Prop} (k:∀F',Lo G F' (l1++(b,w,e)::l2)->K F'):
  ∃c e,F (Addr.mk b i none).block=some (.cells c e (0,0))/\(Addr.mk b i none).spot=none/\(Addr.mk b i none).off<c.size/\
   atF (F.set (Addr.mk b i none).block (.cells (c.setIfInBounds (Addr.mk b i none).off v) e)) K:=by
 obtain ⟨q,g⟩:=h.z (b,w0,e) (by simp)
 subst hw
 exact st1 (o:=i) q h2 (k _ (h.upd l1 l2 (an _ _ _) (cf.set _ (.inl rfl))))
theorem Lo.join (l1 l2:List (Nat×Array Value×TypeId)) {b:Nat} {P Q:Nat->Bool} (h:Lo G F (l1++(b,plA P,275)::l2)):
  ae prog 225 #[pa b,.agg (plA Q)] F fun r F'=>r=.tuple #[]/\Lo G F' (l1++(b,plA (fun i=>P i || Q i),275)::l2):=by
 obtain ⟨q,g⟩:=h.z (b,plA P,275) (by simp)
 refine (tp (Q:=Q) (jF.own.2 q)).mono ?_
 rintro _ F' ⟨rfl,hs,hk⟩
 exact ⟨rfl,h.upd l1 l2 (jF.own.1 hs) hk⟩
theorem Lo.add (l1 l2:List (Nat×Array Value×TypeId)) {b i:Nat} {P:Nat->Bool} (hi:i<512) (h:Lo G F (l1++(b,plA P,275)::l2)):
  ae prog 227 #[pa b,vi i] F fun r F'=>r=.tuple #[]/\Lo G F' (l1++(b,plA (fun j=>P j || decide (j=i)),275)::l2):=by
 obtain ⟨q,g⟩:=h.z (b,plA P,275) (by simp)
 refine (Dl hi q).mono ?_
 rintro _ F' ⟨rfl,rfl⟩
 exact ⟨rfl,h.upd l1 l2 (an _ _ _) (cf.set _ (.inl rfl))⟩
end
def cV (n:Nat) (R:Nat->Nat->Bool):List Value:=(List.range n).flatMap fun i=>(plA (R i)).toList
theorem uH (n:Nat) (R:Nat->Nat->Bool):(cV n R).length=n*8:=by
 unfold cV
 induction n with
 |zero=>rfl
 |succ n ih=>rw [List.range_succ,List.flatMap_append,List.length_append,ih];simp [plA];omega
theorem qG {f g:Nat->List Value}:∀{l:List Nat},(∀j∈l,f j=g j)->l.flatMap f=l.flatMap g
 |[],_=>rfl
 |a::l,h=>by rw [List.flatMap_cons,List.flatMap_cons,h a (by simp),qG fun j hj=>h j (by simp [hj])]
theorem xm (f:Nat->List Value) {n i:Nat} (hi:i<n):(List.range n).flatMap f=(List.range i).flatMap f++f i++((List.range (n - i - 1)).map (· +(i+1))).flatMap f:=by
 have:List.range n=List.range i++[i]++(List.range (n - i - 1)).map (· +(i+1)):=by
  have h1:n=(i+1)+(n - i - 1):=by omega
  rw [h1,List.range_add,List.range_succ,show i+1+(n - i - 1) - i - 1=n - i - 1 by omega]
  congr 1
  apply List.map_congr_left
  intro a _
  omega
 rw [this,List.flatMap_append,List.flatMap_append,List.flatMap_cons,List.flatMap_nil,List.append_nil]
theorem mP {n:Nat} {R S:Nat->Nat->Bool} (h:∀i,i<n->R i=S i):cV n R=cV n S:=by
 unfold cV
 exact qG fun j hj=>by rw [h j (List.mem_range.1 hj)]
theorem mQ {n i:Nat} (hi:i<n) (R:Nat->Nat->Bool):∃pre post,pre.length=i*8/\cV n R=pre++(plA (R i)).toList++post/\∀R',(∀j,j≠i->R' j=R j)->cV n R'=pre++(plA (R' i)).toList++post:=by
 refine ⟨cV i R,((List.range (n - i - 1)).map (· +(i+1))).flatMap (fun j=>(plA (R j)).toList),uH i R,xm _ hi,fun R' h=> ?_⟩
 have e:=xm (fun j=>(plA (R' j)).toList) hi
 have e1:cV i R'=cV i R:=mP fun j hj=>h j (by omega)
 have e2:((List.range (n - i - 1)).map (· +(i+1))).flatMap (fun j=>(plA (R' j)).toList)=((List.range (n - i - 1)).map (· +(i+1))).flatMap (fun j=>(plA (R j)).toList):=qG fun j hj=>by
  obtain ⟨a,_,rfl⟩:=List.mem_map.1 hj
  rw [h _ (by omega)]
 rw [e2] at e
 rw [<- e1]
 exact e
structure Lnk (F:PH) (b3 bm bf n:Nat) (R:Nat->Nat->Bool):Prop where
 tab:Tab F
 q3:F b3=some (.cells #[pa bm] 272)
 q17:∃mc,F bm=some (.cells mc 278)/\mc[17]? =some (Sl.v ⟨some ⟨bf,0,none⟩,n,n⟩)
 qf:F bf=some (.cells (cV n R).toArray 275)
theorem Lnk.keep {F F':PH} {b3 bm bf n:Nat} {R R':Nat->Nat->Bool} (h:Lnk F b3 bm bf n R) (hk:cf (fun x=>x=bf) F F') (hf:F' bf=some (.cells (cV n R').toArray 275)) (h0:bf≠0):Lnk F' b3 bm bf n R':=by
 obtain ⟨tab,q3,⟨mc,qm,h17⟩,qf⟩:=h
 refine ⟨fun k v hv=> ?_,hk _ _ q3 fun e=> ?_,⟨mc,hk _ _ qm fun e=> ?_,h17⟩,hf⟩
 ·have:=tab k v hv
  unfold PH.cell at this ⊢
  cases hz:F 0 with
  |none=>rw [hz] at this;cases this
  |some o=>
   rw [hz] at this
   rw [hk _ _ hz h0.symm]
   exact this
 ·rw [e,qf] at q3
  simp at q3
 ·rw [e,qf] at qm
  simp at qm
theorem Lnk.le {F F':PH} {b3 bm bf n:Nat} {R:Nat->Nat->Bool} (h:Lnk F b3 bm bf n R) (hl:F.le F'):Lnk F' b3 bm bf n R:=by
 obtain ⟨tab,q3,⟨mc,qm,h17⟩,qf⟩:=h
 exact ⟨tab.le hl,hl _ _ q3,⟨mc,hl _ _ qm,h17⟩,hl _ _ qf⟩
section
variable {F:PH} {b3 bm bf n:Nat} {R:Nat->Nat->Bool}
theorem yN (h:Lnk F b3 bm bf n R) (h0:bf≠0) {i bt:Nat} {Q:Nat->Bool} (hi:i<n) (ht:F bt=some (.cells (plA Q) 275)) (hne:bt≠bf):
  ae prog 224 #[vi i,pa b3,pa bt] F fun r F'=>r=.tuple #[]/\Lnk F' b3 bm bf n (fun k j=>R k j || (decide (k=i) && Q j))/\cf (fun x=>x=bf) F F':=by
 obtain ⟨tab,q3,⟨mc,qm,h17⟩,qf⟩:=id h
 refine QD ?_
 unfold KE
 obtain ⟨pre,post,hpre,hsp,hup⟩:=mQ hi R
 have c3:F.cell (Addr.mk b3 0 none)=some (pa bm):=by rw [am q3];rfl
 have c17:F.cell ((Addr.mk bm 0 none).add 17)=some (Sl.v ⟨some ⟨bf,0,none⟩,n,n⟩):=by rw [bS,Nat.zero_add,am qm];exact h17
 refine ⟨_,rfl,_,c3,_,rfl,_,c17,_,rfl,by omega,by simp only;omega,_,rfl,plA Q,rfl,aj ht,?_⟩
 have ea:(Addr.mk bf 0 none).add (Int.toNat (i:Int)*8)=⟨bf,pre.length,none⟩:=by rw [bS,Nat.zero_add,Int.toNat_natCast,hpre]
 rw [ea]
 have hs:jF F bf 275 pre (R i) post:=by unfold jF;rw [<- hsp];exact qf
 refine (tp (Q:=Q) hs).mono ?_
 rintro _ F' ⟨rfl,hs',hk⟩
 have e:∀k,k≠i->(fun k j=>R k j || (decide (k=i) && Q j)) k=R k:=fun k hk=>by funext j;simp [hk]
 have hL:Lnk F' b3 bm bf n (fun k j=>R k j || (decide (k=i) && Q j)):=h.keep hk (by
  rw [hup _ e]
  have:(fun j=>R i j || (decide (i=i) && Q j))=fun j=>R i j || Q j:=by funext j;simp
  show F' bf=some (.cells (pre++(plA (fun j=>R i j || (decide (i=i) && Q j))).toList++post).toArray 275)
  rw [this]
  exact hs') h0
 obtain ⟨mc',qm',h17'⟩:=hL.q17
 exact ⟨rfl,by rw [bS,Nat.zero_add,am qm'];exact h17',by rw [am hL.q3];rfl,rfl,hL,hk⟩
theorem NM:aC prog 224=true:=by kernel_rfl
theorem tc (h:Lnk F b3 bm bf n R) (h0:bf≠0) (hn:n<=512) {P Q:Nat->Bool} (hP:∀i,P i=true->i<n):
  ae prog 222 #[.agg (plA P),.agg (plA Q),pa b3] F fun r F'=>r=.tuple #[]/\Lnk F' b3 bm bf n (fun k j=>R k j || (P k && Q j))/\cf (fun x=>x=bf) F F':=by
 refine QB ?_
 unfold KC
 intro c hc
 refine atI ?_
 have lc:=ac (.cells (plA P) 275) hc
 have qc:=an F c (.cells (plA P) 275)
 generalize F.set c (.cells (plA P) 275)=F1 at*
 intro d hd
 refine atI ?_
 have ld:=ac (.cells (plA Q) 275) hd
 have qd:=an F1 d (.cells (plA Q) 275)
 have qc':=ld _ _ qc
 generalize F1.set d (.cells (plA Q) 275)=F2 at*
 have hcf:c≠bf:=fun e=>by rw [e,h.qf] at hc;cases hc
 have hdf:d≠bf:=fun e=>by rw [e,lc _ _ h.qf] at hd;cases hd
 have l2:=aa lc ld
 refine (tq (a:=⟨c,0,none⟩) (P:=P) (k:=224) (cap:= #[pa b3,pa d]) (Inv:=fun m F'=>Lnk F' b3 bm bf n (fun k j=>R k j || (decide (k<m) && P k && Q j))/\cf (fun x=>x=bf) F2 F') NM rfl
  (fun m F' hI=>⟨hI.1.tab,aj (hI.2 _ _ qc' hcf)⟩) (fun i F' hi hp hI=> ?_) (fun i F' hi hp hI=> ?_) ⟨?_,cf.refl _ _⟩).mono ?_
 ·refine ⟨?_,hI.2⟩
  have:(fun k j=>R k j || (decide (k<i+1) && P k && Q j))=fun k j=>R k j || (decide (k<i) && P k && Q j):=by
   funext k j
   by_cases hk:k=i
   ·subst hk;simp [hp]
   ·rw [show decide (k<i+1)=decide (k<i) by rw [Bool.eq_iff_iff];simp;omega]
  rw [this]
  exact hI.1
 ·refine (yN hI.1 h0 (hP i hp) (hI.2 _ _ qd hdf) hdf).mono ?_
  rintro _ F'' ⟨rfl,hL,hk⟩
  refine ⟨rfl,?_,hI.2.trans hk⟩
  have:(fun k j=>(R k j || (decide (k<i) && P k && Q j)) || (decide (k=i) && Q j))=fun k j=>R k j || (decide (k<i+1) && P k && Q j):=by
   funext k j
   by_cases hk:k=i
   ·subst hk;simp [hp]
   ·rw [show decide (k<i+1)=decide (k<i) by rw [Bool.eq_iff_iff];simp;omega]
    simp [hk]
  rw [<- this]
  exact hL
 ·have:(fun k j=>R k j || (decide (k<0) && P k && Q j))=R:=by funext k j;simp
  rw [this]
  exact h.le l2
 ·rintro _ F' ⟨rfl,hL,hk⟩
  refine ⟨rfl,rfl,?_,fun x o hx hn=>hk x o (l2 _ _ hx) hn⟩
  have:Lnk F' b3 bm bf n (fun k j=>R k j || (P k && Q j)):=by
   refine ⟨hL.tab,hL.q3,hL.q17,?_⟩
   have e:cV n (fun k j=>R k j || (P k && Q j))=cV n (fun k j=>R k j || (decide (k<512) && P k && Q j)):=by
    refine mP fun i hi=> ?_
    funext j
    rw [show decide (i<512)=true by simp;omega,Bool.true_and]
   rw [e]
   exact hL.qf
  exact this
end
end Go.Proofs.YtenpmjhnhepfdaaGreatDoor
