/-
  The making of a machine: the walk over the tree.
-/
import Derived.Test.YtenpmjhnhepfdaaGreatDoorQr
namespace Go.Proofs.YtenpmjhnhepfdaaGreatDoor
open Go Go.Proofs.Tryz
set_option maxRecDepth 10000
theorem Gm:aC prog 222=true:=by kernel_rfl
theorem mu:aC prog 226=true:=by kernel_rfl
open Classical in
noncomputable def fB (t:Lt):Nat->Bool:=fun j=>decide (t.first j)
open Classical in
noncomputable def lB (t:Lt):Nat->Bool:=fun j=>decide (t.last j)
open Classical in
noncomputable def foB (t:Lt):Nat->Nat->Bool:=fun i j=>decide (t.fol i j)
theorem dR {t:Lt} {j:Nat}:fB t j=true↔t.first j:=by simp [fB]
theorem di {t:Lt} {j:Nat}:lB t j=true↔t.last j:=by simp [lB]
theorem jw {t:Lt} {i j:Nat}:foB t i j=true↔t.fol i j:=by simp [foB]
theorem NG:fB .emp=noP:=by funext j;rw [Bool.eq_iff_iff,dR];simp [Lt.first,noP]
theorem NH:lB .emp=noP:=by funext j;rw [Bool.eq_iff_iff,di];simp [Lt.last,noP]
theorem IT (i j:Nat):foB .emp i j=false:=by rw [<- Bool.not_eq_true,jw];exact id
theorem NI {i lo hi:Nat}:fB (.rng i lo hi)=fun j=>noP j || decide (j=i):=by funext j;rw [Bool.eq_iff_iff,dR];simp [Lt.first,noP];exact eq_comm
theorem NJ {i lo hi:Nat}:lB (.rng i lo hi)=fun j=>noP j || decide (j=i):=by funext j;rw [Bool.eq_iff_iff,di];simp [Lt.last,noP];exact eq_comm
theorem IU {i lo hi:Nat} (k j:Nat):foB (.rng i lo hi) k j=false:=by rw [<- Bool.not_eq_true,jw];exact id
theorem AM {t u:Lt} (h:t.nul=true):fB (.seq t u)=fun i=>fB t i || fB u i:=by funext j;rw [Bool.eq_iff_iff,Bool.or_eq_true,dR,dR,dR];simp [Lt.first,h]
theorem AN {t u:Lt} (h:t.nul=false):fB (.seq t u)=fB t:=by funext j;rw [Bool.eq_iff_iff,dR,dR];simp [Lt.first,h]
theorem AO {t u:Lt} (h:u.nul=true):lB (.seq t u)=fun i=>lB u i || lB t i:=by funext j;rw [Bool.eq_iff_iff,Bool.or_eq_true,di,di,di];simp [Lt.last,h]
theorem AQ {t u:Lt} (h:u.nul=false):lB (.seq t u)=lB u:=by funext j;rw [Bool.eq_iff_iff,di,di];simp [Lt.last,h]
theorem IV {t u:Lt} (k j:Nat):foB (.seq t u) k j=(foB t k j || (foB u k j || (lB t k && fB u j))):=by rw [Bool.eq_iff_iff];simp only [Bool.or_eq_true,Bool.and_eq_true,jw,di,dR,Lt.fol]
theorem Gn {t u:Lt}:fB (.alt t u)=fun i=>fB t i || fB u i:=by funext j;rw [Bool.eq_iff_iff,Bool.or_eq_true,dR,dR,dR];simp [Lt.first]
theorem Gp {t u:Lt}:lB (.alt t u)=fun i=>lB t i || lB u i:=by funext j;rw [Bool.eq_iff_iff,Bool.or_eq_true,di,di,di];simp [Lt.last]
theorem IW {t u:Lt} (k j:Nat):foB (.alt t u) k j=(foB t k j || foB u k j):=by rw [Bool.eq_iff_iff];simp only [Bool.or_eq_true,jw,Lt.fol]
theorem NK {t:Lt}:fB (.rep t)=fB t:=by funext j;rw [Bool.eq_iff_iff,dR,dR];simp [Lt.first]
theorem NL {t:Lt}:lB (.rep t)=lB t:=by funext j;rw [Bool.eq_iff_iff,di,di];simp [Lt.last]
theorem IX {t:Lt} (k j:Nat):foB (.rep t) k j=(foB t k j || (lB t k && fB t j)):=by rw [Bool.eq_iff_iff];simp only [Bool.or_eq_true,Bool.and_eq_true,jw,di,dR,Lt.fol]
theorem dF {l:List Nd} {i:Nat} {t:Lt} {ns:List Nat} (h:cu l i t ns):(∀j∈ns,j<l.length)/\∀j,t.lab j->j∈ns:=by
 induction h with
 |emp hx hk=>exact ⟨fun j hj=>by simp at hj;subst hj;exact (List.getElem?_eq_some_iff.1 hx).1,fun j h=>h.elim⟩
 |rng hx hk _ _ _ _=>exact ⟨fun j hj=>by simp at hj;subst hj;exact (List.getElem?_eq_some_iff.1 hx).1,fun j h=>by rw [show j=_ from h.symm];simp⟩
 |seq hx hk _ _ _ _ i1 i2=>
  refine ⟨fun j hj=> ?_,fun j h=> ?_⟩
  ·simp only [List.cons_append,List.mem_cons,List.mem_append] at hj
   rcases hj with rfl|hj|hj
   ·exact (List.getElem?_eq_some_iff.1 hx).1
   ·exact i1.1 j hj
   ·exact i2.1 j hj
  ·simp only [List.cons_append,List.mem_cons,List.mem_append]
   exact .inr (h.elim (fun h=> .inl (i1.2 j h)) fun h=> .inr (i2.2 j h))
 |alt hx hk _ _ _ _ i1 i2=>
  refine ⟨fun j hj=> ?_,fun j h=> ?_⟩
  ·simp only [List.cons_append,List.mem_cons,List.mem_append] at hj
   rcases hj with rfl|hj|hj
   ·exact (List.getElem?_eq_some_iff.1 hx).1
   ·exact i1.1 j hj
   ·exact i2.1 j hj
  ·simp only [List.cons_append,List.mem_cons,List.mem_append]
   exact .inr (h.elim (fun h=> .inl (i1.2 j h)) fun h=> .inr (i2.2 j h))
 |rep hx hk _ _ i1=>
  refine ⟨fun j hj=> ?_,fun j h=> ?_⟩
  ·simp only [List.mem_cons] at hj
   rcases hj with rfl|hj
   ·exact (List.getElem?_eq_some_iff.1 hx).1
   ·exact i1.1 j hj
  ·exact List.mem_cons_of_mem _ (i1.2 j h)
theorem AR {l:List Nd} {i:Nat} {t:Lt} {ns:List Nat} (h:cu l i t ns) {j:Nat} (hj:lB t j=true):j<l.length:=(dF h).1 j ((dF h).2 j (t.last_lab (di.1 hj)))
theorem RdS.keep {F F':PH} {s:Sl} {size:Nat} {vs:List Value} (h:RdS F s size vs) (hk:∀a,s.base=some a->∀o,F a.block=some o->F' a.block=some o):RdS F' s size vs:=by
 refine ⟨h.len,h.cap,fun hp=> ?_⟩
 obtain ⟨b,o,h1,h2⟩:=h.cells hp
 refine ⟨b,o,h1,fun i hi=> ?_⟩
 have hc:=h2 i hi
 unfold PH.cell at hc ⊢
 cases hz:F b with
 |none=>simp only [hz] at hc;cases hc
 |some ob=>
  simp only [hz] at hc
  simp only [hk _ h1 ob hz]
  exact hc
structure Cmp (F:PH) (b1 b3 b4 b5 bm bf:Nat) (l:List Nd) (R:Nat->Nat->Bool):Prop where
 lnk:Lnk F b3 bm bf l.length R
 q1:∃s:Sl,F b1=some (.cells #[s.v] 77)/\RdS F s 5 (dG l)/\∀a,s.base=some a->a.block≠bf
 q4:F b4=some (.cells #[.func (.func 226) #[] #[pa b1,pa b4,pa b5]] 303)
 q5:F b5=some (.cells #[.func (.func 222) #[] #[pa b3]] 306)
section
variable {F F':PH} {b1 b3 b4 b5 bm bf:Nat} {l:List Nd} {R R':Nat->Nat->Bool}
theorem Cmp.le (h:Cmp F b1 b3 b4 b5 bm bf l R) (hl:F.le F'):Cmp F' b1 b3 b4 b5 bm bf l R:=by
 obtain ⟨s,a,b,c⟩:=h.q1
 exact ⟨h.lnk.le hl,⟨s,hl _ _ a,b.le hl,c⟩,hl _ _ h.q4,hl _ _ h.q5⟩
theorem Cmp.keep (h:Cmp F b1 b3 b4 b5 bm bf l R) (hk:cf (fun x=>x=bf) F F') (hL:Lnk F' b3 bm bf l.length R'):Cmp F' b1 b3 b4 b5 bm bf l R':=by
 obtain ⟨s,a,b,c⟩:=h.q1
 have hne:∀{x:Nat} {cs:Array Value} {e:TypeId},e≠275->F x=some (.cells cs e)->x≠bf:=fun he hx e=>by
  rw [e,h.lnk.qf] at hx
  simp at hx
  exact he hx.2.symm
 exact ⟨hL,⟨s,hk _ _ a (hne (by decide) a),b.keep fun ad had o ho=>hk _ _ ho (c ad had),c⟩,hk _ _ h.q4 (hne (by decide) h.q4),hk _ _ h.q5 (hne (by decide) h.q5)⟩
theorem Cmp.to (h:Cmp F b1 b3 b4 b5 bm bf l R) (e:∀k j,R k j=R' k j):Cmp F b1 b3 b4 b5 bm bf l R':=by
 have:R=R':=by funext k j;exact e k j
 rw [<- this]
 exact h
set_option maxHeartbeats 4000000 in
theorem Dh (hn:l.length<=512) (h0:bf≠0) {i:Nat} {t:Lt} {ns:List Nat} (h:cu l i t ns):∀{F:PH} {R:Nat->Nat->Bool},Cmp F b1 b3 b4 b5 bm bf l R->
  ae prog 226 #[vi i,pa b1,pa b4,pa b5] F fun r F'=>r=.tuple #[.agg (plA (fB t)),.agg (plA (lB t)),.bool t.nul]/\Cmp F' b1 b3 b4 b5 bm bf l (fun k j=>R k j || foB t k j)/\cf (fun x=>x=bf) F F':=by
 induction h with
 | @emp i x hx hk=>
  intro F R hC
  obtain ⟨s,q1,hs,hsb⟩:=hC.q1
  have hlen:=hs.nlen
  have hi':=(List.getElem?_eq_some_iff.1 hx).1
  obtain ⟨ad,had,hrow⟩:=rdn hs hx
  refine xw ?_
  unfold tn
  have h:=Lo.start F
  refine h.new _ _ fun r1 F1 h=> ?_
  refine h.new _ _ fun r2 F2 h=> ?_
  rw [<- bo] at h
  refine ⟨_,rfl,s,by rw [am (h.le _ _ q1)];rfl,ad,had,by omega,by omega,x.arr,rfl,fun k hk'=>aq h.le (hrow k hk'),?_⟩
  refine h.new _ _ fun b8 F3 h=> ?_
  refine Lo.put [] [(r2,_,275),(r1,_,275)] (n:=5) (w:=x.arr) h rfl rfl (dJ x) fun F4 h=> ?_
  simp only [List.nil_append] at h
  refine ⟨x.k,by rw [h.cell (b:=b8) (w:=x.arr) (e:=97) (by simp)];rfl,?_⟩
  have hK:cf (fun x=>x=bf) F F:=cf.refl _ _
  refine ⟨fun h=>absurd h (by omega),fun _=>⟨fun h=>absurd h (by omega),fun _=>⟨fun h=>absurd h (by omega),fun _=>⟨fun h=>absurd h (by omega),fun _=> ?_⟩⟩⟩⟩
  refine ⟨plA noP,rfl,h.row (b:=r1) (w:=plA noP) (e:=275) (by simp),plA noP,rfl,h.row (b:=r2) (w:=plA noP) (e:=275) (by simp),?_⟩
  refine Lo.put [(b8,x.arr,97),(r2,plA noP,275)] [] (n:=8) (b:=r1) (w0:=plA noP) (w:=plA noP) (e:=275) h rfl rfl (bi _) fun F5 h=> ?_
  replace h:Lo F F5 [(b8,x.arr,97),(r2,plA noP,275),(r1,plA noP,275)]:=h
  refine ⟨h.row (b:=r2) (w:=plA noP) (e:=275) (by simp),?_⟩
  refine Lo.put [(b8,x.arr,97)] [(r1,plA noP,275)] (n:=8) (b:=r2) (w0:=plA noP) (w:=plA noP) (e:=275) h rfl rfl (bi _) fun F6 h=> ?_
  replace h:Lo F F6 [(b8,x.arr,97),(r2,plA noP,275),(r1,plA noP,275)]:=h
  refine ⟨plA noP,rfl,h.row (b:=r1) (w:=plA noP) (e:=275) (by simp),plA noP,rfl,h.row (b:=r2) (w:=plA noP) (e:=275) (by simp),?_⟩
  refine ⟨?_,(hC.le h.le).to (fun k j=>by rw [IT,Bool.or_false]),fun y o hy hn=>h.le _ _ (hK y o hy hn)⟩
  rw [NG,NH,Lt.nul]
 | @rng i lo hi x hx hk hlo hhi hle h255=>
  intro F R hC
  obtain ⟨s,q1,hs,hsb⟩:=hC.q1
  have hlen:=hs.nlen
  have hi':=(List.getElem?_eq_some_iff.1 hx).1
  obtain ⟨ad,had,hrow⟩:=rdn hs hx
  refine xw ?_
  unfold tn
  have h:=Lo.start F
  refine h.new _ _ fun r1 F1 h=> ?_
  refine h.new _ _ fun r2 F2 h=> ?_
  rw [<- bo] at h
  refine ⟨_,rfl,s,by rw [am (h.le _ _ q1)];rfl,ad,had,by omega,by omega,x.arr,rfl,fun k hk'=>aq h.le (hrow k hk'),?_⟩
  refine h.new _ _ fun b8 F3 h=> ?_
  refine Lo.put [] [(r2,_,275),(r1,_,275)] (n:=5) (w:=x.arr) h rfl rfl (dJ x) fun F4 h=> ?_
  simp only [List.nil_append] at h
  refine ⟨x.k,by rw [h.cell (b:=b8) (w:=x.arr) (e:=97) (by simp)];rfl,?_⟩
  have hK:cf (fun x=>x=bf) F F:=cf.refl _ _
  refine ⟨fun _=> ?_,fun h=>absurd hk h⟩
  refine (Lo.add [(b8,x.arr,97),(r2,plA noP,275)] [] (b:=r1) (P:=noP) (by omega) h).mono ?_
  rintro _ F5 ⟨rfl,h'⟩
  replace h:Lo F F5 [(b8,x.arr,97),(r2,plA noP,275),(r1,plA (fun j=>noP j || decide (j=i)),275)]:=h'
  clear h'
  refine ⟨rfl,plA (fun j=>noP j || decide (j=i)),rfl,h.row (b:=r1) (w:=plA (fun j=>noP j || decide (j=i))) (e:=275) (by simp),plA (fun j=>noP j || decide (j=i)),rfl,h.row (b:=r1) (w:=plA (fun j=>noP j || decide (j=i))) (e:=275) (by simp),?_⟩
  refine Lo.put [(b8,x.arr,97),(r2,plA noP,275)] [] (n:=8) (b:=r1) (w0:=plA (fun j=>noP j || decide (j=i))) (w:=plA (fun j=>noP j || decide (j=i))) (e:=275) h rfl rfl (bi _) fun F6 h=> ?_
  replace h:Lo F F6 [(b8,x.arr,97),(r2,plA noP,275),(r1,plA (fun j=>noP j || decide (j=i)),275)]:=h
  refine Lo.put [(b8,x.arr,97)] [(r1,plA (fun j=>noP j || decide (j=i)),275)] (n:=8) (b:=r2) (w0:=plA noP) (w:=plA (fun j=>noP j || decide (j=i))) (e:=275) h rfl rfl (bi _) fun F7 h=> ?_
  replace h:Lo F F7 [(b8,x.arr,97),(r2,plA (fun j=>noP j || decide (j=i)),275),(r1,plA (fun j=>noP j || decide (j=i)),275)]:=h
  refine ⟨plA (fun j=>noP j || decide (j=i)),rfl,h.row (b:=r1) (w:=plA (fun j=>noP j || decide (j=i))) (e:=275) (by simp),plA (fun j=>noP j || decide (j=i)),rfl,h.row (b:=r2) (w:=plA (fun j=>noP j || decide (j=i))) (e:=275) (by simp),?_⟩
  refine ⟨?_,(hC.le h.le).to (fun k j=>by rw [IU,Bool.or_false]),fun y o hy hn=>h.le _ _ (hK y o hy hn)⟩
  rw [NI,NJ,Lt.nul]
 | @seq i a b x t u na nb hx hk hxa hxb ht hu it iu=>
  intro F R hC
  obtain ⟨s,q1,hs,hsb⟩:=hC.q1
  have hlen:=hs.nlen
  have hi':=(List.getElem?_eq_some_iff.1 hx).1
  obtain ⟨ad,had,hrow⟩:=rdn hs hx
  refine xw ?_
  unfold tn
  have h:=Lo.start F
  refine h.new _ _ fun r1 F1 h=> ?_
  refine h.new _ _ fun r2 F2 h=> ?_
  rw [<- bo] at h
  refine ⟨_,rfl,s,by rw [am (h.le _ _ q1)];rfl,ad,had,by omega,by omega,x.arr,rfl,fun k hk'=>aq h.le (hrow k hk'),?_⟩
  refine h.new _ _ fun b8 F3 h=> ?_
  refine Lo.put [] [(r2,_,275),(r1,_,275)] (n:=5) (w:=x.arr) h rfl rfl (dJ x) fun F4 h=> ?_
  simp only [List.nil_append] at h
  refine ⟨x.k,by rw [h.cell (b:=b8) (w:=x.arr) (e:=97) (by simp)];rfl,?_⟩
  have hK:cf (fun x=>x=bf) F F:=cf.refl _ _
  refine ⟨fun h=>absurd h (by omega),fun _=>⟨fun _=> ?_,fun h=>absurd hk h⟩⟩
  refine ⟨_,rfl,_,by rw [am (h.le _ _ hC.q4)];rfl,_,by rw [h.cell (b:=b8) (w:=x.arr) (e:=97) (by simp)];rfl,226,#[],_,rfl,mu,?_⟩
  rw [hxa]
  refine (h.call (it hC)).mono ?_
  rintro _ F5 ⟨G5,⟨rfl,hC',hk'⟩,h'⟩
  replace hK:=hK.trans hk'
  clear hC h hk'
  have hC:=hC'
  have h:=h'
  clear hC' h'
  refine ⟨_,_,_,rfl,?_⟩
  refine h.new _ _ fun b9 F6 h=> ?_
  replace h:Lo G5 F6 [(b9,plA noP,275),(b8,x.arr,97),(r2,plA noP,275),(r1,plA noP,275)]:=by rw [<- bo] at h;exact h
  refine h.new _ _ fun b10 F7 h=> ?_
  replace h:Lo G5 F7 [(b10,plA noP,275),(b9,plA noP,275),(b8,x.arr,97),(r2,plA noP,275),(r1,plA noP,275)]:=by rw [<- bo] at h;exact h
  refine Lo.put [(b10,plA noP,275)] [(b8,x.arr,97),(r2,plA noP,275),(r1,plA noP,275)] (n:=8) (b:=b9) (w0:=plA noP) (w:=plA (fB t)) (e:=275) h rfl rfl (bi _) fun F8 h=> ?_
  replace h:Lo G5 F8 [(b10,plA noP,275),(b9,plA (fB t),275),(b8,x.arr,97),(r2,plA noP,275),(r1,plA noP,275)]:=h
  refine Lo.put [] [(b9,plA (fB t),275),(b8,x.arr,97),(r2,plA noP,275),(r1,plA noP,275)] (n:=8) (b:=b10) (w0:=plA noP) (w:=plA (lB t)) (e:=275) h rfl rfl (bi _) fun F9 h=> ?_
  replace h:Lo G5 F9 [(b10,plA (lB t),275),(b9,plA (fB t),275),(b8,x.arr,97),(r2,plA noP,275),(r1,plA noP,275)]:=h
  refine ⟨_,by rw [am (h.le _ _ hC.q4)];rfl,_,by rw [h.cell (b:=b8) (w:=x.arr) (e:=97) (by simp)];rfl,226,#[],_,rfl,mu,?_⟩
  rw [hxb]
  refine (h.call (iu hC)).mono ?_
  rintro _ F10 ⟨G10,⟨rfl,hC',hk'⟩,h'⟩
  replace hK:=hK.trans hk'
  clear hC h hk'
  have hC:=hC'
  have h:=h'
  clear hC' h'
  refine ⟨_,_,_,rfl,?_⟩
  refine h.new _ _ fun b12 F11 h=> ?_
  replace h:Lo G10 F11 [(b12,plA noP,275),(b10,plA (lB t),275),(b9,plA (fB t),275),(b8,x.arr,97),(r2,plA noP,275),(r1,plA noP,275)]:=by rw [<- bo] at h;exact h
  refine h.new _ _ fun b13 F12 h=> ?_
  replace h:Lo G10 F12 [(b13,plA noP,275),(b12,plA noP,275),(b10,plA (lB t),275),(b9,plA (fB t),275),(b8,x.arr,97),(r2,plA noP,275),(r1,plA noP,275)]:=by rw [<- bo] at h;exact h
  refine Lo.put [(b13,plA noP,275)] [(b10,plA (lB t),275),(b9,plA (fB t),275),(b8,x.arr,97),(r2,plA noP,275),(r1,plA noP,275)] (n:=8) (b:=b12) (w0:=plA noP) (w:=plA (fB u)) (e:=275) h rfl rfl (bi _) fun F13 h=> ?_
  replace h:Lo G10 F13 [(b13,plA noP,275),(b12,plA (fB u),275),(b10,plA (lB t),275),(b9,plA (fB t),275),(b8,x.arr,97),(r2,plA noP,275),(r1,plA noP,275)]:=h
  refine Lo.put [] [(b12,plA (fB u),275),(b10,plA (lB t),275),(b9,plA (fB t),275),(b8,x.arr,97),(r2,plA noP,275),(r1,plA noP,275)] (n:=8) (b:=b13) (w0:=plA noP) (w:=plA (lB u)) (e:=275) h rfl rfl (bi _) fun F14 h=> ?_
  replace h:Lo G10 F14 [(b13,plA (lB u),275),(b12,plA (fB u),275),(b10,plA (lB t),275),(b9,plA (fB t),275),(b8,x.arr,97),(r2,plA noP,275),(r1,plA noP,275)]:=h
  refine ⟨_,rfl,_,by rw [am (h.le _ _ hC.q5)];rfl,plA (lB t),rfl,h.row (b:=b10) (w:=plA (lB t)) (e:=275) (by simp),plA (fB u),rfl,h.row (b:=b12) (w:=plA (fB u)) (e:=275) (by simp),222,#[],_,rfl,Gm,?_⟩
  refine (h.call (tc (P:=lB t) (Q:=fB u) hC.lnk h0 hn (fun j hj=>AR ht hj))).mono ?_
  rintro _ F15 ⟨G15,⟨rfl,hL,hk'⟩,h'⟩
  have hC':=hC.keep hk' hL
  replace hK:=hK.trans hk'
  clear hC h hk' hL
  have hC:=hC'
  have h:=h'
  clear hC' h'
  refine ⟨rfl,?_⟩
  have hR:∀k j,(R k j || foB t k j || foB u k j || (lB t k && fB u j))=(R k j || foB (.seq t u) k j):=fun k j=>by rw [IV];simp only [Bool.or_assoc]
  refine ⟨fun HA=> ?_,fun HA=> ?_⟩
  ·refine ⟨plA (fB u),rfl,h.row (b:=b12) (w:=plA (fB u)) (e:=275) (by simp),?_⟩
   refine (Lo.join [(b13,plA (lB u),275),(b12,plA (fB u),275),(b10,plA (lB t),275)] [(b8,x.arr,97),(r2,plA noP,275),(r1,plA noP,275)] (b:=b9) (P:=fB t) (Q:=fB u) h).mono ?_
   rintro _ F16 ⟨rfl,h'⟩
   replace h:Lo G15 F16 [(b13,plA (lB u),275),(b12,plA (fB u),275),(b10,plA (lB t),275),(b9,plA (fun i=>fB t i || fB u i),275),(b8,x.arr,97),(r2,plA noP,275),(r1,plA noP,275)]:=h'
   clear h'
   refine ⟨rfl,?_⟩
   unfold nZ
   refine ⟨fun hb=> ?_,fun hb=> ?_⟩
   ·refine ⟨plA (lB t),rfl,h.row (b:=b10) (w:=plA (lB t)) (e:=275) (by simp),?_⟩
    refine (Lo.join [] [(b12,plA (fB u),275),(b10,plA (lB t),275),(b9,plA (fun i=>fB t i || fB u i),275),(b8,x.arr,97),(r2,plA noP,275),(r1,plA noP,275)] (b:=b13) (P:=lB u) (Q:=lB t) h).mono ?_
    rintro _ F17 ⟨rfl,h'⟩
    replace h:Lo G15 F17 [(b13,plA (fun i=>lB u i || lB t i),275),(b12,plA (fB u),275),(b10,plA (lB t),275),(b9,plA (fun i=>fB t i || fB u i),275),(b8,x.arr,97),(r2,plA noP,275),(r1,plA noP,275)]:=h'
    clear h'
    refine ⟨rfl,?_⟩
    unfold jz
    refine ⟨plA (fun i=>fB t i || fB u i),rfl,h.row (b:=b9) (w:=plA (fun i=>fB t i || fB u i)) (e:=275) (by simp),plA (fun i=>lB u i || lB t i),rfl,h.row (b:=b13) (w:=plA (fun i=>lB u i || lB t i)) (e:=275) (by simp),fun ha=> ?_,fun ha=>absurd ha (by rw [HA];simp)⟩
    refine Lo.put [(b13,plA (fun i=>lB u i || lB t i),275),(b12,plA (fB u),275),(b10,plA (lB t),275),(b9,plA (fun i=>fB t i || fB u i),275),(b8,x.arr,97),(r2,plA noP,275)] [] (n:=8) (b:=r1) (w0:=plA noP) (w:=plA (fun i=>fB t i || fB u i)) (e:=275) h rfl rfl (bi _) fun F18 h=> ?_
    replace h:Lo G15 F18 [(b13,plA (fun i=>lB u i || lB t i),275),(b12,plA (fB u),275),(b10,plA (lB t),275),(b9,plA (fun i=>fB t i || fB u i),275),(b8,x.arr,97),(r2,plA noP,275),(r1,plA (fun i=>fB t i || fB u i),275)]:=h
    refine Lo.put [(b13,plA (fun i=>lB u i || lB t i),275),(b12,plA (fB u),275),(b10,plA (lB t),275),(b9,plA (fun i=>fB t i || fB u i),275),(b8,x.arr,97)] [(r1,plA (fun i=>fB t i || fB u i),275)] (n:=8) (b:=r2) (w0:=plA noP) (w:=plA (fun i=>lB u i || lB t i)) (e:=275) h rfl rfl (bi _) fun F19 h=> ?_
    replace h:Lo G15 F19 [(b13,plA (fun i=>lB u i || lB t i),275),(b12,plA (fB u),275),(b10,plA (lB t),275),(b9,plA (fun i=>fB t i || fB u i),275),(b8,x.arr,97),(r2,plA (fun i=>lB u i || lB t i),275),(r1,plA (fun i=>fB t i || fB u i),275)]:=h
    refine ⟨plA (fun i=>fB t i || fB u i),rfl,h.row (b:=r1) (w:=plA (fun i=>fB t i || fB u i)) (e:=275) (by simp),plA (fun i=>lB u i || lB t i),rfl,h.row (b:=r2) (w:=plA (fun i=>lB u i || lB t i)) (e:=275) (by simp),?_⟩
    refine ⟨?_,(hC.le h.le).to hR,fun y o hy hn=>h.le _ _ (hK y o hy hn)⟩
    rw [AM HA,AO hb]
    simp only [Lt.nul,HA,hb]
    rfl
   ·unfold jz
    refine ⟨plA (fun i=>fB t i || fB u i),rfl,h.row (b:=b9) (w:=plA (fun i=>fB t i || fB u i)) (e:=275) (by simp),plA (lB u),rfl,h.row (b:=b13) (w:=plA (lB u)) (e:=275) (by simp),fun ha=> ?_,fun ha=>absurd ha (by rw [HA];simp)⟩
    refine Lo.put [(b13,plA (lB u),275),(b12,plA (fB u),275),(b10,plA (lB t),275),(b9,plA (fun i=>fB t i || fB u i),275),(b8,x.arr,97),(r2,plA noP,275)] [] (n:=8) (b:=r1) (w0:=plA noP) (w:=plA (fun i=>fB t i || fB u i)) (e:=275) h rfl rfl (bi _) fun F17 h=> ?_
    replace h:Lo G15 F17 [(b13,plA (lB u),275),(b12,plA (fB u),275),(b10,plA (lB t),275),(b9,plA (fun i=>fB t i || fB u i),275),(b8,x.arr,97),(r2,plA noP,275),(r1,plA (fun i=>fB t i || fB u i),275)]:=h
    refine Lo.put [(b13,plA (lB u),275),(b12,plA (fB u),275),(b10,plA (lB t),275),(b9,plA (fun i=>fB t i || fB u i),275),(b8,x.arr,97)] [(r1,plA (fun i=>fB t i || fB u i),275)] (n:=8) (b:=r2) (w0:=plA noP) (w:=plA (lB u)) (e:=275) h rfl rfl (bi _) fun F18 h=> ?_
    replace h:Lo G15 F18 [(b13,plA (lB u),275),(b12,plA (fB u),275),(b10,plA (lB t),275),(b9,plA (fun i=>fB t i || fB u i),275),(b8,x.arr,97),(r2,plA (lB u),275),(r1,plA (fun i=>fB t i || fB u i),275)]:=h
    refine ⟨plA (fun i=>fB t i || fB u i),rfl,h.row (b:=r1) (w:=plA (fun i=>fB t i || fB u i)) (e:=275) (by simp),plA (lB u),rfl,h.row (b:=r2) (w:=plA (lB u)) (e:=275) (by simp),?_⟩
    refine ⟨?_,(hC.le h.le).to hR,fun y o hy hn=>h.le _ _ (hK y o hy hn)⟩
    rw [AM HA,AQ hb]
    simp only [Lt.nul,HA,hb]
    rfl
  ·unfold nZ
   refine ⟨fun hb=> ?_,fun hb=> ?_⟩
   ·refine ⟨plA (lB t),rfl,h.row (b:=b10) (w:=plA (lB t)) (e:=275) (by simp),?_⟩
    refine (Lo.join [] [(b12,plA (fB u),275),(b10,plA (lB t),275),(b9,plA (fB t),275),(b8,x.arr,97),(r2,plA noP,275),(r1,plA noP,275)] (b:=b13) (P:=lB u) (Q:=lB t) h).mono ?_
    rintro _ F16 ⟨rfl,h'⟩
    replace h:Lo G15 F16 [(b13,plA (fun i=>lB u i || lB t i),275),(b12,plA (fB u),275),(b10,plA (lB t),275),(b9,plA (fB t),275),(b8,x.arr,97),(r2,plA noP,275),(r1,plA noP,275)]:=h'
    clear h'
    refine ⟨rfl,?_⟩
    unfold jz
    refine ⟨plA (fB t),rfl,h.row (b:=b9) (w:=plA (fB t)) (e:=275) (by simp),plA (fun i=>lB u i || lB t i),rfl,h.row (b:=b13) (w:=plA (fun i=>lB u i || lB t i)) (e:=275) (by simp),fun ha=>absurd ha (by rw [HA];simp),fun ha=> ?_⟩
    refine Lo.put [(b13,plA (fun i=>lB u i || lB t i),275),(b12,plA (fB u),275),(b10,plA (lB t),275),(b9,plA (fB t),275),(b8,x.arr,97),(r2,plA noP,275)] [] (n:=8) (b:=r1) (w0:=plA noP) (w:=plA (fB t)) (e:=275) h rfl rfl (bi _) fun F17 h=> ?_
    replace h:Lo G15 F17 [(b13,plA (fun i=>lB u i || lB t i),275),(b12,plA (fB u),275),(b10,plA (lB t),275),(b9,plA (fB t),275),(b8,x.arr,97),(r2,plA noP,275),(r1,plA (fB t),275)]:=h
    refine Lo.put [(b13,plA (fun i=>lB u i || lB t i),275),(b12,plA (fB u),275),(b10,plA (lB t),275),(b9,plA (fB t),275),(b8,x.arr,97)] [(r1,plA (fB t),275)] (n:=8) (b:=r2) (w0:=plA noP) (w:=plA (fun i=>lB u i || lB t i)) (e:=275) h rfl rfl (bi _) fun F18 h=> ?_
    replace h:Lo G15 F18 [(b13,plA (fun i=>lB u i || lB t i),275),(b12,plA (fB u),275),(b10,plA (lB t),275),(b9,plA (fB t),275),(b8,x.arr,97),(r2,plA (fun i=>lB u i || lB t i),275),(r1,plA (fB t),275)]:=h
    refine ⟨plA (fB t),rfl,h.row (b:=r1) (w:=plA (fB t)) (e:=275) (by simp),plA (fun i=>lB u i || lB t i),rfl,h.row (b:=r2) (w:=plA (fun i=>lB u i || lB t i)) (e:=275) (by simp),?_⟩
    refine ⟨?_,(hC.le h.le).to hR,fun y o hy hn=>h.le _ _ (hK y o hy hn)⟩
    rw [AN HA,AO hb]
    simp only [Lt.nul,HA,hb]
    rfl
   ·unfold jz
    refine ⟨plA (fB t),rfl,h.row (b:=b9) (w:=plA (fB t)) (e:=275) (by simp),plA (lB u),rfl,h.row (b:=b13) (w:=plA (lB u)) (e:=275) (by simp),fun ha=>absurd ha (by rw [HA];simp),fun ha=> ?_⟩
    refine Lo.put [(b13,plA (lB u),275),(b12,plA (fB u),275),(b10,plA (lB t),275),(b9,plA (fB t),275),(b8,x.arr,97),(r2,plA noP,275)] [] (n:=8) (b:=r1) (w0:=plA noP) (w:=plA (fB t)) (e:=275) h rfl rfl (bi _) fun F16 h=> ?_
    replace h:Lo G15 F16 [(b13,plA (lB u),275),(b12,plA (fB u),275),(b10,plA (lB t),275),(b9,plA (fB t),275),(b8,x.arr,97),(r2,plA noP,275),(r1,plA (fB t),275)]:=h
    refine Lo.put [(b13,plA (lB u),275),(b12,plA (fB u),275),(b10,plA (lB t),275),(b9,plA (fB t),275),(b8,x.arr,97)] [(r1,plA (fB t),275)] (n:=8) (b:=r2) (w0:=plA noP) (w:=plA (lB u)) (e:=275) h rfl rfl (bi _) fun F17 h=> ?_
    replace h:Lo G15 F17 [(b13,plA (lB u),275),(b12,plA (fB u),275),(b10,plA (lB t),275),(b9,plA (fB t),275),(b8,x.arr,97),(r2,plA (lB u),275),(r1,plA (fB t),275)]:=h
    refine ⟨plA (fB t),rfl,h.row (b:=r1) (w:=plA (fB t)) (e:=275) (by simp),plA (lB u),rfl,h.row (b:=r2) (w:=plA (lB u)) (e:=275) (by simp),?_⟩
    refine ⟨?_,(hC.le h.le).to hR,fun y o hy hn=>h.le _ _ (hK y o hy hn)⟩
    rw [AN HA,AQ hb]
    simp only [Lt.nul,HA,hb]
    rfl
 | @alt i a b x t u na nb hx hk hxa hxb ht hu it iu=>
  intro F R hC
  obtain ⟨s,q1,hs,hsb⟩:=hC.q1
  have hlen:=hs.nlen
  have hi':=(List.getElem?_eq_some_iff.1 hx).1
  obtain ⟨ad,had,hrow⟩:=rdn hs hx
  refine xw ?_
  unfold tn
  have h:=Lo.start F
  refine h.new _ _ fun r1 F1 h=> ?_
  refine h.new _ _ fun r2 F2 h=> ?_
  rw [<- bo] at h
  refine ⟨_,rfl,s,by rw [am (h.le _ _ q1)];rfl,ad,had,by omega,by omega,x.arr,rfl,fun k hk'=>aq h.le (hrow k hk'),?_⟩
  refine h.new _ _ fun b8 F3 h=> ?_
  refine Lo.put [] [(r2,_,275),(r1,_,275)] (n:=5) (w:=x.arr) h rfl rfl (dJ x) fun F4 h=> ?_
  simp only [List.nil_append] at h
  refine ⟨x.k,by rw [h.cell (b:=b8) (w:=x.arr) (e:=97) (by simp)];rfl,?_⟩
  have hK:cf (fun x=>x=bf) F F:=cf.refl _ _
  refine ⟨fun h=>absurd h (by omega),fun _=>⟨fun h=>absurd h (by omega),fun _=>⟨fun _=> ?_,fun h=>absurd hk h⟩⟩⟩
  refine ⟨_,rfl,_,by rw [am (h.le _ _ hC.q4)];rfl,_,by rw [h.cell (b:=b8) (w:=x.arr) (e:=97) (by simp)];rfl,226,#[],_,rfl,mu,?_⟩
  rw [hxa]
  refine (h.call (it hC)).mono ?_
  rintro _ F5 ⟨G5,⟨rfl,hC',hk'⟩,h'⟩
  replace hK:=hK.trans hk'
  clear hC h hk'
  have hC:=hC'
  have h:=h'
  clear hC' h'
  refine ⟨_,_,_,rfl,?_⟩
  refine h.new _ _ fun b15 F6 h=> ?_
  replace h:Lo G5 F6 [(b15,plA noP,275),(b8,x.arr,97),(r2,plA noP,275),(r1,plA noP,275)]:=by rw [<- bo] at h;exact h
  refine h.new _ _ fun b16 F7 h=> ?_
  replace h:Lo G5 F7 [(b16,plA noP,275),(b15,plA noP,275),(b8,x.arr,97),(r2,plA noP,275),(r1,plA noP,275)]:=by rw [<- bo] at h;exact h
  refine Lo.put [(b16,plA noP,275)] [(b8,x.arr,97),(r2,plA noP,275),(r1,plA noP,275)] (n:=8) (b:=b15) (w0:=plA noP) (w:=plA (fB t)) (e:=275) h rfl rfl (bi _) fun F8 h=> ?_
  replace h:Lo G5 F8 [(b16,plA noP,275),(b15,plA (fB t),275),(b8,x.arr,97),(r2,plA noP,275),(r1,plA noP,275)]:=h
  refine Lo.put [] [(b15,plA (fB t),275),(b8,x.arr,97),(r2,plA noP,275),(r1,plA noP,275)] (n:=8) (b:=b16) (w0:=plA noP) (w:=plA (lB t)) (e:=275) h rfl rfl (bi _) fun F9 h=> ?_
  replace h:Lo G5 F9 [(b16,plA (lB t),275),(b15,plA (fB t),275),(b8,x.arr,97),(r2,plA noP,275),(r1,plA noP,275)]:=h
  refine ⟨_,by rw [am (h.le _ _ hC.q4)];rfl,_,by rw [h.cell (b:=b8) (w:=x.arr) (e:=97) (by simp)];rfl,226,#[],_,rfl,mu,?_⟩
  rw [hxb]
  refine (h.call (iu hC)).mono ?_
  rintro _ F10 ⟨G10,⟨rfl,hC',hk'⟩,h'⟩
  replace hK:=hK.trans hk'
  clear hC h hk'
  have hC:=hC'
  have h:=h'
  clear hC' h'
  refine ⟨_,_,_,rfl,?_⟩
  refine h.new _ _ fun b18 F11 h=> ?_
  replace h:Lo G10 F11 [(b18,plA noP,275),(b16,plA (lB t),275),(b15,plA (fB t),275),(b8,x.arr,97),(r2,plA noP,275),(r1,plA noP,275)]:=by rw [<- bo] at h;exact h
  refine h.new _ _ fun b19 F12 h=> ?_
  replace h:Lo G10 F12 [(b19,plA noP,275),(b18,plA noP,275),(b16,plA (lB t),275),(b15,plA (fB t),275),(b8,x.arr,97),(r2,plA noP,275),(r1,plA noP,275)]:=by rw [<- bo] at h;exact h
  refine Lo.put [(b19,plA noP,275)] [(b16,plA (lB t),275),(b15,plA (fB t),275),(b8,x.arr,97),(r2,plA noP,275),(r1,plA noP,275)] (n:=8) (b:=b18) (w0:=plA noP) (w:=plA (fB u)) (e:=275) h rfl rfl (bi _) fun F13 h=> ?_
  replace h:Lo G10 F13 [(b19,plA noP,275),(b18,plA (fB u),275),(b16,plA (lB t),275),(b15,plA (fB t),275),(b8,x.arr,97),(r2,plA noP,275),(r1,plA noP,275)]:=h
  refine Lo.put [] [(b18,plA (fB u),275),(b16,plA (lB t),275),(b15,plA (fB t),275),(b8,x.arr,97),(r2,plA noP,275),(r1,plA noP,275)] (n:=8) (b:=b19) (w0:=plA noP) (w:=plA (lB u)) (e:=275) h rfl rfl (bi _) fun F14 h=> ?_
  replace h:Lo G10 F14 [(b19,plA (lB u),275),(b18,plA (fB u),275),(b16,plA (lB t),275),(b15,plA (fB t),275),(b8,x.arr,97),(r2,plA noP,275),(r1,plA noP,275)]:=h
  refine ⟨plA (fB u),rfl,h.row (b:=b18) (w:=plA (fB u)) (e:=275) (by simp),?_⟩
  refine (Lo.join [(b19,plA (lB u),275),(b18,plA (fB u),275),(b16,plA (lB t),275)] [(b8,x.arr,97),(r2,plA noP,275),(r1,plA noP,275)] (b:=b15) (P:=fB t) (Q:=fB u) h).mono ?_
  rintro _ F15 ⟨rfl,h'⟩
  replace h:Lo G10 F15 [(b19,plA (lB u),275),(b18,plA (fB u),275),(b16,plA (lB t),275),(b15,plA (fun i=>fB t i || fB u i),275),(b8,x.arr,97),(r2,plA noP,275),(r1,plA noP,275)]:=h'
  clear h'
  refine ⟨rfl,?_⟩
  refine ⟨plA (lB u),rfl,h.row (b:=b19) (w:=plA (lB u)) (e:=275) (by simp),?_⟩
  refine (Lo.join [(b19,plA (lB u),275),(b18,plA (fB u),275)] [(b15,plA (fun i=>fB t i || fB u i),275),(b8,x.arr,97),(r2,plA noP,275),(r1,plA noP,275)] (b:=b16) (P:=lB t) (Q:=lB u) h).mono ?_
  rintro _ F16 ⟨rfl,h'⟩
  replace h:Lo G10 F16 [(b19,plA (lB u),275),(b18,plA (fB u),275),(b16,plA (fun i=>lB t i || lB u i),275),(b15,plA (fun i=>fB t i || fB u i),275),(b8,x.arr,97),(r2,plA noP,275),(r1,plA noP,275)]:=h'
  clear h'
  refine ⟨rfl,?_⟩
  have hR:∀k j,(R k j || foB t k j || foB u k j)=(R k j || foB (.alt t u) k j):=fun k j=>by rw [IW,Bool.or_assoc]
  refine ⟨plA (fun i=>fB t i || fB u i),rfl,h.row (b:=b15) (w:=plA (fun i=>fB t i || fB u i)) (e:=275) (by simp),plA (fun i=>lB t i || lB u i),rfl,h.row (b:=b16) (w:=plA (fun i=>lB t i || lB u i)) (e:=275) (by simp),fun ha=> ?_,fun ha=> ?_⟩
  ·refine Lo.put [(b19,plA (lB u),275),(b18,plA (fB u),275),(b16,plA (fun i=>lB t i || lB u i),275),(b15,plA (fun i=>fB t i || fB u i),275),(b8,x.arr,97),(r2,plA noP,275)] [] (n:=8) (b:=r1) (w0:=plA noP) (w:=plA (fun i=>fB t i || fB u i)) (e:=275) h rfl rfl (bi _) fun F17 h=> ?_
   replace h:Lo G10 F17 [(b19,plA (lB u),275),(b18,plA (fB u),275),(b16,plA (fun i=>lB t i || lB u i),275),(b15,plA (fun i=>fB t i || fB u i),275),(b8,x.arr,97),(r2,plA noP,275),(r1,plA (fun i=>fB t i || fB u i),275)]:=h
   refine Lo.put [(b19,plA (lB u),275),(b18,plA (fB u),275),(b16,plA (fun i=>lB t i || lB u i),275),(b15,plA (fun i=>fB t i || fB u i),275),(b8,x.arr,97)] [(r1,plA (fun i=>fB t i || fB u i),275)] (n:=8) (b:=r2) (w0:=plA noP) (w:=plA (fun i=>lB t i || lB u i)) (e:=275) h rfl rfl (bi _) fun F18 h=> ?_
   replace h:Lo G10 F18 [(b19,plA (lB u),275),(b18,plA (fB u),275),(b16,plA (fun i=>lB t i || lB u i),275),(b15,plA (fun i=>fB t i || fB u i),275),(b8,x.arr,97),(r2,plA (fun i=>lB t i || lB u i),275),(r1,plA (fun i=>fB t i || fB u i),275)]:=h
   refine ⟨plA (fun i=>fB t i || fB u i),rfl,h.row (b:=r1) (w:=plA (fun i=>fB t i || fB u i)) (e:=275) (by simp),plA (fun i=>lB t i || lB u i),rfl,h.row (b:=r2) (w:=plA (fun i=>lB t i || lB u i)) (e:=275) (by simp),?_⟩
   refine ⟨?_,(hC.le h.le).to hR,fun y o hy hn=>h.le _ _ (hK y o hy hn)⟩
   rw [Gn,Gp]
   simp only [Lt.nul,ha]
   rfl
  ·refine Lo.put [(b19,plA (lB u),275),(b18,plA (fB u),275),(b16,plA (fun i=>lB t i || lB u i),275),(b15,plA (fun i=>fB t i || fB u i),275),(b8,x.arr,97),(r2,plA noP,275)] [] (n:=8) (b:=r1) (w0:=plA noP) (w:=plA (fun i=>fB t i || fB u i)) (e:=275) h rfl rfl (bi _) fun F17 h=> ?_
   replace h:Lo G10 F17 [(b19,plA (lB u),275),(b18,plA (fB u),275),(b16,plA (fun i=>lB t i || lB u i),275),(b15,plA (fun i=>fB t i || fB u i),275),(b8,x.arr,97),(r2,plA noP,275),(r1,plA (fun i=>fB t i || fB u i),275)]:=h
   refine Lo.put [(b19,plA (lB u),275),(b18,plA (fB u),275),(b16,plA (fun i=>lB t i || lB u i),275),(b15,plA (fun i=>fB t i || fB u i),275),(b8,x.arr,97)] [(r1,plA (fun i=>fB t i || fB u i),275)] (n:=8) (b:=r2) (w0:=plA noP) (w:=plA (fun i=>lB t i || lB u i)) (e:=275) h rfl rfl (bi _) fun F18 h=> ?_
   replace h:Lo G10 F18 [(b19,plA (lB u),275),(b18,plA (fB u),275),(b16,plA (fun i=>lB t i || lB u i),275),(b15,plA (fun i=>fB t i || fB u i),275),(b8,x.arr,97),(r2,plA (fun i=>lB t i || lB u i),275),(r1,plA (fun i=>fB t i || fB u i),275)]:=h
   refine ⟨plA (fun i=>fB t i || fB u i),rfl,h.row (b:=r1) (w:=plA (fun i=>fB t i || fB u i)) (e:=275) (by simp),plA (fun i=>lB t i || lB u i),rfl,h.row (b:=r2) (w:=plA (fun i=>lB t i || lB u i)) (e:=275) (by simp),?_⟩
   refine ⟨?_,(hC.le h.le).to hR,fun y o hy hn=>h.le _ _ (hK y o hy hn)⟩
   rw [Gn,Gp]
   simp only [Lt.nul,ha]
   rfl
 | @rep i a x t na hx hk hxa ht it=>
  intro F R hC
  obtain ⟨s,q1,hs,hsb⟩:=hC.q1
  have hlen:=hs.nlen
  have hi':=(List.getElem?_eq_some_iff.1 hx).1
  obtain ⟨ad,had,hrow⟩:=rdn hs hx
  refine xw ?_
  unfold tn
  have h:=Lo.start F
  refine h.new _ _ fun r1 F1 h=> ?_
  refine h.new _ _ fun r2 F2 h=> ?_
  rw [<- bo] at h
  refine ⟨_,rfl,s,by rw [am (h.le _ _ q1)];rfl,ad,had,by omega,by omega,x.arr,rfl,fun k hk'=>aq h.le (hrow k hk'),?_⟩
  refine h.new _ _ fun b8 F3 h=> ?_
  refine Lo.put [] [(r2,_,275),(r1,_,275)] (n:=5) (w:=x.arr) h rfl rfl (dJ x) fun F4 h=> ?_
  simp only [List.nil_append] at h
  refine ⟨x.k,by rw [h.cell (b:=b8) (w:=x.arr) (e:=97) (by simp)];rfl,?_⟩
  have hK:cf (fun x=>x=bf) F F:=cf.refl _ _
  refine ⟨fun h=>absurd h (by omega),fun _=>⟨fun h=>absurd h (by omega),fun _=>⟨fun h=>absurd h (by omega),fun _=>⟨fun _=> ?_,fun h=>absurd hk h⟩⟩⟩⟩
  refine ⟨_,rfl,_,by rw [am (h.le _ _ hC.q4)];rfl,_,by rw [h.cell (b:=b8) (w:=x.arr) (e:=97) (by simp)];rfl,226,#[],_,rfl,mu,?_⟩
  rw [hxa]
  refine (h.call (it hC)).mono ?_
  rintro _ F5 ⟨G5,⟨rfl,hC',hk'⟩,h'⟩
  replace hK:=hK.trans hk'
  clear hC h hk'
  have hC:=hC'
  have h:=h'
  clear hC' h'
  refine ⟨_,_,_,rfl,?_⟩
  refine h.new _ _ fun b21 F6 h=> ?_
  replace h:Lo G5 F6 [(b21,plA noP,275),(b8,x.arr,97),(r2,plA noP,275),(r1,plA noP,275)]:=by rw [<- bo] at h;exact h
  refine h.new _ _ fun b22 F7 h=> ?_
  replace h:Lo G5 F7 [(b22,plA noP,275),(b21,plA noP,275),(b8,x.arr,97),(r2,plA noP,275),(r1,plA noP,275)]:=by rw [<- bo] at h;exact h
  refine Lo.put [(b22,plA noP,275)] [(b8,x.arr,97),(r2,plA noP,275),(r1,plA noP,275)] (n:=8) (b:=b21) (w0:=plA noP) (w:=plA (fB t)) (e:=275) h rfl rfl (bi _) fun F8 h=> ?_
  replace h:Lo G5 F8 [(b22,plA noP,275),(b21,plA (fB t),275),(b8,x.arr,97),(r2,plA noP,275),(r1,plA noP,275)]:=h
  refine Lo.put [] [(b21,plA (fB t),275),(b8,x.arr,97),(r2,plA noP,275),(r1,plA noP,275)] (n:=8) (b:=b22) (w0:=plA noP) (w:=plA (lB t)) (e:=275) h rfl rfl (bi _) fun F9 h=> ?_
  replace h:Lo G5 F9 [(b22,plA (lB t),275),(b21,plA (fB t),275),(b8,x.arr,97),(r2,plA noP,275),(r1,plA noP,275)]:=h
  refine ⟨_,rfl,_,by rw [am (h.le _ _ hC.q5)];rfl,plA (lB t),rfl,h.row (b:=b22) (w:=plA (lB t)) (e:=275) (by simp),plA (fB t),rfl,h.row (b:=b21) (w:=plA (fB t)) (e:=275) (by simp),222,#[],_,rfl,Gm,?_⟩
  refine (h.call (tc (P:=lB t) (Q:=fB t) hC.lnk h0 hn (fun j hj=>AR ht hj))).mono ?_
  rintro _ F10 ⟨G10,⟨rfl,hL,hk'⟩,h'⟩
  have hC':=hC.keep hk' hL
  replace hK:=hK.trans hk'
  clear hC h hk' hL
  have hC:=hC'
  have h:=h'
  clear hC' h'
  refine ⟨rfl,?_⟩
  have hR:∀k j,(R k j || foB t k j || (lB t k && fB t j))=(R k j || foB (.rep t) k j):=fun k j=>by rw [IX];simp only [Bool.or_assoc]
  refine ⟨plA (fB t),rfl,h.row (b:=b21) (w:=plA (fB t)) (e:=275) (by simp),plA (lB t),rfl,h.row (b:=b22) (w:=plA (lB t)) (e:=275) (by simp),?_⟩
  refine Lo.put [(b22,plA (lB t),275),(b21,plA (fB t),275),(b8,x.arr,97),(r2,plA noP,275)] [] (n:=8) (b:=r1) (w0:=plA noP) (w:=plA (fB t)) (e:=275) h rfl rfl (bi _) fun F11 h=> ?_
  replace h:Lo G10 F11 [(b22,plA (lB t),275),(b21,plA (fB t),275),(b8,x.arr,97),(r2,plA noP,275),(r1,plA (fB t),275)]:=h
  refine ⟨h.row (b:=b22) (w:=plA (lB t)) (e:=275) (by simp),?_⟩
  refine Lo.put [(b22,plA (lB t),275),(b21,plA (fB t),275),(b8,x.arr,97)] [(r1,plA (fB t),275)] (n:=8) (b:=r2) (w0:=plA noP) (w:=plA (lB t)) (e:=275) h rfl rfl (bi _) fun F12 h=> ?_
  replace h:Lo G10 F12 [(b22,plA (lB t),275),(b21,plA (fB t),275),(b8,x.arr,97),(r2,plA (lB t),275),(r1,plA (fB t),275)]:=h
  refine ⟨plA (fB t),rfl,h.row (b:=r1) (w:=plA (fB t)) (e:=275) (by simp),plA (lB t),rfl,h.row (b:=r2) (w:=plA (lB t)) (e:=275) (by simp),?_⟩
  refine ⟨?_,(hC.le h.le).to hR,fun y o hy hn=>h.le _ _ (hK y o hy hn)⟩
  rw [NK,NL,Lt.nul]
end
end Go.Proofs.YtenpmjhnhepfdaaGreatDoor
