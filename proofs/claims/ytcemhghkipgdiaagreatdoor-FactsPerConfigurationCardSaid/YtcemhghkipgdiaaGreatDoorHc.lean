/-
  Reads and writes of parts, by position. Printed by a program (mkHc.py).
-/
import Derived.Test.YtcemhghkipgdiaaGreatDoorQm
import Derived.Test.YtcemhghkipgdiaaGreatDoorEd
import Derived.Test.YtcemhghkipgdiaaGreatDoorFr
namespace Go.Proofs.YtcemhghkipgdiaaGreatDoor
open Go Go.Proofs.Tryz
set_option maxRecDepth 10000
theorem fresh {F:PH} {o:Obj} {K:Nat->Ψ} (k:∀b F',F.le F'->F' b=some o->F b=none->K b F'):∀b,F b=none->atF (F.set b o) (K b):=λb hb=>k b _ (ae o hb) (al _ _ _) hb
theorem ld {F:PH} {b i:Nat} {c:Γ} {e:TypeId} {fr:Nat×Nat} {v:Value} (h:F b=some (.cells c e fr)) (hv:c[i]? =some v):F.cell (Addr.mk b i none)=some v:=(am h).trans hv
theorem kD {F:PH} {b o e:Nat} {c d:Γ} {fr:Nat×Nat} (h:F b=some (.cells c e fr)) (hd:(c.toList.drop o).take d.size=d.toList):F.row (Addr.mk b o none) d:=by intro i hi;rw [aB,am h];have:=congrArg (λl=>l[i]?) hd;simp only [VN hi,List.getElem?_drop,Wu] at this;rw [this];simp [hi]
theorem dc {F:PH} {a:Addr} {c:Γ} {i:Nat} {v:Value} (h:F.row a c) (hv:c[i]? =some v):F.cell (a.add i)=some v:=by obtain ⟨hi,rfl⟩:=Array.getElem?_eq_some_iff.1 hv;exact h i hi
theorem be {F:PH} {a:Addr} {c:Γ} {v:Value} (h:F.row a c) (hv:c[0]? =some v):F.cell a=some v:=by have:=dc h hv;rwa [show a.add 0=a by unfold Addr.add;cases a;rename_i b o s;cases s<;>simp] at this
def Dj (G H:PH):Prop:=∀b,G b=none\/H b=none
theorem Dj.symm {G H:PH} (h:Dj G H):Dj H G:=λb=>(h b).symm
structure St (G F:PH) (As:List (Ψ)):Prop where
 le:G.le F
 ex:∃Hs:Nat->PH,(∀i A,As[i]? =some A->A (Hs i)/\Dj G (Hs i)/\(Hs i).le F)/\∀i j,i<As.length->j<As.length->i≠j->Dj (Hs i) (Hs j)
def pt (b:Nat) (o:Obj):Ψ:=λH=>H b=some o
def own (s:Sl) (e n:Nat) (vs:Ξ):Ψ:=λH=>cf H e n s vs
namespace St
section
variable {G F:PH} {As:List (Ψ)}
theorem start (F:PH):St F F []:=⟨aq F,λ_ _=>none,λi A h=>(by cases h),λi j h=>(by cases h)⟩
theorem get (h:St G F As) {i:Nat} {A:Ψ} (hi:As[i]? =some A):∃H,A H/\Dj G H/\H.le F:=by obtain ⟨Hs,h1,_⟩:=h.ex;exact ⟨Hs i,h1 i A hi⟩
theorem set (h:St G F As) {i:Nat} {A A':Ψ} (hi:As[i]? =some A):∃H,A H/\Dj G H/\H.le F/\∀H' F',A' H'->(∀b,H' b≠none->H b≠none\/F b=none)->H'.le F'->(∀b o,F b=some o->H b=none->F' b=some o)->St G F' (As.set i A'):=by
 obtain ⟨Hs,h1,h2⟩:=h.ex;obtain ⟨a1,a2,a3⟩:=h1 i A hi;refine ⟨Hs i,a1,a2,a3,λH' F' hA hb hl hk=> ?_⟩;have hil:i<As.length:=(N6.1 hi).1;have hfree:∀{K:PH},K.le F->Dj (Hs i) K->Dj H' K:=λ{K} hK hd b=>by
  by_cases e:H' b=none
  ·exact .inl e
  ·rcases hb b e with e|e
   ·rcases hd b with h|h
    ·exact absurd h e
    ·exact .inr h
   ·exact .inr (aT hK e)
 have hkeep:∀{K:PH},K.le F->Dj (Hs i) K->K.le F':=λ{K} hK hd b o ho=>hk b o (hK b o ho) (by
  rcases hd b with h|h
  ·exact h
  ·rw [h] at ho;cases ho)
 refine ⟨hkeep h.le a2.symm,λj=>if j=i then H' else Hs j,λj B hj=> ?_,λj k hj hk' hne=> ?_⟩
 ·dsimp only;by_cases e:j=i
  ·subst e;rw [List.getElem?_set_self hil] at hj;cases hj;rw [if_pos rfl];exact ⟨hA,(hfree h.le a2.symm).symm,hl⟩
  ·rw [List.getElem?_set_ne (Ne.symm e)] at hj;rw [if_neg e];obtain ⟨b1,b2,b3⟩:=h1 j B hj;have hjl:j<As.length:=(N6.1 hj).1;exact ⟨b1,b2,hkeep b3 (h2 i j hil hjl (Ne.symm e))⟩
 ·rw [List.length_set] at hj hk';have hle:∀{m:Nat},m<As.length->(Hs m).le F:=λ{m} hm=>(h1 m _ (N5 hm)).2.2;dsimp only;by_cases e:j=i
  ·subst e;rw [if_pos rfl,if_neg (Ne.symm hne)];exact hfree (hle hk') (h2 j k hj hk' hne)
  ·rw [if_neg e];by_cases e2:k=i
   ·subst e2;rw [if_pos rfl];exact (hfree (hle hj) (h2 k j hk' hj (Ne.symm hne))).symm
   ·rw [if_neg e2];exact h2 j k hj hk' hne
theorem push (h:St G F As) {A:Ψ} {H F':PH} (hA:A H) (hd:∀b,H b≠none->F b=none) (hl:H.le F') (hk:F.le F'):St G F' (A::As):=by
 obtain ⟨Hs,h1,h2⟩:=h.ex;have hdj:∀{K:PH},K.le F->Dj K H:=λ{K} hK b=>by
  by_cases e:H b=none
  ·exact .inr e
  ·exact .inl (aT hK (hd b e))
 refine ⟨aa h.le hk,λj=>match j with|0=>H|j+1=>Hs j,λj B hj=> ?_,λj k hj hk' hne=> ?_⟩
 ·cases j with
  |zero=>cases hj;exact ⟨hA,hdj h.le,hl⟩
  |succ j=>obtain ⟨b1,b2,b3⟩:=h1 j B (by simpa using hj);exact ⟨b1,b2,aa b3 hk⟩
 ·have hle:∀{m:Nat},m<As.length->(Hs m).le F:=λ{m} hm=>(h1 m _ (N5 hm)).2.2;cases j with
  |zero=>
   cases k with
   |zero=>exact absurd rfl hne
   |succ k=>exact (hdj (hle (by simpa using hk'))).symm
  |succ j=>
   cases k with
   |zero=>exact hdj (hle (by simpa using hj))
   |succ k=>exact h2 j k (by simpa using hj) (by simpa using hk') (by omega)
theorem tail {A:Ψ} (h:St G F (A::As)):St G F As:=by obtain ⟨Hs,h1,h2⟩:=h.ex;exact ⟨h.le,λj=>Hs (j+1),λj B hj=>h1 (j+1) B (by simpa using hj),λj k hj hk hne=>h2 (j+1) (k+1) (by simpa using hj) (by simpa using hk) (by omega)⟩
theorem pin {A:Ψ} (h:St G F (A::As)):∃G',G.le G'/\(∃H,A H/\H.le G')/\St G' F As:=by
 obtain ⟨Hs,h1,h2⟩:=h.ex;obtain ⟨a1,a2,a3⟩:=h1 0 A rfl;have hle:(Hs 0).le (G.and (Hs 0)):=λb o hb=>by
  rcases a2 b with e|e
  ·rw [PH.and_right e];exact hb
  ·rw [e] at hb;cases hb
 refine ⟨G.and (Hs 0),λb o hb=>PH.and_left hb,⟨Hs 0,a1,hle⟩,λb o hb=> ?_,λj=>Hs (j+1),λj B hj=> ?_,λj k hj hk hne=>h2 (j+1) (k+1) (by simpa using hj) (by simpa using hk) (by omega)⟩
 ·cases e:G b with
  |some o'=>rw [PH.and_left e] at hb;rw [<- hb];exact h.le _ _ e
  |none=>rw [PH.and_right e] at hb;exact a3 _ _ hb
 ·obtain ⟨b1,b2,b3⟩:=h1 (j+1) B (by simpa using hj);refine ⟨b1,λb=> ?_,b3⟩;rcases b2 b with e|e
  ·have hl:j+1<(A::As).length:=by have:=(N6.1 hj).1;simpa using this
   rcases h2 0 (j+1) (by simp) hl (by omega) b with e2|e2
   ·exact .inl ((PH.and_right e).trans e2)
   ·exact .inr e2
  ·exact .inr e
theorem pinb {b:Nat} {o:Obj} (h:St G F (pt b o::As)) {K:Ψ} (k:∀G',G.le G'->G' b=some o->St G' F As->K F):K F:=by obtain ⟨G',h1,⟨H,hA,hH⟩,h2⟩:=h.pin;exact k G' h1 (hH _ _ hA) h2
theorem swap {A B:Ψ} (h:St G F (A::B::As)):St G F (B::A::As):=by
 obtain ⟨Hs,h1,h2⟩:=h.ex;refine ⟨h.le,λj=>match j with|0=>Hs 1|1=>Hs 0|j+2=>Hs (j+2),λj C hj=> ?_,λj k hj hk hne=> ?_⟩
 ·match j with
  |0=>exact h1 1 C hj
  |1=>exact h1 0 C hj
  |j+2=>exact h1 (j+2) C hj
 ·match j,k with
  |0,0=>exact absurd rfl hne
  |1,1=>exact absurd rfl hne
  |0,1=>exact h2 1 0 (by simp) (by simp) (by omega)
  |1,0=>exact h2 0 1 (by simp) (by simp) (by omega)
  |0,k+2=>exact h2 1 (k+2) (by simp) hk (by omega)
  |1,k+2=>exact h2 0 (k+2) (by simp) hk (by omega)
  |j+2,0=>exact h2 (j+2) 1 hj (by simp) (by omega)
  |j+2,1=>exact h2 (j+2) 0 hj (by simp) (by omega)
  |j+2,k+2=>exact h2 (j+2) (k+2) hj hk hne
theorem pick (h:St G F As) (f:Nat->Nat) {Bs:List (Ψ)} (hf:∀i j,i<Bs.length->j<Bs.length->f i=f j->i=j) (hb:∀i,i<Bs.length->As[f i]? =Bs[i]?):St G F Bs:=by
 obtain ⟨Hs,h1,h2⟩:=h.ex;have hl:∀i,i<Bs.length->f i<As.length:=λi hi=>by have:=hb i hi;rw [N5 hi] at this;exact (N6.1 this).1
 refine ⟨h.le,λi=>Hs (f i),λi B hi=> ?_,λi j hi hj hne=>h2 _ _ (hl i hi) (hl j hj) λe=>hne (hf i j hi hj e)⟩;have hi':i<Bs.length:=(N6.1 hi).1;exact h1 (f i) B ((hb i hi').trans hi)
theorem call {f:FuncId} {args:Γ} {P:Value->Ψ} (h:St G F As) (s:ai prog f args G P):ai prog f args F λr F'=>∃G',P r G'/\St G' F' As:=by
 refine (s.upon h.le).mono λr F' ⟨G',hp,hl,hk⟩=>⟨G',hp,hl,?_⟩;obtain ⟨Hs,h1,h2⟩:=h.ex;refine ⟨Hs,λi A hi=> ?_,h2⟩;obtain ⟨a1,a2,a3⟩:=h1 i A hi;have key:∀b o,Hs i b=some o->F' b=some o/\G' b=none:=λb o hb=>by
  rcases a2 b with e|e
  ·exact hk b o e (a3 b o hb)
  ·rw [e] at hb;cases hb
 refine ⟨a1,λb=> ?_,λb o hb=>(key b o hb).1⟩;cases e:Hs i b with
 |none=>exact .inr rfl
 |some o=>exact .inl (key b o e).2
theorem run {f:FuncId} {args:Γ} {P:Value->Ψ} {Q:Value->Ψ} (h:St G F As) (s:ai prog f args G λr G'=>P r G'/\G.le G') (k:∀r G' F',P r G'->G.le G'->St G' F' As->Q r F'):ai prog f args F Q:=
 (h.call s).mono λr F' ⟨G',⟨h1,h2⟩,h3⟩=>k r G' F' h1 h2 h3
theorem runv {f:FuncId} {args:Γ} {v:Value} {Q:Value->Ψ} (h:St G F As) (s:ai prog f args G λr G'=>r=v/\G.le G') (k:∀G' F',G.le G'->St G' F' As->Q v F'):ai prog f args F Q:=
 (h.call s).mono λr F' ⟨G',⟨h1,h2⟩,h3⟩=>by rw [h1];exact k G' F' h2 h3
def uni (G:PH) (Hs:Nat->PH):Nat->PH
 |0=>G
 |n+1=>(uni G Hs n).and (Hs n)
theorem qC {G:PH} {Hs:Nat->PH} {b:Nat}:∀{n:Nat},uni G Hs n b=none↔G b=none/\∀i,i<n->Hs i b=none
 |0=>⟨λh=>⟨h,λi hi=>by omega⟩,λh=>h.1⟩
 |n+1=>by
  have ih:=qC (G:=G) (Hs:=Hs) (b:=b) (n:=n);constructor
  ·intro h;have h0:uni G Hs n b=none:=by
    cases e:uni G Hs n b with
    |none=>rfl
    |some o=>rw [uni,PH.and_left e] at h;cases h
   rw [uni,PH.and_right h0] at h;refine ⟨(ih.1 h0).1,λi hi=> ?_⟩;by_cases e:i=n
   ·rw [e];exact h
   ·exact (ih.1 h0).2 i (by omega)
  ·intro h;have h0:=ih.2 ⟨h.1,λi hi=>h.2 i (by omega)⟩;rw [uni,PH.and_right h0];exact h.2 n (by omega)
theorem DX {G K:PH} {Hs:Nat->PH} (hG:G.le K):∀{n:Nat},(∀i,i<n->(Hs i).le K)->(uni G Hs n).le K
 |0,_=>hG
 |n+1,h=>λb o hb=>by
  have ih:=DX hG (n:=n) λi hi=>h i (by omega);cases e:uni G Hs n b with
  |none=>rw [uni,PH.and_right e] at hb;exact h n (by omega) b o hb
  |some o'=>rw [uni,PH.and_left e] at hb;rw [<- hb];exact ih b _ e
theorem DY {G:PH} {Hs:Nat->PH}:∀{n:Nat},G.le (uni G Hs n)
 |0=>aq _
 |n+1=>λb o hb=>PH.and_left (DY (n:=n) b o hb)
theorem xd {G:PH} {Hs:Nat->PH}:∀{n:Nat} {i:Nat},i<n->(∀i,i<n->Dj G (Hs i))->(∀i j,i<n->j<n->i≠j->Dj (Hs i) (Hs j))->(Hs i).le (uni G Hs n)
 |0,i,h,_,_=>by omega
 |n+1,i,hi,hd,hp=>λb o hb=>by
  by_cases e:i=n
  ·subst e;have h0:uni G Hs i b=none:=by
    refine qC.2 ⟨?_,λj hj=> ?_⟩
    ·rcases hd i (by omega) b with e|e
     ·exact e
     ·rw [e] at hb;cases hb
    ·rcases hp j i (by omega) (by omega) (by omega) b with e|e
     ·exact e
     ·rw [e] at hb;cases hb
   rw [uni,PH.and_right h0];exact hb
  ·exact PH.and_left (xd (n:=n) (i:=i) (by omega) (λj hj=>hd j (by omega)) (λj k hj hk=>hp j k (by omega) (by omega)) b o hb)
theorem callL {f:FuncId} {args:Γ} {Bs Cs:List (Ψ)} {Bs':Value->PH->List (Ψ)} {P:Value->Ψ} (h:St G F (Bs++Cs))
  (s:∀F1,St G F1 Bs->ai prog f args F1 λr F'=>∃G',P r G'/\G.le G'/\St G' F' (Bs' r G')):
  ai prog f args F λr F'=>∃G',P r G'/\G.le G'/\St G' F' (Bs' r G'++Cs):=by
 obtain ⟨Hs,h1,h2⟩:=h.ex;have hlen:(Bs++Cs).length=Bs.length+Cs.length:=UV;have g1:∀i,i<Bs.length+Cs.length->Dj G (Hs i)/\(Hs i).le F:=λi hi=>(h1 i _ (N5 (by omega))).2;rw [hlen] at h2;have hU:(uni G Hs Bs.length).le F:=DX h.le λi hi=>(g1 i (by omega)).2;have hst:St G (uni G Hs Bs.length) Bs:=by refine ⟨DY,Hs,λi A hi=> ?_,λi j hi hj=>h2 i j (by omega) (by omega)⟩;have hi':i<Bs.length:=(N6.1 hi).1;obtain ⟨a1,a2,_⟩:=h1 i A (by rw [U9 hi'];exact hi);exact ⟨a1,a2,xd hi' (λj hj=>(g1 j (by omega)).1) (λj k hj hk=>h2 j k (by omega) (by omega))⟩
 refine ((s _ hst).upon hU).mono ?_;rintro r F' ⟨F1,⟨G',hp,hg,hst'⟩,hl,hk⟩;refine ⟨G',hp,hg,aa hst'.le hl,?_⟩;obtain ⟨Ks,k1,k2⟩:=hst'.ex;have key:∀i,i<Cs.length->∀b o,Hs (Bs.length+i) b=some o->F' b=some o/\F1 b=none:=λi hi b o hb=>by
  refine hk b o (qC.2 ⟨?_,λj hj=> ?_⟩) ((g1 (Bs.length+i) (by omega)).2 b o hb)
  ·rcases (g1 (Bs.length+i) (by omega)).1 b with e|e
   ·exact e
   ·rw [e] at hb;cases hb
  ·rcases h2 j (Bs.length+i) (by omega) (by omega) (by omega) b with e|e
   ·exact e
   ·rw [e] at hb;cases hb
 have dj:∀i,i<Cs.length->∀{K:PH},K.le F1->Dj K (Hs (Bs.length+i)):=λi hi {K} hK b=>by
  cases e:Hs (Bs.length+i) b with
  |none=>exact .inr rfl
  |some o=>exact .inl (aT hK (key i hi b o e).2)
 refine ⟨λj=>if j<(Bs' r G').length then Ks j else Hs (Bs.length+(j - (Bs' r G').length)),λj A hj=> ?_,λj k hj hk' hne=> ?_⟩
 ·dsimp only;by_cases e:j<(Bs' r G').length
  ·rw [if_pos e];rw [U9 e] at hj;obtain ⟨b1,b2,b3⟩:=k1 j A hj;exact ⟨b1,b2,aa b3 hl⟩
  ·rw [if_neg e];rw [Vn (by omega)] at hj;have hjc:j - (Bs' r G').length<Cs.length:=(N6.1 hj).1;refine ⟨(h1 (Bs.length+(j - (Bs' r G').length)) A ?_).1,dj _ hjc hst'.le,λb o hb=>(key _ hjc b o hb).1⟩;rw [Vn (by omega),show Bs.length+(j - (Bs' r G').length) - Bs.length=j - (Bs' r G').length by omega];exact hj
 ·rw [UV] at hj hk';have hle:∀m,m<(Bs' r G').length->(Ks m).le F1:=λm hm=>(k1 m _ (N5 hm)).2.2;dsimp only;by_cases e:j<(Bs' r G').length
  ·rw [if_pos e];by_cases e2:k<(Bs' r G').length
   ·rw [if_pos e2];exact k2 j k e e2 hne
   ·rw [if_neg e2];exact dj _ (by omega) (hle j e)
  ·rw [if_neg e];by_cases e2:k<(Bs' r G').length
   ·rw [if_pos e2];exact (dj _ (by omega) (hle k e2)).symm
   ·rw [if_neg e2];exact h2 _ _ (by omega) (by omega) (by omega)
theorem new (h:St G F As) {o:Obj} {K:Nat->Ψ} (k:∀b F',St G F' (pt b o::As)->K b F'):∀b,F b=none->atF (F.set b o) (K b):=λb hb=>by
 refine atI (k b _ (h.push (H:=PH.set (λ_=>none) b o) (al _ _ _) (λx hx=> ?_) (λx p hx=> ?_) (ae o hb)))
 ·by_cases e:x=b
  ·rw [e];exact hb
  ·rw [av _ _ e] at hx;exact absurd rfl hx
 ·by_cases e:x=b
  ·rw [e,al] at hx ⊢;exact hx
  ·rw [av _ _ e] at hx;cases hx
theorem newG (h:St G F As) {o:Obj} {K:Nat->Ψ} (k:∀b G' F',G.le G'->G' b=some o->G b=none->St G' F' As->K b F'):∀b,F b=none->atF (F.set b o) (K b):=λb hb=>by
 refine h.new (K:=K) (λb' F' h'=> ?_) b hb;have hgb:G b'=none:=by
  obtain ⟨H,a1,a2,_⟩:=h'.get (i:=0) rfl;rcases a2 b' with e|e
  ·exact e
  ·rw [a1] at e;cases e
 exact h'.pinb λG' h1 h2 h3=>k b' G' F' h1 h2 hgb h3
theorem ptAt (h:St G F As) {i b:Nat} {o:Obj} (hi:As[i]? =some (pt b o)):F b=some o:=by obtain ⟨H,a1,_,a3⟩:=h.get hi;exact a3 _ _ a1
theorem putAt (h:St G F As) (i:Nat) {b:Nat} {o:Obj} (o':Obj) (hi:As[i]? =some (pt b o)):St G (F.set b o') (As.set i (pt b o')):=by
 obtain ⟨H,a1,a2,a3,a4⟩:=h.set (A':=pt b o') hi;refine a4 (H.set b o') _ (al _ _ _) (λx hx=> ?_) (λx p hx=> ?_) (λx p hx hn=> ?_)
 ·by_cases e:x=b
  ·rw [e,a1];exact .inl (by simp)
  ·rw [av _ _ e] at hx;exact .inl hx
 ·by_cases e:x=b
  ·rw [e,al] at hx ⊢;exact hx
  ·rw [av _ _ e] at hx ⊢;exact a3 _ _ hx
 ·have e:x≠b:=λe=>by rw [e,a1] at hn;cases hn
  rw [av _ _ e];exact hx
theorem ownAt (h:St G F As) {i:Nat} {s:Sl} {e n:Nat} {vs:Ξ} (hi:As[i]? =some (own s e n vs)):cf F e n s vs/\∀a,s.base=some a->G a.block=none:=by
 obtain ⟨H,a1,a2,a3⟩:=h.get hi;refine ⟨cf.upto a1 a3,λa ha=> ?_⟩;obtain ⟨cur,hc⟩:=cf.elem a1 ha;rcases a2 a.block with e|e
 ·exact e
 ·rw [hc] at e;cases e
theorem nilOwn (h:St G F As) (e n:Nat):St G F (own Sl.nil e n []::As):=h.push (H:=λ_=>none) (.inl ⟨rfl,rfl⟩) (λb hb=>absurd rfl hb) (λb o hb=>(by cases hb)) (aq F)
end
end St
theorem aI {k n:Nat} (h:k<n) (hn:n<=9223372036854775807):IntKind.i64.wrap ((k:Int)+1)=((k+1:Nat):Int):=by rw [aS (by omega) (by omega)];omega
theorem bz {F:PH} (L:(Ω)->Ω) (n:Nat) (Inv:Nat->Ψ) (h0:Inv 0 F)
  (step:∀(k:Nat) (F:PH) (N:Ω),k<=n->Inv k F->(∀F',k<n->Inv (k+1) F'->N ((k+1:Nat):Int) F')->L N (k:Int) F):
  ∃(I:Nat->Ω) (m:Nat),I m (0:Int) F/\∀m v F,I m v F->L (λy F=>∃m',m'<m/\I m' y F) v F:=by
 refine ⟨λm i F'=>∃k:Nat,i=k/\k<=n/\m=n - k/\Inv k F',n,⟨0,rfl,by omega,rfl,h0⟩,?_⟩;rintro m i F' ⟨k,rfl,hk,rfl,hi⟩;exact step k F' _ hk hi λF'' hlt hi'=>⟨n - (k+1),by omega,k+1,rfl,by omega,rfl,hi'⟩
namespace St
section
variable {G F:PH} {As:List (Ψ)} {b:Nat} {w:Γ} {e:TypeId}
theorem ld0 (h:St G F (pt b (.cells w e)::As)) {i:Nat} {v:Value} (hv:w[i]? =some v):F.cell (Addr.mk b i none)=some v:=ld (h.ptAt (i:=0) rfl) hv
theorem row0 (h:St G F (pt b (.cells w e)::As)) {o:Nat} {d:Γ} (hd:(w.toList.drop o).take d.size=d.toList):F.row (Addr.mk b o none) d:=kD (h.ptAt (i:=0) rfl) hd
theorem whole0 (h:St G F (pt b (.cells w e)::As)):F.row (Addr.mk b 0 none) w:=ac (h.ptAt (i:=0) rfl)
theorem put0 (h:St G F (pt b (.cells w e)::As)) {n:Nat} {w':Γ} (h1:w'.size=n) (h2:w.size=n) (hst:∀v∈w'.toList,ak v) {K:Ψ} (kk:∀F',St G F' (pt b (.cells w' e)::As)->K F'):
  au F (Addr.mk b 0 none) n w' K:=stW (h.ptAt (i:=0) rfl) h1 h2 hst (kk _ (h.putAt 0 _ rfl))
theorem set0 (h:St G F (pt b (.cells w e)::As)) {i:Nat} {v:Value} {w':Γ} (hi:i<w.size) (hw:w.setIfInBounds i v=w') {K:Ψ} (kk:∀F',St G F' (pt b (.cells w' e)::As)->K F'):
  sto F (Addr.mk b i none) v K:=st1 (h.ptAt (i:=0) rfl) hi (by subst hw;exact kk _ (h.putAt 0 _ rfl))
theorem putR0 (h:St G F (pt b (.cells w e)::As)) {o n:Nat} {v w':Γ} (h1:v.size=n) (hst:∀x∈v.toList,ak x) (hs:o+n<=w.size) (hw:wr w o v.toList=w') {K:Ψ} (kk:∀F',St G F' (pt b (.cells w' e)::As)->K F'):
  au F (Addr.mk b o none) n v K:=⟨h1,hst,w,e,h.ptAt (i:=0) rfl,rfl,hs,atI (by subst hw;exact kk _ (h.putAt 0 _ rfl))⟩
theorem ld1 {p0:Ψ} (h:St G F (p0::pt b (.cells w e)::As)) {i:Nat} {v:Value} (hv:w[i]? =some v):F.cell (Addr.mk b i none)=some v:=ld (h.ptAt (i:=1) rfl) hv
theorem whole1 {p0:Ψ} (h:St G F (p0::pt b (.cells w e)::As)):F.row (Addr.mk b 0 none) w:=ac (h.ptAt (i:=1) rfl)
theorem put1 {p0:Ψ} (h:St G F (p0::pt b (.cells w e)::As)) {n:Nat} {w':Γ} (h1:w'.size=n) (h2:w.size=n) (hst:∀v∈w'.toList,ak v) {K:Ψ} (kk:∀F',St G F' (p0::pt b (.cells w' e)::As)->K F'):
  au F (Addr.mk b 0 none) n w' K:=stW (h.ptAt (i:=1) rfl) h1 h2 hst (kk _ (h.putAt 1 _ rfl))
theorem set1 {p0:Ψ} (h:St G F (p0::pt b (.cells w e)::As)) {i:Nat} {v:Value} {w':Γ} (hi:i<w.size) (hw:w.setIfInBounds i v=w') {K:Ψ} (kk:∀F',St G F' (p0::pt b (.cells w' e)::As)->K F'):
  sto F (Addr.mk b i none) v K:=st1 (h.ptAt (i:=1) rfl) hi (by subst hw;exact kk _ (h.putAt 1 _ rfl))
theorem putR1 {p0:Ψ} (h:St G F (p0::pt b (.cells w e)::As)) {o n:Nat} {v w':Γ} (h1:v.size=n) (hst:∀x∈v.toList,ak x) (hs:o+n<=w.size) (hw:wr w o v.toList=w') {K:Ψ} (kk:∀F',St G F' (p0::pt b (.cells w' e)::As)->K F'):
  au F (Addr.mk b o none) n v K:=⟨h1,hst,w,e,h.ptAt (i:=1) rfl,rfl,hs,atI (by subst hw;exact kk _ (h.putAt 1 _ rfl))⟩
theorem front1 {p0:Ψ} {A:Ψ} (h:St G F (p0::A::As)):St G F (A::p0::As):=by
 refine h.pick (λi=>if i=0 then 1 else if i<=1 then i - 1 else i) (λi j _ _ e=> ?_) (λi _=> ?_)
 ·repeat' split at e
  all_goals omega
 ·match i with
  |0=>rfl
  |1=>rfl
  |i+2=>rfl
theorem ld2 {p0 p1:Ψ} (h:St G F (p0::p1::pt b (.cells w e)::As)) {i:Nat} {v:Value} (hv:w[i]? =some v):F.cell (Addr.mk b i none)=some v:=ld (h.ptAt (i:=2) rfl) hv
theorem whole2 {p0 p1:Ψ} (h:St G F (p0::p1::pt b (.cells w e)::As)):F.row (Addr.mk b 0 none) w:=ac (h.ptAt (i:=2) rfl)
theorem put2 {p0 p1:Ψ} (h:St G F (p0::p1::pt b (.cells w e)::As)) {n:Nat} {w':Γ} (h1:w'.size=n) (h2:w.size=n) (hst:∀v∈w'.toList,ak v) {K:Ψ} (kk:∀F',St G F' (p0::p1::pt b (.cells w' e)::As)->K F'):
  au F (Addr.mk b 0 none) n w' K:=stW (h.ptAt (i:=2) rfl) h1 h2 hst (kk _ (h.putAt 2 _ rfl))
theorem set2 {p0 p1:Ψ} (h:St G F (p0::p1::pt b (.cells w e)::As)) {i:Nat} {v:Value} {w':Γ} (hi:i<w.size) (hw:w.setIfInBounds i v=w') {K:Ψ} (kk:∀F',St G F' (p0::p1::pt b (.cells w' e)::As)->K F'):
  sto F (Addr.mk b i none) v K:=st1 (h.ptAt (i:=2) rfl) hi (by subst hw;exact kk _ (h.putAt 2 _ rfl))
theorem front2 {p0 p1:Ψ} {A:Ψ} (h:St G F (p0::p1::A::As)):St G F (A::p0::p1::As):=by
 refine h.pick (λi=>if i=0 then 2 else if i<=2 then i - 1 else i) (λi j _ _ e=> ?_) (λi _=> ?_)
 ·repeat' split at e
  all_goals omega
 ·match i with
  |0=>rfl
  |1=>rfl
  |2=>rfl
  |i+3=>rfl
theorem back2 {p0 p1:Ψ} {A:Ψ} (h:St G F (A::p0::p1::As)):St G F (p0::p1::A::As):=by
 refine h.pick (λi=>if i=2 then 0 else if i<2 then i+1 else i) (λi j _ _ e=> ?_) (λi _=> ?_)
 ·repeat' split at e
  all_goals omega
 ·match i with
  |0=>rfl
  |1=>rfl
  |2=>rfl
  |i+3=>show (A::p0::p1::As)[if i+3=2 then 0 else if i+3<2 then i+3+1 else i+3]? =_;rw [if_neg (by omega),if_neg (by omega)];rfl
theorem ld3 {p0 p1 p2:Ψ} (h:St G F (p0::p1::p2::pt b (.cells w e)::As)) {i:Nat} {v:Value} (hv:w[i]? =some v):F.cell (Addr.mk b i none)=some v:=ld (h.ptAt (i:=3) rfl) hv
theorem front3 {p0 p1 p2:Ψ} {A:Ψ} (h:St G F (p0::p1::p2::A::As)):St G F (A::p0::p1::p2::As):=by
 refine h.pick (λi=>if i=0 then 3 else if i<=3 then i - 1 else i) (λi j _ _ e=> ?_) (λi _=> ?_)
 ·repeat' split at e
  all_goals omega
 ·match i with
  |0=>rfl
  |1=>rfl
  |2=>rfl
  |3=>rfl
  |i+4=>rfl
theorem back3 {p0 p1 p2:Ψ} {A:Ψ} (h:St G F (A::p0::p1::p2::As)):St G F (p0::p1::p2::A::As):=by
 refine h.pick (λi=>if i=3 then 0 else if i<3 then i+1 else i) (λi j _ _ e=> ?_) (λi _=> ?_)
 ·repeat' split at e
  all_goals omega
 ·match i with
  |0=>rfl
  |1=>rfl
  |2=>rfl
  |3=>rfl
  |i+4=>show (A::p0::p1::p2::As)[if i+4=3 then 0 else if i+4<3 then i+4+1 else i+4]? =_;rw [if_neg (by omega),if_neg (by omega)];rfl
theorem ld4 {p0 p1 p2 p3:Ψ} (h:St G F (p0::p1::p2::p3::pt b (.cells w e)::As)) {i:Nat} {v:Value} (hv:w[i]? =some v):F.cell (Addr.mk b i none)=some v:=ld (h.ptAt (i:=4) rfl) hv
theorem whole4 {p0 p1 p2 p3:Ψ} (h:St G F (p0::p1::p2::p3::pt b (.cells w e)::As)):F.row (Addr.mk b 0 none) w:=ac (h.ptAt (i:=4) rfl)
theorem put4 {p0 p1 p2 p3:Ψ} (h:St G F (p0::p1::p2::p3::pt b (.cells w e)::As)) {n:Nat} {w':Γ} (h1:w'.size=n) (h2:w.size=n) (hst:∀v∈w'.toList,ak v) {K:Ψ} (kk:∀F',St G F' (p0::p1::p2::p3::pt b (.cells w' e)::As)->K F'):
  au F (Addr.mk b 0 none) n w' K:=stW (h.ptAt (i:=4) rfl) h1 h2 hst (kk _ (h.putAt 4 _ rfl))
theorem front4 {p0 p1 p2 p3:Ψ} {A:Ψ} (h:St G F (p0::p1::p2::p3::A::As)):St G F (A::p0::p1::p2::p3::As):=by
 refine h.pick (λi=>if i=0 then 4 else if i<=4 then i - 1 else i) (λi j _ _ e=> ?_) (λi _=> ?_)
 ·repeat' split at e
  all_goals omega
 ·match i with
  |0=>rfl
  |1=>rfl
  |2=>rfl
  |3=>rfl
  |4=>rfl
  |i+5=>rfl
theorem back4 {p0 p1 p2 p3:Ψ} {A:Ψ} (h:St G F (A::p0::p1::p2::p3::As)):St G F (p0::p1::p2::p3::A::As):=by
 refine h.pick (λi=>if i=4 then 0 else if i<4 then i+1 else i) (λi j _ _ e=> ?_) (λi _=> ?_)
 ·repeat' split at e
  all_goals omega
 ·match i with
  |0=>rfl
  |1=>rfl
  |2=>rfl
  |3=>rfl
  |4=>rfl
  |i+5=>show (A::p0::p1::p2::p3::As)[if i+5=4 then 0 else if i+5<4 then i+5+1 else i+5]? =_;rw [if_neg (by omega),if_neg (by omega)];rfl
end
end St
end Go.Proofs.YtcemhghkipgdiaaGreatDoor
