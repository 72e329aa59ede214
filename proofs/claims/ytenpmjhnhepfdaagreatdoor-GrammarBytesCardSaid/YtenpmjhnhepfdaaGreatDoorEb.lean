/-
  The keys of the program's maps: numbers, branches, pairs and triples of numbers; equality of branches.
-/
import Derived.Test.YtenpmjhnhepfdaaGreatDoorQv
import Derived.Test.YtenpmjhnhepfdaaGreatDoorGpattern
import Derived.Test.YtenpmjhnhepfdaaGreatDoorEa
namespace Go.Proofs.YtenpmjhnhepfdaaGreatDoor
open Go Go.Proofs.Tryz
set_option maxRecDepth 10000
def Nx (acc fol:Nat→Nat→Prop):(Nat→Prop)→List Nat→Nat→Prop
 |S,[],j=>S j
 |S,b::w,j=>Nx acc fol (fun j=>∃i,S i∧acc i b∧fol i j) w j
section
variable {acc fol:Nat→Nat→Prop} {e:Nat→Prop}
theorem lM:∀(w u:List Nat) (S:Nat→Prop) (j:Nat),Nx acc fol S (w++u) j↔Nx acc fol (Nx acc fol S w) u j
 |[],u,S,j=>Iff.rfl
 |b::w,u,S,j=>lM w u _ j
theorem xZ (w:List Nat) (b:Nat) (S:Nat→Prop) (j:Nat):Nx acc fol S (w++[b]) j↔∃i,Nx acc fol S w i∧acc i b∧fol i j:=by rw [lM];rfl
theorem x6:∀(w:List Nat) (S:Nat→Prop),(∀j,¬S j)→∀j,¬Nx acc fol S w j
 |[],S,h,j=>h j
 |b::w,S,h,j=>x6 w _ (fun j ⟨i,hi,_⟩=>h i hi) j
theorem CG:∀(w:List Nat) (b:Nat) (S:Nat→Prop),(∃i,S i∧Pth acc fol e i (w++[b]))↔∃j,Nx acc fol S w j∧acc j b∧e j
 |[],b,S=>by
  constructor
  ·rintro ⟨i,h1,h2,⟨_,h3⟩|⟨j,_,h3⟩⟩
   ·exact ⟨i,h1,h2,h3⟩
   ·exact h3.elim
  ·rintro ⟨i,h1,h2,h3⟩
   exact ⟨i,h1,h2,.inl ⟨rfl,h3⟩⟩
 |c::w,b,S=>by
  have ih:=CG w b (fun j=>∃i,S i∧acc i c∧fol i j)
  show _↔∃j,Nx acc fol (fun j=>∃i,S i∧acc i c∧fol i j) w j∧acc j b∧e j
  rw [← ih]
  constructor
  ·rintro ⟨i,h1,h2,⟨h3,_⟩|⟨j,h3,h4⟩⟩
   ·exact absurd h3 (by simp)
   ·exact ⟨j,⟨i,h1,h2,h3⟩,h4⟩
  ·rintro ⟨j,⟨i,h1,h2,h3⟩,h4⟩
   exact ⟨i,h1,h2,.inr ⟨j,h3,h4⟩⟩
end
def kj (l:List Nd) (i b:Nat):Prop:=∃x,l[i]? =some x∧x.lo≤(b:Int)∧(b:Int)≤x.hi
theorem Aj {l:List Nd} (hG:GoodL l) {i:Nat} {t:Lt} {ns:List Nat} (h:cd l i t ns):t.fits (kj l):=by
 induction h with
 |emp=>trivial
 | @rng i lo hi x hx hk hlo hhi hle h255=>
  intro b
  constructor
  ·rintro ⟨y,hy,h1,h2⟩
   rw [hx] at hy
   cases hy
   omega
  ·rintro ⟨h1,h2⟩
   exact ⟨x,hx,by omega,by omega⟩
 | @seq i a b x t u na nb hx hk hxa hxb ht hu it iu=>
  exact ⟨it,iu,fun j h1 h2=>Gw hG hx (.inl hk) hxa hxb (nc ht j ((df ht).2 j h1)) (nc hu j ((df hu).2 j h2))⟩
 | @alt i a b x t u na nb hx hk hxa hxb ht hu it iu=>
  exact ⟨it,iu,fun j h1 h2=>Gw hG hx (.inr hk) hxa hxb (nc ht j ((df ht).2 j h1)) (nc hu j ((df hu).2 j h2))⟩
 |rep _ _ _ _ it=>exact it
abbrev km (l:List Nd) (t:Lt) (w:List Nat):Nat→Prop:=Nx (kj l) t.fol t.first w
theorem x7 {l:List Nd} {t:Lt} (hf:t.fits (kj l)) (w:List Nat) (b:Nat):Lg t.pat (w++[b])↔∃j,km l t w j∧kj l j b∧t.last j:=by
 rw [t.places hf _ (by simp)]
 exact CG w b t.first
theorem iO {ws:List Nat} {n:Nat} (h:n<ws.length):ws.take (n+1)=ws.take n++[ws[n]]:=by rw [List.take_add_one,List.getElem?_eq_getElem h];rfl
theorem CH {l:List Nd} {t:Lt} (hf:t.fits (kj l)) {ws:List Nat} {n:Nat} (h:n<ws.length) (he:∀j,¬(km l t (ws.take n) j∧kj l j ws[n])) {m:Nat} (hm:n<m) (hml:m≤ws.length):¬Lg t.pat (ws.take m):=by
 obtain ⟨m,rfl⟩:∃m',m=m'+1:=⟨m - 1,by omega⟩
 have hm':m<ws.length:=by omega
 rw [iO hm',x7 hf]
 rintro ⟨j,h1,h2,_⟩
 by_cases e:m=n
 ·subst e
  exact he j ⟨h1,h2⟩
 ·have h0:∀j,¬km l t (ws.take (n+1)) j:=fun j hj=>by
   rw [iO h] at hj
   obtain ⟨i,a,b,_⟩:=(xZ _ _ _ _).1 hj
   exact he i ⟨a,b⟩
  have:ws.take m=ws.take (n+1)++(ws.take m).drop (n+1):=by
   have:=List.take_append_drop (n+1) (ws.take m)
   rw [List.take_take,show min (n+1) m=n+1 by omega] at this
   exact this.symm
  rw [this] at h1
  have h1':=(lM _ _ _ _).1 h1
  exact x6 _ _ h0 j h1'
open Classical in
noncomputable def mE (l:List Nd) (t:Lt) (w:List Nat):Nat→Bool:=fun j=>decide (km l t w j)
open Classical in
noncomputable def sS (l:List Nd) (b:Nat):Nat→Bool:=fun i=>decide (kj l i b)
theorem ko {l:List Nd} {t:Lt} {w:List Nat} {j:Nat}:mE l t w j=true↔km l t w j:=by simp [mE]
theorem kp {l:List Nd} {b i:Nat}:sS l b i=true↔kj l i b:=by simp [sS]
theorem LW (a0 a1 a2 a3 a4 a5 a6 a7 a8 a9 a10 a11 a12 a13 a14 a15 a16 a17 a18:Value):(#[a0,a1,a2,a3,a4,a5,a6,a7,a8,a9,a10,a11,a12,a13,a14,a15,a16,a17,a18]:Array Value)[1]? =some a1:=rfl
theorem LX (a0 a1 a2 a3 a4 a5 a6 a7 a8 a9 a10 a11 a12 a13 a14 a15 a16 a17 a18:Value):(#[a0,a1,a2,a3,a4,a5,a6,a7,a8,a9,a10,a11,a12,a13,a14,a15,a16,a17,a18]:Array Value)[2]? =some a2:=rfl
theorem LY (a0 a1 a2 a3 a4 a5 a6 a7 a8 a9 a10 a11 a12 a13 a14 a15 a16 a17 a18:Value):(#[a0,a1,a2,a3,a4,a5,a6,a7,a8,a9,a10,a11,a12,a13,a14,a15,a16,a17,a18]:Array Value)[3]? =some a3:=rfl
theorem LZ (a0 a1 a2 a3 a4 a5 a6 a7 a8 a9 a10 a11 a12 a13 a14 a15 a16 a17 a18:Value):(#[a0,a1,a2,a3,a4,a5,a6,a7,a8,a9,a10,a11,a12,a13,a14,a15,a16,a17,a18]:Array Value)[4]? =some a4:=rfl
theorem L0 (a0 a1 a2 a3 a4 a5 a6 a7 a8 a9 a10 a11 a12 a13 a14 a15 a16 a17 a18:Value):(#[a0,a1,a2,a3,a4,a5,a6,a7,a8,a9,a10,a11,a12,a13,a14,a15,a16,a17,a18]:Array Value)[5]? =some a5:=rfl
theorem L3 (a0 a1 a2 a3 a4 a5 a6 a7 a8 a9 a10 a11 a12 a13 a14 a15 a16 a17 a18:Value):(#[a0,a1,a2,a3,a4,a5,a6,a7,a8,a9,a10,a11,a12,a13,a14,a15,a16,a17,a18]:Array Value)[6]? =some a6:=rfl
theorem L4 (a0 a1 a2 a3 a4 a5 a6 a7 a8 a9 a10 a11 a12 a13 a14 a15 a16 a17 a18:Value):(#[a0,a1,a2,a3,a4,a5,a6,a7,a8,a9,a10,a11,a12,a13,a14,a15,a16,a17,a18]:Array Value)[7]? =some a7:=rfl
theorem L5 (a0 a1 a2 a3 a4 a5 a6 a7 a8 a9 a10 a11 a12 a13 a14 a15 a16 a17 a18:Value):(#[a0,a1,a2,a3,a4,a5,a6,a7,a8,a9,a10,a11,a12,a13,a14,a15,a16,a17,a18]:Array Value)[8]? =some a8:=rfl
theorem L6 (a0 a1 a2 a3 a4 a5 a6 a7 a8 a9 a10 a11 a12 a13 a14 a15 a16 a17 a18:Value):(#[a0,a1,a2,a3,a4,a5,a6,a7,a8,a9,a10,a11,a12,a13,a14,a15,a16,a17,a18]:Array Value)[9]? =some a9:=rfl
theorem Jo (a0 a1 a2 a3 a4 a5 a6 a7 a8 a9 a10 a11 a12 a13 a14 a15 a16 a17 a18:Value):(#[a0,a1,a2,a3,a4,a5,a6,a7,a8,a9,a10,a11,a12,a13,a14,a15,a16,a17,a18]:Array Value)[10]? =some a10:=rfl
theorem Jp (a0 a1 a2 a3 a4 a5 a6 a7 a8 a9 a10 a11 a12 a13 a14 a15 a16 a17 a18:Value):(#[a0,a1,a2,a3,a4,a5,a6,a7,a8,a9,a10,a11,a12,a13,a14,a15,a16,a17,a18]:Array Value)[11]? =some a11:=rfl
theorem Jq (a0 a1 a2 a3 a4 a5 a6 a7 a8 a9 a10 a11 a12 a13 a14 a15 a16 a17 a18:Value):(#[a0,a1,a2,a3,a4,a5,a6,a7,a8,a9,a10,a11,a12,a13,a14,a15,a16,a17,a18]:Array Value)[12]? =some a12:=rfl
theorem Jr (a0 a1 a2 a3 a4 a5 a6 a7 a8 a9 a10 a11 a12 a13 a14 a15 a16 a17 a18:Value):(#[a0,a1,a2,a3,a4,a5,a6,a7,a8,a9,a10,a11,a12,a13,a14,a15,a16,a17,a18]:Array Value)[13]? =some a13:=rfl
theorem Js (a0 a1 a2 a3 a4 a5 a6 a7 a8 a9 a10 a11 a12 a13 a14 a15 a16 a17 a18:Value):(#[a0,a1,a2,a3,a4,a5,a6,a7,a8,a9,a10,a11,a12,a13,a14,a15,a16,a17,a18]:Array Value)[14]? =some a14:=rfl
theorem Jt (a0 a1 a2 a3 a4 a5 a6 a7 a8 a9 a10 a11 a12 a13 a14 a15 a16 a17 a18:Value):(#[a0,a1,a2,a3,a4,a5,a6,a7,a8,a9,a10,a11,a12,a13,a14,a15,a16,a17,a18]:Array Value)[15]? =some a15:=rfl
theorem Ju (a0 a1 a2 a3 a4 a5 a6 a7 a8 a9 a10 a11 a12 a13 a14 a15 a16 a17 a18:Value):(#[a0,a1,a2,a3,a4,a5,a6,a7,a8,a9,a10,a11,a12,a13,a14,a15,a16,a17,a18]:Array Value)[16]? =some a16:=rfl
theorem CI {s:Sl} {P Q:Nat→Bool} {bf n:Nat} {e:Bool} {i:Nat} (hi:i<8):(bC s P Q bf n e)[1+i]? =some (cy (wd P i))∧(bC s P Q bf n e)[9+i]? =some (cy (wd Q i)):=by
 have:i=0∨i=1∨i=2∨i=3∨i=4∨i=5∨i=6∨i=7:=by omega
 unfold bC
 rcases this with rfl|rfl|rfl|rfl|rfl|rfl|rfl|rfl
 ·exact ⟨LW _ _ _ _ _ _ _ _ _ _ _ _ _ _ _ _ _ _ _,L6 _ _ _ _ _ _ _ _ _ _ _ _ _ _ _ _ _ _ _⟩
 ·exact ⟨LX _ _ _ _ _ _ _ _ _ _ _ _ _ _ _ _ _ _ _,Jo _ _ _ _ _ _ _ _ _ _ _ _ _ _ _ _ _ _ _⟩
 ·exact ⟨LY _ _ _ _ _ _ _ _ _ _ _ _ _ _ _ _ _ _ _,Jp _ _ _ _ _ _ _ _ _ _ _ _ _ _ _ _ _ _ _⟩
 ·exact ⟨LZ _ _ _ _ _ _ _ _ _ _ _ _ _ _ _ _ _ _ _,Jq _ _ _ _ _ _ _ _ _ _ _ _ _ _ _ _ _ _ _⟩
 ·exact ⟨L0 _ _ _ _ _ _ _ _ _ _ _ _ _ _ _ _ _ _ _,Jr _ _ _ _ _ _ _ _ _ _ _ _ _ _ _ _ _ _ _⟩
 ·exact ⟨L3 _ _ _ _ _ _ _ _ _ _ _ _ _ _ _ _ _ _ _,Js _ _ _ _ _ _ _ _ _ _ _ _ _ _ _ _ _ _ _⟩
 ·exact ⟨L4 _ _ _ _ _ _ _ _ _ _ _ _ _ _ _ _ _ _ _,Jt _ _ _ _ _ _ _ _ _ _ _ _ _ _ _ _ _ _ _⟩
 ·exact ⟨L5 _ _ _ _ _ _ _ _ _ _ _ _ _ _ _ _ _ _ _,Ju _ _ _ _ _ _ _ _ _ _ _ _ _ _ _ _ _ _ _⟩
theorem CJ {F:PH} {bm:Nat} {s:Sl} {P Q:Nat→Bool} {bf n:Nat} {e:Bool} (h:F bm=some (.cells (bC s P Q bf n e) 278)):F.row ((Addr.mk bm 0 none).add 1) (plA P)∧F.row ((Addr.mk bm 0 none).add 9) (plA Q):=by
 constructor
 ·intro i hi
  have hi':i<8:=hi
  rw [bQ,bQ,am h,← Array.getElem?_eq_getElem hi,d8 P hi',Nat.zero_add]
  exact (CI hi').1
 ·intro i hi
  have hi':i<8:=hi
  rw [bQ,bQ,am h,← Array.getElem?_eq_getElem hi,d8 Q hi',Nat.zero_add]
  exact (CI hi').2
theorem CL {F:PH} {bf n i:Nat} {R:Nat→Nat→Bool} (h:F bf=some (.cells (cG n R).toArray 275)) (hi:i<n):F.row ((Addr.mk bf 0 none).add (i*8)) (plA (R i)):=by
 obtain ⟨pre,post,hpre,hsp,_⟩:=ms hi R
 have hs:i7 F bf 275 pre (R i) post:=by unfold i7;rw [← hsp];exact h
 have:=hs.row
 rw [hpre] at this
 rw [bQ,Nat.zero_add]
 exact this
theorem PJ {F:PH} {s:Sl} {l:List Nd} (h:RdS F s 5 (eg l)) {i:Nat} {x:Nd} (hx:l[i]? =some x):∃a,s.base=some a∧F.row (a.add (i*5)) x.arr∧F.cell ((a.add (i*5)).add 1)=some (vi x.lo)∧F.cell ((a.add (i*5)).add 2)=some (vi x.hi):=by
 obtain ⟨a,h1,h2⟩:=rdn h hx
 exact ⟨a,h1,h2,by have:=h2 1 (by simp);simpa using this,by have:=h2 2 (by simp);simpa using this⟩
theorem Lo.sub {G F:PH} {xs ys:List (Nat×Array Value×TypeId)} (h:Lo G F xs) (hs:ys.Sublist xs):Lo G F ys:=⟨h.le,fun p hp=>h.z p (hs.subset hp),h.nd.sublist (hs.map _)⟩
section
variable {G F:PH} {l:List Nd} {t:Lt} {bm b3 b4 b6 b7 b8 b9 n:Nat} {st:ByteArray} {N P8 P9:Nat→Bool}
theorem Ak (hM:Mch G bm l t) (hl:l.length≤512) (h:Lo G F [(b9,plA P9,275),(b8,plA P8,275),(b7,#[vi n],3),(b6,plA N,275),(b4,#[.string st],9),(b3,#[pa bm],272)]) (hn:n<st.size) (hns:st.size≤9223372036854775807) {i:Nat} (hi:i<l.length):
  ac prog 228 #[vi i,pa b4,pa b7,pa b3,pa b8,pa b9] F fun r F'=>r=.tuple #[]∧
   Lo G F' [(b9,plA (fun j=>P9 j || (sS l (cb st n) i && foB t i j)),275),(b8,plA (fun j=>P8 j || (decide (j=i) && sS l (cb st n) i)),275),(b7,#[vi n],3),(b6,plA N,275),(b4,#[.string st],9),(b3,#[pa bm],272)]:=by
 obtain ⟨s,bf,qm,hs,qf⟩:=(hM.le h.le).ex
 have hlen:=hs.nlen
 refine MU ?_
 unfold GZ
 have hx:l[i]? =some l[i]:=List.getElem?_eq_getElem hi
 generalize l[i]=x at hx
 obtain ⟨a,ha,_,hlo,hhi⟩:=PJ hs hx
 have c3:F.cell (Addr.mk b3 0 none)=some (pa bm):=by rw [h.cell (b:=b3) (w:= #[pa bm]) (e:=272) (by simp)];rfl
 have cm:F.cell (Addr.mk bm 0 none)=some s.v:=by rw [am qm];rfl
 have ei:Int.toNat (i:Int)=i:=Int.toNat_natCast i
 refine ⟨_,rfl,st,by rw [h.cell (b:=b4) (w:= #[.string st]) (e:=9) (by simp)];rfl,_,rfl,(n:Int),by rw [h.cell (b:=b7) (w:= #[vi n]) (e:=3) (by simp)];rfl,by omega,by omega,by simpa using hn,_,rfl,_,rfl,_,c3,_,rfl,s,cm,a,ha,by omega,by omega,x.lo,by rw [ei];exact hlo,?_⟩
 rw [JE rfl hn,K9 (by have:=E7 st n;omega)]
 have j1:∀tt:Bool,tt=sS l (cb st n) i→nk i (some ⟨b3,0,none⟩) (some ⟨b8,0,none⟩) (some ⟨b9,0,none⟩) tt (fun r F'=>r=.tuple #[]∧
   Lo G F' [(b9,plA (fun j=>P9 j || (sS l (cb st n) i && foB t i j)),275),(b8,plA (fun j=>P8 j || (decide (j=i) && sS l (cb st n) i)),275),(b7,#[vi n],3),(b6,plA N,275),(b4,#[.string st],9),(b3,#[pa bm],272)]) F:=fun tt htt=>by
  unfold nk
  refine ⟨fun ht=> ?_,fun ht=> ?_⟩
  ·rw [ht] at htt
   rw [← htt]
   refine (Lo.add [(b9,plA P9,275)] _ (b:=b8) (P:=P8) (by omega) h).mono ?_
   rintro _ F2 ⟨rfl,h2⟩
   replace h2:Lo G F2 [(b9,plA P9,275),(b8,plA (fun j=>P8 j || decide (j=i)),275),(b7,#[vi n],3),(b6,plA N,275),(b4,#[.string st],9),(b3,#[pa bm],272)]:=h2
   obtain ⟨s2,bf2,qm2,hs2,qf2⟩:=(hM.le h2.le).ex
   have c3':F2.cell (Addr.mk b3 0 none)=some (pa bm):=by rw [h2.cell (b:=b3) (w:= #[pa bm]) (e:=272) (by simp)];rfl
   refine ⟨rfl,_,rfl,_,c3',_,rfl,_,by rw [bQ,Nat.zero_add,am qm2];rfl,_,rfl,by omega,by simp only;omega,plA (foB t i),rfl,by rw [ei];exact CL qf2 hi,?_⟩
   refine (Lo.join [] _ (b:=b9) (P:=P9) (Q:=foB t i) h2).mono ?_
   rintro _ F3 ⟨rfl,h3⟩
   have e1:(fun j=>P9 j || (true && foB t i j))=fun j=>P9 j || foB t i j:=by funext j;simp
   have e2:(fun j=>P8 j || (decide (j=i) && true))=fun j=>P8 j || decide (j=i):=by funext j;simp
   rw [e1,e2]
   exact ⟨rfl,rfl,h3⟩
  ·rw [ht] at htt
   rw [← htt]
   have e1:(fun j=>P9 j || (false && foB t i j))=P9:=by funext j;simp
   have e2:(fun j=>P8 j || (decide (j=i) && false))=P8:=by funext j;simp
   rw [e1,e2]
   exact ⟨rfl,h⟩
 refine ⟨fun h1=>⟨_,c3,_,rfl,s,cm,a,ha,by omega,by omega,x.hi,by rw [ei];exact hhi,j1 _ ?_⟩,fun h1=>j1 _ ?_⟩
 ·rw [Bool.eq_iff_iff,decide_eq_true_eq,kp]
  constructor
  ·exact fun h2=>⟨x,hx,h1,h2⟩
  ·rintro ⟨y,hy,_,h2⟩
   rw [hx] at hy
   cases hy
   exact h2
 ·symm
  rw [← Bool.not_eq_true,kp]
  rintro ⟨y,hy,h2,_⟩
  rw [hx] at hy
  cases hy
  exact h1 h2
theorem Jv:au prog 228=true:=by kernel_rfl
theorem CM {acc fol:Nat→Nat→Prop} {P:Nat→Prop} (hf:∀i j,fol i j→P j):∀(w:List Nat) (S:Nat→Prop),(∀j,S j→P j)→∀j,Nx acc fol S w j→P j
 |[],S,hS,j,h=>hS j h
 |b::w,S,hS,j,h=>CM hf w _ (fun j ⟨i,_,_,h⟩=>hf i j h) j h
theorem pd {l:List Nd} {i0:Nat} {t:Lt} {ns:List Nat} (ht:cd l i0 t ns) {w:List Nat} {j:Nat} (h:km l t w j):j<l.length:=
 CM (P:=fun j=>j<l.length) (fun i j h=>(df ht).1 j ((df ht).2 j (t.fol_lab h).2)) w t.first (fun j h=>(df ht).1 j ((df ht).2 j (t.first_lab h))) j h
theorem CN {l:List Nd} {t:Lt} (w:List Nat) (b j:Nat):km l t (w++[b]) j↔∃i,km l t w i∧kj l i b∧t.fol i j:=xZ w b _ j
theorem Lo.le' {G F F':PH} {xs:List (Nat×Array Value×TypeId)} (h:Lo G F xs) (hl:F.le F'):Lo G F' xs:=⟨aa h.le hl,fun p hp=>⟨hl _ _ (h.z p hp).1,(h.z p hp).2⟩,h.nd⟩
open Classical in
noncomputable def reB (l:List Nd) (t:Lt) (w:List Nat) (b m:Nat):Nat→Bool:=fun j=>decide (j<m∧km l t w j∧kj l j b)
theorem iP {l:List Nd} {t:Lt} {w:List Nat} {b m j:Nat}:reB l t w b m j=true↔j<m∧km l t w j∧kj l j b:=by simp [reB]
open Classical in
noncomputable def nxB (l:List Nd) (t:Lt) (w:List Nat) (b m:Nat):Nat→Bool:=fun j=>decide (∃i,i<m∧km l t w i∧kj l i b∧t.fol i j)
theorem iQ {l:List Nd} {t:Lt} {w:List Nat} {b m j:Nat}:nxB l t w b m j=true↔∃i,i<m∧km l t w i∧kj l i b∧t.fol i j:=by simp [nxB]
set_option maxHeartbeats 1000000 in
theorem CO {k:FuncId} {cap:Array Value} {Inv:Nat→PH→Prop} (hk:au prog k=true) (hl:l.length≤512) (hG:GoodL l) {ns:List Nat} {i0:Nat} (ht:cd l i0 t ns) (hns:st.size≤9223372036854775806)
  (hI:∀n F,Inv n F→Tab F∧Mch F bm l t)
  (h1:∀n F (q:Bool),n<st.size→(q=true↔Lg t.pat ((bs st).take (n+1)))→Inv n F→ac prog k (#[vi ((n+1:Nat):Int),.bool q]++cap) F fun r F'=>r=.bool true∧Inv (n+1) F') (hF:Inv 0 F):
  ac prog 204 #[pa bm,.string st,.func (.func k) #[] cap] F fun r F'=>r=.tuple #[]∧∃n G,n≤st.size∧Inv n G∧G.le F'∧(n=st.size∨∀m,n<m→m≤st.size→¬Lg t.pat ((bs st).take m)):=by
 have hfit:=Aj hG ht
 refine MN ?_
 unfold GQ
 have h:=Lo.start F
 refine h.new _ _ fun b3 F1 h=> ?_
 refine h.new _ _ fun b4 F2 h=> ?_
 obtain ⟨s,bf,qm,hs,qf⟩:=((hI 0 F hF).2.le h.le).ex
 refine ⟨_,by rw [h.cell (b:=b3) (w:= #[pa bm]) (e:=272) (by simp)];rfl,_,rfl,plA (fB t),rfl,(CJ qm).1,?_⟩
 refine h.new _ _ fun b6 F3 h=> ?_
 rw [← bo] at h
 refine Lo.put [] _ (n:=8) (b:=b6) (w0:=plA noP) (w:=plA (fB t)) (e:=275) h rfl rfl (bi _) fun F4 h=> ?_
 replace h:Lo F F4 [(b6,plA (fB t),275),(b4,#[.string st],9),(b3,#[pa bm],272)]:=h
 have e0:fB t=mE l t ((bs st).take 0):=by funext j;rw [Bool.eq_iff_iff,dq,ko];rfl
 rw [e0] at h
 refine ⟨st,by rw [h.cell (b:=b4) (w:= #[.string st]) (e:=9) (by simp)];rfl,fun M v F'=>∃n G,v=((n:Nat):Int)∧n≤st.size∧M=st.size - n∧Inv n G∧Lo G F' [(b6,plA (mE l t ((bs st).take n)),275),(b4,#[.string st],9),(b3,#[pa bm],272)],st.size,⟨0,F,rfl,Nat.zero_le _,rfl,hF,h⟩,?_⟩
 clear h qm hs qf e0
 rintro _ _ F5 ⟨n,G,rfl,hn,rfl,hIn,h⟩
 unfold yn
 refine ⟨fun hlt=> ?_,fun hge=>⟨rfl,n,G,hn,hIn,h.le,.inl (by omega)⟩⟩
 have hlt:n<st.size:=by omega
 have hltb:n<(bs st).length:=by rw [bE];exact hlt
 have hcb:cb st n=(bs st)[n]:=by rw [Gx,List.getD_eq_getElem?_getD,List.getElem?_eq_getElem hltb];rfl
 refine h.new _ _ fun b7 F6 h=> ?_
 refine Lo.put1 [] _ (b:=b7) (i:=0) (w0:= #[vi 0]) (w:= #[vi n]) (e:=3) h (by simp) rfl fun F7 h=> ?_
 replace h:Lo G F7 [(b7,#[vi n],3),(b6,plA (mE l t ((bs st).take n)),275),(b4,#[.string st],9),(b3,#[pa bm],272)]:=h
 refine h.new _ _ fun b8 F8 h=> ?_
 refine h.new _ _ fun b9 F9 h=> ?_
 rw [← bo] at h
 obtain ⟨hT,hM⟩:=hI n G hIn
 refine (rz (a:=⟨b6,0,none⟩) (P:=mE l t ((bs st).take n)) (k:=228) (cap:= #[pa b4,pa b7,pa b3,pa b8,pa b9])
  (Inv:=fun m F'=>Lo G F' [(b9,plA (nxB l t ((bs st).take n) (cb st n) m),275),(b8,plA (reB l t ((bs st).take n) (cb st n) m),275),(b7,#[vi n],3),(b6,plA (mE l t ((bs st).take n)),275),(b4,#[.string st],9),(b3,#[pa bm],272)])
  Jv rfl (fun m F' hI'=>⟨hT.le hI'.le,hI'.row (b:=b6) (w:=plA (mE l t ((bs st).take n))) (e:=275) (by simp)⟩) ?_ ?_ ?_).mono ?_
 ·intro i F' hi hp hI'
  have hnp:¬km l t ((bs st).take n) i:=fun h=>by rw [ko.2 h] at hp;cases hp
  have e9:nxB l t ((bs st).take n) (cb st n) (i+1)=nxB l t ((bs st).take n) (cb st n) i:=by
   funext j
   rw [Bool.eq_iff_iff,iQ,iQ]
   constructor
   ·rintro ⟨i',h1,h2,h3⟩
    have:i'≠i:=fun e=>hnp (e▸h2)
    exact ⟨i',by omega,h2,h3⟩
   ·rintro ⟨i',h1,h2,h3⟩
    exact ⟨i',by omega,h2,h3⟩
  have e8:reB l t ((bs st).take n) (cb st n) (i+1)=reB l t ((bs st).take n) (cb st n) i:=by
   funext j
   rw [Bool.eq_iff_iff,iP,iP]
   constructor
   ·rintro ⟨h1,h2,h3⟩
    have:j≠i:=fun e=>hnp (e▸h2)
    exact ⟨by omega,h2,h3⟩
   ·rintro ⟨h1,h2,h3⟩
    exact ⟨by omega,h2,h3⟩
  rw [e9,e8]
  exact hI'
 ·intro i F' hi hp hI'
  have hnp:=ko.1 hp
  have hil:=pd ht hnp
  refine (Ak hM hl hI' hlt (by omega) hil).mono ?_
  rintro _ F'' ⟨rfl,h2⟩
  refine ⟨rfl,?_⟩
  have e9:(fun j=>nxB l t ((bs st).take n) (cb st n) i j || (sS l (cb st n) i && foB t i j))=nxB l t ((bs st).take n) (cb st n) (i+1):=by
   funext j
   rw [Bool.eq_iff_iff,Bool.or_eq_true,Bool.and_eq_true,iQ,iQ,kp,iR]
   constructor
   ·rintro (⟨i',h1,h2⟩|⟨h1,h2⟩)
    ·exact ⟨i',by omega,h2⟩
    ·exact ⟨i,by omega,hnp,h1,h2⟩
   ·rintro ⟨i',h1,h2,h3⟩
    by_cases e:i'=i
    ·subst e
     exact .inr h3
    ·exact .inl ⟨i',by omega,h2,h3⟩
  have e8:(fun j=>reB l t ((bs st).take n) (cb st n) i j || (decide (j=i) && sS l (cb st n) i))=reB l t ((bs st).take n) (cb st n) (i+1):=by
   funext j
   rw [Bool.eq_iff_iff,Bool.or_eq_true,Bool.and_eq_true,iP,iP,decide_eq_true_eq,kp]
   constructor
   ·rintro (⟨h1,h2⟩|⟨h1,h2⟩)
    ·exact ⟨by omega,h2⟩
    ·subst h1
     exact ⟨by omega,hnp,h2⟩
   ·rintro ⟨h1,h2,h3⟩
    by_cases e:j=i
    ·subst e
     exact .inr ⟨rfl,h3⟩
    ·exact .inl ⟨by omega,h2,h3⟩
  rw [e9,e8] at h2
  exact h2
 ·have e9:nxB l t ((bs st).take n) (cb st n) 0=noP:=by
   funext j
   show _=false
   rw [← Bool.not_eq_true,iQ]
   rintro ⟨i,h,_⟩
   omega
  have e8:reB l t ((bs st).take n) (cb st n) 0=noP:=by
   funext j
   show _=false
   rw [← Bool.not_eq_true,iP]
   rintro ⟨h,_⟩
   omega
  rw [e9,e8]
  exact h
 ·clear h
  rintro _ F10 ⟨rfl,h⟩
  generalize hre:reB l t ((bs st).take n) (cb st n) 512=re at h
  generalize hnx:nxB l t ((bs st).take n) (cb st n) 512=nx at h
  have hre':∀j,re j=true↔km l t ((bs st).take n) j∧kj l j (cb st n):=fun j=>by
   rw [← hre,iP]
   exact ⟨fun h=>h.2,fun h=>⟨by have:=pd ht h.1;omega,h⟩⟩
  have hnx':nx=mE l t ((bs st).take (n+1)):=by
   rw [← hnx]
   funext j
   rw [Bool.eq_iff_iff,iQ,ko,iO hltb,CN,← hcb]
   constructor
   ·rintro ⟨i',_,h2⟩
    exact ⟨i',h2⟩
   ·rintro ⟨i',h2⟩
    exact ⟨i',by have:=pd ht h2.1;omega,h2⟩
  refine ⟨rfl,plA re,rfl,h.row (b:=b8) (w:=plA re) (e:=275) (by simp),_,fun F=>by have:=PN (F:=F) re noP;rw [bo] at this;exact this,fun hz=> ?_,fun hz=> ?_⟩
  ·have hz':=(Al re).1 hz
   refine ⟨rfl,n,G,hn,hIn,h.le,.inr fun m hm hml=>CH hfit hltb (fun j hj=> ?_) hm (by rw [bE];exact hml)⟩
   rw [← hcb] at hj
   have:=hz' j (by have:=pd ht hj.1;omega)
   rw [(hre' j).2 hj] at this
   cases this
  ·obtain ⟨s,bf,qm,hs,qf⟩:=(hM.le h.le).ex
   have c7:∀{F' G':PH},Lo G' F' [(b9,plA nx,275),(b8,plA re,275),(b7,#[vi n],3),(b6,plA (mE l t ((bs st).take n)),275),(b4,#[.string st],9),(b3,#[pa bm],272)]→F'.cell (Addr.mk b7 0 none)=some (vi n):=fun h=>by rw [h.cell (b:=b7) (w:= #[vi n]) (e:=3) (by simp)];rfl
   have c3:∀{F' G':PH},Lo G' F' [(b9,plA nx,275),(b8,plA re,275),(b7,#[vi n],3),(b6,plA (mE l t ((bs st).take n)),275),(b4,#[.string st],9),(b3,#[pa bm],272)]→F'.cell (Addr.mk b3 0 none)=some (pa bm):=fun h=>by rw [h.cell (b:=b3) (w:= #[pa bm]) (e:=272) (by simp)];rfl
   refine ⟨_,c7 h,_,c3 h,_,rfl,plA (lB t),rfl,(CJ qm).2,?_⟩
   refine (uX (pre:=[]) (post:=[]) (Q:=lB t) (i7.own.2 (h.get (b:=b8) (w:=plA re) (e:=275) (by simp)))).mono ?_
   rintro _ F11 ⟨⟨q,rfl,hq⟩,l11⟩
   replace h:=h.le' l11
   have hq':q=true↔Lg t.pat ((bs st).take (n+1)):=by
    rw [hq,iO hltb,x7 hfit,← hcb]
    constructor
    ·rintro ⟨i,_,h2,h3⟩
     obtain ⟨h4,h5⟩:=(hre' i).1 h2
     exact ⟨i,h4,h5,cP.1 h3⟩
    ·rintro ⟨i,h4,h5,h3⟩
     exact ⟨i,by have:=pd ht h4;omega,(hre' i).2 ⟨h4,h5⟩,cP.2 h3⟩
   refine ⟨q,rfl,c3 h,c7 h,h.row (b:=b8) (w:=plA re) (e:=275) (by simp),k,#[],cap,rfl,hk,?_⟩
   have hcall:=h.call (h1 n G q hlt hq' hIn)
   rw [i6 (by omega)]
   refine ac.mono (R:=fun r F'=>∃G',(r=.bool true∧Inv (n+1) G')∧Lo G' F' _) (by simpa using hcall) ?_
   clear hcall h
   rintro _ F12 ⟨G',⟨rfl,hIn'⟩,h⟩
   refine ⟨true,rfl,c3 h,c7 h,h.row (b:=b8) (w:=plA re) (e:=275) (by simp),fun hh=>by simp at hh,fun _=>⟨plA nx,rfl,h.row (b:=b9) (w:=plA nx) (e:=275) (by simp),?_⟩⟩
   refine Lo.put [(b9,plA nx,275),(b8,plA re,275),(b7,#[vi n],3)] _ (n:=8) (b:=b6) (w0:=plA (mE l t ((bs st).take n))) (w:=plA nx) (e:=275) h rfl rfl (bi _) fun F13 h=> ?_
   replace h:Lo G' F13 [(b9,plA nx,275),(b8,plA re,275),(b7,#[vi n],3),(b6,plA nx,275),(b4,#[.string st],9),(b3,#[pa bm],272)]:=h
   rw [hnx'] at h
   exact ⟨st.size - (n+1),by omega,n+1,G',rfl,hlt,rfl,hIn',h.sub (.cons _ (.cons _ (.cons _ (List.Sublist.refl _))))⟩
end
section
variable {F:PH} {l:List Nd} {s:Sl}
theorem Jw:au prog 205=true:=by kernel_rfl
def LgL (l:List Nd) (w:List Nat):Prop:=Lg (bv l).pat w
theorem qv (hT:Tab F) (hs:RdS F s 5 (eg l)) (st:ByteArray) (hst:st.size≤1000000000):ac prog 151 #[s.v,.string st] F fun r F'=>(∃q:Bool,r=.bool q∧(q=true↔fX l=0∧LgL l (bs st)))∧F.le F':=by
 refine MJ ?_
 unfold GM
 have h:=Lo.start F
 refine h.new _ _ fun b3 F1 h=> ?_
 refine (h.call (mq hs)).mono ?_
 rintro _ F2 ⟨G1,⟨rfl,l1⟩,h⟩
 refine ⟨_,rfl,fun hc=>⟨⟨false,rfl,fun h=>(by cases h),fun h=>absurd h.1 hc⟩,aa l1 h.le⟩,fun hc=> ?_⟩
 have h0:fX l=0:=by omega
 obtain ⟨hG,hl⟩:=Ar h0
 obtain ⟨ns,ht⟩:=gA hG
 refine (h.call (sT (hT.le l1) hG hl (hs.le l1))).mono ?_
 rintro _ F3 ⟨G,⟨⟨bm,rfl,hM⟩,l2⟩,h⟩
 have c3:F3.cell (Addr.mk b3 0 none)=some (.string st):=by rw [h.cell (b:=b3) (w:= #[.string st]) (e:=9) (by simp)];rfl
 refine ⟨_,rfl,_,c3,?_⟩
 have j1:∀(b6:Nat) (mt:Bool) (F4:PH),Lo G F4 [(b6,#[.bool mt],4),(b3,#[.string st],9)]→(mt=true↔st.size=0∧(bv l).nul=true)→
   nf b3 (some ⟨bm,0,none⟩) (some ⟨b6,0,none⟩) (fun r F'=>(∃q:Bool,r=.bool q∧(q=true↔fX l=0∧LgL l (bs st)))∧F.le F') F4:=fun b6 mt F4 h hmt=>by
  unfold nf
  refine ⟨_,by rw [h.cell (b:=b3) (w:= #[.string st]) (e:=9) (by simp)];rfl,?_⟩
  refine (CO (bm:=bm) (k:=205) (cap:= #[pa b3,pa b6]) (Inv:=fun n F'=>∃mt:Bool,Lo G F' [(b6,#[.bool mt],4),(b3,#[.string st],9)]∧(n=0→(mt=true↔st.size=0∧(bv l).nul=true))∧(0<n→(mt=true↔n=st.size∧LgL l ((bs st).take n)))) Jw hl hG ht (by omega)
   (fun n F' ⟨b,hL,_⟩=>⟨(hT.le (aa l1 l2)).le hL.le,hM.le hL.le⟩) ?_ ⟨mt,h,fun _=>hmt,fun h=>absurd h (by omega)⟩).mono ?_
  ·rintro n F' q hn hq ⟨mt,hL,_,_⟩
   show ac prog 205 #[vi ((n+1:Nat):Int),.bool q,pa b3,pa b6] F' _
   refine MO ?_
   unfold GR
   refine ⟨_,rfl,_,by rw [hL.cell (b:=b3) (w:= #[.string st]) (e:=9) (by simp)];rfl,fun he=>⟨_,rfl,?_⟩,fun he=>⟨_,rfl,?_⟩⟩
   ·refine Lo.put1 [] [(b3,#[.string st],9)] (b:=b6) (i:=0) (w0:= #[.bool mt]) (w:= #[.bool q]) (e:=4) hL (by simp) rfl fun F'' h'=> ?_
    exact ⟨rfl,q,h',fun h=>by omega,fun _=>⟨fun h=>⟨by omega,hq.1 h⟩,fun h=>hq.2 h.2⟩⟩
   ·refine Lo.put1 [] [(b3,#[.string st],9)] (b:=b6) (i:=0) (w0:= #[.bool mt]) (w:= #[.bool false]) (e:=4) hL (by simp) rfl fun F'' h'=> ?_
    exact ⟨rfl,false,h',fun h=>by omega,fun _=>⟨fun h=>(by cases h),fun h=>by omega⟩⟩
  ·rintro _ F5 ⟨rfl,n,G',hn,⟨mt,hL,hz,hp⟩,l5,hend⟩
   refine ⟨rfl,_,rfl,mt,aq l5 (by rw [hL.cell (b:=b6) (w:= #[.bool mt]) (e:=4) (by simp)];rfl),⟨mt,rfl,?_⟩,aa l1 (aa l2 (aa hL.le l5))⟩
   have hall:(bs st).take st.size=bs st:=List.take_of_length_le (by rw [bE];exact Nat.le_refl _)
   have hnil:st.size=0→bs st=[]:=fun h=>List.length_eq_zero_iff.1 (by rw [bE];exact h)
   have hnul:(bv l).nul=true↔LgL l []:=(bv l).nul_iff
   rcases Nat.eq_zero_or_pos n with e|e
   ·subst e
    rw [hz rfl]
    constructor
    ·rintro ⟨h1,h2⟩
     exact ⟨h0,by rw [hnil h1];exact hnul.1 h2⟩
    ·rintro ⟨_,h2⟩
     rcases hend with he|he
     ·exact ⟨he.symm,hnul.2 (by rw [← hnil he.symm];exact h2)⟩
     ·rcases Nat.eq_zero_or_pos st.size with h1|h1
      ·exact ⟨h1,hnul.2 (by rw [← hnil h1];exact h2)⟩
      ·exact absurd (by rw [hall];exact h2) (he st.size h1 (Nat.le_refl _))
   ·rw [hp e]
    constructor
    ·rintro ⟨h1,h2⟩
     exact ⟨h0,by rw [h1,hall] at h2;exact h2⟩
    ·rintro ⟨_,h2⟩
     rcases hend with he|he
     ·exact ⟨he,by rw [he,hall];exact h2⟩
     ·by_cases h1:n=st.size
      ·exact ⟨h1,by rw [h1,hall];exact h2⟩
      ·exact absurd (by rw [hall];exact h2) (he st.size (by omega) (Nat.le_refl _))
 have hemp:(st.toList==(ByteArray.mk #[]).toList)=decide (st.size=0):=by
  rw [C1]
  rw [Bool.eq_iff_iff,decide_eq_true_eq,decide_eq_true_eq,← bE st]
  constructor
  ·intro h;rw [h];rfl
  ·intro h;exact List.length_eq_zero_iff.1 h
 dsimp only
 rw [hemp]
 refine ⟨fun he=> ?_,fun he=> ?_⟩
 ·have he:=of_decide_eq_true he
  obtain ⟨s',bf,qm,_,_⟩:=(hM.le h.le).ex
  refine ⟨_,rfl,(bv l).nul,by rw [bQ,am qm];rfl,?_⟩
  refine h.new _ _ fun b6 F4 h=> ?_
  refine Lo.put1 [] [(b3,#[.string st],9)] (b:=b6) (i:=0) (w0:= #[.bool false]) (w:= #[.bool (bv l).nul]) (e:=4) h (by simp) rfl fun F5 h=> ?_
  exact j1 b6 _ F5 h ⟨fun h=>⟨he,h⟩,fun h=>h.2⟩
 ·have he:=of_decide_eq_false he
  refine h.new _ _ fun b6 F4 h=> ?_
  refine Lo.put1 [] [(b3,#[.string st],9)] (b:=b6) (i:=0) (w0:= #[.bool false]) (w:= #[.bool false]) (e:=4) h (by simp) rfl fun F5 h=> ?_
  exact j1 b6 _ F5 h ⟨fun h=>(by cases h),fun h=>absurd h.1 he⟩
end
end Go.Proofs.YtenpmjhnhepfdaaGreatDoor
namespace Go.Proofs.YtenpmjhnhepfdaaGreatDoor
open Go Go.Proofs.Tryz Tr
set_option maxRecDepth 10000
theorem CP (d:Nat) (a b:Int) (F:PH):rdo prog (Op.equalIn (d+1) 3 (vi a) (vi b)) F (decide (a=b)):=by
 simp only [Op.equalIn,ai]
 refine ⟨_,(av underlying3 _).2 rfl,?_⟩
 simp only [if_true,bV]
 by_cases h:a=b<;>simp [h]
theorem pe (cs:Array Value) (off:Nat) (v:Value) (h:cs[off]? =some v) (F:PH):rdo prog (part 3 cs off) F v:=by
 unfold part
 simp only [ai]
 refine ⟨false,(cU underlying3 _).2 rfl,?_⟩
 simp only [Bool.false_eq_true,if_false,h]
 rfl
theorem x8 (e:Bool) (n:Nat) (a:Int) (F:PH):rdo prog (Instr.checkKey e (n+1) 3 (vi a)) F ():=by
 simp only [Instr.checkKey,ai]
 refine ⟨_,(av underlying3 _).2 rfl,?_⟩
 rfl
theorem PK:prog.stoodInHeld 103=false:=by kernel_rfl
abbrev LS:=ForInStep (Option Bool×Unit)
theorem dQ (n:Nat) (off:Nat) (cs ds:Array Value) (x y:Int) (h1:cs[off]? =some (vi x)) (h2:ds[off]? =some (vi y)) (F:PH):
  rdo prog (do
   let a ← part 3 cs off
   let b ← part 3 ds off
   let r ← Op.equalIn (n+1) 3 a b
   if (!r)=true then pure (ForInStep.done (some false,())) else pure (ForInStep.yield (none,())):Sem LS) F (if x=y then .yield (none,()) else .done (some false,())):=by
 simp only [ai]
 refine ⟨_,pe _ _ _ h1 F,_,pe _ _ _ h2 F,_,CP n x y F,?_⟩
 by_cases h:x=y
 ·simp [h]
 ·simp [h]
theorem CQ (x y:Br) (F:PH):rdo prog (Op.equal 103 (.agg (aP x)) (.agg (aP y))) F (decide (x=y)):=by
 unfold Op.equal Op.maxDepth
 show rdo prog (Op.equalIn (9998+1+1) 103 _ _) _ _
 unfold Op.equalIn
 simp only [ai]
 refine ⟨_,(av underlying103 _).2 rfl,?_⟩
 dsimp only
 rw [ai]
 refine ⟨prog,rfl,?_⟩
 rw [PK]
 simp only [Bool.false_eq_true,if_false]
 simp only [List.forIn_toArray,List.forIn_cons,List.forIn_nil,ai]
 obtain ⟨a,b,c⟩:=x
 obtain ⟨d,e,f⟩:=y
 rw [if_pos (by decide),if_pos (by decide),if_pos (by decide)]
 by_cases h1:a=d
 ·by_cases h2:b=e
  ·by_cases h3:c=f
   ·refine ⟨(none,()),⟨_,dQ 9998 0 _ _ a d rfl rfl F,?_⟩,?_⟩
    ·rw [if_pos h1]
     refine (ai _ _ _ _).2 ⟨_,dQ 9998 1 _ _ b e rfl rfl F,?_⟩
     rw [if_pos h2]
     refine (ai _ _ _ _).2 ⟨_,dQ 9998 2 _ _ c f rfl rfl F,?_⟩
     rw [if_pos h3]
     rfl
    ·simp [h1,h2,h3]
   ·refine ⟨(some false,()),⟨_,dQ 9998 0 _ _ a d rfl rfl F,?_⟩,?_⟩
    ·rw [if_pos h1]
     refine (ai _ _ _ _).2 ⟨_,dQ 9998 1 _ _ b e rfl rfl F,?_⟩
     rw [if_pos h2]
     refine (ai _ _ _ _).2 ⟨_,dQ 9998 2 _ _ c f rfl rfl F,?_⟩
     rw [if_neg h3]
     rfl
    ·simp [h3]
  ·refine ⟨(some false,()),⟨_,dQ 9998 0 _ _ a d rfl rfl F,?_⟩,?_⟩
   ·rw [if_pos h1]
    refine (ai _ _ _ _).2 ⟨_,dQ 9998 1 _ _ b e rfl rfl F,?_⟩
    rw [if_neg h2]
    rfl
   ·simp [h2]
 ·refine ⟨(some false,()),⟨_,dQ 9998 0 _ _ a d rfl rfl F,?_⟩,?_⟩
  ·rw [if_neg h1]
   rfl
  ·simp [h1]
theorem pg (e:Bool) (n:Nat) (off:Nat) (cs:Array Value) (x:Int) (h1:cs[off]? =some (vi x)) (F:PH):
  rdo prog (do
   let a ← part 3 cs off
   Instr.checkKey e (n+1) 3 a
   pure (ForInStep.yield PUnit.unit):Sem (ForInStep PUnit)) F (.yield PUnit.unit):=by
 simp only [ai]
 exact ⟨_,pe _ _ _ h1 F,_,x8 e n x F,rfl⟩
theorem L7 (e:Bool) (x:Br) (F:PH):rdo prog (Instr.checkKey e 10000 103 (.agg (aP x))) F ():=by
 show rdo prog (Instr.checkKey e (9998+1+1) 103 _) _ _
 unfold Instr.checkKey
 simp only [ai]
 refine ⟨_,(av underlying103 _).2 rfl,?_⟩
 dsimp only
 simp only [List.forIn_toArray,List.forIn_cons,List.forIn_nil]
 rw [if_pos (by decide),if_pos (by decide),if_pos (by decide)]
 refine (ai _ _ _ _).2 ⟨PUnit.unit,(ai _ _ _ _).2 ⟨_,pg e 9998 0 _ _ rfl F,(ai _ _ _ _).2 ⟨_,pg e 9998 1 _ _ rfl F,(ai _ _ _ _).2 ⟨_,pg e 9998 2 _ _ rfl F,rfl⟩⟩⟩,rfl⟩
abbrev wE (x:Br):Value:=.agg (aP x)
abbrev uQ (x:Int):Value:=vi x
theorem L8:qU prog 3 uQ:=by
 refine ⟨fun F a b=> ?_,fun F e a=> ?_,fun a=> ?_,_,underlying3,.inl fun a b=> ?_⟩
 ·unfold Op.equal Op.maxDepth
  exact CP 9999 a b F
 ·exact x8 e 9999 a F
 ·unfold Instr.sameBits;simp
 ·unfold Instr.sameNow
  simp only [if_true]
  by_cases h:a=b<;>simp [h]
theorem L9:qU prog 103 wE:=by
 refine ⟨fun F a b=>CQ a b F,fun F e a=>L7 e a F,fun a=> ?_,_,underlying103,.inr fun a b=> ?_⟩
 ·show Instr.sameBits (9998+1+1) _ _=true
  simp [Instr.sameBits]
 ·rfl
theorem PL:bu prog 4=some (.bool false):=by kernel_rfl
theorem mtN:jY prog 299 uQ (vi 0):=⟨_,_,underlying299,zr3,L8⟩
theorem mtB:jY prog 226 wE (vi 0):=⟨_,_,underlying226,zr3,L9⟩
theorem mtK:jY prog 224 wE (.bool false):=⟨_,_,underlying224,PL,L9⟩
end Go.Proofs.YtenpmjhnhepfdaaGreatDoor
