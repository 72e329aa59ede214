/-
  The codec that writes: tokens, productions, levels, filters, grammars; Encode. Printed in part by a program (mkHr.py).
-/
import Derived.Test.YtenpmjhnhepfdaaGreatDoorHo
namespace Go.Proofs.YtenpmjhnhepfdaaGreatDoor
open Go Go.Proofs.Tryz
set_option maxRecDepth 10000
abbrev D4 (s:Sl):Array Value:= #[vi 0,s.v,vi 0,.bool false]
abbrev cod (bc:Nat) (s:Sl) (out:List Nat):List (PH→Prop):=[own s 5 1 (out.map vB),pt bc (.cells (D4 s) 116)]
def WrS (G:PH) (bc:Nat) (f:FuncId) (args:Array Value) (v:Value) (bx:List Nat):Prop:=
 ∀G1 F s out,G.le G1→out.length+bx.length≤100000000000→St G1 F (cod bc s out)→ac prog f args F fun r F'=>∃G' s',r=v∧G1.le G'∧St G' F' (cod bc s' (out++bx))
theorem WrS.le {G G':PH} {bc:Nat} {f:FuncId} {args:Array Value} {v:Value} {bx:List Nat} (h:WrS G bc f args v bx) (l:G.le G'):WrS G' bc f args v bx:=
 fun G1 F s out l1 hb hs=>h G1 F s out (aa l l1) hb hs
theorem WrS.go {G G1 F:PH} {bc:Nat} {f:FuncId} {args:Array Value} {v:Value} {bx:List Nat} {s:Sl} {out:List Nat} {Q:Value→PH→Prop} (hw:WrS G bc f args v bx) (l:G.le G1) (hb:out.length+bx.length≤100000000000) (h:St G1 F (cod bc s out))
  (k:∀G' F' s',G1.le G'→St G' F' (cod bc s' (out++bx))→Q v F'):ac prog f args F Q:=
 (hw G1 F s out l hb h).mono fun r F' ⟨G',s',e,l',h'⟩=>by rw [e];exact k G' F' s' l' h'
theorem xw {G F:PH} {As:List (PH→Prop)} {s:Sl} {out:List Nat} (h:St G F (own s 5 1 (out.map vB)::As)):s.len=out.length:=by
 have:=(h.ownAt (i:=0) rfl).1.rd.len
 simp at this
 exact this.symm
abbrev pc (bc:Nat):Value:=.pointer (some (Addr.mk bc 0 none))
theorem A4 {G F:PH} {s:Sl} {out:List Nat} {x:Nat} {As:List (PH→Prop)} (h:St G F (own s 5 1 (out.map vB++ #[vB x].toList)::As)):St G F (own s 5 1 ((out++[x]).map vB)::As):=by
 rw [List.map_append]
 exact h
theorem D5:∀n:Nat,IntKind.u8.wrap ((BitVec.ofInt (IntKind.u8).bits (IntKind.u8.wrap (n:Int)) ||| BitVec.ofInt (IntKind.u8).bits (128:Int)).toNat)=((n % 128+128:Nat):Int):=by
 intro n
 have e1:IntKind.u8.wrap (n:Int)=((n % 256:Nat):Int):=by simp [IntKind.wrap,IntKind.bits,IntKind.signed]
 rw [e1]
 have key:∀m:Fin 256,IntKind.u8.wrap ((BitVec.ofInt (IntKind.u8).bits ((m.val:Nat):Int) ||| BitVec.ofInt (IntKind.u8).bits (128:Int)).toNat)=((m.val % 128+128:Nat):Int):=by decide+kernel
 have:=key ⟨n % 256,Nat.mod_lt _ (by decide)⟩
 rw [this]
 simp only
 omega
theorem bK {n:Nat} (h:n<128):dZ n=[n]:=by unfold dZ;rw [if_pos h]
theorem fN {n:Nat} (h:¬n<128):dZ n=(n % 128+128)::dZ (n / 128):=by rw [dZ,if_neg h]
theorem iF (n:Nat):0<(dZ n).length:=by
 by_cases h:n<128
 ·rw [bK h];simp
 ·rw [fN h];simp
theorem D6 (n:Nat):Int.fdiv (n:Int) (2 ^ (min (Int.toNat (7:Int)) (IntKind.i64).bits))=((n / 128:Nat):Int):=by
 show Int.fdiv (n:Int) (2 ^ 7)=_
 rw [Int.fdiv_eq_ediv_of_nonneg _ (by decide)]
 norm_cast
theorem jL {G:PH} {bc:Nat} {a:Addr} {n:Nat} (ha:G.cell a=some (vi n)):WrS G bc 125 #[pc bc,.pointer (some a)] (.tuple #[]) (dZ n):=by
 intro G1 F s out l hb h
 refine Hf ?_
 unfold Dr
 refine ⟨_,rfl,_,h.ld1 rfl,fun _=>⟨_,rfl,_,aq (aa l h.le) ha,?_⟩,fun h=>absurd rfl h⟩
 refine ⟨fun m i F'=>∃(k:Nat) (G2:PH) (s2:Sl) (out2:List Nat),i=(k:Int)∧m=k∧G1.le G2∧St G2 F' (cod bc s2 out2)∧out++dZ n=out2++dZ k,n,⟨n,G1,s,out,rfl,rfl,le_refl' _,h,rfl⟩,?_⟩
 rintro m i F2 ⟨k,G2,s2,out2,rfl,hm,l2,h,he⟩
 have hlen:=congrArg List.length he
 rw [List.length_append,List.length_append] at hlen
 have hs2:=xw h
 have:=iF k
 unfold yB
 refine ⟨fun hk=> ?_,fun hk=> ?_⟩
 ·have hk':¬k<128:=by omega
  refine ⟨_,by rw [aD];exact h.ld1 rfl,?_⟩
  rw [D5,D6]
  refine h.push0 Bn (c:= #[vB (k % 128+128)]) rfl (by simp [aj]) (by omega) fun s3 G3 F3 l3 h hl3=> ?_
  rw [aD]
  refine h.set1 (w':=D4 s3) (by simp) rfl fun F4 h=> ?_
  refine ⟨k / 128,by have:=Nat.div_lt_self (n:=k) (k:=128) (by omega) (by decide);omega,k / 128,G3,s3,out2++[k % 128+128],rfl,rfl,aa l2 l3,?_,?_⟩
  ·exact A4 h
  ·rw [he,fN hk',List.append_assoc]
   rfl
 ·have hk':k<128:=by omega
  unfold yA
  have ew:IntKind.u8.wrap (k:Int)=(k:Int):=by simp [IntKind.wrap,IntKind.bits,IntKind.signed];omega
  rw [ew]
  refine ⟨_,by rw [aD];exact h.ld1 rfl,?_⟩
  refine h.push0 Bn (c:= #[vB k]) rfl (by simp [aj]) (by omega) fun s3 G3 F3 l3 h hl3=> ?_
  rw [aD]
  refine h.set1 (w':=D4 s3) (by simp) rfl fun F4 h=>⟨G3,s3,rfl,aa l2 l3,?_⟩
  rw [he,bK hk']
  exact A4 h
theorem xx (G:PH) {bc:Nat} (n:Nat):WrS G bc 178 #[pc bc,vi n] (vi n) (dZ n):=by
 intro G1 F s out l hb h
 refine Hu ?_
 unfold Du
 refine h.newG fun b3 G2 F2 l2 q3 _ h=> ?_
 refine (jL (ld q3 rfl)).go (le_refl' _) hb h fun G3 F3 s3 l3 h=>⟨rfl,_,rfl,_,h.ld1 rfl,fun h=>(by cases h),fun _=> ?_⟩
 unfold gC
 exact ⟨fun h=>(by cases h),fun _=>⟨_,ld (h.le _ _ (l3 _ _ q3)) rfl,G3,s3,rfl,aa l2 l3,h⟩⟩
theorem nY {G:PH} {bc:Nat} {a:Addr} {x:ByteArray} (ha:G.cell a=some (.string x)):WrS G bc 119 #[pc bc,.pointer (some a)] (.tuple #[]) (eS x):=by
 intro G1 F s out l hb h
 unfold eS at hb ⊢
 rw [List.length_append,bE] at hb
 refine Hb ?_
 unfold Dn
 refine ⟨_,rfl,_,aq (aa l h.le) ha,?_⟩
 refine (xx G1 x.size).go (le_refl' _) (by omega) h fun G3 F3 s3 l3 h=>⟨_,rfl,_,rfl,_,h.ld1 rfl,fun _=>⟨_,by rw [aD];exact h.ld1 rfl,_,aq (aa l (aa l3 h.le)) ha,?_⟩,fun h=>absurd rfl h⟩
 have hs3:=xw h
 rw [List.length_append] at hs3
 refine h.appStrAt Bn underlying9 0 rfl (by omega) fun s4 F4 h hl4=> ?_
 rw [aD]
 refine St.set1 (w':=D4 s4) h (by simp) rfl fun F5 h=>⟨G3,s4,rfl,l3,?_⟩
 rw [← List.append_assoc]
 show St G3 F5 [own s4 5 1 ((out++dZ x.size++bs x).map vB),_]
 rw [List.map_append (l₂:=bs x)]
 exact h
def cL (n:Nat) (X:Addr→Prop) (N1:Int→PH→Prop) (c_0:Option Addr) (l1a_:Addr) (one_2:Value) (v_14:Int) (R:VR) (i_7:Int) (F:PH):Prop:=
 ((i_7<v_14→
  ∃c0a_:Addr,c_0=some c0a_∧∃v_22:Bool,F.cell (Addr.add c0a_ 3)=some (.bool v_22)∧
  (((!v_22)=true→
   ∃v_30:Int,F.cell c0a_=some (.int .i64 v_30)∧
   ((v_30=(0:Int)→
    ∃v_35:Sl,F.cell l1a_=some (Sl.v v_35)∧
    ∃a37_:Addr,v_35.base=some a37_∧0≤i_7∧i_7<(v_35.len:Int)∧
    ∃(k38:Nat) (fst38 cap38:Array Value),one_2=.func (.func k38) fst38 cap38∧au prog k38=true∧ac prog k38 (fst38++([(.pointer (some (Addr.add a37_ (Int.toNat i_7*n))))]).toArray++cap38) F fun v F=>v=(.tuple #[])∧
    N1 (IntKind.i64.wrap (i_7+(1:Int))) F)∧
   (¬(v_30=(0:Int))→
    X c0a_)))∧
  ((!v_22)=false→
   R (.tuple #[]) F)))∧
 (¬(i_7<v_14)→
  R (.tuple #[]) F))
def gE (L:(Int→PH→Prop)→Option Addr→Addr→Value→Int→VR→Int→PH→Prop) (c_0:Option Addr) (l_1:Option Addr) (one_2:Value) (R:VR) (F:PH):Prop:=
 ∃l1a_:Addr,l_1=some l1a_∧∃v_12:Sl,F.cell l1a_=some (Sl.v v_12)∧
 ac prog 178 #[(.pointer c_0),(.int .i64 (v_12.len:Int))] F fun v F=>∃v_14:Int,v=(.int .i64 v_14)∧
 (∃(I1:Nat→Int→PH→Prop) (m1:Nat),I1 m1 (0:Int) F∧∀m1 i_7 F,I1 m1 i_7 F→
  L (fun y1_0 F=>∃m',m'<m1∧I1 m' y1_0 F) c_0 l1a_ one_2 v_14 R i_7 F)
theorem jm {α β:Type} {l:List α} {k:Nat} {x:α} (f:α→List β) (h:l[k]? =some x):(l.take (k+1)).flatMap f=(l.take k).flatMap f++f x:=by
 rw [be h,List.flatMap_append]
 simp
theorem gi {α:Type} (f:α→List Nat) (l:List α) (k:Nat):((l.take k).flatMap f).length≤(l.flatMap f).length:=by
 have:l.flatMap f=(l.take k).flatMap f++(l.drop k).flatMap f:=by rw [← List.flatMap_append,List.take_append_drop]
 rw [this,List.length_append]
 omega
theorem fm {α:Type} [Mem α] {G:PH} {bc:Nat} {la:Addr} {sl:Sl} {l:List α} (hl:RL G sl l) (hla:G.cell la=some sl.v) (hn:0<Mem.n α) (hll:l.length≤1000000000) {k:Nat} {fst cap:Array Value} (hk:au prog k=true) (f:α→List Nat) (args:Value→Array Value) (ha:∀p,fst++([p]).toArray++cap=args p)
  (hone:∀x∈l,∀G1 a c,G.le G1→G1.row a c→Mem.rep G1 x c→WrS G1 bc k (args (.pointer (some a))) (.tuple #[]) (f x))
  {L:(Int→PH→Prop)→Option Addr→Addr→Value→Int→VR→Int→PH→Prop} (hL:∀N c0 l1 o v R i F,∃X,L N c0 l1 o v R i F=cL (Mem.n α) X N c0 l1 o v R i F)
  {G1 F:PH} {s:Sl} {out:List Nat} (l01:G.le G1) (hb:out.length+(eL f l).length≤100000000000) (h:St G1 F (cod bc s out)):
  gE L (some (Addr.mk bc 0 none)) (some la) (.func (.func k) fst cap) (fun r F'=>∃G' s',r=.tuple #[]∧G1.le G'∧St G' F' (cod bc s' (out++eL f l))) F:=by
 have el:=hl.len hn
 unfold eL at hb ⊢
 rw [List.length_append] at hb
 refine ⟨_,rfl,_,aq (aa l01 h.le) hla,?_⟩
 rw [el]
 refine (xx G1 l.length).go (le_refl' _) (by omega) h fun G2 F2 s2 l2 h=>⟨_,rfl,?_⟩
 refine bW (L · _ _ _ _ _) l.length (fun j F'=>∃G3 s3,G2.le G3∧St G3 F' (cod bc s3 (out++dZ l.length++(l.take j).flatMap f))) ⟨G2,s2,le_refl' _,by simpa using h⟩ ?_
 rintro j F3 N hj ⟨G3,s3,l3,h⟩ next
 obtain ⟨X,hX⟩:=hL N (some (Addr.mk bc 0 none)) la (.func (.func k) fst cap) (l.length:Int) (fun r F'=>∃G' s',r=.tuple #[]∧G1.le G'∧St G' F' (cod bc s' (out++(dZ l.length++l.flatMap f)))) (j:Int) F3
 rw [hX]
 unfold cL
 have l03:=aa l01 (aa l2 l3)
 refine ⟨fun hlt=> ?_,fun hge=> ?_⟩
 ·have hlt:j<l.length:=by omega
  refine ⟨_,rfl,_,by rw [aD];exact h.ld1 rfl,fun _=>⟨_,h.ld1 rfl,fun _=>⟨_,aq (aa l03 h.le) hla,?_⟩,fun h=>absurd rfl h⟩,fun h=>(by cases h)⟩
  refine ixc (hl.le l03) hn (by omega) (by omega) fun a c x hx hr hc=>⟨k,fst,cap,rfl,hk,?_⟩
  rw [Int.toNat_natCast] at hx
  have hxm:x∈l:=List.mem_of_getElem? hx
  have e:=jm f hx
  have hp:=gi f l (j+1)
  rw [e,List.length_append] at hp
  rw [ha]
  refine (hone x hxm G3 _ c l03 hr hc).go (le_refl' _) (by rw [List.length_append,List.length_append];omega) h fun G4 F4 s4 l4 h=>⟨rfl,?_⟩
  rw [aQ hlt (by omega)]
  refine next _ hlt ⟨G4,s4,aa l3 l4,?_⟩
  rw [e,← List.append_assoc]
  exact h
 ·have e:j=l.length:=by omega
  subst e
  rw [List.take_length] at h
  exact ⟨G3,s3,rfl,aa l2 l3,by rw [← List.append_assoc];exact h⟩
theorem fO (a:Addr) (i j:Nat):Addr.add (Addr.add a i) j=Addr.add a (i+j):=by
 unfold Addr.add
 by_cases hi:i=0
 ·simp [hi]
 ·by_cases hj:j=0
  ·simp [hj]
  ·simp [hi,hj,Nat.add_assoc]
theorem jM {F:PH} {a:Addr} {c d:Array Value} {o:Nat} (h:F.row a c) (hd:(c.toList.drop o).take d.size=d.toList):F.row (a.add o) d:=by
 intro i hi
 rw [fO]
 have:=congrArg (fun l=>l[i]?) hd
 simp only [List.getElem?_take_of_lt hi,List.getElem?_drop,Array.getElem?_toList] at this
 exact aF h (this.trans (by simp [hi]))
theorem cbW:au prog 119=true∧au prog 125=true∧au prog 122=true∧au prog 124=true∧au prog 127=true∧au prog 129=true∧
 au prog 180=true∧au prog 183=true∧au prog 185=true∧au prog 188=true:=by
 refine ⟨?_,?_,?_,?_,?_,?_,?_,?_,?_,?_⟩<;>kernel_rfl
section
variable {G:PH} {bc:Nat}
theorem fo {a:Addr} {x:Int} (h0:0≤x) (ha:G.cell a=some (vi x)):WrS G bc 125 #[pc bc,.pointer (some a)] (.tuple #[]) (eI x):=by
 obtain ⟨n,rfl⟩:=Int.eq_ofNat_of_zero_le h0
 exact jL ha
theorem OX:eB true=dZ 1:=(bK (by decide)).symm
theorem OY:eB false=dZ 0:=(bK (by decide)).symm
theorem iI {b:Nat} {al:List Addr} {xs:List Int} {e:TypeId} (q:G b=some (.cells (al.map fun a=>Value.pointer (some a)).toArray e)) (hl:al.length=xs.length) (hll:xs.length≤100)
  (ha:∀(i:Nat) a x,al[i]? =some a→xs[i]? =some x→G.cell a=some (vi x)∧0≤x):
  WrS G bc 181 #[pc bc,Sl.v ⟨some (Addr.mk b 0 none),al.length,al.length⟩] (.tuple #[]) (xs.flatMap eI):=by
 intro G1 F s out l hb h
 refine Hw ?_
 unfold Dw
 refine bW (kD · (some (Addr.mk bc 0 none)) ⟨some (Addr.mk b 0 none),al.length,al.length⟩ _) xs.length (fun j F'=>∃G3 s3,G1.le G3∧St G3 F' (cod bc s3 (out++(xs.take j).flatMap eI))) ⟨G1,s,le_refl' _,by simpa using h⟩ ?_
 rintro j F3 N hj ⟨G3,s3,l3,h⟩ next
 unfold kD
 have l03:=aa l l3
 refine ⟨fun hlt=> ?_,fun hge=> ?_⟩
 ·simp only at hlt
  have hlt:j<xs.length:=by omega
  have hx:=List.getElem?_eq_getElem hlt
  have haj:=List.getElem?_eq_getElem (l:=al) (by omega:j<al.length)
  obtain ⟨h1,h2⟩:=ha j _ _ haj hx
  refine ⟨_,rfl,by omega,by simp only;omega,some al[j],?_,?_⟩
  ·rw [Int.toNat_natCast,aD,Nat.mul_one,Nat.zero_add,am (h.le _ _ (l03 _ _ q))]
   simp [haj]
  ·have hp:=gi eI xs (j+1)
   have e:=jm eI hx
   rw [e,List.length_append] at hp
   refine (fo h2 h1).go l03 (by rw [List.length_append];omega) h fun G4 F4 s4 l4 h=>⟨rfl,?_⟩
   rw [aQ hlt (by omega)]
   refine next _ hlt ⟨G4,s4,aa l3 l4,?_⟩
   rw [e,← List.append_assoc]
   exact h
 ·simp only at hge
  have e:j=xs.length:=by omega
  subst e
  rw [List.take_length] at h
  exact ⟨G3,s3,rfl,l3,h⟩
theorem vy {a:Addr} {b:Bool} (ha:G.cell a=some (.bool b)):WrS G bc 186 #[pc bc,.pointer (some a)] (.tuple #[]) (eB b):=by
 intro G1 F s out l hb h
 refine Hz ?_
 unfold Dz
 refine h.new fun b4 F2 h=> ?_
 refine h.set0 (by simp) rfl fun F3 h=>⟨_,rfl,_,aq (aa l h.le) ha,fun hbt=> ?_,fun hbf=> ?_⟩
 ·subst hbt
  rw [OX] at hb ⊢
  refine h.set0 (w':= #[vi 1]) (by simp) rfl fun F4 h=> ?_
  refine h.pinb (K:=fun F4=>fe (some (Addr.mk bc 0 none)) (some a) b4 _ F4) fun G5 l5 q5 h=> ?_
  unfold fe
  exact (jL (n:=1) (ld q5 rfl)).go (le_refl' _) hb h fun G6 F6 s6 l6 h=>⟨rfl,_,rfl,_,h.ld1 rfl,fun h=>(by cases h),fun _=>⟨G6,s6,rfl,aa l5 l6,h⟩⟩
 ·subst hbf
  rw [OY] at hb ⊢
  refine h.pinb (K:=fun F4=>fe (some (Addr.mk bc 0 none)) (some a) b4 _ F4) fun G5 l5 q5 h=> ?_
  unfold fe
  exact (jL (n:=0) (ld q5 rfl)).go (le_refl' _) hb h fun G6 F6 s6 l6 h=>⟨rfl,_,rfl,_,h.ld1 rfl,fun h=>(by cases h),fun _=>⟨G6,s6,rfl,aa l5 l6,h⟩⟩
theorem A5 {b2:Nat} {a:Addr} {c:Array Value} {x:Br} (q:G.cell (Addr.mk b2 0 none)=some (pc bc)) (hr:G.row a c) (hc:Mem.rep G x c) (h0:0≤x.v∧0≤x.l∧0≤x.h):
  WrS G bc 180 #[.pointer (some a),.pointer (some (Addr.mk b2 0 none))] (.tuple #[]) (eBr x):=by
 intro G1 F s out l hb h
 rw [show c=aP x from hc] at hr
 refine Hv ?_
 unfold Dv
 refine ⟨_,rfl,_,aq (aa l h.le) q,_,rfl,?_⟩
 refine h.newG fun b13 G2 F2 l2 q13 _ h=> ?_
 have e:[x.v,x.l,x.h].flatMap eI=eBr x:=by simp [eBr]
 rw [← e] at hb ⊢
 refine (iI (al:=[a,a.add 1,a.add 2]) (xs:=[x.v,x.l,x.h]) q13 rfl (by simp) fun i a' y h1 h2=> ?_).go (le_refl' _) hb h fun G3 F3 s3 l3 h=>⟨rfl,G3,s3,rfl,aa l2 l3,h⟩
 have l02:=aa l l2
 match i with
 |0=>cases h1;cases h2;exact ⟨aq l02 (aJ hr rfl),h0.1⟩
 |1=>cases h1;cases h2;exact ⟨aq l02 (aF hr rfl),h0.2.1⟩
 |2=>cases h1;cases h2;exact ⟨aq l02 (aF hr rfl),h0.2.2⟩
 |i+3=>simp at h1
theorem Il {b2:Nat} {a:Addr} {c:Array Value} {x:Nd} (q:G.cell (Addr.mk b2 0 none)=some (pc bc)) (hr:G.row a c) (hc:Mem.rep G x c) (h0:0≤x.k∧0≤x.lo∧0≤x.hi∧0≤x.a∧0≤x.b):
  WrS G bc 183 #[.pointer (some a),.pointer (some (Addr.mk b2 0 none))] (.tuple #[]) (eNd x):=by
 intro G1 F s out l hb h
 rw [show c=x.arr from hc] at hr
 refine Hx ?_
 unfold Dx
 refine ⟨_,rfl,_,aq (aa l h.le) q,_,rfl,?_⟩
 refine h.newG fun b13 G2 F2 l2 q13 _ h=> ?_
 have e:[x.k,x.lo,x.hi,x.a,x.b].flatMap eI=eNd x:=by simp [eNd]
 rw [← e] at hb ⊢
 refine (iI (al:=[a,a.add 1,a.add 2,a.add 3,a.add 4]) (xs:=[x.k,x.lo,x.hi,x.a,x.b]) q13 rfl (by simp) fun i a' y h1 h2=> ?_).go (le_refl' _) hb h fun G3 F3 s3 l3 h=>⟨rfl,G3,s3,rfl,aa l2 l3,h⟩
 have l02:=aa l l2
 match i with
 |0=>cases h1;cases h2;exact ⟨aq l02 (aJ hr rfl),h0.1⟩
 |1=>cases h1;cases h2;exact ⟨aq l02 (aF hr rfl),h0.2.1⟩
 |2=>cases h1;cases h2;exact ⟨aq l02 (aF hr rfl),h0.2.2.1⟩
 |3=>cases h1;cases h2;exact ⟨aq l02 (aF hr rfl),h0.2.2.2.1⟩
 |4=>cases h1;cases h2;exact ⟨aq l02 (aF hr rfl),h0.2.2.2.2⟩
 |i+5=>simp at h1
theorem rZ {b2:Nat} {a:Addr} {c:Array Value} {x:Cn} (q:G.cell (Addr.mk b2 0 none)=some (pc bc)) (hr:G.row a c) (hc:Mem.rep G x c) (h0:0≤x.k∧0≤x.a∧0≤x.b):
  WrS G bc 188 #[.pointer (some a),.pointer (some (Addr.mk b2 0 none))] (.tuple #[]) (eCn x):=by
 intro G1 F s out l hb h
 rw [show c=x.arr from hc] at hr
 refine HB ?_
 unfold DA
 refine ⟨_,rfl,_,aq (aa l h.le) q,_,rfl,?_⟩
 refine h.newG fun b13 G2 F2 l2 q13 _ h=> ?_
 have e:[x.k,x.a,x.b].flatMap eI=eCn x:=by simp [eCn]
 rw [← e] at hb ⊢
 refine (iI (al:=[a,a.add 1,a.add 2]) (xs:=[x.k,x.a,x.b]) q13 rfl (by simp) fun i a' y h1 h2=> ?_).go (le_refl' _) hb h fun G3 F3 s3 l3 h=>⟨rfl,G3,s3,rfl,aa l2 l3,h⟩
 have l02:=aa l l2
 match i with
 |0=>cases h1;cases h2;exact ⟨aq l02 (aJ hr rfl),h0.1⟩
 |1=>cases h1;cases h2;exact ⟨aq l02 (aF hr rfl),h0.2.1⟩
 |2=>cases h1;cases h2;exact ⟨aq l02 (aF hr rfl),h0.2.2⟩
 |i+3=>simp at h1
theorem A6 {b2:Nat} {a:Addr} {c:Array Value} {x:Sy} (q:G.cell (Addr.mk b2 0 none)=some (pc bc)) (hr:G.row a c) (hc:Mem.rep G x c) (h0:0≤x.i):
  WrS G bc 185 #[.pointer (some a),.pointer (some (Addr.mk b2 0 none))] (.tuple #[]) (eSy x):=by
 intro G1 F s out l hb h
 rw [show c=x.arr from hc] at hr
 unfold eSy at hb ⊢
 rw [List.length_append] at hb
 refine Hy ?_
 unfold Dy
 refine ⟨_,rfl,_,aq (aa l h.le) q,_,rfl,?_⟩
 refine (vy (aq l (aJ hr rfl))).go (le_refl' _) (by omega) h fun G3 F3 s3 l3 h=>⟨rfl,_,aq (aa l (aa l3 h.le)) q,?_⟩
 refine (fo h0 (aq (aa l l3) (aF hr rfl))).go (le_refl' _) (by rw [List.length_append];omega) h fun G4 F4 s4 l4 h=>⟨rfl,G4,s4,rfl,aa l3 l4,?_⟩
 rw [← List.append_assoc]
 exact h
theorem OZ:∀N c0 l1 o v R i F,∃X,kC N c0 l1 o v R i F=cL 3 X N c0 l1 o v R i F:=fun _ _ _ _ _ _ _ _=>⟨_,rfl⟩
theorem A7 {c0 l1:Option Addr} {o:Value} {R:VR} {F:PH} (h:gE kC c0 l1 o R F):ac prog 179 #[.pointer c0,.pointer l1,o] F R:=NE h
theorem ua {a:Addr} {n:Sl} {d:Dia} (hr:G.row a #[n.v,vi d.2]) (hn:RL G n d.1) (hl:d.1.length≤1000000000) (h0:(∀b∈d.1,0≤b.v∧0≤b.l∧0≤b.h)∧0≤d.2):
  WrS G bc 120 #[pc bc,.pointer (some a)] (.tuple #[]) (eD d):=by
 intro G1 F s out l hb h
 unfold eD at hb ⊢
 rw [List.length_append] at hb
 refine Hc ?_
 unfold Do
 refine h.newG fun b2 G2 F2 l2 q2 _ h=>⟨_,ld (h.le _ _ q2) rfl,_,rfl,?_⟩
 have l02:=aa l l2
 refine (A7 (fm (L:=kC) (hn.le l02) (aq l02 (aJ hr rfl)) (by decide) hl cbW.2.2.2.2.2.2.1 eBr (fun p=> #[p,.pointer (some (Addr.mk b2 0 none))]) (fun _=>by simp)
  (fun x hx G3 a c l3 hr hc=>A5 (ld (l3 _ _ q2) rfl) hr hc (h0.1 x hx)) OZ (le_refl' _) (by omega) h)).mono ?_
 rintro _ F3 ⟨G3,s3,rfl,l3,h⟩
 refine ⟨rfl,_,ld (h.le _ _ (l3 _ _ q2)) rfl,?_⟩
 refine (fo h0.2 (aq (aa l02 l3) (aF hr rfl))).go (le_refl' _) (by rw [List.length_append];omega) h fun G4 F4 s4 l4 h=>⟨rfl,G4,s4,rfl,aa l2 (aa l3 l4),?_⟩
 rw [← List.append_assoc]
 exact h
end
theorem St.pinE {G F:PH} {As:List (PH→Prop)} {b:Nat} {o:Obj} (h:St G F (pt b o::As)):∃G',G.le G'∧G' b=some o∧St G' F As:=by
 obtain ⟨G',h1,⟨H,hA,hH⟩,h2⟩:=h.pin
 exact ⟨G',h1,hH _ _ hA,h2⟩
theorem St.pinO {G F:PH} {As:List (PH→Prop)} {e n:Nat} {s:Sl} {vs:List Value} (h:St G F (own s e n vs::As)):∃G',G.le G'∧RdS G' s n vs∧St G' F As:=by
 obtain ⟨G',h1,⟨H,hA,hH⟩,h2⟩:=h.pin
 exact ⟨G',h1,(bM.rd hA).le hH,h2⟩
theorem shS:∀N c0 l1 o v R i F,∃X,ks N c0 l1 o v R i F=cL 1 X N c0 l1 o v R i F:=fun _ _ _ _ _ _ _ _=>⟨_,rfl⟩
theorem FA {c0 l1:Option Addr} {o:Value} {R:VR} {F:PH} (h:gE ks c0 l1 o R F):ac prog 118 #[.pointer c0,.pointer l1,o] F R:=Ni h
theorem O0:∀N c0 l1 o v R i F,∃X,ku N c0 l1 o v R i F=cL 7 X N c0 l1 o v R i F:=fun _ _ _ _ _ _ _ _=>⟨_,rfl⟩
theorem A8 {c0 l1:Option Addr} {o:Value} {R:VR} {F:PH} (h:gE ku c0 l1 o R F):ac prog 121 #[.pointer c0,.pointer l1,o] F R:=Nk h
theorem O1:∀N c0 l1 o v R i F,∃X,kv N c0 l1 o v R i F=cL 13 X N c0 l1 o v R i F:=fun _ _ _ _ _ _ _ _=>⟨_,rfl⟩
theorem A9 {c0 l1:Option Addr} {o:Value} {R:VR} {F:PH} (h:gE kv c0 l1 o R F):ac prog 123 #[.pointer c0,.pointer l1,o] F R:=Nm h
theorem O2:∀N c0 l1 o v R i F,∃X,kz N c0 l1 o v R i F=cL 4 X N c0 l1 o v R i F:=fun _ _ _ _ _ _ _ _=>⟨_,rfl⟩
theorem Ba {c0 l1:Option Addr} {o:Value} {R:VR} {F:PH} (h:gE kz c0 l1 o R F):ac prog 126 #[.pointer c0,.pointer l1,o] F R:=No h
theorem O3:∀N c0 l1 o v R i F,∃X,kA N c0 l1 o v R i F=cL 9 X N c0 l1 o v R i F:=fun _ _ _ _ _ _ _ _=>⟨_,rfl⟩
theorem Be {c0 l1:Option Addr} {o:Value} {R:VR} {F:PH} (h:gE kA c0 l1 o R F):ac prog 128 #[.pointer c0,.pointer l1,o] F R:=Nq h
theorem O4:∀N c0 l1 o v R i F,∃X,kE N c0 l1 o v R i F=cL 5 X N c0 l1 o v R i F:=fun _ _ _ _ _ _ _ _=>⟨_,rfl⟩
theorem Bf {c0 l1:Option Addr} {o:Value} {R:VR} {F:PH} (h:gE kE c0 l1 o R F):ac prog 182 #[.pointer c0,.pointer l1,o] F R:=NG h
theorem O5:∀N c0 l1 o v R i F,∃X,kF N c0 l1 o v R i F=cL 2 X N c0 l1 o v R i F:=fun _ _ _ _ _ _ _ _=>⟨_,rfl⟩
theorem Bg {c0 l1:Option Addr} {o:Value} {R:VR} {F:PH} (h:gE kF c0 l1 o R F):ac prog 184 #[.pointer c0,.pointer l1,o] F R:=NI h
theorem O6:∀N c0 l1 o v R i F,∃X,kG N c0 l1 o v R i F=cL 3 X N c0 l1 o v R i F:=fun _ _ _ _ _ _ _ _=>⟨_,rfl⟩
theorem Bh {c0 l1:Option Addr} {o:Value} {R:VR} {F:PH} (h:gE kG c0 l1 o R F):ac prog 187 #[.pointer c0,.pointer l1,o] F R:=NK h
theorem shI:∀N c0 l1 o v R i F,∃X,kH N c0 l1 o v R i F=cL 1 X N c0 l1 o v R i F:=fun _ _ _ _ _ _ _ _=>⟨_,rfl⟩
theorem FB {c0 l1:Option Addr} {o:Value} {R:VR} {F:PH} (h:gE kH c0 l1 o R F):ac prog 189 #[.pointer c0,.pointer l1,o] F R:=NM h
section
variable {G:PH} {bc:Nat}
theorem Bi {la:Addr} {sl:Sl} {l:List ByteArray} (hl:RL G sl l) (hla:G.cell la=some sl.v) (hll:l.length≤1000000000):WrS G bc 118 #[pc bc,.pointer (some la),.func (.func 119) #[pc bc] #[]] (.tuple #[]) (eL eS l):=by
 intro G1 F s out l1 hb h
 exact FA (fm (L:=ks) hl hla (by decide) hll cbW.1 eS (fun p=> #[pc bc,p]) (fun _=>by simp) (fun x hx G3 a c l3 hr hc=>nY (aJ hr (by rw [show c= #[.string x] from hc];rfl))) shS l1 hb h)
theorem Bj {la:Addr} {sl:Sl} {l:List Int} (hl:RL G sl l) (hla:G.cell la=some sl.v) (hll:l.length≤1000000000) (h0:∀x∈l,0≤x):WrS G bc 189 #[pc bc,.pointer (some la),.func (.func 125) #[pc bc] #[]] (.tuple #[]) (eL eI l):=by
 intro G1 F s out l1 hb h
 exact FB (fm (L:=kH) hl hla (by decide) hll cbW.2.1 eI (fun p=> #[pc bc,p]) (fun _=>by simp) (fun x hx G3 a c l3 hr hc=>fo (h0 x hx) (aJ hr (by rw [show c= #[vi x] from hc];rfl))) shI l1 hb h)
theorem D7 {la:Addr} {sl:Sl} {l:List Nd} {b2:Nat} (q:G.cell (Addr.mk b2 0 none)=some (pc bc)) (hl:RL G sl l) (hla:G.cell la=some sl.v) (hll:l.length≤1000000000) (h0:∀x∈l,0≤x.k∧0≤x.lo∧0≤x.hi∧0≤x.a∧0≤x.b):WrS G bc 182 #[pc bc,.pointer (some la),.func (.func 183) #[] #[.pointer (some (Addr.mk b2 0 none))]] (.tuple #[]) (eL eNd l):=by
 intro G1 F s out l1 hb h
 exact Bf (fm (L:=kE) hl hla (by decide) hll cbW.2.2.2.2.2.2.2.1 eNd (fun p=> #[p,.pointer (some (Addr.mk b2 0 none))]) (fun _=>by simp) (fun x hx G3 a c l3 hr hc=>Il (aq l3 q) hr hc (h0 x hx)) O4 l1 hb h)
theorem Im {la:Addr} {sl:Sl} {l:List Sy} {b2:Nat} (q:G.cell (Addr.mk b2 0 none)=some (pc bc)) (hl:RL G sl l) (hla:G.cell la=some sl.v) (hll:l.length≤1000000000) (h0:∀x∈l,0≤x.i):WrS G bc 184 #[pc bc,.pointer (some la),.func (.func 185) #[] #[.pointer (some (Addr.mk b2 0 none))]] (.tuple #[]) (eL eSy l):=by
 intro G1 F s out l1 hb h
 exact Bg (fm (L:=kF) hl hla (by decide) hll cbW.2.2.2.2.2.2.2.2.1 eSy (fun p=> #[p,.pointer (some (Addr.mk b2 0 none))]) (fun _=>by simp) (fun x hx G3 a c l3 hr hc=>A6 (aq l3 q) hr hc (h0 x hx)) O5 l1 hb h)
theorem In {la:Addr} {sl:Sl} {l:List Cn} {b2:Nat} (q:G.cell (Addr.mk b2 0 none)=some (pc bc)) (hl:RL G sl l) (hla:G.cell la=some sl.v) (hll:l.length≤1000000000) (h0:∀x∈l,0≤x.k∧0≤x.a∧0≤x.b):WrS G bc 187 #[pc bc,.pointer (some la),.func (.func 188) #[] #[.pointer (some (Addr.mk b2 0 none))]] (.tuple #[]) (eL eCn l):=by
 intro G1 F s out l1 hb h
 exact Bh (fm (L:=kG) hl hla (by decide) hll cbW.2.2.2.2.2.2.2.2.2 eCn (fun p=> #[p,.pointer (some (Addr.mk b2 0 none))]) (fun _=>by simp) (fun x hx G3 a c l3 hr hc=>rZ (aq l3 q) hr hc (h0 x hx)) O6 l1 hb h)
theorem nZ {G F:PH} {bc:Nat} {s:Sl} {o p:List Nat} (h:St G F (cod bc s o)) (e:o=p):St G F (cod bc s p):=by rw [← e];exact h
theorem D8 {a:Addr} {c:Array Value} {x:Tk} (hr:G.row a c) (hc:Mem.rep G x c) (hl:x.pat.length≤1000000000∧x.cond.1.length≤1000000000)
  (h0:0≤x.cls∧(∀y∈x.pat,0≤y.k∧0≤y.lo∧0≤y.hi∧0≤y.a∧0≤y.b)∧(∀b∈x.cond.1,0≤b.v∧0≤b.l∧0≤b.h)∧0≤x.cond.2):WrS G bc 122 #[pc bc,.pointer (some a)] (.tuple #[]) (eTk x):=by
 obtain ⟨pp,nn,rfl,hp,hn⟩:=hc
 intro G1 F s out l hb h
 unfold eTk at hb ⊢
 refine Hd ?_
 unfold Dp
 refine h.newG fun b2 G2 F2 l2 q2 _ h=>⟨_,ld (h.le _ _ q2) rfl,_,rfl,?_⟩
 have l02:=aa l l2
 refine (nY (aq l02 (aJ hr rfl))).go (le_refl' _) (by simp only [List.length_append] at hb ⊢;omega) h fun G3 F3 s3 l3 h=>⟨rfl,_,ld (h.le _ _ (l3 _ _ q2)) rfl,?_⟩
 refine (fo h0.1 (aq (aa l02 l3) (aF hr rfl))).go (le_refl' _) (by simp only [List.length_append] at hb ⊢;omega) h fun G4 F4 s4 l4 h=>⟨rfl,_,ld (h.le _ _ (l4 _ _ (l3 _ _ q2))) rfl,?_⟩
 replace l3:=aa l3 l4
 refine (nY (aq (aa l02 l3) (aF hr rfl))).go (le_refl' _) (by simp only [List.length_append] at hb ⊢;omega) h fun G5 F5 s5 l5 h=>⟨rfl,_,ld (h.le _ _ (l5 _ _ (l3 _ _ q2))) rfl,?_⟩
 replace l3:=aa l3 l5
 refine (D7 (ld (l3 _ _ q2) rfl) (hp.le (aa l02 l3)) (aq (aa l02 l3) (aF hr rfl)) hl.1 h0.2.1).go (le_refl' _) (by simp only [List.length_append] at hb ⊢;omega) h fun G6 F6 s6 l6 h=>⟨rfl,_,ld (h.le _ _ (l6 _ _ (l3 _ _ q2))) rfl,?_⟩
 replace l3:=aa l3 l6
 refine (nY (aq (aa l02 l3) (aF hr rfl))).go (le_refl' _) (by simp only [List.length_append] at hb ⊢;omega) h fun G7 F7 s7 l7 h=>⟨rfl,_,ld (h.le _ _ (l7 _ _ (l3 _ _ q2))) rfl,?_⟩
 replace l3:=aa l3 l7
 refine (ua (d:=x.cond) (jM (lK (aa l02 l3) hr) (o:=5) rfl) (hn.le (aa l02 l3)) hl.2 h0.2.2).go (le_refl' _) (by simp only [List.length_append] at hb ⊢;omega) h fun G8 F8 s8 l8 h=>⟨rfl,G8,s8,rfl,aa l2 (aa l3 l8),nZ h (by simp only [List.append_assoc])⟩
theorem sd {a:Addr} {c:Array Value} {x:Pr} (hr:G.row a c) (hc:Mem.rep G x c) (hl:x.right.length≤1000000000∧x.cond.1.length≤1000000000∧x.lay.length≤1000000000)
  (h0:0≤x.left∧(∀s∈x.right,0≤s.i)∧((∀b∈x.cond.1,0≤b.v∧0≤b.l∧0≤b.h)∧0≤x.cond.2)∧-1≤x.rank∧x.rank≤1∧(∀y∈x.lay,0≤y.k∧0≤y.a∧0≤y.b)∧0≤x.sco.d∧0≤x.sco.k∧0≤x.sco.u∧0≤x.sco.a):
  WrS G bc 124 #[pc bc,.pointer (some a)] (.tuple #[]) (ePr x):=by
 obtain ⟨pp,nn,mm,rfl,hp,hn,hm⟩:=hc
 intro G1 F s out l hb h
 unfold ePr Bo at hb ⊢
 refine He ?_
 unfold Dq
 refine h.newG fun b2 G2 F2 l2 q2 _ h=>⟨_,ld (h.le _ _ q2) rfl,_,rfl,?_⟩
 have l02:=aa l l2
 refine (nY (aq l02 (aJ hr rfl))).go (le_refl' _) (by simp only [List.length_append] at hb ⊢;omega) h fun G3 F3 s3 l3 h=>⟨rfl,_,ld (h.le _ _ (l3 _ _ q2)) rfl,?_⟩
 refine (fo h0.1 (aq (aa l02 l3) (aF hr rfl))).go (le_refl' _) (by simp only [List.length_append] at hb ⊢;omega) h fun G4 F4 s4 l4 h=>⟨rfl,_,ld (h.le _ _ (l4 _ _ (l3 _ _ q2))) rfl,?_⟩
 replace l3:=aa l3 l4
 refine (Im (ld (l3 _ _ q2) rfl) (hp.le (aa l02 l3)) (aq (aa l02 l3) (aF hr rfl)) hl.1 h0.2.1).go (le_refl' _) (by simp only [List.length_append] at hb ⊢;omega) h fun G6 F6 s6 l6 h=>⟨rfl,_,ld (h.le _ _ (l6 _ _ (l3 _ _ q2))) rfl,?_⟩
 replace l3:=aa l3 l6
 refine (ua (d:=x.cond) (jM (lK (aa l02 l3) hr) (o:=3) rfl) (hn.le (aa l02 l3)) hl.2.1 h0.2.2.1).go (le_refl' _) (by simp only [List.length_append] at hb ⊢;omega) h fun G7 F7 s7 l7 h=>⟨rfl,_,ld (h.le _ _ (l7 _ _ (l3 _ _ q2))) rfl,?_⟩
 replace l3:=aa l3 l7
 refine (vy (aq (aa l02 l3) (aF hr rfl))).go (le_refl' _) (by simp only [List.length_append] at hb ⊢;omega) h fun G8 F8 s8 l8 h=>⟨rfl,_,aq (aa (aa l02 l3) (aa l8 h.le)) (aF hr rfl),?_⟩
 replace l3:=aa l3 l8
 have ew:IntKind.i64.wrap (x.rank+1)=x.rank+1:=aK (by omega) (by omega)
 dsimp only
 rw [ew]
 refine h.new fun b4 F9 h=> ?_
 refine h.set0 (w':= #[vi (x.rank+1)]) (by simp) rfl fun F10 h=> ?_
 obtain ⟨G11,l11,q4,h⟩:=h.pinE
 refine ⟨_,ld (h.le _ _ (l11 _ _ (l3 _ _ q2))) rfl,?_⟩
 replace l3:=aa l3 l11
 refine (fo (by omega) (ld q4 rfl)).go (le_refl' _) (by simp only [List.length_append] at hb ⊢;omega) h fun G12 F12 s12 l12 h=>⟨rfl,_,ld (h.le _ _ (l12 _ _ (l3 _ _ q2))) rfl,_,rfl,_,h.ld1 rfl,fun h=>(by cases h),fun _=> ?_⟩
 replace l3:=aa l3 l12
 unfold nq
 refine ⟨_,ld (h.le _ _ (l3 _ _ q2)) rfl,?_⟩
 refine (In (ld (l3 _ _ q2) rfl) (hm.le (aa l02 l3)) (aq (aa l02 l3) (aF hr rfl)) hl.2.2 h0.2.2.2.2.2.1).go (le_refl' _) (by simp only [List.length_append] at hb ⊢;omega) h fun G13 F13 s13 l13 h=>⟨rfl,_,ld (h.le _ _ (l13 _ _ (l3 _ _ q2))) rfl,?_⟩
 replace l3:=aa l3 l13
 refine (vy (aq (aa l02 l3) (aF hr rfl))).go (le_refl' _) (by simp only [List.length_append] at hb ⊢;omega) h fun G14 F14 s14 l14 h=>⟨rfl,_,ld (h.le _ _ (l14 _ _ (l3 _ _ q2))) rfl,?_⟩
 replace l3:=aa l3 l14
 refine h.newG fun b15 G15 F15 l15 q15 _ h=> ?_
 replace l3:=aa l3 l15
 have l03:=aa l02 l3
 have e:[x.sco.d,x.sco.k,x.sco.u,x.sco.a].flatMap eI=eI x.sco.d++eI x.sco.k++eI x.sco.u++eI x.sco.a:=by simp
 refine (iI (al:=[Addr.add (a.add 8) 1,Addr.add (a.add 8) 2,Addr.add (a.add 8) 3,Addr.add (a.add 8) 4]) (xs:=[x.sco.d,x.sco.k,x.sco.u,x.sco.a]) q15 rfl (by simp) fun i a' y h1 h2=> ?_).go (le_refl' _) (by rw [e];simp only [List.length_append] at hb ⊢;omega) h fun G16 F16 s16 l16 h=>⟨rfl,G16,s16,rfl,aa l2 (aa l3 l16),nZ h (by rw [e];simp only [List.append_assoc])⟩
 match i with
 |0=>cases h1;cases h2;exact ⟨by rw [fO];exact aq l03 (aF hr rfl),h0.2.2.2.2.2.2.1⟩
 |1=>cases h1;cases h2;exact ⟨by rw [fO];exact aq l03 (aF hr rfl),h0.2.2.2.2.2.2.2.1⟩
 |2=>cases h1;cases h2;exact ⟨by rw [fO];exact aq l03 (aF hr rfl),h0.2.2.2.2.2.2.2.2.1⟩
 |3=>cases h1;cases h2;exact ⟨by rw [fO];exact aq l03 (aF hr rfl),h0.2.2.2.2.2.2.2.2.2⟩
 |i+4=>simp at h1
theorem D9 {a:Addr} {c:Array Value} {x:Lv} (hr:G.row a c) (hc:Mem.rep G x c) (hl:x.ps.length≤1000000000∧x.cond.1.length≤1000000000)
  (h0:(∀y∈x.ps,0≤y)∧0≤x.assoc∧(∀b∈x.cond.1,0≤b.v∧0≤b.l∧0≤b.h)∧0≤x.cond.2):WrS G bc 127 #[pc bc,.pointer (some a)] (.tuple #[]) (eLv x):=by
 obtain ⟨pp,nn,rfl,hp,hn⟩:=hc
 intro G1 F s out l hb h
 unfold eLv at hb ⊢
 refine Hg ?_
 unfold Ds
 refine ⟨_,rfl,?_⟩
 refine (Bj hp (aJ hr rfl) hl.1 h0.1).go l (by simp only [List.length_append] at hb ⊢;omega) h fun G3 F3 s3 l3 h=>⟨rfl,?_⟩
 refine (fo h0.2.1 (aF hr rfl)).go (aa l l3) (by simp only [List.length_append] at hb ⊢;omega) h fun G4 F4 s4 l4 h=>⟨rfl,?_⟩
 refine (ua (d:=x.cond) (jM hr (o:=2) rfl) hn hl.2 h0.2.2).go (aa l (aa l3 l4)) (by simp only [List.length_append] at hb ⊢;omega) h fun G8 F8 s8 l8 h=>⟨rfl,G8,s8,rfl,aa l3 (aa l4 l8),nZ h (by simp only [List.append_assoc])⟩
theorem Bk {a:Addr} {c:Array Value} {x:Fi} (hr:G.row a c) (hc:Mem.rep G x c) (hl:x.toks.length≤1000000000∧x.cond.1.length≤1000000000)
  (h0:0≤x.k∧0≤x.par∧0≤x.pos∧0≤x.ch∧0≤x.left∧0≤x.tok∧(∀y∈x.toks,0≤y)∧(∀b∈x.cond.1,0≤b.v∧0≤b.l∧0≤b.h)∧0≤x.cond.2):WrS G bc 129 #[pc bc,.pointer (some a)] (.tuple #[]) (eFi x):=by
 obtain ⟨pp,nn,rfl,hp,hn⟩:=hc
 intro G1 F s out l hb h
 have e6:[x.k,x.par,x.pos,x.ch,x.left,x.tok].flatMap eI=eI x.k++eI x.par++eI x.pos++eI x.ch++eI x.left++eI x.tok:=by simp
 unfold eFi at hb ⊢
 rw [← e6] at hb ⊢
 refine Hh ?_
 unfold Dt
 refine ⟨_,rfl,?_⟩
 refine h.newG fun b27 G2 F2 l2 q27 _ h=> ?_
 have l02:=aa l l2
 have key:∀(j:Nat) (y:Int),[x.k,x.par,x.pos,x.ch,x.left,x.tok][j]? =some y→0≤y∧∃a',(#[Value.pointer (some a),Value.pointer (some (Addr.add a 1)),Value.pointer (some (Addr.add a 2)),Value.pointer (some (Addr.add a 3)),Value.pointer (some (Addr.add a 4)),Value.pointer (some (Addr.add a 5))]:Array Value)[j]? =some (.pointer (some a'))∧G.cell a'=some (vi y):=by
  intro j y hy
  match j with
  |0=>cases hy;exact ⟨h0.1,_,rfl,aJ hr rfl⟩
  |1=>cases hy;exact ⟨h0.2.1,_,rfl,aF hr rfl⟩
  |2=>cases hy;exact ⟨h0.2.2.1,_,rfl,aF hr rfl⟩
  |3=>cases hy;exact ⟨h0.2.2.2.1,_,rfl,aF hr rfl⟩
  |4=>cases hy;exact ⟨h0.2.2.2.2.1,_,rfl,aF hr rfl⟩
  |5=>cases hy;exact ⟨h0.2.2.2.2.2.1,_,rfl,aF hr rfl⟩
  |j+6=>simp at hy
 generalize hxs:[x.k,x.par,x.pos,x.ch,x.left,x.tok]=xs at*
 have hlen:xs.length=6:=by rw [← hxs];rfl
 refine bW (kB · (some (Addr.mk bc 0 none)) a b27 _) xs.length (fun j F'=>∃G3 s3,G2.le G3∧St G3 F' (cod bc s3 (out++(xs.take j).flatMap eI))) ⟨G2,s,le_refl' _,by simpa using h⟩ ?_
 rintro j F3 N hj ⟨G3,s3,l3,h⟩ next
 unfold kB
 refine ⟨fun hlt=> ?_,fun hge=> ?_⟩
 ·simp only at hlt
  have hlt:j<xs.length:=by omega
  have hx:=List.getElem?_eq_getElem hlt
  obtain ⟨h1,a',h2,h3⟩:=key j _ hx
  refine ⟨_,rfl,by omega,by simp only;omega,some a',?_,?_⟩
  ·rw [Int.toNat_natCast,aD,Nat.mul_one,Nat.zero_add,am (h.le _ _ (l3 _ _ q27))]
   exact h2
  ·have hp:=gi eI xs (j+1)
   have e:=jm eI hx
   rw [e,List.length_append] at hp
   refine (fo h1 h3).go (aa l02 l3) (by simp only [List.length_append] at hb ⊢;omega) h fun G4 F4 s4 l4 h=>⟨rfl,?_⟩
   rw [aQ hlt (by omega)]
   refine next _ hlt ⟨G4,s4,aa l3 l4,?_⟩
   rw [e,← List.append_assoc]
   exact h
 ·simp only at hge
  have e:j=xs.length:=by omega
  subst e
  rw [List.take_length] at h
  unfold td
  refine ⟨_,rfl,?_⟩
  have l03:=aa l02 l3
  refine (Bj hp (aF hr rfl) hl.1 h0.2.2.2.2.2.2.1).go l03 (by simp only [List.length_append] at hb ⊢;omega) h fun G4 F4 s4 l4 h=>⟨rfl,?_⟩
  refine (ua (d:=x.cond) (jM hr (o:=7) rfl) hn hl.2 h0.2.2.2.2.2.2.2).go (aa l03 l4) (by simp only [List.length_append] at hb ⊢;omega) h fun G8 F8 s8 l8 h=>⟨rfl,G8,s8,rfl,aa l2 (aa l3 (aa l4 l8)),nZ h (by simp only [List.append_assoc])⟩
theorem zN {a:Addr} {g:Gr} {c n t s p l f:Sl} (hr:G.row a (g.arr c n t s p l f)) (hs:GS G g c n t s p l f) (hm:Sm g) (h0:NN g):WrS G bc 43 #[pc bc,.pointer (some a)] (.tuple #[]) (eGr g):=by
 intro G1 F sl out lG hb h
 unfold eGr at hb ⊢
 refine M1 ?_
 unfold JW
 refine ⟨_,rfl,?_⟩
 refine (Bi hs.c (aJ hr rfl) hm.c).go lG (by simp only [List.length_append] at hb ⊢;omega) h fun G2 F2 s2 l2 h=>⟨rfl,?_⟩
 replace lG:=aa lG l2
 refine (ua (d:=g.fam) (jM hr (o:=1) rfl) hs.n hm.n h0.fam).go lG (by simp only [List.length_append] at hb ⊢;omega) h fun G3 F3 s3 l3 h=>⟨rfl,?_⟩
 replace lG:=aa lG l3
 refine (A8 (fm (L:=ku) hs.t (aF hr rfl) (by decide) hm.t cbW.2.2.1 eTk (fun p=> #[pc bc,p]) (fun _=>by simp) (fun x hx G3 a c l3 hr hc=>D8 hr hc (hm.ti x hx) (h0.toks x hx)) O0 lG (by simp only [List.length_append] at hb ⊢;omega) h)).mono ?_
 rintro _ F4 ⟨G4,s4,rfl,l4,h⟩
 replace lG:=aa lG l4
 refine ⟨rfl,?_⟩
 refine (Bi hs.s (aF hr rfl) hm.s).go lG (by simp only [List.length_append] at hb ⊢;omega) h fun G5 F5 s5 l5 h=>⟨rfl,?_⟩
 replace lG:=aa lG l5
 refine (A9 (fm (L:=kv) hs.p (aF hr rfl) (by decide) hm.p cbW.2.2.2.1 ePr (fun p=> #[pc bc,p]) (fun _=>by simp) (fun x hx G3 a c l3 hr hc=>sd hr hc (hm.pi x hx) (h0.prods x hx)) O1 lG (by simp only [List.length_append] at hb ⊢;omega) h)).mono ?_
 rintro _ F6 ⟨G6,s6,rfl,l6,h⟩
 replace lG:=aa lG l6
 refine ⟨rfl,?_⟩
 refine (fo h0.start (aF hr rfl)).go lG (by simp only [List.length_append] at hb ⊢;omega) h fun G7 F7 s7 l7 h=>⟨rfl,?_⟩
 replace lG:=aa lG l7
 refine (Ba (fm (L:=kz) hs.l (aF hr rfl) (by decide) hm.l cbW.2.2.2.2.1 eLv (fun p=> #[pc bc,p]) (fun _=>by simp) (fun x hx G3 a c l3 hr hc=>D9 hr hc (hm.li x hx) (h0.lvs x hx)) O2 lG (by simp only [List.length_append] at hb ⊢;omega) h)).mono ?_
 rintro _ F8 ⟨G8,s8,rfl,l8,h⟩
 replace lG:=aa lG l8
 refine ⟨rfl,?_⟩
 refine (Be (fm (L:=kA) hs.f (aF hr rfl) (by decide) hm.f cbW.2.2.2.2.2.1 eFi (fun p=> #[pc bc,p]) (fun _=>by simp) (fun x hx G3 a c l3 hr hc=>Bk hr hc (hm.fi x hx) (h0.fils x hx)) O3 lG (by simp only [List.length_append] at hb ⊢;omega) h)).mono ?_
 rintro _ F9 ⟨G9,s9,rfl,l9,h⟩
 exact ⟨rfl,G9,s9,rfl,aa l2 (aa l3 (aa l4 (aa l5 (aa l6 (aa l7 (aa l8 l9)))))),nZ h (by simp only [List.append_assoc])⟩
end
theorem lZ {F:PH} {v:Array Value} {g:Gr} (hT:Tab F) (hg:GV F v g) (hz:Sz g) (hm:Sm g) (hn:cf g=0→NN g∧(eGr g).length≤100000000000):
  ac prog 14 #[.agg v] F fun r F'=>(∃s:Sl,r=.tuple #[s.v,vi (cf g)]∧RdS F' s 1 ((if cf g=0 then eGr g else []).map vB))∧F.le F':=by
 have hg0:=hg
 obtain ⟨c,n,t,s,p,l,f,rfl,hs⟩:=hg
 refine Qi ?_
 unfold MW
 refine fresh fun b1 F1 l1 q1 _=>⟨_,hg0.size,ak q1,?_⟩
 refine (fa (hT.le l1) (hg0.le l1) hz).mono ?_
 rintro _ F2 ⟨rfl,l2⟩
 have l12:=aa l1 l2
 refine ⟨_,rfl,fun h=>⟨⟨Sl.nil,rfl,?_⟩,l12⟩,fun h0=> ?_⟩
 ·rw [if_neg h];exact RdS.nil _ _
 have h0:cf g=0:=Classical.not_not.1 h0
 obtain ⟨hnn,hlen⟩:=hn h0
 refine (St.start F2).new fun b12 F3 h=> ?_
 replace h:=h.nilOwn 5 1
 refine (zN (ak (l2 _ _ q1)) (hs.le l12) hm hnn).go (out:=[]) (le_refl' _) (by simpa using hlen) h fun G4 F4 s4 l4 h=>⟨rfl,_,h.ld1 rfl,⟨s4,?_,?_⟩,aa l12 (aa l4 h.le)⟩
 ·rw [h0]
 ·rw [if_pos h0]
  exact (h.ownAt (i:=0) rfl).1.rd
end Go.Proofs.YtenpmjhnhepfdaaGreatDoor
