/-
  The codec that writes: tokens, productions, levels, filters, grammars; Encode. Printed in part by a program (mkHr.py).
-/
import Derived.Test.YtenpmjhnhepfdaaGreatDoorHo
namespace Go.Proofs.YtenpmjhnhepfdaaGreatDoor
open Go Go.Proofs.Tryz
set_option maxRecDepth 10000
abbrev Iv (s:Sl):Array Value:= #[vi 0,s.v,vi 0,.bool false]
abbrev cod (bc:Nat) (s:Sl) (out:List Nat):List (PH->Prop):=[own s 5 1 (out.map vB),pt bc (.cells (Iv s) 116)]
def WrS (G:PH) (bc:Nat) (f:FuncId) (args:Array Value) (v:Value) (bx:List Nat):Prop:=
 ∀G1 F s out,G.le G1->out.length+bx.length<=100000000000->St G1 F (cod bc s out)->ae prog f args F fun r F'=>∃G' s',r=v/\G1.le G'/\St G' F' (cod bc s' (out++bx))
theorem WrS.le {G G':PH} {bc:Nat} {f:FuncId} {args:Array Value} {v:Value} {bx:List Nat} (h:WrS G bc f args v bx) (l:G.le G'):WrS G' bc f args v bx:=
 fun G1 F s out l1 hb hs=>h G1 F s out (aa l l1) hb hs
theorem WrS.go {G G1 F:PH} {bc:Nat} {f:FuncId} {args:Array Value} {v:Value} {bx:List Nat} {s:Sl} {out:List Nat} {Q:Value->PH->Prop} (hw:WrS G bc f args v bx) (l:G.le G1) (hb:out.length+bx.length<=100000000000) (h:St G1 F (cod bc s out))
  (k:∀G' F' s',G1.le G'->St G' F' (cod bc s' (out++bx))->Q v F'):ae prog f args F Q:=
 (hw G1 F s out l hb h).mono fun r F' ⟨G',s',e,l',h'⟩=>by rw [e];exact k G' F' s' l' h'
theorem Ar {G F:PH} {As:List (PH->Prop)} {s:Sl} {out:List Nat} (h:St G F (own s 5 1 (out.map vB)::As)):s.len=out.length:=by
 have:=(h.ownAt (i:=0) rfl).1.rd.len
 simp at this
 exact this.symm
abbrev pc (bc:Nat):Value:=.pointer (some (Addr.mk bc 0 none))
theorem E3 {G F:PH} {s:Sl} {out:List Nat} {x:Nat} {As:List (PH->Prop)} (h:St G F (own s 5 1 (out.map vB++ #[vB x].toList)::As)):St G F (own s 5 1 ((out++[x]).map vB)::As):=by
 rw [List.map_append]
 exact h
theorem Iw:∀n:Nat,IntKind.u8.wrap ((BitVec.ofInt (IntKind.u8).bits (IntKind.u8.wrap (n:Int)) ||| BitVec.ofInt (IntKind.u8).bits (128:Int)).toNat)=((n % 128+128:Nat):Int):=by
 intro n
 have e1:IntKind.u8.wrap (n:Int)=((n % 256:Nat):Int):=by simp [IntKind.wrap,IntKind.bits,IntKind.signed]
 rw [e1]
 have key:∀m:Fin 256,IntKind.u8.wrap ((BitVec.ofInt (IntKind.u8).bits ((m.val:Nat):Int) ||| BitVec.ofInt (IntKind.u8).bits (128:Int)).toNat)=((m.val % 128+128:Nat):Int):=by decide+kernel
 have:=key ⟨n % 256,Nat.mod_lt _ (by decide)⟩
 rw [this]
 simp only
 omega
theorem gV {n:Nat} (h:n<128):gZ n=[n]:=by unfold gZ;rw [if_pos h]
theorem wQ {n:Nat} (h:¬n<128):gZ n=(n % 128+128)::gZ (n / 128):=by rw [gZ,if_neg h]
theorem Iy (n:Nat):0<(gZ n).length:=by
 by_cases h:n<128
 ·rw [gV h];simp
 ·rw [wQ h];simp
theorem Iz (n:Nat):Int.fdiv (n:Int) (2 ^ (min (Int.toNat (7:Int)) (IntKind.i64).bits))=((n / 128:Nat):Int):=by
 show Int.fdiv (n:Int) (2 ^ 7)=_
 rw [Int.fdiv_eq_ediv_of_nonneg _ (by decide)]
 norm_cast
theorem kL {G:PH} {bc:Nat} {a:Addr} {n:Nat} (ha:G.cell a=some (vi n)):WrS G bc 125 #[pc bc,.pointer (some a)] (.tuple #[]) (gZ n):=by
 intro G1 F s out l hb h
 refine Rb ?_
 unfold KQ
 refine ⟨_,rfl,_,h.ld1 rfl,fun _=>⟨_,rfl,_,aq (aa l h.le) ha,?_⟩,fun h=>absurd rfl h⟩
 refine ⟨fun m i F'=>∃(k:Nat) (G2:PH) (s2:Sl) (out2:List Nat),i=(k:Int)/\m=k/\G1.le G2/\St G2 F' (cod bc s2 out2)/\out++gZ n=out2++gZ k,n,⟨n,G1,s,out,rfl,rfl,le_refl' _,h,rfl⟩,?_⟩
 rintro m i F2 ⟨k,G2,s2,out2,rfl,hm,l2,h,he⟩
 have hlen:=congrArg List.length he
 rw [List.length_append,List.length_append] at hlen
 have hs2:=Ar h
 have:=Iy k
 unfold Bq
 refine ⟨fun hk=> ?_,fun hk=> ?_⟩
 ·have hk':¬k<128:=by omega
  refine ⟨_,by rw [aK];exact h.ld1 rfl,?_⟩
  rw [Iw,Iz]
  refine h.push0 Ni (c:= #[vB (k % 128+128)]) rfl (by simp [ai]) (by omega) fun s3 G3 F3 l3 h hl3=> ?_
  rw [aK]
  refine h.set1 (w':=Iv s3) (by simp) rfl fun F4 h=> ?_
  refine ⟨k / 128,by have:=Nat.div_lt_self (n:=k) (k:=128) (by omega) (by decide);omega,k / 128,G3,s3,out2++[k % 128+128],rfl,rfl,aa l2 l3,?_,?_⟩
  ·exact E3 h
  ·rw [he,wQ hk',List.append_assoc]
   rfl
 ·have hk':k<128:=by omega
  unfold Bp
  have ew:IntKind.u8.wrap (k:Int)=(k:Int):=by simp [IntKind.wrap,IntKind.bits,IntKind.signed];omega
  rw [ew]
  refine ⟨_,by rw [aK];exact h.ld1 rfl,?_⟩
  refine h.push0 Ni (c:= #[vB k]) rfl (by simp [ai]) (by omega) fun s3 G3 F3 l3 h hl3=> ?_
  rw [aK]
  refine h.set1 (w':=Iv s3) (by simp) rfl fun F4 h=>⟨G3,s3,rfl,aa l2 l3,?_⟩
  rw [he,gV hk']
  exact E3 h
theorem At (G:PH) {bc:Nat} (n:Nat):WrS G bc 178 #[pc bc,vi n] (vi n) (gZ n):=by
 intro G1 F s out l hb h
 refine Rv ?_
 unfold Lf
 refine h.newG fun b3 G2 F2 l2 q3 _ h=> ?_
 refine (kL (ld q3 rfl)).go (le_refl' _) hb h fun G3 F3 s3 l3 h=>⟨rfl,_,rfl,_,h.ld1 rfl,fun h=>(by cases h),fun _=> ?_⟩
 unfold ou
 exact ⟨fun h=>(by cases h),fun _=>⟨_,ld (h.le _ _ (l3 _ _ q3)) rfl,G3,s3,rfl,aa l2 l3,h⟩⟩
theorem pY {G:PH} {bc:Nat} {a:Addr} {x:ByteArray} (ha:G.cell a=some (.string x)):WrS G bc 119 #[pc bc,.pointer (some a)] (.tuple #[]) (eS x):=by
 intro G1 F s out l hb h
 unfold eS at hb ⊢
 rw [List.length_append,bL] at hb
 refine Q3 ?_
 unfold KM
 refine ⟨_,rfl,_,aq (aa l h.le) ha,?_⟩
 refine (At G1 x.size).go (le_refl' _) (by omega) h fun G3 F3 s3 l3 h=>⟨_,rfl,_,rfl,_,h.ld1 rfl,fun _=>⟨_,by rw [aK];exact h.ld1 rfl,_,aq (aa l (aa l3 h.le)) ha,?_⟩,fun h=>absurd rfl h⟩
 have hs3:=Ar h
 rw [List.length_append] at hs3
 refine h.appStrAt Ni underlying9 0 rfl (by omega) fun s4 F4 h hl4=> ?_
 rw [aK]
 refine St.set1 (w':=Iv s4) h (by simp) rfl fun F5 h=>⟨G3,s4,rfl,l3,?_⟩
 rw [<- List.append_assoc]
 show St G3 F5 [own s4 5 1 ((out++gZ x.size++bs x).map vB),_]
 rw [List.map_append (l₂:=bs x)]
 exact h
def im (n:Nat) (X:Addr->Prop) (o:Int->PH->Prop) (m:Option Addr) (l:Addr) (j:Value) (h:Int) (R:VR) (b:Int) (F:PH):Prop:=((b<h-> ∃a:Addr,m=some a/\∃c:Bool,F.cell (Addr.add a 3)=some (.bool c)/\(((!c)=true-> ∃d:Int,F.cell a=some (.int .i64 d)/\((d=(0:Int)-> ∃e:Sl,F.cell l=some (Sl.v e)/\∃i:Addr,e.base=some i/\0<=b/\b<(e.len:Int)/\∃(k:Nat) (f g:Array Value),j=.func (.func k) f g/\aC prog k=true/\ae prog k (f++([.pointer (some (Addr.add i (Int.toNat b*n)))]).toArray++g) F fun v F=>v=(.tuple #[])/\o (IntKind.i64.wrap (b+(1:Int))) F)/\(¬(d=(0:Int))-> X a)))/\((!c)=false-> R (.tuple #[]) F)))/\(¬(b<h)-> R (.tuple #[]) F))
def iV (L:(Int->PH->Prop)->Option Addr->Addr->Value->Int->VR->Int->PH->Prop) (e:Option Addr) (i:Option Addr) (d:Value) (R:VR) (F:PH):Prop:=∃a:Addr,i=some a/\∃b:Sl,F.cell a=some (Sl.v b)/\ae prog 178 #[.pointer e,.int .i64 (b.len:Int)] F fun v F=>∃c:Int,v=(.int .i64 c)/\(∃(j:Nat->Int->PH->Prop) (h:Nat),j h (0:Int) F/\∀h f F,j h f F-> L (fun g F=>∃k,k<h/\j k g F) e a d c R f F)
theorem j7 {α β:Type} {l:List α} {k:Nat} {x:α} (f:α->List β) (h:l[k]? =some x):(l.take (k+1)).flatMap f=(l.take k).flatMap f++f x:=by
 rw [aI h,List.flatMap_append]
 simp
theorem gW {α:Type} (f:α->List Nat) (l:List α) (k:Nat):((l.take k).flatMap f).length<=(l.flatMap f).length:=by
 have:l.flatMap f=(l.take k).flatMap f++(l.drop k).flatMap f:=by rw [<- List.flatMap_append,List.take_append_drop]
 rw [this,List.length_append]
 omega
theorem gf {α:Type} [Mem α] {G:PH} {bc:Nat} {la:Addr} {sl:Sl} {l:List α} (hl:RL G sl l) (hla:G.cell la=some sl.v) (hn:0<Mem.n α) (hll:l.length<=1000000000) {k:Nat} {fst cap:Array Value} (hk:aC prog k=true) (f:α->List Nat) (args:Value->Array Value) (ha:∀p,fst++([p]).toArray++cap=args p)
  (hone:∀x∈l,∀G1 a c,G.le G1->G1.row a c->Mem.rep G1 x c->WrS G1 bc k (args (.pointer (some a))) (.tuple #[]) (f x))
  {L:(Int->PH->Prop)->Option Addr->Addr->Value->Int->VR->Int->PH->Prop} (hL:∀N c0 l1 o v R i F,∃X,L N c0 l1 o v R i F=im (Mem.n α) X N c0 l1 o v R i F)
  {G1 F:PH} {s:Sl} {out:List Nat} (l01:G.le G1) (hb:out.length+(eL f l).length<=100000000000) (h:St G1 F (cod bc s out)):
  iV L (some (Addr.mk bc 0 none)) (some la) (.func (.func k) fst cap) (fun r F'=>∃G' s',r=.tuple #[]/\G1.le G'/\St G' F' (cod bc s' (out++eL f l))) F:=by
 have el:=hl.len hn
 unfold eL at hb ⊢
 rw [List.length_append] at hb
 refine ⟨_,rfl,_,aq (aa l01 h.le) hla,?_⟩
 rw [el]
 refine (At G1 l.length).go (le_refl' _) (by omega) h fun G2 F2 s2 l2 h=>⟨_,rfl,?_⟩
 refine bj (L · _ _ _ _ _) l.length (fun j F'=>∃G3 s3,G2.le G3/\St G3 F' (cod bc s3 (out++gZ l.length++(l.take j).flatMap f))) ⟨G2,s2,le_refl' _,by simpa using h⟩ ?_
 rintro j F3 N hj ⟨G3,s3,l3,h⟩ next
 obtain ⟨X,hX⟩:=hL N (some (Addr.mk bc 0 none)) la (.func (.func k) fst cap) (l.length:Int) (fun r F'=>∃G' s',r=.tuple #[]/\G1.le G'/\St G' F' (cod bc s' (out++(gZ l.length++l.flatMap f)))) (j:Int) F3
 rw [hX]
 unfold im
 have l03:=aa l01 (aa l2 l3)
 refine ⟨fun hlt=> ?_,fun hge=> ?_⟩
 ·have hlt:j<l.length:=by omega
  refine ⟨_,rfl,_,by rw [aK];exact h.ld1 rfl,fun _=>⟨_,h.ld1 rfl,fun _=>⟨_,aq (aa l03 h.le) hla,?_⟩,fun h=>absurd rfl h⟩,fun h=>(by cases h)⟩
  refine ixc (hl.le l03) hn (by omega) (by omega) fun a c x hx hr hc=>⟨k,fst,cap,rfl,hk,?_⟩
  rw [Int.toNat_natCast] at hx
  have hxm:x∈l:=List.mem_of_getElem? hx
  have e:=j7 f hx
  have hp:=gW f l (j+1)
  rw [e,List.length_append] at hp
  rw [ha]
  refine (hone x hxm G3 _ c l03 hr hc).go (le_refl' _) (by rw [List.length_append,List.length_append];omega) h fun G4 F4 s4 l4 h=>⟨rfl,?_⟩
  rw [aB hlt (by omega)]
  refine next _ hlt ⟨G4,s4,aa l3 l4,?_⟩
  rw [e,<- List.append_assoc]
  exact h
 ·have e:j=l.length:=by omega
  subst e
  rw [List.take_length] at h
  exact ⟨G3,s3,rfl,aa l2 l3,by rw [<- List.append_assoc];exact h⟩
theorem gy (a:Addr) (i j:Nat):Addr.add (Addr.add a i) j=Addr.add a (i+j):=by
 unfold Addr.add
 by_cases hi:i=0
 ·simp [hi]
 ·by_cases hj:j=0
  ·simp [hj]
  ·simp [hi,hj,Nat.add_assoc]
theorem fu {F:PH} {a:Addr} {c d:Array Value} {o:Nat} (h:F.row a c) (hd:(c.toList.drop o).take d.size=d.toList):F.row (a.add o) d:=by
 intro i hi
 rw [gy]
 have:=congrArg (fun l=>l[i]?) hd
 simp only [List.getElem?_take_of_lt hi,List.getElem?_drop,Array.getElem?_toList] at this
 exact aD h (this.trans (by simp [hi]))
theorem cbW:aC prog 119=true/\aC prog 125=true/\aC prog 122=true/\aC prog 124=true/\aC prog 127=true/\aC prog 129=true/\
 aC prog 180=true/\aC prog 183=true/\aC prog 185=true/\aC prog 188=true:=by
 refine ⟨?_,?_,?_,?_,?_,?_,?_,?_,?_,?_⟩<;>kernel_rfl
section
variable {G:PH} {bc:Nat}
theorem gg {a:Addr} {x:Int} (h0:0<=x) (ha:G.cell a=some (vi x)):WrS G bc 125 #[pc bc,.pointer (some a)] (.tuple #[]) (eI x):=by
 obtain ⟨n,rfl⟩:=Int.eq_ofNat_of_zero_le h0
 exact kL ha
theorem T2:eB true=gZ 1:=(gV (by decide)).symm
theorem T3:eB false=gZ 0:=(gV (by decide)).symm
theorem jr {b:Nat} {al:List Addr} {xs:List Int} {e:TypeId} (q:G b=some (.cells (al.map fun a=>Value.pointer (some a)).toArray e)) (hl:al.length=xs.length) (hll:xs.length<=100)
  (ha:∀(i:Nat) a x,al[i]? =some a->xs[i]? =some x->G.cell a=some (vi x)/\0<=x):
  WrS G bc 181 #[pc bc,Sl.v ⟨some (Addr.mk b 0 none),al.length,al.length⟩] (.tuple #[]) (xs.flatMap eI):=by
 intro G1 F s out l hb h
 refine RC ?_
 unfold Lj
 refine bj (uV · (some (Addr.mk bc 0 none)) ⟨some (Addr.mk b 0 none),al.length,al.length⟩ _) xs.length (fun j F'=>∃G3 s3,G1.le G3/\St G3 F' (cod bc s3 (out++(xs.take j).flatMap eI))) ⟨G1,s,le_refl' _,by simpa using h⟩ ?_
 rintro j F3 N hj ⟨G3,s3,l3,h⟩ next
 unfold uV
 have l03:=aa l l3
 refine ⟨fun hlt=> ?_,fun hge=> ?_⟩
 ·simp only at hlt
  have hlt:j<xs.length:=by omega
  have hx:=List.getElem?_eq_getElem hlt
  have haj:=List.getElem?_eq_getElem (l:=al) (by omega:j<al.length)
  obtain ⟨h1,h2⟩:=ha j _ _ haj hx
  refine ⟨_,rfl,by omega,by simp only;omega,some al[j],?_,?_⟩
  ·rw [Int.toNat_natCast,aK,Nat.mul_one,Nat.zero_add,am (h.le _ _ (l03 _ _ q))]
   simp [haj]
  ·have hp:=gW eI xs (j+1)
   have e:=j7 eI hx
   rw [e,List.length_append] at hp
   refine (gg h2 h1).go l03 (by rw [List.length_append];omega) h fun G4 F4 s4 l4 h=>⟨rfl,?_⟩
   rw [aB hlt (by omega)]
   refine next _ hlt ⟨G4,s4,aa l3 l4,?_⟩
   rw [e,<- List.append_assoc]
   exact h
 ·simp only at hge
  have e:j=xs.length:=by omega
  subst e
  rw [List.take_length] at h
  exact ⟨G3,s3,rfl,l3,h⟩
theorem yo {a:Addr} {b:Bool} (ha:G.cell a=some (.bool b)):WrS G bc 186 #[pc bc,.pointer (some a)] (.tuple #[]) (eB b):=by
 intro G1 F s out l hb h
 refine RR ?_
 unfold Lu
 refine h.new fun b4 F2 h=> ?_
 refine h.set0 (by simp) rfl fun F3 h=>⟨_,rfl,_,aq (aa l h.le) ha,fun hbt=> ?_,fun hbf=> ?_⟩
 ·subst hbt
  rw [T2] at hb ⊢
  refine h.set0 (w':= #[vi 1]) (by simp) rfl fun F4 h=> ?_
  refine h.pinb (K:=fun F4=>jA (some (Addr.mk bc 0 none)) (some a) b4 _ F4) fun G5 l5 q5 h=> ?_
  unfold jA
  exact (kL (n:=1) (ld q5 rfl)).go (le_refl' _) hb h fun G6 F6 s6 l6 h=>⟨rfl,_,rfl,_,h.ld1 rfl,fun h=>(by cases h),fun _=>⟨G6,s6,rfl,aa l5 l6,h⟩⟩
 ·subst hbf
  rw [T3] at hb ⊢
  refine h.pinb (K:=fun F4=>jA (some (Addr.mk bc 0 none)) (some a) b4 _ F4) fun G5 l5 q5 h=> ?_
  unfold jA
  exact (kL (n:=0) (ld q5 rfl)).go (le_refl' _) hb h fun G6 F6 s6 l6 h=>⟨rfl,_,rfl,_,h.ld1 rfl,fun h=>(by cases h),fun _=>⟨G6,s6,rfl,aa l5 l6,h⟩⟩
theorem E4 {b2:Nat} {a:Addr} {c:Array Value} {x:Br} (q:G.cell (Addr.mk b2 0 none)=some (pc bc)) (hr:G.row a c) (hc:Mem.rep G x c) (h0:0<=x.v/\0<=x.l/\0<=x.h):
  WrS G bc 180 #[.pointer (some a),.pointer (some (Addr.mk b2 0 none))] (.tuple #[]) (eBr x):=by
 intro G1 F s out l hb h
 rw [show c=aQ x from hc] at hr
 refine RA ?_
 unfold Lh
 refine ⟨_,rfl,_,aq (aa l h.le) q,_,rfl,?_⟩
 refine h.newG fun b13 G2 F2 l2 q13 _ h=> ?_
 have e:[x.v,x.l,x.h].flatMap eI=eBr x:=by simp [eBr]
 rw [<- e] at hb ⊢
 refine (jr (al:=[a,a.add 1,a.add 2]) (xs:=[x.v,x.l,x.h]) q13 rfl (by simp) fun i a' y h1 h2=> ?_).go (le_refl' _) hb h fun G3 F3 s3 l3 h=>⟨rfl,G3,s3,rfl,aa l2 l3,h⟩
 have l02:=aa l l2
 match i with
 |0=>cases h1;cases h2;exact ⟨aq l02 (aF hr rfl),h0.1⟩
 |1=>cases h1;cases h2;exact ⟨aq l02 (aD hr rfl),h0.2.1⟩
 |2=>cases h1;cases h2;exact ⟨aq l02 (aD hr rfl),h0.2.2⟩
 |i+3=>simp at h1
theorem M4 {b2:Nat} {a:Addr} {c:Array Value} {x:Nd} (q:G.cell (Addr.mk b2 0 none)=some (pc bc)) (hr:G.row a c) (hc:Mem.rep G x c) (h0:0<=x.k/\0<=x.lo/\0<=x.hi/\0<=x.a/\0<=x.b):
  WrS G bc 183 #[.pointer (some a),.pointer (some (Addr.mk b2 0 none))] (.tuple #[]) (eNd x):=by
 intro G1 F s out l hb h
 rw [show c=x.arr from hc] at hr
 refine RM ?_
 unfold Ll
 refine ⟨_,rfl,_,aq (aa l h.le) q,_,rfl,?_⟩
 refine h.newG fun b13 G2 F2 l2 q13 _ h=> ?_
 have e:[x.k,x.lo,x.hi,x.a,x.b].flatMap eI=eNd x:=by simp [eNd]
 rw [<- e] at hb ⊢
 refine (jr (al:=[a,a.add 1,a.add 2,a.add 3,a.add 4]) (xs:=[x.k,x.lo,x.hi,x.a,x.b]) q13 rfl (by simp) fun i a' y h1 h2=> ?_).go (le_refl' _) hb h fun G3 F3 s3 l3 h=>⟨rfl,G3,s3,rfl,aa l2 l3,h⟩
 have l02:=aa l l2
 match i with
 |0=>cases h1;cases h2;exact ⟨aq l02 (aF hr rfl),h0.1⟩
 |1=>cases h1;cases h2;exact ⟨aq l02 (aD hr rfl),h0.2.1⟩
 |2=>cases h1;cases h2;exact ⟨aq l02 (aD hr rfl),h0.2.2.1⟩
 |3=>cases h1;cases h2;exact ⟨aq l02 (aD hr rfl),h0.2.2.2.1⟩
 |4=>cases h1;cases h2;exact ⟨aq l02 (aD hr rfl),h0.2.2.2.2⟩
 |i+5=>simp at h1
theorem uu {b2:Nat} {a:Addr} {c:Array Value} {x:Cn} (q:G.cell (Addr.mk b2 0 none)=some (pc bc)) (hr:G.row a c) (hc:Mem.rep G x c) (h0:0<=x.k/\0<=x.a/\0<=x.b):
  WrS G bc 188 #[.pointer (some a),.pointer (some (Addr.mk b2 0 none))] (.tuple #[]) (eCn x):=by
 intro G1 F s out l hb h
 rw [show c=x.arr from hc] at hr
 refine RW ?_
 unfold Lw
 refine ⟨_,rfl,_,aq (aa l h.le) q,_,rfl,?_⟩
 refine h.newG fun b13 G2 F2 l2 q13 _ h=> ?_
 have e:[x.k,x.a,x.b].flatMap eI=eCn x:=by simp [eCn]
 rw [<- e] at hb ⊢
 refine (jr (al:=[a,a.add 1,a.add 2]) (xs:=[x.k,x.a,x.b]) q13 rfl (by simp) fun i a' y h1 h2=> ?_).go (le_refl' _) hb h fun G3 F3 s3 l3 h=>⟨rfl,G3,s3,rfl,aa l2 l3,h⟩
 have l02:=aa l l2
 match i with
 |0=>cases h1;cases h2;exact ⟨aq l02 (aF hr rfl),h0.1⟩
 |1=>cases h1;cases h2;exact ⟨aq l02 (aD hr rfl),h0.2.1⟩
 |2=>cases h1;cases h2;exact ⟨aq l02 (aD hr rfl),h0.2.2⟩
 |i+3=>simp at h1
theorem E5 {b2:Nat} {a:Addr} {c:Array Value} {x:Sy} (q:G.cell (Addr.mk b2 0 none)=some (pc bc)) (hr:G.row a c) (hc:Mem.rep G x c) (h0:0<=x.i):
  WrS G bc 185 #[.pointer (some a),.pointer (some (Addr.mk b2 0 none))] (.tuple #[]) (eSy x):=by
 intro G1 F s out l hb h
 rw [show c=x.arr from hc] at hr
 unfold eSy at hb ⊢
 rw [List.length_append] at hb
 refine RQ ?_
 unfold Lm
 refine ⟨_,rfl,_,aq (aa l h.le) q,_,rfl,?_⟩
 refine (yo (aq l (aF hr rfl))).go (le_refl' _) (by omega) h fun G3 F3 s3 l3 h=>⟨rfl,_,aq (aa l (aa l3 h.le)) q,?_⟩
 refine (gg h0 (aq (aa l l3) (aD hr rfl))).go (le_refl' _) (by rw [List.length_append];omega) h fun G4 F4 s4 l4 h=>⟨rfl,G4,s4,rfl,aa l3 l4,?_⟩
 rw [<- List.append_assoc]
 exact h
theorem T4:∀N c0 l1 o v R i F,∃X,ow N c0 l1 o v R i F=im 3 X N c0 l1 o v R i F:=fun _ _ _ _ _ _ _ _=>⟨_,rfl⟩
theorem M5 {c0 l1:Option Addr} {o:Value} {R:VR} {F:PH} (h:iV ow c0 l1 o R F):ae prog 179 #[.pointer c0,.pointer l1,o] F R:=Rz h
theorem wR {a:Addr} {n:Sl} {d:Dia} (hr:G.row a #[n.v,vi d.2]) (hn:RL G n d.1) (hl:d.1.length<=1000000000) (h0:(∀b∈d.1,0<=b.v/\0<=b.l/\0<=b.h)/\0<=d.2):
  WrS G bc 120 #[pc bc,.pointer (some a)] (.tuple #[]) (eD d):=by
 intro G1 F s out l hb h
 unfold eD at hb ⊢
 rw [List.length_append] at hb
 refine Q4 ?_
 unfold KN
 refine h.newG fun b2 G2 F2 l2 q2 _ h=>⟨_,ld (h.le _ _ q2) rfl,_,rfl,?_⟩
 have l02:=aa l l2
 refine (M5 (gf (L:=ow) (hn.le l02) (aq l02 (aF hr rfl)) (by decide) hl cbW.2.2.2.2.2.2.1 eBr (fun p=> #[p,.pointer (some (Addr.mk b2 0 none))]) (fun _=>by simp)
  (fun x hx G3 a c l3 hr hc=>E4 (ld (l3 _ _ q2) rfl) hr hc (h0.1 x hx)) T4 (le_refl' _) (by omega) h)).mono ?_
 rintro _ F3 ⟨G3,s3,rfl,l3,h⟩
 refine ⟨rfl,_,ld (h.le _ _ (l3 _ _ q2)) rfl,?_⟩
 refine (gg h0.2 (aq (aa l02 l3) (aD hr rfl))).go (le_refl' _) (by rw [List.length_append];omega) h fun G4 F4 s4 l4 h=>⟨rfl,G4,s4,rfl,aa l2 (aa l3 l4),?_⟩
 rw [<- List.append_assoc]
 exact h
end
theorem St.pinE {G F:PH} {As:List (PH->Prop)} {b:Nat} {o:Obj} (h:St G F (pt b o::As)):∃G',G.le G'/\G' b=some o/\St G' F As:=by
 obtain ⟨G',h1,⟨H,hA,hH⟩,h2⟩:=h.pin
 exact ⟨G',h1,hH _ _ hA,h2⟩
theorem St.pinO {G F:PH} {As:List (PH->Prop)} {e n:Nat} {s:Sl} {vs:List Value} (h:St G F (own s e n vs::As)):∃G',G.le G'/\RdS G' s n vs/\St G' F As:=by
 obtain ⟨G',h1,⟨H,hA,hH⟩,h2⟩:=h.pin
 exact ⟨G',h1,(bA.rd hA).le hH,h2⟩
theorem shS:∀N c0 l1 o v R i F,∃X,oc N c0 l1 o v R i F=im 1 X N c0 l1 o v R i F:=fun _ _ _ _ _ _ _ _=>⟨_,rfl⟩
theorem Pc {c0 l1:Option Addr} {o:Value} {R:VR} {F:PH} (h:iV oc c0 l1 o R F):ae prog 118 #[.pointer c0,.pointer l1,o] F R:=Q2 h
theorem T5:∀N c0 l1 o v R i F,∃X,od N c0 l1 o v R i F=im 7 X N c0 l1 o v R i F:=fun _ _ _ _ _ _ _ _=>⟨_,rfl⟩
theorem M6 {c0 l1:Option Addr} {o:Value} {R:VR} {F:PH} (h:iV od c0 l1 o R F):ae prog 121 #[.pointer c0,.pointer l1,o] F R:=Q6 h
theorem T6:∀N c0 l1 o v R i F,∃X,oe N c0 l1 o v R i F=im 13 X N c0 l1 o v R i F:=fun _ _ _ _ _ _ _ _=>⟨_,rfl⟩
theorem M7 {c0 l1:Option Addr} {o:Value} {R:VR} {F:PH} (h:iV oe c0 l1 o R F):ae prog 123 #[.pointer c0,.pointer l1,o] F R:=Q9 h
theorem T7:∀N c0 l1 o v R i F,∃X,og N c0 l1 o v R i F=im 4 X N c0 l1 o v R i F:=fun _ _ _ _ _ _ _ _=>⟨_,rfl⟩
theorem M8 {c0 l1:Option Addr} {o:Value} {R:VR} {F:PH} (h:iV og c0 l1 o R F):ae prog 126 #[.pointer c0,.pointer l1,o] F R:=Rd h
theorem T8:∀N c0 l1 o v R i F,∃X,om N c0 l1 o v R i F=im 9 X N c0 l1 o v R i F:=fun _ _ _ _ _ _ _ _=>⟨_,rfl⟩
theorem M9 {c0 l1:Option Addr} {o:Value} {R:VR} {F:PH} (h:iV om c0 l1 o R F):ae prog 128 #[.pointer c0,.pointer l1,o] F R:=Rg h
theorem T9:∀N c0 l1 o v R i F,∃X,ox N c0 l1 o v R i F=im 5 X N c0 l1 o v R i F:=fun _ _ _ _ _ _ _ _=>⟨_,rfl⟩
theorem Na {c0 l1:Option Addr} {o:Value} {R:VR} {F:PH} (h:iV ox c0 l1 o R F):ae prog 182 #[.pointer c0,.pointer l1,o] F R:=RJ h
theorem Ua:∀N c0 l1 o v R i F,∃X,oA N c0 l1 o v R i F=im 2 X N c0 l1 o v R i F:=fun _ _ _ _ _ _ _ _=>⟨_,rfl⟩
theorem Nc {c0 l1:Option Addr} {o:Value} {R:VR} {F:PH} (h:iV oA c0 l1 o R F):ae prog 184 #[.pointer c0,.pointer l1,o] F R:=RO h
theorem Ub:∀N c0 l1 o v R i F,∃X,oB N c0 l1 o v R i F=im 3 X N c0 l1 o v R i F:=fun _ _ _ _ _ _ _ _=>⟨_,rfl⟩
theorem Nf {c0 l1:Option Addr} {o:Value} {R:VR} {F:PH} (h:iV oB c0 l1 o R F):ae prog 187 #[.pointer c0,.pointer l1,o] F R:=RV h
theorem shI:∀N c0 l1 o v R i F,∃X,oC N c0 l1 o v R i F=im 1 X N c0 l1 o v R i F:=fun _ _ _ _ _ _ _ _=>⟨_,rfl⟩
theorem Pd {c0 l1:Option Addr} {o:Value} {R:VR} {F:PH} (h:iV oC c0 l1 o R F):ae prog 189 #[.pointer c0,.pointer l1,o] F R:=RY h
section
variable {G:PH} {bc:Nat}
theorem E6 {la:Addr} {sl:Sl} {l:List ByteArray} (hl:RL G sl l) (hla:G.cell la=some sl.v) (hll:l.length<=1000000000):WrS G bc 118 #[pc bc,.pointer (some la),.func (.func 119) #[pc bc] #[]] (.tuple #[]) (eL eS l):=by
 intro G1 F s out l1 hb h
 exact Pc (gf (L:=oc) hl hla (by decide) hll cbW.1 eS (fun p=> #[pc bc,p]) (fun _=>by simp) (fun x hx G3 a c l3 hr hc=>pY (aF hr (by rw [show c= #[.string x] from hc];rfl))) shS l1 hb h)
theorem E7 {la:Addr} {sl:Sl} {l:List Int} (hl:RL G sl l) (hla:G.cell la=some sl.v) (hll:l.length<=1000000000) (h0:∀x∈l,0<=x):WrS G bc 189 #[pc bc,.pointer (some la),.func (.func 125) #[pc bc] #[]] (.tuple #[]) (eL eI l):=by
 intro G1 F s out l1 hb h
 exact Pd (gf (L:=oC) hl hla (by decide) hll cbW.2.1 eI (fun p=> #[pc bc,p]) (fun _=>by simp) (fun x hx G3 a c l3 hr hc=>gg (h0 x hx) (aF hr (by rw [show c= #[vi x] from hc];rfl))) shI l1 hb h)
theorem IA {la:Addr} {sl:Sl} {l:List Nd} {b2:Nat} (q:G.cell (Addr.mk b2 0 none)=some (pc bc)) (hl:RL G sl l) (hla:G.cell la=some sl.v) (hll:l.length<=1000000000) (h0:∀x∈l,0<=x.k/\0<=x.lo/\0<=x.hi/\0<=x.a/\0<=x.b):WrS G bc 182 #[pc bc,.pointer (some la),.func (.func 183) #[] #[.pointer (some (Addr.mk b2 0 none))]] (.tuple #[]) (eL eNd l):=by
 intro G1 F s out l1 hb h
 exact Na (gf (L:=ox) hl hla (by decide) hll cbW.2.2.2.2.2.2.2.1 eNd (fun p=> #[p,.pointer (some (Addr.mk b2 0 none))]) (fun _=>by simp) (fun x hx G3 a c l3 hr hc=>M4 (aq l3 q) hr hc (h0 x hx)) T9 l1 hb h)
theorem Ng {la:Addr} {sl:Sl} {l:List Sy} {b2:Nat} (q:G.cell (Addr.mk b2 0 none)=some (pc bc)) (hl:RL G sl l) (hla:G.cell la=some sl.v) (hll:l.length<=1000000000) (h0:∀x∈l,0<=x.i):WrS G bc 184 #[pc bc,.pointer (some la),.func (.func 185) #[] #[.pointer (some (Addr.mk b2 0 none))]] (.tuple #[]) (eL eSy l):=by
 intro G1 F s out l1 hb h
 exact Nc (gf (L:=oA) hl hla (by decide) hll cbW.2.2.2.2.2.2.2.2.1 eSy (fun p=> #[p,.pointer (some (Addr.mk b2 0 none))]) (fun _=>by simp) (fun x hx G3 a c l3 hr hc=>E5 (aq l3 q) hr hc (h0 x hx)) Ua l1 hb h)
theorem Nh {la:Addr} {sl:Sl} {l:List Cn} {b2:Nat} (q:G.cell (Addr.mk b2 0 none)=some (pc bc)) (hl:RL G sl l) (hla:G.cell la=some sl.v) (hll:l.length<=1000000000) (h0:∀x∈l,0<=x.k/\0<=x.a/\0<=x.b):WrS G bc 187 #[pc bc,.pointer (some la),.func (.func 188) #[] #[.pointer (some (Addr.mk b2 0 none))]] (.tuple #[]) (eL eCn l):=by
 intro G1 F s out l1 hb h
 exact Nf (gf (L:=oB) hl hla (by decide) hll cbW.2.2.2.2.2.2.2.2.2 eCn (fun p=> #[p,.pointer (some (Addr.mk b2 0 none))]) (fun _=>by simp) (fun x hx G3 a c l3 hr hc=>uu (aq l3 q) hr hc (h0 x hx)) Ub l1 hb h)
theorem pZ {G F:PH} {bc:Nat} {s:Sl} {o p:List Nat} (h:St G F (cod bc s o)) (e:o=p):St G F (cod bc s p):=by rw [<- e];exact h
theorem IB {a:Addr} {c:Array Value} {x:Tk} (hr:G.row a c) (hc:Mem.rep G x c) (hl:x.pat.length<=1000000000/\x.cond.1.length<=1000000000)
  (h0:0<=x.cls/\(∀y∈x.pat,0<=y.k/\0<=y.lo/\0<=y.hi/\0<=y.a/\0<=y.b)/\(∀b∈x.cond.1,0<=b.v/\0<=b.l/\0<=b.h)/\0<=x.cond.2):WrS G bc 122 #[pc bc,.pointer (some a)] (.tuple #[]) (eTk x):=by
 obtain ⟨pp,nn,rfl,hp,hn⟩:=hc
 intro G1 F s out l hb h
 unfold eTk at hb ⊢
 refine Q7 ?_
 unfold KO
 refine h.newG fun b2 G2 F2 l2 q2 _ h=>⟨_,ld (h.le _ _ q2) rfl,_,rfl,?_⟩
 have l02:=aa l l2
 refine (pY (aq l02 (aF hr rfl))).go (le_refl' _) (by simp only [List.length_append] at hb ⊢;omega) h fun G3 F3 s3 l3 h=>⟨rfl,_,ld (h.le _ _ (l3 _ _ q2)) rfl,?_⟩
 refine (gg h0.1 (aq (aa l02 l3) (aD hr rfl))).go (le_refl' _) (by simp only [List.length_append] at hb ⊢;omega) h fun G4 F4 s4 l4 h=>⟨rfl,_,ld (h.le _ _ (l4 _ _ (l3 _ _ q2))) rfl,?_⟩
 replace l3:=aa l3 l4
 refine (pY (aq (aa l02 l3) (aD hr rfl))).go (le_refl' _) (by simp only [List.length_append] at hb ⊢;omega) h fun G5 F5 s5 l5 h=>⟨rfl,_,ld (h.le _ _ (l5 _ _ (l3 _ _ q2))) rfl,?_⟩
 replace l3:=aa l3 l5
 refine (IA (ld (l3 _ _ q2) rfl) (hp.le (aa l02 l3)) (aq (aa l02 l3) (aD hr rfl)) hl.1 h0.2.1).go (le_refl' _) (by simp only [List.length_append] at hb ⊢;omega) h fun G6 F6 s6 l6 h=>⟨rfl,_,ld (h.le _ _ (l6 _ _ (l3 _ _ q2))) rfl,?_⟩
 replace l3:=aa l3 l6
 refine (pY (aq (aa l02 l3) (aD hr rfl))).go (le_refl' _) (by simp only [List.length_append] at hb ⊢;omega) h fun G7 F7 s7 l7 h=>⟨rfl,_,ld (h.le _ _ (l7 _ _ (l3 _ _ q2))) rfl,?_⟩
 replace l3:=aa l3 l7
 refine (wR (d:=x.cond) (fu (kf (aa l02 l3) hr) (o:=5) rfl) (hn.le (aa l02 l3)) hl.2 h0.2.2).go (le_refl' _) (by simp only [List.length_append] at hb ⊢;omega) h fun G8 F8 s8 l8 h=>⟨rfl,G8,s8,rfl,aa l2 (aa l3 l8),pZ h (by simp only [List.append_assoc])⟩
theorem uv {a:Addr} {c:Array Value} {x:Pr} (hr:G.row a c) (hc:Mem.rep G x c) (hl:x.right.length<=1000000000/\x.cond.1.length<=1000000000/\x.lay.length<=1000000000)
  (h0:0<=x.left/\(∀s∈x.right,0<=s.i)/\((∀b∈x.cond.1,0<=b.v/\0<=b.l/\0<=b.h)/\0<=x.cond.2)/\-1<=x.rank/\x.rank<=1/\(∀y∈x.lay,0<=y.k/\0<=y.a/\0<=y.b)/\0<=x.sco.d/\0<=x.sco.k/\0<=x.sco.u/\0<=x.sco.a):
  WrS G bc 124 #[pc bc,.pointer (some a)] (.tuple #[]) (ePr x):=by
 obtain ⟨pp,nn,mm,rfl,hp,hn,hm⟩:=hc
 intro G1 F s out l hb h
 unfold ePr Pg at hb ⊢
 refine Ra ?_
 unfold KP
 refine h.newG fun b2 G2 F2 l2 q2 _ h=>⟨_,ld (h.le _ _ q2) rfl,_,rfl,?_⟩
 have l02:=aa l l2
 refine (pY (aq l02 (aF hr rfl))).go (le_refl' _) (by simp only [List.length_append] at hb ⊢;omega) h fun G3 F3 s3 l3 h=>⟨rfl,_,ld (h.le _ _ (l3 _ _ q2)) rfl,?_⟩
 refine (gg h0.1 (aq (aa l02 l3) (aD hr rfl))).go (le_refl' _) (by simp only [List.length_append] at hb ⊢;omega) h fun G4 F4 s4 l4 h=>⟨rfl,_,ld (h.le _ _ (l4 _ _ (l3 _ _ q2))) rfl,?_⟩
 replace l3:=aa l3 l4
 refine (Ng (ld (l3 _ _ q2) rfl) (hp.le (aa l02 l3)) (aq (aa l02 l3) (aD hr rfl)) hl.1 h0.2.1).go (le_refl' _) (by simp only [List.length_append] at hb ⊢;omega) h fun G6 F6 s6 l6 h=>⟨rfl,_,ld (h.le _ _ (l6 _ _ (l3 _ _ q2))) rfl,?_⟩
 replace l3:=aa l3 l6
 refine (wR (d:=x.cond) (fu (kf (aa l02 l3) hr) (o:=3) rfl) (hn.le (aa l02 l3)) hl.2.1 h0.2.2.1).go (le_refl' _) (by simp only [List.length_append] at hb ⊢;omega) h fun G7 F7 s7 l7 h=>⟨rfl,_,ld (h.le _ _ (l7 _ _ (l3 _ _ q2))) rfl,?_⟩
 replace l3:=aa l3 l7
 refine (yo (aq (aa l02 l3) (aD hr rfl))).go (le_refl' _) (by simp only [List.length_append] at hb ⊢;omega) h fun G8 F8 s8 l8 h=>⟨rfl,_,aq (aa (aa l02 l3) (aa l8 h.le)) (aD hr rfl),?_⟩
 replace l3:=aa l3 l8
 have ew:IntKind.i64.wrap (x.rank+1)=x.rank+1:=aN (by omega) (by omega)
 dsimp only
 rw [ew]
 refine h.new fun b4 F9 h=> ?_
 refine h.set0 (w':= #[vi (x.rank+1)]) (by simp) rfl fun F10 h=> ?_
 obtain ⟨G11,l11,q4,h⟩:=h.pinE
 refine ⟨_,ld (h.le _ _ (l11 _ _ (l3 _ _ q2))) rfl,?_⟩
 replace l3:=aa l3 l11
 refine (gg (by omega) (ld q4 rfl)).go (le_refl' _) (by simp only [List.length_append] at hb ⊢;omega) h fun G12 F12 s12 l12 h=>⟨rfl,_,ld (h.le _ _ (l12 _ _ (l3 _ _ q2))) rfl,_,rfl,_,h.ld1 rfl,fun h=>(by cases h),fun _=> ?_⟩
 replace l3:=aa l3 l12
 unfold uP
 refine ⟨_,ld (h.le _ _ (l3 _ _ q2)) rfl,?_⟩
 refine (Nh (ld (l3 _ _ q2) rfl) (hm.le (aa l02 l3)) (aq (aa l02 l3) (aD hr rfl)) hl.2.2 h0.2.2.2.2.2.1).go (le_refl' _) (by simp only [List.length_append] at hb ⊢;omega) h fun G13 F13 s13 l13 h=>⟨rfl,_,ld (h.le _ _ (l13 _ _ (l3 _ _ q2))) rfl,?_⟩
 replace l3:=aa l3 l13
 refine (yo (aq (aa l02 l3) (aD hr rfl))).go (le_refl' _) (by simp only [List.length_append] at hb ⊢;omega) h fun G14 F14 s14 l14 h=>⟨rfl,_,ld (h.le _ _ (l14 _ _ (l3 _ _ q2))) rfl,?_⟩
 replace l3:=aa l3 l14
 refine h.newG fun b15 G15 F15 l15 q15 _ h=> ?_
 replace l3:=aa l3 l15
 have l03:=aa l02 l3
 have e:[x.sco.d,x.sco.k,x.sco.u,x.sco.a].flatMap eI=eI x.sco.d++eI x.sco.k++eI x.sco.u++eI x.sco.a:=by simp
 refine (jr (al:=[Addr.add (a.add 8) 1,Addr.add (a.add 8) 2,Addr.add (a.add 8) 3,Addr.add (a.add 8) 4]) (xs:=[x.sco.d,x.sco.k,x.sco.u,x.sco.a]) q15 rfl (by simp) fun i a' y h1 h2=> ?_).go (le_refl' _) (by rw [e];simp only [List.length_append] at hb ⊢;omega) h fun G16 F16 s16 l16 h=>⟨rfl,G16,s16,rfl,aa l2 (aa l3 l16),pZ h (by rw [e];simp only [List.append_assoc])⟩
 match i with
 |0=>cases h1;cases h2;exact ⟨by rw [gy];exact aq l03 (aD hr rfl),h0.2.2.2.2.2.2.1⟩
 |1=>cases h1;cases h2;exact ⟨by rw [gy];exact aq l03 (aD hr rfl),h0.2.2.2.2.2.2.2.1⟩
 |2=>cases h1;cases h2;exact ⟨by rw [gy];exact aq l03 (aD hr rfl),h0.2.2.2.2.2.2.2.2.1⟩
 |3=>cases h1;cases h2;exact ⟨by rw [gy];exact aq l03 (aD hr rfl),h0.2.2.2.2.2.2.2.2.2⟩
 |i+4=>simp at h1
theorem IC {a:Addr} {c:Array Value} {x:Lv} (hr:G.row a c) (hc:Mem.rep G x c) (hl:x.ps.length<=1000000000/\x.cond.1.length<=1000000000)
  (h0:(∀y∈x.ps,0<=y)/\0<=x.assoc/\(∀b∈x.cond.1,0<=b.v/\0<=b.l/\0<=b.h)/\0<=x.cond.2):WrS G bc 127 #[pc bc,.pointer (some a)] (.tuple #[]) (eLv x):=by
 obtain ⟨pp,nn,rfl,hp,hn⟩:=hc
 intro G1 F s out l hb h
 unfold eLv at hb ⊢
 refine Re ?_
 unfold KR
 refine ⟨_,rfl,?_⟩
 refine (E7 hp (aF hr rfl) hl.1 h0.1).go l (by simp only [List.length_append] at hb ⊢;omega) h fun G3 F3 s3 l3 h=>⟨rfl,?_⟩
 refine (gg h0.2.1 (aD hr rfl)).go (aa l l3) (by simp only [List.length_append] at hb ⊢;omega) h fun G4 F4 s4 l4 h=>⟨rfl,?_⟩
 refine (wR (d:=x.cond) (fu hr (o:=2) rfl) hn hl.2 h0.2.2).go (aa l (aa l3 l4)) (by simp only [List.length_append] at hb ⊢;omega) h fun G8 F8 s8 l8 h=>⟨rfl,G8,s8,rfl,aa l3 (aa l4 l8),pZ h (by simp only [List.append_assoc])⟩
theorem E8 {a:Addr} {c:Array Value} {x:Fi} (hr:G.row a c) (hc:Mem.rep G x c) (hl:x.toks.length<=1000000000/\x.cond.1.length<=1000000000)
  (h0:0<=x.k/\0<=x.par/\0<=x.pos/\0<=x.ch/\0<=x.left/\0<=x.tok/\(∀y∈x.toks,0<=y)/\(∀b∈x.cond.1,0<=b.v/\0<=b.l/\0<=b.h)/\0<=x.cond.2):WrS G bc 129 #[pc bc,.pointer (some a)] (.tuple #[]) (eFi x):=by
 obtain ⟨pp,nn,rfl,hp,hn⟩:=hc
 intro G1 F s out l hb h
 have e6:[x.k,x.par,x.pos,x.ch,x.left,x.tok].flatMap eI=eI x.k++eI x.par++eI x.pos++eI x.ch++eI x.left++eI x.tok:=by simp
 unfold eFi at hb ⊢
 rw [<- e6] at hb ⊢
 refine Rh ?_
 unfold KT
 refine ⟨_,rfl,?_⟩
 refine h.newG fun b27 G2 F2 l2 q27 _ h=> ?_
 have l02:=aa l l2
 have key:∀(j:Nat) (y:Int),[x.k,x.par,x.pos,x.ch,x.left,x.tok][j]? =some y->0<=y/\∃a',(#[Value.pointer (some a),Value.pointer (some (Addr.add a 1)),Value.pointer (some (Addr.add a 2)),Value.pointer (some (Addr.add a 3)),Value.pointer (some (Addr.add a 4)),Value.pointer (some (Addr.add a 5))]:Array Value)[j]? =some (.pointer (some a'))/\G.cell a'=some (vi y):=by
  intro j y hy
  match j with
  |0=>cases hy;exact ⟨h0.1,_,rfl,aF hr rfl⟩
  |1=>cases hy;exact ⟨h0.2.1,_,rfl,aD hr rfl⟩
  |2=>cases hy;exact ⟨h0.2.2.1,_,rfl,aD hr rfl⟩
  |3=>cases hy;exact ⟨h0.2.2.2.1,_,rfl,aD hr rfl⟩
  |4=>cases hy;exact ⟨h0.2.2.2.2.1,_,rfl,aD hr rfl⟩
  |5=>cases hy;exact ⟨h0.2.2.2.2.2.1,_,rfl,aD hr rfl⟩
  |j+6=>simp at hy
 generalize hxs:[x.k,x.par,x.pos,x.ch,x.left,x.tok]=xs at*
 have hlen:xs.length=6:=by rw [<- hxs];rfl
 refine bj (uR · (some (Addr.mk bc 0 none)) a b27 _) xs.length (fun j F'=>∃G3 s3,G2.le G3/\St G3 F' (cod bc s3 (out++(xs.take j).flatMap eI))) ⟨G2,s,le_refl' _,by simpa using h⟩ ?_
 rintro j F3 N hj ⟨G3,s3,l3,h⟩ next
 unfold uR
 refine ⟨fun hlt=> ?_,fun hge=> ?_⟩
 ·simp only at hlt
  have hlt:j<xs.length:=by omega
  have hx:=List.getElem?_eq_getElem hlt
  obtain ⟨h1,a',h2,h3⟩:=key j _ hx
  refine ⟨_,rfl,by omega,by simp only;omega,some a',?_,?_⟩
  ·rw [Int.toNat_natCast,aK,Nat.mul_one,Nat.zero_add,am (h.le _ _ (l3 _ _ q27))]
   exact h2
  ·have hp:=gW eI xs (j+1)
   have e:=j7 eI hx
   rw [e,List.length_append] at hp
   refine (gg h1 h3).go (aa l02 l3) (by simp only [List.length_append] at hb ⊢;omega) h fun G4 F4 s4 l4 h=>⟨rfl,?_⟩
   rw [aB hlt (by omega)]
   refine next _ hlt ⟨G4,s4,aa l3 l4,?_⟩
   rw [e,<- List.append_assoc]
   exact h
 ·simp only at hge
  have e:j=xs.length:=by omega
  subst e
  rw [List.take_length] at h
  unfold Bv
  refine ⟨_,rfl,?_⟩
  have l03:=aa l02 l3
  refine (E7 hp (aD hr rfl) hl.1 h0.2.2.2.2.2.2.1).go l03 (by simp only [List.length_append] at hb ⊢;omega) h fun G4 F4 s4 l4 h=>⟨rfl,?_⟩
  refine (wR (d:=x.cond) (fu hr (o:=7) rfl) hn hl.2 h0.2.2.2.2.2.2.2).go (aa l03 l4) (by simp only [List.length_append] at hb ⊢;omega) h fun G8 F8 s8 l8 h=>⟨rfl,G8,s8,rfl,aa l2 (aa l3 (aa l4 l8)),pZ h (by simp only [List.append_assoc])⟩
theorem C2 {a:Addr} {g:Gr} {c n t s p l f:Sl} (hr:G.row a (g.arr c n t s p l f)) (hs:GS G g c n t s p l f) (hm:Sm g) (h0:NN g):WrS G bc 43 #[pc bc,.pointer (some a)] (.tuple #[]) (eGr g):=by
 intro G1 F sl out lG hb h
 unfold eGr at hb ⊢
 refine UA ?_
 unfold QQ
 refine ⟨_,rfl,?_⟩
 refine (E6 hs.c (aF hr rfl) hm.c).go lG (by simp only [List.length_append] at hb ⊢;omega) h fun G2 F2 s2 l2 h=>⟨rfl,?_⟩
 replace lG:=aa lG l2
 refine (wR (d:=g.fam) (fu hr (o:=1) rfl) hs.n hm.n h0.fam).go lG (by simp only [List.length_append] at hb ⊢;omega) h fun G3 F3 s3 l3 h=>⟨rfl,?_⟩
 replace lG:=aa lG l3
 refine (M6 (gf (L:=od) hs.t (aD hr rfl) (by decide) hm.t cbW.2.2.1 eTk (fun p=> #[pc bc,p]) (fun _=>by simp) (fun x hx G3 a c l3 hr hc=>IB hr hc (hm.ti x hx) (h0.toks x hx)) T5 lG (by simp only [List.length_append] at hb ⊢;omega) h)).mono ?_
 rintro _ F4 ⟨G4,s4,rfl,l4,h⟩
 replace lG:=aa lG l4
 refine ⟨rfl,?_⟩
 refine (E6 hs.s (aD hr rfl) hm.s).go lG (by simp only [List.length_append] at hb ⊢;omega) h fun G5 F5 s5 l5 h=>⟨rfl,?_⟩
 replace lG:=aa lG l5
 refine (M7 (gf (L:=oe) hs.p (aD hr rfl) (by decide) hm.p cbW.2.2.2.1 ePr (fun p=> #[pc bc,p]) (fun _=>by simp) (fun x hx G3 a c l3 hr hc=>uv hr hc (hm.pi x hx) (h0.prods x hx)) T6 lG (by simp only [List.length_append] at hb ⊢;omega) h)).mono ?_
 rintro _ F6 ⟨G6,s6,rfl,l6,h⟩
 replace lG:=aa lG l6
 refine ⟨rfl,?_⟩
 refine (gg h0.start (aD hr rfl)).go lG (by simp only [List.length_append] at hb ⊢;omega) h fun G7 F7 s7 l7 h=>⟨rfl,?_⟩
 replace lG:=aa lG l7
 refine (M8 (gf (L:=og) hs.l (aD hr rfl) (by decide) hm.l cbW.2.2.2.2.1 eLv (fun p=> #[pc bc,p]) (fun _=>by simp) (fun x hx G3 a c l3 hr hc=>IC hr hc (hm.li x hx) (h0.lvs x hx)) T7 lG (by simp only [List.length_append] at hb ⊢;omega) h)).mono ?_
 rintro _ F8 ⟨G8,s8,rfl,l8,h⟩
 replace lG:=aa lG l8
 refine ⟨rfl,?_⟩
 refine (M9 (gf (L:=om) hs.f (aD hr rfl) (by decide) hm.f cbW.2.2.2.2.2.1 eFi (fun p=> #[pc bc,p]) (fun _=>by simp) (fun x hx G3 a c l3 hr hc=>E8 hr hc (hm.fi x hx) (h0.fils x hx)) T8 lG (by simp only [List.length_append] at hb ⊢;omega) h)).mono ?_
 rintro _ F9 ⟨G9,s9,rfl,l9,h⟩
 exact ⟨rfl,G9,s9,rfl,aa l2 (aa l3 (aa l4 (aa l5 (aa l6 (aa l7 (aa l8 l9)))))),pZ h (by simp only [List.append_assoc])⟩
end
theorem wS {F:PH} {v:Array Value} {g:Gr} (hT:Tab F) (hg:GV F v g) (hz:Sz g) (hm:Sm g) (hn:bT g=0->NN g/\(eGr g).length<=100000000000):
  ae prog 14 #[.agg v] F fun r F'=>(∃s:Sl,r=.tuple #[s.v,vi (bT g)]/\RdS F' s 1 ((if bT g=0 then eGr g else []).map vB))/\F.le F':=by
 have hg0:=hg
 obtain ⟨c,n,t,s,p,l,f,rfl,hs⟩:=hg
 refine Uv ?_
 unfold QJ
 refine fresh fun b1 F1 l1 q1 _=>⟨_,hg0.size,aj q1,?_⟩
 refine (eZ (hT.le l1) (hg0.le l1) hz).mono ?_
 rintro _ F2 ⟨rfl,l2⟩
 have l12:=aa l1 l2
 refine ⟨_,rfl,fun h=>⟨⟨Sl.nil,rfl,?_⟩,l12⟩,fun h0=> ?_⟩
 ·rw [if_neg h];exact RdS.nil _ _
 have h0:bT g=0:=Classical.not_not.1 h0
 obtain ⟨hnn,hlen⟩:=hn h0
 refine (St.start F2).new fun b12 F3 h=> ?_
 replace h:=h.nilOwn 5 1
 refine (C2 (aj (l2 _ _ q1)) (hs.le l12) hm hnn).go (out:=[]) (le_refl' _) (by simpa using hlen) h fun G4 F4 s4 l4 h=>⟨rfl,_,h.ld1 rfl,⟨s4,?_,?_⟩,aa l12 (aa l4 h.le)⟩
 ·rw [h0]
 ·rw [if_pos h0]
  exact (h.ownAt (i:=0) rfl).1.rd
end Go.Proofs.YtenpmjhnhepfdaaGreatDoor
