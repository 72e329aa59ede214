/-
  Reduced ordered decision trees, plain: what they decide, that they are determined by it, and the lists of branches that hold them.
-/
import Derived.Test.YtenpmjhnhepfdaaGreatDoorRows
import Derived.WalkKit
import Derived.ProofKit
import Derived.OpenShut
import Derived.SizedLaws
import Derived.Carry
import Derived.Deep.Slices
import Derived.Test.YtenpmjhnhepfdaaGreatDoorPhg
import Derived.Test.YtenpmjhnhepfdaaGreatDoorPhd
import Derived.Orders
namespace Go.Proofs.YtenpmjhnhepfdaaGreatDoor
open Go Go.ChangeShapes Go.WideShapes Go.ChangeAt Go.RowKit
def hF (W:World):PH:=fun b=>W.heap[b]?
theorem xI {W:World} {a:Addr} {v:Value} (h:W.cell? a=some v):(hF W).cell a=some v:=h
theorem qk {P:Program} {f:FuncId} {args:Array Value} {W:World} (h:ac P f args (hF W) fun v F'=>v=.bool true∧(hF W).le F'):
  Calls P f args W fun e W'=>e=.returned (.bool true)∧Below W.heap.size W W':=by
 refine (h ⟨W.os,W.tape,W.output,fun _=>Option.none⟩ W ⟨rfl,rfl,rfl,fun b o hb=>hb,fun b o hb=>(by cases hb)⟩).mono ?_
 rintro e W' ⟨v,F',rfl,hs,rfl,hle⟩
 have key:∀(k:Nat) (o:Obj),W.heap[k]? =some o→W'.heap[k]? =some o:=fun k o hk=>hs.heap k o (hle k o hk)
 refine ⟨rfl,hs.os,hs.tape,hs.output,?_,fun k hk=> ?_⟩
 ·rcases Nat.eq_zero_or_pos W.heap.size with h0|h0
  ·omega
  ·have h1:=key (W.heap.size - 1) _ (Array.getElem?_eq_getElem (by omega))
   have h2:=(Array.getElem?_eq_some_iff.1 h1).1
   omega
 ·rw [Array.getElem?_eq_getElem hk]
  exact key k _ (Array.getElem?_eq_getElem hk)
section
variable {H:Type} {enc:TypeId×Value→H} {P:Program} {W W':World}
theorem jc (hl:laidOutB P=true) {sp:Nat→Bool} (hb:Below W.heap.size W W'):∀{ts:List TypeId} {vs:List Value} {ds:List (DataW H)} {ps:List MemPlace},
  ts.all (fun t=>P.readableRec t && decide (t<P.types.size))=true→DataW.TrodAll enc P W 0 (fun _=>true) true ts vs ds ps→(∀x∈ps,x.block<W.heap.size)→(∀x∈ps,sp x.block=true)→DataW.TrodAll enc P W' 0 sp true ts vs ds ps
 |[],vs,ds,ps,_,h,_,_=>by
  obtain ⟨rfl,rfl,rfl⟩:=trodAll_nil h
  rfl
 |t::ts,vs,ds,ps,ha,h,hlt,hsp=>by
  obtain ⟨v,vs',d,ds',p,q,rfl,rfl,rfl,h1,h2⟩:=trodAll_cons h
  rw [List.all_cons,Bool.and_eq_true,Bool.and_eq_true,decide_eq_true_eq] at ha
  obtain ⟨⟨hr,hrow⟩,ha⟩:=ha
  exact ⟨p,q,WideElems.Trod_stays hl hr hrow h1 (fun x hx=>hb.same (hlt x (List.mem_append_left _ hx))) (fun x hx=>hsp x (List.mem_append_left _ hx)),
   jc hl hb ha h2 (fun x hx=>hlt x (List.mem_append_right _ hx)) (fun x hx=>hsp x (List.mem_append_right _ hx)),rfl⟩
theorem zZ {f:Func} {s:ChangeSpec} {args:Array Value} {ds gs:List (DataW H)} {before:List MemPlace} {tb:TypeId} {fresh:Bool}
  (hl:laidOutB P=true) (hv:s.vars=[]) (hW:DataW.Whole enc P f.params.toList s.vars false W args.toList ds gs before) (hall:f.params.toList.all (fun t=>P.readableRec t && decide (t<P.types.size))=true)
  (hr:f.resultTypes= #[tb]) (htb:P.underlying tb=some .bool) (hb:Below W.heap.size W W')
  (hs:s.fn H (ds++gs)={results:=[.lit (.bool true)],args:=ds}):
  s.post enc P f false fresh false false W args (.bool true) W':=by
 have hW':=hW
 obtain ⟨p,q,hA,hV,rfl,_,_⟩:=hW
 rw [hv] at hV
 obtain ⟨rfl,rfl⟩:=trodVars_none hV
 have hlt:∀x∈p,x.block<W.heap.size:=fun x hx=>by simpa using hW'.lt x (List.mem_append_left _ hx)
 refine ⟨ds,[],p++[],[],p,[],hW',?_,?_,?_,hb.frame _,fun h=>by cases h⟩
 ·rw [hs,hr]
  exact trodAll_cons_mk (shut_bool htb _) trodAll_mk0
 ·rw [hs]
  exact jc hl hb hall hA hlt (fun x hx=>by simpa using hlt x hx)
 ·rw [hs,hv]
  rfl
end
set_option maxRecDepth 10000
def bt (f:Nat→Bool):Nat→Nat
 |0=>0
 |n+1=>2 ^ n*(if f n then 1 else 0)+bt f n
theorem oF (f:Nat→Bool):∀n,bt f n<2 ^ n
 |0=>by simp [bt]
 |n+1=>by
  have:=oF f n
  unfold bt
  rw [Nat.pow_succ]
  split<;>omega
theorem sA (f:Nat→Bool):∀n j,(bt f n).testBit j=(decide (j<n) && f j)
 |0,j=>by simp [bt]
 |n+1,j=>by
  unfold bt
  rw [Nat.testBit_two_pow_mul_add _ (oF f n)]
  split
  ·rename_i h
   rw [sA f n j]
   simp [h,show j<n+1 by omega]
  ·rename_i h
   by_cases hj:j=n
   ·subst hj
    cases f j<;>simp
   ·have:j - n≠0:=by omega
    rw [show decide (j<n+1)=false by simp;omega]
    split
    ·have:=Nat.testBit_two_pow (n:=0) (m:=j - n)
     rw [Nat.pow_zero] at this
     rw [this]
     simp
     omega
    ·simp
theorem qS {x n:Nat} {f:Nat→Bool} (hx:x<2 ^ n) (h:∀j,j<n→x.testBit j=f j):x=bt f n:=
 Nat.eq_of_testBit_eq fun j=>by
  rw [sA]
  by_cases hj:j<n
  ·rw [h j hj]
   simp [hj]
  ·rw [Nat.testBit_lt_two_pow (Nat.lt_of_lt_of_le hx (Nat.pow_le_pow_right (by omega) (by omega)))]
   simp [hj]
theorem BG {n:Nat} {f g:Nat→Bool} (h:∀j,j<n→f j=g j):bt f n=bt g n:=
 qS (oF f n) fun j hj=>by rw [sA,h j hj];simp [hj]
def wd (P:Nat→Bool) (k:Nat):Nat:=bt (fun j=>P (64*k+j)) 64
theorem mj (P:Nat→Bool) (k:Nat):wd P k<18446744073709551616:=oF _ 64
theorem gl (P:Nat→Bool) (k:Nat) {j:Nat} (hj:j<64):(wd P k).testBit j=P (64*k+j):=by unfold wd;rw [sA];simp [hj]
theorem sB (k:Nat):wd (fun _=>false) k=0:=(qS (x:=0) (by decide) fun j _=>by simp).symm
theorem KY (P Q:Nat→Bool) (k:Nat):wd (fun i=>P i || Q i) k=wd P k ||| wd Q k:=
 (qS (x:=wd P k ||| wd Q k) (Nat.or_lt_two_pow (oF _ 64) (oF _ 64)) fun j hj=>by rw [Nat.testBit_or,gl P k hj,gl Q k hj]).symm
theorem IE (P Q:Nat→Bool) (k:Nat):wd (fun i=>P i && Q i) k=wd P k &&& wd Q k:=
 (qS (x:=wd P k &&& wd Q k) (Nat.and_lt_two_pow _ (oF _ 64)) fun j hj=>by rw [Nat.testBit_and,gl P k hj,gl Q k hj]).symm
theorem gm {P:Nat→Bool} {k:Nat}:wd P k=0↔∀j,j<64→P (64*k+j)=false:=by
 constructor
 ·intro h j hj
  have:=gl P k hj
  rw [h] at this
  simpa using this.symm
 ·intro h
  exact (qS (x:=0) (by decide) fun j hj=>by rw [h j hj];simp).symm
theorem jX {x:Int} (h1:0≤x) (h2:x<18446744073709551616):IntKind.u64.wrap x=x:=by
 unfold IntKind.wrap
 simp only [IntKind.bits,IntKind.signed]
 simp only [Bool.false_and,Bool.false_eq_true,if_false]
 omega
theorem qT {a:Nat} (h:a<18446744073709551616):(BitVec.ofInt (IntKind.u64).bits (a:Int)).toNat=a:=by
 rw [BitVec.toNat_ofInt]
 show ((a:Int) % ((2 ^ 64:Nat):Int)).toNat=a
 have:((2 ^ 64:Nat):Int)=18446744073709551616:=by decide
 rw [this]
 omega
theorem BH {a b:Nat} (ha:a<18446744073709551616) (hb:b<18446744073709551616):IntKind.u64.wrap ((BitVec.ofInt (IntKind.u64).bits (a:Int) ||| BitVec.ofInt (IntKind.u64).bits (b:Int)).toNat)=((a ||| b:Nat):Int):=by
 rw [BitVec.toNat_or,qT ha,qT hb]
 have:a ||| b<2 ^ 64:=Nat.or_lt_two_pow ha hb
 exact jX (by omega) (by omega)
theorem sC {a b:Nat} (ha:a<18446744073709551616) (hb:b<18446744073709551616):IntKind.u64.wrap ((BitVec.ofInt (IntKind.u64).bits (a:Int) &&& BitVec.ofInt (IntKind.u64).bits (b:Int)).toNat)=((a &&& b:Nat):Int):=by
 rw [BitVec.toNat_and,qT ha,qT hb]
 have:a &&& b<2 ^ 64:=Nat.and_lt_two_pow _ hb
 exact jX (by omega) (by omega)
def Low (x t:Nat):Prop:=∃m,x=2 ^ (t+1)*m+2 ^ t
theorem Low.of {x t:Nat} (h1:x.testBit t=true) (h2:∀j,j<t→x.testBit j=false):Low x t:=by
 refine ⟨x / 2 ^ (t+1),Nat.eq_of_testBit_eq fun j=> ?_⟩
 rw [Nat.testBit_two_pow_mul_add _ (Nat.pow_lt_pow_right (by omega) (by omega))]
 split
 ·rename_i h
  rw [Nat.testBit_two_pow]
  by_cases hj:j=t
  ·subst hj
   rw [h1]
   simp
  ·rw [h2 j (by omega)]
   simp
   omega
 ·rw [Nat.testBit_div_two_pow]
  congr 1
  omega
theorem Low.pos {x t:Nat} (h:Low x t):0<x:=by
 obtain ⟨m,rfl⟩:=h
 have:=Nat.two_pow_pos t
 omega
theorem Low.clear {x t:Nat} (h:Low x t) (j:Nat):(x &&& (x - 1)).testBit j=(x.testBit j && decide (j≠t)):=by
 obtain ⟨m,rfl⟩:=h
 have hp:=Nat.two_pow_pos t
 have e:2 ^ (t+1)*m+2 ^ t - 1=2 ^ (t+1)*m+(2 ^ t - 1):=by omega
 have l1:2 ^ t<2 ^ (t+1):=Nat.pow_lt_pow_right (by omega) (by omega)
 rw [e,Nat.testBit_and,Nat.testBit_two_pow_mul_add _ l1,Nat.testBit_two_pow_mul_add _ (by omega)]
 split
 ·rw [Nat.testBit_two_pow,Nat.testBit_two_pow_sub_one]
  by_cases hj:t=j
  ·subst hj
   simp
  ·simp [hj]
 ·rename_i h
  rw [Bool.and_self]
  simp
  omega
theorem Low.neg {x t:Nat} (h:Low x t) (hx:x<2 ^ 64):x &&& (2 ^ 64 - x)=2 ^ t:=by
 have ht:t<64:=by
  rcases Nat.lt_or_ge t 64 with h1|h1
  ·exact h1
  ·obtain ⟨m,rfl⟩:=h
   have:=Nat.pow_le_pow_right (n:=2) (by omega) h1
   omega
 obtain ⟨m,rfl⟩:=h
 have hp:=Nat.two_pow_pos t
 have l1:2 ^ t<2 ^ (t+1):=Nat.pow_lt_pow_right (by omega) (by omega)
 have e64:(2:Nat) ^ 64=2 ^ (t+1)*2 ^ (63 - t):=by rw [← Nat.pow_add];congr 1;omega
 have hm:m<2 ^ (63 - t):=by
  rcases Nat.lt_or_ge m (2 ^ (63 - t)) with h1|h1
  ·exact h1
  ·have:=Nat.mul_le_mul_left (2 ^ (t+1)) h1
   omega
 have e:2 ^ 64 - (2 ^ (t+1)*m+2 ^ t)=2 ^ (t+1)*(2 ^ (63 - t) - (m+1))+2 ^ t:=by
  have h2:2 ^ (t+1)=2 ^ t+2 ^ t:=by rw [Nat.pow_succ];omega
  have:2 ^ (t+1)*(2 ^ (63 - t) - (m+1))=2 ^ (t+1)*2 ^ (63 - t) - 2 ^ (t+1)*(m+1):=Nat.mul_sub _ _ _
  rw [this,← e64,Nat.mul_add,Nat.mul_one]
  have:2 ^ (t+1)*m+2 ^ (t+1)≤2 ^ 64:=by
   rw [e64]
   have:=Nat.mul_le_mul_left (2 ^ (t+1)) (show m+1≤2 ^ (63 - t) by omega)
   rw [Nat.mul_add,Nat.mul_one] at this
   exact this
  omega
 rw [e]
 refine Nat.eq_of_testBit_eq fun j=> ?_
 rw [Nat.testBit_and,Nat.testBit_two_pow_mul_add _ l1,Nat.testBit_two_pow_mul_add _ l1,Nat.testBit_two_pow]
 split
 ·rw [Bool.and_self]
 ·rename_i h
  rw [Nat.testBit_two_pow_sub_succ hm]
  have:decide (t=j)=false:=by simp;omega
  rw [this]
  cases m.testBit (j - (t+1))<;>simp
def uu:List Nat:=[0,1,56,2,57,49,28,3,61,58,42,50,38,29,17,4,62,47,59,36,45,43,51,22,53,39,33,30,24,18,12,5,63,55,48,27,60,41,37,16,46,35,44,21,52,32,23,11,54,26,40,15,34,20,31,10,25,14,19,9,13,8,7,6]
theorem KZ:∀t,t<64→(2 ^ t*285870213051353865 % 18446744073709551616) / 288230376151711744<64∧uu[(2 ^ t*285870213051353865 % 18446744073709551616) / 288230376151711744]? =some t:=by decide
section
variable {P:Program} {F:PH} {E:En} {o:Oper} {x y:Operand} {t t':TypeId}
theorem ml {op:BinOp} {c d:Array Value} (h:P.eqGuardType P.depth t=false):rdo P (eqGuard op t x y (.agg c) (.agg d)) F ():=by
 cases op<;>simp [eqGuard,program,ai,rdo,h]
theorem Em {c d:Array Value} {r:Bool} (ho:o.op=.binOp .eql t x y t') (hx:ev E x=.agg c) (hy:ev E y=.agg d) (hg:P.eqGuardType P.depth t=false) (he:rdo P (Op.equal t (.agg c) (.agg d)) F r):
  RD P E F o (.bool r):=mQ ho hx hy (ml hg) he rfl
theorem Eo {c d:Array Value} {r:Bool} (ho:o.op=.binOp .neq t x y t') (hx:ev E x=.agg c) (hy:ev E y=.agg d) (hg:P.eqGuardType P.depth t=false) (he:rdo P (Op.equal t (.agg c) (.agg d)) F r):
  RD P E F o (.bool (!r)):=mR ho hx hy (ml hg) he rfl
end
section
variable {P:Program} {F:PH} {E:En} {K:En→PH→Prop} {ty:TypeId} {pos:String} {aft:Array Edge} {gd:Option (Nat×Bool)}
end
section
variable {K:Type} [DecidableEq K]
structure qU (P:Program) (kt:TypeId) (enc:K→Value):Prop where
 eq:∀F a b,rdo P (Op.equal kt (enc a) (enc b)) F (decide (a=b))
 chk:∀F e a,rdo P (Instr.checkKey e 10000 kt (enc a)) F ()
 same:∀a,Instr.sameBits 10000 (enc a) (enc a)=true
 kind:∃d,P.underlying kt=some d∧((∀a b,Instr.sameNow d (enc a) (enc b)=some (decide (a=b)))∨∀a b,Instr.sameNow d (enc a) (enc b)=none)
structure jY (P:Program) (mt:TypeId) (enc:K→Value) (z:Value):Prop where
 ex:∃kt e,P.underlying mt=some (.map kt e)∧bu P e=some z∧qU P kt enc
def lk (k:K):List (K×Value)→Option Value
 |[]=>none
 |p::r=>if k=p.1 then some p.2 else lk k r
def fnd (k:K):List (K×Value)→Nat→Option (Nat×Value)
 |[],_=>none
 |p::r,i=>if k=p.1 then some (i,p.2) else fnd k r (i+1)
def upL (k:K) (v:Value):List (K×Value)→List (K×Value)
 |[]=>[(k,v)]
 |p::r=>if k=p.1 then (k,v)::r else p::upL k v r
theorem BI (k k':K) (v:Value):∀(L:List (K×Value)),lk k' (upL k v L)=if k'=k then some v else lk k' L
 |[]=>rfl
 |p::r=>by
  unfold upL
  split
  ·rename_i h
   simp only [lk]
   split
   ·rfl
   ·rename_i hn
    rw [if_neg (by rw [← h];exact hn)]
  ·rename_i h
   simp only [lk,BI k k' v r]
   split
   ·rename_i h2
    rw [if_neg (by rintro rfl;exact h h2)]
   ·rfl
theorem oG (k:K) (v:Value):∀(L:List (K×Value)) (i:Nat),fnd k L i=none→lk k L=none∧upL k v L=L++[(k,v)]
 |[],_,_=>⟨rfl,rfl⟩
 |p::r,i,h=>by
  unfold fnd at h
  split at h
  ·cases h
  ·rename_i hn
   obtain ⟨h1,h2⟩:=oG k v r _ h
   exact ⟨by unfold lk;rw [if_neg hn,h1],by unfold upL;rw [if_neg hn,h2];rfl⟩
theorem oH (k:K) (v:Value):∀(L:List (K×Value)) (i j:Nat) (w:Value),fnd k L i=some (j,w)→∃d,j=i+d∧d<L.length∧L[d]? =some (k,w)∧lk k L=some w∧upL k v L=L.set d (k,v)
 |[],_,_,_,h=>by cases h
 |p::r,i,j,w,h=>by
  unfold fnd at h
  split at h
  ·rename_i hp
   cases h
   refine ⟨0,rfl,by simp,?_,by unfold lk;rw [if_pos hp],by unfold upL;rw [if_pos hp];rfl⟩
   subst hp
   rfl
  ·rename_i hn
   obtain ⟨d,h1,h2,h3,h4,h5⟩:=oH k v r _ _ _ h
   exact ⟨d+1,by omega,by simp only [List.length_cons];omega,by simpa using h3,by unfold lk;rw [if_neg hn,h4],by unfold upL;rw [if_neg hn,h5];rfl⟩
def fU (enc:K→Value) (m:K→Option Value) (o:Obj):Prop:=
 ∃(es:Array MapEntry) (c:Nat) (L:List (K×Value)),o=.map es c∧es.toList.map (fun e=>(e.key,e.val))=L.map (fun p=>(enc p.1,p.2))∧∀k,m k=lk k L
theorem fU.empty (enc:K→Value):fU enc (fun _=>none) (.map #[] 0):=⟨#[],0,[],rfl,rfl,fun _=>rfl⟩
theorem fU.not_cells {enc:K→Value} {m:K→Option Value} {o:Obj} (h:fU enc m o):∀c e fr,o≠.cells c e fr:=by
 obtain ⟨es,c,L,rfl,_⟩:=h
 intro c e fr h
 cases h
variable {P:Program} {F:PH} {kt mt:TypeId} {enc:K→Value} {z:Value}
theorem gX (hk:qU P kt enc) (k:K):∀(es:List MapEntry) (L:List (K×Value)) (i:Nat),es.map (fun e=>(e.key,e.val))=L.map (fun p=>(enc p.1,p.2))→
  rdo P (Instr.findAsking kt (enc k) es i) F (fnd k L i)
 |[],[],_,_=>rfl
 |[],_::_,_,h=>by cases h
 |_::_,[],_,h=>by cases h
 |e::es,p::L,i,h=>by
  simp only [List.map_cons,List.cons.injEq,Prod.mk.injEq] at h
  obtain ⟨⟨h1,h2⟩,h3⟩:=h
  simp only [Instr.findAsking,ai]
  refine ⟨_,by rw [h1];exact hk.eq F k p.1,?_⟩
  unfold fnd
  by_cases hp:k=p.1
  ·simp [hp,h2]
  ·simpa [hp] using gX hk k es L (i+1) h3
theorem oI {d:TypeDesc} (hs:∀a b,Instr.sameNow d (enc a) (enc b)=some (decide (a=b))) (k:K):∀(es:List MapEntry) (L:List (K×Value)) (i:Nat),es.map (fun e=>(e.key,e.val))=L.map (fun p=>(enc p.1,p.2))→
  Instr.findNow d (enc k) es i=some (fnd k L i)
 |[],[],_,_=>rfl
 |[],_::_,_,h=>by cases h
 |_::_,[],_,h=>by cases h
 |e::es,p::L,i,h=>by
  simp only [List.map_cons,List.cons.injEq,Prod.mk.injEq] at h
  obtain ⟨⟨h1,h2⟩,h3⟩:=h
  simp only [Instr.findNow,h1,hs]
  unfold fnd
  by_cases hp:k=p.1
  ·simp [hp,h2]
  ·simpa [hp] using oI hs k es L (i+1) h3
theorem gY (hk:qU P kt enc) (k:K) (es:List MapEntry) (L:List (K×Value)) (h:es.map (fun e=>(e.key,e.val))=L.map (fun p=>(enc p.1,p.2))):
  rdo P (Instr.findKey kt (enc k) es) F (fnd k L 0):=by
 obtain ⟨d,hd,hs⟩:=hk.kind
 unfold Instr.findKey
 simp only [ai]
 refine ⟨d,(av hd _).2 rfl,?_⟩
 rcases hs with hs|hs
 ·rw [oI hs k es L 0 h]
  rfl
 ·cases es with
  |nil=>
   cases L with
   |nil=>rfl
   |cons _ _=>cases h
  |cons e es=>
   cases L with
   |nil=>cases h
   |cons p L=>
    have h1:e.key=enc p.1:=by simp only [List.map_cons,List.cons.injEq,Prod.mk.injEq] at h;exact h.1.1
    have:Instr.findNow d (enc k) (e::es) 0=none:=by simp only [Instr.findNow,h1,hs]
    rw [this]
    exact gX hk k _ _ 0 h
theorem dp (hm:jY P mt enc z) {r:Nat} {o:Obj} {m:K→Option Value} (hr:F r=some o) (ho:fU enc m o) (k:K) (ok:Bool):
  rdo P (Instr.lookup mt (.map (some r)) (enc k) ok) F (if ok then .tuple #[(m k).getD z,.bool (m k).isSome] else (m k).getD z):=by
 obtain ⟨kt,e,h1,h2,hk⟩:=hm.ex
 have hnc:=ho.not_cells
 obtain ⟨es,c,L,rfl,h3,h4⟩:=ho
 have hf:=fun w=>oH k w L 0
 have hn:=oG k z L 0
 unfold Instr.lookup
 simp only [ai]
 refine ⟨_,(av h1 _).2 rfl,?_⟩
 simp only [ai]
 refine ⟨_,⟨_,hr,hnc,rfl⟩,?_⟩
 simp only [ai]
 refine ⟨es,rfl,(),hk.chk F _ k,?_⟩
 cases hfd:fnd k L 0 with
 |none=>
  refine ⟨_,gY hk k _ _ h3,?_⟩
  rw [hfd]
  simp only [ai]
  refine ⟨z,(fD h2 _).2 rfl,_,rfl,?_⟩
  rw [h4,(hn hfd).1]
  rfl
 |some q=>
  obtain ⟨j,v⟩:=q
  obtain ⟨d,_,_,_,h5,_⟩:=hf z j v hfd
  refine ⟨_,gY hk k _ _ h3,?_⟩
  rw [hfd]
  simp only [ai]
  refine ⟨_,rfl,?_⟩
  rw [h4,h5]
  rfl
theorem bD (hm:jY P mt enc z) {r:Nat} {o:Obj} {m:K→Option Value} (hr:F r=some o) (ho:fU enc m o) (k:K) (v:Value) {Q:Unit→PH→Prop}
  (h:∀o',fU enc (fun k'=>if k'=k then some v else m k') o'→Q () (F.set r o')):aE P (Instr.mapUpdate mt (.map (some r)) (enc k) v) F Q:=by
 obtain ⟨kt,e,h1,h2,hk⟩:=hm.ex
 have hnc:=ho.not_cells
 obtain ⟨es,c,L,rfl,h3,h4⟩:=ho
 have hf:=oH k v L 0
 have hn:=oG k v L 0
 unfold Instr.mapUpdate
 simp only [aB,bG h1]
 refine ⟨_,hr,hnc,?_⟩
 rw [show (Sem.pure (Obj.map es c):Sem Obj)=pure (Obj.map es c) from rfl]
 simp only [aM,aB]
 refine j5 _ _ _ _ (hk.chk F _ k) ?_
 refine j5 _ _ _ _ (gY hk k _ _ h3) ?_
 have hmm:∀k',(if k'=k then some v else m k')=lk k' (upL k v L):=fun k'=>by rw [BI,h4]
 cases hfd:fnd k L 0 with
 |none=>
  refine ⟨_,hr,hnc,h _ ⟨_,_,upL k v L,rfl,?_,hmm⟩⟩
  rw [(hn hfd).2]
  simp [h3]
 |some q=>
  obtain ⟨j,w⟩:=q
  obtain ⟨d,hj,hd,h5,h6,h7⟩:=hf j w hfd
  obtain rfl:j=d:=by omega
  have hlen:es.size=L.length:=by simpa using congrArg List.length h3
  have hkey:(es[j]?.map (·.key)).getD (enc k)=enc k:=by
   have:=congrArg (fun l=>l[j]?) h3
   simp only [List.getElem?_map,h5,Option.map_some] at this
   have hj2:j<es.size:=by omega
   simp [hj2] at this ⊢
   exact this.1
  simp only [aB,hkey,Instr.keyThatStays,hk.same,if_true,aM]
  refine ⟨_,hr,hnc,h _ ⟨_,_,upL k v L,rfl,?_,hmm⟩⟩
  rw [h7]
  apply List.ext_getElem?
  intro i
  have h3i:=congrArg (fun l=>l[i]?) h3
  simp only [List.getElem?_map] at h3i
  simp only [Array.toList_modify,List.getElem?_map,List.getElem?_modify,List.getElem?_set]
  by_cases hi:j=i
  ·subst hi
   have hj2:j<es.toList.length:=by simpa [hlen] using hd
   rw [List.getElem?_eq_getElem hj2]
   simp [hd]
  ·simp only [hi,if_false]
   simpa using h3i
end
theorem st1 {F:PH} {b o:Nat} {v:Value} {c:Array Value} {e:TypeId} {K:PH→Prop} (h:F b=some (.cells c e (0,0))) (hl:o<c.size) (k:K (F.set b (.cells (c.setIfInBounds o v) e))):
  ∃c e,F (Addr.mk b o none).block=some (.cells c e (0,0))∧(Addr.mk b o none).spot=none∧(Addr.mk b o none).off<c.size∧
   atF (F.set (Addr.mk b o none).block (.cells (c.setIfInBounds (Addr.mk b o none).off v) e)) K:=⟨c,e,h,rfl,hl,k⟩
theorem ql {F:PH} {A:Addr} {b o:Nat} {v:Value} {c:Array Value} {e:TypeId} {K:PH→Prop} (hA:A=⟨b,o,none⟩) (h:F b=some (.cells c e (0,0))) (hl:o<c.size) (k:K (F.set b (.cells (c.setIfInBounds o v) e))):
  ∃c e,F A.block=some (.cells c e (0,0))∧A.spot=none∧A.off<c.size∧atF (F.set A.block (.cells (c.setIfInBounds A.off v) e)) K:=by
 subst hA;exact st1 h hl k
theorem BJ {c d:Array Value} (h:c.size=d.size):wr c 0 d.toList=d:=by
 apply Array.ext
 ·rw [dh,h]
 ·intro i h1 h2
  have:=sE d.toList c 0 i (by simp [h])
  rw [if_pos (by simp;omega)] at this
  simp only [Nat.sub_zero] at this
  rw [Array.getElem?_eq_getElem h1] at this
  simp at this
  rw [Array.getElem?_eq_getElem h2] at this
  exact Option.some.inj this
theorem stW {F:PH} {b n:Nat} {v c:Array Value} {e:TypeId} {K:PH→Prop} (h:F b=some (.cells c e (0,0))) (hs:v.size=n) (hc:c.size=n) (hst:∀x∈v.toList,aj x) (k:K (F.set b (.cells v e))):
  v.size=n∧(∀x∈v.toList,aj x)∧∃c e,F (Addr.mk b 0 none).block=some (.cells c e (0,0))∧(Addr.mk b 0 none).spot=none∧(Addr.mk b 0 none).off+n≤c.size∧
   atF (F.set (Addr.mk b 0 none).block (.cells (wr c (Addr.mk b 0 none).off v.toList) e)) K:=
 ⟨hs,hst,c,e,h,rfl,by simp [hc],by
  unfold atF
  rw [show (Addr.mk b 0 none).off=0 from rfl,BJ (by rw [hc,hs])]
  exact k⟩
theorem zc1 (v:Value) (h:v.cells= #[v]) (n:Nat):Builtin.zeroCells v.cells n=(List.replicate n v).toArray:=by
 rw [mO _ (by rw [h];rfl),h]
 congr 1
 induction n with
 |zero=>rfl
 |succ n ih=>simp [List.replicate_succ,ih]
theorem K9 {n:Nat} (h:n≤9223372036854775807):IntKind.i64.wrap (n:Int)=n:=aK (by omega) (by omega)
theorem i6 {n:Nat} (h:n<9223372036854775807):IntKind.i64.wrap ((n:Int)+1)=((n+1:Nat):Int):=by rw [aK (by omega) (by omega)];omega
theorem iL (vs:List Value):∀(c:List Value) (o:Nat),o+vs.length≤c.length→wr c.toArray o vs=(c.take o++vs++c.drop (o+vs.length)).toArray:=by
 intro c o h
 apply Array.ext
 ·rw [dh];simp;omega
 ·intro i h1 h2
  have:=sE vs c.toArray o i (by simpa using h)
  rw [Array.getElem?_eq_getElem h1] at this
  rw [dh] at h1
  simp only [List.size_toArray] at h1
  have h3:(c.take o++vs++c.drop (o+vs.length)).toArray[i]=(c.take o++vs++c.drop (o+vs.length))[i]'(by simpa using h2):=by simp
  rw [h3]
  apply Option.some.inj
  rw [← List.getElem?_eq_getElem,this]
  by_cases hi:i<o
  ·rw [if_neg (by omega),List.append_assoc,List.getElem?_append_left (by simp;omega)]
   simp [hi]
  ·by_cases hj:i<o+vs.length
   ·rw [if_pos ⟨by omega,hj⟩,List.getElem?_append_left (by simp;omega),List.getElem?_append_right (by simp;omega)]
    simp
    congr 1
    omega
   ·rw [if_neg (by omega),List.getElem?_append_right (by simp;omega)]
    simp
    congr 1
    omega
def bM (F:PH) (e size:Nat) (s:Sl) (vs:List Value):Prop:=
 (s=Sl.nil∧vs=[])∨∃b cur,s.base=some ⟨b,0,none⟩∧F b=some (.cells cur e (0,0))∧cur.size=s.cap*size∧s.len≤s.cap∧vs.length=s.len*size∧cur.toList.take (s.len*size)=vs
theorem bM.rd {F:PH} {e size:Nat} {s:Sl} {vs:List Value} (h:bM F e size s vs):RdS F s size vs:=by
 rcases h with ⟨rfl,rfl⟩|⟨b,cur,h1,h2,h3,h4,h5,h6⟩
 ·exact RdS.nil F size
 ·obtain ⟨base,len,cap⟩:=s
  cases h1
  exact RdS.new h2 h6 h5 h4
theorem bM.keep {F G:PH} {e size:Nat} {s:Sl} {vs:List Value} (h:bM F e size s vs) (hk:∀a,s.base=some a→G a.block=F a.block):bM G e size s vs:=by
 rcases h with h|⟨b,cur,h1,h2,h3⟩
 ·exact .inl h
 ·exact .inr ⟨b,cur,h1,(hk _ h1).trans h2,h3⟩
theorem oJ {F:PH} {s x:Sl} {t e size bytes ty:Nat} {z:Value} {P:Program} {olds news:List Value} {Q:Value→PH→Prop} (ht:P.underlying t=some (.slice e)) (hsz:tsz P e=some (size,bytes)) (hz:bu P e=some z) (hzs:z.cells.size=size) (hs0:0<size)
  (ho:bM F e size s olds) (hn:RdS F x size news) (hx:0<x.len) (hst:∀v∈news,aj v) (hfit:(s.len+x.len)*bytes≤140737488355328) (hlen:s.len+x.len≤9223372036854775807)
  (h:∀s' F' b o,F'=F.set b o→bM F' e size s' (olds++news)→s'.len=s.len+x.len→(∀a,s'.base=some a→a.block=b)→((∃a,s.base=some a∧a.block=b)∨F b=none)→Q s'.v F'):
  aE P (Builtin.append_ #[t,t] ty #[s.v,x.v]) F Q:=by
 have hpos:0<x.len*size:=Nat.mul_pos hx hs0
 have hol:=ho.rd.len
 refine mp ht hsz hz hzs ho.rd hn hst hfit hlen (fun h0=>by omega) ?_ ?_
 ·intro _ hroom
  rcases ho with ⟨rfl,rfl⟩|⟨b,cur,h1,h2,h3,h4,h5,h6⟩
  ·simp [Sl.nil] at hroom;omega
  ·have hle:s.len*size+x.len*size≤cur.size:=by rw [h3,← Nat.add_mul];exact Nat.mul_le_mul_right _ hroom
   refine ⟨b,0,cur,e,h1,h2,by omega,?_⟩
   refine h ⟨_,_,_⟩ _ b _ rfl (.inr ⟨b,_,h1,an _ _ _,by rw [dh,h3],hroom,by simp [h5,hn.len,Nat.add_mul],?_⟩) rfl (fun a ha=>by rw [h1] at ha;cases ha;rfl) (.inl ⟨_,h1,rfl⟩)
   simp only [Nat.zero_add]
   have hw:=iL news cur.toList (s.len*size) (by simp [hn.len];omega)
   rw [show cur.toList.toArray=cur by simp] at hw
   rw [hw]
   simp only
   rw [h6,Nat.add_mul]
   rw [List.take_append_of_le_length (by simp [h5,hn.len]),List.take_of_length_le (by simp [h5,hn.len])]
 ·intro hgt cap b hc hb
  refine h ⟨_,_,_⟩ _ b _ rfl (.inr ⟨b,_,rfl,an _ _ _,?_,hc,by simp [hol,hn.len,Nat.add_mul],?_⟩) rfl (fun a ha=>by cases ha;rfl) (.inr hb)
  ·simp [Builtin.zeroCells,hzs,hol,hn.len]
   rw [← Nat.add_mul,← Nat.add_mul]
   congr 1
   omega
  ·simp only [List.append_toArray,Array.toList_append]
   rw [List.take_append_of_le_length (by simp [hol,hn.len,Nat.add_mul]),List.take_of_length_le (by simp [hol,hn.len,Nat.add_mul])]
theorem mn {F:PH} {s x:Sl} {t e size bytes ty:Nat} {z:Value} {P:Program} {olds news:List Value} {Q:Value→PH→Prop} (ht:P.underlying t=some (.slice e)) (hsz:tsz P e=some (size,bytes)) (hz:bu P e=some z) (hzs:z.cells.size=size)
  (ho:bM F e size s olds) (hn:RdS F x size news) (hx:x.len=0) (hfit:s.len*bytes≤140737488355328) (hlen:s.len≤9223372036854775807)
  (h:Q s.v F):aE P (Builtin.append_ #[t,t] ty #[s.v,x.v]) F Q:=by
 have hnil:news=[]:=List.eq_nil_of_length_eq_zero (by rw [hn.len,hx,Nat.zero_mul])
 subst hnil
 refine mp ht hsz hz hzs ho.rd hn (by simp) (by rw [hx];exact hfit) (by rw [hx];exact hlen) (fun _ _=> ?_) (fun h1=> ?_) (fun h1=> ?_)
 ·rw [hx];exact h
 ·rw [hx] at h1;simp at h1
 ·have:=ho.rd.cap;omega
theorem jZ {F0 F:PH} {s x:Sl} {t e size bytes ty:Nat} {z:Value} {P:Program} {olds news:List Value} {Q:Value→PH→Prop} (ht:P.underlying t=some (.slice e)) (hsz:tsz P e=some (size,bytes)) (hz:bu P e=some z) (hzs:z.cells.size=size) (hs0:0<size)
  (hle:F0.le F) (ho:bM F e size s olds) (hnew:∀a,s.base=some a→F0 a.block=none) (hn:RdS F x size news) (hst:∀v∈news,aj v) (hfit:(s.len+x.len)*bytes≤140737488355328) (hlen:s.len+x.len≤9223372036854775807)
  (h:∀s' F',F0.le F'→bM F' e size s' (olds++news)→s'.len=s.len+x.len→(∀a,s'.base=some a→F0 a.block=none)→bU (fun b=>∃a,s.base=some a∧a.block=b) F F'→(∀a,s'.base=some a→(∃a',s.base=some a'∧a'.block=a.block)∨F a.block=none)→Q s'.v F'):
  aE P (Builtin.append_ #[t,t] ty #[s.v,x.v]) F Q:=by
 by_cases h0:x.len=0
 ·have hnil:news=[]:=List.eq_nil_of_length_eq_zero (by rw [hn.len,h0,Nat.zero_mul])
  refine mn ht hsz hz hzs ho hn h0 (by rw [h0] at hfit;exact hfit) (by omega) ?_
  refine h s F hle (by rw [hnil,List.append_nil];exact ho) (by omega) hnew (bU.refl _ _) (fun a ha=> .inl ⟨a,ha,rfl⟩)
 ·refine oJ ht hsz hz hzs hs0 ho hn (by omega) hst hfit hlen ?_
  rintro s' F' b ob rfl ho' hl' hbase hb
  have hb0:F0 b=none:=by
   rcases hb with ⟨a,ha,rfl⟩|hb
   ·exact hnew a ha
   ·exact aU hle hb
  refine h s' _ (fun y o hy=> ?_) ho' hl' (fun a ha=>by rw [hbase a ha];exact hb0) (fun y o hy hn=> ?_) (fun a ha=> ?_)
  ·rw [az _ _ (fun e=>by rw [e,hb0] at hy;cases hy)];exact hle _ _ hy
  ·rw [az]
   ·exact hy
   ·rintro rfl
    rcases hb with hb|hb
    ·exact hn hb
    ·rw [hb] at hy;cases hy
  ·rw [hbase a ha]
   exact hb
theorem ak {F:PH} {b e:Nat} {c:Array Value} {fr:Nat×Nat} (h:F b=some (.cells c e fr)):F.row (Addr.mk b 0 none) c:=by
 intro i hi
 rw [aD,am h]
 simp
theorem aw {F0 F:PH} {b:Nat} {o:Obj} (h:F0.le F) (hb:F0 b=none):F0.le (F.set b o):=fun y o' hy=>by
 rw [az _ _ (fun e=>by rw [e,hb] at hy;cases hy)]
 exact h _ _ hy
theorem ac.upon {P:Program} {f:FuncId} {args:Array Value} {F F2:PH} {R:Value→PH→Prop} (h:ac P f args F R) (hle:F.le F2):
  ac P f args F2 fun v F'=>∃G,R v G∧G.le F'∧∀b o,F b=none→F2 b=some o→F' b=some o∧G b=none:=by
 have e:F2=F.and (fun b=>if (F b).isNone then F2 b else none):=by
  funext b
  cases hf:F b with
  |some o=>rw [PH.and_left hf];exact hle b o hf
  |none=>rw [PH.and_right hf];simp [hf]
 have hb:=h.beside (H:=fun b=>if (F b).isNone then F2 b else none) (fun b o hb=>by
  cases hf:F b with
  |some o'=>simp [hf] at hb
  |none=>rfl)
 rw [← e] at hb
 refine hb.mono ?_
 rintro v F' ⟨G,hr,rfl,hd⟩
 refine ⟨G,hr,fun b o hb=>PH.and_left hb,fun b o hb ho=> ?_⟩
 have hH:(fun b=>if (F b).isNone then F2 b else none) b=some o:=by simp [hb,ho]
 have hG:=hd b o hH
 exact ⟨(PH.and_right hG).trans hH,hG⟩
end Go.Proofs.YtenpmjhnhepfdaaGreatDoor
namespace Go.Proofs.YtenpmjhnhepfdaaGreatDoor
inductive Tr where
 |leaf (b:Bool)
 |node (v:Nat) (l h:Tr)
deriving DecidableEq
abbrev Cf:=Nat→Bool
def Cf.set (c:Cf) (v:Nat) (b:Bool):Cf:=fun i=>if i=v then b else c i
namespace Tr
def top:Tr→Nat
 |leaf _=>64
 |node v _ _=>v
def ev:Tr→Cf→Bool
 |leaf b,_=>b
 |node v l h,c=>if c v=true then h.ev c else l.ev c
def ok:Tr→Prop
 |leaf _=>True
 |node v l h=>v<64∧v<l.top∧v<h.top∧l≠h∧l.ok∧h.ok
def sz:Tr→Nat
 |leaf _=>1
 |node _ l h=>l.sz+h.sz+1
def mk (v:Nat) (l h:Tr):Tr:=if l=h then l else node v l h
def lo (v:Nat):Tr→Tr
 |leaf b=>leaf b
 |node w l h=>if w=v then l else node w l h
def hi (v:Nat):Tr→Tr
 |leaf b=>leaf b
 |node w l h=>if w=v then h else node w l h
def isL:Tr→Bool
 |leaf _=>true
 |node _ _ _=>false
theorem BK {t:Tr} (h:t.ok) (hl:t.isL=false):t.top<64:=by
 cases t with
 |leaf b=>cases hl
 |node v l r=>exact h.1
theorem oK:∀(t:Tr),0<t.sz
 |leaf _=>Nat.one_pos
 |node _ _ _=>Nat.succ_pos _
theorem oL:∀(t:Tr),t.ok→∀(c d:Cf),(∀i,t.top≤i→c i=d i)→t.ev c=t.ev d
 |leaf _,_,_,_,_=>rfl
 |node v l h,⟨_,h1,h2,_,h4,h5⟩,c,d,hc=>by
  simp only [ev]
  rw [hc v (Nat.le_refl _),oL l h4 c d (fun i hi=>hc i (by simp only [top];omega)),oL h h5 c d (fun i hi=>hc i (by simp only [top];omega))]
theorem jq {t:Tr} (h:t.ok) {v:Nat} (hv:v<t.top) (c:Cf) (b:Bool):t.ev (c.set v b)=t.ev c:=
 oL t h _ _ fun i hi=>by
  unfold Cf.set
  rw [if_neg (by omega)]
theorem La:∀(n:Nat) (a b:Tr),a.sz+b.sz≤n→a.ok→b.ok→(∀c,a.ev c=b.ev c)→a=b:=by
 intro n
 induction n with
 |zero=>intro a b hn;have:=oK a;omega
 |succ n ih=>
  have key:∀(v:Nat) (l h b:Tr),(node v l h).sz+b.sz≤n+1→(node v l h).ok→b.ok→v<b.top→(∀c,(node v l h).ev c=b.ev c)→False:=by
   rintro v l h b hn ⟨h0,h1,h2,h3,h4,h5⟩ hb hv he
   have hp:=oK b
   simp only [sz] at hn
   refine h3 (ih l h (by omega) h4 h5 fun c=> ?_)
   have e1:=he (c.set v false)
   have e2:=he (c.set v true)
   rw [jq hb hv] at e1 e2
   have f1:(node v l h).ev (c.set v false)=l.ev c:=by simp only [ev];rw [if_neg (by simp [Cf.set]),jq h4 h1]
   have f2:(node v l h).ev (c.set v true)=h.ev c:=by simp only [ev];rw [if_pos (by simp [Cf.set]),jq h5 h2]
   rw [← f1,← f2,e1,e2]
  intro a b hn ha hb he
  cases a with
  |leaf x=>
   cases b with
   |leaf y=>exact congrArg leaf (he (fun _=>false))
   |node v l h=>exact (key v l h (leaf x) (by omega) hb trivial hb.1 (fun c=>(he c).symm)).elim
  |node v l h=>
   by_cases h1:v<b.top
   ·exact (key v l h b hn ha hb h1 he).elim
   cases b with
   |leaf y=>exact (h1 ha.1).elim
   |node w l' h'=>
    simp only [top] at h1
    by_cases h2:w<v
    ·exact (key w l' h' (node v l h) (by omega) hb ha h2 (fun c=>(he c).symm)).elim
    obtain rfl:v=w:=by omega
    obtain ⟨h0,a1,a2,a3,a4,a5⟩:=ha
    obtain ⟨_,b1,b2,b3,b4,b5⟩:=hb
    simp only [sz] at hn
    have e1:l=l':=ih l l' (by omega) a4 b4 fun c=>by
     have:=he (c.set v false)
     simp only [ev] at this
     rw [if_neg (by simp [Cf.set]),if_neg (by simp [Cf.set]),jq a4 a1,jq b4 b1] at this
     exact this
    have e2:h=h':=ih h h' (by omega) a5 b5 fun c=>by
     have:=he (c.set v true)
     simp only [ev] at this
     rw [if_pos (by simp [Cf.set]),if_pos (by simp [Cf.set]),jq a5 a2,jq b5 b2] at this
     exact this
    rw [e1,e2]
theorem BL {a b:Tr} (ha:a.ok) (hb:b.ok) (he:∀c,a.ev c=b.ev c):a=b:=La _ a b (Nat.le_refl _) ha hb he
theorem uv {v:Nat} {l h:Tr} (hv:v<64) (h1:v<l.top) (h2:v<h.top) (h3:l.ok) (h4:h.ok):(mk v l h).ok:=by
 unfold mk
 split
 ·exact h3
 ·rename_i hn
  exact ⟨hv,h1,h2,hn,h3,h4⟩
theorem BM {v:Nat} {l h:Tr} (h1:v<l.top):v≤(mk v l h).top:=by
 unfold mk
 split
 ·omega
 ·exact Nat.le_refl _
theorem xJ (v:Nat) (l h:Tr) (c:Cf):(mk v l h).ev c=if c v=true then h.ev c else l.ev c:=by
 unfold mk
 split
 ·rename_i e
  subst e
  simp
 ·rfl
theorem cC {t:Tr} (h:t.ok) {v:Nat} (hv:v≤t.top):(lo v t).ok∧(v<64→v<(lo v t).top)∧(lo v t).sz≤t.sz∧(t.top=v→t.isL=false→(lo v t).sz<t.sz)∧
  ∀c,c v=false→(lo v t).ev c=t.ev c:=by
 cases t with
 |leaf b=>exact ⟨trivial,fun h=>h,Nat.le_refl _,fun _ h=>(by cases h),fun _ _=>rfl⟩
 |node w l r=>
  obtain ⟨h0,h1,h2,h3,h4,h5⟩:=h
  simp only [lo]
  split
  ·rename_i e
   subst e
   refine ⟨h4,fun _=>h1,by simp only [sz];omega,fun _ _=>by simp only [sz];omega,fun c hc=> ?_⟩
   simp [ev,hc]
  ·rename_i e
   refine ⟨⟨h0,h1,h2,h3,h4,h5⟩,fun _=> ?_,Nat.le_refl _,fun he=> ?_,fun _ _=>rfl⟩
   ·simp only [top] at hv ⊢;omega
   ·simp only [top] at he;omega
theorem cD {t:Tr} (h:t.ok) {v:Nat} (hv:v≤t.top):(hi v t).ok∧(v<64→v<(hi v t).top)∧(hi v t).sz≤t.sz∧(t.top=v→t.isL=false→(hi v t).sz<t.sz)∧
  ∀c,c v=true→(hi v t).ev c=t.ev c:=by
 cases t with
 |leaf b=>exact ⟨trivial,fun h=>h,Nat.le_refl _,fun _ h=>(by cases h),fun _ _=>rfl⟩
 |node w l r=>
  obtain ⟨h0,h1,h2,h3,h4,h5⟩:=h
  simp only [hi]
  split
  ·rename_i e
   subst e
   refine ⟨h5,fun _=>h2,by simp only [sz];omega,fun _ _=>by simp only [sz];omega,fun c hc=> ?_⟩
   simp [ev,hc]
  ·rename_i e
   refine ⟨⟨h0,h1,h2,h3,h4,h5⟩,fun _=> ?_,Nat.le_refl _,fun he=> ?_,fun _ _=>rfl⟩
   ·simp only [top] at hv ⊢;omega
   ·simp only [top] at he;omega
abbrev Op3:=Bool→Bool→Bool→Bool
def aZ (a b d:Tr):Nat:=min (min a.top b.top) d.top
theorem Lc (o:Op3):∀(n:Nat) (a b d:Tr),a.sz+b.sz+d.sz≤n→a.ok→b.ok→d.ok→
  ∃t:Tr,t.ok∧aZ a b d≤t.top∧∀c,t.ev c=o (a.ev c) (b.ev c) (d.ev c):=by
 intro n
 induction n with
 |zero=>intro a b d hn;have:=oK a;omega
 |succ n ih=>
  intro a b d hn ha hb hd
  by_cases hv:aZ a b d<64
  ·have v1:aZ a b d≤a.top:=by unfold aZ;omega
   have v2:aZ a b d≤b.top:=by unfold aZ;omega
   have v3:aZ a b d≤d.top:=by unfold aZ;omega
   have hcase:aZ a b d=a.top∨aZ a b d=b.top∨aZ a b d=d.top:=by unfold aZ;omega
   revert hcase
   revert v1 v2 v3 hv
   generalize aZ a b d=v
   intro hv v1 v2 v3 hcase
   have nl:∀{t:Tr},v=t.top→t.isL=false:=fun {t} e=>by
    cases t with
    |leaf b=>simp only [top] at e;omega
    |node _ _ _=>rfl
   obtain ⟨al1,al2,al3,al4,al5⟩:=cC ha v1
   obtain ⟨bl1,bl2,bl3,bl4,bl5⟩:=cC hb v2
   obtain ⟨dl1,dl2,dl3,dl4,dl5⟩:=cC hd v3
   obtain ⟨ah1,ah2,ah3,ah4,ah5⟩:=cD ha v1
   obtain ⟨bh1,bh2,bh3,bh4,bh5⟩:=cD hb v2
   obtain ⟨dh1,dh2,dh3,dh4,dh5⟩:=cD hd v3
   have hsl:(lo v a).sz+(lo v b).sz+(lo v d).sz≤n:=by
    rcases hcase with e|e|e
    ·have:=al4 e.symm (nl e);omega
    ·have:=bl4 e.symm (nl e);omega
    ·have:=dl4 e.symm (nl e);omega
   have hsh:(hi v a).sz+(hi v b).sz+(hi v d).sz≤n:=by
    rcases hcase with e|e|e
    ·have:=ah4 e.symm (nl e);omega
    ·have:=bh4 e.symm (nl e);omega
    ·have:=dh4 e.symm (nl e);omega
   obtain ⟨tl,l1,l2,l3⟩:=ih _ _ _ hsl al1 bl1 dl1
   obtain ⟨th,h1,h2,h3⟩:=ih _ _ _ hsh ah1 bh1 dh1
   have l2':v<tl.top:=by have:=al2 hv;have:=bl2 hv;have:=dl2 hv;unfold aZ at l2;omega
   have h2':v<th.top:=by have:=ah2 hv;have:=bh2 hv;have:=dh2 hv;unfold aZ at h2;omega
   refine ⟨mk v tl th,uv hv l2' h2' l1 h1,BM l2',fun c=> ?_⟩
   rw [xJ]
   split
   ·rename_i hc
    rw [h3,ah5 c hc,bh5 c hc,dh5 c hc]
   ·rename_i hc
    have hc:c v=false:=by simpa using hc
    rw [l3,al5 c hc,bl5 c hc,dl5 c hc]
  ·have isl:∀{t:Tr},t.ok→64≤t.top→∃b,t=leaf b:=fun {t} ht h64=>by
    cases t with
    |leaf b=>exact ⟨b,rfl⟩
    |node _ _ _=>have:=ht.1;simp only [top] at h64;omega
   unfold aZ at hv
   obtain ⟨x,rfl⟩:=isl ha (by omega)
   obtain ⟨y,rfl⟩:=isl hb (by omega)
   obtain ⟨z,rfl⟩:=isl hd (by omega)
   exact ⟨leaf (o x y z),trivial,by simp [aZ,top],fun c=>rfl⟩
noncomputable def can (f:Cf→Bool):Tr:=open Classical in if h:∃t:Tr,t.ok∧∀c,t.ev c=f c then h.choose else leaf false
theorem gZ {f:Cf→Bool} {t:Tr} (h:t.ok) (he:∀c,t.ev c=f c):can f=t:=by
 have hx:∃t:Tr,t.ok∧∀c,t.ev c=f c:=⟨t,h,he⟩
 unfold can
 rw [dif_pos hx]
 exact BL hx.choose_spec.1 h fun c=>(hx.choose_spec.2 c).trans (he c).symm
noncomputable def ap (o:Op3) (a b d:Tr):Tr:=can fun c=>o (a.ev c) (b.ev c) (d.ev c)
section
variable {o:Op3} {a b d:Tr} (ha:a.ok) (hb:b.ok) (hd:d.ok)
include ha hb hd
theorem fV:(ap o a b d).ok∧aZ a b d≤(ap o a b d).top∧∀c,(ap o a b d).ev c=o (a.ev c) (b.ev c) (d.ev c):=by
 obtain ⟨t,h1,h2,h3⟩:=Lc o _ a b d (Nat.le_refl _) ha hb hd
 have:ap o a b d=t:=gZ h1 h3
 rw [this]
 exact ⟨h1,h2,h3⟩
theorem Ld:(ap o a b d).ok:=(fV ha hb hd).1
theorem xK (hv:aZ a b d<64):ap o a b d=mk (aZ a b d) (ap o (lo (aZ a b d) a) (lo (aZ a b d) b) (lo (aZ a b d) d)) (ap o (hi (aZ a b d) a) (hi (aZ a b d) b) (hi (aZ a b d) d)):=by
 have v1:aZ a b d≤a.top:=by unfold aZ;omega
 have v2:aZ a b d≤b.top:=by unfold aZ;omega
 have v3:aZ a b d≤d.top:=by unfold aZ;omega
 revert v1 v2 v3 hv
 generalize aZ a b d=v
 intro hv v1 v2 v3
 obtain ⟨al1,al2,al3,al4,al5⟩:=cC ha v1
 obtain ⟨bl1,bl2,bl3,bl4,bl5⟩:=cC hb v2
 obtain ⟨dl1,dl2,dl3,dl4,dl5⟩:=cC hd v3
 obtain ⟨ah1,ah2,ah3,ah4,ah5⟩:=cD ha v1
 obtain ⟨bh1,bh2,bh3,bh4,bh5⟩:=cD hb v2
 obtain ⟨dh1,dh2,dh3,dh4,dh5⟩:=cD hd v3
 obtain ⟨l1,l2,l3⟩:=fV (o:=o) al1 bl1 dl1
 obtain ⟨h1,h2,h3⟩:=fV (o:=o) ah1 bh1 dh1
 have l2':v<(ap o (lo v a) (lo v b) (lo v d)).top:=by have:=al2 hv;have:=bl2 hv;have:=dl2 hv;unfold aZ at l2;omega
 have h2':v<(ap o (hi v a) (hi v b) (hi v d)).top:=by have:=ah2 hv;have:=bh2 hv;have:=dh2 hv;unfold aZ at h2;omega
 refine gZ (uv hv l2' h2' l1 h1) fun c=> ?_
 rw [xJ]
 split
 ·rename_i hc
  rw [h3,ah5 c hc,bh5 c hc,dh5 c hc]
 ·rename_i hc
  have hc:c v=false:=by simpa using hc
  rw [l3,al5 c hc,bl5 c hc,dl5 c hc]
end
theorem xL (o:Op3) (x y z:Bool):ap o (leaf x) (leaf y) (leaf z)=leaf (o x y z):=gZ trivial fun _=>rfl
theorem g0 {t:Tr} (ht:t.ok) (h64:64≤t.top):∃b,t=leaf b:=by
 cases t with
 |leaf b=>exact ⟨b,rfl⟩
 |node _ _ _=>have:=ht.1;simp only [top] at h64;omega
end Tr
end Go.Proofs.YtenpmjhnhepfdaaGreatDoor
