/-
  A program logic over partial heaps: strings put together, compared, made of bytes; ranges over strings.
-/
import Derived.Test.YtenpmjhnhepfdaaGreatDoorRa
import Derived.Test.YtenpmjhnhepfdaaGreatDoorProg
import Derived.KernelRfl
import Derived.Test.YtenpmjhnhepfdaaGreatDoorPhg
namespace Go.Proofs.YtenpmjhnhepfdaaGreatDoor
open Tr
structure Br where
 v:Int
 l:Int
 h:Int
deriving DecidableEq
def inn (S:List Tr) (t:Tr):Prop:=t.isL=true∨t∈S
def num (S:List Tr):Tr→Nat
 |leaf b=>if b then 1 else 0
 |node v l h=>S.idxOf (node v l h)+2
def br (S:List Tr):Tr→Br
 |leaf _=>⟨0,0,0⟩
 |node v l h=>⟨(v:Int),(num S l:Int),(num S h:Int)⟩
def brs (S:List Tr):List Br:=S.map (br S)
inductive Cl:List Tr→Prop
 |nil:Cl []
 |snoc {S:List Tr} {v:Nat} {l h:Tr}:Cl S→inn S l→inn S h→(node v l h).ok→node v l h ∉ S→Cl (S++[node v l h])
theorem bA {S X:List Tr} {t:Tr} (h:inn S t):inn (S++X) t:=h.imp id fun h=>List.mem_append_left X h
theorem dK (S:List Tr) (b:Bool):inn S (leaf b):=.inl rfl
theorem co {S:List Tr} {t:Tr} (h:inn S t) (hn:t.isL=false):t∈S:=h.resolve_left (by rw [hn];exact Bool.false_ne_true)
theorem bF {S X:List Tr} {t:Tr} (h:inn S t):num (S++X) t=num S t:=by
 cases t with
 |leaf b=>rfl
 |node v l r=>
  have hm:=co h rfl
  simp only [num,List.idxOf_append,hm,if_true]
namespace Cl
theorem mem {S:List Tr} (h:Cl S):∀t∈S,t.ok∧∃v l r,t=node v l r∧inn S l∧inn S r:=by
 induction h with
 |nil=>intro t ht;cases ht
 | @snoc S v l r hS hl hr hk hn ih=>
  intro t ht
  rcases List.mem_append.1 ht with ht|ht
  ·obtain ⟨h1,v',l',r',h2,h3,h4⟩:=ih t ht
   exact ⟨h1,v',l',r',h2,bA h3,bA h4⟩
  ·obtain rfl:=List.mem_singleton.1 ht
   exact ⟨hk,v,l,r,rfl,bA hl,bA hr⟩
theorem nodup {S:List Tr} (h:Cl S):S.Nodup:=by
 induction h with
 |nil=>exact List.nodup_nil
 | @snoc S v l r hS hl hr hk hn ih=>
  rw [List.nodup_append]
  refine ⟨ih,by simp,?_⟩
  intro a ha b hb
  rw [List.mem_singleton] at hb
  subst hb
  rintro rfl
  exact hn ha
theorem inn_ok {S:List Tr} (h:Cl S) {t:Tr} (ht:inn S t):t.ok:=by
 cases t with
 |leaf b=>trivial
 |node v l r=>exact (h.mem _ (co ht rfl)).1
theorem inn_kids {S:List Tr} (h:Cl S) {v:Nat} {l r:Tr} (ht:inn S (node v l r)):inn S l∧inn S r:=by
 obtain ⟨_,v',l',r',e,h3,h4⟩:=h.mem _ (co ht rfl)
 cases e
 exact ⟨h3,h4⟩
theorem inn_lo {S:List Tr} (h:Cl S) {t:Tr} (ht:inn S t) (v:Nat):inn S (lo v t):=by
 cases t with
 |leaf b=>exact ht
 |node w l r=>
  simp only [lo]
  split
  ·exact (h.inn_kids ht).1
  ·exact ht
theorem inn_hi {S:List Tr} (h:Cl S) {t:Tr} (ht:inn S t) (v:Nat):inn S (hi v t):=by
 cases t with
 |leaf b=>exact ht
 |node w l r=>
  simp only [hi]
  split
  ·exact (h.inn_kids ht).2
  ·exact ht
end Cl
theorem cq {S:List Tr} {t:Tr} (h:inn S t):num S t≤S.length+1:=by
 cases t with
 |leaf b=>simp only [num];split<;>omega
 |node v l r=>
  have:=List.idxOf_lt_length_of_mem (co h rfl)
  simp only [num];omega
theorem dM {S:List Tr} {t:Tr} (h:t.isL=false):2≤num S t:=by
 cases t with
 |leaf b=>cases h
 |node v l r=>simp only [num];omega
theorem su {S:List Tr} {t:Tr} (h:num S t<2):t.isL=true:=by
 cases t with
 |leaf b=>rfl
 |node v l r=>simp only [num] at h;omega
theorem cM (S:List Tr) (b:Bool):num S (leaf b)≤1:=by simp only [num];split<;>omega
theorem fb {S:List Tr} {t:Tr} (h:t∈S) (hl:t.isL=false):S[num S t - 2]? =some t:=by
 cases t with
 |leaf b=>cases hl
 |node v l r=>
  have h1:=List.idxOf_lt_length_of_mem h
  simp only [num,Nat.add_sub_cancel]
  rw [List.getElem?_eq_getElem h1,List.getElem_idxOf]
theorem cT {S:List Tr} {t u:Tr} (ht:inn S t) (hu:inn S u) (h:num S t=num S u):t=u:=by
 cases ht':t.isL with
 |true=>
  cases hu':u.isL with
  |true=>
   cases t with
   |node _ _ _=>cases ht'
   |leaf a=>
    cases u with
    |node _ _ _=>cases hu'
    |leaf b=>
     simp only [num] at h
     cases a<;>cases b<;>simp at h ⊢
  |false=>
   have h1:=dM (S:=S) hu'
   cases t with
   |node _ _ _=>cases ht'
   |leaf a=>have h2:num S (leaf a)≤1:=cM S a;omega
 |false=>
  cases hu':u.isL with
  |true=>
   have h1:=dM (S:=S) ht'
   cases u with
   |node _ _ _=>cases hu'
   |leaf a=>have h2:num S (leaf a)≤1:=cM S a;omega
  |false=>
   have h1:=fb (co ht ht') ht'
   have h2:=fb (co hu hu') hu'
   rw [h,h2] at h1
   exact (Option.some.inj h1).symm
theorem dn {S:List Tr} (hS:Cl S) {k:Nat} {t:Tr} (h:S[k]? =some t):num S t=k+2:=by
 have hk:k<S.length:=(List.getElem?_eq_some_iff.1 h).1
 have hm:t∈S:=List.mem_of_getElem? h
 obtain ⟨_,v,l,r,rfl,_⟩:=hS.mem t hm
 have h1:=List.idxOf_lt_length_of_mem hm
 have h2:S[S.idxOf (node v l r)]=S[k]:=by
  rw [List.getElem_idxOf]
  exact (List.getElem?_eq_some_iff.1 h).2.symm
 have:=(List.getElem_inj hS.nodup).1 h2
 simp only [num]
 omega
def tr (S:List Tr) (n:Nat):Tr:=
 if n=0 then leaf false else if n=1 then leaf true else S.getD (n - 2) (leaf false)
theorem fw {S:List Tr} {n:Nat} (h:n≤S.length+1):inn S (tr S n):=by
 unfold tr
 split
 ·exact dK _ _
 ·split
  ·exact dK _ _
  ·refine .inr ?_
   rw [List.getD_eq_getElem?_getD,List.getElem?_eq_getElem (by omega)]
   exact List.getElem_mem _
theorem eW {S:List Tr} (hS:Cl S) {n:Nat} (h:n≤S.length+1):num S (tr S n)=n:=by
 unfold tr
 split
 ·rename_i e;subst e;rfl
 ·split
  ·rename_i e;subst e;rfl
  ·have hk:n - 2<S.length:=by omega
   have:=dn hS (k:=n - 2) (t:=S[n - 2]) (List.getElem?_eq_getElem hk)
   rw [List.getD_eq_getElem?_getD,List.getElem?_eq_getElem hk]
   simp only [Option.getD_some]
   omega
theorem fz {S:List Tr} (hS:Cl S) {t:Tr} (h:inn S t):tr S (num S t)=t:=
 cT (fw (cq h)) h (eW hS (cq h))
theorem zY {S X:List Tr} (hS:Cl S) {t:Tr} (h:t∈S):br (S++X) t=br S t:=by
 obtain ⟨_,v,l,r,rfl,hl,hr⟩:=hS.mem t h
 simp only [br,bF hl,bF hr]
theorem oE {S X:List Tr} (hS:Cl S):brs (S++X)=brs S++X.map (br (S++X)):=by
 unfold brs
 rw [List.map_append]
 congr 1
 exact List.map_congr_left fun t ht=>zY hS ht
theorem dO {S:List Tr} (hS:Cl S) {v:Nat} {l r:Tr} (hl:inn S l) (hr:inn S r):brs (S++[node v l r])=brs S++[⟨(v:Int),(num S l:Int),(num S r:Int)⟩]:=by
 rw [oE hS]
 simp only [List.map_cons,List.map_nil,br,bF hl,bF hr]
theorem aO (S:List Tr):(brs S).length=S.length:=by simp [brs]
theorem jW {S:List Tr} {k:Nat} {t:Tr} (h:S[k]? =some t):(brs S)[k]? =some (br S t):=by simp [brs,h]
theorem BC {S:List Tr} (hS:Cl S) {t u:Tr} (ht:t∈S) (hu:u∈S) (h:br S t=br S u):t=u:=by
 obtain ⟨_,v,l,r,rfl,hl,hr⟩:=hS.mem t ht
 obtain ⟨_,v',l',r',rfl,hl',hr'⟩:=hS.mem u hu
 simp only [br,Br.mk.injEq] at h
 obtain ⟨h1,h2,h3⟩:=h
 rw [cT hl hl' (by omega),cT hr hr' (by omega),show v=v' by omega]
theorem mN {S T:List Tr} (hS:Cl S):Cl T→brs S=brs T→S=T:=by
 intro hT
 induction hS generalizing T with
 |nil=>
  intro h
  cases T with
  |nil=>rfl
  |cons a b=>have:=congrArg List.length h;simp [brs] at this
 | @snoc S v l r hS hl hr hk hn ih=>
  intro h
  cases hT with
  |nil=>have:=congrArg List.length h;simp [brs] at this
  | @snoc T v' l' r' hT hl' hr' hk' hn'=>
   rw [dO hS hl hr,dO hT hl' hr'] at h
   obtain ⟨h1,h2⟩:=List.append_inj' h rfl
   obtain rfl:=ih hT h1
   simp only [List.cons.injEq,Br.mk.injEq,and_true] at h2
   obtain ⟨h3,h4,h5⟩:=h2
   rw [cT hl hl' (by omega),cT hr hr' (by omega),show v=v' by omega]
def vis:Tr→List Tr→List Tr
 |leaf _,S=>S
 |node v l h,S=>if node v l h∈S then S else vis h (vis l S)++[node v l h]
theorem iK {S:List Tr} {t:Tr} (h:inn S t):vis t S=S:=by
 cases t with
 |leaf b=>rfl
 |node v l r=>unfold vis;rw [if_pos (co h rfl)]
theorem bq:∀(t:Tr) (S:List Tr),t.ok→Cl S→Cl (vis t S)∧inn (vis t S) t∧(∃X,vis t S=S++X∧∀x∈X,x.sz≤t.sz)
 |leaf b,S,_,hS=>⟨hS,dK _ _,[],by simp [vis],fun x h=>by cases h⟩
 |node v l r,S,hk,hS=>by
  unfold vis
  split
  ·rename_i hm
   exact ⟨hS,.inr hm,[],by simp,fun x h=>by cases h⟩
  ·rename_i hm
   obtain ⟨h1,h2,X,h3,h4⟩:=bq l S hk.2.2.2.2.1 hS
   obtain ⟨g1,g2,Y,g3,g4⟩:=bq r (vis l S) hk.2.2.2.2.2 h1
   have hn:node v l r ∉ vis r (vis l S):=by
    rw [g3,h3]
    intro hc
    rcases List.mem_append.1 hc with hc|hc
    ·rcases List.mem_append.1 hc with hc|hc
     ·exact hm hc
     ·have:=h4 _ hc;simp only [sz] at this;omega
    ·have:=g4 _ hc;simp only [sz] at this;omega
   refine ⟨.snoc g1 (by rw [g3];exact bA h2) g2 hk hn,.inr (by simp),X++Y++[node v l r],by rw [g3,h3];simp,fun x hx=> ?_⟩
   simp only [List.mem_append,List.mem_singleton,or_assoc] at hx
   rcases hx with hx|hx|hx
   ·have:=h4 x hx;simp only [sz];omega
   ·have:=g4 x hx;simp only [sz];omega
   ·rw [hx];exact Nat.le_refl _
def aL (t:Tr):List Tr:=vis t []
theorem cu {t:Tr} (h:t.ok):Cl (aL t):=(bq t [] h .nil).1
theorem ca {t:Tr} (h:t.ok):inn (aL t) t:=(bq t [] h .nil).2.1
abbrev Dia:=List Br×Int
def dia (t:Tr):Dia:=(brs (aL t),(num (aL t) t:Int))
theorem Ek {t u:Tr} (ht:t.ok) (hu:u.ok) (h:dia t=dia u):t=u:=by
 unfold dia at h
 simp only [Prod.mk.injEq] at h
 obtain ⟨h1,h2⟩:=h
 have h3:=mN (cu ht) (cu hu) h1
 rw [← h3] at h2
 refine cT (ca ht) ?_ (by omega)
 rw [h3]
 exact ca hu
def cnt:Tr→Nat
 |leaf _=>0
 |node _ l h=>cnt l+cnt h+1
theorem jp:∀(t:Tr) (S:List Tr),(vis t S).length≤S.length+cnt t
 |leaf _,_=>Nat.le_refl _
 |node v l r,S=>by
  unfold vis
  split
  ·omega
  ·have h1:=jp l S
   have h2:=jp r (vis l S)
   simp only [List.length_append,List.length_singleton,cnt]
   omega
theorem uq (t:Tr):(aL t).length≤cnt t:=by have:=jp t [];simpa [aL] using this
end Go.Proofs.YtenpmjhnhepfdaaGreatDoor
namespace Go.Proofs.YtenpmjhnhepfdaaGreatDoor
open Go Go.Proofs.Tryz
theorem sz3:tsz prog 3=some (1,8):=by kernel_rfl
theorem sz5:tsz prog 5=some (1,1):=by kernel_rfl
theorem sz9:tsz prog 9=some (1,16):=by kernel_rfl
theorem Pj:tsz prog 54=some (1,8):=by kernel_rfl
theorem Pk:tsz prog 67=some (13,160):=by kernel_rfl
theorem Pm:tsz prog 69=some (2,16):=by kernel_rfl
theorem Po:tsz prog 72=some (4,64):=by kernel_rfl
theorem Pp:tsz prog 74=some (9,104):=by kernel_rfl
theorem Pq:tsz prog 79=some (7,112):=by kernel_rfl
theorem Pt:tsz prog 97=some (5,40):=by kernel_rfl
theorem KW:tsz prog 101=some (3,24):=by kernel_rfl
theorem ur:tsz prog 103=some (3,24):=by kernel_rfl
theorem FV:tsz prog 289=some (3,24):=by kernel_rfl
theorem zr3:bu prog 3=some (Value.int .i64 0):=by kernel_rfl
theorem zr5:bu prog 5=some (Value.int .u8 0):=by kernel_rfl
theorem zr9:bu prog 9=some (Value.string ⟨#[]⟩):=by kernel_rfl
theorem Pu:bu prog 54=some (Value.int .u64 0):=by kernel_rfl
theorem Pv:bu prog 67=some (Value.agg (#[Value.string ⟨#[]⟩,Value.int .i64 0,Value.slice none 0 0,Value.slice none 0 0,Value.int .i64 0,Value.bool false,Value.int .i64 0,Value.slice none 0 0,Value.bool false,Value.int .i64 0,Value.int .i64 0,Value.int .i64 0,Value.int .i64 0])):=by kernel_rfl
theorem Pw:bu prog 69=some (Value.agg (#[Value.bool false,Value.int .i64 0])):=by kernel_rfl
theorem Px:bu prog 72=some (Value.agg (#[Value.slice none 0 0,Value.int .i64 0,Value.slice none 0 0,Value.int .i64 0])):=by kernel_rfl
theorem Py:bu prog 74=some (Value.agg (#[Value.int .i64 0,Value.int .i64 0,Value.int .i64 0,Value.int .i64 0,Value.int .i64 0,Value.int .i64 0,Value.slice none 0 0,Value.slice none 0 0,Value.int .i64 0])):=by kernel_rfl
theorem Pz:bu prog 79=some (Value.agg (#[Value.string ⟨#[]⟩,Value.int .i64 0,Value.string ⟨#[]⟩,Value.slice none 0 0,Value.string ⟨#[]⟩,Value.slice none 0 0,Value.int .i64 0])):=by kernel_rfl
theorem PA:bu prog 97=some (Value.agg (#[Value.int .i64 0,Value.int .i64 0,Value.int .i64 0,Value.int .i64 0,Value.int .i64 0])):=by kernel_rfl
theorem KX:bu prog 101=some (Value.agg (#[Value.int .i64 0,Value.int .i64 0,Value.int .i64 0])):=by kernel_rfl
theorem ut:bu prog 103=some (Value.agg (#[Value.int .i64 0,Value.int .i64 0,Value.int .i64 0])):=by kernel_rfl
theorem FW:bu prog 289=some (Value.agg (#[Value.int .i64 0,Value.int .i64 0,Value.int .i64 0])):=by kernel_rfl
section
variable {P:Program} {n:Nat} {Q:Exit→En→PH→Prop} {E:En} {F:PH} {ops:Array Oper} {l:List Oper} {d:Tmp} {op:Op} {ty:TypeId} {pos:String} {aft:Array Edge} {gd:Option (Nat×Bool)}
theorem PB {fn:Func} {r r' r'' r3:ResultVar} {v v' v'' v3:Value} (h:fn.results= #[r,r',r'',r3]) (hv:jr P E F r v) (hv':jr P E F r' v') (hv'':jr P E F r'' v'') (hv3:jr P E F r3 v3):oQ P fn E F (.tuple #[v,v',v'',v3]):=fun e w tmps st ht=>by
 have k:=fC hv st ht
 have k':=fC hv' st ht
 have k'':=fC hv'' st ht
 have k3:=fC hv3 st ht
 clear ht hv hv' hv'' hv3
 rcases k with ⟨t,rfl,h1⟩|⟨x,t,a,rfl,h1,h2⟩<;>rcases k' with ⟨t',rfl,h3⟩|⟨x',t',a',rfl,h3,h4⟩<;>rcases k'' with ⟨t'',rfl,h5⟩|⟨x'',t'',a'',rfl,h5,h6⟩<;>rcases k3 with ⟨t3,rfl,h7⟩|⟨x3,t3,a3,rfl,h7,h8⟩<;>simp [results,asAddr, *]
end
section
variable {P:Program} {F:PH} {E:En} {o:Oper} {x y:Operand} {t t':TypeId}
theorem IB {c d:ByteArray} (ho:o.op=.binOp .add t x y t') (hx:ev E x=.string c) (hy:ev E y=.string d) (h:c.size+d.size≤9223372036854775807):RD P E F o (.string (c++d)):=by
 have e:IntKind.i64.max=9223372036854775807:=by decide
 have hn:¬(((c.size+d.size:Nat):Int)>IntKind.i64.max):=by rw [e];omega
 simp only [RD,execOp,ho,hx,hy,ai]
 refine ⟨.string (c++d),⟨(),bI rfl,?_⟩,rfl⟩
 show rdo P (Op.stringOp .add c d) F _
 unfold Op.stringOp
 simp only [if_neg hn]
 rfl
theorem IC {c d:ByteArray} (ho:o.op=.binOp .lss t x y t') (hx:ev E x=.string c) (hy:ev E y=.string d):RD P E F o (.bool (Op.bytesLess c.toList d.toList)):=by
 simp only [RD,execOp,ho,hx,hy,ai]
 exact ⟨_,⟨(),bI rfl,rfl⟩,rfl⟩
theorem ID {c d:ByteArray} (ho:o.op=.binOp .geq t x y t') (hx:ev E x=.string c) (hy:ev E y=.string d):RD P E F o (.bool (!Op.bytesLess c.toList d.toList)):=by
 simp only [RD,execOp,ho,hx,hy,ai]
 exact ⟨_,⟨(),bI rfl,rfl⟩,rfl⟩
theorem BE {e:TypeId} {v:Value} {s:ByteArray} (ho:o.op=.convert t t' x) (hx:ev E x=v) (h1:P.underlying t=some (.slice e)) (h2:P.underlying t'=some .string) (h3:P.underlying e=some (.int .u8))
  (hv:∃b l c,v=.slice b l c) (h:rdo P (Conv.bytesToString v) F (.string s)):RD P E F o (.string s):=by
 obtain ⟨b,l,c,rfl⟩:=hv
 simp only [RD,execOp,ho,hx,ai,convert]
 refine ⟨_,⟨_,(av h1 _).2 rfl,_,(av h2 _).2 rfl,?_⟩,rfl⟩
 cases b<;>(simp only [ai];exact ⟨_,(av h3 _).2 rfl,h⟩)
variable {K:En→PH→Prop} {d:Tmp} {ty:TypeId} {pos:String} {aft:Array Edge} {gd:Option (Nat×Bool)}
theorem BF {m:Option Nat} {r:Value} (ho:o.op=.call {callee:=.builtin .len,args:= #[x],argTypes:= #[t]}) (hx:ev E x=.map m) (h:rdo P (Builtin.len_ #[t] o.type #[.map m]) F r):RD P E F o r:=by
 simp [RD,execOp,ho,resolve,invoke,builtin,hx,ai]
 exact h
theorem El {v r:Value} (ho:o.op=.entry x) (hx:ev E x=v) (h:rdo P (Instr.entry v) F r):RD P E F o r:=by
 simp only [RD,execOp,ho,hx,ai]
 exact ⟨_,h,rfl⟩
end
end Go.Proofs.YtenpmjhnhepfdaaGreatDoor
