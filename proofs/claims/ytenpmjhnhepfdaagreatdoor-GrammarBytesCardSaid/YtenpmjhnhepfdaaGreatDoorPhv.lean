/-
  A reader of code. Part 4: operations that write, make memory or call.
-/
import Derived.Test.YtenpmjhnhepfdaaGreatDoorPhs
namespace Go.Proofs.YtenpmjhnhepfdaaGreatDoor.Rx
open Go
def okV (T:Nat→Option SB):SV→Value→Prop
 | .c v,x=>x=v| .any v,x=>x=v| .ad a,x=>x=.pointer (some a)| .lit b,x=>x=.bool b| .vt w,x=>x=.tuple w| .und,x=>x=undef
 | .ref i,x=>∃b,T i=some b∧x=b.v
 | .unk,_=>True
structure Rel (σ:Sy) (E:En):Prop where
 val:∀t,okV σ.T (σ.S t) (E t)
 top:∀j,σ.n≤j→σ.T j=none
def ib (T:Nat→Option SB):NV→Value→Prop
 | .sv s,v=>okV T s v
 | .nb b,v=>v=b.v
theorem Gv {T:Nat→Option SB} {s:SV} {x v:Value} (h:okV T s x) (hv:(s.vw T).val=some v):x=v:=by
 cases s with
 |ref i=>
  obtain ⟨b,hb,rfl⟩:=h
  simp only [SV.vw,hb] at hv
  cases b<;>simp_all [SB.vw,VW.val,SB.v]
 |unk=>simp [SV.vw,VW.val] at hv
 |_=>simp_all [SV.vw,VW.val,okV]
section
variable {P:Program} {σ:Sy} {E:En} {F:PH} {x y:Operand} {o:Oper}
theorem IZ {T:Nat→Option SB} (v:Value):okV T (LM v) v:=by cases v<;>rfl
theorem rb (h:Rel σ E) (x:Operand):okV σ.T (σ.cp x) (ev E x):=by
 cases x with
 |tmp t=>exact h.val t
 |const v=>exact IZ v
 |global g=>rfl
 |func f=>rfl
theorem aV (h:Rel σ E) {w:VW} {v:Value} (hw:σ.ov x=w) (hv:w.val=some v):ev E x=v:=Gv (rb h x) (by rw [← hw] at hv;exact hv)
theorem ovc (h:Rel σ E) {v:Value} (hw:σ.ov x=.c v):ev E x=v:=aV h hw rfl
theorem EO {i:Nat} {p:Option Addr} (hw:σ.ov x=.ptr i p):σ.T i=some (.ptr p):=by
 unfold Sy.ov at hw
 cases hs:σ.cp x<;>simp only [hs,SV.vw] at hw<;>try cases hw
 rename_i j
 cases hb:σ.T j with
 |none=>simp [hb] at hw
 |some b=>cases b<;>simp only [hb,SB.vw] at hw<;>cases hw;exact hb
theorem Cb {i t:Nat} {b:Bool} (hw:σ.vw t=.bool i b):σ.T i=some (.bool b):=by
 unfold Sy.vw at hw
 cases hs:σ.S t<;>simp only [hs,SV.vw] at hw<;>try cases hw
 rename_i j
 cases hb:σ.T j with
 |none=>simp [hb] at hw
 |some b=>cases b<;>simp only [hb,SB.vw] at hw<;>cases hw;exact hb
theorem EP {i t:Nat} {p:Prop} {d:Decidable p} (hw:σ.vw t=.prp i p d):σ.T i=some (.prp p d):=by
 unfold Sy.vw at hw
 cases hs:σ.S t<;>simp only [hs,SV.vw] at hw<;>try cases hw
 rename_i j
 cases hb:σ.T j with
 |none=>simp [hb] at hw
 |some b=>cases b<;>simp only [hb,SB.vw] at hw<;>cases hw;exact hb
theorem mT {α:Type} (f:Nat→α) (d:Nat) (v:α):up f d v d=v:=by simp [up]
theorem rc {α:Type} (f:Nat→α) {d t:Nat} (v:α) (h:¬t=d):up f d v t=f t:=by simp only [up,ju h];rfl
theorem Rel.put (h:Rel σ E) {d:Nat} {nv:NV} {v:Value} (hv:ib σ.T nv v):Rel (σ.put d nv) (upd E d v):=by
 cases nv with
 |sv s=>
  refine ⟨fun t=> ?_,h.top⟩
  by_cases ht:t=d
  ·subst ht
   show okV _ (up _ _ _ t) (upd E t v t)
   rw [mT,show upd E t v t=v by simp [upd]];exact hv
  ·show okV _ (up _ _ _ t) (upd E d v t)
   rw [rc _ _ ht];simp only [upd,ju ht];exact h.val t
 |nb b=>
  have key:∀s x,okV σ.T s x→okV (up σ.T σ.n (some b)) s x:=by
   intro s x hs
   cases s with
   |ref i=>
    obtain ⟨b',hb,hx⟩:=hs
    refine ⟨b',?_,hx⟩
    rw [rc _ _ (fun e=> ?_)];exact hb
    rw [e,h.top _ (Nat.le_refl _)] at hb;cases hb
   |_=>exact hs
  refine ⟨fun t=> ?_,fun j hj=> ?_⟩
  ·by_cases ht:t=d
   ·subst ht
    show okV _ (up _ _ _ t) (upd E t v t)
    rw [mT]
    exact ⟨b,mT ..,(show upd E t v t=v by simp [upd]).trans hv⟩
   ·show okV _ (up _ _ _ t) (upd E d v t)
    rw [rc _ _ ht];simp only [upd,ju ht];exact key _ _ (h.val t)
  ·have hj':σ.n+1≤j:=hj
   show up σ.T σ.n (some b) j=none
   rw [rc _ _ (by omega)];exact h.top _ (by omega)
theorem Rel.putO (h:Rel σ E) {d:Option Tmp} {nv:NV} {v:Value} (hv:ib σ.T nv v):Rel (σ.putO d nv) (cv E d v):=by
 cases d with
 |none=>exact h
 |some d=>exact h.put hv
theorem Rel.rf (h:Rel σ E) {i:Nat} {b0 b:SB} (hi:σ.T i=some b0) (hv:b0.v=b.v):Rel (σ.rf i b) E:=by
 refine ⟨fun t=> ?_,fun j hj=> ?_⟩
 ·have:=h.val t
  show okV (up σ.T i (some b)) (σ.S t) (E t)
  cases hs:σ.S t with
  |ref j=>
   rw [hs] at this
   obtain ⟨b',hb,hx⟩:=this
   by_cases hji:j=i
   ·subst hji
    rw [hi] at hb;cases hb
    exact ⟨b,mT ..,hx.trans hv⟩
   ·exact ⟨b',by rw [rc _ _ hji];exact hb,hx⟩
  |_=>rw [hs] at this;exact this
 ·show up σ.T i (some b) j=none
  have:¬j=i:=fun e=>by subst e;rw [h.top _ hj] at hi;cases hi
  rw [rc _ _ this];exact h.top _ hj
theorem oV {T:Nat→Option SB} (k:Kd) (x:k.T):ib T (k.nv x) (k.v x):=by cases k<;>rfl
theorem Cc {T:Nat→Option SB} (k:Kd) (v:Value):ib T (ofk k v) v:=by
 cases k<;>first|rfl|(cases v<;>first|rfl|exact True.intro)
theorem jw {K:Sy→Addr→Prop} (h:sxA σ x K) (r:Rel σ E):∃σ' a,Rel σ' E∧ev E x=.pointer (some a)∧K σ' a:=by
 unfold sxA at h
 split at h
 ·rename_i a hw;exact ⟨σ,a,r,aV r hw rfl,h⟩
 ·rename_i i p hw
  obtain ⟨a,rfl,h⟩:=h
  exact ⟨σ.rf i (.ad a),a,r.rf (EO hw) rfl,aV r hw rfl,h⟩
 ·rename_i a hw;exact ⟨σ,a,r,aV r hw rfl,h⟩
 ·exact h.elim
theorem kc (r:Rel σ E):∀(l:List Operand) {K:List Value→Prop},uJ σ l K→∃us,l.map (ev E)=us∧K us
 |[],_,h=>⟨[],rfl,h⟩
 |x::l,K,h=>by
  unfold uJ at h
  split at h
  ·rename_i v hv
   obtain ⟨us,h1,h2⟩:=kc r l h
   exact ⟨v::us,by rw [List.map_cons,h1,aV r rfl hv],h2⟩
  ·exact h.elim
def wu (P:Program) (E:En) (F:PH) (o:Oper) (K:RK):Prop:=
 ∃σ nv ck v,RD P E F o v∧Rel σ E∧ib σ.T nv v∧(match ck with|none=>∀F,RD P E F o v|some c=>c F∧∀F':PH,c F'→RD P E F' o v)∧K σ nv ck
theorem wu.pure {K:RK} {nv:NV} {v:Value} (hy:∀F,RD P E F o v) (r:Rel σ E) (h:K σ nv none) (hv:ib σ.T nv v):wu P E F o K:=⟨σ,nv,none,v,hy F,r,hv,hy,h⟩
theorem wu.chk {K:RK} {nv:NV} {v:Value} {c:PH→Prop} (hc:c F) (hy:∀F',c F'→RD P E F' o v) (r:Rel σ E) (h:K σ nv (some c)) (hv:ib σ.T nv v):wu P E F o K:=⟨σ,nv,some c,v,hy F hc,r,hv,⟨hc,hy⟩,h⟩
def Ah (P:Program) (E:En) (o:Oper) (K:NV→Prop):Prop:=∃nv v,(∀F,RD P E F o v)∧(∀T,ib T nv v)∧K nv
theorem Ah.mk {K:NV→Prop} {nv:NV} {v:Value} (hy:∀F,RD P E F o v) (h:K nv) (hv:∀T,ib T nv v:=by exact fun _=>rfl):Ah P E o K:=⟨nv,v,hy,hv,h⟩
theorem I0 {op:BinOp} {k:IntKind} {a b:Int} {t t':TypeId} {lit:Bool} {K:NV→Prop} (h:sxI op k a b lit K) (ho:o.op=.binOp op t x y t') (hx:ev E x=.int k a) (hy:ev E y=.int k b):Ah P E o K:=by
 cases op<;>simp only [sxI] at h
 case add=>exact .mk (fun F=>Lu ho hx hy) h
 case sub=>exact .mk (fun F=>Lw ho hx hy) h
 case mul=>exact .mk (fun F=>Ly ho hx hy) h
 case quo=>
  cases lit
  ·exact .mk (fun F=>Gk ho hx hy h.1) h.2
  ·simp only at h
   split at h
   ·rename_i hb;exact .mk (fun F=>Gk ho hx hy (of_decide_eq_true hb)) h
   ·exact h.elim
 case rem=>
  cases lit
  ·exact .mk (fun F=>Gl ho hx hy h.1) h.2
  ·simp only at h
   split at h
   ·rename_i hb;exact .mk (fun F=>Gl ho hx hy (of_decide_eq_true hb)) h
   ·exact h.elim
 case and=>exact .mk (fun F=>Lz ho hx hy) h
 case or=>exact .mk (fun F=>PE ho hx hy) h
 case xor=>exact .mk (fun F=>LA ho hx hy) h
 case andNot=>exact .mk (fun F=>BZ ho hx hy) h
 case lss=>exact .mk (fun F=>LB ho hx hy) h
 case leq=>exact .mk (fun F=>LC ho hx hy) h
 case gtr=>exact .mk (fun F=>LD ho hx hy) h
 case geq=>exact .mk (fun F=>LF ho hx hy) h
 case eql=>exact .mk (fun F=>LG ho hx hy) h
 case neq=>exact .mk (v:=.bool (decide (a≠b))) (fun F=>by
  have:=LH (P:=P) (F:=F) ho hx hy
  rw [show (a !=b)=decide (a≠b) by rw [Bool.eq_iff_iff];simp] at this
  exact this) h
theorem Ja {op:BinOp} {k k':IntKind} {a b:Int} {t t':TypeId} {lit:Bool} {K:NV→Prop} (h:sxH op k a b lit K) (ho:o.op=.binOp op t x y t') (hx:ev E x=.int k a) (hy:ev E y=.int k' b):Ah P E o K:=by
 cases op<;>simp only [sxH] at h
 case shl=>
  cases lit
  ·exact .mk (fun F=>Gm ho hx hy h.1) h.2
  ·simp only at h
   split at h
   ·rename_i hb;exact .mk (fun F=>Gm ho hx hy (of_decide_eq_true hb)) h
   ·exact h.elim
 case shr=>
  cases lit
  ·exact .mk (fun F=>Gn ho hx hy h.1) h.2
  ·simp only at h
   split at h
   ·rename_i hb;exact .mk (fun F=>Gn ho hx hy (of_decide_eq_true hb)) h
   ·exact h.elim
theorem sK {w:VW} {b:Bool} (h:w.tv=some b):w.val=some (.bool b):=by
 cases w<;>simp [VW.tv] at h<;>subst h<;>rfl
theorem Cd {op:BinOp} {t t':TypeId} {K:NV→Prop} (h:Cq P σ op t x y K) (r:Rel σ E) (ho:o.op=.binOp op t x y t'):Ah P E o K:=by
 unfold Cq at h
 split at h
 ·rename_i k a k' b hx hy
  split at h
  ·exact Ja h ho (ovc r hx) (ovc r hy)
  ·split at h
   ·rename_i hk
    obtain rfl:=of_decide_eq_true hk
    exact I0 h ho (ovc r hx) (ovc r hy)
   ·exact h.elim
 ·rename_i c d hx hy
  split at h
  ·exact .mk (fun F=>IB ho (ovc r hx) (ovc r hy) h.1) h.2
  ·exact .mk (fun F=>IC ho (ovc r hx) (ovc r hy)) h
  ·exact .mk (fun F=>ID ho (ovc r hx) (ovc r hy)) h
  ·exact .mk (fun F=>IK ho (ovc r hx) (ovc r hy)) h
  ·exact .mk (fun F=>IL ho (ovc r hx) (ovc r hy)) h
  ·exact h.elim
 ·rename_i a hx hy
  split at h
  ·rename_i ht;exact .mk (fun F=>uB ho (aV r hx rfl) (ovc r hy) ht) h
  ·rename_i ht;exact .mk (fun F=>uC ho (aV r hx rfl) (ovc r hy) ht) h
  ·exact h.elim
 ·rename_i i p hx hy
  split at h
  ·rename_i ht;exact .mk (fun F=>uB ho (aV r hx rfl) (ovc r hy) ht) h
  ·rename_i ht;exact .mk (fun F=>uC ho (aV r hx rfl) (ovc r hy) ht) h
  ·exact h.elim
 ·rename_i b l c hx hy
  split at h
  ·rename_i ht;exact .mk (fun F=>v9 (s:=⟨b,l,c⟩) ho (ovc r hx) (ovc r hy) ht) h
  ·rename_i ht;exact .mk (fun F=>wa (s:=⟨b,l,c⟩) ho (ovc r hx) (ovc r hy) ht) h
  ·exact h.elim
 ·rename_i c d hx hy
  split at h
  ·rename_i ht;obtain ⟨v,h1,h2⟩:=h;exact .mk (fun F=>Em ho (ovc r hx) (ovc r hy) ht (h1 F)) h2
  ·rename_i ht;obtain ⟨v,h1,h2⟩:=h;exact .mk (fun F=>Eo ho (ovc r hx) (ovc r hy) ht (h1 F)) h2
  ·exact h.elim
 ·split at h
  ·rename_i a b ht ha hb
   split at h
   ·exact .mk (fun F=>II ho (aV r rfl (sK ha)) (aV r rfl (sK hb)) ht) h
   ·exact .mk (fun F=>IJ ho (aV r rfl (sK ha)) (aV r rfl (sK hb)) ht) h
   ·exact h.elim
  ·exact h.elim
end
end Go.Proofs.YtenpmjhnhepfdaaGreatDoor.Rx
namespace Go.Proofs.YtenpmjhnhepfdaaGreatDoor.Rx
open Go
section
variable {P:Program} {σ:Sy} {E:En} {F:PH} {x y:Operand} {o:Oper}
theorem LJ {α β:Type} {f:α→β} {l:List α} {a b:β} (h:l.map f=[a,b]):∃x y,l=[x,y]∧f x=a∧f y=b:=by
 rcases l with _|⟨x,_|⟨y,_|⟨z,l⟩⟩⟩<;>simp at h
 exact ⟨x,y,rfl,h⟩
theorem LL {α β:Type} {f:α→β} {l:List α} {a b c:β} (h:l.map f=[a,b,c]):∃x y z,l=[x,y,z]∧f x=a∧f y=b∧f z=c:=by
 rcases l with _|⟨x,_|⟨y,_|⟨z,_|⟨u,l⟩⟩⟩⟩<;>simp at h
 exact ⟨x,y,z,rfl,h⟩
theorem dP {b:Bool} {K:Prop} (h:okN b K):b=true∧K:=by cases b;exact h.elim;exact ⟨rfl,h⟩
theorem sL {d:TypeDesc} (h:kdD d=.agg):jt d=true:=by cases d<;>simp [kdD] at h<;>rfl
theorem mU {d:TypeDesc} (h:kdD d≠.agg):jt d=false:=by cases d<;>first|rfl|exact absurd rfl h
theorem EQ {t:TypeId} {a:Addr} {K:NV→(PH→Prop)→Prop} (h:Je P t a F K) (r:Rel σ E) (ho:o.op=.load t x) (hx:ev E x=.pointer (some a)):
  ∃nv v c,c F∧(∀F':PH,c F'→RD P E F' o v)∧(∀T,ib T nv v)∧K nv c:=by
 unfold Je at h
 split at h
 ·exact h.elim
 ·rename_i d hd
  split at h
  ·rename_i hk
   split at h
   ·rename_i n b hz
    obtain ⟨v,rfl,hr,h⟩:=h
    exact ⟨.sv (.c (.agg v)),.agg v,fun F=>F.row a v,hr,fun F' hr=>Ez ho hx hd (sL hk) hz hr,fun _=>rfl,h⟩
   ·exact h.elim
  ·rename_i hk
   obtain ⟨v,hc,h⟩:=h
   exact ⟨_,_,_,hc,fun F' hc=>Ey ho hx hd (mU hk) hc,fun _=>oV _ v,h⟩
theorem gr {y:Option Operand} {dflt:Nat} {K:Nat→Prop} (h:sN σ y dflt K) (r:Rel σ E):∃l,cV (y.map (ev E)) dflt l∧K l:=by
 unfold sN at h
 split at h
 ·exact ⟨dflt,sF,h⟩
 ·rename_i y
  split at h
  ·rename_i k i hw
   split at h
   ·split at h
    ·rename_i hi;exact ⟨_,FZ (ovc r hw) (of_decide_eq_true hi),h⟩
    ·exact h.elim
   ·exact ⟨_,FZ (ovc r hw) h.1,h.2⟩
  ·exact h.elim
theorem oW {place:Nat→Option (Nat×Nat)} {n:Nat} (r:Rel σ E):∀(l:List (Nat×Operand)) (cs:Array Value) {K:Array Value→Prop},cs.size=n→bld σ place n l cs K→
  ∃res,Instr.fill place cs (l.map fun p=>(p.1,ev E p.2))=some res∧K res
 |[],cs,K,_,h=>⟨cs,rfl,h⟩
 | (i,x)::l,cs,K,hn,h=>by
  unfold bld at h
  split at h
  ·exact h.elim
  ·rename_i off s hp
   have one:∀{v:Value},ev E x=v→v.cells= #[v]→Nat.beq s 1=true→Nat.blt off n=true→bld σ place n l (cs.setIfInBounds off v) K→
     ∃res,Instr.fill place cs (((i,x)::l).map fun p=>(p.1,ev E p.2))=some res∧K res:=by
    clear h
    intro v hx hc hs ho h
    obtain rfl:=Nat.eq_of_beq_eq_true hs
    obtain ⟨res,h1,h2⟩:=oW r l _ (by simpa using hn) h
    refine ⟨res,?_,h2⟩
    rw [List.map_cons]
    show Instr.fill place cs ((i,ev E x)::_)=_
    rw [hx]
    exact FX hp hc (by rw [hn];exact ho) h1
   split at h
   ·rename_i c hw
    split at h
    ·rename_i ho
     obtain ⟨hs,h⟩:=h
     obtain ⟨res,h1,h2⟩:=oW r l _ (by rw [dh];exact hn) h
     refine ⟨res,?_,h2⟩
     rw [List.map_cons]
     show Instr.fill place cs ((i,ev E x)::_)=_
     rw [ovc r hw]
     exact FY hp hs (by rw [hn];exact ho) h1
    ·exact h.elim
   ·rename_i v hna hw
    split at h
    ·rename_i h1 h2
     exact one (ovc r hw) (by cases v<;>first|rfl|exact absurd rfl (hna _)) h1 h2 h
    ·exact h.elim
   ·exact h.elim
   ·rename_i w hna hnc hnn
    split at h
    ·rename_i v h1 h2 hv
     refine one (aV r rfl hv) ?_ h1 h2 h
     cases hw:σ.ov x<;>rw [hw] at hv<;>simp only [VW.val] at hv<;>first|(cases hv;done)|(cases hv;rfl)|(exact absurd hw (hna _))|(exact absurd hw (hnc _))|exact absurd hw (hnn _)
    ·exact h.elim
variable {K:RK}
theorem wu.of (r:Rel σ E) (h:Ah P E o fun v=>K σ v none):wu P E F o K:=by
 obtain ⟨nv,v,h1,h2,h3⟩:=h
 exact .pure h1 r h3 (h2 _)
theorem Ce (h:sxR P σ o F K) (r:Rel σ E):wu P E F o K:=by
 cases ho:o.op<;>simp only [sxR,ho] at h<;>try exact h.elim
 case move x=>exact .pure (fun F=>IH ho rfl) r h (rb r x)
 case assign x=>exact .pure (fun F=>BY ho rfl) r h (rb r x)
 case pick c a b=>
  split at h
  ·rename_i hc;exact .pure (fun F=>sH ho (aV r hc rfl) (fun _=>rfl) (fun h=>by cases h)) r h (rb r a)
  ·rename_i hc;exact .pure (fun F=>sH ho (aV r hc rfl) (fun h=>by cases h) (fun _=>rfl)) r h (rb r b)
  ·exact h.elim
 case nilCheck x=>
  split at h
  ·rename_i hw
   refine .pure (fun F=>uA ho (ovc r hw)) r h ?_
   show okV _ _ _
   rw [← ovc r hw];exact rb r x
  ·obtain ⟨σ',a,r',hx,h⟩:=jw h r
   exact .pure (fun F=>vZ ho hx) r' h rfl
 case extract x i=>
  split at h
  ·rename_i vs hw
   split at h
   ·rename_i v hv
    exact .pure (fun F=>qV ho (ovc r hw) hv) r h (Cc _ v)
   ·exact h.elim
  ·rename_i w hw
   obtain ⟨v,hv,h⟩:=h
   exact .pure (fun F=>qV ho (aV r hw rfl) hv) r h (oV _ v)
  ·exact h.elim
 case fieldAddr t x i=>
  split at h
  ·rename_i fs ht
   split at h
   ·rename_i f hf
    split at h
    ·rename_i s b hz
     obtain ⟨σ',a,r',hx,h⟩:=jw h r
     exact .pure (fun F=>uD ho hx ht hf hz (by omega)) r' h rfl
    ·exact h.elim
   ·exact h.elim
  ·exact h.elim
 case load t x=>
  obtain ⟨σ',a,r',hx,h⟩:=jw h r
  obtain ⟨nv,v,c,h1,h2,h3,h⟩:=EQ h r' ho hx
  exact .chk h1 h2 r' h (h3 _)
 case indexAddr t x y=>
  split at h
  ·rename_i k i e hy ht
   split at h
   ·rename_i base len cap s b hx hz
    obtain ⟨a,rfl,h1,h2,h⟩:=h
    exact .pure (fun F=>qo ho (ovc r hx) (ovc r hy) ht hz h1 (by exact_mod_cast h2)) r h rfl
   ·exact h.elim
  ·rename_i k i n e hy ht
   split at h
   ·rename_i s b hz
    obtain ⟨σ',a,r',hx,h1,h2,h⟩:=jw h r
    exact .pure (fun F=>qp ho hx (ovc r hy) ht hz h1 (by exact_mod_cast h2)) r' h rfl
   ·exact h.elim
  ·exact h.elim
 case index t x y=>
  split at h
  ·rename_i s k i hx hy ht
   obtain ⟨h1,h2,h3,v,rfl,h⟩:=h
   exact .pure (fun F=>wb ho (ovc r hx) (ovc r hy) ht h1 (by exact_mod_cast h2)) r h rfl
  ·rename_i cs k i n e hx hy ht
   split at h
   ·rename_i d s b hd hz
    split at h
    ·exact h.elim
    ·rename_i hk
     obtain ⟨h1,h2,v,hv,h⟩:=h
     exact .pure (fun F=>uE ho (ovc r hx) (ovc r hy) ht hz hd (mU hk) h1 (by exact_mod_cast h2) hv) r h (oV _ v)
   ·exact h.elim
  ·exact h.elim
 case field t x i=>
  split at h
  ·rename_i cs fs hx ht
   split at h
   ·rename_i f hf
    split at h
    ·rename_i d s b hd hz
     split at h
     ·rename_i hk
      exact .pure (fun F=>B3 ho (ovc r hx) ht hf hd (sL hk) hz) r h rfl
     ·rename_i hk
      obtain ⟨v,hv,h⟩:=h
      exact .pure (fun F=>B2 ho (ovc r hx) ht hf hd (mU hk) hv) r h (oV _ v)
    ·exact h.elim
   ·exact h.elim
  ·exact h.elim
 case binOp op t x y t'=>exact .of r (Cd h r ho)
 case unOp op t x=>
  split at h
  ·rename_i b hx;exact .pure (fun F=>B0 ho (aV r hx rfl)) r h rfl
  ·rename_i i b hx;exact .pure (fun F=>B0 ho (aV r hx rfl)) r h rfl
  ·rename_i i p d hx
   refine .pure (v:=.bool (@decide (¬p) (@instDecidableNot p d))) (fun F=> ?_) r h rfl
   have:=B0 (P:=P) (F:=F) ho (aV r hx rfl)
   rw [show (!@decide p d)= @decide (¬p) (@instDecidableNot p d) by cases d<;>rfl] at this
   exact this
  ·rename_i k a hx;exact .pure (fun F=>LI ho (ovc r hx)) r h rfl
  ·exact h.elim
 case convert t t' x=>
  split at h
  ·rename_i k a d k' hx ht ht';exact .pure (fun F=>Ab ho (ovc r hx) ht ht') r h rfl
  ·rename_i b l c e hx ht ht'
   split at h
   ·rename_i he
    obtain ⟨s,hs,h⟩:=h
    exact .chk hs (fun F' hs=>BE ho (ovc r hx) ht ht' he ⟨_,_,_,rfl⟩ hs) r h rfl
   ·exact h.elim
  ·exact h.elim
 case slice t x lo hi mx=>
  split at h
  ·rename_i e ht
   split at h
   ·rename_i b len cap sz z hx hz
    obtain ⟨l,hl,h⟩:=gr h r
    obtain ⟨u,hu,h1,h2,h⟩:=gr h r
    exact .pure (fun F=>Ad (s:=⟨b,len,cap⟩) ho (ovc r hx) ht hz hl hu h1 h2) r h rfl
   ·exact h.elim
  ·rename_i ht
   split at h
   ·rename_i s hx
    obtain ⟨l,hl,h⟩:=gr h r
    obtain ⟨u,hu,h1,h2,h⟩:=gr h r
    exact .pure (fun F=>we ho (ovc r hx) ht hl hu h1 h2) r h rfl
   ·exact h.elim
  ·rename_i n e ht
   split at h
   ·rename_i sz z hz
    obtain ⟨σ',a,r',hx,h⟩:=jw h r
    exact .pure (fun F=>qZ ho hx ht hz sF sF (Nat.zero_le _) (Nat.le_refl _)) r' h rfl
   ·rename_i sz z hz hnn
    obtain ⟨σ',a,r',hx,h⟩:=jw h r
    obtain ⟨l,hl,h⟩:=gr h r'
    obtain ⟨u,hu,h1,h2,h⟩:=gr h r'
    exact .pure (fun F=>qZ ho hx ht hz hl hu h1 h2) r' h rfl
   ·exact h.elim
  ·rename_i e m ht
   split at h
   ·rename_i b len cap sz z k i k' m' hx hz hhi hm
    obtain ⟨l,hl,h0,hm0,h1,h2,h3,h⟩:=gr h r
    cases hi with
    |none=>simp at hhi
    |some hi=>
     simp only [Option.map_some,Option.some.injEq] at hhi
     exact .pure (fun F=>wc (s:=⟨b,len,cap⟩) ho (ovc r hx) ht hz hl (ovc r hhi) (ovc r hm) h0 hm0 h1 h2 h3) r h rfl
   ·exact h.elim
  ·exact h.elim
 case build t parts=>
  split at h
  ·rename_i fs z ht hz
   obtain ⟨hk,h⟩:=dP h
   obtain ⟨res,h1,h⟩:=oW r _ _ rfl h
   exact .pure (fun F=>qn ho ht hz hk (by simp) h1) r h rfl
  ·rename_i n e z ht hz
   split at h
   ·rename_i s b hs
    obtain ⟨res,h1,h⟩:=oW r _ _ rfl h
    exact .pure (fun F=>sD ho ht hz hs (by simp) h1) r h rfl
   ·exact h.elim
  ·exact h.elim
 case makeFunc fn first cap=>
  cases fn<;>simp only at h<;>try exact h.elim
  obtain ⟨us,h1,h⟩:=kc r _ h
  obtain ⟨vs,h2,h⟩:=kc r _ h
  have h1':first.map (ev E)=us.toArray:=by rw [← h1,← Array.toList_map,Array.toArray_toList]
  have h2':cap.map (ev E)=vs.toArray:=by rw [← h2,← Array.toList_map,Array.toArray_toList]
  exact .pure (fun F=>v8 ho h1' h2') r h rfl
 case lookup t x y ok=>
  split at h
  ·rename_i u v kt e hu hv ht
   split at h
   ·obtain ⟨q,b,h1,h⟩:=h
    exact .chk h1 (fun F' h1=>uy ho (aV r rfl hu) (aV r rfl hv) h1) r h rfl
   ·obtain ⟨q,h1,h⟩:=h
    exact .chk h1 (fun F' h1=>uy ho (aV r rfl hu) (aV r rfl hv) h1) r h (oV _ q)
  ·exact h.elim
 case entry x=>
  split at h
  ·rename_i u hu
   obtain ⟨k,v,h1,h⟩:=h
   exact .chk h1 (fun F' h1=>El ho (aV r rfl hu) h1) r h rfl
  ·exact h.elim
 case call c=>
  obtain ⟨cal,args,ts⟩:=c
  obtain ⟨args⟩:=args
  obtain ⟨ts⟩:=ts
  cases cal<;>simp only at h<;>try exact h.elim
  rename_i b
  split at h
  ·rename_i bs l cp t heq
   obtain ⟨x,rfl,hx⟩:=List.map_eq_singleton_iff.1 heq
   split at h
   ·rename_i ht;exact .pure (fun F=>Ew (s:=⟨bs,l,cp⟩) ho (ovc r hx) ht) r h rfl
   ·exact h.elim
  ·rename_i s t heq
   obtain ⟨x,rfl,hx⟩:=List.map_eq_singleton_iff.1 heq
   split at h
   ·rename_i ht;exact .pure (fun F=>B1 ho (ovc r hx) ht) r h rfl
   ·exact h.elim
  ·rename_i m t heq
   obtain ⟨x,rfl,hx⟩:=List.map_eq_singleton_iff.1 heq
   obtain ⟨v,h1,h⟩:=h
   exact .chk h1 (fun F' h1=>BF ho (ovc r hx) h1) r h rfl
  ·rename_i bs l cp t heq
   obtain ⟨x,rfl,hx⟩:=List.map_eq_singleton_iff.1 heq
   split at h
   ·rename_i ht;exact .pure (fun F=>Ex (s:=⟨bs,l,cp⟩) ho (ovc r hx) ht) r h rfl
   ·exact h.elim
  ·rename_i k a k' b' heq
   obtain ⟨x,y,rfl,hx,hy⟩:=LJ heq
   obtain ⟨hk,h'⟩:=dP h
   obtain rfl:=of_decide_eq_true hk
   exact .pure (fun F=>IM ho (ovc r hx) (ovc r hy)) r h' rfl
  ·rename_i k a k' b' heq
   obtain ⟨x,y,rfl,hx,hy⟩:=LJ heq
   obtain ⟨hk,h'⟩:=dP h
   obtain rfl:=of_decide_eq_true hk
   exact .pure (fun F=>IN ho (ovc r hx) (ovc r hy)) r h' rfl
  ·rename_i k a k' b' k'' c' heq
   obtain ⟨x,y,z,rfl,hx,hy,hz⟩:=LL heq
   obtain ⟨hk,h'⟩:=dP h
   obtain ⟨rfl,rfl⟩:=of_decide_eq_true hk
   exact .pure (fun F=>IP ho (ovc r hx) (ovc r hy) (ovc r hz)) r h' rfl
  ·rename_i k a k' b' k'' c' heq
   obtain ⟨x,y,z,rfl,hx,hy,hz⟩:=LL heq
   obtain ⟨hk,h'⟩:=dP h
   obtain ⟨rfl,rfl⟩:=of_decide_eq_true hk
   exact .pure (fun F=>IQ ho (ovc r hx) (ovc r hy) (ovc r hz)) r h' rfl
  ·exact h.elim
end
end Go.Proofs.YtenpmjhnhepfdaaGreatDoor.Rx
namespace Go.Proofs.YtenpmjhnhepfdaaGreatDoor.Rx
open Go
theorem le_refl' (F:PH):F.le F:=fun _ _ h=>h
theorem Jb {F:PH} {b:Nat} {o:Obj} (hb:F b=none):F.le (F.set b o):=fun x u hx=>by
 have:x≠b:=fun e=>by rw [e,hb] at hx;cases hx
 rw [vX _ _ this];exact hx
section
variable {P:Program} {σ:Sy} {E:En} {F:PH} {x y z:Operand} {o:Oper}
def KK (F:PH) (E:En) (o:Oper) (K:EK) (E':En) (F':PH):Prop:=∃fl σ',(fl=true→F.le F')∧Rel σ' E'∧(∀t,o.dst≠some t→E' t=E t)∧K fl σ' F'
def Jc (P:Program) (E:En) (F:PH) (o:Oper) (K:EK):Prop:=aE P (execOp (ev E) o) F (bz P (KK F E o K) o E)
theorem mV {d:Option Tmp} {v:Value} {t:Nat} (h:d≠some t):cv E d v t=E t:=by
 cases d with
 |none=>rfl
 |some d=>simp only [cv,upd,ju (fun e:t=d=>h (by rw [e]))];rfl
variable {K:EK}
theorem KK.mk {nv:NV} {v:Value} {F':PH} {fl:Bool} (r:Rel σ E) (h:K fl (σ.putO o.dst nv) F') (hv:ib σ.T nv v) (hl:fl=true→F.le F'):KK F E o K (cv E o.dst v) F':=
 ⟨fl,_,hl,r.putO hv,fun _ ht=>mV ht,h⟩
theorem KK.f {nv:NV} {v:Value} {F':PH} (r:Rel σ E) (h:K false (σ.putO o.dst nv) F') (hv:ib σ.T nv v):KK F E o K (cv E o.dst v) F':=KK.mk r h hv (fun h=>by cases h)
theorem gu {ob:Obj} {s:Nat→SV} {v:Nat→Value} (h:sxN σ o.dst ob s F K) (r:Rel σ E) (hv:∀b,okV σ.T (s b) (v b)):∀b,F b=none→KK F E o K (cv E o.dst (v b)) (F.set b ob):=
 fun b hb=>KK.mk r (atE (h b hb)) (hv b) (fun _=>Jb hb)
theorem ER {d:Option Tmp} {t:TypeId} {v:Value} {K:Sy→Prop} (h:uK P σ d t v K) (r:Rel σ E):∃σ',Rel σ' (cv E d v)∧K σ':=by
 unfold uK at h
 split at h
 ·exact ⟨σ,r,h⟩
 ·rename_i d
  split at h
  ·split at h
   ·obtain ⟨rfl,h⟩:=h;exact ⟨_,r.put (show ib σ.T (.sv (.c (.tuple _))) _ from rfl),h⟩
   ·obtain ⟨a,rfl,h⟩:=h;exact ⟨_,r.put (show ib σ.T (.sv (.c (.tuple _))) _ from rfl),h⟩
   ·obtain ⟨a,b,rfl,h⟩:=h;exact ⟨_,r.put (show ib σ.T (.sv (.c (.tuple _))) _ from rfl),h⟩
   ·obtain ⟨a,b,c,rfl,h⟩:=h;exact ⟨_,r.put (show ib σ.T (.sv (.c (.tuple _))) _ from rfl),h⟩
   ·obtain ⟨a,b,c,e,rfl,h⟩:=h;exact ⟨_,r.put (show ib σ.T (.sv (.c (.tuple _))) _ from rfl),h⟩
   ·exact h.elim
  ·obtain ⟨a,rfl,h⟩:=h;exact ⟨_,r.put (oV _ a),h⟩
theorem ww {t:TypeId} {v:Value} {F':PH} (h:uK P σ o.dst t v fun σ=>K false σ F') (r:Rel σ E):KK F E o K (cv E o.dst v) F':=by
 obtain ⟨σ',r',h⟩:=ER h r
 exact ⟨false,σ',(fun h=>by cases h),r',fun _ ht=>mV ht,h⟩
theorem mW {w:VW} {v:Value} (hv:w.val=some v) (h1:∀c,w≠.c (.agg c)) (h2:∀u,w≠.any u):v.cells= #[v]:=by
 cases w<;>simp only [VW.val] at hv<;>first|(cases hv;done)|(cases hv;rfl)|exact absurd rfl (h2 _)|skip
 rename_i u
 cases hv
 cases v<;>first|rfl|exact absurd rfl (h1 _)
theorem Cg {w:VW} {v:Value} (hv:w.val=some v) (h1:∀c,w≠.c (.agg c)) (h2:∀u,w≠.any u) (h3:∀u,w≠.c (.tuple u)) (h4:∀u,w≠.vt u) (h5:w≠.und):aj v:=by
 cases w<;>simp only [VW.val] at hv<;>first|(cases hv;done)|exact absurd rfl (h2 _)|exact absurd rfl (h4 _)|exact absurd rfl h5|skip
 all_goals cases hv
 case c.refl=>exact ⟨fun c e=>h1 c (by rw [e]),fun c e=>h3 c (by rw [e])⟩
 all_goals exact ⟨(fun _ h=>by cases h),(fun _ h=>by cases h)⟩
theorem xU (r:Rel σ E):∀(l:List (Nat×Operand)) (k:Nat) {us:List Value},ET σ k l=some us→(l.map fun p=>(p.1,ev E p.2))=xO k us∧Es us∧us.length=l.length
 |[],k,us,h=>by cases h;exact ⟨rfl,trivial,rfl⟩
 | (i,x)::l,k,us,h=>by
  unfold ET at h
  split at h
  ·cases h
  ·cases h
  ·rename_i hi h1 h2
   split at h
   ·rename_i v vs hv hs
    cases h
    obtain ⟨e1,e2,e3⟩:=xU r l _ hs
    obtain rfl:=Nat.eq_of_beq_eq_true hi
    refine ⟨?_,⟨mW hv (fun c e=>h1 c e) (fun u e=>h2 u e),e2⟩,by simp [e3]⟩
    rw [List.map_cons,e1]
    show (i,ev E x)::_=(i,v)::_
    rw [aV r rfl hv]
   ·cases h
  ·cases h
theorem Ch {t:TypeId} {s:ByteArray} {K:En→PH→Prop} (ho:o.op=.range t x) (hx:ev E x=.string s) (h1:P.underlying t=some .string) (h:∀b,F b=none→K (cv E o.dst (.pointer (some ⟨b,0,none⟩))) (F.set b (.stringIter s 0))):
  aE P (execOp (ev E) o) F (bz P K o E):=by
 simp only [execOp,ho,hx,Instr.range,aB,bG h1,aM,newObj,aE,bz]
 exact h
theorem Cj {t:TypeId} {v:Value} {K:En→PH→Prop} (ho:o.op=.range t x) (hx:ev E x=v) (h:aE P (Instr.range t v) F fun r F'=>K (cv E o.dst r) F'):aE P (execOp (ev E) o) F (bz P K o E):=by
 simp only [execOp,ho,hx,aB,aM,bz]
 exact h
theorem Jd {v:Value} {is:Bool} {K:En→PH→Prop} (ho:o.op=.next x is) (hx:ev E x=v) (h:aE P (Instr.next v is o.type) F fun r F'=>K (cv E o.dst r) F'):aE P (execOp (ev E) o) F (bz P K o E):=by
 simp only [execOp,ho,hx,aB,aM,bz]
 exact h
theorem Ck {t:TypeId} {u v q:Value} {K:En→PH→Prop} (ho:o.op=.insert t x y z) (hx:ev E x=u) (hy:ev E y=v) (hz:ev E z=q)
  (h:aE P (Instr.mapUpdate t u v q) F fun _ F'=>K (cv E o.dst undef) F'):aE P (execOp (ev E) o) F (bz P K o E):=by
 subst hx hy hz
 have:execOp (ev E) o=execOp (ev E) {o with op:=.mapUpdate t x y z}:=by simp only [execOp,ho]
 rw [this]
 exact mo (o:={o with op:=.mapUpdate t x y z}) rfl rfl rfl rfl h
theorem Cm {ts:Array TypeId} {u v:Value} {K:En→PH→Prop} (ho:o.op=.call ⟨.builtin .delete,#[x,y],ts⟩) (hx:ev E x=u) (hy:ev E y=v) (h:aE P (Builtin.delete_ ts o.type #[u,v]) F fun r F'=>K (cv E o.dst r) F'):
  aE P (execOp (ev E) o) F (bz P K o E):=by
 simp [execOp,ho,resolve,hx,hy,aB,invoke,builtin,bz]
 exact h
theorem Cp (h:sxE P σ o F K) (r:Rel σ E):Jc P E F o K:=by
 cases ho:o.op<;>simp only [sxE,ho] at h<;>try exact h.elim
 case alloc t=>
  split at h
  ·rename_i z hz;exact Ep ho hz (gu h r (fun _=>rfl))
  ·exact h.elim
 case box t x=>
  split at h
  ·rename_i c hw;exact BN ho (ovc r hw) (gu h r (fun _=>rfl))
  ·rename_i v hw
   obtain ⟨hc,h⟩:=h
   rw [← hc] at h
   exact BN ho (aV r hw rfl) (gu h r (fun _=>rfl))
  ·rename_i h1 h2
   split at h
   ·rename_i v hv
    have hc:v.cells= #[v]:=mW hv (fun c e=>h1 c e) (fun u e=>h2 u e)
    rw [← hc] at h
    exact BN ho (aV r rfl hv) (gu h r (fun _=>rfl))
   ·exact h.elim
 case buildSlice t m parts=>
  split at h
  ·rename_i e ht
   split at h
   ·rename_i s b z hz hzz
    split at h
    ·rename_i hm hs h0
     have hm':m*s≤16777216:=Nat.le_of_ble_eq_true hm
     have hs':z.cells.size=s:=Nat.eq_of_beq_eq_true hs
     split at h
     ·rename_i l h1 h2 hl
      obtain rfl:=Nat.eq_of_beq_eq_true h1
      obtain ⟨e1,e2,e3⟩:=xU r _ _ hl
      exact gn ho ht hz hm' hzz (by simpa using e1) (Et (by rw [e3];exact Nat.eq_of_beq_eq_true h2) rfl hs' e2) (by rw [hs']) (gu h r (fun _=>rfl))
     ·split at h
      ·rename_i c heq hn
       obtain ⟨hcs,h⟩:=h
       obtain ⟨p,hp,hpe⟩:=List.map_eq_singleton_iff.1 heq
       obtain ⟨i,x⟩:=p
       simp only [Prod.mk.injEq] at hpe
       obtain ⟨rfl,hx⟩:=hpe
       exact gn (vs:=[(0,.agg c)]) ho ht hz hm' hzz (by simp [hp,ovc r hx]) (z7 hcs hs' h0) (by rw [hs']) (gu h r (fun _=>rfl))
      ·obtain ⟨res,e1,h⟩:=oW r _ _ (by rw [← mO _ (by rw [hs'];exact h0)];simp [Builtin.zeroCells,hs']) h
       refine gn (vs:=parts.toList.map fun p=>(p.1,ev E p.2)) ho ht hz hm' hzz (by simp) (cells:=res) ?_ (by rw [hs']) (gu h r (fun _=>rfl))
       rw [mO _ (by rw [hs'];exact h0)]
       exact e1
    ·exact h.elim
   ·exact h.elim
  ·exact h.elim
 case store t x y=>
  obtain ⟨σ',a,r',hx,h⟩:=jw h r
  have st:∀{v:Value} {b:Nat},ev E y=v→tsz P t=some (1,b)→v.cells= #[v]→aj v→sto F a v (fun F=>K false (σ'.putO o.dst (.sv .und)) F)→Jc P E F o K:=by
   intro v b hy hz hc hst ⟨c,e,h1,h2,h3,h4⟩
   exact BO ho hx hy hz hc rfl hst h2 h1 h3 (KK.f r' (atE h4) rfl)
  split at h
  ·rename_i v n b hy hz
   obtain ⟨h1,h2,c,e,h3,h4,h5,h6⟩:=h
   refine BP ho hx (ovc r' hy) hz h1 h2 (fun h0=> ?_) h4 h3 h5 (KK.f r' (atE h6) rfl)
   have:v.toList.length=0:=by rw [h0];rfl
   simp at this
   simp [this] at h1
  ·exact h.elim
  ·rename_i v b hna hnt hy hz
   exact st (ovc r' hy) hz (mW (w:=.c v) rfl (fun c e=>hna c (by cases e;rfl)) (fun u e=>by cases e)) (Cg (w:=.c v) rfl (fun c e=>hna c (by cases e;rfl)) (fun u e=>by cases e) (fun c e=>hnt c (by cases e;rfl)) (fun u e=>by cases e) (fun e=>by cases e)) h
  ·rename_i v b hy hz
   exact st (aV r' hy rfl) hz h.2.1 h.1 h.2.2
  ·exact h.elim
  ·exact h.elim
  ·rename_i b hz h2 h3 h4 h5 h6 h7
   split at h
   ·rename_i v hv
    exact st (aV r' rfl hv) hz (mW hv (fun c e=>h2 c e) (fun u e=>h5 u e)) (Cg hv (fun c e=>h2 c e) (fun u e=>h5 u e) (fun c e=>h3 c e) (fun u e=>h6 u e) (fun e=>h7 e)) h
   ·exact h.elim
  ·exact h.elim
 case range t x=>
  split at h
  ·rename_i s ht hx;exact Ch ho (ovc r hx) ht (gu h r (fun _=>rfl))
  ·split at h
   ·rename_i v hv
    exact Cj ho (aV r rfl hv) (cH _ _ h fun u F' ⟨b,hb,h⟩=>by subst hb;exact KK.f r h rfl)
   ·exact h.elim
  ·exact h.elim
 case next x is=>
  split at h
  ·rename_i v hv
   exact Jd ho (aV r rfl hv) (cH _ _ h fun u F' ⟨b,hb,h⟩=>by subst hb;exact KK.f r h rfl)
  ·exact h.elim
 case makeSlice t x y=>
  split at h
  ·rename_i u v hu hv
   exact ux ho (aV r rfl hu) (aV r rfl hv) (cH _ _ h fun u F' ⟨b,hb,h⟩=>by subst hb;exact KK.f r h rfl)
  ·exact h.elim
 case makeMap t q=>
  cases q<;>simp only at h<;>try exact h.elim
  exact vY ho (gu h r (fun _=>rfl))
 case mapUpdate t x y z=>
  split at h
  ·rename_i u v w hu hv hw
   exact mo ho (aV r rfl hu) (aV r rfl hv) (aV r rfl hw) (cH _ _ h fun u F' h=>KK.f r h rfl)
  ·exact h.elim
 case insert t x y z=>
  split at h
  ·rename_i u v w hu hv hw
   exact Ck ho (aV r rfl hu) (aV r rfl hv) (aV r rfl hw) (cH _ _ h fun u F' h=>KK.f r h rfl)
  ·exact h.elim
 case call c=>
  obtain ⟨cal,args,ts⟩:=c
  obtain ⟨args⟩:=args
  cases cal with
  |invoke=>exact h.elim
  |builtin b=>
   simp only at h
   split at h
   ·split at h
    ·rename_i x y u v hu hv
     exact BQ ho (aV r rfl hu) (aV r rfl hv) (cH _ _ h fun u F' ⟨b,hb,h⟩=>by subst hb;exact KK.f r h rfl)
    ·exact h.elim
   ·split at h
    ·rename_i x y u v hu hv
     exact IG ho (aV r rfl hu) (aV r rfl hv) (cH _ _ h fun u F' ⟨b,hb,h⟩=>by subst hb;exact KK.f r h rfl)
    ·exact h.elim
   ·split at h
    ·rename_i x y u v hu hv
     exact Cm ho (aV r rfl hu) (aV r rfl hv) (cH _ _ h fun u F' h=>KK.f r h True.intro)
    ·exact h.elim
   ·exact h.elim
  |value g=>
   have cF:∀(h:uJ σ args fun vs=>(match σ.ov g with
     | .c (.func (.func f) a b)=>okN (au P f) (ac P f (a++vs.toArray++b) F fun v F=>uK P σ o.dst o.type v fun σ=>K false σ F)
     | .any u=>∃(k:Nat) (a b:Array Value),u=.func (.func k) a b∧au P k=true∧ac P k (a++vs.toArray++b) F fun v F=>uK P σ o.dst o.type v fun σ=>K false σ F
     |_=>False)),Jc P E F o K:=by
    intro h
    obtain ⟨us,h1,h⟩:=kc r _ h
    split at h
    ·rename_i f a b hg
     obtain ⟨hc,h⟩:=dP h
     exact xN ho (ovc r hg) hc (by rw [← h1];simp) (h.mono fun v F' h=>ww h r)
    ·rename_i u hg
     obtain ⟨f,a,b,rfl,hc,h⟩:=h
     exact xN ho (aV r hg rfl) hc (by rw [← h1];simp) (h.mono fun v F' h=>ww h r)
    ·exact h.elim
   cases g with
   |func f=>
    obtain ⟨us,h1,h⟩:=kc r _ h
    obtain ⟨hc,h⟩:=dP h
    exact IF ho hc (by rw [← h1];simp) (h.mono fun v F' h=>ww h r)
   |_=>exact cF h
end
end Go.Proofs.YtenpmjhnhepfdaaGreatDoor.Rx
