/-
  A program logic over partial heaps. Part 4: each operation that reads at most.
-/
import Derived.Test.YtenpmjhnhepfdaaGreatDoorPhb
namespace Go.Proofs.YtenpmjhnhepfdaaGreatDoor
open Go
def rdo {α:Type} (P:Program):Sem α→PH→α→Prop
 | .pure a,_,v=>a=v
 | .load _ a k,F,v=>∃x,F.cell a=some x∧rdo P (k x) F v
 | .shape r k,F,v=>∃o,F r=some o∧rdo P (k (iM o)) F v
 | .frozen a k,F,v=>∃o,F a.block=some o∧rdo P (k (q0 o a.off)) F v
 | .getObj r k,F,v=>∃o,F r=some o∧(∀c e fr,o≠.cells c e fr)∧rdo P (k o) F v
 | .program k,F,v=>rdo P (k P) F v
 | .mark _ k,F,v=>rdo P k F v
 |_,_,_=>False
theorem mP {α:Type} {P:Program} {e:Ev} (s:Sem α):∀(F:PH) (w:World) (v:α),rdo P s F v→Sat e w F→s.run P w=.ok v w:=by
 induction s with
 |pure a=>intro F w v h _;exact congrArg (fun x=>Result.ok x w) h
 |load m a k ih=>
  rintro F w v ⟨x,hc,h⟩ hs
  simp only [Sem.run,hs.cell hc]
  exact ih x F w v h hs
 |shape r k ih=>
  rintro F w v ⟨o,hb,h⟩ hs
  have hheap:=hs.heap _ _ hb
  have:w.shape? r=iM o:=by
   unfold World.shape?
   rw [hheap]
   cases o<;>simp [iM]
  simp only [Sem.run,this]
  exact ih _ F w v h hs
 |frozen a k ih=>
  rintro F w v ⟨o,hb,h⟩ hs
  have hheap:=hs.heap _ _ hb
  have:w.frozen? a=q0 o a.off:=by
   unfold World.frozen?
   rw [hheap]
   cases o<;>simp [q0,frz]
  simp only [Sem.run,this]
  exact ih _ F w v h hs
 |getObj r k ih=>
  rintro F w v ⟨o,hb,hn,h⟩ hs
  have hheap:=hs.heap _ _ hb
  have:(Sem.getObj r k).run P w=(k o).run P w:=by
   cases o<;>first|exact absurd rfl (hn _ _ _)|simp only [Sem.run,hheap]
  rw [this]
  exact ih _ F w v h hs
 |program k ih=>intro F w v h hs;exact ih _ F w v h hs
 |mark m k ih=>intro F w v h hs;exact ih F w v h hs
 |_=>intro F w v h;exact h.elim
theorem j5 {α:Type} {P:Program} (s:Sem α):∀(F:PH) (v:α) (Q:α→PH→Prop),rdo P s F v→Q v F→aE P s F Q:=by
 induction s with
 |pure a=>intro F v Q h hq;cases h;exact hq
 |load m a k ih=>rintro F v Q ⟨x,hc,h⟩ hq;exact ⟨x,hc,ih x F v Q h hq⟩
 |shape r k ih=>rintro F v Q ⟨o,hb,h⟩ hq;exact ⟨o,hb,ih _ F v Q h hq⟩
 |frozen a k ih=>rintro F v Q ⟨o,hb,h⟩ hq;exact ⟨o,hb,ih _ F v Q h hq⟩
 |getObj r k ih=>rintro F v Q ⟨o,hb,hn,h⟩ hq;exact ⟨o,hb,hn,ih _ F v Q h hq⟩
 |program k ih=>intro F v Q h hq;exact ih _ F v Q h hq
 |mark m k ih=>intro F v Q h hq;exact ih F v Q h hq
 |_=>intro F v Q h;exact h.elim
theorem ai {α β:Type} {P:Program} (s:Sem α) (f:α→Sem β):∀(F:PH) (v:β),rdo P (s>>=f) F v↔∃a,rdo P s F a∧rdo P (f a) F v:=by
 show ∀(F:PH) (v:β),rdo P (s.bind f) F v↔_
 induction s with
 |pure a=>
  intro F v
  simp only [Sem.bind,rdo]
  exact ⟨fun h=>⟨a,rfl,h⟩,by rintro ⟨_,rfl,h⟩;exact h⟩
 |load m a k ih=>
  intro F v
  simp only [Sem.bind,rdo,ih]
  exact ⟨fun ⟨x,hc,a,h1,h2⟩=>⟨a,⟨x,hc,h1⟩,h2⟩,fun ⟨a,⟨x,hc,h1⟩,h2⟩=>⟨x,hc,a,h1,h2⟩⟩
 |shape r k ih=>
  intro F v
  simp only [Sem.bind,rdo,ih]
  exact ⟨fun ⟨x,hc,a,h1,h2⟩=>⟨a,⟨x,hc,h1⟩,h2⟩,fun ⟨a,⟨x,hc,h1⟩,h2⟩=>⟨x,hc,a,h1,h2⟩⟩
 |frozen a k ih=>
  intro F v
  simp only [Sem.bind,rdo,ih]
  exact ⟨fun ⟨x,hc,a,h1,h2⟩=>⟨a,⟨x,hc,h1⟩,h2⟩,fun ⟨a,⟨x,hc,h1⟩,h2⟩=>⟨x,hc,a,h1,h2⟩⟩
 |getObj r k ih=>
  intro F v
  simp only [Sem.bind,rdo,ih]
  exact ⟨fun ⟨x,hc,hn,a,h1,h2⟩=>⟨a,⟨x,hc,hn,h1⟩,h2⟩,fun ⟨a,⟨x,hc,hn,h1⟩,h2⟩=>⟨x,hc,hn,a,h1,h2⟩⟩
 |program k ih=>intro F v;simp only [Sem.bind,rdo,ih]
 |mark m k ih=>intro F v;simp only [Sem.bind,rdo,ih]
 |_=>intro F v;simp [Sem.bind,rdo]
@[simp] theorem bV {α:Type} {P:Program} (a v:α) (F:PH):rdo P (pure a:Sem α) F v↔a=v:=Iff.rfl
@[simp] theorem aM {α:Type} {P:Program} (a:α) (F:PH) (Q:α→PH→Prop):aE P (pure a:Sem α) F Q↔Q a F:=Iff.rfl
@[simp] theorem Eu {α β:Type} {P:Program} (f:α→β) (s:Sem α) (F:PH) (v:β):rdo P (f<$>s) F v↔∃a,rdo P s F a∧f a=v:=ai s (fun a=>pure (f a)) F v
@[simp] theorem Lh {α β:Type} {P:Program} (f:α→β) (s:Sem α) (F:PH) (Q:β→PH→Prop):aE P (f<$>s) F Q↔aE P s F (fun a F'=>Q (f a) F'):=ra s (fun a=>pure (f a)) F Q
def tsz (P:Program) (t:TypeId):Option (Nat×Nat):=(P.info? t).map fun i=>(i.size,i.bytes)
def bu (P:Program) (t:TypeId):Option Value:=(P.info? t).bind (·.zero)
theorem oM {P:Program} {t s b:Nat} (h:tsz P t=some (s,b)):∃i,P.info? t=some i∧i.size=s∧i.bytes=b:=by
 unfold tsz at h
 cases hi:P.info? t with
 |none=>simp [hi] at h
 |some i=>simp [hi] at h;exact ⟨i,rfl,h.1,h.2⟩
theorem oN {P:Program} {t:Nat} {z:Value} (h:bu P t=some z):∃i,P.info? t=some i∧i.zero=some z:=by
 unfold bu at h
 cases hi:P.info? t with
 |none=>simp [hi] at h
 |some i=>simp [hi] at h;exact ⟨i,rfl,h⟩
section
variable {P:Program} {F:PH}
theorem bB {t s b:Nat} (h:tsz P t=some (s,b)) (v:Nat):rdo P (sizeOf t) F v↔s=v:=by
 obtain ⟨i,h1,h2,h3⟩:=oM h
 unfold sizeOf typeInfo program
 simp only [ai]
 constructor
 ·rintro ⟨i',⟨p,hp,h⟩,h'⟩
  simp only [rdo] at hp
  subst hp
  rw [h1] at h
  simp only [bV] at h h'
  subst h
  rw [← h2];exact h'
 ·rintro rfl
  refine ⟨i,⟨P,rfl,?_⟩,?_⟩
  ·rw [h1];rfl
  ·rw [← h2];rfl
theorem dw {t s b:Nat} (h:tsz P t=some (s,b)) (Q:Nat→PH→Prop):aE P (sizeOf t) F Q↔Q s F:=by
 obtain ⟨i,h1,h2,h3⟩:=oM h
 unfold sizeOf typeInfo program
 simp only [aB,aE,h1,aM,h2]
theorem cY {t s b:Nat} (h:tsz P t=some (s,b)):∃i:TypeInfo,i.bytes=b∧∀(F:PH) (Q:TypeInfo→PH→Prop),aE P (typeInfo t) F Q↔Q i F:=by
 obtain ⟨i,h1,h2,h3⟩:=oM h
 refine ⟨i,h3,fun F Q=> ?_⟩
 unfold typeInfo program
 simp only [aB,aE,h1,aM]
theorem av {t:Nat} {d:TypeDesc} (h:P.underlying t=some d) (v:TypeDesc):rdo P (underlying t) F v↔d=v:=by
 unfold underlying program
 simp only [ai]
 constructor
 ·rintro ⟨p,hp,h'⟩
  simp only [rdo] at hp
  subst hp
  rw [h] at h'
  exact h'
 ·rintro rfl
  exact ⟨P,rfl,by rw [h];rfl⟩
theorem bG {t:Nat} {d:TypeDesc} (h:P.underlying t=some d) (Q:TypeDesc→PH→Prop):aE P (underlying t) F Q↔Q d F:=by
 unfold underlying program
 simp only [aB,aE,h,aM]
theorem cO {t:Nat} {z:Value} (h:bu P t=some z) (Q:Value→PH→Prop):aE P (zeroValue t) F Q↔Q z F:=by
 obtain ⟨i,h1,h2⟩:=oN h
 unfold zeroValue typeInfo program
 simp only [aB,aE,h1,aM,h2]
theorem fD {t:Nat} {z:Value} (h:bu P t=some z) (v:Value):rdo P (zeroValue t) F v↔z=v:=by
 obtain ⟨i,h1,h2⟩:=oN h
 unfold zeroValue typeInfo program
 simp only [ai]
 constructor
 ·rintro ⟨i',⟨p,hp,h⟩,h'⟩
  simp only [rdo] at hp
  subst hp
  rw [h1] at h
  simp only [bV] at h
  subst h
  rw [h2] at h'
  exact h'
 ·rintro rfl
  exact ⟨i,⟨P,rfl,by rw [h1];rfl⟩,by rw [h2];rfl⟩
def RD (P:Program) (E:En) (F:PH) (o:Oper) (v:Value):Prop:=rdo P (execOp (ev E) o) F (.value v)
variable {n:Nat} {Q:Exit→En→PH→Prop} {E:En} {ops:Array Oper} {o:Oper} {l:List Oper}
theorem Lj {v:Value} (h:RD P E F o v) (K:HL P n ops Q l (cv E o.dst v) F) (hw:Region.wanted o (yE ops E)=true:=by rfl) (hd:eJ n o.dst=true:=by rfl):
  HL P n ops Q (o::l) E F:=Gs hw hd (j5 _ _ _ _ h K)
theorem Ll {i:Nat} {oi:Oper} {v:Value} {fuel:Nat} {listed:Array Bool} {Sp:bO} (hi:ops[i]? =some oi)
  (hs:Region.noSelect ops=true) (hf:Region.free .any ops listed i=true) (hr:(Region.ready .any ops listed).contains i=true) (hd:eJ n oi.dst=true)
  (hp:∀c E F,¬Q (.panic c) E F) (hw:Region.wanted oi (yE ops E)=true) (hy:RD P E F oi v) (hh:eX Sp F)
  (h:RG P n ops Q fuel (listed.setIfInBounds i true) ((i,fun w=>∃e F,Sat e w F∧RD P E F oi v)::Sp) (cv E oi.dst v) F):RG P n ops Q (fuel+1) listed Sp E F:=
 xQ hi hs hf hr hd hp hw (fun w ⟨e,F',st,h⟩=>mP _ _ _ _ h st) (fun e w st=>⟨e,F,st,hy⟩) hh h
theorem Lm {i:Nat} {oi:Oper} {v:Value} {fuel:Nat} {listed:Array Bool} {Sp:bO} (hi:ops[i]? =some oi)
  (hs:Region.noSelect ops=true) (hf:Region.free .any ops listed i=true) (hr:(Region.ready .any ops listed).contains i=true) (hd:eJ n oi.dst=true)
  (hp:∀c E F,¬Q (.panic c) E F) (hw:Region.wanted oi (yE ops E)=true) (hy:∀F,RD P E F oi v) (hh:eX Sp F)
  (h:RG P n ops Q fuel (listed.setIfInBounds i true) Sp (cv E oi.dst v) F):RG P n ops Q (fuel+1) listed Sp E F:=
 EI hi hs hf hr hd hp hw (fun w _=>by
  have st:Sat ⟨w.os,w.tape,w.output,fun _=>none⟩ w (fun _=>none):=⟨rfl,rfl,rfl,fun b o h=>(by cases h),fun b o h=>(by cases h)⟩
  exact mP _ _ _ _ (hy _) st) hh h
theorem xP {v:Value} (h:RD P E F o v):wl F (fun w=>∃e F,Sat e w F∧RD P E F o v):=fun e _ st=>⟨e,F,st,h⟩
end
structure Sl where
 base:Option Addr
 len:Nat
 cap:Nat
def Sl.v (s:Sl):Value:=.slice s.base s.len s.cap
def Sl.nil:Sl:=⟨none,0,0⟩
theorem aK {x:Int} (h1: -9223372036854775808≤x) (h2:x≤9223372036854775807):IntKind.i64.wrap x=x:=by
 have e:IntKind.i64.wrap x=if x % 18446744073709551616≥9223372036854775808 then x % 18446744073709551616 - 18446744073709551616 else x % 18446744073709551616:=by
  unfold IntKind.wrap
  simp [IntKind.bits,IntKind.signed]
 rw [e]
 split<;>omega
section
variable {P:Program} {F:PH} {E:En} {o:Oper}
theorem IH {x:Operand} {v:Value} (ho:o.op=.move x) (hx:ev E x=v):RD P E F o v:=by
 simp only [RD,execOp,ho,bV,hx]
theorem BY {x:Operand} {v:Value} (ho:o.op=.assign x) (hx:ev E x=v):RD P E F o v:=by
 simp only [RD,execOp,ho,bV,hx]
theorem sH {c a b:Operand} {t:Bool} {v:Value} (ho:o.op=.pick c a b) (hc:ev E c=.bool t) (h1:t=true→ev E a=v) (h2:t=false→ev E b=v):RD P E F o v:=by
 cases t
 ·simp [RD,execOp,ho,ai,hc,asBool,h2]
 ·simp [RD,execOp,ho,ai,hc,asBool,h1]
abbrev VP:=Value→PH→Prop
abbrev nx1 {α:Type} (I:Nat→α→PH→Prop) (m:Nat):α→PH→Prop:=fun a F=>∃m',m'<m∧I m' a F
abbrev nx2 {α β:Type} (I:Nat→α→β→PH→Prop) (m:Nat):α→β→PH→Prop:=fun a b F=>∃m',m'<m∧I m' a b F
abbrev nx3 {α β γ:Type} (I:Nat→α→β→γ→PH→Prop) (m:Nat):α→β→γ→PH→Prop:=fun a b c F=>∃m',m'<m∧I m' a b c F
theorem QJ {c a b:Operand} {v:Value} (ho:o.op=.pick c a b) (hc:ev E c=.bool false) (h2:ev E b=v:=by rfl):RD P E F o v:=sH ho hc (fun h=>by cases h) (fun _=>h2)
theorem QM {c a b:Operand} {v:Value} (ho:o.op=.pick c a b) (hc:ev E c=.bool true) (h2:ev E a=v:=by rfl):RD P E F o v:=sH ho hc (fun _=>h2) (fun h=>by cases h)
theorem vZ {x:Operand} {a:Addr} (ho:o.op=.nilCheck x) (hx:ev E x=.pointer (some a)):RD P E F o (.pointer (some a)):=by
 simp [RD,execOp,ho,hx]
theorem uA {x:Operand} {f:FuncId} {a b:Array Value} (ho:o.op=.nilCheck x) (hx:ev E x=.func (.func f) a b):RD P E F o (.func (.func f) a b):=by
 simp [RD,execOp,ho,hx]
theorem qV {x:Operand} {vs:Array Value} {i:Nat} {v:Value} (ho:o.op=.extract x i) (hx:ev E x=.tuple vs) (hi:vs[i]? =some v):RD P E F o v:=by
 simp [RD,execOp,ho,hx,Instr.extract,hi,ai]
theorem v8 {fn:Fn} {first captured:Array Operand} {a b:Array Value} (ho:o.op=.makeFunc fn first captured) (h1:first.map (ev E)=a) (h2:captured.map (ev E)=b):
  RD P E F o (.func fn a b):=by
 simp [RD,execOp,ho,h1,h2,Instr.makeFunc,ai]
section
variable {x y:Operand} {t t':TypeId} {k:IntKind} {a b:Int}
theorem Lu (ho:o.op=.binOp .add t x y t') (hx:ev E x=.int k a) (hy:ev E y=.int k b):RD P E F o (.int k (k.wrap (a+b))):=by
 simp [RD,execOp,ho,hx,hy,binOp,eqGuard,Op.intArith,ai]
theorem Lw (ho:o.op=.binOp .sub t x y t') (hx:ev E x=.int k a) (hy:ev E y=.int k b):RD P E F o (.int k (k.wrap (a - b))):=by
 simp [RD,execOp,ho,hx,hy,binOp,eqGuard,Op.intArith,ai]
theorem Ly (ho:o.op=.binOp .mul t x y t') (hx:ev E x=.int k a) (hy:ev E y=.int k b):RD P E F o (.int k (k.wrap (a*b))):=by
 simp [RD,execOp,ho,hx,hy,binOp,eqGuard,Op.intArith,ai]
theorem Gk (ho:o.op=.binOp .quo t x y t') (hx:ev E x=.int k a) (hy:ev E y=.int k b) (hb:b≠0):RD P E F o (.int k (k.wrap (a.tdiv b))):=by
 simp [RD,execOp,ho,hx,hy,binOp,eqGuard,Op.intDiv,ai,hb]
theorem Gl (ho:o.op=.binOp .rem t x y t') (hx:ev E x=.int k a) (hy:ev E y=.int k b) (hb:b≠0):RD P E F o (.int k (a.tmod b)):=by
 simp [RD,execOp,ho,hx,hy,binOp,eqGuard,Op.intDiv,ai,hb]
theorem Lz (ho:o.op=.binOp .and t x y t') (hx:ev E x=.int k a) (hy:ev E y=.int k b):RD P E F o (.int k (k.wrap ((BitVec.ofInt k.bits a &&& BitVec.ofInt k.bits b).toNat))):=by
 simp [RD,execOp,ho,hx,hy,binOp,eqGuard,Op.intBits,ai]
theorem PE (ho:o.op=.binOp .or t x y t') (hx:ev E x=.int k a) (hy:ev E y=.int k b):RD P E F o (.int k (k.wrap ((BitVec.ofInt k.bits a ||| BitVec.ofInt k.bits b).toNat))):=by
 simp [RD,execOp,ho,hx,hy,binOp,eqGuard,Op.intBits,ai]
theorem LA (ho:o.op=.binOp .xor t x y t') (hx:ev E x=.int k a) (hy:ev E y=.int k b):RD P E F o (.int k (k.wrap ((BitVec.ofInt k.bits a ^^^ BitVec.ofInt k.bits b).toNat))):=by
 simp [RD,execOp,ho,hx,hy,binOp,eqGuard,Op.intBits,ai]
theorem BZ (ho:o.op=.binOp .andNot t x y t') (hx:ev E x=.int k a) (hy:ev E y=.int k b):RD P E F o (.int k (k.wrap ((BitVec.ofInt k.bits a &&& ~~~ BitVec.ofInt k.bits b).toNat))):=by
 simp [RD,execOp,ho,hx,hy,binOp,eqGuard,Op.intBits,ai]
theorem LB (ho:o.op=.binOp .lss t x y t') (hx:ev E x=.int k a) (hy:ev E y=.int k b):RD P E F o (.bool (decide (a<b))):=by
 simp [RD,execOp,ho,hx,hy,binOp,eqGuard,Op.intCmp,ai]
theorem LC (ho:o.op=.binOp .leq t x y t') (hx:ev E x=.int k a) (hy:ev E y=.int k b):RD P E F o (.bool (decide (a≤b))):=by
 simp [RD,execOp,ho,hx,hy,binOp,eqGuard,Op.intCmp,ai]
theorem LD (ho:o.op=.binOp .gtr t x y t') (hx:ev E x=.int k a) (hy:ev E y=.int k b):RD P E F o (.bool (decide (b<a))):=by
 simp [RD,execOp,ho,hx,hy,binOp,eqGuard,Op.intCmp,ai]
theorem LF (ho:o.op=.binOp .geq t x y t') (hx:ev E x=.int k a) (hy:ev E y=.int k b):RD P E F o (.bool (decide (b≤a))):=by
 simp [RD,execOp,ho,hx,hy,binOp,eqGuard,Op.intCmp,ai]
theorem LG (ho:o.op=.binOp .eql t x y t') (hx:ev E x=.int k a) (hy:ev E y=.int k b):RD P E F o (.bool (a==b)):=by
 simp [RD,execOp,ho,hx,hy,binOp,eqGuard,Op.intCmp,ai]
theorem LH (ho:o.op=.binOp .neq t x y t') (hx:ev E x=.int k a) (hy:ev E y=.int k b):RD P E F o (.bool (a !=b)):=by
 simp [RD,execOp,ho,hx,hy,binOp,eqGuard,Op.intCmp,ai]
theorem Gm {k':IntKind} (ho:o.op=.binOp .shl t x y t') (hx:ev E x=.int k a) (hy:ev E y=.int k' b) (hb:0≤b):RD P E F o (.int k (k.wrap (a*2 ^ (min b.toNat k.bits)))):=by
 simp [RD,execOp,ho,hx,hy,binOp,eqGuard,Op.shift,ai,Int.not_lt.2 hb]
theorem Gn {k':IntKind} (ho:o.op=.binOp .shr t x y t') (hx:ev E x=.int k a) (hy:ev E y=.int k' b) (hb:0≤b):RD P E F o (.int k (a.fdiv (2 ^ (min b.toNat k.bits)))):=by
 simp [RD,execOp,ho,hx,hy,binOp,eqGuard,Op.shift,ai,Int.not_lt.2 hb]
theorem LI (ho:o.op=.unOp .neg t x) (hx:ev E x=.int k a):RD P E F o (.int k (k.wrap (0 - a))):=by
 simp [RD,execOp,ho,hx,Op.unary,Op.intArith,ai]
theorem B0 {c:Bool} (ho:o.op=.unOp .not t x) (hx:ev E x=.bool c):RD P E F o (.bool !c):=by
 simp [RD,execOp,ho,hx,Op.unary,ai]
theorem Ab {k':IntKind} {d:TypeDesc} (ho:o.op=.convert t t' x) (hx:ev E x=.int k a) (h1:P.underlying t=some d) (h2:P.underlying t'=some (.int k')):RD P E F o (.int k' (k'.wrap a)):=by
 simp [RD,execOp,ho,hx,convert,ai,av h1,av h2,Conv.intToInt]
theorem qW {m:Nat} {c d:Bool} (h1:P.underlying t=some .bool):rdo P (Op.equalIn (m+1) t (.bool c) (.bool d)) F (c==d):=by
 simp only [Op.equalIn,ai]
 exact ⟨_,(av h1 _).2 rfl,rfl⟩
theorem qX {m:Nat} {p:Option Addr} {e':TypeId} (h1:P.underlying t=some (.pointer e')):rdo P (Op.equalIn (m+1) t (.pointer p) (.pointer none)) F p.isNone:=by
 simp only [Op.equalIn,ai]
 refine ⟨_,(av h1 _).2 rfl,?_⟩
 cases p<;>rfl
theorem bI {op:BinOp} {v u:Value} (h:(match v,u with| .nilIface,.nilIface=>false| .agg _,.agg _=>false|_,_=>true)=true):rdo P (eqGuard op t x y v u) F ():=by
 unfold eqGuard
 cases op<;>simp<;>(split<;>first|(simp at h;done)|rfl)
theorem mQ {v u:Value} {r:Bool} (ho:o.op=.binOp .eql t x y t') (hx:ev E x=v) (hy:ev E y=u) (hg:rdo P (eqGuard .eql t x y v u) F ()) (he:rdo P (Op.equal t v u) F r)
  (hb:binOp .eql t v u=(do pure (.bool (← Op.equal t v u)))):RD P E F o (.bool r):=by
 simp only [RD,execOp,ho,hx,hy,ai]
 refine ⟨.bool r,⟨(),hg,?_⟩,rfl⟩
 rw [hb,ai]
 exact ⟨r,he,rfl⟩
theorem mR {v u:Value} {r:Bool} (ho:o.op=.binOp .neq t x y t') (hx:ev E x=v) (hy:ev E y=u) (hg:rdo P (eqGuard .neq t x y v u) F ()) (he:rdo P (Op.equal t v u) F r)
  (hb:binOp .neq t v u=(do pure (.bool (!(← Op.equal t v u))))):RD P E F o (.bool (!r)):=by
 simp only [RD,execOp,ho,hx,hy,ai]
 refine ⟨.bool (!r),⟨(),hg,?_⟩,rfl⟩
 rw [hb,ai]
 exact ⟨r,he,rfl⟩
theorem II {c d:Bool} (ho:o.op=.binOp .eql t x y t') (hx:ev E x=.bool c) (hy:ev E y=.bool d) (h1:P.underlying t=some .bool):RD P E F o (.bool (c==d)):=
 mQ ho hx hy (bI rfl) (qW h1) rfl
theorem IJ {c d:Bool} (ho:o.op=.binOp .neq t x y t') (hx:ev E x=.bool c) (hy:ev E y=.bool d) (h1:P.underlying t=some .bool):RD P E F o (.bool (!(c==d))):=
 mR ho hx hy (bI rfl) (qW h1) rfl
theorem uB {p:Option Addr} {e':TypeId} (ho:o.op=.binOp .eql t x y t') (hx:ev E x=.pointer p) (hy:ev E y=.pointer none) (h1:P.underlying t=some (.pointer e')):RD P E F o (.bool p.isNone):=
 mQ ho hx hy (bI rfl) (qX h1) rfl
theorem uC {p:Option Addr} {e':TypeId} (ho:o.op=.binOp .neq t x y t') (hx:ev E x=.pointer p) (hy:ev E y=.pointer none) (h1:P.underlying t=some (.pointer e')):RD P E F o (.bool (!p.isNone)):=
 mR ho hx hy (bI rfl) (qX h1) rfl
theorem oO {m:Nat} {s:Sl} {e':TypeId} (h1:P.underlying t=some (.slice e')):rdo P (Op.equalIn (m+1) t s.v (.slice none 0 0)) F s.base.isNone:=by
 simp only [Op.equalIn,ai]
 refine ⟨_,(av h1 _).2 rfl,?_⟩
 obtain ⟨b,l,c⟩:=s
 cases b<;>rfl
theorem v9 {s:Sl} {e':TypeId} (ho:o.op=.binOp .eql t x y t') (hx:ev E x=s.v) (hy:ev E y=.slice none 0 0) (h1:P.underlying t=some (.slice e')):RD P E F o (.bool s.base.isNone):=
 mQ ho hx hy (bI rfl) (oO h1) rfl
theorem wa {s:Sl} {e':TypeId} (ho:o.op=.binOp .neq t x y t') (hx:ev E x=s.v) (hy:ev E y=.slice none 0 0) (h1:P.underlying t=some (.slice e')):RD P E F o (.bool (!s.base.isNone)):=
 mR ho hx hy (bI rfl) (oO h1) rfl
theorem IK {c d:ByteArray} (ho:o.op=.binOp .eql t x y t') (hx:ev E x=.string c) (hy:ev E y=.string d):RD P E F o (.bool (c.toList==d.toList)):=by
 simp [RD,execOp,ho,hx,hy,binOp,eqGuard,ai,Op.stringOp]
theorem IL {c d:ByteArray} (ho:o.op=.binOp .neq t x y t') (hx:ev E x=.string c) (hy:ev E y=.string d):RD P E F o (.bool (!(c.toList==d.toList))):=by
 simp [RD,execOp,ho,hx,hy,binOp,eqGuard,ai,Op.stringOp]
end
section
variable {x y:Operand} {t t':TypeId} {k:IntKind} {a b:Int}
theorem Ew {s:Sl} {e':TypeId} (ho:o.op=.call {callee:=.builtin .len,args:= #[x],argTypes:= #[t]}) (hx:ev E x=s.v) (h1:P.underlying t=some (.slice e')):RD P E F o (.int .i64 s.len):=by
 simp [RD,execOp,ho,resolve,invoke,builtin,hx,Sl.v,Builtin.len_,ai,av h1,goInt]
theorem Ex {s:Sl} {e':TypeId} (ho:o.op=.call {callee:=.builtin .cap,args:= #[x],argTypes:= #[t]}) (hx:ev E x=s.v) (h1:P.underlying t=some (.slice e')):RD P E F o (.int .i64 s.cap):=by
 simp [RD,execOp,ho,resolve,invoke,builtin,hx,Sl.v,Builtin.cap_,ai,av h1,goInt]
theorem B1 {s:ByteArray} (ho:o.op=.call {callee:=.builtin .len,args:= #[x],argTypes:= #[t]}) (hx:ev E x=.string s) (h1:P.underlying t=some .string):RD P E F o (.int .i64 s.size):=by
 simp [RD,execOp,ho,resolve,invoke,builtin,hx,Builtin.len_,ai,av h1,goInt]
theorem IM {ts:Array TypeId} (ho:o.op=.call {callee:=.builtin .max,args:= #[x,y],argTypes:=ts}) (hx:ev E x=.int k a) (hy:ev E y=.int k b):RD P E F o (.int k (max a b)):=by
 have:(if b>a then b else a)=max a b:=by omega
 simp [RD,execOp,ho,resolve,invoke,builtin,hx,hy,Builtin.max_,Builtin.max2,ai]
 omega
theorem IN {ts:Array TypeId} (ho:o.op=.call {callee:=.builtin .min,args:= #[x,y],argTypes:=ts}) (hx:ev E x=.int k a) (hy:ev E y=.int k b):RD P E F o (.int k (min a b)):=by
 simp [RD,execOp,ho,resolve,invoke,builtin,hx,hy,Builtin.min_,Builtin.min2,ai]
 omega
theorem IP {ts:Array TypeId} {z:Operand} {c:Int} (ho:o.op=.call {callee:=.builtin .max,args:= #[x,y,z],argTypes:=ts}) (hx:ev E x=.int k a) (hy:ev E y=.int k b) (hz:ev E z=.int k c):RD P E F o (.int k (max (max a b) c)):=by
 simp [RD,execOp,ho,resolve,invoke,builtin,hx,hy,hz,Builtin.max_,Builtin.max2,ai]
 omega
theorem IQ {ts:Array TypeId} {z:Operand} {c:Int} (ho:o.op=.call {callee:=.builtin .min,args:= #[x,y,z],argTypes:=ts}) (hx:ev E x=.int k a) (hy:ev E y=.int k b) (hz:ev E z=.int k c):RD P E F o (.int k (min (min a b) c)):=by
 simp [RD,execOp,ho,resolve,invoke,builtin,hx,hy,hz,Builtin.min_,Builtin.min2,ai]
 omega
end
def jt (d:TypeDesc):Bool:=match d with| .struct _| .array _ _=>true|_=>false
theorem cU {t:Nat} {d:TypeDesc} (h:P.underlying t=some d) (v:Bool):rdo P (isAgg t) F v↔jt d=v:=by
 unfold isAgg
 simp only [ai,av h,exists_eq_left']
 cases d<;>simp [jt]
def PH.row (F:PH) (a:Addr) (cs:Array Value):Prop:=∀i,(h:i<cs.size)→F.cell (a.add i)=some cs[i]
theorem j7 {a:Addr}:∀(n i:Nat) (acc cs:Array Value),cs.size=i+n→acc.toList=cs.toList.take i→F.row a cs→rdo P (loadCellsFrom a i n acc) F cs:=by
 intro n
 induction n with
 |zero=>
  intro i acc cs hs ha _
  show acc=cs
  apply Array.ext'
  rw [ha,List.take_of_length_le]
  simp only [Array.length_toList]
  omega
 |succ n ih=>
  intro i acc cs hs ha hr
  have hi:i<cs.size:=by omega
  simp only [loadCellsFrom,ai]
  refine ⟨cs[i],⟨_,hr i hi,rfl⟩,?_⟩
  refine ih (i+1) _ cs (by omega) ?_ hr
  rw [Array.toList_push,ha,List.take_succ_eq_append_getElem (by simpa using hi)]
  simp
theorem dc {a:Addr} {cs:Array Value} (hr:F.row a cs):rdo P (loadCells a cs.size) F cs:=
 j7 cs.size 0 #[] cs (by omega) (by simp) hr
theorem Ey {x:Operand} {t:TypeId} {d:TypeDesc} {a:Addr} {v:Value} (ho:o.op=.load t x) (hx:ev E x=.pointer (some a)) (h1:P.underlying t=some d) (h2:jt d=false) (hc:F.cell a=some v):
  RD P E F o v:=by
 simp [RD,execOp,ho,hx,Instr.loadAt,Instr.sureAddr,loadVar,ai,cU h1,h2,load,rdo,hc]
theorem Ez {x:Operand} {t:TypeId} {d:TypeDesc} {a:Addr} {cs:Array Value} {b:Nat} (ho:o.op=.load t x) (hx:ev E x=.pointer (some a)) (h1:P.underlying t=some d) (h2:jt d=true)
  (h3:tsz P t=some (cs.size,b)) (hr:F.row a cs):RD P E F o (.agg cs):=by
 have:=dc (P:=P) hr
 simp [RD,execOp,ho,hx,Instr.loadAt,Instr.sureAddr,loadVar,ai,cU h1,h2,bB h3,this]
theorem oP {a:Addr} {f:Field} {s b:Nat} (h:tsz P f.type=some (s,b)) (hs:s≠0) (v:Addr):rdo P (fieldPlace a f) F v↔a.add f.offset=v:=by
 simp [fieldPlace,ai,bB h,hs]
theorem uD {x:Operand} {t i:Nat} {a:Addr} {fs:Array Field} {f:Field} {s b:Nat} (ho:o.op=.fieldAddr t x i) (hx:ev E x=.pointer (some a)) (h1:P.underlying t=some (.struct fs))
  (h2:fs[i]? =some f) (h3:tsz P f.type=some (s,b)) (hs:s≠0):RD P E F o (.pointer (some (a.add f.offset))):=by
 simp [RD,execOp,ho,hx,Instr.fieldAt,Instr.sureAddr,ai,av h1,h2,oP h3 hs]
theorem qY {t off:Nat} {d:TypeDesc} {cs:Array Value} {v:Value} (h1:P.underlying t=some d) (h2:jt d=false) (hc:cs[off]? =some v):rdo P (part t cs off) F v:=by
 simp [part,ai,cU h1,h2,hc]
theorem Ac {t off s b:Nat} {d:TypeDesc} {cs:Array Value} (h1:P.underlying t=some d) (h2:jt d=true) (h3:tsz P t=some (s,b)):rdo P (part t cs off) F (.agg (cs.extract off (off+s))):=by
 simp [part,ai,cU h1,h2,bB h3]
theorem B2 {x:Operand} {t i:Nat} {cs:Array Value} {fs:Array Field} {f:Field} {d:TypeDesc} {v:Value} (ho:o.op=.field t x i) (hx:ev E x=.agg cs) (h1:P.underlying t=some (.struct fs))
  (h2:fs[i]? =some f) (h3:P.underlying f.type=some d) (h4:jt d=false) (hc:cs[f.offset]? =some v):RD P E F o v:=by
 simp only [RD,execOp,ho,hx,Instr.field,ai,av h1,asAgg,bV]
 exact ⟨v,⟨_,rfl,by simp only [h2,ai,bV,exists_eq_left'];exact qY h3 h4 hc⟩,rfl⟩
theorem B3 {x:Operand} {t i s b:Nat} {cs:Array Value} {fs:Array Field} {f:Field} {d:TypeDesc} (ho:o.op=.field t x i) (hx:ev E x=.agg cs) (h1:P.underlying t=some (.struct fs))
  (h2:fs[i]? =some f) (h3:P.underlying f.type=some d) (h4:jt d=true) (h5:tsz P f.type=some (s,b)):RD P E F o (.agg (cs.extract f.offset (f.offset+s))):=by
 simp only [RD,execOp,ho,hx,Instr.field,ai,av h1,asAgg,bV]
 exact ⟨_,⟨_,rfl,by simp only [h2,ai,bV,exists_eq_left'];exact Ac h3 h4 h5⟩,rfl⟩
theorem qo {x y:Operand} {t e' s b:Nat} {base:Addr} {len cap:Nat} {k:IntKind} {i:Int} (ho:o.op=.indexAddr t x y) (hx:ev E x=.slice (some base) len cap) (hy:ev E y=.int k i)
  (h1:P.underlying t=some (.slice e')) (h2:tsz P e'=some (s,b)) (h3:0≤i) (h4:i<len):RD P E F o (.pointer (some (base.add (i.toNat*s)))):=by
 simp [RD,execOp,ho,hx,hy,Instr.indexAt,asIntOf,ai,av h1,h3,h4,bB h2]
theorem qp {x y:Operand} {t e' s b n:Nat} {base:Addr} {k:IntKind} {i:Int} (ho:o.op=.indexAddr t x y) (hx:ev E x=.pointer (some base)) (hy:ev E y=.int k i)
  (h1:P.underlying t=some (.array n e')) (h2:tsz P e'=some (s,b)) (h3:0≤i) (h4:i<n):RD P E F o (.pointer (some (base.add (i.toNat*s)))):=by
 simp [RD,execOp,ho,hx,hy,Instr.indexAt,asIntOf,ai,av h1,h3,h4,bB h2,Instr.sureAddr]
theorem wb {x y:Operand} {t:Nat} {st:ByteArray} {k:IntKind} {i:Int} (ho:o.op=.index t x y) (hx:ev E x=.string st) (hy:ev E y=.int k i)
  (h1:P.underlying t=some .string) (h3:0≤i) (h4:i<st.size):RD P E F o (.int .u8 (st[i.toNat]'(by omega)).toNat):=by
 have h5:i.toNat<st.size:=by omega
 have:st[i.toNat]? =some (st[i.toNat]'h5):=getElem?_pos st i.toNat h5
 simp [RD,execOp,ho,hx,hy,Instr.index,asIntOf,ai,av h1,h3,this]
theorem uE {x y:Operand} {t e' n s b:Nat} {cs:Array Value} {k:IntKind} {i:Int} {d:TypeDesc} {v:Value} (ho:o.op=.index t x y) (hx:ev E x=.agg cs) (hy:ev E y=.int k i)
  (h1:P.underlying t=some (.array n e')) (h2:tsz P e'=some (s,b)) (hd:P.underlying e'=some d) (hag:jt d=false) (h3:0≤i) (h4:i<n) (hc:cs[i.toNat*s]? =some v):RD P E F o v:=by
 simp only [RD,execOp,ho,hx,hy,Instr.index,asIntOf,ai,av h1,bV]
 refine ⟨v,⟨(k,i),rfl,.array n e',rfl,?_⟩,rfl⟩
 simp only [h3,h4,and_self,if_true,ai,bB h2]
 exact ⟨_,rfl,qY hd hag hc⟩
theorem bN {k:IntKind} {i:Int} {y:Nat} {c:BoundsCode} (h1:0≤i) (h2:i≤y) (v:Nat):rdo P (Instr.sliceBound (.int k i) y c) F v↔i.toNat=v:=by
 simp [Instr.sliceBound,asIntOf,ai,h1,h2]
def cV (v:Option Value) (dflt:Nat) (r:Nat):Prop:=(v=none∧r=dflt)∨∃k i,v=some (.int k i)∧0≤i∧i.toNat=r
theorem d6 {sl:Bool} {len cap:Nat} {lo hi:Option Value} {l h:Nat} (hh:cV hi len h) (hl:cV lo 0 l) (h1:l≤h) (h2:h≤cap) (v:Nat×Nat×Nat):
  rdo P (Instr.sliceBounds sl len cap lo hi none) F v↔(l,h,cap)=v:=by
 rcases hh with ⟨rfl,rfl⟩|⟨k,i,rfl,hi0,rfl⟩<;>rcases hl with ⟨rfl,rfl⟩|⟨k',j,rfl,hj0,rfl⟩
 ·simp [Instr.sliceBounds,ai]
 ·have e2:∀c x,rdo P (Instr.sliceBound (.int k' j) h c) F x↔j.toNat=x:=fun c x=>bN hj0 (by omega) x
  cases sl<;>simp [Instr.sliceBounds,ai,e2]
 ·have e1:∀c x,rdo P (Instr.sliceBound (.int k i) cap c) F x↔i.toNat=x:=fun c x=>bN hi0 (by omega) x
  cases sl<;>simp [Instr.sliceBounds,ai,e1]
 ·have e1:∀c x,rdo P (Instr.sliceBound (.int k i) cap c) F x↔i.toNat=x:=fun c x=>bN hi0 (by omega) x
  have e2:∀c x,rdo P (Instr.sliceBound (.int k' j) i.toNat c) F x↔j.toNat=x:=fun c x=>bN hj0 (by omega) x
  cases sl<;>simp [Instr.sliceBounds,ai,e1,e2]
theorem lH {sl:Bool} {len cap:Nat} {lo:Option Value} {k k':IntKind} {i m:Int} {l:Nat} (hl:cV lo 0 l) (h0:0≤i) (hm0:0≤m) (h1:l≤i.toNat) (h2:i≤m) (h3:m≤cap) (v:Nat×Nat×Nat):
  rdo P (Instr.sliceBounds sl len cap lo (some (.int k i)) (some (.int k' m))) F v↔(l,i.toNat,m.toNat)=v:=by
 have e1:∀c x,rdo P (Instr.sliceBound (.int k' m) cap c) F x↔m.toNat=x:=fun c x=>bN hm0 h3 x
 have e2:∀c x,rdo P (Instr.sliceBound (.int k i) m.toNat c) F x↔i.toNat=x:=fun c x=>bN h0 (by omega) x
 rcases hl with ⟨rfl,rfl⟩|⟨k'',j,rfl,hj0,rfl⟩
 ·cases sl<;>simp [Instr.sliceBounds,ai,e1,e2]
 ·have e3:∀c x,rdo P (Instr.sliceBound (.int k'' j) i.toNat c) F x↔j.toNat=x:=fun c x=>bN hj0 (by omega) x
  cases sl<;>simp [Instr.sliceBounds,ai,e1,e2,e3]
def Sl.cut (s:Sl) (size l h m:Nat):Sl:=⟨if m=l then s.base else s.base.map (·.add (l*size)),h - l,m - l⟩
theorem Ad {x:Operand} {lo hi:Option Operand} {t e' size b:Nat} {s:Sl} {l h:Nat} (ho:o.op=.slice t x lo hi none) (hx:ev E x=s.v) (h1:P.underlying t=some (.slice e')) (h2:tsz P e'=some (size,b))
  (hl:cV (lo.map (ev E)) 0 l) (hh:cV (hi.map (ev E)) s.len h) (h3:l≤h) (h4:h≤s.cap):RD P E F o (s.cut size l h s.cap).v:=by
 have:=d6 (P:=P) (F:=F) (sl:=true) hh hl h3 h4
 simp [RD,execOp,ho,hx,Instr.sliceAt,Instr.slice,Sl.v,Sl.cut,ai,av h1,bB h2,this]
theorem wc {x hi mx:Operand} {lo:Option Operand} {t e' size b:Nat} {s:Sl} {l:Nat} {k k':IntKind} {i m:Int} (ho:o.op=.slice t x lo (some hi) (some mx)) (hx:ev E x=s.v) (h1:P.underlying t=some (.slice e')) (h2:tsz P e'=some (size,b))
  (hl:cV (lo.map (ev E)) 0 l) (hi':ev E hi=.int k i) (hm:ev E mx=.int k' m) (h0:0≤i) (hm0:0≤m) (h3:l≤i.toNat) (h4:i≤m) (h5:m≤s.cap):RD P E F o (s.cut size l i.toNat m.toNat).v:=by
 have:=lH (P:=P) (F:=F) (sl:=true) (len:=s.len) (k:=k) (k':=k') hl h0 hm0 h3 h4 h5
 simp [RD,execOp,ho,hx,Instr.sliceAt,Instr.slice,Sl.v,Sl.cut,ai,av h1,bB h2,hi',hm,this]
theorem qZ {x:Operand} {lo hi:Option Operand} {t e' size b n:Nat} {a:Addr} {l h:Nat} (ho:o.op=.slice t x lo hi none) (hx:ev E x=.pointer (some a)) (h1:P.underlying t=some (.array n e')) (h2:tsz P e'=some (size,b))
  (hl:cV (lo.map (ev E)) 0 l) (hh:cV (hi.map (ev E)) n h) (h3:l≤h) (h4:h≤n):RD P E F o (Sl.cut ⟨some a,n,n⟩ size l h n).v:=by
 have:=d6 (P:=P) (F:=F) (sl:=false) hh hl h3 h4
 simp [RD,execOp,ho,hx,Instr.sliceAt,Instr.sureAddr,Sl.v,Sl.cut,ai,av h1,bB h2,this]
 split<;>rfl
theorem we {x:Operand} {lo hi:Option Operand} {t:Nat} {s:ByteArray} {l h:Nat} (ho:o.op=.slice t x lo hi none) (hx:ev E x=.string s) (h1:P.underlying t=some .string)
  (hl:cV (lo.map (ev E)) 0 l) (hh:cV (hi.map (ev E)) s.size h) (h3:l≤h) (h4:h≤s.size):RD P E F o (.string (s.extract l h)):=by
 have:=d6 (P:=P) (F:=F) (sl:=false) hh hl h3 h4
 simp [RD,execOp,ho,hx,Instr.sliceAt,Instr.slice,ai,av h1,this]
end
end Go.Proofs.YtenpmjhnhepfdaaGreatDoor
