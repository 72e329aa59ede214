/-
  A program logic over partial heaps. Part 6: the steps of the walks, as they are used.
-/
import Derived.Test.YtcemhghkipgdiaaGreatDoorPhc
namespace Go.Proofs.YtcemhghkipgdiaaGreatDoor
open Go
structure Sl where
 base:Θ
 len:Nat
 cap:Nat
def Sl.v (s:Sl):Value:=.slice s.base s.len s.cap
def Sl.nil:Sl:=⟨none,0,0⟩
theorem aS {x:Int} (h1: -9223372036854775808<=x) (h2:x<=9223372036854775807):IntKind.i64.wrap x=x:=by
 have e:IntKind.i64.wrap x=if x % 18446744073709551616≥9223372036854775808 then x % 18446744073709551616 - 18446744073709551616 else x % 18446744073709551616:=by unfold IntKind.wrap;simp [IntKind.bits,IntKind.signed]
 rw [e];split<;>omega
section
variable {P:Program} {F:PH} {E:En} {o:Oper}
theorem L6 {x:Operand} {v:Value} (ho:o.op=.move x) (hx:ev E x=v):RD P E F o v:=by simp only [RD,execOp,ho,cG,hx]
theorem Ea {x:Operand} {v:Value} (ho:o.op=.assign x) (hx:ev E x=v):RD P E F o v:=by simp only [RD,execOp,ho,cG,hx]
theorem uZ {c a b:Operand} {t:Bool} {v:Value} (ho:o.op=.pick c a b) (hc:ev E c=.bool t) (h1:t=true->ev E a=v) (h2:t=false->ev E b=v):RD P E F o v:=by
 cases t
 ·simp [RD,execOp,ho,hc,asBool,h2]
 ·simp [RD,execOp,ho,hc,asBool,h1]
abbrev VP:=Value->PH->Prop
abbrev nx1 {α:Type} (I:Nat->α->Ψ) (m:Nat):α->Ψ:=λa F=>∃m',m'<m/\I m' a F
abbrev nx2 {α β:Type} (I:Nat->α->β->Ψ) (m:Nat):α->β->Ψ:=λa b F=>∃m',m'<m/\I m' a b F
abbrev nx3 {α β γ:Type} (I:Nat->α->β->γ->Ψ) (m:Nat):α->β->γ->Ψ:=λa b c F=>∃m',m'<m/\I m' a b c F
theorem UR {c a b:Operand} {v:Value} (ho:o.op=.pick c a b) (hc:ev E c=.bool false) (h2:ev E b=v:=by rfl):RD P E F o v:=uZ ho hc (λh=>by cases h) (λ_=>h2)
theorem US {c a b:Operand} {v:Value} (ho:o.op=.pick c a b) (hc:ev E c=.bool true) (h2:ev E a=v:=by rfl):RD P E F o v:=uZ ho hc (λ_=>h2) (λh=>by cases h)
theorem yI {x:Operand} {a:Addr} (ho:o.op=.nilCheck x) (hx:ev E x=.pointer (some a)):RD P E F o (.pointer (some a)):=by simp [RD,execOp,ho,hx]
theorem xk {x:Operand} {f:FuncId} {a b:Γ} (ho:o.op=.nilCheck x) (hx:ev E x=.func (.func f) a b):RD P E F o (.func (.func f) a b):=by simp [RD,execOp,ho,hx]
theorem tO {x:Operand} {vs:Γ} {i:Nat} {v:Value} (ho:o.op=.extract x i) (hx:ev E x=.tuple vs) (hi:vs[i]? =some v):RD P E F o v:=by simp [RD,execOp,ho,hx,Instr.extract,hi]
theorem yJ {fn:Fn} {first captured:Array Operand} {a b:Γ} (ho:o.op=.makeFunc fn first captured) (h1:first.map (ev E)=a) (h2:captured.map (ev E)=b):
  RD P E F o (.func fn a b):=by
 simp [RD,execOp,ho,h1,h2,Instr.makeFunc]
section
variable {x y:Operand} {t t':TypeId} {k:IntKind} {a b:Int}
theorem NZ (ho:o.op=.binOp .add t x y t') (hx:ev E x=.int k a) (hy:ev E y=.int k b):RD P E F o (.int k (k.wrap (a+b))):=by simp [RD,execOp,ho,hx,hy,binOp,eqGuard,Op.intArith]
theorem N0 (ho:o.op=.binOp .sub t x y t') (hx:ev E x=.int k a) (hy:ev E y=.int k b):RD P E F o (.int k (k.wrap (a - b))):=by simp [RD,execOp,ho,hx,hy,binOp,eqGuard,Op.intArith]
theorem N7 (ho:o.op=.binOp .mul t x y t') (hx:ev E x=.int k a) (hy:ev E y=.int k b):RD P E F o (.int k (k.wrap (a*b))):=by simp [RD,execOp,ho,hx,hy,binOp,eqGuard,Op.intArith]
theorem JB (ho:o.op=.binOp .quo t x y t') (hx:ev E x=.int k a) (hy:ev E y=.int k b) (hb:b≠0):RD P E F o (.int k (k.wrap (a.tdiv b))):=by simp [RD,execOp,ho,hx,hy,binOp,eqGuard,Op.intDiv,hb]
theorem JC (ho:o.op=.binOp .rem t x y t') (hx:ev E x=.int k a) (hy:ev E y=.int k b) (hb:b≠0):RD P E F o (.int k (a.tmod b)):=by simp [RD,execOp,ho,hx,hy,binOp,eqGuard,Op.intDiv,hb]
theorem N8 (ho:o.op=.binOp .and t x y t') (hx:ev E x=.int k a) (hy:ev E y=.int k b):RD P E F o (.int k (k.wrap ((BitVec.ofInt k.bits a &&& BitVec.ofInt k.bits b).toNat))):=by simp [RD,execOp,ho,hx,hy,binOp,eqGuard,Op.intBits]
theorem S5 (ho:o.op=.binOp .or t x y t') (hx:ev E x=.int k a) (hy:ev E y=.int k b):RD P E F o (.int k (k.wrap ((BitVec.ofInt k.bits a ||| BitVec.ofInt k.bits b).toNat))):=by simp [RD,execOp,ho,hx,hy,binOp,eqGuard,Op.intBits]
theorem N9 (ho:o.op=.binOp .xor t x y t') (hx:ev E x=.int k a) (hy:ev E y=.int k b):RD P E F o (.int k (k.wrap ((BitVec.ofInt k.bits a ^^^ BitVec.ofInt k.bits b).toNat))):=by simp [RD,execOp,ho,hx,hy,binOp,eqGuard,Op.intBits]
theorem Eb (ho:o.op=.binOp .andNot t x y t') (hx:ev E x=.int k a) (hy:ev E y=.int k b):RD P E F o (.int k (k.wrap ((BitVec.ofInt k.bits a &&& ~~~ BitVec.ofInt k.bits b).toNat))):=by simp [RD,execOp,ho,hx,hy,binOp,eqGuard,Op.intBits]
theorem Oa (ho:o.op=.binOp .lss t x y t') (hx:ev E x=.int k a) (hy:ev E y=.int k b):RD P E F o (.bool (decide (a<b))):=by simp [RD,execOp,ho,hx,hy,binOp,eqGuard,Op.intCmp]
theorem Ob (ho:o.op=.binOp .leq t x y t') (hx:ev E x=.int k a) (hy:ev E y=.int k b):RD P E F o (.bool (decide (a<=b))):=by simp [RD,execOp,ho,hx,hy,binOp,eqGuard,Op.intCmp]
theorem Oc (ho:o.op=.binOp .gtr t x y t') (hx:ev E x=.int k a) (hy:ev E y=.int k b):RD P E F o (.bool (decide (b<a))):=by simp [RD,execOp,ho,hx,hy,binOp,eqGuard,Op.intCmp]
theorem Od (ho:o.op=.binOp .geq t x y t') (hx:ev E x=.int k a) (hy:ev E y=.int k b):RD P E F o (.bool (decide (b<=a))):=by simp [RD,execOp,ho,hx,hy,binOp,eqGuard,Op.intCmp]
theorem Oe (ho:o.op=.binOp .eql t x y t') (hx:ev E x=.int k a) (hy:ev E y=.int k b):RD P E F o (.bool (a==b)):=by simp [RD,execOp,ho,hx,hy,binOp,eqGuard,Op.intCmp]
theorem Of (ho:o.op=.binOp .neq t x y t') (hx:ev E x=.int k a) (hy:ev E y=.int k b):RD P E F o (.bool (a !=b)):=by simp [RD,execOp,ho,hx,hy,binOp,eqGuard,Op.intCmp]
theorem JD {k':IntKind} (ho:o.op=.binOp .shl t x y t') (hx:ev E x=.int k a) (hy:ev E y=.int k' b) (hb:0<=b):RD P E F o (.int k (k.wrap (a*2 ^ (min b.toNat k.bits)))):=by simp [RD,execOp,ho,hx,hy,binOp,eqGuard,Op.shift,Int.not_lt.2 hb]
theorem JE {k':IntKind} (ho:o.op=.binOp .shr t x y t') (hx:ev E x=.int k a) (hy:ev E y=.int k' b) (hb:0<=b):RD P E F o (.int k (a.fdiv (2 ^ (min b.toNat k.bits)))):=by simp [RD,execOp,ho,hx,hy,binOp,eqGuard,Op.shift,Int.not_lt.2 hb]
theorem Og (ho:o.op=.unOp .neg t x) (hx:ev E x=.int k a):RD P E F o (.int k (k.wrap (0 - a))):=by simp [RD,execOp,ho,hx,Op.unary,Op.intArith]
theorem Ec {c:Bool} (ho:o.op=.unOp .not t x) (hx:ev E x=.bool c):RD P E F o (.bool !c):=by simp [RD,execOp,ho,hx,Op.unary]
theorem CQ {k':IntKind} {d:TypeDesc} (ho:o.op=.convert t t' x) (hx:ev E x=.int k a) (h1:P.underlying t=some d) (h2:P.underlying t'=some (.int k')):RD P E F o (.int k' (k'.wrap a)):=by simp [RD,execOp,ho,hx,convert,aj,az h1,az h2,Conv.intToInt]
theorem tP {m:Nat} {c d:Bool} (h1:P.underlying t=some .bool):rdo P (Op.equalIn (m+1) t (.bool c) (.bool d)) F (c==d):=by simp only [Op.equalIn,aj];exact ⟨_,(az h1 _).2 rfl,rfl⟩
theorem tQ {m:Nat} {p:Θ} {e':TypeId} (h1:P.underlying t=some (.pointer e')):rdo P (Op.equalIn (m+1) t (.pointer p) (.pointer none)) F p.isNone:=by simp only [Op.equalIn,aj];refine ⟨_,(az h1 _).2 rfl,?_⟩;cases p<;>rfl
theorem ca {op:BinOp} {v u:Value} (h:(match v,u with| .nilIface,.nilIface=>false| .agg _,.agg _=>false|_,_=>true)=true):rdo P (eqGuard op t x y v u) F ():=by unfold eqGuard;cases op<;>simp<;>(split<;>first|(simp at h;done)|rfl)
theorem pc {v u:Value} {r:Bool} (ho:o.op=.binOp .eql t x y t') (hx:ev E x=v) (hy:ev E y=u) (hg:rdo P (eqGuard .eql t x y v u) F ()) (he:rdo P (Op.equal t v u) F r)
  (hb:binOp .eql t v u=(do pure (.bool (<- Op.equal t v u)))):RD P E F o (.bool r):=by
 simp only [RD,execOp,ho,hx,hy,aj];refine ⟨.bool r,⟨(),hg,?_⟩,rfl⟩;rw [hb,aj];exact ⟨r,he,rfl⟩
theorem pd {v u:Value} {r:Bool} (ho:o.op=.binOp .neq t x y t') (hx:ev E x=v) (hy:ev E y=u) (hg:rdo P (eqGuard .neq t x y v u) F ()) (he:rdo P (Op.equal t v u) F r)
  (hb:binOp .neq t v u=(do pure (.bool (!(<- Op.equal t v u))))):RD P E F o (.bool (!r)):=by
 simp only [RD,execOp,ho,hx,hy,aj];refine ⟨.bool (!r),⟨(),hg,?_⟩,rfl⟩;rw [hb,aj];exact ⟨r,he,rfl⟩
theorem L7 {c d:Bool} (ho:o.op=.binOp .eql t x y t') (hx:ev E x=.bool c) (hy:ev E y=.bool d) (h1:P.underlying t=some .bool):RD P E F o (.bool (c==d)):=
 pc ho hx hy (ca rfl) (tP h1) rfl
theorem L8 {c d:Bool} (ho:o.op=.binOp .neq t x y t') (hx:ev E x=.bool c) (hy:ev E y=.bool d) (h1:P.underlying t=some .bool):RD P E F o (.bool (!(c==d))):=
 pd ho hx hy (ca rfl) (tP h1) rfl
theorem xm {p:Θ} {e':TypeId} (ho:o.op=.binOp .eql t x y t') (hx:ev E x=.pointer p) (hy:ev E y=.pointer none) (h1:P.underlying t=some (.pointer e')):RD P E F o (.bool p.isNone):=
 pc ho hx hy (ca rfl) (tQ h1) rfl
theorem xn {p:Θ} {e':TypeId} (ho:o.op=.binOp .neq t x y t') (hx:ev E x=.pointer p) (hy:ev E y=.pointer none) (h1:P.underlying t=some (.pointer e')):RD P E F o (.bool (!p.isNone)):=
 pd ho hx hy (ca rfl) (tQ h1) rfl
theorem qK {m:Nat} {s:Sl} {e':TypeId} (h1:P.underlying t=some (.slice e')):rdo P (Op.equalIn (m+1) t s.v (.slice none 0 0)) F s.base.isNone:=by simp only [Op.equalIn,aj];refine ⟨_,(az h1 _).2 rfl,?_⟩;obtain ⟨b,l,c⟩:=s;cases b<;>rfl
theorem yK {s:Sl} {e':TypeId} (ho:o.op=.binOp .eql t x y t') (hx:ev E x=s.v) (hy:ev E y=.slice none 0 0) (h1:P.underlying t=some (.slice e')):RD P E F o (.bool s.base.isNone):=
 pc ho hx hy (ca rfl) (qK h1) rfl
theorem yL {s:Sl} {e':TypeId} (ho:o.op=.binOp .neq t x y t') (hx:ev E x=s.v) (hy:ev E y=.slice none 0 0) (h1:P.underlying t=some (.slice e')):RD P E F o (.bool (!s.base.isNone)):=
 pd ho hx hy (ca rfl) (qK h1) rfl
theorem L9 {c d:ByteArray} (ho:o.op=.binOp .eql t x y t') (hx:ev E x=.string c) (hy:ev E y=.string d):RD P E F o (.bool (c.toList==d.toList)):=by simp [RD,execOp,ho,hx,hy,binOp,eqGuard,Op.stringOp]
theorem Ma {c d:ByteArray} (ho:o.op=.binOp .neq t x y t') (hx:ev E x=.string c) (hy:ev E y=.string d):RD P E F o (.bool (!(c.toList==d.toList))):=by simp [RD,execOp,ho,hx,hy,binOp,eqGuard,Op.stringOp]
end
section
variable {x y:Operand} {t t':TypeId} {k:IntKind} {a b:Int}
theorem HO {s:Sl} {e':TypeId} (ho:o.op=.call {callee:=.builtin .len,args:= #[x],argTypes:= #[t]}) (hx:ev E x=s.v) (h1:P.underlying t=some (.slice e')):RD P E F o (.int .i64 s.len):=by simp [RD,execOp,ho,resolve,invoke,builtin,hx,Sl.v,Builtin.len_,aj,az h1,goInt]
theorem HP {s:Sl} {e':TypeId} (ho:o.op=.call {callee:=.builtin .cap,args:= #[x],argTypes:= #[t]}) (hx:ev E x=s.v) (h1:P.underlying t=some (.slice e')):RD P E F o (.int .i64 s.cap):=by simp [RD,execOp,ho,resolve,invoke,builtin,hx,Sl.v,Builtin.cap_,aj,az h1,goInt]
theorem Ed {s:ByteArray} (ho:o.op=.call {callee:=.builtin .len,args:= #[x],argTypes:= #[t]}) (hx:ev E x=.string s) (h1:P.underlying t=some .string):RD P E F o (.int .i64 s.size):=by simp [RD,execOp,ho,resolve,invoke,builtin,hx,Builtin.len_,aj,az h1,goInt]
theorem Mb {ts:Array TypeId} (ho:o.op=.call {callee:=.builtin .max,args:= #[x,y],argTypes:=ts}) (hx:ev E x=.int k a) (hy:ev E y=.int k b):RD P E F o (.int k (max a b)):=by
 have:(if b>a then b else a)=max a b:=by omega
 simp [RD,execOp,ho,resolve,invoke,builtin,hx,hy,Builtin.max_,Builtin.max2];omega
theorem Mc {ts:Array TypeId} (ho:o.op=.call {callee:=.builtin .min,args:= #[x,y],argTypes:=ts}) (hx:ev E x=.int k a) (hy:ev E y=.int k b):RD P E F o (.int k (min a b)):=by simp [RD,execOp,ho,resolve,invoke,builtin,hx,hy,Builtin.min_,Builtin.min2];omega
theorem Md {ts:Array TypeId} {z:Operand} {c:Int} (ho:o.op=.call {callee:=.builtin .max,args:= #[x,y,z],argTypes:=ts}) (hx:ev E x=.int k a) (hy:ev E y=.int k b) (hz:ev E z=.int k c):RD P E F o (.int k (max (max a b) c)):=by simp [RD,execOp,ho,resolve,invoke,builtin,hx,hy,hz,Builtin.max_,Builtin.max2];omega
theorem Me {ts:Array TypeId} {z:Operand} {c:Int} (ho:o.op=.call {callee:=.builtin .min,args:= #[x,y,z],argTypes:=ts}) (hx:ev E x=.int k a) (hy:ev E y=.int k b) (hz:ev E z=.int k c):RD P E F o (.int k (min (min a b) c)):=by simp [RD,execOp,ho,resolve,invoke,builtin,hx,hy,hz,Builtin.min_,Builtin.min2];omega
end
def kE (d:TypeDesc):Bool:=match d with| .struct _| .array _ _=>true|_=>false
theorem dH {t:Nat} {d:TypeDesc} (h:P.underlying t=some d) (v:Bool):rdo P (isAgg t) F v↔kE d=v:=by unfold isAgg;simp only [aj,az h,exists_eq_left'];cases d<;>simp [kE]
def PH.row (F:PH) (a:Addr) (cs:Γ):Prop:=∀i,(h:i<cs.size)->F.cell (a.add i)=some cs[i]
theorem lL {a:Addr}:∀(n i:Nat) (acc cs:Γ),cs.size=i+n->acc.toList=cs.toList.take i->F.row a cs->rdo P (loadCellsFrom a i n acc) F cs:=by
 intro n;induction n with
 |zero=>intro i acc cs hs ha _;show acc=cs;apply Array.ext';rw [ha,UZ];simp only [U4];omega
 |succ n ih=>
  intro i acc cs hs ha hr;have hi:i<cs.size:=by omega
  simp only [loadCellsFrom,aj];refine ⟨cs[i],⟨_,hr i hi,rfl⟩,?_⟩;refine ih (i+1) _ cs (by omega) ?_ hr;rw [Array.toList_push,ha,Vh (by simpa using hi)];simp
theorem fc {a:Addr} {cs:Γ} (hr:F.row a cs):rdo P (loadCells a cs.size) F cs:=
 lL cs.size 0 #[] cs (by omega) (by simp) hr
theorem HQ {x:Operand} {t:TypeId} {d:TypeDesc} {a:Addr} {v:Value} (ho:o.op=.load t x) (hx:ev E x=.pointer (some a)) (h1:P.underlying t=some d) (h2:kE d=false) (hc:F.cell a=some v):
  RD P E F o v:=by
 simp [RD,execOp,ho,hx,Instr.loadAt,Instr.sureAddr,loadVar,aj,dH h1,h2,load,rdo,hc]
theorem HR {x:Operand} {t:TypeId} {d:TypeDesc} {a:Addr} {cs:Γ} {b:Nat} (ho:o.op=.load t x) (hx:ev E x=.pointer (some a)) (h1:P.underlying t=some d) (h2:kE d=true)
  (h3:tsz P t=some (cs.size,b)) (hr:F.row a cs):RD P E F o (.agg cs):=by
 have:=fc (P:=P) hr;simp [RD,execOp,ho,hx,Instr.loadAt,Instr.sureAddr,loadVar,aj,dH h1,h2,bB h3,this]
theorem qL {a:Addr} {f:Field} {s b:Nat} (h:tsz P f.type=some (s,b)) (hs:s≠0) (v:Addr):rdo P (fieldPlace a f) F v↔a.add f.offset=v:=by simp [fieldPlace,aj,bB h,hs]
theorem xo {x:Operand} {t i:Nat} {a:Addr} {fs:Array Field} {f:Field} {s b:Nat} (ho:o.op=.fieldAddr t x i) (hx:ev E x=.pointer (some a)) (h1:P.underlying t=some (.struct fs))
  (h2:fs[i]? =some f) (h3:tsz P f.type=some (s,b)) (hs:s≠0):RD P E F o (.pointer (some (a.add f.offset))):=by
 simp [RD,execOp,ho,hx,Instr.fieldAt,Instr.sureAddr,aj,az h1,h2,qL h3 hs]
theorem tR {t off:Nat} {d:TypeDesc} {cs:Γ} {v:Value} (h1:P.underlying t=some d) (h2:kE d=false) (hc:cs[off]? =some v):rdo P (part t cs off) F v:=by simp [part,aj,dH h1,h2,hc]
theorem CR {t off s b:Nat} {d:TypeDesc} {cs:Γ} (h1:P.underlying t=some d) (h2:kE d=true) (h3:tsz P t=some (s,b)):rdo P (part t cs off) F (.agg (cs.extract off (off+s))):=by simp [part,aj,dH h1,h2,bB h3]
theorem Ee {x:Operand} {t i:Nat} {cs:Γ} {fs:Array Field} {f:Field} {d:TypeDesc} {v:Value} (ho:o.op=.field t x i) (hx:ev E x=.agg cs) (h1:P.underlying t=some (.struct fs))
  (h2:fs[i]? =some f) (h3:P.underlying f.type=some d) (h4:kE d=false) (hc:cs[f.offset]? =some v):RD P E F o v:=by
 simp only [RD,execOp,ho,hx,Instr.field,aj,az h1,asAgg,cG];exact ⟨v,⟨_,rfl,by simp only [h2,aj,cG,exists_eq_left'];exact tR h3 h4 hc⟩,rfl⟩
theorem Ef {x:Operand} {t i s b:Nat} {cs:Γ} {fs:Array Field} {f:Field} {d:TypeDesc} (ho:o.op=.field t x i) (hx:ev E x=.agg cs) (h1:P.underlying t=some (.struct fs))
  (h2:fs[i]? =some f) (h3:P.underlying f.type=some d) (h4:kE d=true) (h5:tsz P f.type=some (s,b)):RD P E F o (.agg (cs.extract f.offset (f.offset+s))):=by
 simp only [RD,execOp,ho,hx,Instr.field,aj,az h1,asAgg,cG];exact ⟨_,⟨_,rfl,by simp only [h2,aj,cG,exists_eq_left'];exact CR h3 h4 h5⟩,rfl⟩
theorem sM {x y:Operand} {t e' s b:Nat} {base:Addr} {len cap:Nat} {k:IntKind} {i:Int} (ho:o.op=.indexAddr t x y) (hx:ev E x=.slice (some base) len cap) (hy:ev E y=.int k i)
  (h1:P.underlying t=some (.slice e')) (h2:tsz P e'=some (s,b)) (h3:0<=i) (h4:i<len):RD P E F o (.pointer (some (base.add (i.toNat*s)))):=by
 simp [RD,execOp,ho,hx,hy,Instr.indexAt,asIntOf,aj,az h1,h3,h4,bB h2]
theorem sN {x y:Operand} {t e' s b n:Nat} {base:Addr} {k:IntKind} {i:Int} (ho:o.op=.indexAddr t x y) (hx:ev E x=.pointer (some base)) (hy:ev E y=.int k i)
  (h1:P.underlying t=some (.array n e')) (h2:tsz P e'=some (s,b)) (h3:0<=i) (h4:i<n):RD P E F o (.pointer (some (base.add (i.toNat*s)))):=by
 simp [RD,execOp,ho,hx,hy,Instr.indexAt,asIntOf,aj,az h1,h3,h4,bB h2,Instr.sureAddr]
theorem yM {x y:Operand} {t:Nat} {st:ByteArray} {k:IntKind} {i:Int} (ho:o.op=.index t x y) (hx:ev E x=.string st) (hy:ev E y=.int k i)
  (h1:P.underlying t=some .string) (h3:0<=i) (h4:i<st.size):RD P E F o (.int .u8 (st[i.toNat]'(by omega)).toNat):=by
 have h5:i.toNat<st.size:=by omega
 have:st[i.toNat]? =some (st[i.toNat]'h5):=getElem?_pos st i.toNat h5;simp [RD,execOp,ho,hx,hy,Instr.index,asIntOf,aj,az h1,h3,this]
theorem xp {x y:Operand} {t e' n s b:Nat} {cs:Γ} {k:IntKind} {i:Int} {d:TypeDesc} {v:Value} (ho:o.op=.index t x y) (hx:ev E x=.agg cs) (hy:ev E y=.int k i)
  (h1:P.underlying t=some (.array n e')) (h2:tsz P e'=some (s,b)) (hd:P.underlying e'=some d) (hag:kE d=false) (h3:0<=i) (h4:i<n) (hc:cs[i.toNat*s]? =some v):RD P E F o v:=by
 simp only [RD,execOp,ho,hx,hy,Instr.index,asIntOf,aj,az h1,cG];refine ⟨v,⟨(k,i),rfl,.array n e',rfl,?_⟩,rfl⟩;simp only [h3,h4,and_self,if_true,aj,bB h2];exact ⟨_,rfl,tR hd hag hc⟩
theorem cj {k:IntKind} {i:Int} {y:Nat} {c:BoundsCode} (h1:0<=i) (h2:i<=y) (v:Nat):rdo P (Instr.sliceBound (.int k i) y c) F v↔i.toNat=v:=by simp [Instr.sliceBound,asIntOf,h1,h2]
def dI (v:Option Value) (dflt:Nat) (r:Nat):Prop:=(v=none/\r=dflt)\/∃k i,v=some (.int k i)/\0<=i/\i.toNat=r
theorem eY {sl:Bool} {len cap:Nat} {lo hi:Option Value} {l h:Nat} (hh:dI hi len h) (hl:dI lo 0 l) (h1:l<=h) (h2:h<=cap) (v:Nat×Nat×Nat):
  rdo P (Instr.sliceBounds sl len cap lo hi none) F v↔(l,h,cap)=v:=by
 rcases hh with ⟨rfl,rfl⟩|⟨k,i,rfl,hi0,rfl⟩<;>rcases hl with ⟨rfl,rfl⟩|⟨k',j,rfl,hj0,rfl⟩
 ·simp [Instr.sliceBounds]
 ·have e2:∀c x,rdo P (Instr.sliceBound (.int k' j) h c) F x↔j.toNat=x:=λc x=>cj hj0 (by omega) x;cases sl<;>simp [Instr.sliceBounds,e2]
 ·have e1:∀c x,rdo P (Instr.sliceBound (.int k i) cap c) F x↔i.toNat=x:=λc x=>cj hi0 (by omega) x;cases sl<;>simp [Instr.sliceBounds,e1]
 ·have e1:∀c x,rdo P (Instr.sliceBound (.int k i) cap c) F x↔i.toNat=x:=λc x=>cj hi0 (by omega) x;have e2:∀c x,rdo P (Instr.sliceBound (.int k' j) i.toNat c) F x↔j.toNat=x:=λc x=>cj hj0 (by omega) x;cases sl<;>simp [Instr.sliceBounds,aj,e1,e2]
theorem nr {sl:Bool} {len cap:Nat} {lo:Option Value} {k k':IntKind} {i m:Int} {l:Nat} (hl:dI lo 0 l) (h0:0<=i) (hm0:0<=m) (h1:l<=i.toNat) (h2:i<=m) (h3:m<=cap) (v:Nat×Nat×Nat):
  rdo P (Instr.sliceBounds sl len cap lo (some (.int k i)) (some (.int k' m))) F v↔(l,i.toNat,m.toNat)=v:=by
 have e1:∀c x,rdo P (Instr.sliceBound (.int k' m) cap c) F x↔m.toNat=x:=λc x=>cj hm0 h3 x;have e2:∀c x,rdo P (Instr.sliceBound (.int k i) m.toNat c) F x↔i.toNat=x:=λc x=>cj h0 (by omega) x;rcases hl with ⟨rfl,rfl⟩|⟨k'',j,rfl,hj0,rfl⟩
 ·cases sl<;>simp [Instr.sliceBounds,aj,e1,e2]
 ·have e3:∀c x,rdo P (Instr.sliceBound (.int k'' j) i.toNat c) F x↔j.toNat=x:=λc x=>cj hj0 (by omega) x;cases sl<;>simp [Instr.sliceBounds,aj,e1,e2,e3]
def Sl.cut (s:Sl) (size l h m:Nat):Sl:=⟨if m=l then s.base else s.base.map (·.add (l*size)),h - l,m - l⟩
theorem CS {x:Operand} {lo hi:Option Operand} {t e' size b:Nat} {s:Sl} {l h:Nat} (ho:o.op=.slice t x lo hi none) (hx:ev E x=s.v) (h1:P.underlying t=some (.slice e')) (h2:tsz P e'=some (size,b))
  (hl:dI (lo.map (ev E)) 0 l) (hh:dI (hi.map (ev E)) s.len h) (h3:l<=h) (h4:h<=s.cap):RD P E F o (s.cut size l h s.cap).v:=by
 have:=eY (P:=P) (F:=F) (sl:=true) hh hl h3 h4;simp [RD,execOp,ho,hx,Instr.sliceAt,Instr.slice,Sl.v,Sl.cut,aj,az h1,bB h2,this]
theorem yN {x hi mx:Operand} {lo:Option Operand} {t e' size b:Nat} {s:Sl} {l:Nat} {k k':IntKind} {i m:Int} (ho:o.op=.slice t x lo (some hi) (some mx)) (hx:ev E x=s.v) (h1:P.underlying t=some (.slice e')) (h2:tsz P e'=some (size,b))
  (hl:dI (lo.map (ev E)) 0 l) (hi':ev E hi=.int k i) (hm:ev E mx=.int k' m) (h0:0<=i) (hm0:0<=m) (h3:l<=i.toNat) (h4:i<=m) (h5:m<=s.cap):RD P E F o (s.cut size l i.toNat m.toNat).v:=by
 have:=nr (P:=P) (F:=F) (sl:=true) (len:=s.len) (k:=k) (k':=k') hl h0 hm0 h3 h4 h5;simp [RD,execOp,ho,hx,Instr.sliceAt,Instr.slice,Sl.v,Sl.cut,aj,az h1,bB h2,hi',hm,this]
theorem tS {x:Operand} {lo hi:Option Operand} {t e' size b n:Nat} {a:Addr} {l h:Nat} (ho:o.op=.slice t x lo hi none) (hx:ev E x=.pointer (some a)) (h1:P.underlying t=some (.array n e')) (h2:tsz P e'=some (size,b))
  (hl:dI (lo.map (ev E)) 0 l) (hh:dI (hi.map (ev E)) n h) (h3:l<=h) (h4:h<=n):RD P E F o (Sl.cut ⟨some a,n,n⟩ size l h n).v:=by
 have:=eY (P:=P) (F:=F) (sl:=false) hh hl h3 h4;simp [RD,execOp,ho,hx,Instr.sliceAt,Instr.sureAddr,Sl.v,Sl.cut,aj,az h1,bB h2,this];split<;>rfl
theorem yO {x:Operand} {lo hi:Option Operand} {t:Nat} {s:ByteArray} {l h:Nat} (ho:o.op=.slice t x lo hi none) (hx:ev E x=.string s) (h1:P.underlying t=some .string)
  (hl:dI (lo.map (ev E)) 0 l) (hh:dI (hi.map (ev E)) s.size h) (h3:l<=h) (h4:h<=s.size):RD P E F o (.string (s.extract l h)):=by
 have:=eY (P:=P) (F:=F) (sl:=false) hh hl h3 h4;simp [RD,execOp,ho,hx,Instr.sliceAt,Instr.slice,aj,az h1,this]
end
section
variable {P:Program} {F:PH} {E:En} {o:Oper} {K:En->Ψ}
def lM (P:Program) (fs:Array Field):Array (Nat×Nat):=fs.map λf=>(f.offset,P.cellsOf f.type)
def jo (P:Program) (fs:Array Field):Bool:=fs.all λf=>(P.info? f.type).isSome
theorem xq {t:Nat} (h:(P.info? t).isSome=true):rdo P (sizeOf t) F (P.cellsOf t):=by
 cases hi:P.info? t with
 |none=>simp [hi] at h
 |some i=>
  have:tsz P t=some (i.size,i.bytes):=by simp [tsz,hi]
  rw [bB this];simp [Program.cellsOf,hi]
theorem ki {α β:Type} (f:α->Sem β) (g:α->β):∀(l:List α),(∀x∈l,rdo P (f x) F (g x))->rdo P (l.mapM f) F (l.map g)
 |[],_=>by simp
 |x::l,h=>by have h1:=h x (VY ..);have h2:=ki f g l λy hy=>h y (Ve _ hy);simp only [List.mapM_cons,aj,Vi];exact ⟨_,h1,_,h2,rfl⟩
theorem yP {fs:Array Field} (h:jo P fs=true):rdo P (fs.mapM λf=>do pure (f.offset,<- sizeOf f.type)) F (lM P fs):=by
 have hall:∀f∈fs.toList,(P.info? f.type).isSome=true:=by intro f hf;have:=Array.all_eq_true_iff_forall_mem.1 h f (by simpa using hf);exact this
 rw [Array.mapM_eq_mapM_toList];have:=ki (P:=P) (F:=F) (λf:Field=>(do pure (f.offset,<- sizeOf f.type):Sem (Nat×Nat))) (λf=>(f.offset,P.cellsOf f.type)) fs.toList
  (λf hf=>by simp only [aj];exact ⟨_,xq (hall f hf),rfl⟩)
 refine (Ig _ _ _ _).2 ⟨_,this,?_⟩;apply Array.ext';simp [lM]
theorem sO {t:Nat} {parts:Array (Nat×Operand)} {fs:Array Field} {z:Value} {vs:List (Nat×Value)} {cells:Γ} (ho:o.op=.build t parts) (h1:P.underlying t=some (.struct fs)) (hz:bP P t=some z)
  (hk:jo P fs=true) (hv:(parts.map λ(i,x)=>(i,ev E x)).toList=vs) (hf:Instr.fill (λi=>(lM P fs)[i]?) z.cells vs=some cells):RD P E F o (.agg cells):=by
 simp only [RD,execOp,ho,aj,Instr.build,cG];refine ⟨_,⟨_,(gC hz _).2 rfl,_,(az h1 _).2 rfl,?_⟩,rfl⟩;simp only [aj];refine ⟨_,by have:=yP (P:=P) (F:=F) hk;simpa [aj] using this,?_⟩;rw [hv,hf];rfl
theorem u0 {t n e' s b:Nat} {parts:Array (Nat×Operand)} {z:Value} {vs:List (Nat×Value)} {cells:Γ} (ho:o.op=.build t parts) (h1:P.underlying t=some (.array n e')) (hz:bP P t=some z)
  (h2:tsz P e'=some (s,b)) (hv:(parts.map λ(i,x)=>(i,ev E x)).toList=vs) (hf:Instr.fill (λi=>some (i*s,s)) z.cells vs=some cells):RD P E F o (.agg cells):=by
 simp only [RD,execOp,ho,aj,Instr.build,cG];refine ⟨_,⟨_,(gC hz _).2 rfl,_,(az h1 _).2 rfl,?_⟩,rfl⟩;simp only [aj,bB h2,exists_eq_left'];rw [hv,hf];rfl
theorem HS {t:Nat} {z:Value} (ho:o.op=.alloc t) (hz:bP P t=some z) (h:∀b,F b=none->K (cQ E o.dst (.pointer (some ⟨b,0,none⟩))) (F.set b (.cells z.cells t))):
  aG P (execOp (ev E) o) F (bO P K o E):=by
 simp only [execOp,ho,Instr.alloc,aA,eK hz,aN,bO,newVar,newRow,newObj];exact h
theorem Eh {t:Nat} {x:Operand} {v:Value} (ho:o.op=.box t x) (hx:ev E x=v) (h:∀b,F b=none->K (cQ E o.dst (.pointer (some ⟨b,0,none⟩))) (F.set b (.cells v.cells t))):
  aG P (execOp (ev E) o) F (bO P K o E):=by
 simp only [execOp,ho,Instr.box,aA,aN,bO,newVar,newRow,newObj,hx];exact h
theorem ip {t e' s b n:Nat} {parts:Array (Nat×Operand)} {z:Value} {vs:List (Nat×Value)} {cells:Γ} (ho:o.op=.buildSlice t n parts) (h1:P.underlying t=some (.slice e')) (h2:tsz P e'=some (s,b))
  (hn:n*s<=16777216) (hz:bP P e'=some z) (hv:(parts.map λ(i,x)=>(i,ev E x)).toList=vs) (hf:Instr.fill (λi=>some (i*s,s)) (Builtin.zeroCells z.cells n) vs=some cells) (hs:n*s=n*z.cells.size)
  (h:∀b,F b=none->K (cQ E o.dst (.slice (some ⟨b,0,none⟩) n n)) (F.set b (.cells cells e'))):
  aG P (execOp (ev E) o) F (bO P K o E):=by
 simp only [execOp,ho,Instr.buildSlice,aA,bW h1,fo h2];rw [if_neg (by omega)];by_cases h0:n*s=0
 ·have hzz:(Array.range (n*s)).map (λi=>(#[]:Γ)[i % (#[]:Γ).size]!)=Builtin.zeroCells z.cells n:=by simp [Builtin.zeroCells,h0,<- hs]
  rw [if_pos h0];simp only [aA,aN];rw [hzz,hv,hf];simp only [aA,aN,newRow,newObj,bO];exact h
 ·have hzz:(Array.range (n*s)).map (λi=>z.cells[i % z.cells.size]!)=Builtin.zeroCells z.cells n:=by simp [Builtin.zeroCells,hs]
  rw [if_neg h0];simp only [aA,eK hz,aN];rw [hzz,hv,hf];simp only [aA,aN,newRow,newObj,bO];exact h
def wr (c:Γ) (off:Nat):Ξ->Γ
 |[]=>c
 |v::vs=>wr (c.setIfInBounds off v) (off+1) vs
theorem dW (vs:Ξ):∀(c:Γ) (off:Nat),(wr c off vs).size=c.size:=by
 induction vs with
 |nil=>intro c off;rfl
 |cons v vs ih=>intro c off;simp [wr,ih]
theorem u6 (vs:Ξ):∀(c:Γ) (off i:Nat),off+vs.length<=c.size->(wr c off vs)[i]? =if off<=i/\i<off+vs.length then vs[i - off]? else c[i]? :=by
 induction vs with
 |nil=>intro c off i _;simp [wr];omega
 |cons v vs ih=>
  intro c off i h;simp only [Vf] at h;rw [wr,ih _ _ _ (by simp;omega),Array.getElem?_setIfInBounds];by_cases h1:off=i
  ·subst h1;rw [if_neg (by omega),if_pos rfl,if_pos (by omega),if_pos (by simp)];simp
  ·by_cases h2:off+1<=i/\i<off+1+vs.length
   ·rw [if_pos h2,if_pos (by simp;omega)];rw [show i - off=(i - (off+1))+1 by omega,VG]
   ·rw [if_neg h2,if_neg h1,if_neg (by simp;omega)]
theorem AY (F:PH) (b:Nat) (o o':Obj):(F.set b o).set b o'=F.set b o':=by funext x;unfold PH.set;split<;>rfl
theorem HT (F:PH) (b:Nat) (o:Obj):(F.set b o) b=some o:=by simp [PH.set]
theorem yQ (F:PH) {b x:Nat} (o:Obj) (h:x≠b):(F.set b o) x=F x:=by simp [PH.set,h]
theorem fF {e':TypeId}:∀(vs:Ξ) (i:Nat) (F:PH) (a:Addr) (c:Γ) (Q:Unit->Ψ),a.spot=none->F a.block=some (.cells c e' (0,0))->a.off+i+vs.length<=c.size->
  (∀v∈vs,ak v)->vs≠[]->Q () (F.set a.block (.cells (wr c (a.off+i) vs) e'))->aG P (storeCells a vs i) F Q:=by
 intro vs;induction vs with
 |nil=>intro i F a c Q _ _ _ _ h;exact absurd rfl h
 |cons v vs ih=>
  intro i F a c Q hsp hb hl hst _ hq;simp only [Vf] at hl;have hoff:(a.add i).off=a.off+i:=by unfold Addr.add;split<;>simp_all
  have hblk:(a.add i).block=a.block:=by unfold Addr.add;split<;>rfl
  have hspo:(a.add i).spot=none:=by unfold Addr.add;split<;>simp_all
  simp only [storeCells,aA,store,aG];refine ⟨hst v (VY ..),c,e',(0,0),by rw [hblk];exact hb,hspo,by rw [hoff];omega,by simp [frz],?_⟩;rw [hblk,hoff];cases vs with
  |nil=>exact hq
  |cons u us=>refine ih (i+1) _ a (c.setIfInBounds (a.off+i) v) Q hsp (HT _ _ _) (by simp;simp at hl;omega) (λx hx=>hst x (Ve _ hx)) (by simp) ?_;rw [AY];exact hq
theorem Ei {t:Nat} {x y:Operand} {a:Addr} {v:Value} {c:Γ} {e' s b:Nat} (ho:o.op=.store t x y) (hx:ev E x=.pointer (some a)) (hy:ev E y=v) (hsz:tsz P t=some (s,b)) (h1:v.cells= #[v]) (hs:s=1) (hst:ak v)
  (hsp:a.spot=none) (hb:F a.block=some (.cells c e' (0,0))) (hl:a.off<c.size) (h:K (cQ E o.dst undef) (F.set a.block (.cells (c.setIfInBounds a.off v) e'))):
  aG P (execOp (ev E) o) F (bO P K o E):=by
 subst hs;simp only [execOp,ho,hx,hy,Instr.storeAt,Instr.sureAddr,aA,aN,storeVar,fo hsz,h1];simp only [Wx,Vf,List.length_nil,ne_eq,Vd,not_true_eq_false,if_false];refine fF [v] 0 F a c _ hsp hb (by simp;omega) (by simpa using hst) (by simp) ?_;exact h
theorem Ej {t:Nat} {x y:Operand} {a:Addr} {vs c:Γ} {e' s b:Nat} (ho:o.op=.store t x y) (hx:ev E x=.pointer (some a)) (hy:ev E y=.agg vs) (hsz:tsz P t=some (s,b)) (hs:vs.size=s) (hst:∀v∈vs.toList,ak v)
  (h0:vs.toList≠[]) (hsp:a.spot=none) (hb:F a.block=some (.cells c e' (0,0))) (hl:a.off+s<=c.size) (h:K (cQ E o.dst undef) (F.set a.block (.cells (wr c a.off vs.toList) e'))):
  aG P (execOp (ev E) o) F (bO P K o E):=by
 subst hs;simp only [execOp,ho,hx,hy,Instr.storeAt,Instr.sureAddr,aA,aN,storeVar,fo hsz,Value.cells];simp only [ne_eq,not_true_eq_false,if_false];exact fF vs.toList 0 F a c _ hsp hb (by simpa using hl) hst h0 h
def aE (P:Program) (f:FuncId):Bool:=match P.funcs[f]? with|some fn=> !(fn.name== "runtime.NumGoroutine") && fn.body.isSome|none=>false
theorem kj {f:FuncId} {args:Γ} {Q:Next->Ψ} (hc:aE P f=true) (h:Q (.enter f args) F):aG P (callFunc f args) F Q:=by
 unfold aE at hc;cases hf:P.funcs[f]? with
 |none=>simp [hf] at hc
 |some fn=>
  simp only [hf,VB,Bool.not_eq_true'] at hc;simp only [callFunc,aA,program,aG,hf,hc.1];have:fn.body.isNone=false:=by cases hb:fn.body<;>simp_all
  simp only [this,Vu,if_false,aN];exact h
theorem Mf {f:FuncId} {args:Array Operand} {ts:Array TypeId} {vs:Γ} (ho:o.op=.call {callee:=.value (.func f),args:=args,argTypes:=ts}) (hc:aE P f=true) (hv:args.map (ev E)=vs)
  (h:ai P f vs F λv F'=>K (cQ E o.dst v) F'):aG P (execOp (ev E) o) F (bO P K o E):=by
 simp only [execOp,ho,resolve,ev,Deferred.ofValue,aA,aN,invoke];refine kj hc ?_;rw [show args.map (λx=>ev E x)=vs from hv];simpa [bO] using h
theorem AZ {f:FuncId} {g:Operand} {args:Array Operand} {ts:Array TypeId} {vs first captured:Γ} (ho:o.op=.call {callee:=.value g,args:=args,argTypes:=ts}) (hg:ev E g=.func (.func f) first captured) (hc:aE P f=true) (hv:args.map (ev E)=vs)
  (h:ai P f (first++vs++captured) F λv F'=>K (cQ E o.dst v) F'):aG P (execOp (ev E) o) F (bO P K o E):=by
 simp only [execOp,ho,resolve,hg,Deferred.ofValue,aA,aN,invoke];refine kj hc ?_;rw [show args.map (λx=>ev E x)=vs from hv];exact h
theorem HU {f:FuncId} {g:Operand} {args:Array Operand} {ts:Array TypeId} {vs first captured:Γ} (ho:o.op=.defer {callee:=.value g,args:=args,argTypes:=ts}) (hg:ev E g=.func (.func f) first captured) (hv:args.map (ev E)=vs)
  (hi:yT P ⟨.fn (.func f) captured,first++vs⟩) (h:K (cQ E o.dst undef) F):aG P (execOp (ev E) o) F (bO P K o E):=by
 simp only [execOp,ho,resolve,hg,Deferred.ofValue,aA,aN];rw [show args.map (λx=>ev E x)=vs from hv];exact ⟨hi,h⟩
theorem Ek {x y:Operand} {ts:Array TypeId} {s u:Value} (ho:o.op=.call {callee:=.builtin .append,args:= #[x,y],argTypes:=ts}) (hx:ev E x=s) (hy:ev E y=u)
  (h:aG P (Builtin.append_ ts o.type #[s,u]) F λv F'=>K (cQ E o.dst v) F'):aG P (execOp (ev E) o) F (bO P K o E):=by
 simp [execOp,ho,resolve,hx,hy,invoke,builtin,bO];exact h
theorem Mg {x y:Operand} {ts:Array TypeId} {s u:Value} (ho:o.op=.call {callee:=.builtin .copy,args:= #[x,y],argTypes:=ts}) (hx:ev E x=s) (hy:ev E y=u)
  (h:aG P (Builtin.copy_ ts o.type #[s,u]) F λv F'=>K (cQ E o.dst v) F'):aG P (execOp (ev E) o) F (bO P K o E):=by
 simp [execOp,ho,resolve,hx,hy,invoke,builtin,bO];exact h
theorem xr {t:TypeId} {x y:Operand} {u v:Value} (ho:o.op=.makeSlice t x y) (hx:ev E x=u) (hy:ev E y=v)
  (h:aG P (Instr.makeSlice t u v) F λv F'=>K (cQ E o.dst v) F'):aG P (execOp (ev E) o) F (bO P K o E):=by
 simp [execOp,ho,hx,hy,bO];exact h
theorem yR {t:TypeId} (ho:o.op=.makeMap t none) (h:∀b,F b=none->K (cQ E o.dst (.map (some b))) (F.set b (.map #[] 0))):
  aG P (execOp (ev E) o) F (bO P K o E):=by
 simp only [execOp,ho,Instr.makeMap,Option.map_none,newObj,aA,aN,aG,bO];exact h
theorem ox {t:TypeId} {x y z:Operand} {u v q:Value} (ho:o.op=.mapUpdate t x y z) (hx:ev E x=u) (hy:ev E y=v) (hz:ev E z=q)
  (h:aG P (Instr.mapUpdate t u v q) F λ_ F'=>K (cQ E o.dst undef) F'):aG P (execOp (ev E) o) F (bO P K o E):=by
 simp only [execOp,ho,hx,hy,hz,aA,aN,bO];exact h
theorem xu {t:TypeId} {x y:Operand} {u v r:Value} {ok:Bool} (ho:o.op=.lookup t x y ok) (hx:ev E x=u) (hy:ev E y=v) (h:rdo P (Instr.lookup t u v ok) F r):RD P E F o r:=by simp only [RD,execOp,ho,hx,hy,aj,cG];exact ⟨r,h,rfl⟩
end
def atF (F:PH) (K:Ψ):Prop:=K F
theorem atE {F:PH} {K:Ψ} (h:atF F K):K F:=h
theorem atI {F:PH} {K:Ψ} (h:K F):atF F K:=h
section
variable {P:Program} {n:Nat} {Q:Exit->En->Ψ} {E:En} {F:PH} {ops:Array Oper} {l:List Oper} {d:Tmp} {op:Op} {ty:TypeId} {pos:String} {aft:Array Edge} {v:Value} {gd:Option (Nat×Bool)}
theorem xv {t:Nat} (h:E t=v):upd E t v=E:=by
 funext x;unfold upd;by_cases hx:x=t
 ·subst hx;have:Nat.beq x x=true:=by simp
  rw [this];exact h.symm
 ·rw [kH hx];rfl
theorem El {c:Operand} {x y:Code} (hc:ev E c=.bool true) (h:HC P n x Q E F):HC P n (.cond c x y) Q E F:=pf hc (λ_=>h) (λh=>by cases h)
theorem Em {c:Operand} {x y:Code} (hc:ev E c=.bool false) (h:HC P n y Q E F):HC P n (.cond c x y) Q E F:=pf hc (λh=>by cases h) (λ_=>h)
section
variable {K:En->Ψ}
theorem JF {place:Nat->Option (Nat×Nat)} {cells r:Γ} {i off:Nat} {v:Value} {rest:List (Nat×Value)} (hp:place i=some (off,1)) (hv:v.cells= #[v]) (ho:Nat.blt off cells.size=true)
  (h:Instr.fill place (cells.setIfInBounds off v) rest=some r):Instr.fill place cells ((i,v)::rest)=some r:=by
 have ho':off<cells.size:=Wt ho;simp only [Instr.fill,hp,hv];simp only [Wx,Vf,List.length_nil];rw [if_neg (by simp;omega)];simpa using h
theorem Eo (vs:Ξ):∀(c:Γ) (off k:Nat),(vs.zipIdx k).foldl (λcs (x:Value×Nat)=>cs.setIfInBounds (off+x.2) x.1) c=wr c (off+k) vs:=by
 induction vs with
 |nil=>intro c off k;rfl
 |cons v vs ih=>intro c off k;simp only [List.zipIdx_cons,List.foldl_cons,wr];rw [ih];rfl
theorem JG {place:Nat->Option (Nat×Nat)} {cells cs r:Γ} {i off s:Nat} {rest:List (Nat×Value)} (hp:place i=some (off,s)) (hs:cs.size=s) (ho:Nat.ble (off+s) cells.size=true)
  (h:Instr.fill place (wr cells off cs.toList) rest=some r):Instr.fill place cells ((i,.agg cs)::rest)=some r:=by
 have ho':off+s<=cells.size:=Wt ho;subst hs;have e:cs.zipIdx.foldl (λcs (x:Value×Nat)=>cs.setIfInBounds (off+x.2) x.1) cells=wr cells off cs.toList:=by have:=Eo cs.toList cells off 0;rw [<- Array.foldl_toList];simpa using this
 unfold Instr.fill;rw [hp];show (if (decide (cs.size≠cs.size) || decide (off+cs.size>cells.size))=true then none else Instr.fill place (cs.zipIdx.foldl (λcs (x:Value×Nat)=>cs.setIfInBounds (off+x.2) x.1) cells) rest)=some r;rw [e,if_neg (by simp;omega)];exact h
theorem pe (z:Γ) (hz:Nat.blt 0 z.size=true):∀n,Builtin.zeroCells z n=((List.replicate n z.toList).flatten).toArray:=by
 have hz':0<z.size:=Wt hz;intro n;apply Array.ext';apply List.ext_getElem
 ·simp [Builtin.zeroCells,List.length_flatten]
 ·intro i h1 h2;simp only [Builtin.zeroCells,Array.toList_map,Array.toList_range,List.getElem_map,List.getElem_range];have key:∀n i (h:i<((List.replicate n z.toList).flatten).length),((List.replicate n z.toList).flatten)[i]=z[i % z.size]! :=by
   intro n;induction n with
   |zero=>intro i h;simp at h
   |succ n ih=>
    intro i h;have e:(List.replicate (n+1) z.toList).flatten=z.toList++(List.replicate n z.toList).flatten:=by simp [List.replicate_succ]
    by_cases hi:i<z.size
    ·have:((List.replicate (n+1) z.toList).flatten)[i]=z.toList[i]'(by simpa using hi):=by simp only [e];rw [List.getElem_append_left]
     rw [this,Nat.mod_eq_of_lt hi];simp [hi]
    ·have hl:i - z.size<((List.replicate n z.toList).flatten).length:=by simp [List.length_flatten,Wy] at h ⊢;omega
     have:((List.replicate (n+1) z.toList).flatten)[i]=((List.replicate n z.toList).flatten)[i - z.size]:=by simp only [e];rw [List.getElem_append_right (by simpa using hi)];simp
     have hm:i % z.size=(i - z.size) % z.size:=Nat.mod_eq_sub_mod (by omega);rw [this,ih _ hl,hm]
  exact (key n i (by simpa using h2)).symm
theorem CT {z:Value} {cs:Γ} {s:Nat} (hs:cs.size=s) (hz:z.cells.size=s) (h0:Nat.blt 0 s=true):Instr.fill (λi=>some (i*s,s)) (Builtin.zeroCells z.cells 1) [(0,.agg cs)]=some cs:=by
 have h1:Nat.blt 0 z.cells.size=true:=by rw [hz];exact h0
 rw [pe _ h1];have e:((List.replicate 1 z.cells.toList).flatten).toArray=z.cells:=by simp
 rw [e];refine JG (off:=0*s) rfl hs (by rw [hz];simp) ?_;have hw:wr z.cells 0 cs.toList=cs:=by
  apply Array.ext
  ·rw [dW,hz,hs]
  ·intro i h1 h2;have:=u6 cs.toList z.cells 0 i (by simp [hz,hs]);rw [if_pos (by simp;omega)] at this;simp only [We] at this;rw [Vk h1] at this;simp at this;rw [Vk h2] at this;exact Vl this
 rw [show 0*s=0 by omega,hw];rfl
def HV:Ξ->Prop
 |[]=>True
 |v::l=>v.cells= #[v]/\HV l
def A0 (k:Nat):Ξ->List (Nat×Value)
 |[]=>[]
 |v::l=>(k,v)::A0 (k+1) l
theorem CU:∀(l:Ξ) (k:Nat) (cells:Γ),HV l->k+l.length<=cells.size->Instr.fill (λi=>some (i*1,1)) cells (A0 k l)=some (wr cells k l):=by
 intro l;induction l with
 |nil=>intro k cells _ _;rfl
 |cons v l ih=>intro k cells ho hl;simp only [Vf] at hl;refine JF (off:=k) (by simp) ho.1 (Nat.ble_eq_true_of_le (by omega)) ?_;exact ih (k+1) _ ho.2 (by simp;omega)
theorem HW {z:Value} {l:Ξ} {m:Nat} {cells0:Γ} (hm:l.length=m) (h0:Builtin.zeroCells z.cells m=cells0) (hz:z.cells.size=1) (ho:HV l):Instr.fill (λi=>some (i*1,1)) cells0 (A0 0 l)=some l.toArray:=by
 subst hm;subst h0;have hs:(Builtin.zeroCells z.cells l.length).size=l.length:=by simp [Builtin.zeroCells,hz]
 rw [CU l 0 _ ho (by rw [hs];omega)];congr 1;apply Array.ext
 ·rw [dW,hs];simp
 ·intro i h1 h2;have:=u6 l (Builtin.zeroCells z.cells l.length) 0 i (by rw [hs];omega);rw [if_pos (by simp at h2;omega)] at this;simp only [We] at this;rw [Vk h1] at this;simp at h2;rw [N5 h2] at this;simpa using Vl this
end
theorem JH {x:Operand} {k:IntKind} {i:Int} {m:Nat} (hx:ev E x=.int k i) (h:0<=i):dI (Option.map (ev E) (some x)) m i.toNat:=.inr ⟨k,i,by simp [hx],h,rfl⟩
theorem u7 {m:Nat}:dI none m m:=.inl ⟨rfl,rfl⟩
theorem JI:fZ [] F:=λ_ h=>by cases h
theorem JJ {i:Nat} {S:World->Prop} {Sp:co} (h:yW F S) (hh:fZ Sp F):fZ ((i,S)::Sp) F:=λr hr=>by
 rcases UT.1 hr with rfl|hr
 ·exact h
 ·exact hh r hr
theorem JK {tmps:Γ} {t:Nat} {v u:Value} (h:Array.getD tmps t undef=v) (hv:v=u):tmps[t]?.getD undef=u:=by rw [<- V3,h,hv]
theorem Ep {t s:Nat} {dd:TypeDesc} {a:Addr} {cs:Γ} {b:Nat} {e:Ev} {w:World} (st:Sat e w F) (h1:P.underlying t=some dd) (h2:kE dd=true) (h3:tsz P t=some (s,b)) (hs:cs.size=s) (hr:F.row a cs):
  (loadVar t a).run P w=.ok (.agg cs) w:=by
 subst hs;refine pg _ F w _ ?_ st;simp [loadVar,aj,dH h1,h2,bB h3,fc hr]
theorem CV {t:TypeId} {dd:TypeDesc} {a:Addr} {e:Ev} {w:World} (st:Sat e w F) (h1:P.underlying t=some dd) (h2:kE dd=false) (hr:F.cell a=some v):
  (loadVar t a).run P w=.ok v w:=by
 refine pg _ F w _ ?_ st;simp [loadVar,aj,dH h1,h2,load,rdo,hr]
def kF (P:Program) (E:En) (F:PH):ResultVar->Value->Prop
 | .tmp t,v=>E t=v
 | .cell x t,v=>∃a,E x=.pointer (some a)/\∀e w,Sat e w F->(loadVar t a).run P w=.ok v w
theorem u9 {t:Tmp} {v:Value} (hv:E t=v):kF P E F (.tmp t) v:=hv
theorem Er {x:Tmp} {t s:Nat} {dd:TypeDesc} {a:Addr} {cs:Γ} {b:Nat} (hx:E x=.pointer (some a)) (h1:P.underlying t=some dd) (h2:kE dd=true) (h3:tsz P t=some (s,b)) (hs:cs.size=s) (hr:F.row a cs):
  kF P E F (.cell x t) (.agg cs):=⟨a,hx,λ_ _ st=>Ep st h1 h2 h3 hs hr⟩
theorem Es {x:Tmp} {t:Nat} {dd:TypeDesc} {a:Addr} {v:Value} (hx:E x=.pointer (some a)) (h1:P.underlying t=some dd) (h2:kE dd=false) (hr:F.cell a=some v):
  kF P E F (.cell x t) v:=⟨a,hx,λ_ _ st=>CV st h1 h2 hr⟩
theorem gB {r:ResultVar} {v:Value} (h:kF P E F r v) {e:Ev} {w:World} {tmps:Γ} (st:Sat e w F) (ht:∀t:Nat,Array.getD tmps t undef=E t):
  (∃t,r=.tmp t/\tmps[t]?.getD undef=v)\/∃x t a,r=.cell x t/\tmps[x]?.getD undef=.pointer (some a)/\(loadVar t a).run P w=.ok v w:=by
 cases r with
 |tmp t=>exact .inl ⟨t,rfl,JK (ht t) h⟩
 |cell x t=>obtain ⟨a,h1,h2⟩:=h;exact .inr ⟨x,t,a,rfl,JK (ht x) h1,h2 e w st⟩
theorem S6 {fn:Func} (h:fn.results= #[]):qM P fn E F (.tuple #[]):=λe w tmps _ _=>by simp [results,h]
theorem Oh {fn:Func} {r:ResultVar} {v:Value} (h:fn.results= #[r]) (hv:kF P E F r v):qM P fn E F v:=λe w tmps st ht=>by have k:=gB hv st ht;clear ht hv;rcases k with ⟨t,rfl,h1⟩|⟨x,t,a,rfl,h1,h2⟩<;>simp [results,asAddr, *]
theorem Oi {fn:Func} {r r':ResultVar} {v v':Value} (h:fn.results= #[r,r']) (hv:kF P E F r v) (hv':kF P E F r' v'):qM P fn E F (.tuple #[v,v']):=λe w tmps st ht=>by have k:=gB hv st ht;have k':=gB hv' st ht;clear ht hv hv';rcases k with ⟨t,rfl,h1⟩|⟨x,t,a,rfl,h1,h2⟩<;>rcases k' with ⟨t',rfl,h3⟩|⟨x',t',a',rfl,h3,h4⟩<;>simp [results,asAddr, *]
theorem S7 {fn:Func} {r r' r'':ResultVar} {v v' v'':Value} (h:fn.results= #[r,r',r'']) (hv:kF P E F r v) (hv':kF P E F r' v') (hv'':kF P E F r'' v''):qM P fn E F (.tuple #[v,v',v'']):=λe w tmps st ht=>by have k:=gB hv st ht;have k':=gB hv' st ht;have k'':=gB hv'' st ht;clear ht hv hv' hv'';rcases k with ⟨t,rfl,h1⟩|⟨x,t,a,rfl,h1,h2⟩<;>rcases k' with ⟨t',rfl,h3⟩|⟨x',t',a',rfl,h3,h4⟩<;>rcases k'' with ⟨t'',rfl,h5⟩|⟨x'',t'',a'',rfl,h5,h6⟩<;>simp [results,asAddr, *]
theorem rt1 (fn:Func) (R:Value->Ψ) {t:Tmp} {v:Value} (h1:fn.results= #[.tmp t]) (h2:E t=v) (h:R v F):Ia P fn R .ret E F:=⟨v,Oh h1 (u9 h2),h⟩
theorem rt2 (fn:Func) (R:Value->Ψ) {t t':Tmp} {v v':Value} (h1:fn.results= #[.tmp t,.tmp t']) (h2:E t=v) (h3:E t'=v') (h:R (.tuple #[v,v']) F):Ia P fn R .ret E F:=⟨_,Oi h1 (u9 h2) (u9 h3),h⟩
theorem kG {k:IntKind} {x:Int}:ak (.int k x):=⟨(λ_ h=>by cases h),(λ_ h=>by cases h)⟩
theorem Et {x:Sl}:ak x.v:=⟨(λ_ h=>by cases h),(λ_ h=>by cases h)⟩
end
end Go.Proofs.YtcemhghkipgdiaaGreatDoor
