/-
  A program logic over partial heaps. Part 5: operations that write or make memory, and calls.
-/
import Derived.Test.YtcemhghkipgdiaaGreatDoorPhc
namespace Go.Proofs.YtcemhghkipgdiaaGreatDoor
open Go
structure Sl where
 base:Θ
 len:Nat
 cap:Nat
def Sl.v (s:Sl):Value:=.slice s.base s.len s.cap
def Sl.nil:Sl:=⟨none,0,0⟩
theorem aO {x:Int} (h1: -9223372036854775808<=x) (h2:x<=9223372036854775807):IntKind.i64.wrap x=x:=by
 have e:IntKind.i64.wrap x=if x % 18446744073709551616≥9223372036854775808 then x % 18446744073709551616 - 18446744073709551616 else x % 18446744073709551616:=by unfold IntKind.wrap;simp [IntKind.bits,IntKind.signed]
 rw [e];split<;>omega
section
variable {P:Program} {F:PH} {E:En} {o:Oper}
theorem Kf {x:Operand} {v:Value} (ho:o.op=.move x) (hx:ev E x=v):RD P E F o v:=by simp only [RD,execOp,ho,cx,hx]
theorem Dk {x:Operand} {v:Value} (ho:o.op=.assign x) (hx:ev E x=v):RD P E F o v:=by simp only [RD,execOp,ho,cx,hx]
theorem t7 {c a b:Operand} {t:Bool} {v:Value} (ho:o.op=.pick c a b) (hc:ev E c=.bool t) (h1:t=true->ev E a=v) (h2:t=false->ev E b=v):RD P E F o v:=by
 cases t
 ·simp [RD,execOp,ho,hc,asBool,h2]
 ·simp [RD,execOp,ho,hc,asBool,h1]
abbrev VP:=Value->PH->Prop
abbrev nx1 {α:Type} (I:Nat->α->Ψ) (m:Nat):α->Ψ:=λa F=>∃m',m'<m/\I m' a F
abbrev nx2 {α β:Type} (I:Nat->α->β->Ψ) (m:Nat):α->β->Ψ:=λa b F=>∃m',m'<m/\I m' a b F
abbrev nx3 {α β γ:Type} (I:Nat->α->β->γ->Ψ) (m:Nat):α->β->γ->Ψ:=λa b c F=>∃m',m'<m/\I m' a b c F
theorem Su {c a b:Operand} {v:Value} (ho:o.op=.pick c a b) (hc:ev E c=.bool false) (h2:ev E b=v:=by rfl):RD P E F o v:=t7 ho hc (λh=>by cases h) (λ_=>h2)
theorem Sv {c a b:Operand} {v:Value} (ho:o.op=.pick c a b) (hc:ev E c=.bool true) (h2:ev E a=v:=by rfl):RD P E F o v:=t7 ho hc (λ_=>h2) (λh=>by cases h)
theorem xL {x:Operand} {a:Addr} (ho:o.op=.nilCheck x) (hx:ev E x=.pointer (some a)):RD P E F o (.pointer (some a)):=by simp [RD,execOp,ho,hx]
theorem vR {x:Operand} {f:FuncId} {a b:Γ} (ho:o.op=.nilCheck x) (hx:ev E x=.func (.func f) a b):RD P E F o (.func (.func f) a b):=by simp [RD,execOp,ho,hx]
theorem so {x:Operand} {vs:Γ} {i:Nat} {v:Value} (ho:o.op=.extract x i) (hx:ev E x=.tuple vs) (hi:vs[i]? =some v):RD P E F o v:=by simp [RD,execOp,ho,hx,Instr.extract,hi]
theorem xM {fn:Fn} {first captured:Array Operand} {a b:Γ} (ho:o.op=.makeFunc fn first captured) (h1:first.map (ev E)=a) (h2:captured.map (ev E)=b):
  RD P E F o (.func fn a b):=by
 simp [RD,execOp,ho,h1,h2,Instr.makeFunc]
section
variable {x y:Operand} {t t':TypeId} {k:IntKind} {a b:Int}
theorem Ng (ho:o.op=.binOp .add t x y t') (hx:ev E x=.int k a) (hy:ev E y=.int k b):RD P E F o (.int k (k.wrap (a+b))):=by simp [RD,execOp,ho,hx,hy,binOp,eqGuard,Op.intArith]
theorem Nh (ho:o.op=.binOp .sub t x y t') (hx:ev E x=.int k a) (hy:ev E y=.int k b):RD P E F o (.int k (k.wrap (a - b))):=by simp [RD,execOp,ho,hx,hy,binOp,eqGuard,Op.intArith]
theorem Ni (ho:o.op=.binOp .mul t x y t') (hx:ev E x=.int k a) (hy:ev E y=.int k b):RD P E F o (.int k (k.wrap (a*b))):=by simp [RD,execOp,ho,hx,hy,binOp,eqGuard,Op.intArith]
theorem ID (ho:o.op=.binOp .quo t x y t') (hx:ev E x=.int k a) (hy:ev E y=.int k b) (hb:b≠0):RD P E F o (.int k (k.wrap (a.tdiv b))):=by simp [RD,execOp,ho,hx,hy,binOp,eqGuard,Op.intDiv,hb]
theorem IE (ho:o.op=.binOp .rem t x y t') (hx:ev E x=.int k a) (hy:ev E y=.int k b) (hb:b≠0):RD P E F o (.int k (a.tmod b)):=by simp [RD,execOp,ho,hx,hy,binOp,eqGuard,Op.intDiv,hb]
theorem Nj (ho:o.op=.binOp .and t x y t') (hx:ev E x=.int k a) (hy:ev E y=.int k b):RD P E F o (.int k (k.wrap ((BitVec.ofInt k.bits a &&& BitVec.ofInt k.bits b).toNat))):=by simp [RD,execOp,ho,hx,hy,binOp,eqGuard,Op.intBits]
theorem QR (ho:o.op=.binOp .or t x y t') (hx:ev E x=.int k a) (hy:ev E y=.int k b):RD P E F o (.int k (k.wrap ((BitVec.ofInt k.bits a ||| BitVec.ofInt k.bits b).toNat))):=by simp [RD,execOp,ho,hx,hy,binOp,eqGuard,Op.intBits]
theorem Nk (ho:o.op=.binOp .xor t x y t') (hx:ev E x=.int k a) (hy:ev E y=.int k b):RD P E F o (.int k (k.wrap ((BitVec.ofInt k.bits a ^^^ BitVec.ofInt k.bits b).toNat))):=by simp [RD,execOp,ho,hx,hy,binOp,eqGuard,Op.intBits]
theorem Dl (ho:o.op=.binOp .andNot t x y t') (hx:ev E x=.int k a) (hy:ev E y=.int k b):RD P E F o (.int k (k.wrap ((BitVec.ofInt k.bits a &&& ~~~ BitVec.ofInt k.bits b).toNat))):=by simp [RD,execOp,ho,hx,hy,binOp,eqGuard,Op.intBits]
theorem Nl (ho:o.op=.binOp .lss t x y t') (hx:ev E x=.int k a) (hy:ev E y=.int k b):RD P E F o (.bool (decide (a<b))):=by simp [RD,execOp,ho,hx,hy,binOp,eqGuard,Op.intCmp]
theorem Nm (ho:o.op=.binOp .leq t x y t') (hx:ev E x=.int k a) (hy:ev E y=.int k b):RD P E F o (.bool (decide (a<=b))):=by simp [RD,execOp,ho,hx,hy,binOp,eqGuard,Op.intCmp]
theorem Nn (ho:o.op=.binOp .gtr t x y t') (hx:ev E x=.int k a) (hy:ev E y=.int k b):RD P E F o (.bool (decide (b<a))):=by simp [RD,execOp,ho,hx,hy,binOp,eqGuard,Op.intCmp]
theorem No (ho:o.op=.binOp .geq t x y t') (hx:ev E x=.int k a) (hy:ev E y=.int k b):RD P E F o (.bool (decide (b<=a))):=by simp [RD,execOp,ho,hx,hy,binOp,eqGuard,Op.intCmp]
theorem Np (ho:o.op=.binOp .eql t x y t') (hx:ev E x=.int k a) (hy:ev E y=.int k b):RD P E F o (.bool (a==b)):=by simp [RD,execOp,ho,hx,hy,binOp,eqGuard,Op.intCmp]
theorem Nq (ho:o.op=.binOp .neq t x y t') (hx:ev E x=.int k a) (hy:ev E y=.int k b):RD P E F o (.bool (a !=b)):=by simp [RD,execOp,ho,hx,hy,binOp,eqGuard,Op.intCmp]
theorem IF {k':IntKind} (ho:o.op=.binOp .shl t x y t') (hx:ev E x=.int k a) (hy:ev E y=.int k' b) (hb:0<=b):RD P E F o (.int k (k.wrap (a*2 ^ (min b.toNat k.bits)))):=by simp [RD,execOp,ho,hx,hy,binOp,eqGuard,Op.shift,Int.not_lt.2 hb]
theorem IG {k':IntKind} (ho:o.op=.binOp .shr t x y t') (hx:ev E x=.int k a) (hy:ev E y=.int k' b) (hb:0<=b):RD P E F o (.int k (a.fdiv (2 ^ (min b.toNat k.bits)))):=by simp [RD,execOp,ho,hx,hy,binOp,eqGuard,Op.shift,Int.not_lt.2 hb]
theorem Nr (ho:o.op=.unOp .neg t x) (hx:ev E x=.int k a):RD P E F o (.int k (k.wrap (0 - a))):=by simp [RD,execOp,ho,hx,Op.unary,Op.intArith]
theorem Dm {c:Bool} (ho:o.op=.unOp .not t x) (hx:ev E x=.bool c):RD P E F o (.bool !c):=by simp [RD,execOp,ho,hx,Op.unary]
theorem BK {k':IntKind} {d:TypeDesc} (ho:o.op=.convert t t' x) (hx:ev E x=.int k a) (h1:P.underlying t=some d) (h2:P.underlying t'=some (.int k')):RD P E F o (.int k' (k'.wrap a)):=by simp [RD,execOp,ho,hx,convert,ai,av h1,av h2,Conv.intToInt]
theorem sq {m:Nat} {c d:Bool} (h1:P.underlying t=some .bool):rdo P (Op.equalIn (m+1) t (.bool c) (.bool d)) F (c==d):=by simp only [Op.equalIn,ai];exact ⟨_,(av h1 _).2 rfl,rfl⟩
theorem ss {m:Nat} {p:Θ} {e':TypeId} (h1:P.underlying t=some (.pointer e')):rdo P (Op.equalIn (m+1) t (.pointer p) (.pointer none)) F p.isNone:=by simp only [Op.equalIn,ai];refine ⟨_,(av h1 _).2 rfl,?_⟩;cases p<;>rfl
theorem bU {op:BinOp} {v u:Value} (h:(match v,u with| .nilIface,.nilIface=>false| .agg _,.agg _=>false|_,_=>true)=true):rdo P (eqGuard op t x y v u) F ():=by unfold eqGuard;cases op<;>simp<;>(split<;>first|(simp at h;done)|rfl)
theorem ow {v u:Value} {r:Bool} (ho:o.op=.binOp .eql t x y t') (hx:ev E x=v) (hy:ev E y=u) (hg:rdo P (eqGuard .eql t x y v u) F ()) (he:rdo P (Op.equal t v u) F r)
  (hb:binOp .eql t v u=(do pure (.bool (<- Op.equal t v u)))):RD P E F o (.bool r):=by
 simp only [RD,execOp,ho,hx,hy,ai];refine ⟨.bool r,⟨(),hg,?_⟩,rfl⟩;rw [hb,ai];exact ⟨r,he,rfl⟩
theorem ox {v u:Value} {r:Bool} (ho:o.op=.binOp .neq t x y t') (hx:ev E x=v) (hy:ev E y=u) (hg:rdo P (eqGuard .neq t x y v u) F ()) (he:rdo P (Op.equal t v u) F r)
  (hb:binOp .neq t v u=(do pure (.bool (!(<- Op.equal t v u))))):RD P E F o (.bool (!r)):=by
 simp only [RD,execOp,ho,hx,hy,ai];refine ⟨.bool (!r),⟨(),hg,?_⟩,rfl⟩;rw [hb,ai];exact ⟨r,he,rfl⟩
theorem Kg {c d:Bool} (ho:o.op=.binOp .eql t x y t') (hx:ev E x=.bool c) (hy:ev E y=.bool d) (h1:P.underlying t=some .bool):RD P E F o (.bool (c==d)):=
 ow ho hx hy (bU rfl) (sq h1) rfl
theorem Kh {c d:Bool} (ho:o.op=.binOp .neq t x y t') (hx:ev E x=.bool c) (hy:ev E y=.bool d) (h1:P.underlying t=some .bool):RD P E F o (.bool (!(c==d))):=
 ox ho hx hy (bU rfl) (sq h1) rfl
theorem vS {p:Θ} {e':TypeId} (ho:o.op=.binOp .eql t x y t') (hx:ev E x=.pointer p) (hy:ev E y=.pointer none) (h1:P.underlying t=some (.pointer e')):RD P E F o (.bool p.isNone):=
 ow ho hx hy (bU rfl) (ss h1) rfl
theorem vT {p:Θ} {e':TypeId} (ho:o.op=.binOp .neq t x y t') (hx:ev E x=.pointer p) (hy:ev E y=.pointer none) (h1:P.underlying t=some (.pointer e')):RD P E F o (.bool (!p.isNone)):=
 ox ho hx hy (bU rfl) (ss h1) rfl
theorem pO {m:Nat} {s:Sl} {e':TypeId} (h1:P.underlying t=some (.slice e')):rdo P (Op.equalIn (m+1) t s.v (.slice none 0 0)) F s.base.isNone:=by simp only [Op.equalIn,ai];refine ⟨_,(av h1 _).2 rfl,?_⟩;obtain ⟨b,l,c⟩:=s;cases b<;>rfl
theorem xN {s:Sl} {e':TypeId} (ho:o.op=.binOp .eql t x y t') (hx:ev E x=s.v) (hy:ev E y=.slice none 0 0) (h1:P.underlying t=some (.slice e')):RD P E F o (.bool s.base.isNone):=
 ow ho hx hy (bU rfl) (pO h1) rfl
theorem xO {s:Sl} {e':TypeId} (ho:o.op=.binOp .neq t x y t') (hx:ev E x=s.v) (hy:ev E y=.slice none 0 0) (h1:P.underlying t=some (.slice e')):RD P E F o (.bool (!s.base.isNone)):=
 ox ho hx hy (bU rfl) (pO h1) rfl
theorem Ki {c d:ByteArray} (ho:o.op=.binOp .eql t x y t') (hx:ev E x=.string c) (hy:ev E y=.string d):RD P E F o (.bool (c.toList==d.toList)):=by simp [RD,execOp,ho,hx,hy,binOp,eqGuard,Op.stringOp]
theorem Kj {c d:ByteArray} (ho:o.op=.binOp .neq t x y t') (hx:ev E x=.string c) (hy:ev E y=.string d):RD P E F o (.bool (!(c.toList==d.toList))):=by simp [RD,execOp,ho,hx,hy,binOp,eqGuard,Op.stringOp]
end
section
variable {x y:Operand} {t t':TypeId} {k:IntKind} {a b:Int}
theorem FY {s:Sl} {e':TypeId} (ho:o.op=.call {callee:=.builtin .len,args:= #[x],argTypes:= #[t]}) (hx:ev E x=s.v) (h1:P.underlying t=some (.slice e')):RD P E F o (.int .i64 s.len):=by simp [RD,execOp,ho,resolve,invoke,builtin,hx,Sl.v,Builtin.len_,ai,av h1,goInt]
theorem FZ {s:Sl} {e':TypeId} (ho:o.op=.call {callee:=.builtin .cap,args:= #[x],argTypes:= #[t]}) (hx:ev E x=s.v) (h1:P.underlying t=some (.slice e')):RD P E F o (.int .i64 s.cap):=by simp [RD,execOp,ho,resolve,invoke,builtin,hx,Sl.v,Builtin.cap_,ai,av h1,goInt]
theorem Dn {s:ByteArray} (ho:o.op=.call {callee:=.builtin .len,args:= #[x],argTypes:= #[t]}) (hx:ev E x=.string s) (h1:P.underlying t=some .string):RD P E F o (.int .i64 s.size):=by simp [RD,execOp,ho,resolve,invoke,builtin,hx,Builtin.len_,ai,av h1,goInt]
theorem Kk {ts:Array TypeId} (ho:o.op=.call {callee:=.builtin .max,args:= #[x,y],argTypes:=ts}) (hx:ev E x=.int k a) (hy:ev E y=.int k b):RD P E F o (.int k (max a b)):=by
 have:(if b>a then b else a)=max a b:=by omega
 simp [RD,execOp,ho,resolve,invoke,builtin,hx,hy,Builtin.max_,Builtin.max2];omega
theorem Kl {ts:Array TypeId} (ho:o.op=.call {callee:=.builtin .min,args:= #[x,y],argTypes:=ts}) (hx:ev E x=.int k a) (hy:ev E y=.int k b):RD P E F o (.int k (min a b)):=by simp [RD,execOp,ho,resolve,invoke,builtin,hx,hy,Builtin.min_,Builtin.min2];omega
theorem Km {ts:Array TypeId} {z:Operand} {c:Int} (ho:o.op=.call {callee:=.builtin .max,args:= #[x,y,z],argTypes:=ts}) (hx:ev E x=.int k a) (hy:ev E y=.int k b) (hz:ev E z=.int k c):RD P E F o (.int k (max (max a b) c)):=by simp [RD,execOp,ho,resolve,invoke,builtin,hx,hy,hz,Builtin.max_,Builtin.max2];omega
theorem Kn {ts:Array TypeId} {z:Operand} {c:Int} (ho:o.op=.call {callee:=.builtin .min,args:= #[x,y,z],argTypes:=ts}) (hx:ev E x=.int k a) (hy:ev E y=.int k b) (hz:ev E z=.int k c):RD P E F o (.int k (min (min a b) c)):=by simp [RD,execOp,ho,resolve,invoke,builtin,hx,hy,hz,Builtin.min_,Builtin.min2];omega
end
def jX (d:TypeDesc):Bool:=match d with| .struct _| .array _ _=>true|_=>false
theorem dq {t:Nat} {d:TypeDesc} (h:P.underlying t=some d) (v:Bool):rdo P (isAgg t) F v↔jX d=v:=by unfold isAgg;simp only [ai,av h,exists_eq_left'];cases d<;>simp [jX]
def PH.row (F:PH) (a:Addr) (cs:Γ):Prop:=∀i,(h:i<cs.size)->F.cell (a.add i)=some cs[i]
theorem kL {a:Addr}:∀(n i:Nat) (acc cs:Γ),cs.size=i+n->acc.toList=cs.toList.take i->F.row a cs->rdo P (loadCellsFrom a i n acc) F cs:=by
 intro n;induction n with
 |zero=>intro i acc cs hs ha _;show acc=cs;apply Array.ext';rw [ha,SI];simp only [SH];omega
 |succ n ih=>
  intro i acc cs hs ha hr;have hi:i<cs.size:=by omega
  simp only [loadCellsFrom,ai];refine ⟨cs[i],⟨_,hr i hi,rfl⟩,?_⟩;refine ih (i+1) _ cs (by omega) ?_ hr;rw [Array.toList_push,ha,SW (by simpa using hi)];simp
theorem eO {a:Addr} {cs:Γ} (hr:F.row a cs):rdo P (loadCells a cs.size) F cs:=
 kL cs.size 0 #[] cs (by omega) (by simp) hr
theorem Ga {x:Operand} {t:TypeId} {d:TypeDesc} {a:Addr} {v:Value} (ho:o.op=.load t x) (hx:ev E x=.pointer (some a)) (h1:P.underlying t=some d) (h2:jX d=false) (hc:F.cell a=some v):
  RD P E F o v:=by
 simp [RD,execOp,ho,hx,Instr.loadAt,Instr.sureAddr,loadVar,ai,dq h1,h2,load,rdo,hc]
theorem Gb {x:Operand} {t:TypeId} {d:TypeDesc} {a:Addr} {cs:Γ} {b:Nat} (ho:o.op=.load t x) (hx:ev E x=.pointer (some a)) (h1:P.underlying t=some d) (h2:jX d=true)
  (h3:tsz P t=some (cs.size,b)) (hr:F.row a cs):RD P E F o (.agg cs):=by
 have:=eO (P:=P) hr;simp [RD,execOp,ho,hx,Instr.loadAt,Instr.sureAddr,loadVar,ai,dq h1,h2,bq h3,this]
theorem pP {a:Addr} {f:Field} {s b:Nat} (h:tsz P f.type=some (s,b)) (hs:s≠0) (v:Addr):rdo P (fieldPlace a f) F v↔a.add f.offset=v:=by simp [fieldPlace,ai,bq h,hs]
theorem vU {x:Operand} {t i:Nat} {a:Addr} {fs:Array Field} {f:Field} {s b:Nat} (ho:o.op=.fieldAddr t x i) (hx:ev E x=.pointer (some a)) (h1:P.underlying t=some (.struct fs))
  (h2:fs[i]? =some f) (h3:tsz P f.type=some (s,b)) (hs:s≠0):RD P E F o (.pointer (some (a.add f.offset))):=by
 simp [RD,execOp,ho,hx,Instr.fieldAt,Instr.sureAddr,ai,av h1,h2,pP h3 hs]
theorem sA {t off:Nat} {d:TypeDesc} {cs:Γ} {v:Value} (h1:P.underlying t=some d) (h2:jX d=false) (hc:cs[off]? =some v):rdo P (part t cs off) F v:=by simp [part,ai,dq h1,h2,hc]
theorem BL {t off s b:Nat} {d:TypeDesc} {cs:Γ} (h1:P.underlying t=some d) (h2:jX d=true) (h3:tsz P t=some (s,b)):rdo P (part t cs off) F (.agg (cs.extract off (off+s))):=by simp [part,ai,dq h1,h2,bq h3]
theorem Do {x:Operand} {t i:Nat} {cs:Γ} {fs:Array Field} {f:Field} {d:TypeDesc} {v:Value} (ho:o.op=.field t x i) (hx:ev E x=.agg cs) (h1:P.underlying t=some (.struct fs))
  (h2:fs[i]? =some f) (h3:P.underlying f.type=some d) (h4:jX d=false) (hc:cs[f.offset]? =some v):RD P E F o v:=by
 simp only [RD,execOp,ho,hx,Instr.field,ai,av h1,asAgg,cx];exact ⟨v,⟨_,rfl,by simp only [h2,ai,cx,exists_eq_left'];exact sA h3 h4 hc⟩,rfl⟩
theorem Dp {x:Operand} {t i s b:Nat} {cs:Γ} {fs:Array Field} {f:Field} {d:TypeDesc} (ho:o.op=.field t x i) (hx:ev E x=.agg cs) (h1:P.underlying t=some (.struct fs))
  (h2:fs[i]? =some f) (h3:P.underlying f.type=some d) (h4:jX d=true) (h5:tsz P f.type=some (s,b)):RD P E F o (.agg (cs.extract f.offset (f.offset+s))):=by
 simp only [RD,execOp,ho,hx,Instr.field,ai,av h1,asAgg,cx];exact ⟨_,⟨_,rfl,by simp only [h2,ai,cx,exists_eq_left'];exact BL h3 h4 h5⟩,rfl⟩
theorem rC {x y:Operand} {t e' s b:Nat} {base:Addr} {len cap:Nat} {k:IntKind} {i:Int} (ho:o.op=.indexAddr t x y) (hx:ev E x=.slice (some base) len cap) (hy:ev E y=.int k i)
  (h1:P.underlying t=some (.slice e')) (h2:tsz P e'=some (s,b)) (h3:0<=i) (h4:i<len):RD P E F o (.pointer (some (base.add (i.toNat*s)))):=by
 simp [RD,execOp,ho,hx,hy,Instr.indexAt,asIntOf,ai,av h1,h3,h4,bq h2]
theorem rD {x y:Operand} {t e' s b n:Nat} {base:Addr} {k:IntKind} {i:Int} (ho:o.op=.indexAddr t x y) (hx:ev E x=.pointer (some base)) (hy:ev E y=.int k i)
  (h1:P.underlying t=some (.array n e')) (h2:tsz P e'=some (s,b)) (h3:0<=i) (h4:i<n):RD P E F o (.pointer (some (base.add (i.toNat*s)))):=by
 simp [RD,execOp,ho,hx,hy,Instr.indexAt,asIntOf,ai,av h1,h3,h4,bq h2,Instr.sureAddr]
theorem xP {x y:Operand} {t:Nat} {st:ByteArray} {k:IntKind} {i:Int} (ho:o.op=.index t x y) (hx:ev E x=.string st) (hy:ev E y=.int k i)
  (h1:P.underlying t=some .string) (h3:0<=i) (h4:i<st.size):RD P E F o (.int .u8 (st[i.toNat]'(by omega)).toNat):=by
 have h5:i.toNat<st.size:=by omega
 have:st[i.toNat]? =some (st[i.toNat]'h5):=getElem?_pos st i.toNat h5;simp [RD,execOp,ho,hx,hy,Instr.index,asIntOf,ai,av h1,h3,this]
theorem vV {x y:Operand} {t e' n s b:Nat} {cs:Γ} {k:IntKind} {i:Int} {d:TypeDesc} {v:Value} (ho:o.op=.index t x y) (hx:ev E x=.agg cs) (hy:ev E y=.int k i)
  (h1:P.underlying t=some (.array n e')) (h2:tsz P e'=some (s,b)) (hd:P.underlying e'=some d) (hag:jX d=false) (h3:0<=i) (h4:i<n) (hc:cs[i.toNat*s]? =some v):RD P E F o v:=by
 simp only [RD,execOp,ho,hx,hy,Instr.index,asIntOf,ai,av h1,cx];refine ⟨v,⟨(k,i),rfl,.array n e',rfl,?_⟩,rfl⟩;simp only [h3,h4,and_self,if_true,ai,bq h2];exact ⟨_,rfl,sA hd hag hc⟩
theorem cf {k:IntKind} {i:Int} {y:Nat} {c:BoundsCode} (h1:0<=i) (h2:i<=y) (v:Nat):rdo P (Instr.sliceBound (.int k i) y c) F v↔i.toNat=v:=by simp [Instr.sliceBound,asIntOf,h1,h2]
def dr (v:Option Value) (dflt:Nat) (r:Nat):Prop:=(v=none/\r=dflt)\/∃k i,v=some (.int k i)/\0<=i/\i.toNat=r
theorem eH {sl:Bool} {len cap:Nat} {lo hi:Option Value} {l h:Nat} (hh:dr hi len h) (hl:dr lo 0 l) (h1:l<=h) (h2:h<=cap) (v:Nat×Nat×Nat):
  rdo P (Instr.sliceBounds sl len cap lo hi none) F v↔(l,h,cap)=v:=by
 rcases hh with ⟨rfl,rfl⟩|⟨k,i,rfl,hi0,rfl⟩<;>rcases hl with ⟨rfl,rfl⟩|⟨k',j,rfl,hj0,rfl⟩
 ·simp [Instr.sliceBounds]
 ·have e2:∀c x,rdo P (Instr.sliceBound (.int k' j) h c) F x↔j.toNat=x:=λc x=>cf hj0 (by omega) x;cases sl<;>simp [Instr.sliceBounds,e2]
 ·have e1:∀c x,rdo P (Instr.sliceBound (.int k i) cap c) F x↔i.toNat=x:=λc x=>cf hi0 (by omega) x;cases sl<;>simp [Instr.sliceBounds,e1]
 ·have e1:∀c x,rdo P (Instr.sliceBound (.int k i) cap c) F x↔i.toNat=x:=λc x=>cf hi0 (by omega) x;have e2:∀c x,rdo P (Instr.sliceBound (.int k' j) i.toNat c) F x↔j.toNat=x:=λc x=>cf hj0 (by omega) x;cases sl<;>simp [Instr.sliceBounds,ai,e1,e2]
theorem mi {sl:Bool} {len cap:Nat} {lo:Option Value} {k k':IntKind} {i m:Int} {l:Nat} (hl:dr lo 0 l) (h0:0<=i) (hm0:0<=m) (h1:l<=i.toNat) (h2:i<=m) (h3:m<=cap) (v:Nat×Nat×Nat):
  rdo P (Instr.sliceBounds sl len cap lo (some (.int k i)) (some (.int k' m))) F v↔(l,i.toNat,m.toNat)=v:=by
 have e1:∀c x,rdo P (Instr.sliceBound (.int k' m) cap c) F x↔m.toNat=x:=λc x=>cf hm0 h3 x;have e2:∀c x,rdo P (Instr.sliceBound (.int k i) m.toNat c) F x↔i.toNat=x:=λc x=>cf h0 (by omega) x;rcases hl with ⟨rfl,rfl⟩|⟨k'',j,rfl,hj0,rfl⟩
 ·cases sl<;>simp [Instr.sliceBounds,ai,e1,e2]
 ·have e3:∀c x,rdo P (Instr.sliceBound (.int k'' j) i.toNat c) F x↔j.toNat=x:=λc x=>cf hj0 (by omega) x;cases sl<;>simp [Instr.sliceBounds,ai,e1,e2,e3]
def Sl.cut (s:Sl) (size l h m:Nat):Sl:=⟨if m=l then s.base else s.base.map (·.add (l*size)),h - l,m - l⟩
theorem BM {x:Operand} {lo hi:Option Operand} {t e' size b:Nat} {s:Sl} {l h:Nat} (ho:o.op=.slice t x lo hi none) (hx:ev E x=s.v) (h1:P.underlying t=some (.slice e')) (h2:tsz P e'=some (size,b))
  (hl:dr (lo.map (ev E)) 0 l) (hh:dr (hi.map (ev E)) s.len h) (h3:l<=h) (h4:h<=s.cap):RD P E F o (s.cut size l h s.cap).v:=by
 have:=eH (P:=P) (F:=F) (sl:=true) hh hl h3 h4;simp [RD,execOp,ho,hx,Instr.sliceAt,Instr.slice,Sl.v,Sl.cut,ai,av h1,bq h2,this]
theorem xQ {x hi mx:Operand} {lo:Option Operand} {t e' size b:Nat} {s:Sl} {l:Nat} {k k':IntKind} {i m:Int} (ho:o.op=.slice t x lo (some hi) (some mx)) (hx:ev E x=s.v) (h1:P.underlying t=some (.slice e')) (h2:tsz P e'=some (size,b))
  (hl:dr (lo.map (ev E)) 0 l) (hi':ev E hi=.int k i) (hm:ev E mx=.int k' m) (h0:0<=i) (hm0:0<=m) (h3:l<=i.toNat) (h4:i<=m) (h5:m<=s.cap):RD P E F o (s.cut size l i.toNat m.toNat).v:=by
 have:=mi (P:=P) (F:=F) (sl:=true) (len:=s.len) (k:=k) (k':=k') hl h0 hm0 h3 h4 h5;simp [RD,execOp,ho,hx,Instr.sliceAt,Instr.slice,Sl.v,Sl.cut,ai,av h1,bq h2,hi',hm,this]
theorem sB {x:Operand} {lo hi:Option Operand} {t e' size b n:Nat} {a:Addr} {l h:Nat} (ho:o.op=.slice t x lo hi none) (hx:ev E x=.pointer (some a)) (h1:P.underlying t=some (.array n e')) (h2:tsz P e'=some (size,b))
  (hl:dr (lo.map (ev E)) 0 l) (hh:dr (hi.map (ev E)) n h) (h3:l<=h) (h4:h<=n):RD P E F o (Sl.cut ⟨some a,n,n⟩ size l h n).v:=by
 have:=eH (P:=P) (F:=F) (sl:=false) hh hl h3 h4;simp [RD,execOp,ho,hx,Instr.sliceAt,Instr.sureAddr,Sl.v,Sl.cut,ai,av h1,bq h2,this];split<;>rfl
theorem xR {x:Operand} {lo hi:Option Operand} {t:Nat} {s:ByteArray} {l h:Nat} (ho:o.op=.slice t x lo hi none) (hx:ev E x=.string s) (h1:P.underlying t=some .string)
  (hl:dr (lo.map (ev E)) 0 l) (hh:dr (hi.map (ev E)) s.size h) (h3:l<=h) (h4:h<=s.size):RD P E F o (.string (s.extract l h)):=by
 have:=eH (P:=P) (F:=F) (sl:=false) hh hl h3 h4;simp [RD,execOp,ho,hx,Instr.sliceAt,Instr.slice,ai,av h1,this]
end
section
variable {P:Program} {F:PH} {E:En} {o:Oper} {K:En->Ψ}
def kM (P:Program) (fs:Array Field):Array (Nat×Nat):=fs.map λf=>(f.offset,P.cellsOf f.type)
def iU (P:Program) (fs:Array Field):Bool:=fs.all λf=>(P.info? f.type).isSome
theorem vW {t:Nat} (h:(P.info? t).isSome=true):rdo P (sizeOf t) F (P.cellsOf t):=by
 cases hi:P.info? t with
 |none=>simp [hi] at h
 |some i=>
  have:tsz P t=some (i.size,i.bytes):=by simp [tsz,hi]
  rw [bq this];simp [Program.cellsOf,hi]
theorem jH {α β:Type} (f:α->Sem β) (g:α->β):∀(l:List α),(∀x∈l,rdo P (f x) F (g x))->rdo P (l.mapM f) F (l.map g)
 |[],_=>by simp
 |x::l,h=>by have h1:=h x (TG ..);have h2:=jH f g l λy hy=>h y (SN _ hy);simp only [List.mapM_cons,ai,S4];exact ⟨_,h1,_,h2,rfl⟩
theorem xS {fs:Array Field} (h:iU P fs=true):rdo P (fs.mapM λf=>do pure (f.offset,<- sizeOf f.type)) F (kM P fs):=by
 have hall:∀f∈fs.toList,(P.info? f.type).isSome=true:=by intro f hf;have:=Array.all_eq_true_iff_forall_mem.1 h f (by simpa using hf);exact this
 rw [Array.mapM_eq_mapM_toList];have:=jH (P:=P) (F:=F) (λf:Field=>(do pure (f.offset,<- sizeOf f.type):Sem (Nat×Nat))) (λf=>(f.offset,P.cellsOf f.type)) fs.toList
  (λf hf=>by simp only [ai];exact ⟨_,vW (hall f hf),rfl⟩)
 refine (Gu _ _ _ _).2 ⟨_,this,?_⟩;apply Array.ext';simp [kM]
theorem rE {t:Nat} {parts:Array (Nat×Operand)} {fs:Array Field} {z:Value} {vs:List (Nat×Value)} {cells:Γ} (ho:o.op=.build t parts) (h1:P.underlying t=some (.struct fs)) (hz:bP P t=some z)
  (hk:iU P fs=true) (hv:(parts.map λ(i,x)=>(i,ev E x)).toList=vs) (hf:Instr.fill (λi=>(kM P fs)[i]?) z.cells vs=some cells):RD P E F o (.agg cells):=by
 simp only [RD,execOp,ho,ai,Instr.build,cx];refine ⟨_,⟨_,(gl hz _).2 rfl,_,(av h1 _).2 rfl,?_⟩,rfl⟩;simp only [ai];refine ⟨_,by have:=xS (P:=P) (F:=F) hk;simpa [ai] using this,?_⟩;rw [hv,hf];rfl
theorem t8 {t n e' s b:Nat} {parts:Array (Nat×Operand)} {z:Value} {vs:List (Nat×Value)} {cells:Γ} (ho:o.op=.build t parts) (h1:P.underlying t=some (.array n e')) (hz:bP P t=some z)
  (h2:tsz P e'=some (s,b)) (hv:(parts.map λ(i,x)=>(i,ev E x)).toList=vs) (hf:Instr.fill (λi=>some (i*s,s)) z.cells vs=some cells):RD P E F o (.agg cells):=by
 simp only [RD,execOp,ho,ai,Instr.build,cx];refine ⟨_,⟨_,(gl hz _).2 rfl,_,(av h1 _).2 rfl,?_⟩,rfl⟩;simp only [ai,bq h2,exists_eq_left'];rw [hv,hf];rfl
theorem Gc {t:Nat} {z:Value} (ho:o.op=.alloc t) (hz:bP P t=some z) (h:∀b,F b=none->K (cJ E o.dst (.pointer (some ⟨b,0,none⟩))) (F.set b (.cells z.cells t))):
  aD P (execOp (ev E) o) F (bG P K o E):=by
 simp only [execOp,ho,Instr.alloc,aA,d8 hz,aJ,bG,newVar,newRow,newObj];exact h
theorem Dq {t:Nat} {x:Operand} {v:Value} (ho:o.op=.box t x) (hx:ev E x=v) (h:∀b,F b=none->K (cJ E o.dst (.pointer (some ⟨b,0,none⟩))) (F.set b (.cells v.cells t))):
  aD P (execOp (ev E) o) F (bG P K o E):=by
 simp only [execOp,ho,Instr.box,aA,aJ,bG,newVar,newRow,newObj,hx];exact h
theorem gU {t e' s b n:Nat} {parts:Array (Nat×Operand)} {z:Value} {vs:List (Nat×Value)} {cells:Γ} (ho:o.op=.buildSlice t n parts) (h1:P.underlying t=some (.slice e')) (h2:tsz P e'=some (s,b))
  (hn:n*s<=16777216) (hz:bP P e'=some z) (hv:(parts.map λ(i,x)=>(i,ev E x)).toList=vs) (hf:Instr.fill (λi=>some (i*s,s)) (Builtin.zeroCells z.cells n) vs=some cells) (hs:n*s=n*z.cells.size)
  (h:∀b,F b=none->K (cJ E o.dst (.slice (some ⟨b,0,none⟩) n n)) (F.set b (.cells cells e'))):
  aD P (execOp (ev E) o) F (bG P K o E):=by
 simp only [execOp,ho,Instr.buildSlice,aA,bR h1,eV h2];rw [if_neg (by omega)];by_cases h0:n*s=0
 ·have hzz:(Array.range (n*s)).map (λi=>(#[]:Γ)[i % (#[]:Γ).size]!)=Builtin.zeroCells z.cells n:=by simp [Builtin.zeroCells,h0,<- hs]
  rw [if_pos h0];simp only [aA,aJ];rw [hzz,hv,hf];simp only [aA,aJ,newRow,newObj,bG];exact h
 ·have hzz:(Array.range (n*s)).map (λi=>z.cells[i % z.cells.size]!)=Builtin.zeroCells z.cells n:=by simp [Builtin.zeroCells,hs]
  rw [if_neg h0];simp only [aA,d8 hz,aJ];rw [hzz,hv,hf];simp only [aA,aJ,newRow,newObj,bG];exact h
def wr (c:Γ) (off:Nat):Ξ->Γ
 |[]=>c
 |v::vs=>wr (c.setIfInBounds off v) (off+1) vs
theorem dJ (vs:Ξ):∀(c:Γ) (off:Nat),(wr c off vs).size=c.size:=by
 induction vs with
 |nil=>intro c off;rfl
 |cons v vs ih=>intro c off;simp [wr,ih]
theorem ua (vs:Ξ):∀(c:Γ) (off i:Nat),off+vs.length<=c.size->(wr c off vs)[i]? =if off<=i/\i<off+vs.length then vs[i - off]? else c[i]? :=by
 induction vs with
 |nil=>intro c off i _;simp [wr];omega
 |cons v vs ih=>
  intro c off i h;simp only [ST] at h;rw [wr,ih _ _ _ (by simp;omega),Array.getElem?_setIfInBounds];by_cases h1:off=i
  ·subst h1;rw [if_neg (by omega),if_pos rfl,if_pos (by omega),if_pos (by simp)];simp
  ·by_cases h2:off+1<=i/\i<off+1+vs.length
   ·rw [if_pos h2,if_pos (by simp;omega)];rw [show i - off=(i - (off+1))+1 by omega,Tu]
   ·rw [if_neg h2,if_neg h1,if_neg (by simp;omega)]
theorem zN (F:PH) (b:Nat) (o o':Obj):(F.set b o).set b o'=F.set b o':=by funext x;unfold PH.set;split<;>rfl
theorem Ge (F:PH) (b:Nat) (o:Obj):(F.set b o) b=some o:=by simp [PH.set]
theorem xT (F:PH) {b x:Nat} (o:Obj) (h:x≠b):(F.set b o) x=F x:=by simp [PH.set,h]
theorem ff {e':TypeId}:∀(vs:Ξ) (i:Nat) (F:PH) (a:Addr) (c:Γ) (Q:Unit->Ψ),a.spot=none->F a.block=some (.cells c e' (0,0))->a.off+i+vs.length<=c.size->
  (∀v∈vs,ak v)->vs≠[]->Q () (F.set a.block (.cells (wr c (a.off+i) vs) e'))->aD P (storeCells a vs i) F Q:=by
 intro vs;induction vs with
 |nil=>intro i F a c Q _ _ _ _ h;exact absurd rfl h
 |cons v vs ih=>
  intro i F a c Q hsp hb hl hst _ hq;simp only [ST] at hl;have hoff:(a.add i).off=a.off+i:=by unfold Addr.add;split<;>simp_all
  have hblk:(a.add i).block=a.block:=by unfold Addr.add;split<;>rfl
  have hspo:(a.add i).spot=none:=by unfold Addr.add;split<;>simp_all
  simp only [storeCells,aA,store,aD];refine ⟨hst v (TG ..),c,e',(0,0),by rw [hblk];exact hb,hspo,by rw [hoff];omega,by simp [frz],?_⟩;rw [hblk,hoff];cases vs with
  |nil=>exact hq
  |cons u us=>refine ih (i+1) _ a (c.setIfInBounds (a.off+i) v) Q hsp (Ge _ _ _) (by simp;simp at hl;omega) (λx hx=>hst x (SN _ hx)) (by simp) ?_;rw [zN];exact hq
theorem Dr {t:Nat} {x y:Operand} {a:Addr} {v:Value} {c:Γ} {e' s b:Nat} (ho:o.op=.store t x y) (hx:ev E x=.pointer (some a)) (hy:ev E y=v) (hsz:tsz P t=some (s,b)) (h1:v.cells= #[v]) (hs:s=1) (hst:ak v)
  (hsp:a.spot=none) (hb:F a.block=some (.cells c e' (0,0))) (hl:a.off<c.size) (h:K (cJ E o.dst undef) (F.set a.block (.cells (c.setIfInBounds a.off v) e'))):
  aD P (execOp (ev E) o) F (bG P K o E):=by
 subst hs;simp only [execOp,ho,hx,hy,Instr.storeAt,Instr.sureAddr,aA,aJ,storeVar,eV hsz,h1];simp only [Ud,ST,List.length_nil,ne_eq,SP,not_true_eq_false,if_false];refine ff [v] 0 F a c _ hsp hb (by simp;omega) (by simpa using hst) (by simp) ?_;exact h
theorem Ds {t:Nat} {x y:Operand} {a:Addr} {vs c:Γ} {e' s b:Nat} (ho:o.op=.store t x y) (hx:ev E x=.pointer (some a)) (hy:ev E y=.agg vs) (hsz:tsz P t=some (s,b)) (hs:vs.size=s) (hst:∀v∈vs.toList,ak v)
  (h0:vs.toList≠[]) (hsp:a.spot=none) (hb:F a.block=some (.cells c e' (0,0))) (hl:a.off+s<=c.size) (h:K (cJ E o.dst undef) (F.set a.block (.cells (wr c a.off vs.toList) e'))):
  aD P (execOp (ev E) o) F (bG P K o E):=by
 subst hs;simp only [execOp,ho,hx,hy,Instr.storeAt,Instr.sureAddr,aA,aJ,storeVar,eV hsz,Value.cells];simp only [ne_eq,not_true_eq_false,if_false];exact ff vs.toList 0 F a c _ hsp hb (by simpa using hl) hst h0 h
def aB (P:Program) (f:FuncId):Bool:=match P.funcs[f]? with|some fn=> !(fn.name== "runtime.NumGoroutine") && fn.body.isSome|none=>false
theorem jI {f:FuncId} {args:Γ} {Q:Next->Ψ} (hc:aB P f=true) (h:Q (.enter f args) F):aD P (callFunc f args) F Q:=by
 unfold aB at hc;cases hf:P.funcs[f]? with
 |none=>simp [hf] at hc
 |some fn=>
  simp only [hf,Tj,Bool.not_eq_true'] at hc;simp only [callFunc,aA,program,aD,hf,hc.1];have:fn.body.isNone=false:=by cases hb:fn.body<;>simp_all
  simp only [this,S9,if_false,aJ];exact h
theorem Ko {f:FuncId} {args:Array Operand} {ts:Array TypeId} {vs:Γ} (ho:o.op=.call {callee:=.value (.func f),args:=args,argTypes:=ts}) (hc:aB P f=true) (hv:args.map (ev E)=vs)
  (h:aj P f vs F λv F'=>K (cJ E o.dst v) F'):aD P (execOp (ev E) o) F (bG P K o E):=by
 simp only [execOp,ho,resolve,ev,Deferred.ofValue,aA,aJ,invoke];refine jI hc ?_;rw [show args.map (λx=>ev E x)=vs from hv];simpa [bG] using h
theorem zO {f:FuncId} {g:Operand} {args:Array Operand} {ts:Array TypeId} {vs first captured:Γ} (ho:o.op=.call {callee:=.value g,args:=args,argTypes:=ts}) (hg:ev E g=.func (.func f) first captured) (hc:aB P f=true) (hv:args.map (ev E)=vs)
  (h:aj P f (first++vs++captured) F λv F'=>K (cJ E o.dst v) F'):aD P (execOp (ev E) o) F (bG P K o E):=by
 simp only [execOp,ho,resolve,hg,Deferred.ofValue,aA,aJ,invoke];refine jI hc ?_;rw [show args.map (λx=>ev E x)=vs from hv];exact h
theorem Gf {f:FuncId} {g:Operand} {args:Array Operand} {ts:Array TypeId} {vs first captured:Γ} (ho:o.op=.defer {callee:=.value g,args:=args,argTypes:=ts}) (hg:ev E g=.func (.func f) first captured) (hv:args.map (ev E)=vs)
  (hi:xW P ⟨.fn (.func f) captured,first++vs⟩) (h:K (cJ E o.dst undef) F):aD P (execOp (ev E) o) F (bG P K o E):=by
 simp only [execOp,ho,resolve,hg,Deferred.ofValue,aA,aJ];rw [show args.map (λx=>ev E x)=vs from hv];exact ⟨hi,h⟩
theorem Dt {x y:Operand} {ts:Array TypeId} {s u:Value} (ho:o.op=.call {callee:=.builtin .append,args:= #[x,y],argTypes:=ts}) (hx:ev E x=s) (hy:ev E y=u)
  (h:aD P (Builtin.append_ ts o.type #[s,u]) F λv F'=>K (cJ E o.dst v) F'):aD P (execOp (ev E) o) F (bG P K o E):=by
 simp [execOp,ho,resolve,hx,hy,invoke,builtin,bG];exact h
theorem Kp {x y:Operand} {ts:Array TypeId} {s u:Value} (ho:o.op=.call {callee:=.builtin .copy,args:= #[x,y],argTypes:=ts}) (hx:ev E x=s) (hy:ev E y=u)
  (h:aD P (Builtin.copy_ ts o.type #[s,u]) F λv F'=>K (cJ E o.dst v) F'):aD P (execOp (ev E) o) F (bG P K o E):=by
 simp [execOp,ho,resolve,hx,hy,invoke,builtin,bG];exact h
theorem vX {t:TypeId} {x y:Operand} {u v:Value} (ho:o.op=.makeSlice t x y) (hx:ev E x=u) (hy:ev E y=v)
  (h:aD P (Instr.makeSlice t u v) F λv F'=>K (cJ E o.dst v) F'):aD P (execOp (ev E) o) F (bG P K o E):=by
 simp [execOp,ho,hx,hy,bG];exact h
theorem xU {t:TypeId} (ho:o.op=.makeMap t none) (h:∀b,F b=none->K (cJ E o.dst (.map (some b))) (F.set b (.map #[] 0))):
  aD P (execOp (ev E) o) F (bG P K o E):=by
 simp only [execOp,ho,Instr.makeMap,Option.map_none,newObj,aA,aJ,aD,bG];exact h
theorem nr {t:TypeId} {x y z:Operand} {u v q:Value} (ho:o.op=.mapUpdate t x y z) (hx:ev E x=u) (hy:ev E y=v) (hz:ev E z=q)
  (h:aD P (Instr.mapUpdate t u v q) F λ_ F'=>K (cJ E o.dst undef) F'):aD P (execOp (ev E) o) F (bG P K o E):=by
 simp only [execOp,ho,hx,hy,hz,aA,aJ,bG];exact h
theorem vY {t:TypeId} {x y:Operand} {u v r:Value} {ok:Bool} (ho:o.op=.lookup t x y ok) (hx:ev E x=u) (hy:ev E y=v) (h:rdo P (Instr.lookup t u v ok) F r):RD P E F o r:=by simp only [RD,execOp,ho,hx,hy,ai,cx];exact ⟨r,h,rfl⟩
end
end Go.Proofs.YtcemhghkipgdiaaGreatDoor
