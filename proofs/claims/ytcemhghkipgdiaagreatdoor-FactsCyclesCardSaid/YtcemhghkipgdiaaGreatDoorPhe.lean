/-
  A program logic over partial heaps. Part 5: operations that write or make memory, and calls.
-/
import Derived.Test.YtcemhghkipgdiaaGreatDoorPhc
namespace Go.Proofs.YtcemhghkipgdiaaGreatDoor
open Go
structure Sl where
 base:Θ
 len:Nat
 cap:Nat
def Sl.v (s:Sl):Value:=.slice s.base s.len s.cap
def Sl.nil:Sl:=⟨none,0,0⟩
theorem aR {x:Int} (h1: -9223372036854775808<=x) (h2:x<=9223372036854775807):IntKind.i64.wrap x=x:=by
 have e:IntKind.i64.wrap x=if x % 18446744073709551616≥9223372036854775808 then x % 18446744073709551616 - 18446744073709551616 else x % 18446744073709551616:=by unfold IntKind.wrap;simp [IntKind.bits,IntKind.signed]
 rw [e];split<;>omega
section
variable {P:Program} {F:PH} {E:En} {o:Oper}
theorem Jw {x:Operand} {v:Value} (ho:o.op=.move x) (hx:ev E x=v):RD P E F o v:=by simp only [RD,execOp,ho,cy,hx]
theorem CH {x:Operand} {v:Value} (ho:o.op=.assign x) (hx:ev E x=v):RD P E F o v:=by simp only [RD,execOp,ho,cy,hx]
theorem tL {c a b:Operand} {t:Bool} {v:Value} (ho:o.op=.pick c a b) (hc:ev E c=.bool t) (h1:t=true->ev E a=v) (h2:t=false->ev E b=v):RD P E F o v:=by
 cases t
 ·simp [RD,execOp,ho,aj,hc,asBool,h2]
 ·simp [RD,execOp,ho,aj,hc,asBool,h1]
abbrev VP:=Value->PH->Prop
abbrev nx1 {α:Type} (I:Nat->α->Ψ) (m:Nat):α->Ψ:=λa F=>∃m',m'<m/\I m' a F
abbrev nx2 {α β:Type} (I:Nat->α->β->Ψ) (m:Nat):α->β->Ψ:=λa b F=>∃m',m'<m/\I m' a b F
abbrev nx3 {α β γ:Type} (I:Nat->α->β->γ->Ψ) (m:Nat):α->β->γ->Ψ:=λa b c F=>∃m',m'<m/\I m' a b c F
theorem Rf {c a b:Operand} {v:Value} (ho:o.op=.pick c a b) (hc:ev E c=.bool false) (h2:ev E b=v:=by rfl):RD P E F o v:=tL ho hc (λh=>by cases h) (λ_=>h2)
theorem Rg {c a b:Operand} {v:Value} (ho:o.op=.pick c a b) (hc:ev E c=.bool true) (h2:ev E a=v:=by rfl):RD P E F o v:=tL ho hc (λ_=>h2) (λh=>by cases h)
theorem xg {x:Operand} {a:Addr} (ho:o.op=.nilCheck x) (hx:ev E x=.pointer (some a)):RD P E F o (.pointer (some a)):=by simp [RD,execOp,ho,hx]
theorem vq {x:Operand} {f:FuncId} {a b:Γ} (ho:o.op=.nilCheck x) (hx:ev E x=.func (.func f) a b):RD P E F o (.func (.func f) a b):=by simp [RD,execOp,ho,hx]
theorem rW {x:Operand} {vs:Γ} {i:Nat} {v:Value} (ho:o.op=.extract x i) (hx:ev E x=.tuple vs) (hi:vs[i]? =some v):RD P E F o v:=by simp [RD,execOp,ho,hx,Instr.extract,hi,aj]
theorem xh {fn:Fn} {first captured:Array Operand} {a b:Γ} (ho:o.op=.makeFunc fn first captured) (h1:first.map (ev E)=a) (h2:captured.map (ev E)=b):
  RD P E F o (.func fn a b):=by
 simp [RD,execOp,ho,h1,h2,Instr.makeFunc,aj]
section
variable {x y:Operand} {t t':TypeId} {k:IntKind} {a b:Int}
theorem Mr (ho:o.op=.binOp .add t x y t') (hx:ev E x=.int k a) (hy:ev E y=.int k b):RD P E F o (.int k (k.wrap (a+b))):=by simp [RD,execOp,ho,hx,hy,binOp,eqGuard,Op.intArith,aj]
theorem Ms (ho:o.op=.binOp .sub t x y t') (hx:ev E x=.int k a) (hy:ev E y=.int k b):RD P E F o (.int k (k.wrap (a - b))):=by simp [RD,execOp,ho,hx,hy,binOp,eqGuard,Op.intArith,aj]
theorem Mt (ho:o.op=.binOp .mul t x y t') (hx:ev E x=.int k a) (hy:ev E y=.int k b):RD P E F o (.int k (k.wrap (a*b))):=by simp [RD,execOp,ho,hx,hy,binOp,eqGuard,Op.intArith,aj]
theorem HO (ho:o.op=.binOp .quo t x y t') (hx:ev E x=.int k a) (hy:ev E y=.int k b) (hb:b≠0):RD P E F o (.int k (k.wrap (a.tdiv b))):=by simp [RD,execOp,ho,hx,hy,binOp,eqGuard,Op.intDiv,aj,hb]
theorem HP (ho:o.op=.binOp .rem t x y t') (hx:ev E x=.int k a) (hy:ev E y=.int k b) (hb:b≠0):RD P E F o (.int k (a.tmod b)):=by simp [RD,execOp,ho,hx,hy,binOp,eqGuard,Op.intDiv,aj,hb]
theorem Mu (ho:o.op=.binOp .and t x y t') (hx:ev E x=.int k a) (hy:ev E y=.int k b):RD P E F o (.int k (k.wrap ((BitVec.ofInt k.bits a &&& BitVec.ofInt k.bits b).toNat))):=by simp [RD,execOp,ho,hx,hy,binOp,eqGuard,Op.intBits,aj]
theorem PT (ho:o.op=.binOp .or t x y t') (hx:ev E x=.int k a) (hy:ev E y=.int k b):RD P E F o (.int k (k.wrap ((BitVec.ofInt k.bits a ||| BitVec.ofInt k.bits b).toNat))):=by simp [RD,execOp,ho,hx,hy,binOp,eqGuard,Op.intBits,aj]
theorem Mv (ho:o.op=.binOp .xor t x y t') (hx:ev E x=.int k a) (hy:ev E y=.int k b):RD P E F o (.int k (k.wrap ((BitVec.ofInt k.bits a ^^^ BitVec.ofInt k.bits b).toNat))):=by simp [RD,execOp,ho,hx,hy,binOp,eqGuard,Op.intBits,aj]
theorem CI (ho:o.op=.binOp .andNot t x y t') (hx:ev E x=.int k a) (hy:ev E y=.int k b):RD P E F o (.int k (k.wrap ((BitVec.ofInt k.bits a &&& ~~~ BitVec.ofInt k.bits b).toNat))):=by simp [RD,execOp,ho,hx,hy,binOp,eqGuard,Op.intBits,aj]
theorem Mw (ho:o.op=.binOp .lss t x y t') (hx:ev E x=.int k a) (hy:ev E y=.int k b):RD P E F o (.bool (decide (a<b))):=by simp [RD,execOp,ho,hx,hy,binOp,eqGuard,Op.intCmp,aj]
theorem Mx (ho:o.op=.binOp .leq t x y t') (hx:ev E x=.int k a) (hy:ev E y=.int k b):RD P E F o (.bool (decide (a<=b))):=by simp [RD,execOp,ho,hx,hy,binOp,eqGuard,Op.intCmp,aj]
theorem My (ho:o.op=.binOp .gtr t x y t') (hx:ev E x=.int k a) (hy:ev E y=.int k b):RD P E F o (.bool (decide (b<a))):=by simp [RD,execOp,ho,hx,hy,binOp,eqGuard,Op.intCmp,aj]
theorem Mz (ho:o.op=.binOp .geq t x y t') (hx:ev E x=.int k a) (hy:ev E y=.int k b):RD P E F o (.bool (decide (b<=a))):=by simp [RD,execOp,ho,hx,hy,binOp,eqGuard,Op.intCmp,aj]
theorem MA (ho:o.op=.binOp .eql t x y t') (hx:ev E x=.int k a) (hy:ev E y=.int k b):RD P E F o (.bool (a==b)):=by simp [RD,execOp,ho,hx,hy,binOp,eqGuard,Op.intCmp,aj]
theorem MB (ho:o.op=.binOp .neq t x y t') (hx:ev E x=.int k a) (hy:ev E y=.int k b):RD P E F o (.bool (a !=b)):=by simp [RD,execOp,ho,hx,hy,binOp,eqGuard,Op.intCmp,aj]
theorem HQ {k':IntKind} (ho:o.op=.binOp .shl t x y t') (hx:ev E x=.int k a) (hy:ev E y=.int k' b) (hb:0<=b):RD P E F o (.int k (k.wrap (a*2 ^ (min b.toNat k.bits)))):=by simp [RD,execOp,ho,hx,hy,binOp,eqGuard,Op.shift,aj,Int.not_lt.2 hb]
theorem HR {k':IntKind} (ho:o.op=.binOp .shr t x y t') (hx:ev E x=.int k a) (hy:ev E y=.int k' b) (hb:0<=b):RD P E F o (.int k (a.fdiv (2 ^ (min b.toNat k.bits)))):=by simp [RD,execOp,ho,hx,hy,binOp,eqGuard,Op.shift,aj,Int.not_lt.2 hb]
theorem MC (ho:o.op=.unOp .neg t x) (hx:ev E x=.int k a):RD P E F o (.int k (k.wrap (0 - a))):=by simp [RD,execOp,ho,hx,Op.unary,Op.intArith,aj]
theorem CJ {c:Bool} (ho:o.op=.unOp .not t x) (hx:ev E x=.bool c):RD P E F o (.bool !c):=by simp [RD,execOp,ho,hx,Op.unary,aj]
theorem A6 {k':IntKind} {d:TypeDesc} (ho:o.op=.convert t t' x) (hx:ev E x=.int k a) (h1:P.underlying t=some d) (h2:P.underlying t'=some (.int k')):RD P E F o (.int k' (k'.wrap a)):=by simp [RD,execOp,ho,hx,convert,aj,av h1,av h2,Conv.intToInt]
theorem rX {m:Nat} {c d:Bool} (h1:P.underlying t=some .bool):rdo P (Op.equalIn (m+1) t (.bool c) (.bool d)) F (c==d):=by simp only [Op.equalIn,aj];exact ⟨_,(av h1 _).2 rfl,rfl⟩
theorem rY {m:Nat} {p:Θ} {e':TypeId} (h1:P.underlying t=some (.pointer e')):rdo P (Op.equalIn (m+1) t (.pointer p) (.pointer none)) F p.isNone:=by simp only [Op.equalIn,aj];refine ⟨_,(av h1 _).2 rfl,?_⟩;cases p<;>rfl
theorem ca {op:BinOp} {v u:Value} (h:(match v,u with| .nilIface,.nilIface=>false| .agg _,.agg _=>false|_,_=>true)=true):rdo P (eqGuard op t x y v u) F ():=by unfold eqGuard;cases op<;>simp<;>(split<;>first|(simp at h;done)|rfl)
theorem nX {v u:Value} {r:Bool} (ho:o.op=.binOp .eql t x y t') (hx:ev E x=v) (hy:ev E y=u) (hg:rdo P (eqGuard .eql t x y v u) F ()) (he:rdo P (Op.equal t v u) F r)
  (hb:binOp .eql t v u=(do pure (.bool (<- Op.equal t v u)))):RD P E F o (.bool r):=by
 simp only [RD,execOp,ho,hx,hy,aj];refine ⟨.bool r,⟨(),hg,?_⟩,rfl⟩;rw [hb,aj];exact ⟨r,he,rfl⟩
theorem nY {v u:Value} {r:Bool} (ho:o.op=.binOp .neq t x y t') (hx:ev E x=v) (hy:ev E y=u) (hg:rdo P (eqGuard .neq t x y v u) F ()) (he:rdo P (Op.equal t v u) F r)
  (hb:binOp .neq t v u=(do pure (.bool (!(<- Op.equal t v u))))):RD P E F o (.bool (!r)):=by
 simp only [RD,execOp,ho,hx,hy,aj];refine ⟨.bool (!r),⟨(),hg,?_⟩,rfl⟩;rw [hb,aj];exact ⟨r,he,rfl⟩
theorem Jx {c d:Bool} (ho:o.op=.binOp .eql t x y t') (hx:ev E x=.bool c) (hy:ev E y=.bool d) (h1:P.underlying t=some .bool):RD P E F o (.bool (c==d)):=
 nX ho hx hy (ca rfl) (rX h1) rfl
theorem Jy {c d:Bool} (ho:o.op=.binOp .neq t x y t') (hx:ev E x=.bool c) (hy:ev E y=.bool d) (h1:P.underlying t=some .bool):RD P E F o (.bool (!(c==d))):=
 nY ho hx hy (ca rfl) (rX h1) rfl
theorem vr {p:Θ} {e':TypeId} (ho:o.op=.binOp .eql t x y t') (hx:ev E x=.pointer p) (hy:ev E y=.pointer none) (h1:P.underlying t=some (.pointer e')):RD P E F o (.bool p.isNone):=
 nX ho hx hy (ca rfl) (rY h1) rfl
theorem vu {p:Θ} {e':TypeId} (ho:o.op=.binOp .neq t x y t') (hx:ev E x=.pointer p) (hy:ev E y=.pointer none) (h1:P.underlying t=some (.pointer e')):RD P E F o (.bool (!p.isNone)):=
 nY ho hx hy (ca rfl) (rY h1) rfl
theorem pF {m:Nat} {s:Sl} {e':TypeId} (h1:P.underlying t=some (.slice e')):rdo P (Op.equalIn (m+1) t s.v (.slice none 0 0)) F s.base.isNone:=by simp only [Op.equalIn,aj];refine ⟨_,(av h1 _).2 rfl,?_⟩;obtain ⟨b,l,c⟩:=s;cases b<;>rfl
theorem xj {s:Sl} {e':TypeId} (ho:o.op=.binOp .eql t x y t') (hx:ev E x=s.v) (hy:ev E y=.slice none 0 0) (h1:P.underlying t=some (.slice e')):RD P E F o (.bool s.base.isNone):=
 nX ho hx hy (ca rfl) (pF h1) rfl
theorem xk {s:Sl} {e':TypeId} (ho:o.op=.binOp .neq t x y t') (hx:ev E x=s.v) (hy:ev E y=.slice none 0 0) (h1:P.underlying t=some (.slice e')):RD P E F o (.bool (!s.base.isNone)):=
 nY ho hx hy (ca rfl) (pF h1) rfl
theorem Jz {c d:ByteArray} (ho:o.op=.binOp .eql t x y t') (hx:ev E x=.string c) (hy:ev E y=.string d):RD P E F o (.bool (c.toList==d.toList)):=by simp [RD,execOp,ho,hx,hy,binOp,eqGuard,aj,Op.stringOp]
theorem JA {c d:ByteArray} (ho:o.op=.binOp .neq t x y t') (hx:ev E x=.string c) (hy:ev E y=.string d):RD P E F o (.bool (!(c.toList==d.toList))):=by simp [RD,execOp,ho,hx,hy,binOp,eqGuard,aj,Op.stringOp]
end
section
variable {x y:Operand} {t t':TypeId} {k:IntKind} {a b:Int}
theorem Ff {s:Sl} {e':TypeId} (ho:o.op=.call {callee:=.builtin .len,args:= #[x],argTypes:= #[t]}) (hx:ev E x=s.v) (h1:P.underlying t=some (.slice e')):RD P E F o (.int .i64 s.len):=by simp [RD,execOp,ho,resolve,invoke,builtin,hx,Sl.v,Builtin.len_,aj,av h1,goInt]
theorem Fh {s:Sl} {e':TypeId} (ho:o.op=.call {callee:=.builtin .cap,args:= #[x],argTypes:= #[t]}) (hx:ev E x=s.v) (h1:P.underlying t=some (.slice e')):RD P E F o (.int .i64 s.cap):=by simp [RD,execOp,ho,resolve,invoke,builtin,hx,Sl.v,Builtin.cap_,aj,av h1,goInt]
theorem CL {s:ByteArray} (ho:o.op=.call {callee:=.builtin .len,args:= #[x],argTypes:= #[t]}) (hx:ev E x=.string s) (h1:P.underlying t=some .string):RD P E F o (.int .i64 s.size):=by simp [RD,execOp,ho,resolve,invoke,builtin,hx,Builtin.len_,aj,av h1,goInt]
theorem JB {ts:Array TypeId} (ho:o.op=.call {callee:=.builtin .max,args:= #[x,y],argTypes:=ts}) (hx:ev E x=.int k a) (hy:ev E y=.int k b):RD P E F o (.int k (max a b)):=by
 have:(if b>a then b else a)=max a b:=by omega
 simp [RD,execOp,ho,resolve,invoke,builtin,hx,hy,Builtin.max_,Builtin.max2,aj];omega
theorem JC {ts:Array TypeId} (ho:o.op=.call {callee:=.builtin .min,args:= #[x,y],argTypes:=ts}) (hx:ev E x=.int k a) (hy:ev E y=.int k b):RD P E F o (.int k (min a b)):=by simp [RD,execOp,ho,resolve,invoke,builtin,hx,hy,Builtin.min_,Builtin.min2,aj];omega
theorem JD {ts:Array TypeId} {z:Operand} {c:Int} (ho:o.op=.call {callee:=.builtin .max,args:= #[x,y,z],argTypes:=ts}) (hx:ev E x=.int k a) (hy:ev E y=.int k b) (hz:ev E z=.int k c):RD P E F o (.int k (max (max a b) c)):=by simp [RD,execOp,ho,resolve,invoke,builtin,hx,hy,hz,Builtin.max_,Builtin.max2,aj];omega
theorem JE {ts:Array TypeId} {z:Operand} {c:Int} (ho:o.op=.call {callee:=.builtin .min,args:= #[x,y,z],argTypes:=ts}) (hx:ev E x=.int k a) (hy:ev E y=.int k b) (hz:ev E z=.int k c):RD P E F o (.int k (min (min a b) c)):=by simp [RD,execOp,ho,resolve,invoke,builtin,hx,hy,hz,Builtin.min_,Builtin.min2,aj];omega
end
def jM (d:TypeDesc):Bool:=match d with| .struct _| .array _ _=>true|_=>false
theorem dq {t:Nat} {d:TypeDesc} (h:P.underlying t=some d) (v:Bool):rdo P (isAgg t) F v↔jM d=v:=by unfold isAgg;simp only [aj,av h,exists_eq_left'];cases d<;>simp [jM]
def PH.row (F:PH) (a:Addr) (cs:Γ):Prop:=∀i,(h:i<cs.size)->F.cell (a.add i)=some cs[i]
theorem kE {a:Addr}:∀(n i:Nat) (acc cs:Γ),cs.size=i+n->acc.toList=cs.toList.take i->F.row a cs->rdo P (loadCellsFrom a i n acc) F cs:=by
 intro n;induction n with
 |zero=>intro i acc cs hs ha _;show acc=cs;apply Array.ext';rw [ha,Rt];simp only [Rq];omega
 |succ n ih=>
  intro i acc cs hs ha hr;have hi:i<cs.size:=by omega
  simp only [loadCellsFrom,aj];refine ⟨cs[i],⟨_,hr i hi,rfl⟩,?_⟩;refine ih (i+1) _ cs (by omega) ?_ hr;rw [Array.toList_push,ha,RJ (by simpa using hi)];simp
theorem eP {a:Addr} {cs:Γ} (hr:F.row a cs):rdo P (loadCells a cs.size) F cs:=
 kE cs.size 0 #[] cs (by omega) (by simp) hr
theorem Fj {x:Operand} {t:TypeId} {d:TypeDesc} {a:Addr} {v:Value} (ho:o.op=.load t x) (hx:ev E x=.pointer (some a)) (h1:P.underlying t=some d) (h2:jM d=false) (hc:F.cell a=some v):
  RD P E F o v:=by
 simp [RD,execOp,ho,hx,Instr.loadAt,Instr.sureAddr,loadVar,aj,dq h1,h2,load,rdo,hc]
theorem Fl {x:Operand} {t:TypeId} {d:TypeDesc} {a:Addr} {cs:Γ} {b:Nat} (ho:o.op=.load t x) (hx:ev E x=.pointer (some a)) (h1:P.underlying t=some d) (h2:jM d=true)
  (h3:tsz P t=some (cs.size,b)) (hr:F.row a cs):RD P E F o (.agg cs):=by
 have:=eP (P:=P) hr;simp [RD,execOp,ho,hx,Instr.loadAt,Instr.sureAddr,loadVar,aj,dq h1,h2,bq h3,this]
theorem pG {a:Addr} {f:Field} {s b:Nat} (h:tsz P f.type=some (s,b)) (hs:s≠0) (v:Addr):rdo P (fieldPlace a f) F v↔a.add f.offset=v:=by simp [fieldPlace,aj,bq h,hs]
theorem vv {x:Operand} {t i:Nat} {a:Addr} {fs:Array Field} {f:Field} {s b:Nat} (ho:o.op=.fieldAddr t x i) (hx:ev E x=.pointer (some a)) (h1:P.underlying t=some (.struct fs))
  (h2:fs[i]? =some f) (h3:tsz P f.type=some (s,b)) (hs:s≠0):RD P E F o (.pointer (some (a.add f.offset))):=by
 simp [RD,execOp,ho,hx,Instr.fieldAt,Instr.sureAddr,aj,av h1,h2,pG h3 hs]
theorem rZ {t off:Nat} {d:TypeDesc} {cs:Γ} {v:Value} (h1:P.underlying t=some d) (h2:jM d=false) (hc:cs[off]? =some v):rdo P (part t cs off) F v:=by simp [part,aj,dq h1,h2,hc]
theorem A7 {t off s b:Nat} {d:TypeDesc} {cs:Γ} (h1:P.underlying t=some d) (h2:jM d=true) (h3:tsz P t=some (s,b)):rdo P (part t cs off) F (.agg (cs.extract off (off+s))):=by simp [part,aj,dq h1,h2,bq h3]
theorem CM {x:Operand} {t i:Nat} {cs:Γ} {fs:Array Field} {f:Field} {d:TypeDesc} {v:Value} (ho:o.op=.field t x i) (hx:ev E x=.agg cs) (h1:P.underlying t=some (.struct fs))
  (h2:fs[i]? =some f) (h3:P.underlying f.type=some d) (h4:jM d=false) (hc:cs[f.offset]? =some v):RD P E F o v:=by
 simp only [RD,execOp,ho,hx,Instr.field,aj,av h1,asAgg,cy];exact ⟨v,⟨_,rfl,by simp only [h2,aj,cy,exists_eq_left'];exact rZ h3 h4 hc⟩,rfl⟩
theorem CN {x:Operand} {t i s b:Nat} {cs:Γ} {fs:Array Field} {f:Field} {d:TypeDesc} (ho:o.op=.field t x i) (hx:ev E x=.agg cs) (h1:P.underlying t=some (.struct fs))
  (h2:fs[i]? =some f) (h3:P.underlying f.type=some d) (h4:jM d=true) (h5:tsz P f.type=some (s,b)):RD P E F o (.agg (cs.extract f.offset (f.offset+s))):=by
 simp only [RD,execOp,ho,hx,Instr.field,aj,av h1,asAgg,cy];exact ⟨_,⟨_,rfl,by simp only [h2,aj,cy,exists_eq_left'];exact A7 h3 h4 h5⟩,rfl⟩
theorem rj {x y:Operand} {t e' s b:Nat} {base:Addr} {len cap:Nat} {k:IntKind} {i:Int} (ho:o.op=.indexAddr t x y) (hx:ev E x=.slice (some base) len cap) (hy:ev E y=.int k i)
  (h1:P.underlying t=some (.slice e')) (h2:tsz P e'=some (s,b)) (h3:0<=i) (h4:i<len):RD P E F o (.pointer (some (base.add (i.toNat*s)))):=by
 simp [RD,execOp,ho,hx,hy,Instr.indexAt,asIntOf,aj,av h1,h3,h4,bq h2]
theorem rk {x y:Operand} {t e' s b n:Nat} {base:Addr} {k:IntKind} {i:Int} (ho:o.op=.indexAddr t x y) (hx:ev E x=.pointer (some base)) (hy:ev E y=.int k i)
  (h1:P.underlying t=some (.array n e')) (h2:tsz P e'=some (s,b)) (h3:0<=i) (h4:i<n):RD P E F o (.pointer (some (base.add (i.toNat*s)))):=by
 simp [RD,execOp,ho,hx,hy,Instr.indexAt,asIntOf,aj,av h1,h3,h4,bq h2,Instr.sureAddr]
theorem xm {x y:Operand} {t:Nat} {st:ByteArray} {k:IntKind} {i:Int} (ho:o.op=.index t x y) (hx:ev E x=.string st) (hy:ev E y=.int k i)
  (h1:P.underlying t=some .string) (h3:0<=i) (h4:i<st.size):RD P E F o (.int .u8 (st[i.toNat]'(by omega)).toNat):=by
 have h5:i.toNat<st.size:=by omega
 have:st[i.toNat]? =some (st[i.toNat]'h5):=getElem?_pos st i.toNat h5;simp [RD,execOp,ho,hx,hy,Instr.index,asIntOf,aj,av h1,h3,this]
theorem vx {x y:Operand} {t e' n s b:Nat} {cs:Γ} {k:IntKind} {i:Int} {d:TypeDesc} {v:Value} (ho:o.op=.index t x y) (hx:ev E x=.agg cs) (hy:ev E y=.int k i)
  (h1:P.underlying t=some (.array n e')) (h2:tsz P e'=some (s,b)) (hd:P.underlying e'=some d) (hag:jM d=false) (h3:0<=i) (h4:i<n) (hc:cs[i.toNat*s]? =some v):RD P E F o v:=by
 simp only [RD,execOp,ho,hx,hy,Instr.index,asIntOf,aj,av h1,cy];refine ⟨v,⟨(k,i),rfl,.array n e',rfl,?_⟩,rfl⟩;simp only [h3,h4,and_self,if_true,aj,bq h2];exact ⟨_,rfl,rZ hd hag hc⟩
theorem cj {k:IntKind} {i:Int} {y:Nat} {c:BoundsCode} (h1:0<=i) (h2:i<=y) (v:Nat):rdo P (Instr.sliceBound (.int k i) y c) F v↔i.toNat=v:=by simp [Instr.sliceBound,asIntOf,aj,h1,h2]
def dr (v:Option Value) (dflt:Nat) (r:Nat):Prop:=(v=none/\r=dflt)\/∃k i,v=some (.int k i)/\0<=i/\i.toNat=r
theorem eL {sl:Bool} {len cap:Nat} {lo hi:Option Value} {l h:Nat} (hh:dr hi len h) (hl:dr lo 0 l) (h1:l<=h) (h2:h<=cap) (v:Nat×Nat×Nat):
  rdo P (Instr.sliceBounds sl len cap lo hi none) F v↔(l,h,cap)=v:=by
 rcases hh with ⟨rfl,rfl⟩|⟨k,i,rfl,hi0,rfl⟩<;>rcases hl with ⟨rfl,rfl⟩|⟨k',j,rfl,hj0,rfl⟩
 ·simp [Instr.sliceBounds,aj]
 ·have e2:∀c x,rdo P (Instr.sliceBound (.int k' j) h c) F x↔j.toNat=x:=λc x=>cj hj0 (by omega) x;cases sl<;>simp [Instr.sliceBounds,aj,e2]
 ·have e1:∀c x,rdo P (Instr.sliceBound (.int k i) cap c) F x↔i.toNat=x:=λc x=>cj hi0 (by omega) x;cases sl<;>simp [Instr.sliceBounds,aj,e1]
 ·have e1:∀c x,rdo P (Instr.sliceBound (.int k i) cap c) F x↔i.toNat=x:=λc x=>cj hi0 (by omega) x;have e2:∀c x,rdo P (Instr.sliceBound (.int k' j) i.toNat c) F x↔j.toNat=x:=λc x=>cj hj0 (by omega) x;cases sl<;>simp [Instr.sliceBounds,aj,e1,e2]
theorem lY {sl:Bool} {len cap:Nat} {lo:Option Value} {k k':IntKind} {i m:Int} {l:Nat} (hl:dr lo 0 l) (h0:0<=i) (hm0:0<=m) (h1:l<=i.toNat) (h2:i<=m) (h3:m<=cap) (v:Nat×Nat×Nat):
  rdo P (Instr.sliceBounds sl len cap lo (some (.int k i)) (some (.int k' m))) F v↔(l,i.toNat,m.toNat)=v:=by
 have e1:∀c x,rdo P (Instr.sliceBound (.int k' m) cap c) F x↔m.toNat=x:=λc x=>cj hm0 h3 x;have e2:∀c x,rdo P (Instr.sliceBound (.int k i) m.toNat c) F x↔i.toNat=x:=λc x=>cj h0 (by omega) x;rcases hl with ⟨rfl,rfl⟩|⟨k'',j,rfl,hj0,rfl⟩
 ·cases sl<;>simp [Instr.sliceBounds,aj,e1,e2]
 ·have e3:∀c x,rdo P (Instr.sliceBound (.int k'' j) i.toNat c) F x↔j.toNat=x:=λc x=>cj hj0 (by omega) x;cases sl<;>simp [Instr.sliceBounds,aj,e1,e2,e3]
def Sl.cut (s:Sl) (size l h m:Nat):Sl:=⟨if m=l then s.base else s.base.map (·.add (l*size)),h - l,m - l⟩
theorem A8 {x:Operand} {lo hi:Option Operand} {t e' size b:Nat} {s:Sl} {l h:Nat} (ho:o.op=.slice t x lo hi none) (hx:ev E x=s.v) (h1:P.underlying t=some (.slice e')) (h2:tsz P e'=some (size,b))
  (hl:dr (lo.map (ev E)) 0 l) (hh:dr (hi.map (ev E)) s.len h) (h3:l<=h) (h4:h<=s.cap):RD P E F o (s.cut size l h s.cap).v:=by
 have:=eL (P:=P) (F:=F) (sl:=true) hh hl h3 h4;simp [RD,execOp,ho,hx,Instr.sliceAt,Instr.slice,Sl.v,Sl.cut,aj,av h1,bq h2,this]
theorem xn {x hi mx:Operand} {lo:Option Operand} {t e' size b:Nat} {s:Sl} {l:Nat} {k k':IntKind} {i m:Int} (ho:o.op=.slice t x lo (some hi) (some mx)) (hx:ev E x=s.v) (h1:P.underlying t=some (.slice e')) (h2:tsz P e'=some (size,b))
  (hl:dr (lo.map (ev E)) 0 l) (hi':ev E hi=.int k i) (hm:ev E mx=.int k' m) (h0:0<=i) (hm0:0<=m) (h3:l<=i.toNat) (h4:i<=m) (h5:m<=s.cap):RD P E F o (s.cut size l i.toNat m.toNat).v:=by
 have:=lY (P:=P) (F:=F) (sl:=true) (len:=s.len) (k:=k) (k':=k') hl h0 hm0 h3 h4 h5;simp [RD,execOp,ho,hx,Instr.sliceAt,Instr.slice,Sl.v,Sl.cut,aj,av h1,bq h2,hi',hm,this]
theorem r4 {x:Operand} {lo hi:Option Operand} {t e' size b n:Nat} {a:Addr} {l h:Nat} (ho:o.op=.slice t x lo hi none) (hx:ev E x=.pointer (some a)) (h1:P.underlying t=some (.array n e')) (h2:tsz P e'=some (size,b))
  (hl:dr (lo.map (ev E)) 0 l) (hh:dr (hi.map (ev E)) n h) (h3:l<=h) (h4:h<=n):RD P E F o (Sl.cut ⟨some a,n,n⟩ size l h n).v:=by
 have:=eL (P:=P) (F:=F) (sl:=false) hh hl h3 h4;simp [RD,execOp,ho,hx,Instr.sliceAt,Instr.sureAddr,Sl.v,Sl.cut,aj,av h1,bq h2,this];split<;>rfl
theorem xo {x:Operand} {lo hi:Option Operand} {t:Nat} {s:ByteArray} {l h:Nat} (ho:o.op=.slice t x lo hi none) (hx:ev E x=.string s) (h1:P.underlying t=some .string)
  (hl:dr (lo.map (ev E)) 0 l) (hh:dr (hi.map (ev E)) s.size h) (h3:l<=h) (h4:h<=s.size):RD P E F o (.string (s.extract l h)):=by
 have:=eL (P:=P) (F:=F) (sl:=false) hh hl h3 h4;simp [RD,execOp,ho,hx,Instr.sliceAt,Instr.slice,aj,av h1,this]
end
section
variable {P:Program} {F:PH} {E:En} {o:Oper} {K:En->Ψ}
def kF (P:Program) (fs:Array Field):Array (Nat×Nat):=fs.map λf=>(f.offset,P.cellsOf f.type)
def iR (P:Program) (fs:Array Field):Bool:=fs.all λf=>(P.info? f.type).isSome
theorem vy {t:Nat} (h:(P.info? t).isSome=true):rdo P (sizeOf t) F (P.cellsOf t):=by
 cases hi:P.info? t with
 |none=>simp [hi] at h
 |some i=>
  have:tsz P t=some (i.size,i.bytes):=by simp [tsz,hi]
  rw [bq this];simp [Program.cellsOf,hi]
theorem jx {α β:Type} (f:α->Sem β) (g:α->β):∀(l:List α),(∀x∈l,rdo P (f x) F (g x))->rdo P (l.mapM f) F (l.map g)
 |[],_=>by simp
 |x::l,h=>by have h1:=h x (SA ..);have h2:=jx f g l λy hy=>h y (RA _ hy);simp only [List.mapM_cons,aj,RT];exact ⟨_,h1,_,h2,rfl⟩
theorem xp {fs:Array Field} (h:iR P fs=true):rdo P (fs.mapM λf=>do pure (f.offset,<- sizeOf f.type)) F (kF P fs):=by
 have hall:∀f∈fs.toList,(P.info? f.type).isSome=true:=by intro f hf;have:=Array.all_eq_true_iff_forall_mem.1 h f (by simpa using hf);exact this
 rw [Array.mapM_eq_mapM_toList];have:=jx (P:=P) (F:=F) (λf:Field=>(do pure (f.offset,<- sizeOf f.type):Sem (Nat×Nat))) (λf=>(f.offset,P.cellsOf f.type)) fs.toList
  (λf hf=>by simp only [aj];exact ⟨_,vy (hall f hf),rfl⟩)
 refine (FB _ _ _ _).2 ⟨_,this,?_⟩;apply Array.ext';simp [kF]
theorem rm {t:Nat} {parts:Array (Nat×Operand)} {fs:Array Field} {z:Value} {vs:List (Nat×Value)} {cells:Γ} (ho:o.op=.build t parts) (h1:P.underlying t=some (.struct fs)) (hz:bS P t=some z)
  (hk:iR P fs=true) (hv:(parts.map λ(i,x)=>(i,ev E x)).toList=vs) (hf:Instr.fill (λi=>(kF P fs)[i]?) z.cells vs=some cells):RD P E F o (.agg cells):=by
 simp only [RD,execOp,ho,aj,Instr.build,cy];refine ⟨_,⟨_,(gl hz _).2 rfl,_,(av h1 _).2 rfl,?_⟩,rfl⟩;simp only [aj];refine ⟨_,by have:=xp (P:=P) (F:=F) hk;simpa [aj] using this,?_⟩;rw [hv,hf];rfl
theorem tM {t n e' s b:Nat} {parts:Array (Nat×Operand)} {z:Value} {vs:List (Nat×Value)} {cells:Γ} (ho:o.op=.build t parts) (h1:P.underlying t=some (.array n e')) (hz:bS P t=some z)
  (h2:tsz P e'=some (s,b)) (hv:(parts.map λ(i,x)=>(i,ev E x)).toList=vs) (hf:Instr.fill (λi=>some (i*s,s)) z.cells vs=some cells):RD P E F o (.agg cells):=by
 simp only [RD,execOp,ho,aj,Instr.build,cy];refine ⟨_,⟨_,(gl hz _).2 rfl,_,(av h1 _).2 rfl,?_⟩,rfl⟩;simp only [aj,bq h2,exists_eq_left'];rw [hv,hf];rfl
theorem Fm {t:Nat} {z:Value} (ho:o.op=.alloc t) (hz:bS P t=some z) (h:∀b,F b=none->K (cM E o.dst (.pointer (some ⟨b,0,none⟩))) (F.set b (.cells z.cells t))):
  aE P (execOp (ev E) o) F (bI P K o E):=by
 simp only [execOp,ho,Instr.alloc,aB,eg hz,aK,bI,newVar,newRow,newObj];exact h
theorem CO {t:Nat} {x:Operand} {v:Value} (ho:o.op=.box t x) (hx:ev E x=v) (h:∀b,F b=none->K (cM E o.dst (.pointer (some ⟨b,0,none⟩))) (F.set b (.cells v.cells t))):
  aE P (execOp (ev E) o) F (bI P K o E):=by
 simp only [execOp,ho,Instr.box,aB,aK,bI,newVar,newRow,newObj,hx];exact h
theorem gT {t e' s b n:Nat} {parts:Array (Nat×Operand)} {z:Value} {vs:List (Nat×Value)} {cells:Γ} (ho:o.op=.buildSlice t n parts) (h1:P.underlying t=some (.slice e')) (h2:tsz P e'=some (s,b))
  (hn:n*s<=16777216) (hz:bS P e'=some z) (hv:(parts.map λ(i,x)=>(i,ev E x)).toList=vs) (hf:Instr.fill (λi=>some (i*s,s)) (Builtin.zeroCells z.cells n) vs=some cells) (hs:n*s=n*z.cells.size)
  (h:∀b,F b=none->K (cM E o.dst (.slice (some ⟨b,0,none⟩) n n)) (F.set b (.cells cells e'))):
  aE P (execOp (ev E) o) F (bI P K o E):=by
 simp only [execOp,ho,Instr.buildSlice,aB,bW h1,eZ h2];rw [if_neg (by omega)];by_cases h0:n*s=0
 ·have hzz:(Array.range (n*s)).map (λi=>(#[]:Γ)[i % (#[]:Γ).size]!)=Builtin.zeroCells z.cells n:=by simp [Builtin.zeroCells,h0,<- hs]
  rw [if_pos h0];simp only [aB,aK];rw [hzz,hv,hf];simp only [aB,aK,newRow,newObj,bI];exact h
 ·have hzz:(Array.range (n*s)).map (λi=>z.cells[i % z.cells.size]!)=Builtin.zeroCells z.cells n:=by simp [Builtin.zeroCells,hs]
  rw [if_neg h0];simp only [aB,eg hz,aK];rw [hzz,hv,hf];simp only [aB,aK,newRow,newObj,bI];exact h
def wr (c:Γ) (off:Nat):Ξ->Γ
 |[]=>c
 |v::vs=>wr (c.setIfInBounds off v) (off+1) vs
theorem dK (vs:Ξ):∀(c:Γ) (off:Nat),(wr c off vs).size=c.size:=by
 induction vs with
 |nil=>intro c off;rfl
 |cons v vs ih=>intro c off;simp [wr,ih]
theorem tN (vs:Ξ):∀(c:Γ) (off i:Nat),off+vs.length<=c.size->(wr c off vs)[i]? =if off<=i/\i<off+vs.length then vs[i - off]? else c[i]? :=by
 induction vs with
 |nil=>intro c off i _;simp [wr];omega
 |cons v vs ih=>
  intro c off i h;simp only [RN] at h;rw [wr,ih _ _ _ (by simp;omega),Array.getElem?_setIfInBounds];by_cases h1:off=i
  ·subst h1;rw [if_neg (by omega),if_pos rfl,if_pos (by omega),if_pos (by simp)];simp
  ·by_cases h2:off+1<=i/\i<off+1+vs.length
   ·rw [if_pos h2,if_pos (by simp;omega)];rw [show i - off=(i - (off+1))+1 by omega,Sh]
   ·rw [if_neg h2,if_neg h1,if_neg (by simp;omega)]
theorem yZ (F:PH) (b:Nat) (o o':Obj):(F.set b o).set b o'=F.set b o':=by funext x;unfold PH.set;split<;>rfl
theorem Fo (F:PH) (b:Nat) (o:Obj):(F.set b o) b=some o:=by simp [PH.set]
theorem xq (F:PH) {b x:Nat} (o:Obj) (h:x≠b):(F.set b o) x=F x:=by simp [PH.set,h]
theorem fi {e':TypeId}:∀(vs:Ξ) (i:Nat) (F:PH) (a:Addr) (c:Γ) (Q:Unit->Ψ),a.spot=none->F a.block=some (.cells c e' (0,0))->a.off+i+vs.length<=c.size->
  (∀v∈vs,al v)->vs≠[]->Q () (F.set a.block (.cells (wr c (a.off+i) vs) e'))->aE P (storeCells a vs i) F Q:=by
 intro vs;induction vs with
 |nil=>intro i F a c Q _ _ _ _ h;exact absurd rfl h
 |cons v vs ih=>
  intro i F a c Q hsp hb hl hst _ hq;simp only [RN] at hl;have hoff:(a.add i).off=a.off+i:=by unfold Addr.add;split<;>simp_all
  have hblk:(a.add i).block=a.block:=by unfold Addr.add;split<;>rfl
  have hspo:(a.add i).spot=none:=by unfold Addr.add;split<;>simp_all
  simp only [storeCells,aB,store,aE];refine ⟨hst v (SA ..),c,e',(0,0),by rw [hblk];exact hb,hspo,by rw [hoff];omega,by simp [frz],?_⟩;rw [hblk,hoff];cases vs with
  |nil=>exact hq
  |cons u us=>refine ih (i+1) _ a (c.setIfInBounds (a.off+i) v) Q hsp (Fo _ _ _) (by simp;simp at hl;omega) (λx hx=>hst x (RA _ hx)) (by simp) ?_;rw [yZ];exact hq
theorem CP {t:Nat} {x y:Operand} {a:Addr} {v:Value} {c:Γ} {e' s b:Nat} (ho:o.op=.store t x y) (hx:ev E x=.pointer (some a)) (hy:ev E y=v) (hsz:tsz P t=some (s,b)) (h1:v.cells= #[v]) (hs:s=1) (hst:al v)
  (hsp:a.spot=none) (hb:F a.block=some (.cells c e' (0,0))) (hl:a.off<c.size) (h:K (cM E o.dst undef) (F.set a.block (.cells (c.setIfInBounds a.off v) e'))):
  aE P (execOp (ev E) o) F (bI P K o E):=by
 subst hs;simp only [execOp,ho,hx,hy,Instr.storeAt,Instr.sureAddr,aB,aK,storeVar,eZ hsz,h1];simp only [Tb,RN,List.length_nil,ne_eq,RB,not_true_eq_false,if_false];refine fi [v] 0 F a c _ hsp hb (by simp;omega) (by simpa using hst) (by simp) ?_;exact h
theorem CQ {t:Nat} {x y:Operand} {a:Addr} {vs c:Γ} {e' s b:Nat} (ho:o.op=.store t x y) (hx:ev E x=.pointer (some a)) (hy:ev E y=.agg vs) (hsz:tsz P t=some (s,b)) (hs:vs.size=s) (hst:∀v∈vs.toList,al v)
  (h0:vs.toList≠[]) (hsp:a.spot=none) (hb:F a.block=some (.cells c e' (0,0))) (hl:a.off+s<=c.size) (h:K (cM E o.dst undef) (F.set a.block (.cells (wr c a.off vs.toList) e'))):
  aE P (execOp (ev E) o) F (bI P K o E):=by
 subst hs;simp only [execOp,ho,hx,hy,Instr.storeAt,Instr.sureAddr,aB,aK,storeVar,eZ hsz,Value.cells];simp only [ne_eq,not_true_eq_false,if_false];exact fi vs.toList 0 F a c _ hsp hb (by simpa using hl) hst h0 h
def aC (P:Program) (f:FuncId):Bool:=match P.funcs[f]? with|some fn=> !(fn.name== "runtime.NumGoroutine") && fn.body.isSome|none=>false
theorem jy {f:FuncId} {args:Γ} {Q:Next->Ψ} (hc:aC P f=true) (h:Q (.enter f args) F):aE P (callFunc f args) F Q:=by
 unfold aC at hc;cases hf:P.funcs[f]? with
 |none=>simp [hf] at hc
 |some fn=>
  simp only [hf,Sa,Bool.not_eq_true'] at hc;simp only [callFunc,aB,program,aE,hf,hc.1];have:fn.body.isNone=false:=by cases hb:fn.body<;>simp_all
  simp only [this,RY,if_false,aK];exact h
theorem JF {f:FuncId} {args:Array Operand} {ts:Array TypeId} {vs:Γ} (ho:o.op=.call {callee:=.value (.func f),args:=args,argTypes:=ts}) (hc:aC P f=true) (hv:args.map (ev E)=vs)
  (h:ak P f vs F λv F'=>K (cM E o.dst v) F'):aE P (execOp (ev E) o) F (bI P K o E):=by
 simp only [execOp,ho,resolve,ev,Deferred.ofValue,aB,aK,invoke];refine jy hc ?_;rw [show args.map (λx=>ev E x)=vs from hv];simpa [bI] using h
theorem y4 {f:FuncId} {g:Operand} {args:Array Operand} {ts:Array TypeId} {vs first captured:Γ} (ho:o.op=.call {callee:=.value g,args:=args,argTypes:=ts}) (hg:ev E g=.func (.func f) first captured) (hc:aC P f=true) (hv:args.map (ev E)=vs)
  (h:ak P f (first++vs++captured) F λv F'=>K (cM E o.dst v) F'):aE P (execOp (ev E) o) F (bI P K o E):=by
 simp only [execOp,ho,resolve,hg,Deferred.ofValue,aB,aK,invoke];refine jy hc ?_;rw [show args.map (λx=>ev E x)=vs from hv];exact h
theorem Fp {f:FuncId} {g:Operand} {args:Array Operand} {ts:Array TypeId} {vs first captured:Γ} (ho:o.op=.defer {callee:=.value g,args:=args,argTypes:=ts}) (hg:ev E g=.func (.func f) first captured) (hv:args.map (ev E)=vs)
  (hi:xv P ⟨.fn (.func f) captured,first++vs⟩) (h:K (cM E o.dst undef) F):aE P (execOp (ev E) o) F (bI P K o E):=by
 simp only [execOp,ho,resolve,hg,Deferred.ofValue,aB,aK];rw [show args.map (λx=>ev E x)=vs from hv];exact ⟨hi,h⟩
theorem CR {x y:Operand} {ts:Array TypeId} {s u:Value} (ho:o.op=.call {callee:=.builtin .append,args:= #[x,y],argTypes:=ts}) (hx:ev E x=s) (hy:ev E y=u)
  (h:aE P (Builtin.append_ ts o.type #[s,u]) F λv F'=>K (cM E o.dst v) F'):aE P (execOp (ev E) o) F (bI P K o E):=by
 simp [execOp,ho,resolve,hx,hy,aB,invoke,builtin,bI];exact h
theorem JG {x y:Operand} {ts:Array TypeId} {s u:Value} (ho:o.op=.call {callee:=.builtin .copy,args:= #[x,y],argTypes:=ts}) (hx:ev E x=s) (hy:ev E y=u)
  (h:aE P (Builtin.copy_ ts o.type #[s,u]) F λv F'=>K (cM E o.dst v) F'):aE P (execOp (ev E) o) F (bI P K o E):=by
 simp [execOp,ho,resolve,hx,hy,aB,invoke,builtin,bI];exact h
theorem vz {t:TypeId} {x y:Operand} {u v:Value} (ho:o.op=.makeSlice t x y) (hx:ev E x=u) (hy:ev E y=v)
  (h:aE P (Instr.makeSlice t u v) F λv F'=>K (cM E o.dst v) F'):aE P (execOp (ev E) o) F (bI P K o E):=by
 simp [execOp,ho,hx,hy,aB,bI];exact h
theorem xr {t:TypeId} (ho:o.op=.makeMap t none) (h:∀b,F b=none->K (cM E o.dst (.map (some b))) (F.set b (.map #[] 0))):
  aE P (execOp (ev E) o) F (bI P K o E):=by
 simp only [execOp,ho,Instr.makeMap,Option.map_none,newObj,aB,aK,aE,bI];exact h
theorem mW {t:TypeId} {x y z:Operand} {u v q:Value} (ho:o.op=.mapUpdate t x y z) (hx:ev E x=u) (hy:ev E y=v) (hz:ev E z=q)
  (h:aE P (Instr.mapUpdate t u v q) F λ_ F'=>K (cM E o.dst undef) F'):aE P (execOp (ev E) o) F (bI P K o E):=by
 simp only [execOp,ho,hx,hy,hz,aB,aK,bI];exact h
theorem vA {t:TypeId} {x y:Operand} {u v r:Value} {ok:Bool} (ho:o.op=.lookup t x y ok) (hx:ev E x=u) (hy:ev E y=v) (h:rdo P (Instr.lookup t u v ok) F r):RD P E F o r:=by simp only [RD,execOp,ho,hx,hy,aj,cy];exact ⟨r,h,rfl⟩
end
end Go.Proofs.YtcemhghkipgdiaaGreatDoor
