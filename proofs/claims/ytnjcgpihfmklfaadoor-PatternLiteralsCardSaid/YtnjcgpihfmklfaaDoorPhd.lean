/-
  A program logic over partial heaps. Part 4: each operation that reads at most.
-/
import Derived.Test.YtnjcgpihfmklfaaDoorPhc
namespace Go.Proofs.YtnjcgpihfmklfaaDoor
open Go

structure Sl where
  base : Option Addr
  len : Nat
  cap : Nat
def Sl.v (s : Sl) : Value := .slice s.base s.len s.cap
def Sl.nil : Sl := ⟨none, 0, 0⟩

abbrev w64 (x : Int) : Int := IntKind.i64.wrap x
theorem w64_eq {x : Int} (h1 : -9223372036854775808 ≤ x) (h2 : x ≤ 9223372036854775807) : IntKind.i64.wrap x = x := by
  have e : IntKind.i64.wrap x = if x % 18446744073709551616 ≥ 9223372036854775808 then x % 18446744073709551616 - 18446744073709551616 else x % 18446744073709551616 := by
    unfold IntKind.wrap
    simp [IntKind.bits, IntKind.signed]
  rw [e]
  split <;> omega
theorem wu8_eq {x : Int} (h1 : 0 ≤ x) (h2 : x ≤ 255) : IntKind.u8.wrap x = x := by
  unfold IntKind.wrap
  simp only [IntKind.bits, IntKind.signed]
  simp only [Bool.false_and, Bool.false_eq_true, if_false]
  omega

section
variable {P : Program} {F : PH} {E : En} {o : Oper}

theorem r_move {x : Operand} {v : Value} (ho : o.op = .move x) (hx : ev E x = v) : RD P E F o v := by
  simp only [RD, execOp, ho, rdo_pure, hx]
theorem r_assign {x : Operand} {v : Value} (ho : o.op = .assign x) (hx : ev E x = v) : RD P E F o v := by
  simp only [RD, execOp, ho, rdo_pure, hx]
theorem r_pick {c a b : Operand} {t : Bool} {v : Value} (ho : o.op = .pick c a b) (hc : ev E c = .bool t) (h1 : t = true → ev E a = v) (h2 : t = false → ev E b = v) : RD P E F o v := by
  cases t
  · simp [RD, execOp, ho, rdo_bind, hc, asBool, h2]
  · simp [RD, execOp, ho, rdo_bind, hc, asBool, h1]
theorem r_nilCheck {x : Operand} {a : Addr} (ho : o.op = .nilCheck x) (hx : ev E x = .pointer (some a)) : RD P E F o (.pointer (some a)) := by
  simp [RD, execOp, ho, hx]
theorem r_nilCheckF {x : Operand} {f : FuncId} {a b : Array Value} (ho : o.op = .nilCheck x) (hx : ev E x = .func (.func f) a b) : RD P E F o (.func (.func f) a b) := by
  simp [RD, execOp, ho, hx]
theorem r_extract {x : Operand} {vs : Array Value} {i : Nat} {v : Value} (ho : o.op = .extract x i) (hx : ev E x = .tuple vs) (hi : vs[i]? = some v) : RD P E F o v := by
  simp [RD, execOp, ho, hx, Instr.extract, hi, rdo_bind]
theorem r_makeFunc {fn : Fn} {first captured : Array Operand} {a b : Array Value} (ho : o.op = .makeFunc fn first captured) (h1 : first.map (ev E) = a) (h2 : captured.map (ev E) = b) :
    RD P E F o (.func fn a b) := by
  simp [RD, execOp, ho, h1, h2, Instr.makeFunc, rdo_bind]

/-! integers -/
section
variable {x y : Operand} {t t' : TypeId} {k : IntKind} {a b : Int}
theorem r_add (ho : o.op = .binOp .add t x y t') (hx : ev E x = .int k a) (hy : ev E y = .int k b) : RD P E F o (.int k (k.wrap (a + b))) := by
  simp [RD, execOp, ho, hx, hy, binOp, eqGuard, Op.intArith, rdo_bind]
theorem r_sub (ho : o.op = .binOp .sub t x y t') (hx : ev E x = .int k a) (hy : ev E y = .int k b) : RD P E F o (.int k (k.wrap (a - b))) := by
  simp [RD, execOp, ho, hx, hy, binOp, eqGuard, Op.intArith, rdo_bind]
theorem r_mul (ho : o.op = .binOp .mul t x y t') (hx : ev E x = .int k a) (hy : ev E y = .int k b) : RD P E F o (.int k (k.wrap (a * b))) := by
  simp [RD, execOp, ho, hx, hy, binOp, eqGuard, Op.intArith, rdo_bind]
theorem r_quo (ho : o.op = .binOp .quo t x y t') (hx : ev E x = .int k a) (hy : ev E y = .int k b) (hb : b ≠ 0) : RD P E F o (.int k (k.wrap (a.tdiv b))) := by
  simp [RD, execOp, ho, hx, hy, binOp, eqGuard, Op.intDiv, rdo_bind, hb]
theorem r_rem (ho : o.op = .binOp .rem t x y t') (hx : ev E x = .int k a) (hy : ev E y = .int k b) (hb : b ≠ 0) : RD P E F o (.int k (a.tmod b)) := by
  simp [RD, execOp, ho, hx, hy, binOp, eqGuard, Op.intDiv, rdo_bind, hb]
theorem r_and (ho : o.op = .binOp .and t x y t') (hx : ev E x = .int k a) (hy : ev E y = .int k b) : RD P E F o (.int k (k.wrap ((BitVec.ofInt k.bits a &&& BitVec.ofInt k.bits b).toNat))) := by
  simp [RD, execOp, ho, hx, hy, binOp, eqGuard, Op.intBits, rdo_bind]
theorem r_or (ho : o.op = .binOp .or t x y t') (hx : ev E x = .int k a) (hy : ev E y = .int k b) : RD P E F o (.int k (k.wrap ((BitVec.ofInt k.bits a ||| BitVec.ofInt k.bits b).toNat))) := by
  simp [RD, execOp, ho, hx, hy, binOp, eqGuard, Op.intBits, rdo_bind]
theorem r_xor (ho : o.op = .binOp .xor t x y t') (hx : ev E x = .int k a) (hy : ev E y = .int k b) : RD P E F o (.int k (k.wrap ((BitVec.ofInt k.bits a ^^^ BitVec.ofInt k.bits b).toNat))) := by
  simp [RD, execOp, ho, hx, hy, binOp, eqGuard, Op.intBits, rdo_bind]
theorem r_andNot (ho : o.op = .binOp .andNot t x y t') (hx : ev E x = .int k a) (hy : ev E y = .int k b) : RD P E F o (.int k (k.wrap ((BitVec.ofInt k.bits a &&& ~~~ BitVec.ofInt k.bits b).toNat))) := by
  simp [RD, execOp, ho, hx, hy, binOp, eqGuard, Op.intBits, rdo_bind]
theorem r_lss (ho : o.op = .binOp .lss t x y t') (hx : ev E x = .int k a) (hy : ev E y = .int k b) : RD P E F o (.bool (decide (a < b))) := by
  simp [RD, execOp, ho, hx, hy, binOp, eqGuard, Op.intCmp, rdo_bind]
theorem r_leq (ho : o.op = .binOp .leq t x y t') (hx : ev E x = .int k a) (hy : ev E y = .int k b) : RD P E F o (.bool (decide (a ≤ b))) := by
  simp [RD, execOp, ho, hx, hy, binOp, eqGuard, Op.intCmp, rdo_bind]
theorem r_gtr (ho : o.op = .binOp .gtr t x y t') (hx : ev E x = .int k a) (hy : ev E y = .int k b) : RD P E F o (.bool (decide (b < a))) := by
  simp [RD, execOp, ho, hx, hy, binOp, eqGuard, Op.intCmp, rdo_bind]
theorem r_geq (ho : o.op = .binOp .geq t x y t') (hx : ev E x = .int k a) (hy : ev E y = .int k b) : RD P E F o (.bool (decide (b ≤ a))) := by
  simp [RD, execOp, ho, hx, hy, binOp, eqGuard, Op.intCmp, rdo_bind]
theorem r_eql (ho : o.op = .binOp .eql t x y t') (hx : ev E x = .int k a) (hy : ev E y = .int k b) : RD P E F o (.bool (a == b)) := by
  simp [RD, execOp, ho, hx, hy, binOp, eqGuard, Op.intCmp, rdo_bind]
theorem r_neq (ho : o.op = .binOp .neq t x y t') (hx : ev E x = .int k a) (hy : ev E y = .int k b) : RD P E F o (.bool (a != b)) := by
  simp [RD, execOp, ho, hx, hy, binOp, eqGuard, Op.intCmp, rdo_bind]
theorem r_shl {k' : IntKind} (ho : o.op = .binOp .shl t x y t') (hx : ev E x = .int k a) (hy : ev E y = .int k' b) (hb : 0 ≤ b) : RD P E F o (.int k (k.wrap (a * 2 ^ (min b.toNat k.bits)))) := by
  simp [RD, execOp, ho, hx, hy, binOp, eqGuard, Op.shift, rdo_bind, Int.not_lt.2 hb]
theorem r_shr {k' : IntKind} (ho : o.op = .binOp .shr t x y t') (hx : ev E x = .int k a) (hy : ev E y = .int k' b) (hb : 0 ≤ b) : RD P E F o (.int k (a.fdiv (2 ^ (min b.toNat k.bits)))) := by
  simp [RD, execOp, ho, hx, hy, binOp, eqGuard, Op.shift, rdo_bind, Int.not_lt.2 hb]
theorem r_neg (ho : o.op = .unOp .neg t x) (hx : ev E x = .int k a) : RD P E F o (.int k (k.wrap (0 - a))) := by
  simp [RD, execOp, ho, hx, Op.unary, Op.intArith, rdo_bind]
theorem r_not {c : Bool} (ho : o.op = .unOp .not t x) (hx : ev E x = .bool c) : RD P E F o (.bool !c) := by
  simp [RD, execOp, ho, hx, Op.unary, rdo_bind]
theorem r_convInt {k' : IntKind} {d : TypeDesc} (ho : o.op = .convert t t' x) (hx : ev E x = .int k a) (h1 : P.underlying t = some d) (h2 : P.underlying t' = some (.int k')) : RD P E F o (.int k' (k'.wrap a)) := by
  simp [RD, execOp, ho, hx, convert, rdo_bind, rdo_underlying h1, rdo_underlying h2, Conv.intToInt]
theorem rdo_eqInB {m : Nat} {c d : Bool} (h1 : P.underlying t = some .bool) : rdo P (Op.equalIn (m + 1) t (.bool c) (.bool d)) F (c == d) := by
  simp only [Op.equalIn, rdo_bind]
  exact ⟨_, (rdo_underlying h1 _).2 rfl, rfl⟩
theorem rdo_eqInP {m : Nat} {p : Option Addr} {e' : TypeId} (h1 : P.underlying t = some (.pointer e')) : rdo P (Op.equalIn (m + 1) t (.pointer p) (.pointer none)) F p.isNone := by
  simp only [Op.equalIn, rdo_bind]
  refine ⟨_, (rdo_underlying h1 _).2 rfl, ?_⟩
  cases p <;> rfl
theorem eqGuard_none {op : BinOp} {v u : Value} (h : (match v, u with | .nilIface, .nilIface => false | .agg _, .agg _ => false | _, _ => true) = true) : rdo P (eqGuard op t x y v u) F () := by
  unfold eqGuard
  cases op <;> simp <;> (split <;> first | (simp at h; done) | rfl)
theorem r_eqlOf {v u : Value} {r : Bool} (ho : o.op = .binOp .eql t x y t') (hx : ev E x = v) (hy : ev E y = u) (hg : rdo P (eqGuard .eql t x y v u) F ()) (he : rdo P (Op.equal t v u) F r)
    (hb : binOp .eql t v u = (do pure (.bool (← Op.equal t v u)))) : RD P E F o (.bool r) := by
  simp only [RD, execOp, ho, hx, hy, rdo_bind]
  refine ⟨.bool r, ⟨(), hg, ?_⟩, rfl⟩
  rw [hb, rdo_bind]
  exact ⟨r, he, rfl⟩
theorem r_neqOf {v u : Value} {r : Bool} (ho : o.op = .binOp .neq t x y t') (hx : ev E x = v) (hy : ev E y = u) (hg : rdo P (eqGuard .neq t x y v u) F ()) (he : rdo P (Op.equal t v u) F r)
    (hb : binOp .neq t v u = (do pure (.bool (!(← Op.equal t v u))))) : RD P E F o (.bool (!r)) := by
  simp only [RD, execOp, ho, hx, hy, rdo_bind]
  refine ⟨.bool (!r), ⟨(), hg, ?_⟩, rfl⟩
  rw [hb, rdo_bind]
  exact ⟨r, he, rfl⟩
theorem r_eqlB {c d : Bool} (ho : o.op = .binOp .eql t x y t') (hx : ev E x = .bool c) (hy : ev E y = .bool d) (h1 : P.underlying t = some .bool) : RD P E F o (.bool (c == d)) :=
  r_eqlOf ho hx hy (eqGuard_none rfl) (rdo_eqInB h1) rfl
theorem r_neqB {c d : Bool} (ho : o.op = .binOp .neq t x y t') (hx : ev E x = .bool c) (hy : ev E y = .bool d) (h1 : P.underlying t = some .bool) : RD P E F o (.bool (!(c == d))) :=
  r_neqOf ho hx hy (eqGuard_none rfl) (rdo_eqInB h1) rfl
theorem r_eqlNil {p : Option Addr} {e' : TypeId} (ho : o.op = .binOp .eql t x y t') (hx : ev E x = .pointer p) (hy : ev E y = .pointer none) (h1 : P.underlying t = some (.pointer e')) : RD P E F o (.bool p.isNone) :=
  r_eqlOf ho hx hy (eqGuard_none rfl) (rdo_eqInP h1) rfl
theorem r_neqNil {p : Option Addr} {e' : TypeId} (ho : o.op = .binOp .neq t x y t') (hx : ev E x = .pointer p) (hy : ev E y = .pointer none) (h1 : P.underlying t = some (.pointer e')) : RD P E F o (.bool (!p.isNone)) :=
  r_neqOf ho hx hy (eqGuard_none rfl) (rdo_eqInP h1) rfl
theorem rdo_eqInSl {m : Nat} {s : Sl} {e' : TypeId} (h1 : P.underlying t = some (.slice e')) : rdo P (Op.equalIn (m + 1) t s.v (.slice none 0 0)) F s.base.isNone := by
  simp only [Op.equalIn, rdo_bind]
  refine ⟨_, (rdo_underlying h1 _).2 rfl, ?_⟩
  obtain ⟨b, l, c⟩ := s
  cases b <;> rfl
theorem r_eqlSlNil {s : Sl} {e' : TypeId} (ho : o.op = .binOp .eql t x y t') (hx : ev E x = s.v) (hy : ev E y = .slice none 0 0) (h1 : P.underlying t = some (.slice e')) : RD P E F o (.bool s.base.isNone) :=
  r_eqlOf ho hx hy (eqGuard_none rfl) (rdo_eqInSl h1) rfl
theorem r_neqSlNil {s : Sl} {e' : TypeId} (ho : o.op = .binOp .neq t x y t') (hx : ev E x = s.v) (hy : ev E y = .slice none 0 0) (h1 : P.underlying t = some (.slice e')) : RD P E F o (.bool (!s.base.isNone)) :=
  r_neqOf ho hx hy (eqGuard_none rfl) (rdo_eqInSl h1) rfl
theorem r_eqlS {c d : ByteArray} (ho : o.op = .binOp .eql t x y t') (hx : ev E x = .string c) (hy : ev E y = .string d) : RD P E F o (.bool (c.toList == d.toList)) := by
  simp [RD, execOp, ho, hx, hy, binOp, eqGuard, rdo_bind, Op.stringOp]
theorem r_neqS {c d : ByteArray} (ho : o.op = .binOp .neq t x y t') (hx : ev E x = .string c) (hy : ev E y = .string d) : RD P E F o (.bool (!(c.toList == d.toList))) := by
  simp [RD, execOp, ho, hx, hy, binOp, eqGuard, rdo_bind, Op.stringOp]
end

/-! builtins -/
section
variable {x y : Operand} {t t' : TypeId} {k : IntKind} {a b : Int}
theorem r_lenSl {s : Sl} {e' : TypeId} (ho : o.op = .call { callee := .builtin .len, args := #[x], argTypes := #[t] }) (hx : ev E x = s.v) (h1 : P.underlying t = some (.slice e')) : RD P E F o (.int .i64 s.len) := by
  simp [RD, execOp, ho, resolve, invoke, builtin, hx, Sl.v, Builtin.len_, rdo_bind, rdo_underlying h1, goInt]
theorem r_capSl {s : Sl} {e' : TypeId} (ho : o.op = .call { callee := .builtin .cap, args := #[x], argTypes := #[t] }) (hx : ev E x = s.v) (h1 : P.underlying t = some (.slice e')) : RD P E F o (.int .i64 s.cap) := by
  simp [RD, execOp, ho, resolve, invoke, builtin, hx, Sl.v, Builtin.cap_, rdo_bind, rdo_underlying h1, goInt]
theorem r_lenStr {s : ByteArray} (ho : o.op = .call { callee := .builtin .len, args := #[x], argTypes := #[t] }) (hx : ev E x = .string s) (h1 : P.underlying t = some .string) : RD P E F o (.int .i64 s.size) := by
  simp [RD, execOp, ho, resolve, invoke, builtin, hx, Builtin.len_, rdo_bind, rdo_underlying h1, goInt]
theorem r_max2 {ts : Array TypeId} (ho : o.op = .call { callee := .builtin .max, args := #[x, y], argTypes := ts }) (hx : ev E x = .int k a) (hy : ev E y = .int k b) : RD P E F o (.int k (max a b)) := by
  have : (if b > a then b else a) = max a b := by omega
  simp [RD, execOp, ho, resolve, invoke, builtin, hx, hy, Builtin.max_, Builtin.max2, rdo_bind]
  omega
theorem r_min2 {ts : Array TypeId} (ho : o.op = .call { callee := .builtin .min, args := #[x, y], argTypes := ts }) (hx : ev E x = .int k a) (hy : ev E y = .int k b) : RD P E F o (.int k (min a b)) := by
  simp [RD, execOp, ho, resolve, invoke, builtin, hx, hy, Builtin.min_, Builtin.min2, rdo_bind]
  omega
theorem r_max3 {ts : Array TypeId} {z : Operand} {c : Int} (ho : o.op = .call { callee := .builtin .max, args := #[x, y, z], argTypes := ts }) (hx : ev E x = .int k a) (hy : ev E y = .int k b) (hz : ev E z = .int k c) : RD P E F o (.int k (max (max a b) c)) := by
  simp [RD, execOp, ho, resolve, invoke, builtin, hx, hy, hz, Builtin.max_, Builtin.max2, rdo_bind]
  omega
theorem r_min3 {ts : Array TypeId} {z : Operand} {c : Int} (ho : o.op = .call { callee := .builtin .min, args := #[x, y, z], argTypes := ts }) (hx : ev E x = .int k a) (hy : ev E y = .int k b) (hz : ev E z = .int k c) : RD P E F o (.int k (min (min a b) c)) := by
  simp [RD, execOp, ho, resolve, invoke, builtin, hx, hy, hz, Builtin.min_, Builtin.min2, rdo_bind]
  omega
end

/-! memory -/
theorem add_add (a : Addr) (i j : Nat) (h : a.spot = none) : (a.add i).add j = a.add (i + j) := by
  cases a
  simp only at h
  subst h
  simp only [Addr.add]
  by_cases hi : i = 0 <;> by_cases hj : j = 0 <;> simp [hi, hj, Nat.add_assoc]

def aggT (d : TypeDesc) : Bool := match d with | .struct _ | .array _ _ => true | _ => false

theorem rdo_isAgg {t : Nat} {d : TypeDesc} (h : P.underlying t = some d) (v : Bool) : rdo P (isAgg t) F v ↔ aggT d = v := by
  unfold isAgg
  simp only [rdo_bind, rdo_underlying h, exists_eq_left']
  cases d <;> simp [aggT]
theorem runs_isAgg {t : Nat} {d : TypeDesc} (h : P.underlying t = some d) (Q : Bool → PH → Prop) : runs P (isAgg t) F Q ↔ Q (aggT d) F := by
  unfold isAgg
  simp only [runs_bind', runs_underlying h]
  cases d <;> simp [aggT]

/-- The n cells from a on are cs. -/
def PH.row (F : PH) (a : Addr) (cs : Array Value) : Prop := ∀ i, (h : i < cs.size) → F.cell (a.add i) = some cs[i]

theorem rdo_loadCellsFrom {a : Addr} : ∀ (n i : Nat) (acc cs : Array Value), cs.size = i + n → acc.toList = cs.toList.take i → F.row a cs → rdo P (loadCellsFrom a i n acc) F cs := by
  intro n
  induction n with
  | zero =>
    intro i acc cs hs ha _
    show acc = cs
    apply Array.ext'
    rw [ha, List.take_of_length_le]
    simp only [Array.length_toList]
    omega
  | succ n ih =>
    intro i acc cs hs ha hr
    have hi : i < cs.size := by omega
    simp only [loadCellsFrom, rdo_bind]
    refine ⟨cs[i], ⟨_, hr i hi, rfl⟩, ?_⟩
    refine ih (i + 1) _ cs (by omega) ?_ hr
    rw [Array.toList_push, ha, List.take_succ_eq_append_getElem (by simpa using hi)]
    simp

theorem rdo_loadCells {a : Addr} {cs : Array Value} (hr : F.row a cs) : rdo P (loadCells a cs.size) F cs :=
  rdo_loadCellsFrom cs.size 0 #[] cs (by omega) (by simp) hr

theorem r_load1 {x : Operand} {t : TypeId} {d : TypeDesc} {a : Addr} {v : Value} (ho : o.op = .load t x) (hx : ev E x = .pointer (some a)) (h1 : P.underlying t = some d) (h2 : aggT d = false) (hc : F.cell a = some v) :
    RD P E F o v := by
  simp [RD, execOp, ho, hx, Instr.loadAt, Instr.sureAddr, loadVar, rdo_bind, rdo_isAgg h1, h2, load, rdo, hc]
theorem r_loadN {x : Operand} {t : TypeId} {d : TypeDesc} {a : Addr} {cs : Array Value} {b : Nat} (ho : o.op = .load t x) (hx : ev E x = .pointer (some a)) (h1 : P.underlying t = some d) (h2 : aggT d = true)
    (h3 : tsz P t = some (cs.size, b)) (hr : F.row a cs) : RD P E F o (.agg cs) := by
  have := rdo_loadCells (P := P) hr
  simp [RD, execOp, ho, hx, Instr.loadAt, Instr.sureAddr, loadVar, rdo_bind, rdo_isAgg h1, h2, rdo_sizeOf h3, this]

theorem rdo_fieldPlace {a : Addr} {f : Field} {s b : Nat} (h : tsz P f.type = some (s, b)) (hs : s ≠ 0) (v : Addr) : rdo P (fieldPlace a f) F v ↔ a.add f.offset = v := by
  simp [fieldPlace, rdo_bind, rdo_sizeOf h, hs]
theorem r_fieldAddr {x : Operand} {t i : Nat} {a : Addr} {fs : Array Field} {f : Field} {s b : Nat} (ho : o.op = .fieldAddr t x i) (hx : ev E x = .pointer (some a)) (h1 : P.underlying t = some (.struct fs))
    (h2 : fs[i]? = some f) (h3 : tsz P f.type = some (s, b)) (hs : s ≠ 0) : RD P E F o (.pointer (some (a.add f.offset))) := by
  simp [RD, execOp, ho, hx, Instr.fieldAt, Instr.sureAddr, rdo_bind, rdo_underlying h1, h2, rdo_fieldPlace h3 hs]
theorem rdo_part1 {t off : Nat} {d : TypeDesc} {cs : Array Value} {v : Value} (h1 : P.underlying t = some d) (h2 : aggT d = false) (hc : cs[off]? = some v) : rdo P (part t cs off) F v := by
  simp [part, rdo_bind, rdo_isAgg h1, h2, hc]
theorem rdo_partN {t off s b : Nat} {d : TypeDesc} {cs : Array Value} (h1 : P.underlying t = some d) (h2 : aggT d = true) (h3 : tsz P t = some (s, b)) : rdo P (part t cs off) F (.agg (cs.extract off (off + s))) := by
  simp [part, rdo_bind, rdo_isAgg h1, h2, rdo_sizeOf h3]
theorem r_field1 {x : Operand} {t i : Nat} {cs : Array Value} {fs : Array Field} {f : Field} {d : TypeDesc} {v : Value} (ho : o.op = .field t x i) (hx : ev E x = .agg cs) (h1 : P.underlying t = some (.struct fs))
    (h2 : fs[i]? = some f) (h3 : P.underlying f.type = some d) (h4 : aggT d = false) (hc : cs[f.offset]? = some v) : RD P E F o v := by
  simp only [RD, execOp, ho, hx, Instr.field, rdo_bind, rdo_underlying h1, asAgg, rdo_pure]
  exact ⟨v, ⟨_, rfl, by simp only [h2, rdo_bind, rdo_pure, exists_eq_left']; exact rdo_part1 h3 h4 hc⟩, rfl⟩
theorem r_fieldN {x : Operand} {t i s b : Nat} {cs : Array Value} {fs : Array Field} {f : Field} {d : TypeDesc} (ho : o.op = .field t x i) (hx : ev E x = .agg cs) (h1 : P.underlying t = some (.struct fs))
    (h2 : fs[i]? = some f) (h3 : P.underlying f.type = some d) (h4 : aggT d = true) (h5 : tsz P f.type = some (s, b)) : RD P E F o (.agg (cs.extract f.offset (f.offset + s))) := by
  simp only [RD, execOp, ho, hx, Instr.field, rdo_bind, rdo_underlying h1, asAgg, rdo_pure]
  exact ⟨_, ⟨_, rfl, by simp only [h2, rdo_bind, rdo_pure, exists_eq_left']; exact rdo_partN h3 h4 h5⟩, rfl⟩

theorem r_indexAddrSl {x y : Operand} {t e' s b : Nat} {base : Addr} {len cap : Nat} {k : IntKind} {i : Int} (ho : o.op = .indexAddr t x y) (hx : ev E x = .slice (some base) len cap) (hy : ev E y = .int k i)
    (h1 : P.underlying t = some (.slice e')) (h2 : tsz P e' = some (s, b)) (h3 : 0 ≤ i) (h4 : i < len) : RD P E F o (.pointer (some (base.add (i.toNat * s)))) := by
  simp [RD, execOp, ho, hx, hy, Instr.indexAt, asIntOf, rdo_bind, rdo_underlying h1, h3, h4, rdo_sizeOf h2]
theorem r_indexAddrAr {x y : Operand} {t e' s b n : Nat} {base : Addr} {k : IntKind} {i : Int} (ho : o.op = .indexAddr t x y) (hx : ev E x = .pointer (some base)) (hy : ev E y = .int k i)
    (h1 : P.underlying t = some (.array n e')) (h2 : tsz P e' = some (s, b)) (h3 : 0 ≤ i) (h4 : i < n) : RD P E F o (.pointer (some (base.add (i.toNat * s)))) := by
  simp [RD, execOp, ho, hx, hy, Instr.indexAt, asIntOf, rdo_bind, rdo_underlying h1, h3, h4, rdo_sizeOf h2, Instr.sureAddr]
theorem r_indexStr {x y : Operand} {t : Nat} {st : ByteArray} {k : IntKind} {i : Int} (ho : o.op = .index t x y) (hx : ev E x = .string st) (hy : ev E y = .int k i)
    (h1 : P.underlying t = some .string) (h3 : 0 ≤ i) (h4 : i < st.size) : RD P E F o (.int .u8 (st[i.toNat]'(by omega)).toNat) := by
  have h5 : i.toNat < st.size := by omega
  have : st[i.toNat]? = some (st[i.toNat]'h5) := getElem?_pos st i.toNat h5
  simp [RD, execOp, ho, hx, hy, Instr.index, asIntOf, rdo_bind, rdo_underlying h1, h3, this]
theorem r_indexAgg1 {x y : Operand} {t e' n s b : Nat} {cs : Array Value} {k : IntKind} {i : Int} {d : TypeDesc} {v : Value} (ho : o.op = .index t x y) (hx : ev E x = .agg cs) (hy : ev E y = .int k i)
    (h1 : P.underlying t = some (.array n e')) (h2 : tsz P e' = some (s, b)) (hd : P.underlying e' = some d) (hag : aggT d = false) (h3 : 0 ≤ i) (h4 : i < n) (hc : cs[i.toNat * s]? = some v) : RD P E F o v := by
  simp only [RD, execOp, ho, hx, hy, Instr.index, asIntOf, rdo_bind, rdo_underlying h1, rdo_pure]
  refine ⟨v, ⟨(k, i), rfl, .array n e', rfl, ?_⟩, rfl⟩
  simp only [h3, h4, and_self, if_true, rdo_bind, rdo_sizeOf h2]
  exact ⟨_, rfl, rdo_part1 hd hag hc⟩

/-! slice expressions -/
def ivOf (v : Option Value) (dflt : Int) : Option Int := match v with | some (.int _ i) => some i | some _ => none | none => some dflt
theorem rdo_sliceBound {k : IntKind} {i : Int} {y : Nat} {c : BoundsCode} (h1 : 0 ≤ i) (h2 : i ≤ y) (v : Nat) : rdo P (Instr.sliceBound (.int k i) y c) F v ↔ i.toNat = v := by
  simp [Instr.sliceBound, asIntOf, rdo_bind, h1, h2]
def boundOk (v : Option Value) (dflt : Nat) (r : Nat) : Prop := (v = none ∧ r = dflt) ∨ ∃ k i, v = some (.int k i) ∧ 0 ≤ i ∧ i.toNat = r
theorem rdo_sliceBounds2 {sl : Bool} {len cap : Nat} {lo hi : Option Value} {l h : Nat} (hh : boundOk hi len h) (hl : boundOk lo 0 l) (h1 : l ≤ h) (h2 : h ≤ cap) (v : Nat × Nat × Nat) :
    rdo P (Instr.sliceBounds sl len cap lo hi none) F v ↔ (l, h, cap) = v := by
  rcases hh with ⟨rfl, rfl⟩ | ⟨k, i, rfl, hi0, rfl⟩ <;> rcases hl with ⟨rfl, rfl⟩ | ⟨k', j, rfl, hj0, rfl⟩
  · simp [Instr.sliceBounds, rdo_bind]
  · have e2 : ∀ c x, rdo P (Instr.sliceBound (.int k' j) h c) F x ↔ j.toNat = x := fun c x => rdo_sliceBound hj0 (by omega) x
    cases sl <;> simp [Instr.sliceBounds, rdo_bind, e2]
  · have e1 : ∀ c x, rdo P (Instr.sliceBound (.int k i) cap c) F x ↔ i.toNat = x := fun c x => rdo_sliceBound hi0 (by omega) x
    cases sl <;> simp [Instr.sliceBounds, rdo_bind, e1]
  · have e1 : ∀ c x, rdo P (Instr.sliceBound (.int k i) cap c) F x ↔ i.toNat = x := fun c x => rdo_sliceBound hi0 (by omega) x
    have e2 : ∀ c x, rdo P (Instr.sliceBound (.int k' j) i.toNat c) F x ↔ j.toNat = x := fun c x => rdo_sliceBound hj0 (by omega) x
    cases sl <;> simp [Instr.sliceBounds, rdo_bind, e1, e2]
theorem rdo_sliceBounds3 {sl : Bool} {len cap : Nat} {lo : Option Value} {k k' : IntKind} {i m : Int} {l : Nat} (hl : boundOk lo 0 l) (h0 : 0 ≤ i) (hm0 : 0 ≤ m) (h1 : l ≤ i.toNat) (h2 : i ≤ m) (h3 : m ≤ cap) (v : Nat × Nat × Nat) :
    rdo P (Instr.sliceBounds sl len cap lo (some (.int k i)) (some (.int k' m))) F v ↔ (l, i.toNat, m.toNat) = v := by
  have e1 : ∀ c x, rdo P (Instr.sliceBound (.int k' m) cap c) F x ↔ m.toNat = x := fun c x => rdo_sliceBound hm0 h3 x
  have e2 : ∀ c x, rdo P (Instr.sliceBound (.int k i) m.toNat c) F x ↔ i.toNat = x := fun c x => rdo_sliceBound h0 (by omega) x
  rcases hl with ⟨rfl, rfl⟩ | ⟨k'', j, rfl, hj0, rfl⟩
  · cases sl <;> simp [Instr.sliceBounds, rdo_bind, e1, e2]
  · have e3 : ∀ c x, rdo P (Instr.sliceBound (.int k'' j) i.toNat c) F x ↔ j.toNat = x := fun c x => rdo_sliceBound hj0 (by omega) x
    cases sl <;> simp [Instr.sliceBounds, rdo_bind, e1, e2, e3]

/-- s[l:h] -/
def Sl.cut (s : Sl) (size l h m : Nat) : Sl := ⟨if m = l then s.base else s.base.map (·.add (l * size)), h - l, m - l⟩
theorem r_sliceSl {x : Operand} {lo hi : Option Operand} {t e' size b : Nat} {s : Sl} {l h : Nat} (ho : o.op = .slice t x lo hi none) (hx : ev E x = s.v) (h1 : P.underlying t = some (.slice e')) (h2 : tsz P e' = some (size, b))
    (hl : boundOk (lo.map (ev E)) 0 l) (hh : boundOk (hi.map (ev E)) s.len h) (h3 : l ≤ h) (h4 : h ≤ s.cap) : RD P E F o (s.cut size l h s.cap).v := by
  have := rdo_sliceBounds2 (P := P) (F := F) (sl := true) hh hl h3 h4
  simp [RD, execOp, ho, hx, Instr.sliceAt, Instr.slice, Sl.v, Sl.cut, rdo_bind, rdo_underlying h1, rdo_sizeOf h2, this]
theorem r_sliceSl3 {x hi mx : Operand} {lo : Option Operand} {t e' size b : Nat} {s : Sl} {l : Nat} {k k' : IntKind} {i m : Int} (ho : o.op = .slice t x lo (some hi) (some mx)) (hx : ev E x = s.v) (h1 : P.underlying t = some (.slice e')) (h2 : tsz P e' = some (size, b))
    (hl : boundOk (lo.map (ev E)) 0 l) (hi' : ev E hi = .int k i) (hm : ev E mx = .int k' m) (h0 : 0 ≤ i) (hm0 : 0 ≤ m) (h3 : l ≤ i.toNat) (h4 : i ≤ m) (h5 : m ≤ s.cap) : RD P E F o (s.cut size l i.toNat m.toNat).v := by
  have := rdo_sliceBounds3 (P := P) (F := F) (sl := true) (len := s.len) (k := k) (k' := k') hl h0 hm0 h3 h4 h5
  simp [RD, execOp, ho, hx, Instr.sliceAt, Instr.slice, Sl.v, Sl.cut, rdo_bind, rdo_underlying h1, rdo_sizeOf h2, hi', hm, this]
theorem r_sliceAr {x : Operand} {lo hi : Option Operand} {t e' size b n : Nat} {a : Addr} {l h : Nat} (ho : o.op = .slice t x lo hi none) (hx : ev E x = .pointer (some a)) (h1 : P.underlying t = some (.array n e')) (h2 : tsz P e' = some (size, b))
    (hl : boundOk (lo.map (ev E)) 0 l) (hh : boundOk (hi.map (ev E)) n h) (h3 : l ≤ h) (h4 : h ≤ n) : RD P E F o (Sl.cut ⟨some a, n, n⟩ size l h n).v := by
  have := rdo_sliceBounds2 (P := P) (F := F) (sl := false) hh hl h3 h4
  simp [RD, execOp, ho, hx, Instr.sliceAt, Instr.sureAddr, Sl.v, Sl.cut, rdo_bind, rdo_underlying h1, rdo_sizeOf h2, this]
  split <;> rfl
theorem r_sliceStr {x : Operand} {lo hi : Option Operand} {t : Nat} {s : ByteArray} {l h : Nat} (ho : o.op = .slice t x lo hi none) (hx : ev E x = .string s) (h1 : P.underlying t = some .string)
    (hl : boundOk (lo.map (ev E)) 0 l) (hh : boundOk (hi.map (ev E)) s.size h) (h3 : l ≤ h) (h4 : h ≤ s.size) : RD P E F o (.string (s.extract l h)) := by
  have := rdo_sliceBounds2 (P := P) (F := F) (sl := false) hh hl h3 h4
  simp [RD, execOp, ho, hx, Instr.sliceAt, Instr.slice, rdo_bind, rdo_underlying h1, this]
end
end Go.Proofs.YtnjcgpihfmklfaaDoor
