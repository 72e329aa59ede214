/-
  A program logic over partial heaps: strings put together, compared, made of bytes; ranges over strings.
-/
import Derived.Test.YtnjcgpihfmklfaaDoorPho
namespace Go.Proofs.YtnjcgpihfmklfaaDoor
open Go
section
variable {P : Program} {F : PH} {E : En} {o : Oper} {x y : Operand} {t t' : TypeId}
theorem r_addS {c d : ByteArray} (ho : o.op = .binOp .add t x y t') (hx : ev E x = .string c) (hy : ev E y = .string d) (h : c.size + d.size ≤ 9223372036854775807) : RD P E F o (.string (c ++ d)) := by
 have e : IntKind.i64.max = 9223372036854775807 := by decide
 have hn : ¬ (((c.size + d.size : Nat) : Int) > IntKind.i64.max) := by rw [e]; omega
 simp only [RD, execOp, ho, hx, hy, rdo_bind]
 refine ⟨.string (c ++ d), ⟨(), eqGuard_none rfl, ?_⟩, rfl⟩
 show rdo P (Op.stringOp .add c d) F _
 unfold Op.stringOp
 simp only [if_neg hn]
 rfl
theorem r_convBS {e : TypeId} {v : Value} {s : ByteArray} (ho : o.op = .convert t t' x) (hx : ev E x = v) (h1 : P.underlying t = some (.slice e)) (h2 : P.underlying t' = some .string) (h3 : P.underlying e = some (.int .u8))
  (hv : ∃ b l c, v = .slice b l c) (h : rdo P (Conv.bytesToString v) F (.string s)) : RD P E F o (.string s) := by
 obtain ⟨b, l, c, rfl⟩ := hv
 simp only [RD, execOp, ho, hx, rdo_bind, convert]
 refine ⟨_, ⟨_, (rdo_underlying h1 _).2 rfl, _, (rdo_underlying h2 _).2 rfl, ?_⟩, rfl⟩
 cases b <;> (simp only [rdo_bind]; exact ⟨_, (rdo_underlying h3 _).2 rfl, h⟩)
theorem w_indexStr {d : Option Tmp} {ty : TypeId} {pos : String} {aft : Array Edge} {gd : Option (Nat × Bool)} {t : Nat} {st : ByteArray} {k : IntKind} {i v : Int} (hx : ev E x = .string st) (hy : ev E y = .int k i)
  (h1 : P.underlying t = some .string) (h3 : 0 ≤ i) (h4 : i < st.size) {hi : i.toNat < st.size} (hv : v = ((st[i.toNat]'hi).toNat : Int)) : RD P E F ⟨d, .index t x y, ty, pos, aft, gd⟩ (.int .u8 v) := by
 subst hv
 exact r_indexStr rfl hx hy h1 h3 h4
variable {K : En → PH → Prop} {d : Tmp} {ty : TypeId} {pos : String} {aft : Array Edge} {gd : Option (Nat × Bool)}
theorem k_rangeS {s : ByteArray} (hx : ev E x = .string s) (h1 : P.underlying t = some .string) (h : ∀ b, F b = none → K (upd E d (.pointer (some ⟨b, 0, none⟩))) (F.set b (.stringIter s 0))) :
  EFK P E F ⟨some d, .range t x, ty, pos, aft, gd⟩ K := by
 show runs P (execOp (ev E) _) F (stepK P K _ E)
 simp only [execOp, hx, Instr.range, runs_bind', runs_underlying h1, runs_pure, newObj, runs, stepK]
 exact h
theorem k_next {v : Value} {is : Bool} (hx : ev E x = v) (h : runs P (Instr.next v is ty) F fun r F' => K (upd E d r) F') : EFK P E F ⟨some d, .next x is, ty, pos, aft, gd⟩ K := by
 show runs P (execOp (ev E) _) F (stepK P K _ E)
 simp only [execOp, hx, runs_bind', runs_pure, stepK]
 exact h
end
end Go.Proofs.YtnjcgpihfmklfaaDoor
