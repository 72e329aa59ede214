/-
  A program logic over partial heaps: strings put together, compared, made of bytes; ranges over strings.
-/
import Derived.Test.YtelkfnmdnbbniaaPhf
import Derived.KernelRfl
namespace Go.Proofs.Ytelkfnmdnbbniaa
open Go
section
variable {P : Program} {n : Nat} {Q : Exit → En → PH → Prop} {E : En} {F : PH} {ops : Array Oper} {l : List Oper} {d : Tmp} {op : Op} {ty : TypeId} {pos : String} {aft : Array Edge} {gd : Option (Nat × Bool)}
theorem sR (v : Value) (h : RD P E F ⟨some d, op, ty, pos, aft, gd⟩ v) (K : HL P n ops Q l (upd E d v) F) (hw : Region.wanted ⟨some d, op, ty, pos, aft, gd⟩ (yE ops E) = true := by rfl) (hd : Nat.blt d n = true := by rfl) :
  HL P n ops Q (⟨some d, op, ty, pos, aft, gd⟩ :: l) E F := s_rd h K hw hd
theorem kN (t : Nat) {x b : Bool} (hc : x = b) (K : HL P n ops Q l (upd E t (.bool b)) F) (h : E t = .bool x := by rfl) : HL P n ops Q l E F := HL_known (h.trans (congrArg Value.bool hc)) K
theorem cR {id : Nat} {l : List Oper} {y : Code} (h : HL P n l.toArray (thenQ (HC P n y Q) Q) l E F) : HC P n (.seq (.region id l.toArray false) y) Q E F := HC_seq (HC_region h)
theorem gU (i : Nat) (v : Value) {fuel : Nat} {listed : Array Bool} {Sp : Pend} (hi : ops[i]? = some ⟨some d, op, ty, pos, aft, gd⟩) (hy : ∀ F, RD P E F ⟨some d, op, ty, pos, aft, gd⟩ v) (hh : holdF Sp F)
  (h : RG P n ops Q fuel (listed.setIfInBounds i true) Sp (upd E d v) F) (hs : Region.noSelect ops = true := by kernel_rfl) (hf : Region.free .any ops listed i = true := by kernel_rfl) (hr : (Region.ready .any ops listed).contains i = true := by kernel_rfl)
  (hp : ∀ c E F, ¬ Q (.panic c) E F := by exact fun _ _ _ h => h) (hw : Region.wanted ⟨some d, op, ty, pos, aft, gd⟩ (yE ops E) = true := by rfl) (hd : Nat.blt d n = true := by rfl) : RG P n ops Q (fuel + 1) listed Sp E F :=
 g_pu hi hs hf hr hp hy hh h hw hd
theorem gR (i : Nat) (v : Value) {fuel : Nat} {listed : Array Bool} {Sp : Pend} (hi : ops[i]? = some ⟨some d, op, ty, pos, aft, gd⟩) (hy : RD P E F ⟨some d, op, ty, pos, aft, gd⟩ v) (hh : holdF Sp F)
  (h : ∀ S : World → Prop, (∀ F, RD P E F ⟨some d, op, ty, pos, aft, gd⟩ v → allW F S) → RG P n ops Q fuel (listed.setIfInBounds i true) ((i, S) :: Sp) (upd E d v) F)
  (hs : Region.noSelect ops = true := by kernel_rfl) (hf : Region.free .any ops listed i = true := by kernel_rfl) (hr : (Region.ready .any ops listed).contains i = true := by kernel_rfl)
  (hp : ∀ c E F, ¬ Q (.panic c) E F := by exact fun _ _ _ h => h) (hw : Region.wanted ⟨some d, op, ty, pos, aft, gd⟩ (yE ops E) = true := by rfl) (hd : Nat.blt d n = true := by rfl) : RG P n ops Q (fuel + 1) listed Sp E F :=
 g_rd hi hs hf hr hp hy hh h hw hd
theorem gS (i : Nat) {fuel : Nat} {listed : Array Bool} {Sp : Pend} (hi : ops[i]? = some ⟨some d, op, ty, pos, aft, gd⟩) (hh : holdF Sp F)
  (h : RG P n ops Q fuel (listed.setIfInBounds i true) Sp (upd E d undef) F) (hs : Region.noSelect ops = true := by kernel_rfl) (hf : Region.free .any ops listed i = true := by kernel_rfl) (hr : (Region.ready .any ops listed).contains i = true := by kernel_rfl)
  (hp : ∀ c E F, ¬ Q (.panic c) E F := by exact fun _ _ _ h => h) (hw : Region.wanted ⟨some d, op, ty, pos, aft, gd⟩ (yE ops E) = false := by rfl) (hd : Nat.blt d n = true := by rfl) : RG P n ops Q (fuel + 1) listed Sp E F :=
 g_skip hi hs hf hr hp hh h hw hd
theorem res4 {fn : Func} {r r' r'' r3 : ResultVar} {v v' v'' v3 : Value} (h : fn.results = #[r, r', r'', r3]) (hv : rvOk P E F r v) (hv' : rvOk P E F r' v') (hv'' : rvOk P E F r'' v'') (hv3 : rvOk P E F r3 v3) : resOk P fn E F (.tuple #[v, v', v'', v3]) := fun e w tmps st ht => by
 have k := rv_run hv st ht
 have k' := rv_run hv' st ht
 have k'' := rv_run hv'' st ht
 have k3 := rv_run hv3 st ht
 clear ht hv hv' hv'' hv3
 rcases k with ⟨t, rfl, h1⟩ | ⟨x, t, a, rfl, h1, h2⟩ <;> rcases k' with ⟨t', rfl, h3⟩ | ⟨x', t', a', rfl, h3, h4⟩ <;> rcases k'' with ⟨t'', rfl, h5⟩ | ⟨x'', t'', a'', rfl, h5, h6⟩ <;> rcases k3 with ⟨t3, rfl, h7⟩ | ⟨x3, t3, a3, rfl, h7, h8⟩ <;> simp [results, asAddr, *]
end
section
variable {P : Program} {F : PH} {E : En} {o : Oper} {x y : Operand} {t t' : TypeId}
theorem r_addS {c d : ByteArray} (ho : o.op = .binOp .add t x y t') (hx : ev E x = .string c) (hy : ev E y = .string d) (h : c.size + d.size ≤ 9223372036854775807) : RD P E F o (.string (c ++ d)) := by
 have e : IntKind.i64.max = 9223372036854775807 := by decide
 have hn : ¬ (((c.size + d.size : Nat) : Int) > IntKind.i64.max) := by rw [e]; omega
 simp only [RD, execOp, ho, hx, hy, rdo_bind]
 refine ⟨.string (c ++ d), ⟨(), eqGuard_none rfl, ?_⟩, rfl⟩
 show rdo P (Op.stringOp .add c d) F _
 unfold Op.stringOp
 simp only [if_neg hn]
 rfl
theorem r_lssS {c d : ByteArray} (ho : o.op = .binOp .lss t x y t') (hx : ev E x = .string c) (hy : ev E y = .string d) : RD P E F o (.bool (Op.bytesLess c.toList d.toList)) := by
 simp only [RD, execOp, ho, hx, hy, rdo_bind]
 exact ⟨_, ⟨(), eqGuard_none rfl, rfl⟩, rfl⟩
theorem r_convBS {e : TypeId} {v : Value} {s : ByteArray} (ho : o.op = .convert t t' x) (hx : ev E x = v) (h1 : P.underlying t = some (.slice e)) (h2 : P.underlying t' = some .string) (h3 : P.underlying e = some (.int .u8))
  (hv : ∃ b l c, v = .slice b l c) (h : rdo P (Conv.bytesToString v) F (.string s)) : RD P E F o (.string s) := by
 obtain ⟨b, l, c, rfl⟩ := hv
 simp only [RD, execOp, ho, hx, rdo_bind, convert]
 refine ⟨_, ⟨_, (rdo_underlying h1 _).2 rfl, _, (rdo_underlying h2 _).2 rfl, ?_⟩, rfl⟩
 cases b <;> (simp only [rdo_bind]; exact ⟨_, (rdo_underlying h3 _).2 rfl, h⟩)
variable {K : En → PH → Prop} {d : Tmp} {ty : TypeId} {pos : String} {aft : Array Edge} {gd : Option (Nat × Bool)}
theorem k_next {v : Value} {is : Bool} (hx : ev E x = v) (h : runs P (Instr.next v is ty) F fun r F' => K (upd E d r) F') : EFK P E F ⟨some d, .next x is, ty, pos, aft, gd⟩ K := by
 show runs P (execOp (ev E) _) F (stepK P K _ E)
 simp only [execOp, hx, runs_bind', runs_pure, stepK]
 exact h
theorem r_lenMap {m : Option Nat} {r : Value} (ho : o.op = .call { callee := .builtin .len, args := #[x], argTypes := #[t] }) (hx : ev E x = .map m) (h : rdo P (Builtin.len_ #[t] o.type #[.map m]) F r) : RD P E F o r := by
 simp [RD, execOp, ho, resolve, invoke, builtin, hx, rdo_bind]
 exact h
theorem r_entry {v r : Value} (ho : o.op = .entry x) (hx : ev E x = v) (h : rdo P (Instr.entry v) F r) : RD P E F o r := by
 simp only [RD, execOp, ho, hx, rdo_bind]
 exact ⟨_, h, rfl⟩
theorem k_rangeM {v : Value} (hx : ev E x = v) (h : runs P (Instr.range t v) F fun r F' => K (upd E d r) F') : EFK P E F ⟨some d, .range t x, ty, pos, aft, gd⟩ K := by
 show runs P (execOp (ev E) _) F (stepK P K _ E)
 simp only [execOp, hx, runs_bind', runs_pure, stepK]
 exact h
theorem k_delete {ts : Array TypeId} {u v : Value} (hx : ev E x = u) (hy : ev E y = v) (h : runs P (Builtin.delete_ ts ty #[u, v]) F fun _ F' => K E F') : EFK P E F ⟨none, .call ⟨.builtin .delete, #[x, y], ts⟩, ty, pos, aft, gd⟩ K := by
 show runs P (execOp (ev E) _) F (stepK P K _ E)
 simp [execOp, resolve, hx, hy, runs_bind', invoke, builtin, stepK]
 exact h
end
end Go.Proofs.Ytelkfnmdnbbniaa
