/-
  A program logic over partial heaps. Part 5: operations that write or make memory, and calls.
-/
import Derived.Test.YtnjcgpihfmklfaaDoorPhd
namespace Go.Proofs.YtnjcgpihfmklfaaDoor
open Go

section
variable {P : Program} {F : PH} {E : En} {o : Oper} {K : En → PH → Prop}

/-! building values -/
def placesOf (P : Program) (fs : Array Field) : Array (Nat × Nat) := fs.map fun f => (f.offset, P.cellsOf f.type)
def knownFields (P : Program) (fs : Array Field) : Bool := fs.all fun f => (P.info? f.type).isSome

theorem rdo_sizeOf' {t : Nat} (h : (P.info? t).isSome = true) : rdo P (sizeOf t) F (P.cellsOf t) := by
  cases hi : P.info? t with
  | none => simp [hi] at h
  | some i =>
    have : tsz P t = some (i.size, i.bytes) := by simp [tsz, hi]
    rw [rdo_sizeOf this]
    simp [Program.cellsOf, hi]

theorem rdo_mapM_list {α β : Type} (f : α → Sem β) (g : α → β) : ∀ (l : List α), (∀ x ∈ l, rdo P (f x) F (g x)) → rdo P (l.mapM f) F (l.map g)
  | [], _ => by simp
  | x :: l, h => by
    have h1 := h x (List.mem_cons_self ..)
    have h2 := rdo_mapM_list f g l fun y hy => h y (List.mem_cons_of_mem _ hy)
    simp only [List.mapM_cons, rdo_bind, List.map_cons]
    exact ⟨_, h1, _, h2, rfl⟩

theorem rdo_places {fs : Array Field} (h : knownFields P fs = true) : rdo P (fs.mapM fun f => do pure (f.offset, ← sizeOf f.type)) F (placesOf P fs) := by
  have hall : ∀ f ∈ fs.toList, (P.info? f.type).isSome = true := by
    intro f hf
    have := Array.all_eq_true_iff_forall_mem.1 h f (by simpa using hf)
    exact this
  rw [Array.mapM_eq_mapM_toList]
  have := rdo_mapM_list (P := P) (F := F) (fun f : Field => (do pure (f.offset, ← sizeOf f.type) : Sem (Nat × Nat))) (fun f => (f.offset, P.cellsOf f.type)) fs.toList
    (fun f hf => by simp only [rdo_bind]; exact ⟨_, rdo_sizeOf' (hall f hf), rfl⟩)
  refine (rdo_map _ _ _ _).2 ⟨_, this, ?_⟩
  apply Array.ext'
  simp [placesOf]

theorem r_buildStruct {t : Nat} {parts : Array (Nat × Operand)} {fs : Array Field} {z : Value} {vs : List (Nat × Value)} {cells : Array Value} (ho : o.op = .build t parts) (h1 : P.underlying t = some (.struct fs)) (hz : tzero P t = some z)
    (hk : knownFields P fs = true) (hv : (parts.map fun (i, x) => (i, ev E x)).toList = vs) (hf : Instr.fill (fun i => (placesOf P fs)[i]?) z.cells vs = some cells) : RD P E F o (.agg cells) := by
  simp only [RD, execOp, ho, rdo_bind, Instr.build, rdo_pure]
  refine ⟨_, ⟨_, (rdo_zeroValue hz _).2 rfl, _, (rdo_underlying h1 _).2 rfl, ?_⟩, rfl⟩
  simp only [rdo_bind]
  refine ⟨_, by have := rdo_places (P := P) (F := F) hk; simpa [rdo_bind] using this, ?_⟩
  rw [hv, hf]
  rfl
theorem r_buildArray {t n e' s b : Nat} {parts : Array (Nat × Operand)} {z : Value} {vs : List (Nat × Value)} {cells : Array Value} (ho : o.op = .build t parts) (h1 : P.underlying t = some (.array n e')) (hz : tzero P t = some z)
    (h2 : tsz P e' = some (s, b)) (hv : (parts.map fun (i, x) => (i, ev E x)).toList = vs) (hf : Instr.fill (fun i => some (i * s, s)) z.cells vs = some cells) : RD P E F o (.agg cells) := by
  simp only [RD, execOp, ho, rdo_bind, Instr.build, rdo_pure]
  refine ⟨_, ⟨_, (rdo_zeroValue hz _).2 rfl, _, (rdo_underlying h1 _).2 rfl, ?_⟩, rfl⟩
  simp only [rdo_bind, rdo_sizeOf h2, exists_eq_left']
  rw [hv, hf]
  rfl

/-! making memory -/
theorem e_alloc {t : Nat} {z : Value} (ho : o.op = .alloc t) (hz : tzero P t = some z) (h : ∀ b, F b = none → K (updO E o.dst (.pointer (some ⟨b, 0, none⟩))) (F.set b (.cells z.cells t))) :
    runs P (execOp (ev E) o) F (stepK P K o E) := by
  simp only [execOp, ho, Instr.alloc, runs_bind', runs_zeroValue hz, runs_pure, stepK, newVar, newRow, newObj]
  exact h
theorem e_box {t : Nat} {x : Operand} {v : Value} (ho : o.op = .box t x) (hx : ev E x = v) (h : ∀ b, F b = none → K (updO E o.dst (.pointer (some ⟨b, 0, none⟩))) (F.set b (.cells v.cells t))) :
    runs P (execOp (ev E) o) F (stepK P K o E) := by
  simp only [execOp, ho, Instr.box, runs_bind', runs_pure, stepK, newVar, newRow, newObj, hx]
  exact h
theorem e_buildSlice {t e' s b n : Nat} {parts : Array (Nat × Operand)} {z : Value} {vs : List (Nat × Value)} {cells : Array Value} (ho : o.op = .buildSlice t n parts) (h1 : P.underlying t = some (.slice e')) (h2 : tsz P e' = some (s, b))
    (hn : n * s ≤ 16777216) (hz : tzero P e' = some z) (hv : (parts.map fun (i, x) => (i, ev E x)).toList = vs) (hf : Instr.fill (fun i => some (i * s, s)) (Builtin.zeroCells z.cells n) vs = some cells) (hs : n * s = n * z.cells.size)
    (h : ∀ b, F b = none → K (updO E o.dst (.slice (some ⟨b, 0, none⟩) n n)) (F.set b (.cells cells e'))) :
    runs P (execOp (ev E) o) F (stepK P K o E) := by
  simp only [execOp, ho, Instr.buildSlice, runs_bind', runs_underlying h1, runs_sizeOf h2]
  rw [if_neg (by omega)]
  by_cases h0 : n * s = 0
  · have hzz : (Array.range (n * s)).map (fun i => (#[] : Array Value)[i % (#[] : Array Value).size]!) = Builtin.zeroCells z.cells n := by simp [Builtin.zeroCells, h0, ← hs]
    rw [if_pos h0]
    simp only [runs_bind', runs_pure]
    rw [hzz, hv, hf]
    simp only [runs_bind', runs_pure, newRow, newObj, stepK]
    exact h
  · have hzz : (Array.range (n * s)).map (fun i => z.cells[i % z.cells.size]!) = Builtin.zeroCells z.cells n := by simp [Builtin.zeroCells, hs]
    rw [if_neg h0]
    simp only [runs_bind', runs_zeroValue hz, runs_pure]
    rw [hzz, hv, hf]
    simp only [runs_bind', runs_pure, newRow, newObj, stepK]
    exact h

/-! writing memory -/
def wr (c : Array Value) (off : Nat) : List Value → Array Value
  | [] => c
  | v :: vs => wr (c.setIfInBounds off v) (off + 1) vs
theorem wr_size (vs : List Value) : ∀ (c : Array Value) (off : Nat), (wr c off vs).size = c.size := by
  induction vs with
  | nil => intro c off; rfl
  | cons v vs ih => intro c off; simp [wr, ih]
theorem wr_get (vs : List Value) : ∀ (c : Array Value) (off i : Nat), off + vs.length ≤ c.size → (wr c off vs)[i]? = if off ≤ i ∧ i < off + vs.length then vs[i - off]? else c[i]? := by
  induction vs with
  | nil => intro c off i _; simp [wr]; omega
  | cons v vs ih =>
    intro c off i h
    simp only [List.length_cons] at h
    rw [wr, ih _ _ _ (by simp; omega), Array.getElem?_setIfInBounds]
    by_cases h1 : off = i
    · subst h1
      rw [if_neg (by omega), if_pos rfl, if_pos (by omega), if_pos (by simp)]
      simp
    · by_cases h2 : off + 1 ≤ i ∧ i < off + 1 + vs.length
      · rw [if_pos h2, if_pos (by simp; omega)]
        rw [show i - off = (i - (off + 1)) + 1 by omega, List.getElem?_cons_succ]
      · rw [if_neg h2, if_neg h1, if_neg (by simp; omega)]

theorem set_set (F : PH) (b : Nat) (o o' : Obj) : (F.set b o).set b o' = F.set b o' := by
  funext x
  unfold PH.set
  split <;> rfl
theorem set_get (F : PH) (b : Nat) (o : Obj) : (F.set b o) b = some o := by simp [PH.set]
theorem set_get_ne (F : PH) {b x : Nat} (o : Obj) (h : x ≠ b) : (F.set b o) x = F x := by simp [PH.set, h]

theorem runs_storeCells {e' : TypeId} : ∀ (vs : List Value) (i : Nat) (F : PH) (a : Addr) (c : Array Value) (Q : Unit → PH → Prop), a.spot = none → F a.block = some (.cells c e' (0, 0)) → a.off + i + vs.length ≤ c.size →
    (∀ v ∈ vs, storable v) → vs ≠ [] → Q () (F.set a.block (.cells (wr c (a.off + i) vs) e')) → runs P (storeCells a vs i) F Q := by
  intro vs
  induction vs with
  | nil => intro i F a c Q _ _ _ _ h; exact absurd rfl h
  | cons v vs ih =>
    intro i F a c Q hsp hb hl hst _ hq
    simp only [List.length_cons] at hl
    have hoff : (a.add i).off = a.off + i := by unfold Addr.add; split <;> simp_all
    have hblk : (a.add i).block = a.block := by unfold Addr.add; split <;> rfl
    have hspo : (a.add i).spot = none := by unfold Addr.add; split <;> simp_all
    simp only [storeCells, runs_bind', store, runs]
    refine ⟨hst v (List.mem_cons_self ..), c, e', (0, 0), by rw [hblk]; exact hb, hspo, by rw [hoff]; omega, by simp [frz], ?_⟩
    rw [hblk, hoff]
    cases vs with
    | nil => exact hq
    | cons u us =>
      refine ih (i + 1) _ a (c.setIfInBounds (a.off + i) v) Q hsp (set_get _ _ _) (by simp; simp at hl; omega) (fun x hx => hst x (List.mem_cons_of_mem _ hx)) (by simp) ?_
      rw [set_set]
      exact hq

theorem e_store1 {t : Nat} {x y : Operand} {a : Addr} {v : Value} {c : Array Value} {e' s b : Nat} (ho : o.op = .store t x y) (hx : ev E x = .pointer (some a)) (hy : ev E y = v) (hsz : tsz P t = some (s, b)) (h1 : v.cells = #[v]) (hs : s = 1) (hst : storable v)
    (hsp : a.spot = none) (hb : F a.block = some (.cells c e' (0, 0))) (hl : a.off < c.size) (h : K (updO E o.dst undef) (F.set a.block (.cells (c.setIfInBounds a.off v) e'))) :
    runs P (execOp (ev E) o) F (stepK P K o E) := by
  subst hs
  simp only [execOp, ho, hx, hy, Instr.storeAt, Instr.sureAddr, runs_bind', runs_pure, storeVar, runs_sizeOf hsz, h1]
  simp only [List.size_toArray, List.length_cons, List.length_nil, ne_eq, Nat.zero_add, not_true_eq_false, if_false]
  refine runs_storeCells [v] 0 F a c _ hsp hb (by simp; omega) (by simpa using hst) (by simp) ?_
  exact h
theorem e_storeN {t : Nat} {x y : Operand} {a : Addr} {vs c : Array Value} {e' s b : Nat} (ho : o.op = .store t x y) (hx : ev E x = .pointer (some a)) (hy : ev E y = .agg vs) (hsz : tsz P t = some (s, b)) (hs : vs.size = s) (hst : ∀ v ∈ vs.toList, storable v)
    (h0 : vs.toList ≠ []) (hsp : a.spot = none) (hb : F a.block = some (.cells c e' (0, 0))) (hl : a.off + s ≤ c.size) (h : K (updO E o.dst undef) (F.set a.block (.cells (wr c a.off vs.toList) e'))) :
    runs P (execOp (ev E) o) F (stepK P K o E) := by
  subst hs
  simp only [execOp, ho, hx, hy, Instr.storeAt, Instr.sureAddr, runs_bind', runs_pure, storeVar, runs_sizeOf hsz, Value.cells]
  simp only [ne_eq, not_true_eq_false, if_false]
  exact runs_storeCells vs.toList 0 F a c _ hsp hb (by simpa using hl) hst h0 h

/-! calls -/
def callableB (P : Program) (f : FuncId) : Bool := match P.funcs[f]? with | some fn => !(fn.name == "runtime.NumGoroutine") && fn.body.isSome | none => false
theorem runs_callFunc {f : FuncId} {args : Array Value} {Q : Next → PH → Prop} (hc : callableB P f = true) (h : Q (.enter f args) F) : runs P (callFunc f args) F Q := by
  unfold callableB at hc
  cases hf : P.funcs[f]? with
  | none => simp [hf] at hc
  | some fn =>
    simp only [hf, Bool.and_eq_true, Bool.not_eq_true'] at hc
    simp only [callFunc, runs_bind', program, runs, hf, hc.1]
    have : fn.body.isNone = false := by cases hb : fn.body <;> simp_all
    simp only [this, Bool.false_eq_true, if_false, runs_pure]
    exact h
theorem e_call {f : FuncId} {args : Array Operand} {ts : Array TypeId} {vs : Array Value} (ho : o.op = .call { callee := .value (.func f), args := args, argTypes := ts }) (hc : callableB P f = true) (hv : args.map (ev E) = vs)
    (h : Spec P f vs F fun v F' => K (updO E o.dst v) F') : runs P (execOp (ev E) o) F (stepK P K o E) := by
  simp only [execOp, ho, resolve, ev, Deferred.ofValue, runs_bind', runs_pure, invoke]
  refine runs_callFunc hc ?_
  rw [show args.map (fun x => ev E x) = vs from hv]
  simpa [stepK] using h
theorem e_callF {f : FuncId} {g : Operand} {args : Array Operand} {ts : Array TypeId} {vs first captured : Array Value} (ho : o.op = .call { callee := .value g, args := args, argTypes := ts }) (hg : ev E g = .func (.func f) first captured) (hc : callableB P f = true) (hv : args.map (ev E) = vs)
    (h : Spec P f (first ++ vs ++ captured) F fun v F' => K (updO E o.dst v) F') : runs P (execOp (ev E) o) F (stepK P K o E) := by
  simp only [execOp, ho, resolve, hg, Deferred.ofValue, runs_bind', runs_pure, invoke]
  refine runs_callFunc hc ?_
  rw [show args.map (fun x => ev E x) = vs from hv]
  exact h
theorem e_append {x y : Operand} {ts : Array TypeId} {s u : Value} (ho : o.op = .call { callee := .builtin .append, args := #[x, y], argTypes := ts }) (hx : ev E x = s) (hy : ev E y = u)
    (h : runs P (Builtin.append_ ts o.type #[s, u]) F fun v F' => K (updO E o.dst v) F') : runs P (execOp (ev E) o) F (stepK P K o E) := by
  simp [execOp, ho, resolve, hx, hy, runs_bind', invoke, builtin, stepK]
  exact h
theorem e_copy {x y : Operand} {ts : Array TypeId} {s u : Value} (ho : o.op = .call { callee := .builtin .copy, args := #[x, y], argTypes := ts }) (hx : ev E x = s) (hy : ev E y = u)
    (h : runs P (Builtin.copy_ ts o.type #[s, u]) F fun v F' => K (updO E o.dst v) F') : runs P (execOp (ev E) o) F (stepK P K o E) := by
  simp [execOp, ho, resolve, hx, hy, runs_bind', invoke, builtin, stepK]
  exact h
theorem e_makeSlice {t : TypeId} {x y : Operand} {u v : Value} (ho : o.op = .makeSlice t x y) (hx : ev E x = u) (hy : ev E y = v)
    (h : runs P (Instr.makeSlice t u v) F fun v F' => K (updO E o.dst v) F') : runs P (execOp (ev E) o) F (stepK P K o E) := by
  simp [execOp, ho, hx, hy, runs_bind', stepK]
  exact h
theorem e_makeMap0 {t : TypeId} (ho : o.op = .makeMap t none) (h : ∀ b, F b = none → K (updO E o.dst (.map (some b))) (F.set b (.map #[] 0))) :
    runs P (execOp (ev E) o) F (stepK P K o E) := by
  simp only [execOp, ho, Instr.makeMap, Option.map_none, newObj, runs_bind', runs_pure, runs, stepK]
  exact h
theorem e_mapUpdate {t : TypeId} {x y z : Operand} {u v q : Value} (ho : o.op = .mapUpdate t x y z) (hx : ev E x = u) (hy : ev E y = v) (hz : ev E z = q)
    (h : runs P (Instr.mapUpdate t u v q) F fun _ F' => K (updO E o.dst undef) F') : runs P (execOp (ev E) o) F (stepK P K o E) := by
  simp only [execOp, ho, hx, hy, hz, runs_bind', runs_pure, stepK]
  exact h
theorem r_lookup {t : TypeId} {x y : Operand} {u v r : Value} {ok : Bool} (ho : o.op = .lookup t x y ok) (hx : ev E x = u) (hy : ev E y = v) (h : rdo P (Instr.lookup t u v ok) F r) : RD P E F o r := by
  simp only [RD, execOp, ho, hx, hy, rdo_bind, rdo_pure]
  exact ⟨r, h, rfl⟩

variable {n : Nat} {Q : Exit → En → PH → Prop} {ops : Array Oper} {l : List Oper}
theorem HL_ef (h : runs P (execOp (ev E) o) F (stepK P (HL P n ops Q l) o E)) (hw : Region.wanted o (yE ops E) = true := by rfl) (hd : dstOk n o.dst = true := by rfl) : HL P n ops Q (o :: l) E F := HL_op hw hd h
end
end Go.Proofs.YtnjcgpihfmklfaaDoor
