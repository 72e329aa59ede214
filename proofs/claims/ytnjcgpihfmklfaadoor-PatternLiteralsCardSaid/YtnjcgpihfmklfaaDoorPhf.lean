/-
  A program logic over partial heaps. Part 6: the steps of the walks, as they are used.
-/
import Derived.Test.YtnjcgpihfmklfaaDoorPhe
namespace Go.Proofs.YtnjcgpihfmklfaaDoor
open Go

/-- The rest, with another part of the heap. -/
def atF (F : PH) (K : PH → Prop) : Prop := K F
theorem atE {F : PH} {K : PH → Prop} (h : atF F K) : K F := h
theorem atI {F : PH} {K : PH → Prop} (h : K F) : atF F K := h

section
variable {P : Program} {n : Nat} {Q : Exit → En → PH → Prop} {E : En} {F : PH} {ops : Array Oper} {l : List Oper} {d : Tmp} {op : Op} {ty : TypeId} {pos : String} {aft : Array Edge} {v : Value} {gd : Option (Nat × Bool)}

theorem s_rd (h : RD P E F ⟨some d, op, ty, pos, aft, gd⟩ v) (K : HL P n ops Q l (upd E d v) F) (hw : Region.wanted ⟨some d, op, ty, pos, aft, gd⟩ (yE ops E) = true := by rfl) (hd : Nat.blt d n = true := by rfl) :
    HL P n ops Q (⟨some d, op, ty, pos, aft, gd⟩ :: l) E F := HL_rd h K hw hd
theorem s_skip (K : HL P n ops Q l (upd E d undef) F) (hw : Region.wanted ⟨some d, op, ty, pos, aft, gd⟩ (yE ops E) = false := by rfl) (hd : Nat.blt d n = true := by rfl) :
    HL P n ops Q (⟨some d, op, ty, pos, aft, gd⟩ :: l) E F := HL_skip hw hd K
theorem s_skip0 (K : HL P n ops Q l E F) (hw : Region.wanted ⟨none, op, ty, pos, aft, gd⟩ (yE ops E) = false := by rfl) :
    HL P n ops Q (⟨none, op, ty, pos, aft, gd⟩ :: l) E F := HL_skip hw rfl K
def EFK (P : Program) (E : En) (F : PH) (o : Oper) (K : En → PH → Prop) : Prop := runs P (execOp (ev E) o) F (stepK P K o E)
theorem s_ef (h : EFK P E F ⟨some d, op, ty, pos, aft, gd⟩ (HL P n ops Q l)) (hw : Region.wanted ⟨some d, op, ty, pos, aft, gd⟩ (yE ops E) = true := by rfl) (hd : Nat.blt d n = true := by rfl) :
    HL P n ops Q (⟨some d, op, ty, pos, aft, gd⟩ :: l) E F := HL_op hw hd h
theorem s_ef0 (h : EFK P E F ⟨none, op, ty, pos, aft, gd⟩ (HL P n ops Q l)) (hw : Region.wanted ⟨none, op, ty, pos, aft, gd⟩ (yE ops E) = true := by rfl) :
    HL P n ops Q (⟨none, op, ty, pos, aft, gd⟩ :: l) E F := HL_op hw rfl h

theorem upd_same {t : Nat} (h : E t = v) : upd E t v = E := by
  funext x
  unfold upd
  by_cases hx : x = t
  · subst hx
    have : Nat.beq x x = true := by simp
    rw [this]
    exact h.symm
  · rw [beq_ne hx]; rfl
theorem HL_known {t : Nat} (h : E t = v) (K : HL P n ops Q l (upd E t v) F) : HL P n ops Q l E F := by rw [upd_same h] at K; exact K
theorem RG_known {t fuel : Nat} {listed : Array Bool} {Sp : Pend} (h : E t = v) (K : RG P n ops Q fuel listed Sp (upd E t v) F) : RG P n ops Q fuel listed Sp E F := by rw [upd_same h] at K; exact K
theorem HC_known {t : Nat} {c : Code} (h : E t = v) (K : HC P n c Q (upd E t v) F) : HC P n c Q E F := by rw [upd_same h] at K; exact K

theorem HC_seqJ {x y : Code} (J : En → PH → Prop) (hy : ∀ E F, J E F → HC P n y Q E F) (hx : HC P n x (thenQ J Q) E F) : HC P n (.seq x y) Q E F := fun e a w ag st =>
  wp_seq (wp_mono (hx e a w ag st) fun ex a' w' ⟨E', F', ag', st', q⟩ => by
    cases ex with
    | normal => exact hy _ _ q e a' w' ag' st'
    | _ => exact ⟨E', F', ag', st', q⟩)
theorem HC_blockJ {id : Nat} {c : Code} (J : En → PH → Prop) (hy : ∀ E F, J E F → Q .normal E F) (h : HC P n c (blockQ id (thenQ J Q)) E F) : HC P n (.block id c) Q E F := fun e a w ag st =>
  wp_mono (HC_block h e a w ag st) fun ex a' w' ⟨E', F', ag', st', q⟩ => by
    cases ex with
    | normal => exact ⟨E', F', ag', st', hy _ _ q⟩
    | _ => exact ⟨E', F', ag', st', q⟩
theorem HC_condT {c : Operand} {x y : Code} (hc : ev E c = .bool true) (h : HC P n x Q E F) : HC P n (.cond c x y) Q E F := HC_cond hc (fun _ => h) (fun h => by cases h)
theorem HC_condF {c : Operand} {x y : Code} (hc : ev E c = .bool false) (h : HC P n y Q E F) : HC P n (.cond c x y) Q E F := HC_cond hc (fun h => by cases h) (fun _ => h)

/-! what the writing operations leave -/
section
variable {K : En → PH → Prop}
theorem k_alloc {t : Nat} {z : Value} (hz : tzero P t = some z) (h : ∀ b, F b = none → K (upd E d (.pointer (some ⟨b, 0, none⟩))) (F.set b (.cells z.cells t))) : EFK P E F ⟨some d, .alloc t, ty, pos, aft, gd⟩ K := e_alloc rfl hz h
theorem k_box {t : Nat} {x : Operand} {cs : Array Value} (hx : ev E x = v) (hv : v.cells = cs) (h : ∀ b, F b = none → K (upd E d (.pointer (some ⟨b, 0, none⟩))) (F.set b (.cells cs t))) : EFK P E F ⟨some d, .box t x, ty, pos, aft, gd⟩ K := by
  subst hv; exact e_box rfl hx h
theorem evPN : (([] : List (Nat × Operand)).map fun p => (p.1, ev E p.2)) = [] := rfl
theorem evPC {i : Nat} {x : Operand} {u : Value} {xs : List (Nat × Operand)} {us : List (Nat × Value)} (hx : ev E x = u) (h : (xs.map fun p => (p.1, ev E p.2)) = us) : (((i, x) :: xs).map fun p => (p.1, ev E p.2)) = (i, u) :: us := by simp [hx, h]
theorem fillN {place : Nat → Option (Nat × Nat)} {cells r : Array Value} (h : cells = r) : Instr.fill place cells [] = some r := by rw [← h]; rfl
theorem fill1 {place : Nat → Option (Nat × Nat)} {cells r : Array Value} {i off : Nat} {v : Value} {rest : List (Nat × Value)} (hp : place i = some (off, 1)) (hv : v.cells = #[v]) (ho : Nat.blt off cells.size = true)
    (h : Instr.fill place (cells.setIfInBounds off v) rest = some r) : Instr.fill place cells ((i, v) :: rest) = some r := by
  have ho' : off < cells.size := Nat.le_of_ble_eq_true ho
  simp only [Instr.fill, hp, hv]
  simp only [List.size_toArray, List.length_cons, List.length_nil]
  rw [if_neg (by simp; omega)]
  simpa using h
theorem wr_foldl (vs : List Value) : ∀ (c : Array Value) (off k : Nat), (vs.zipIdx k).foldl (fun cs (x : Value × Nat) => cs.setIfInBounds (off + x.2) x.1) c = wr c (off + k) vs := by
  induction vs with
  | nil => intro c off k; rfl
  | cons v vs ih => intro c off k; simp only [List.zipIdx_cons, List.foldl_cons, wr]; rw [ih]; rfl
theorem fillA {place : Nat → Option (Nat × Nat)} {cells cs r : Array Value} {i off s : Nat} {rest : List (Nat × Value)} (hp : place i = some (off, s)) (hs : cs.size = s) (ho : Nat.ble (off + s) cells.size = true)
    (h : Instr.fill place (wr cells off cs.toList) rest = some r) : Instr.fill place cells ((i, .agg cs) :: rest) = some r := by
  have ho' : off + s ≤ cells.size := Nat.le_of_ble_eq_true ho
  subst hs
  have e : cs.zipIdx.foldl (fun cs (x : Value × Nat) => cs.setIfInBounds (off + x.2) x.1) cells = wr cells off cs.toList := by
    have := wr_foldl cs.toList cells off 0
    rw [← Array.foldl_toList]
    simpa using this
  unfold Instr.fill
  rw [hp]
  show (if (decide (cs.size ≠ cs.size) || decide (off + cs.size > cells.size)) = true then none else Instr.fill place (cs.zipIdx.foldl (fun cs (x : Value × Nat) => cs.setIfInBounds (off + x.2) x.1) cells) rest) = some r
  rw [e, if_neg (by simp; omega)]
  exact h
theorem place_of {fs : Array Field} {i off s b : Nat} {f : Field} (h : fs[i]? = some f) (hoff : f.offset = off) (h3 : tsz P f.type = some (s, b)) : (placesOf P fs)[i]? = some (off, s) := by
  obtain ⟨j, h4, h5, _⟩ := tsz_info h3
  simp [placesOf, h, hoff, Program.cellsOf, h4, h5]
theorem w_makeFunc {k : Nat} {first captured : List Operand} {us vs : List Value} (h1 : first.map (ev E) = us) (h2 : captured.map (ev E) = vs) : RD P E F ⟨some d, .makeFunc (.func k) first.toArray captured.toArray, ty, pos, aft, gd⟩ (.func (.func k) us.toArray vs.toArray) :=
  r_makeFunc rfl (by simp [h1]) (by simp [h2])
theorem w_buildStruct {t : Nat} {parts : List (Nat × Operand)} {fs : Array Field} {z : Value} {vs : List (Nat × Value)} {cells : Array Value} (h1 : P.underlying t = some (.struct fs)) (hz : tzero P t = some z)
    (hk : knownFields P fs = true) (hv : (parts.map fun p => (p.1, ev E p.2)) = vs) (hf : Instr.fill (fun i => (placesOf P fs)[i]?) z.cells vs = some cells) : RD P E F ⟨some d, .build t parts.toArray, ty, pos, aft, gd⟩ (.agg cells) :=
  r_buildStruct rfl h1 hz hk (by simpa using hv) hf
theorem w_buildArray {t m e' s b : Nat} {parts : List (Nat × Operand)} {z : Value} {vs : List (Nat × Value)} {cells : Array Value} (h1 : P.underlying t = some (.array m e')) (hz : tzero P t = some z)
    (h2 : tsz P e' = some (s, b)) (hv : (parts.map fun p => (p.1, ev E p.2)) = vs) (hf : Instr.fill (fun i => some (i * s, s)) z.cells vs = some cells) : RD P E F ⟨some d, .build t parts.toArray, ty, pos, aft, gd⟩ (.agg cells) :=
  r_buildArray rfl h1 hz h2 (by simpa using hv) hf
theorem zc_flat (z : Array Value) (hz : Nat.blt 0 z.size = true) : ∀ n, Builtin.zeroCells z n = ((List.replicate n z.toList).flatten).toArray := by
  have hz' : 0 < z.size := Nat.le_of_ble_eq_true hz
  intro n
  apply Array.ext'
  apply List.ext_getElem
  · simp [Builtin.zeroCells, List.length_flatten]
  · intro i h1 h2
    simp only [Builtin.zeroCells, Array.toList_map, Array.toList_range, List.getElem_map, List.getElem_range]
    have key : ∀ n i (h : i < ((List.replicate n z.toList).flatten).length), ((List.replicate n z.toList).flatten)[i] = z[i % z.size]! := by
      intro n
      induction n with
      | zero => intro i h; simp at h
      | succ n ih =>
        intro i h
        have e : (List.replicate (n + 1) z.toList).flatten = z.toList ++ (List.replicate n z.toList).flatten := by simp [List.replicate_succ]
        by_cases hi : i < z.size
        · have : ((List.replicate (n + 1) z.toList).flatten)[i] = z.toList[i]'(by simpa using hi) := by
            simp only [e]
            rw [List.getElem_append_left]
          rw [this, Nat.mod_eq_of_lt hi]
          simp [hi]
        · have hl : i - z.size < ((List.replicate n z.toList).flatten).length := by
            simp [List.length_flatten, Nat.add_mul] at h ⊢
            omega
          have : ((List.replicate (n + 1) z.toList).flatten)[i] = ((List.replicate n z.toList).flatten)[i - z.size] := by
            simp only [e]
            rw [List.getElem_append_right (by simpa using hi)]
            simp
          have hm : i % z.size = (i - z.size) % z.size := Nat.mod_eq_sub_mod (by omega)
          rw [this, ih _ hl, hm]
    exact (key n i (by simpa using h2)).symm
theorem fillWhole {z : Value} {cs : Array Value} {s : Nat} (hs : cs.size = s) (hz : z.cells.size = s) (h0 : Nat.blt 0 s = true) : Instr.fill (fun i => some (i * s, s)) (Builtin.zeroCells z.cells 1) [(0, .agg cs)] = some cs := by
  have h1 : Nat.blt 0 z.cells.size = true := by rw [hz]; exact h0
  rw [zc_flat _ h1]
  have e : ((List.replicate 1 z.cells.toList).flatten).toArray = z.cells := by simp
  rw [e]
  refine fillA (off := 0 * s) rfl hs (by rw [hz]; simp) ?_
  have hw : wr z.cells 0 cs.toList = cs := by
    apply Array.ext
    · rw [wr_size, hz, hs]
    · intro i h1 h2
      have := wr_get cs.toList z.cells 0 i (by simp [hz, hs])
      rw [if_pos (by simp; omega)] at this
      simp only [Nat.sub_zero] at this
      rw [Array.getElem?_eq_getElem h1] at this
      simp at this
      rw [Array.getElem?_eq_getElem h2] at this
      exact Option.some.inj this
  rw [show 0 * s = 0 by omega, hw]
  rfl
def oneL : List Value → Prop
  | [] => True
  | v :: l => v.cells = #[v] ∧ oneL l
def enumL (k : Nat) : List Value → List (Nat × Value)
  | [] => []
  | v :: l => (k, v) :: enumL (k + 1) l
theorem fill_enum : ∀ (l : List Value) (k : Nat) (cells : Array Value), oneL l → k + l.length ≤ cells.size → Instr.fill (fun i => some (i * 1, 1)) cells (enumL k l) = some (wr cells k l) := by
  intro l
  induction l with
  | nil => intro k cells _ _; rfl
  | cons v l ih =>
    intro k cells ho hl
    simp only [List.length_cons] at hl
    refine fill1 (off := k) (by simp) ho.1 (Nat.ble_eq_true_of_le (by omega)) ?_
    exact ih (k + 1) _ ho.2 (by simp; omega)
theorem fillSeq {z : Value} {l : List Value} {m : Nat} {cells0 : Array Value} (hm : l.length = m) (h0 : Builtin.zeroCells z.cells m = cells0) (hz : z.cells.size = 1) (ho : oneL l) : Instr.fill (fun i => some (i * 1, 1)) cells0 (enumL 0 l) = some l.toArray := by
  subst hm
  subst h0
  have hs : (Builtin.zeroCells z.cells l.length).size = l.length := by simp [Builtin.zeroCells, hz]
  rw [fill_enum l 0 _ ho (by rw [hs]; omega)]
  congr 1
  apply Array.ext
  · rw [wr_size, hs]; simp
  · intro i h1 h2
    have := wr_get l (Builtin.zeroCells z.cells l.length) 0 i (by rw [hs]; omega)
    rw [if_pos (by simp at h2; omega)] at this
    simp only [Nat.sub_zero] at this
    rw [Array.getElem?_eq_getElem h1] at this
    simp at h2
    rw [List.getElem?_eq_getElem h2] at this
    simpa using Option.some.inj this
theorem k_buildSeq {t e' b m : Nat} {parts : List (Nat × Operand)} {z : Value} {l : List Value} (h1 : P.underlying t = some (.slice e')) (h2 : tsz P e' = some (1, b))
    (hn : m * 1 ≤ 16777216) (hz : tzero P e' = some z) (hz1 : z.cells.size = 1) (hm : l.length = m) (ho : oneL l) (hv : (parts.map fun p => (p.1, ev E p.2)) = enumL 0 l)
    (h : ∀ b, F b = none → K (upd E d (Sl.v ⟨some ⟨b, 0, none⟩, m, m⟩)) (F.set b (.cells l.toArray e'))) : EFK P E F ⟨some d, .buildSlice t m parts.toArray, ty, pos, aft, gd⟩ K :=
  e_buildSlice rfl h1 h2 hn hz (by simpa using hv) (fillSeq hm rfl hz1 ho) (by rw [hz1]) h
theorem k_buildSlice {t e' s b m : Nat} {parts : List (Nat × Operand)} {z : Value} {vs : List (Nat × Value)} {cells cells0 : Array Value} (h1 : P.underlying t = some (.slice e')) (h2 : tsz P e' = some (s, b))
    (hn : m * s ≤ 16777216) (hz : tzero P e' = some z) (h0 : Builtin.zeroCells z.cells m = cells0) (hv : (parts.map fun p => (p.1, ev E p.2)) = vs) (hf : Instr.fill (fun i => some (i * s, s)) cells0 vs = some cells) (hs : m * s = m * z.cells.size)
    (h : ∀ b, F b = none → K (upd E d (Sl.v ⟨some ⟨b, 0, none⟩, m, m⟩)) (F.set b (.cells cells e'))) : EFK P E F ⟨some d, .buildSlice t m parts.toArray, ty, pos, aft, gd⟩ K := by
  subst h0; exact e_buildSlice rfl h1 h2 hn hz (by simpa using hv) hf hs h
theorem k_store1 {t : Nat} {x y : Operand} {a : Addr} {b : Nat} (hx : ev E x = .pointer (some a)) (hy : ev E y = v) (hsz : tsz P t = some (1, b)) (h1 : v.cells = #[v]) (hst : storable v)
    (h : ∃ c e', F a.block = some (.cells c e' (0, 0)) ∧ a.spot = none ∧ a.off < c.size ∧ K E (F.set a.block (.cells (c.setIfInBounds a.off v) e'))) : EFK P E F ⟨none, .store t x y, ty, pos, aft, gd⟩ K := by
  obtain ⟨c, e', hb, hsp, hl, h⟩ := h
  exact e_store1 rfl hx hy hsz h1 rfl hst hsp hb hl h
theorem k_storeN {t : Nat} {x y : Operand} {a : Addr} {vs : Array Value} {s b : Nat} (hx : ev E x = .pointer (some a)) (hy : ev E y = .agg vs) (hsz : tsz P t = some (s, b)) (hs0 : s ≠ 0)
    (h : vs.size = s ∧ (∀ v ∈ vs.toList, storable v) ∧ ∃ c e', F a.block = some (.cells c e' (0, 0)) ∧ a.spot = none ∧ a.off + s ≤ c.size ∧ K E (F.set a.block (.cells (wr c a.off vs.toList) e'))) :
    EFK P E F ⟨none, .store t x y, ty, pos, aft, gd⟩ K := by
  obtain ⟨hs, hst, c, e', hb, hsp, hl, h⟩ := h
  refine e_storeN rfl hx hy hsz hs hst (fun h0 => ?_) hsp hb hl h
  have : vs.toList.length = 0 := by rw [h0]; rfl
  simp at this
  simp [this] at hs
  omega
theorem evN : ([] : List Operand).map (ev E) = [] := rfl
theorem evC {x : Operand} {u : Value} {xs : List Operand} {us : List Value} (hx : ev E x = u) (h : xs.map (ev E) = us) : (x :: xs).map (ev E) = u :: us := by simp [hx, h]
theorem k_call {f : FuncId} {args : List Operand} {ts : Array TypeId} {vs : List Value} (hc : callableB P f = true) (hv : args.map (ev E) = vs)
    (h : Spec P f vs.toArray F fun v F' => K (upd E d v) F') : EFK P E F ⟨some d, .call ⟨.value (.func f), args.toArray, ts⟩, ty, pos, aft, gd⟩ K := e_call rfl hc (by simp [hv]) h
theorem k_call0 {f : FuncId} {args : List Operand} {ts : Array TypeId} {vs : List Value} (hc : callableB P f = true) (hv : args.map (ev E) = vs)
    (h : Spec P f vs.toArray F fun _ F' => K E F') : EFK P E F ⟨none, .call ⟨.value (.func f), args.toArray, ts⟩, ty, pos, aft, gd⟩ K := e_call rfl hc (by simp [hv]) h
theorem k_callF {f : FuncId} {g : Operand} {args : List Operand} {ts : Array TypeId} {vs : List Value} {first captured : Array Value} (hc : callableB P f = true) (hg : ev E g = .func (.func f) first captured) (hv : args.map (ev E) = vs)
    (h : Spec P f (first ++ vs.toArray ++ captured) F fun v F' => K (upd E d v) F') : EFK P E F ⟨some d, .call ⟨.value g, args.toArray, ts⟩, ty, pos, aft, gd⟩ K := e_callF rfl hg hc (by simp [hv]) h
theorem k_append {x y : Operand} {ts : Array TypeId} {s u : Value} (hx : ev E x = s) (hy : ev E y = u)
    (h : runs P (Builtin.append_ ts ty #[s, u]) F fun v F' => K (upd E d v) F') : EFK P E F ⟨some d, .call ⟨.builtin .append, #[x, y], ts⟩, ty, pos, aft, gd⟩ K := e_append rfl hx hy h
theorem k_copy {x y : Operand} {ts : Array TypeId} {s u : Value} (hx : ev E x = s) (hy : ev E y = u)
    (h : runs P (Builtin.copy_ ts ty #[s, u]) F fun v F' => K (upd E d v) F') : EFK P E F ⟨some d, .call ⟨.builtin .copy, #[x, y], ts⟩, ty, pos, aft, gd⟩ K := e_copy rfl hx hy h
theorem k_makeSlice {t : TypeId} {x y : Operand} {u v : Value} (hx : ev E x = u) (hy : ev E y = v)
    (h : runs P (Instr.makeSlice t u v) F fun v F' => K (upd E d v) F') : EFK P E F ⟨some d, .makeSlice t x y, ty, pos, aft, gd⟩ K := e_makeSlice rfl hx hy h
theorem k_makeMap0 {t : TypeId} (h : ∀ b, F b = none → K (upd E d (.map (some b))) (F.set b (.map #[] 0))) : EFK P E F ⟨some d, .makeMap t none, ty, pos, aft, gd⟩ K := e_makeMap0 rfl h
theorem k_mapUpdate {t : TypeId} {x y z : Operand} {u v q : Value} (hx : ev E x = u) (hy : ev E y = v) (hz : ev E z = q)
    (h : runs P (Instr.mapUpdate t u v q) F fun _ F' => K E F') : EFK P E F ⟨none, .mapUpdate t x y z, ty, pos, aft, gd⟩ K := e_mapUpdate rfl hx hy hz h
end

/-! reads in the form of the walks -/
theorem w_fieldAddr {x : Operand} {t i off : Nat} {a a' : Addr} {fs : Array Field} {f : Field} {s b : Nat} (hx : ev E x = .pointer (some a)) (h1 : P.underlying t = some (.struct fs))
    (h2 : fs[i]? = some f) (hoff : f.offset = off) (h3 : tsz P f.type = some (s, b)) (hs : Nat.blt 0 s = true) (ha : a.add off = a') : RD P E F ⟨some d, .fieldAddr t x i, ty, pos, aft, gd⟩ (.pointer (some a')) := by
  subst hoff
  subst ha
  exact r_fieldAddr rfl hx h1 h2 h3 (by have := Nat.le_of_ble_eq_true hs; omega)
theorem w_loadN {x : Operand} {t s b : Nat} {dd : TypeDesc} {a : Addr} {cs : Array Value} (hx : ev E x = .pointer (some a)) (h1 : P.underlying t = some dd) (h2 : aggT dd = true)
    (h3 : tsz P t = some (s, b)) (hs : cs.size = s) (hr : F.row a cs) : RD P E F ⟨some d, .load t x, ty, pos, aft, gd⟩ (.agg cs) := by
  subst hs
  exact r_loadN rfl hx h1 h2 h3 hr
theorem w_indexAddr {x y : Operand} {t e' s b : Nat} {sl : Sl} {base : Addr} {k : IntKind} {i : Int} (hx : ev E x = sl.v) (hy : ev E y = .int k i)
    (h1 : P.underlying t = some (.slice e')) (h2 : tsz P e' = some (s, b)) (hb : sl.base = some base) (h3 : 0 ≤ i) (h4 : i < sl.len) : RD P E F ⟨some d, .indexAddr t x y, ty, pos, aft, gd⟩ (.pointer (some (base.add (i.toNat * s)))) :=
  r_indexAddrSl (len := sl.len) (cap := sl.cap) rfl (by rw [hx, Sl.v, hb]) hy h1 h2 h3 h4
theorem w_field1 {x : Operand} {t i off : Nat} {cs : Array Value} {fs : Array Field} {f : Field} {dd : TypeDesc} {v : Value} (hx : ev E x = .agg cs) (h1 : P.underlying t = some (.struct fs))
    (h2 : fs[i]? = some f) (hoff : f.offset = off) (h3 : P.underlying f.type = some dd) (h4 : aggT dd = false) (hc : cs[off]? = some v) : RD P E F ⟨some d, .field t x i, ty, pos, aft, gd⟩ v := by
  subst hoff
  exact r_field1 rfl hx h1 h2 h3 h4 hc
theorem w_fieldN {x : Operand} {t i off s b : Nat} {cs : Array Value} {fs : Array Field} {f : Field} {dd : TypeDesc} (hx : ev E x = .agg cs) (h1 : P.underlying t = some (.struct fs))
    (h2 : fs[i]? = some f) (hoff : f.offset = off) (h3 : P.underlying f.type = some dd) (h4 : aggT dd = true) (h5 : tsz P f.type = some (s, b)) : RD P E F ⟨some d, .field t x i, ty, pos, aft, gd⟩ (.agg (cs.extract off (off + s))) := by
  subst hoff
  exact r_fieldN rfl hx h1 h2 h3 h4 h5
theorem w_eql {x y : Operand} {t t' : TypeId} {k : IntKind} {a b : Int} (hx : ev E x = .int k a) (hy : ev E y = .int k b) : RD P E F ⟨some d, .binOp .eql t x y t', ty, pos, aft, gd⟩ (.bool (decide (a = b))) := r_eql rfl hx hy
theorem w_neq {x y : Operand} {t t' : TypeId} {k : IntKind} {a b : Int} (hx : ev E x = .int k a) (hy : ev E y = .int k b) : RD P E F ⟨some d, .binOp .neq t x y t', ty, pos, aft, gd⟩ (.bool (decide (a ≠ b))) := by
  have h := r_neq (P := P) (F := F) (o := ⟨some d, .binOp .neq t x y t', ty, pos, aft, gd⟩) rfl hx hy
  have e : (a != b) = decide (a ≠ b) := by rw [Bool.eq_iff_iff]; simp
  rw [e] at h
  exact h
theorem w_notD {x : Operand} {t : TypeId} {p : Prop} [Decidable p] (hx : ev E x = .bool (decide p)) : RD P E F ⟨some d, .unOp .not t x, ty, pos, aft, gd⟩ (.bool (decide (¬ p))) := by
  have h := r_not (P := P) (F := F) (o := ⟨some d, .unOp .not t x, ty, pos, aft, gd⟩) rfl hx
  rw [← decide_not] at h
  exact h
theorem bo_ev {x : Operand} {k : IntKind} {i : Int} {m : Nat} (hx : ev E x = .int k i) (h : 0 ≤ i) : boundOk (Option.map (ev E) (some x)) m i.toNat := .inr ⟨k, i, by simp [hx], h, rfl⟩
theorem bo_none {m : Nat} : boundOk none m m := .inl ⟨rfl, rfl⟩
theorem bo_some {k : IntKind} {i : Int} {m : Nat} (h : 0 ≤ i) : boundOk (some (.int k i)) m i.toNat := .inr ⟨k, i, rfl, h, rfl⟩

/-! regions in any order -/
theorem g_pu {i : Nat} {fuel : Nat} {listed : Array Bool} {Sp : Pend} (hi : ops[i]? = some ⟨some d, op, ty, pos, aft, gd⟩)
    (hs : Region.noSelect ops = true) (hf : Region.free .any ops listed i = true) (hr : (Region.ready .any ops listed).contains i = true)
    (hp : ∀ c E F, ¬ Q (.panic c) E F) (hy : ∀ F, RD P E F ⟨some d, op, ty, pos, aft, gd⟩ v) (hh : holdF Sp F)
    (h : RG P n ops Q fuel (listed.setIfInBounds i true) Sp (upd E d v) F) (hw : Region.wanted ⟨some d, op, ty, pos, aft, gd⟩ (yE ops E) = true := by rfl) (hd : Nat.blt d n = true := by rfl) : RG P n ops Q (fuel + 1) listed Sp E F :=
  RG_pu hi hs hf hr hd hp hw hy hh h
theorem g_rd {i : Nat} {fuel : Nat} {listed : Array Bool} {Sp : Pend} (hi : ops[i]? = some ⟨some d, op, ty, pos, aft, gd⟩)
    (hs : Region.noSelect ops = true) (hf : Region.free .any ops listed i = true) (hr : (Region.ready .any ops listed).contains i = true)
    (hp : ∀ c E F, ¬ Q (.panic c) E F) (hy : RD P E F ⟨some d, op, ty, pos, aft, gd⟩ v) (hh : holdF Sp F)
    (h : ∀ S : World → Prop, (∀ F, RD P E F ⟨some d, op, ty, pos, aft, gd⟩ v → allW F S) → RG P n ops Q fuel (listed.setIfInBounds i true) ((i, S) :: Sp) (upd E d v) F)
    (hw : Region.wanted ⟨some d, op, ty, pos, aft, gd⟩ (yE ops E) = true := by rfl) (hd : Nat.blt d n = true := by rfl) : RG P n ops Q (fuel + 1) listed Sp E F :=
  RG_rd hi hs hf hr hd hp hw hy hh (h _ (fun _ hr => allW_rd hr))
theorem g_skip {i : Nat} {fuel : Nat} {listed : Array Bool} {Sp : Pend} (hi : ops[i]? = some ⟨some d, op, ty, pos, aft, gd⟩)
    (hs : Region.noSelect ops = true) (hf : Region.free .any ops listed i = true) (hr : (Region.ready .any ops listed).contains i = true)
    (hp : ∀ c E F, ¬ Q (.panic c) E F) (hh : holdF Sp F)
    (h : RG P n ops Q fuel (listed.setIfInBounds i true) Sp (upd E d undef) F) (hw : Region.wanted ⟨some d, op, ty, pos, aft, gd⟩ (yE ops E) = false := by rfl) (hd : Nat.blt d n = true := by rfl) : RG P n ops Q (fuel + 1) listed Sp E F :=
  RG_skip hi hs hf hr hd hp hw hh h
theorem g_skip0 {i : Nat} {fuel : Nat} {listed : Array Bool} {Sp : Pend} (hi : ops[i]? = some ⟨none, op, ty, pos, aft, gd⟩)
    (hs : Region.noSelect ops = true) (hf : Region.free .any ops listed i = true) (hr : (Region.ready .any ops listed).contains i = true)
    (hp : ∀ c E F, ¬ Q (.panic c) E F) (hh : holdF Sp F)
    (h : RG P n ops Q fuel (listed.setIfInBounds i true) Sp E F) (hw : Region.wanted ⟨none, op, ty, pos, aft, gd⟩ (yE ops E) = false := by rfl) : RG P n ops Q (fuel + 1) listed Sp E F :=
  RG_skip hi hs hf hr rfl hp hw hh h
theorem g_op {i : Nat} {fuel : Nat} {listed : Array Bool} {Sp Sp' : Pend} (hi : ops[i]? = some ⟨some d, op, ty, pos, aft, gd⟩) (hsp : Pend.rest .any ⟨some d, op, ty, pos, aft, gd⟩ Sp = Sp')
    (h : EFK P E F ⟨some d, op, ty, pos, aft, gd⟩ fun E' F' => holdF Sp' F' ∧ RG P n ops Q fuel (listed.setIfInBounds i true) Sp' E' F')
    (hw : Region.wanted ⟨some d, op, ty, pos, aft, gd⟩ (yE ops E) = true := by rfl) (hd : Nat.blt d n = true := by rfl) : RGop P n ops Q fuel listed Sp E F i := by
  subst hsp; exact ⟨_, hi, hd, hw, h⟩
theorem g_op0 {i : Nat} {fuel : Nat} {listed : Array Bool} {Sp Sp' : Pend} (hi : ops[i]? = some ⟨none, op, ty, pos, aft, gd⟩) (hsp : Pend.rest .any ⟨none, op, ty, pos, aft, gd⟩ Sp = Sp')
    (h : EFK P E F ⟨none, op, ty, pos, aft, gd⟩ fun E' F' => holdF Sp' F' ∧ RG P n ops Q fuel (listed.setIfInBounds i true) Sp' E' F')
    (hw : Region.wanted ⟨none, op, ty, pos, aft, gd⟩ (yE ops E) = true := by rfl) : RGop P n ops Q fuel listed Sp E F i := by
  subst hsp; exact ⟨_, hi, rfl, hw, h⟩
/-- An assignment of a temporary is carried out where it comes up. -/
theorem k_rd {K : En → PH → Prop} (h : RD P E F ⟨some d, op, ty, pos, aft, gd⟩ v) (hk : K (upd E d v) F) : EFK P E F ⟨some d, op, ty, pos, aft, gd⟩ K := rdo_runs _ _ _ _ h hk
theorem hold0 : holdF [] F := fun _ h => by cases h
theorem holdC {i : Nat} {S : World → Prop} {Sp : Pend} (h : allW F S) (hh : holdF Sp F) : holdF ((i, S) :: Sp) F := fun r hr => by
  rcases List.mem_cons.1 hr with rfl | hr
  · exact h
  · exact hh r hr
theorem holdI {A B : Prop} (h : A) (k : A → B) : A ∧ B := ⟨h, k h⟩
theorem HC_draw0 {id : Nat} (hm : P.follows .mixedOrders = true) (h : holdF [] F → RG P n ops Q ops.size (Array.replicate ops.size false) [] E F) :
    HC P n (.region id ops true) Q E F := HC_draw hm (h hold0)
theorem cell_set_fresh {b : Nat} {o : Obj} {a : Addr} {u : Value} (hb : F b = none) (h : F.cell a = some u) : (F.set b o).cell a = some u := by
  unfold PH.cell PH.set at *
  by_cases hab : a.block = b
  · subst hab; rw [hb] at h; cases h
  · simpa [hab] using h
theorem row_set_fresh {b : Nat} {o : Obj} {a : Addr} {cs : Array Value} (hb : F b = none) (h : F.row a cs) : (F.set b o).row a cs := fun i hi => cell_set_fresh hb (h i hi)

/-! the ends of functions -/
theorem getD' {tmps : Array Value} {t : Nat} {v u : Value} (h : Array.getD tmps t undef = v) (hv : v = u) : tmps[t]?.getD undef = u := by
  rw [← Array.getD_eq_getD_getElem?, h, hv]
theorem res_cell {t s : Nat} {dd : TypeDesc} {a : Addr} {cs : Array Value} {b : Nat} {e : Ev} {w : World} (st : Sat e w F) (h1 : P.underlying t = some dd) (h2 : aggT dd = true) (h3 : tsz P t = some (s, b)) (hs : cs.size = s) (hr : F.row a cs) :
    (loadVar t a).run P w = .ok (.agg cs) w := by
  subst hs
  refine rdo_run _ F w _ ?_ st
  simp [loadVar, rdo_bind, rdo_isAgg h1, h2, rdo_sizeOf h3, rdo_loadCells hr]
theorem res_cell1 {t : TypeId} {dd : TypeDesc} {a : Addr} {e : Ev} {w : World} (st : Sat e w F) (h1 : P.underlying t = some dd) (h2 : aggT dd = false) (hr : F.cell a = some v) :
    (loadVar t a).run P w = .ok v w := by
  refine rdo_run _ F w _ ?_ st
  simp [loadVar, rdo_bind, rdo_isAgg h1, h2, load, rdo, hr]
/-- What a result variable holds. -/
def rvOk (P : Program) (E : En) (F : PH) : ResultVar → Value → Prop
  | .tmp t, v => E t = v
  | .cell x t, v => ∃ a, E x = .pointer (some a) ∧ ∀ e w, Sat e w F → (loadVar t a).run P w = .ok v w
theorem rv_tmp {t : Tmp} {v : Value} (hv : E t = v) : rvOk P E F (.tmp t) v := hv
theorem rv_cellN {x : Tmp} {t s : Nat} {dd : TypeDesc} {a : Addr} {cs : Array Value} {b : Nat} (hx : E x = .pointer (some a)) (h1 : P.underlying t = some dd) (h2 : aggT dd = true) (h3 : tsz P t = some (s, b)) (hs : cs.size = s) (hr : F.row a cs) :
    rvOk P E F (.cell x t) (.agg cs) := ⟨a, hx, fun _ _ st => res_cell st h1 h2 h3 hs hr⟩
theorem rv_cell1 {x : Tmp} {t : Nat} {dd : TypeDesc} {a : Addr} {v : Value} (hx : E x = .pointer (some a)) (h1 : P.underlying t = some dd) (h2 : aggT dd = false) (hr : F.cell a = some v) :
    rvOk P E F (.cell x t) v := ⟨a, hx, fun _ _ st => res_cell1 st h1 h2 hr⟩
theorem rv_run {r : ResultVar} {v : Value} (h : rvOk P E F r v) {e : Ev} {w : World} {tmps : Array Value} (st : Sat e w F) (ht : ∀ t : Nat, Array.getD tmps t undef = E t) :
    (∃ t, r = .tmp t ∧ tmps[t]?.getD undef = v) ∨ ∃ x t a, r = .cell x t ∧ tmps[x]?.getD undef = .pointer (some a) ∧ (loadVar t a).run P w = .ok v w := by
  cases r with
  | tmp t => exact .inl ⟨t, rfl, getD' (ht t) h⟩
  | cell x t =>
    obtain ⟨a, h1, h2⟩ := h
    exact .inr ⟨x, t, a, rfl, getD' (ht x) h1, h2 e w st⟩
theorem res0 {fn : Func} (h : fn.results = #[]) : resOk P fn E F (.tuple #[]) := fun e w tmps _ _ => by simp [results, h]
theorem res1 {fn : Func} {r : ResultVar} {v : Value} (h : fn.results = #[r]) (hv : rvOk P E F r v) : resOk P fn E F v := fun e w tmps st ht => by
  have k := rv_run hv st ht
  clear ht hv
  rcases k with ⟨t, rfl, h1⟩ | ⟨x, t, a, rfl, h1, h2⟩ <;> simp [results, asAddr, *]
theorem res2 {fn : Func} {r r' : ResultVar} {v v' : Value} (h : fn.results = #[r, r']) (hv : rvOk P E F r v) (hv' : rvOk P E F r' v') : resOk P fn E F (.tuple #[v, v']) := fun e w tmps st ht => by
  have k := rv_run hv st ht
  have k' := rv_run hv' st ht
  clear ht hv hv'
  rcases k with ⟨t, rfl, h1⟩ | ⟨x, t, a, rfl, h1, h2⟩ <;> rcases k' with ⟨t', rfl, h3⟩ | ⟨x', t', a', rfl, h3, h4⟩ <;> simp [results, asAddr, *]
theorem res3 {fn : Func} {r r' r'' : ResultVar} {v v' v'' : Value} (h : fn.results = #[r, r', r'']) (hv : rvOk P E F r v) (hv' : rvOk P E F r' v') (hv'' : rvOk P E F r'' v'') : resOk P fn E F (.tuple #[v, v', v'']) := fun e w tmps st ht => by
  have k := rv_run hv st ht
  have k' := rv_run hv' st ht
  have k'' := rv_run hv'' st ht
  clear ht hv hv' hv''
  rcases k with ⟨t, rfl, h1⟩ | ⟨x, t, a, rfl, h1, h2⟩ <;> rcases k' with ⟨t', rfl, h3⟩ | ⟨x', t', a', rfl, h3, h4⟩ <;> rcases k'' with ⟨t'', rfl, h5⟩ | ⟨x'', t'', a'', rfl, h5, h6⟩ <;> simp [results, asAddr, *]
theorem st_int {k : IntKind} {x : Int} : storable (.int k x) := ⟨(fun _ h => by cases h), (fun _ h => by cases h)⟩
theorem st_bool {x : Bool} : storable (.bool x) := ⟨(fun _ h => by cases h), (fun _ h => by cases h)⟩
theorem st_ptr {x : Option Addr} : storable (.pointer x) := ⟨(fun _ h => by cases h), (fun _ h => by cases h)⟩
theorem st_sl {x : Sl} : storable x.v := ⟨(fun _ h => by cases h), (fun _ h => by cases h)⟩
theorem st_str {x : ByteArray} : storable (.string x) := ⟨(fun _ h => by cases h), (fun _ h => by cases h)⟩
theorem st_map {x : Option Nat} : storable (.map x) := ⟨(fun _ h => by cases h), (fun _ h => by cases h)⟩
theorem st_func {f : Fn} {a b : Array Value} : storable (.func f a b) := ⟨(fun _ h => by cases h), (fun _ h => by cases h)⟩
end
end Go.Proofs.YtnjcgpihfmklfaaDoor
