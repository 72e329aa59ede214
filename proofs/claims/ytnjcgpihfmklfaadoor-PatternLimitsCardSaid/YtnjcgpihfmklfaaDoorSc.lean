/-
  Maps whose keys are pairs, beside a slice of pairs that grows.
-/
import Derived.Test.YtnjcgpihfmklfaaDoorSb
import Derived.Test.YtnjcgpihfmklfaaDoorPhm
namespace Go.Proofs.YtnjcgpihfmklfaaDoor
open Go Go.Proofs.Tryd
set_option maxRecDepth 10000

theorem chk_int' (e : Bool) (n : Nat) (a : Int) (F : PH) : rdo prog (Instr.checkKey e (n + 1) 3 (vi a)) F () := by
  simp only [Instr.checkKey, rdo_bind]
  refine ⟨_, (rdo_underlying underlying3 _).2 rfl, ?_⟩
  rfl
theorem chk_step' (e : Bool) (n : Nat) (i : Nat) (cs : Array Value) (x : Int) (h1 : cs[i]? = some (vi x)) (F : PH) :
    rdo prog (do
      let a ← part 3 cs i
      Instr.checkKey e (n + 1) 3 a
      pure (ForInStep.yield PUnit.unit) : Sem (ForInStep PUnit)) F (.yield PUnit.unit) := by
  simp only [rdo_bind]
  exact ⟨_, part_kind 3 .i64 underlying3 h1, _, chk_int' e n x F, rfl⟩
theorem si92 : prog.stoodInHeld 92 = false := by kernel_rfl
abbrev encP (p : Pr) : Value := .agg (parr p)
def pget (p : Pr) (k : Nat) : Int := match k with | 0 => p.1 | _ => p.2
theorem eqP (F : PH) (x y : Pr) : rdo prog (Op.equal 92 (encP x) (encP y)) F (decide (x = y)) := by
  unfold Op.equal Op.maxDepth
  show rdo prog (Op.equalIn (9998 + 1 + 1) 92 _ _) _ _
  unfold Op.equalIn
  simp only [rdo_bind]
  refine ⟨_, (rdo_underlying underlying92 _).2 rfl, ?_⟩
  dsimp only
  rw [rdo_bind]
  refine ⟨prog, rfl, ?_⟩
  rw [si92]
  simp only [Bool.false_eq_true, if_false]
  rw [List.forIn_toArray, rdo_bind]
  refine ⟨_, loopEq _ (fun f => decide (pget x f.offset = pget y f.offset)) _ fun f hf => ?_, ?_⟩
  · simp only [List.mem_cons, List.not_mem_nil, or_false] at hf
    rcases hf with rfl | rfl <;> (rw [if_pos (by decide)]; exact fld_kind 3 .i64 underlying3 9998 _ _ _ _ _ rfl rfl)
  · obtain ⟨a, b⟩ := x
    obtain ⟨a', b'⟩ := y
    simp only [List.all_cons, List.all_nil, pget, Bool.and_true]
    by_cases h : a = a' ∧ b = b'
    · obtain ⟨rfl, rfl⟩ := h
      simp
    · have h2 : ¬ (decide ((a : Int) = (a' : Int)) && decide ((b : Int) = (b' : Int))) = true := by
        simp only [Bool.and_eq_true, decide_eq_true_eq, Int.natCast_inj]
        exact h
      rw [if_neg h2]
      have h3 : ¬ ((a, b) = (a', b')) := fun hh => h (by simpa using hh)
      rw [decide_eq_false h3]
      rfl
theorem chkPr (e : Bool) (x : Pr) (F : PH) : rdo prog (Instr.checkKey e 10000 92 (encP x)) F () := by
  show rdo prog (Instr.checkKey e (9998 + 1 + 1) 92 _) _ _
  unfold Instr.checkKey
  simp only [rdo_bind]
  refine ⟨_, (rdo_underlying underlying92 _).2 rfl, ?_⟩
  dsimp only
  simp only [List.forIn_toArray, List.forIn_cons, List.forIn_nil]
  rw [if_pos (by decide), if_pos (by decide)]
  refine (rdo_bind _ _ _ _).2 ⟨PUnit.unit, (rdo_bind _ _ _ _).2 ⟨_, chk_step' e 9998 0 _ _ rfl F, (rdo_bind _ _ _ _).2 ⟨_, chk_step' e 9998 1 _ _ rfl F, rfl⟩⟩, rfl⟩
theorem keyP : KeyTy prog 92 encP := by
  refine ⟨fun F a b => eqP F a b, fun F e a => chkPr e a F, fun a => ?_, _, underlying92, .inr fun a b => ?_⟩
  · show Instr.sameBits (9998 + 1 + 1) _ _ = true
    simp [Instr.sameBits]
  · rfl
theorem zr3' : tzero prog 3 = some (vi 0) := by kernel_rfl
theorem mt87 : MapTy prog 87 encP (vi 0) := ⟨_, _, underlying87, zr3', keyP⟩
theorem mt117 : MapTy prog 117 encP (.bool false) := ⟨_, _, underlying117, zr4', keyP⟩

/-- A map b and a slice of pairs that grows, beside variables. -/
structure Qu (G F : PH) (b : Nat) (mv : Pr → Option Value) (sl : Sl) (q : List Pr) (ys : List (Nat × Array Value × TypeId)) : Prop where
  lo : Lo G F ys
  mz : ∃ o, F b = some o ∧ MapO encP mv o
  mg : G b = none
  mn : ∀ p ∈ ys, p.1 ≠ b
  own : OwnS F 92 2 sl (pflat q)
  oz : ∀ a, sl.base = some a → G a.block = none ∧ a.block ≠ b ∧ ∀ p ∈ ys, p.1 ≠ a.block
section
variable {G F : PH} {b : Nat} {mv : Pr → Option Value} {sl : Sl} {q : List Pr} {ys : List (Nat × Array Value × TypeId)}
theorem Qu.cell (h : Qu G F b mv sl q ys) {c i : Nat} {w : Array Value} {e : TypeId} (hm : (c, w, e) ∈ ys) : F.cell (Addr.mk c i none) = w[i]? := h.lo.cell hm
theorem Qu.row (h : Qu G F b mv sl q ys) {c : Nat} {w : Array Value} {e : TypeId} (hm : (c, w, e) ∈ ys) : F.row (Addr.mk c 0 none) w := h.lo.row hm
theorem Qu.sub (h : Qu G F b mv sl q ys) {zs : List (Nat × Array Value × TypeId)} (hs : zs.Sublist ys) : Qu G F b mv sl q zs :=
  ⟨h.lo.sub hs, h.mz, h.mg, fun p hp => h.mn p (hs.subset hp), h.own, fun a ha => ⟨(h.oz a ha).1, (h.oz a ha).2.1, fun p hp => (h.oz a ha).2.2 p (hs.subset hp)⟩⟩
theorem Qu.base {G0 : PH} (h : Qu G F b mv sl q ys) (hl : G0.le G) : Qu G0 F b mv sl q ys :=
  ⟨⟨le_trans' hl h.lo.le, fun p hp => ⟨(h.lo.z p hp).1, le_none hl (h.lo.z p hp).2⟩, h.lo.nd⟩, h.mz, le_none hl h.mg, h.mn, h.own, fun a ha => ⟨le_none hl (h.oz a ha).1, (h.oz a ha).2⟩⟩
theorem Qu.call {f : FuncId} {args : Array Value} {P : Value → PH → Prop} (h : Qu G F b mv sl q ys) (s : Spec prog f args G P) : Spec prog f args F fun r F' => ∃ G', P r G' ∧ Qu G' F' b mv sl q ys :=
  (s.upon h.lo.le).mono fun r F' ⟨G', hp, hl, hk⟩ => by
    obtain ⟨o, ho, hm⟩ := h.mz
    refine ⟨G', hp, ⟨⟨hl, fun p hp => ?_, h.lo.nd⟩, ⟨o, (hk _ _ h.mg ho).1, hm⟩, (hk _ _ h.mg ho).2, h.mn, h.own.keep fun a ha => ?_, fun a ha => ?_⟩⟩
    · obtain ⟨a, b⟩ := h.lo.z p hp
      exact hk _ _ b a
    · obtain ⟨o, ho⟩ := h.own.some ha
      rw [(hk _ _ (h.oz a ha).1 ho).1, ho]
    · obtain ⟨o, ho⟩ := h.own.some ha
      exact ⟨(hk _ _ (h.oz a ha).1 ho).2, (h.oz a ha).2⟩
theorem Qu.new (h : Qu G F b mv sl q ys) (c : Array Value) (e : TypeId) {x : Nat} (hx : F x = none) : Qu G (F.set x (.cells c e)) b mv sl q ((x, c, e) :: ys) := by
  obtain ⟨o, ho, hm⟩ := h.mz
  refine ⟨h.lo.new' c e hx, ⟨o, (set_ne _ _ (ne_of_fresh hx ho)).trans ho, hm⟩, h.mg, fun p hp => ?_, h.own.keep fun a ha => ?_, fun a ha => ⟨(h.oz a ha).1, (h.oz a ha).2.1, fun p hp => ?_⟩⟩
  · rcases List.mem_cons.1 hp with rfl | hp
    · exact (ne_of_fresh hx ho).symm
    · exact h.mn p hp
  · obtain ⟨o, ho⟩ := h.own.some ha
    exact set_ne _ _ (ne_of_fresh hx ho)
  · rcases List.mem_cons.1 hp with rfl | hp
    · obtain ⟨o, ho⟩ := h.own.some ha
      exact (ne_of_fresh hx ho).symm
    · exact (h.oz a ha).2.2 p hp
/-- A variable that holds a pair. -/
theorem Qu.var (h : Qu G F b mv sl q ys) (p : Pr) {K : Nat → PH → Prop} (k : ∀ x F', Qu G F' b mv sl q ((x, parr p, 92) :: ys) → K x F') : ∀ x, F x = none → atF (F.set x (.cells (#[.int .i64 0, .int .i64 0]) 92)) fun F =>
    (parr p).size = 2 ∧ (∀ v ∈ (parr p).toList, storable v) ∧ ∃ c e, F (Addr.mk x 0 none).block = some (.cells c e (0, 0)) ∧ (Addr.mk x 0 none).spot = none ∧ (Addr.mk x 0 none).off + 2 ≤ c.size ∧
    atF (F.set (Addr.mk x 0 none).block (.cells (wr c (Addr.mk x 0 none).off (parr p).toList) e)) (K x) := by
  intro x hx
  refine atI ?_
  have h' := h.new #[.int .i64 0, .int .i64 0] 92 hx
  generalize F.set x (.cells #[.int .i64 0, .int .i64 0] 92) = F1 at *
  refine stW (h'.lo.get (b := x) (w := #[.int .i64 0, .int .i64 0]) (e := 92) (by simp)) rfl rfl (st_parr p) (k x _ ?_)
  obtain ⟨o, ho, hm⟩ := h'.mz
  refine ⟨Lo.upd [] ys h'.lo (set_eq _ _ _) (Keep.set _ (.inl rfl)), ⟨o, (set_ne _ _ (h'.mn _ (List.mem_cons_self)).symm).trans ho, hm⟩, h'.mg, fun p hp => ?_, h'.own.keep fun a ha => ?_, fun a ha => ⟨(h'.oz a ha).1, (h'.oz a ha).2.1, fun p hp => ?_⟩⟩
  · rcases List.mem_cons.1 hp with rfl | hp
    · exact h'.mn (x, #[.int .i64 0, .int .i64 0], 92) (List.mem_cons_self)
    · exact h.mn p hp
  · exact set_ne _ _ ((h'.oz a ha).2.2 _ (List.mem_cons_self)).symm
  · rcases List.mem_cons.1 hp with rfl | hp
    · exact (h'.oz a ha).2.2 (x, #[.int .i64 0, .int .i64 0], 92) (List.mem_cons_self)
    · exact (h.oz a ha).2.2 p hp
theorem Qu.upd {mt : TypeId} {z : Value} (hmt : MapTy prog mt encP z) (h : Qu G F b mv sl q ys) (p : Pr) (v : Value) {K : PH → Prop} (k : ∀ F', Qu G F' b (fun z => if z = p then some v else mv z) sl q ys → K F') :
    runs prog (Instr.mapUpdate mt (.map (some b)) (.agg (parr p)) v) F fun _ F => K F := by
  obtain ⟨o, ho, hm⟩ := h.mz
  refine runs_mapUpdate hmt ho hm p v fun o' ho' => k _ ?_
  have hne : ∀ x, x ≠ b → F.set b o' x = F x := fun x hx => set_ne _ _ hx
  refine ⟨⟨fun x ob hx => ?_, fun p hp => ?_, h.lo.nd⟩, ⟨o', set_eq _ _ _, ho'⟩, h.mg, h.mn, h.own.keep fun a ha => hne _ (h.oz a ha).2.1, h.oz⟩
  · have : x ≠ b := fun e => by rw [e, h.mg] at hx; cases hx
    rw [hne x this]
    exact h.lo.le _ _ hx
  · rw [hne _ (h.mn p hp)]
    exact h.lo.z p hp
theorem Qu.look {mt : TypeId} {z : Value} (hmt : MapTy prog mt encP z) (h : Qu G F b mv sl q ys) (p : Pr) (ok : Bool) : rdo prog (Instr.lookup mt (.map (some b)) (.agg (parr p)) ok) F (if ok then .tuple #[(mv p).getD z, .bool (mv p).isSome] else (mv p).getD z) := by
  obtain ⟨o, ho, hm⟩ := h.mz
  exact rdo_lookup hmt ho hm p ok
theorem Qu.push (h : Qu G F b mv sl q ys) (p : Pr) (hl : q.length ≤ 1000000) {K : Sl → PH → Prop} (k : ∀ s' F', Qu G F' b mv s' (q ++ [p]) ys → K s' F') :
    ∀ x, F x = none → atF (F.set x (.cells (parr p) 92)) fun F =>
      runs prog (Builtin.append_ #[89, 89] 89 #[(Sl.v sl), (Sl.v (Sl.mk (some (Addr.mk x 0 none)) 1 1))]) F fun v F => ∃ s' : Sl, v = (Sl.v s') ∧ K s' F := by
  intro x hx
  refine atI ?_
  have h1 := h.new (parr p) 92 hx
  have q1 := set_eq F x (.cells (parr p) 92)
  generalize F.set x (.cells (parr p) 92) = F1 at *
  have hlen := h1.own.rd.plen
  refine own_app (F0 := G) (x := ⟨some ⟨x, 0, none⟩, 1, 1⟩) (news := pcells p) underlying89 sz92' zr92' rfl (by decide) h1.lo.le h1.own (fun a ha => (h1.oz a ha).1) (RdS.new q1 rfl rfl (Nat.le_refl _)) (st_parr p) (by simp only; omega) (by simp only; omega) ?_
  intro s' F2 le2 ho2 hl2 hnew keep hsome
  refine ⟨s', rfl, k s' F2 ?_⟩
  obtain ⟨o, ho, hm⟩ := h.mz
  obtain ⟨o1, ho1, hm1⟩ := h1.mz
  have hz : ∀ y ob, F1 y = some ob → (∀ a, sl.base = some a → a.block ≠ y) → F2 y = some ob := fun y ob hy hn => keep _ _ hy fun ⟨a, ha, e⟩ => hn a ha e
  have e : pflat (q ++ [p]) = pflat q ++ pcells p := by rw [pflat_append]; simp [pflat]
  refine ⟨⟨le2, fun y hy => ⟨hz _ _ (h1.lo.z y (List.mem_cons_of_mem _ hy)).1 fun a ha => ((h.oz a ha).2.2 y hy).symm, (h.lo.z y hy).2⟩, h.lo.nd⟩, ⟨o1, hz _ _ ho1 fun a ha => (h.oz a ha).2.1, hm1⟩, h.mg, h.mn, by rw [e]; exact ho2, fun a ha => ⟨hnew a ha, ?_⟩⟩
  rcases hsome a ha with ⟨a', ha', e'⟩ | hf
  · rw [← e']
    exact (h.oz a' ha').2
  · exact ⟨fun e => (by rw [e, ho1] at hf; cases hf), fun y hy e => (by rw [← e, (h1.lo.z y (List.mem_cons_of_mem _ hy)).1] at hf; cases hf)⟩
end
end Go.Proofs.YtnjcgpihfmklfaaDoor
