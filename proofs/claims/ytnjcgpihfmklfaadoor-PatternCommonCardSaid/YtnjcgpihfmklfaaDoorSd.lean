/-
  The least numbers of further bytes.
-/
import Derived.Test.YtnjcgpihfmklfaaDoorSb
import Derived.Test.YtnjcgpihfmklfaaDoorPhm
namespace Go.Proofs.YtnjcgpihfmklfaaDoor
open Go Go.Proofs.Tryd
set_option maxRecDepth 10000

theorem chk_int' (e : Bool) (n : Nat) (a : Int) (F : PH) : rdo prog (Instr.checkKey e (n + 1) 3 (vi a)) F () := by
  simp only [Instr.checkKey, rdo_bind]
  refine ⟨_, (rdo_underlying underlying3 _).2 rfl, ?_⟩
  rfl
theorem chk_step' (e : Bool) (n : Nat) (i : Nat) (cs : Array Value) (x : Int) (h1 : cs[i]? = some (vi x)) (F : PH) :
    rdo prog (do
      let a ← part 3 cs i
      Instr.checkKey e (n + 1) 3 a
      pure (ForInStep.yield PUnit.unit) : Sem (ForInStep PUnit)) F (.yield PUnit.unit) := by
  simp only [rdo_bind]
  exact ⟨_, part_kind 3 .i64 underlying3 h1, _, chk_int' e n x F, rfl⟩
theorem si92 : prog.stoodInHeld 92 = false := by kernel_rfl
abbrev encP (p : Pr) : Value := .agg (parr p)
def pget (p : Pr) (k : Nat) : Int := match k with | 0 => p.1 | _ => p.2
theorem eqP (F : PH) (x y : Pr) : rdo prog (Op.equal 92 (encP x) (encP y)) F (decide (x = y)) := by
  unfold Op.equal Op.maxDepth
  show rdo prog (Op.equalIn (9998 + 1 + 1) 92 _ _) _ _
  unfold Op.equalIn
  simp only [rdo_bind]
  refine ⟨_, (rdo_underlying underlying92 _).2 rfl, ?_⟩
  dsimp only
  rw [rdo_bind]
  refine ⟨prog, rfl, ?_⟩
  rw [si92]
  simp only [Bool.false_eq_true, if_false]
  rw [List.forIn_toArray, rdo_bind]
  refine ⟨_, loopEq _ (fun f => decide (pget x f.offset = pget y f.offset)) _ fun f hf => ?_, ?_⟩
  · simp only [List.mem_cons, List.not_mem_nil, or_false] at hf
    rcases hf with rfl | rfl <;> (rw [if_pos (by decide)]; exact fld_kind 3 .i64 underlying3 9998 _ _ _ _ _ rfl rfl)
  · obtain ⟨a, b⟩ := x
    obtain ⟨a', b'⟩ := y
    simp only [List.all_cons, List.all_nil, pget, Bool.and_true]
    by_cases h : a = a' ∧ b = b'
    · obtain ⟨rfl, rfl⟩ := h
      simp
    · have h2 : ¬ (decide ((a : Int) = (a' : Int)) && decide ((b : Int) = (b' : Int))) = true := by
        simp only [Bool.and_eq_true, decide_eq_true_eq, Int.natCast_inj]
        exact h
      rw [if_neg h2]
      have h3 : ¬ ((a, b) = (a', b')) := fun hh => h (by simpa using hh)
      rw [decide_eq_false h3]
      rfl
theorem chkPr (e : Bool) (x : Pr) (F : PH) : rdo prog (Instr.checkKey e 10000 92 (encP x)) F () := by
  show rdo prog (Instr.checkKey e (9998 + 1 + 1) 92 _) _ _
  unfold Instr.checkKey
  simp only [rdo_bind]
  refine ⟨_, (rdo_underlying underlying92 _).2 rfl, ?_⟩
  dsimp only
  simp only [List.forIn_toArray, List.forIn_cons, List.forIn_nil]
  rw [if_pos (by decide), if_pos (by decide)]
  refine (rdo_bind _ _ _ _).2 ⟨PUnit.unit, (rdo_bind _ _ _ _).2 ⟨_, chk_step' e 9998 0 _ _ rfl F, (rdo_bind _ _ _ _).2 ⟨_, chk_step' e 9998 1 _ _ rfl F, rfl⟩⟩, rfl⟩
theorem keyP : KeyTy prog 92 encP := by
  refine ⟨fun F a b => eqP F a b, fun F e a => chkPr e a F, fun a => ?_, _, underlying92, .inr fun a b => ?_⟩
  · show Instr.sameBits (9998 + 1 + 1) _ _ = true
    simp [Instr.sameBits]
  · rfl
theorem zr3' : tzero prog 3 = some (vi 0) := by kernel_rfl
theorem mt87 : MapTy prog 87 encP (vi 0) := ⟨_, _, underlying87, zr3', keyP⟩
theorem mt117 : MapTy prog 117 encP (.bool false) := ⟨_, _, underlying117, zr4', keyP⟩

/-- A map b and a slice of pairs that grows, beside variables. -/
structure Qu (G F : PH) (b : Nat) (mv : Pr → Option Value) (sl : Sl) (q : List Pr) (ys : List (Nat × Array Value × TypeId)) : Prop where
  lo : Lo G F ys
  mz : ∃ o, F b = some o ∧ MapO encP mv o
  mg : G b = none
  mn : ∀ p ∈ ys, p.1 ≠ b
  own : OwnS F 92 2 sl (pflat q)
  oz : ∀ a, sl.base = some a → G a.block = none ∧ a.block ≠ b ∧ ∀ p ∈ ys, p.1 ≠ a.block
section
variable {G F : PH} {b : Nat} {mv : Pr → Option Value} {sl : Sl} {q : List Pr} {ys : List (Nat × Array Value × TypeId)}
theorem Qu.cell (h : Qu G F b mv sl q ys) {c i : Nat} {w : Array Value} {e : TypeId} (hm : (c, w, e) ∈ ys) : F.cell (Addr.mk c i none) = w[i]? := h.lo.cell hm
theorem Qu.row (h : Qu G F b mv sl q ys) {c : Nat} {w : Array Value} {e : TypeId} (hm : (c, w, e) ∈ ys) : F.row (Addr.mk c 0 none) w := h.lo.row hm
theorem Qu.sub (h : Qu G F b mv sl q ys) {zs : List (Nat × Array Value × TypeId)} (hs : zs.Sublist ys) : Qu G F b mv sl q zs :=
  ⟨h.lo.sub hs, h.mz, h.mg, fun p hp => h.mn p (hs.subset hp), h.own, fun a ha => ⟨(h.oz a ha).1, (h.oz a ha).2.1, fun p hp => (h.oz a ha).2.2 p (hs.subset hp)⟩⟩
theorem Qu.base {G0 : PH} (h : Qu G F b mv sl q ys) (hl : G0.le G) : Qu G0 F b mv sl q ys :=
  ⟨⟨le_trans' hl h.lo.le, fun p hp => ⟨(h.lo.z p hp).1, le_none hl (h.lo.z p hp).2⟩, h.lo.nd⟩, h.mz, le_none hl h.mg, h.mn, h.own, fun a ha => ⟨le_none hl (h.oz a ha).1, (h.oz a ha).2⟩⟩
theorem Qu.call {f : FuncId} {args : Array Value} {P : Value → PH → Prop} (h : Qu G F b mv sl q ys) (s : Spec prog f args G P) : Spec prog f args F fun r F' => ∃ G', P r G' ∧ Qu G' F' b mv sl q ys :=
  (s.upon h.lo.le).mono fun r F' ⟨G', hp, hl, hk⟩ => by
    obtain ⟨o, ho, hm⟩ := h.mz
    refine ⟨G', hp, ⟨⟨hl, fun p hp => ?_, h.lo.nd⟩, ⟨o, (hk _ _ h.mg ho).1, hm⟩, (hk _ _ h.mg ho).2, h.mn, h.own.keep fun a ha => ?_, fun a ha => ?_⟩⟩
    · obtain ⟨a, b⟩ := h.lo.z p hp
      exact hk _ _ b a
    · obtain ⟨o, ho⟩ := h.own.some ha
      rw [(hk _ _ (h.oz a ha).1 ho).1, ho]
    · obtain ⟨o, ho⟩ := h.own.some ha
      exact ⟨(hk _ _ (h.oz a ha).1 ho).2, (h.oz a ha).2⟩
theorem Qu.new (h : Qu G F b mv sl q ys) (c : Array Value) (e : TypeId) {x : Nat} (hx : F x = none) : Qu G (F.set x (.cells c e)) b mv sl q ((x, c, e) :: ys) := by
  obtain ⟨o, ho, hm⟩ := h.mz
  refine ⟨h.lo.new' c e hx, ⟨o, (set_ne _ _ (ne_of_fresh hx ho)).trans ho, hm⟩, h.mg, fun p hp => ?_, h.own.keep fun a ha => ?_, fun a ha => ⟨(h.oz a ha).1, (h.oz a ha).2.1, fun p hp => ?_⟩⟩
  · rcases List.mem_cons.1 hp with rfl | hp
    · exact (ne_of_fresh hx ho).symm
    · exact h.mn p hp
  · obtain ⟨o, ho⟩ := h.own.some ha
    exact set_ne _ _ (ne_of_fresh hx ho)
  · rcases List.mem_cons.1 hp with rfl | hp
    · obtain ⟨o, ho⟩ := h.own.some ha
      exact (ne_of_fresh hx ho).symm
    · exact (h.oz a ha).2.2 p hp
/-- A variable that holds a pair. -/
theorem Qu.var (h : Qu G F b mv sl q ys) (p : Pr) {K : Nat → PH → Prop} (k : ∀ x F', Qu G F' b mv sl q ((x, parr p, 92) :: ys) → K x F') : ∀ x, F x = none → atF (F.set x (.cells (#[.int .i64 0, .int .i64 0]) 92)) fun F =>
    (parr p).size = 2 ∧ (∀ v ∈ (parr p).toList, storable v) ∧ ∃ c e, F (Addr.mk x 0 none).block = some (.cells c e (0, 0)) ∧ (Addr.mk x 0 none).spot = none ∧ (Addr.mk x 0 none).off + 2 ≤ c.size ∧
    atF (F.set (Addr.mk x 0 none).block (.cells (wr c (Addr.mk x 0 none).off (parr p).toList) e)) (K x) := by
  intro x hx
  refine atI ?_
  have h' := h.new #[.int .i64 0, .int .i64 0] 92 hx
  generalize F.set x (.cells #[.int .i64 0, .int .i64 0] 92) = F1 at *
  refine stW (h'.lo.get (b := x) (w := #[.int .i64 0, .int .i64 0]) (e := 92) (by simp)) rfl rfl (st_parr p) (k x _ ?_)
  obtain ⟨o, ho, hm⟩ := h'.mz
  refine ⟨Lo.upd [] ys h'.lo (set_eq _ _ _) (Keep.set _ (.inl rfl)), ⟨o, (set_ne _ _ (h'.mn _ (List.mem_cons_self)).symm).trans ho, hm⟩, h'.mg, fun p hp => ?_, h'.own.keep fun a ha => ?_, fun a ha => ⟨(h'.oz a ha).1, (h'.oz a ha).2.1, fun p hp => ?_⟩⟩
  · rcases List.mem_cons.1 hp with rfl | hp
    · exact h'.mn (x, #[.int .i64 0, .int .i64 0], 92) (List.mem_cons_self)
    · exact h.mn p hp
  · exact set_ne _ _ ((h'.oz a ha).2.2 _ (List.mem_cons_self)).symm
  · rcases List.mem_cons.1 hp with rfl | hp
    · exact (h'.oz a ha).2.2 (x, #[.int .i64 0, .int .i64 0], 92) (List.mem_cons_self)
    · exact (h.oz a ha).2.2 p hp
theorem Qu.upd {mt : TypeId} {z : Value} (hmt : MapTy prog mt encP z) (h : Qu G F b mv sl q ys) (p : Pr) (v : Value) {K : PH → Prop} (k : ∀ F', Qu G F' b (fun z => if z = p then some v else mv z) sl q ys → K F') :
    runs prog (Instr.mapUpdate mt (.map (some b)) (.agg (parr p)) v) F fun _ F => K F := by
  obtain ⟨o, ho, hm⟩ := h.mz
  refine runs_mapUpdate hmt ho hm p v fun o' ho' => k _ ?_
  have hne : ∀ x, x ≠ b → F.set b o' x = F x := fun x hx => set_ne _ _ hx
  refine ⟨⟨fun x ob hx => ?_, fun p hp => ?_, h.lo.nd⟩, ⟨o', set_eq _ _ _, ho'⟩, h.mg, h.mn, h.own.keep fun a ha => hne _ (h.oz a ha).2.1, h.oz⟩
  · have : x ≠ b := fun e => by rw [e, h.mg] at hx; cases hx
    rw [hne x this]
    exact h.lo.le _ _ hx
  · rw [hne _ (h.mn p hp)]
    exact h.lo.z p hp
theorem Qu.look {mt : TypeId} {z : Value} (hmt : MapTy prog mt encP z) (h : Qu G F b mv sl q ys) (p : Pr) (ok : Bool) : rdo prog (Instr.lookup mt (.map (some b)) (.agg (parr p)) ok) F (if ok then .tuple #[(mv p).getD z, .bool (mv p).isSome] else (mv p).getD z) := by
  obtain ⟨o, ho, hm⟩ := h.mz
  exact rdo_lookup hmt ho hm p ok
theorem Qu.push (h : Qu G F b mv sl q ys) (p : Pr) (hl : q.length ≤ 1000000) {K : Sl → PH → Prop} (k : ∀ s' F', Qu G F' b mv s' (q ++ [p]) ys → K s' F') :
    ∀ x, F x = none → atF (F.set x (.cells (parr p) 92)) fun F =>
      runs prog (Builtin.append_ #[89, 89] 89 #[(Sl.v sl), (Sl.v (Sl.mk (some (Addr.mk x 0 none)) 1 1))]) F fun v F => ∃ s' : Sl, v = (Sl.v s') ∧ K s' F := by
  intro x hx
  refine atI ?_
  have h1 := h.new (parr p) 92 hx
  have q1 := set_eq F x (.cells (parr p) 92)
  generalize F.set x (.cells (parr p) 92) = F1 at *
  have hlen := h1.own.rd.plen
  refine own_app (F0 := G) (x := ⟨some ⟨x, 0, none⟩, 1, 1⟩) (news := pcells p) underlying89 sz92' zr92' rfl (by decide) h1.lo.le h1.own (fun a ha => (h1.oz a ha).1) (RdS.new q1 rfl rfl (Nat.le_refl _)) (st_parr p) (by simp only; omega) (by simp only; omega) ?_
  intro s' F2 le2 ho2 hl2 hnew keep hsome
  refine ⟨s', rfl, k s' F2 ?_⟩
  obtain ⟨o, ho, hm⟩ := h.mz
  obtain ⟨o1, ho1, hm1⟩ := h1.mz
  have hz : ∀ y ob, F1 y = some ob → (∀ a, sl.base = some a → a.block ≠ y) → F2 y = some ob := fun y ob hy hn => keep _ _ hy fun ⟨a, ha, e⟩ => hn a ha e
  have e : pflat (q ++ [p]) = pflat q ++ pcells p := by rw [pflat_append]; simp [pflat]
  refine ⟨⟨le2, fun y hy => ⟨hz _ _ (h1.lo.z y (List.mem_cons_of_mem _ hy)).1 fun a ha => ((h.oz a ha).2.2 y hy).symm, (h.lo.z y hy).2⟩, h.lo.nd⟩, ⟨o1, hz _ _ ho1 fun a ha => (h.oz a ha).2.1, hm1⟩, h.mg, h.mn, by rw [e]; exact ho2, fun a ha => ⟨hnew a ha, ?_⟩⟩
  rcases hsome a ha with ⟨a', ha', e'⟩ | hf
  · rw [← e']
    exact (h.oz a' ha').2
  · exact ⟨fun e => (by rw [e, ho1] at hf; cases hf), fun y hy e => (by rw [← e, (h1.lo.z y (List.mem_cons_of_mem _ hy)).1] at hf; cases hf)⟩
end
def two (l1 l2 : List Nd) (t1 t2 : Lt) : Two :=
  ⟨fun x b => accN l1 x.1 b ∧ accN l2 x.2 b, fun x y => t1.fol x.1 y.1 ∧ t2.fol x.2 y.2, fun x => t1.first x.1 ∧ t2.first x.2, fun x => t1.last x.1 ∧ t2.last x.2⟩
theorem good_lo {l : List Nd} (h : GoodL l) {i : Nat} {x : Nd} (hx : l[i]? = some x) : 0 ≤ x.lo ∧ x.hi ≤ 255 := by
  obtain ⟨_, h1, h2, _⟩ := h.ok i x hx
  by_cases hk : x.k = 1
  · exact ⟨(h1 hk).1, (h1 hk).2.2⟩
  · rw [(h2 hk).1, (h2 hk).2]; omega
theorem cmP_iff {l1 l2 : List Nd} {t1 t2 : Lt} (h1 : GoodL l1) {p : Pr} : cmP l1 l2 p.1 p.2 ↔ (two l1 l2 t1 t2).cm p := by
  constructor
  · rintro ⟨x, y, hx, hy, h⟩
    have := (good_lo h1 hx).1
    obtain ⟨b, hb⟩ := Int.eq_ofNat_of_zero_le (show 0 ≤ max x.lo y.lo by omega)
    exact ⟨b, ⟨x, hx, by omega, by omega⟩, ⟨y, hy, by omega, by omega⟩⟩
  · rintro ⟨b, ⟨x, hx, _, _⟩, ⟨y, hy, _, _⟩⟩
    exact ⟨x, y, hx, hy, by omega⟩
theorem cm_lt {l1 l2 : List Nd} {t1 t2 : Lt} {p : Pr} (h : (two l1 l2 t1 t2).cm p) : p.1 < l1.length ∧ p.2 < l2.length := by
  obtain ⟨b, ⟨x, hx, _⟩, ⟨y, hy, _⟩⟩ := h
  exact ⟨(List.getElem?_eq_some_iff.1 hx).1, (List.getElem?_eq_some_iff.1 hy).1⟩
theorem row1_mem {l1 l2 : List Nd} {i k : Nat} {Q : Nat → Bool} {p : Pr} (h : p ∈ row1 l1 l2 i Q k) : p.1 = i ∧ p.2 < k := by
  unfold row1 at h
  obtain ⟨j, hj, rfl⟩ := List.mem_map.1 h
  exact ⟨rfl, List.mem_range.1 (List.mem_filter.1 hj).1⟩
theorem row1_nodup (l1 l2 : List Nd) (i : Nat) (Q : Nat → Bool) : ∀ k, (row1 l1 l2 i Q k).Nodup
  | 0 => List.nodup_nil
  | k + 1 => by
    rw [row1_succ, List.nodup_append]
    refine ⟨row1_nodup l1 l2 i Q k, by split <;> simp, fun a ha b hb e => ?_⟩
    subst e
    split at hb
    · rw [List.mem_singleton] at hb
      subst hb
      have := (row1_mem ha).2
      omega
    · cases hb
theorem meetL_fst {l1 l2 : List Nd} {P Q : Nat → Bool} {m : Nat} {p : Pr} (h : p ∈ meetL l1 l2 P Q m) : p.1 < m := by
  unfold meetL at h
  obtain ⟨i, hi, hp⟩ := List.mem_flatMap.1 h
  split at hp
  · rw [(row1_mem hp).1]
    exact List.mem_range.1 hi
  · cases hp
theorem meetL_nodup (l1 l2 : List Nd) (P Q : Nat → Bool) : ∀ m, (meetL l1 l2 P Q m).Nodup
  | 0 => List.nodup_nil
  | m + 1 => by
    rw [meetL_succ, List.nodup_append]
    refine ⟨meetL_nodup l1 l2 P Q m, ?_, fun a ha b hb e => ?_⟩
    · split
      · exact row1_nodup l1 l2 m Q 512
      · exact List.nodup_nil
    · subst e
      split at hb
      · have := meetL_fst ha
        rw [(row1_mem hb).1] at this
        omega
      · cases hb
/-- A list of nodes, and the tree of its machine. -/
structure Mw (l : List Nd) (t : Lt) : Prop where
  good : GoodL l
  len : l.length ≤ 512
  lt : ∀ j, t.lab j → j < l.length
theorem Mw.fol {l : List Nd} {t : Lt} (h : Mw l t) (i j : Nat) (hf : t.fol i j) : i < l.length ∧ j < l.length := ⟨h.lt _ (t.fol_lab hf).1, h.lt _ (t.fol_lab hf).2⟩
section
variable {l1 l2 : List Nd} {t1 t2 : Lt} {P Q : Nat → Bool}
theorem meet_two (h1 : Mw l1 t1) (h2 : Mw l2 t2) {x : Pr} : x ∈ meetL l1 l2 P Q 512 ↔ (P x.1 = true ∧ Q x.2 = true) ∧ (two l1 l2 t1 t2).cm x := by
  rw [meetL_mem, cmP_iff h1.good (t1 := t1) (t2 := t2)]
  constructor
  · rintro ⟨⟨_, a⟩, ⟨_, b⟩, c⟩
    exact ⟨⟨a, b⟩, c⟩
  · rintro ⟨⟨a, b⟩, c⟩
    obtain ⟨d, e⟩ := cm_lt c
    have := h1.len
    have := h2.len
    exact ⟨⟨by omega, a⟩, ⟨by omega, b⟩, c⟩
theorem BF.bound {q : List Pr} {at_ : Nat} {m : Pr → Option Nat} (h1 : Mw l1 t1) (h2 : Mw l2 t2) (h : BF (two l1 l2 t1 t2) q at_ m) : q.length ≤ 262144 := by
  have hlt : ∀ x ∈ q, x.1 < 512 ∧ x.2 < 512 := fun x hx => by
    obtain ⟨d, hd⟩ := (h.mem x).1 hx
    obtain ⟨a, b⟩ := cm_lt (Two.R_cm (h.snd x d hd))
    have := h1.len
    have := h2.len
    omega
  have := nodup_bound 262144 (q.map fun x => x.1 * 512 + x.2) (by
    rw [List.nodup_iff_pairwise_ne, List.pairwise_map]
    refine List.Pairwise.imp_of_mem ?_ (List.nodup_iff_pairwise_ne.1 h.nd)
    intro a b ha hb hab e
    obtain ⟨h1, h2⟩ := hlt a ha
    obtain ⟨h3, h4⟩ := hlt b hb
    exact hab (Prod.ext (by omega) (by omega))) (fun j hj => by
    obtain ⟨x, hx, rfl⟩ := List.mem_map.1 hj
    obtain ⟨h1, h2⟩ := hlt x hx
    show x.1 * 512 + x.2 < 262144
    omega)
  rwa [List.length_map] at this
end
def mvI (m : Pr → Option Nat) : Pr → Option Value := fun x => (m x).map fun (d : Nat) => vi d
theorem mvI_up (m : Pr → Option Nat) (y : Pr) (e : Nat) : (fun z => if z = y then some (vi e) else mvI m z) = mvI (upM m y e) := by
  funext z
  unfold mvI upM
  split <;> rfl
theorem mvI_zero {q : List Pr} {w : Nat} {x : Pr} (hx : q[w]? = some x) : (fun z => if z = x then some (vi (0 : Nat)) else mvI (zeroM (q.take w)) z) = mvI (zeroM (q.take (w + 1))) := by
  funext z
  unfold mvI zeroM
  rw [List.take_add_one, hx]
  by_cases h : z = x
  · subst h
    simp
  · simp [h]
theorem set_fresh_map {F : PH} {x : Nat} {o : Obj} (hx : F x = none) : F.le (F.set x o) := le_set_fresh o hx
section
variable {G F : PH} {b : Nat} {mv : Pr → Option Value} {sl : Sl} {q : List Pr} {ys : List (Nat × Array Value × TypeId)} {c c' : Nat} {p p' : Pr}
theorem Qu.row1 (h : Qu G F b mv sl q ((c, parr p, 92) :: ys)) : F.row (Addr.mk c 0 none) (parr p) := h.row (e := 92) (List.mem_cons_self)
theorem Qu.row2 (h : Qu G F b mv sl q ((c', parr p', 92) :: (c, parr p, 92) :: ys)) : F.row (Addr.mk c 0 none) (parr p) := h.row (e := 92) (List.mem_cons_of_mem _ (List.mem_cons_self))
theorem Qu.cells1 (h : Qu G F b mv sl q ((c, parr p, 92) :: ys)) : F.cell (Addr.mk c 0 none) = some (vi p.1) ∧ F.cell (Addr.mk c 1 none) = some (vi p.2) :=
  ⟨by rw [h.cell (c := c) (w := parr p) (e := 92) (List.mem_cons_self)]; rfl, by rw [h.cell (c := c) (w := parr p) (e := 92) (List.mem_cons_self)]; rfl⟩
end
/-- The inner loop: x is looked at, the first k ones of zs were seen. -/
def dI2 (T : Two) (G : PH) (b24 b13 : Nat) (x : Pr) (w d : Nat) (zs : List Pr) : Nat → Sl → Int → PH → Prop := fun m s i F' =>
  ∃ (k : Nat) (q : List Pr) (mm : Pr → Option Nat), i = k ∧ k ≤ zs.length ∧ m = zs.length - k ∧ Qu G F' b24 (mvI mm) s q [(b13, parr x, 92)] ∧ BF T q w mm ∧ q[w]? = some x ∧ mm x = some d ∧ (∀ z e, mm z = some e → e ≤ q.length) ∧
    ∀ (j : Nat) (y : Pr), j < k → zs[j]? = some y → ∃ d', mm y = some d' ∧ d' ≤ d + 1
def dI1 (T : Two) (G : PH) (b24 : Nat) : Nat → Sl → Int → PH → Prop := fun m s i F' =>
  ∃ (w : Nat) (q : List Pr) (mm : Pr → Option Nat), i = w ∧ w ≤ q.length ∧ m = 262144 - w ∧ Qu G F' b24 (mvI mm) s q [] ∧ BF T q w mm ∧ ∀ z e, mm z = some e → e ≤ q.length
section
variable {l1 l2 : List Nd} {t1 t2 : Lt}
theorem dist_L2 (h1 : Mw l1 t1) (h2 : Mw l2 t2) {G F9 F2 : PH} {b24 b13 : Nat} {x : Pr} {w d : Nat} {zs : List Pr} {a0 b1 : Addr} {v20 v23 sz s : Sl} {i : Int} {m m1 : Nat} {R : Value → PH → Prop} (lG : F2.le G) (hoz : RdS G sz 2 (pflat zs)) (hzl : zs.length ≤ 262144)
    (hzs : ∀ y, y ∈ zs ↔ (two l1 l2 t1 t2).lnk y x ∧ (two l1 l2 t1 t2).cm y) (hm1 : m1 = 262144 - w) (hI : dI2 (two l1 l2 t1 t2) G b24 b13 x w d zs m s i F9) :
    b57L2 (fun y1_0 y1_1 F => ∃ m', m' < m1 ∧ dI1 (two l1 l2 t1 t2) F2 b24 m' y1_0 y1_1 F) (fun y2_0 y2_1 F => ∃ m', m' < m ∧ dI2 (two l1 l2 t1 t2) G b24 b13 x w d zs m' y2_0 y2_1 F) a0 b1 v20 v23 b24 (w : Int) b13 sz R s i F9 := by
  obtain ⟨k, q, mm, rfl, hk, rfl, h, hB, hx, hd, hmx, hall⟩ := hI
  have hqb := hB.bound h1 h2
  have hw' := (List.getElem?_eq_some_iff.1 hx).1
  have hslen := hoz.plen
  unfold b57L2
  refine ⟨fun hlt => ?_, fun hge => ?_⟩
  · have hk' : k < zs.length := by omega
    have hy : zs[k]? = some zs[k] := List.getElem?_eq_getElem hk'
    generalize zs[k] = y at hy
    obtain ⟨hl, hc⟩ := (hzs y).1 (List.mem_of_getElem? hy)
    obtain ⟨a, ha, hr⟩ := rdp (hoz.le h.lo.le) hy
    refine ⟨a, ha, by omega, by omega, parr y, rfl, by rw [Int.toNat_natCast]; exact hr, ?_⟩
    refine h.var y fun b15 F10 h => ?_
    have hlk := h.look mt87 y true
    have fin : ∀ {s' : Sl} {F' : PH} {q' : List Pr} {mm' : Pr → Option Nat}, Qu G F' b24 (mvI mm') s' q' [(b15, parr y, 92), (b13, parr x, 92)] → BF (two l1 l2 t1 t2) q' w mm' → q'[w]? = some x → mm' x = some d → (∀ z e, mm' z = some e → e ≤ q'.length) →
        (∀ z e, mm z = some e → mm' z = some e) → (∃ d', mm' y = some d' ∧ d' ≤ d + 1) →
        ∃ m', m' < zs.length - k ∧ dI2 (two l1 l2 t1 t2) G b24 b13 x w d zs m' s' (IntKind.i64.wrap ((k : Int) + 1)) F' := fun {s' F' q' mm'} h' hB' hx' hd' hmx' hold hy' => by
      refine ⟨zs.length - (k + 1), by omega, k + 1, q', mm', w64s (by omega), by omega, rfl, h'.sub (.cons _ (List.Sublist.refl _)), hB', hx', hd', hmx', fun j z hj hz => ?_⟩
      by_cases e : j = k
      · subst e
        rw [hy] at hz
        cases hz
        exact hy'
      · obtain ⟨d', e1, e2⟩ := hall j z (by omega) hz
        exact ⟨d', hold _ _ e1, e2⟩
    cases hmy : mm y with
    | some e =>
      rw [show mvI mm y = some (vi e) by simp [mvI, hmy]] at hlk
      refine ⟨parr y, rfl, h.row1, (e : Int), true, hlk, fun h => (by cases h), fun _ => ?_⟩
      unfold b57j4
      exact fin h hB hx hd hmx (fun _ _ h => h) ⟨e, hmy, hB.nxt x d y e hx hd hmy⟩
    | none =>
      rw [show mvI mm y = none by simp [mvI, hmy]] at hlk
      refine ⟨parr y, rfl, h.row1, 0, false, hlk, fun _ => ?_, fun h => (by cases h)⟩
      have hlx := h.look mt87 x false
      rw [show mvI mm x = some (vi d) by simp [mvI, hd]] at hlx
      refine ⟨parr y, rfl, h.row1, parr x, rfl, h.row2, (d : Int), hlx, ?_⟩
      have hdq := hmx x d hd
      rw [w64s (n := d) (by omega)]
      refine h.upd mt87 y _ fun F11 h => ?_
      rw [mvI_up] at h
      refine ⟨parr y, rfl, h.row1, rfl, ?_⟩
      refine h.push y (by omega) fun s' F12 h => ?_
      unfold b57j4
      refine fin h (hB.push hx hd hl hc hmy) (get_app' hx) (upM_old hmy hd) (fun z e hz => ?_) (fun z e hz => upM_old hmy hz) ⟨d + 1, by simp [upM], Nat.le_refl _⟩
      rw [List.length_append, List.length_singleton]
      rcases upM_cases hz with ⟨_, rfl⟩ | hz
      · omega
      · have := hmx z e hz
        omega
  · obtain rfl : k = zs.length := by omega
    unfold b57j3
    refine ⟨262144 - (w + 1), by omega, w + 1, q, mm, w64s (by omega), by omega, rfl, (h.sub (List.nil_sublist _)).base lG, hB.step hx hd fun y hl hc => ?_, hmx⟩
    obtain ⟨j, hj, e⟩ := List.getElem_of_mem ((hzs y).2 ⟨hl, hc⟩)
    exact hall j y hj (by rw [List.getElem?_eq_getElem hj, e])
/-- What distances works on. -/
structure Dc (F2 : PH) (l1 l2 : List Nd) (t1 t2 : Lt) (m1 m2 bA bB : Nat) : Prop where
  tab : Tab F2
  M1 : Mch F2 m1 l1 t1
  M2 : Mch F2 m2 l2 t2
  w1 : Mw l1 t1
  w2 : Mw l2 t2
  qA : F2 bA = some (.cells (flatR l1.length (fun k j => foB t1 j k)).toArray 76)
  qB : F2 bB = some (.cells (flatR l2.length (fun k j => foB t2 j k)).toArray 76)
theorem dist_L1 {F2 F6 : PH} {m1 m2 bA bB b24 m : Nat} (hD : Dc F2 l1 l2 t1 t2 m1 m2 bA bB) {s : Sl} {i : Int} {R : Value → PH → Prop} (hI : dI1 (two l1 l2 t1 t2) F2 b24 m s i F6) (hR : ∀ F' mm o, F' b24 = some o → MapO encP (mvI mm) o → DM (two l1 l2 t1 t2) mm → (∀ z e, mm z = some e → e ≤ 262144) → F2.le F' → R (.map (some b24)) F') :
    b57L1 (fun y1_0 y1_1 F => ∃ m', m' < m ∧ dI1 (two l1 l2 t1 t2) F2 b24 m' y1_0 y1_1 F) ⟨m1, 0, none⟩ ⟨m2, 0, none⟩ ⟨some ⟨bA, 0, none⟩, l1.length, l1.length⟩ ⟨some ⟨bB, 0, none⟩, l2.length, l2.length⟩ b24 R s i F6 := by
  obtain ⟨hT, hM1, hM2, h1, h2, qA, qB⟩ := hD
  obtain ⟨w, q, mm, rfl, hw, rfl, h, hB, hmx⟩ := hI
  have hlen := h.own.rd.plen
  have hqb := hB.bound h1 h2
  unfold b57L1
  refine ⟨fun hlt => ?_, fun hge => ?_⟩
  · have hw' : w < q.length := by omega
    have hx : q[w]? = some q[w] := List.getElem?_eq_getElem hw'
    generalize q[w] = x at hx
    obtain ⟨d, hd⟩ := (hB.mem x).1 (List.mem_of_getElem? hx)
    obtain ⟨hx1, hx2⟩ := cm_lt (Two.R_cm (hB.snd x d hd))
    obtain ⟨a, ha, hr⟩ := rdp h.own.rd hx
    refine ⟨a, ha, by omega, by omega, parr x, rfl, by rw [Int.toNat_natCast]; exact hr, ?_⟩
    refine h.var x fun b13 F7 h => ?_
    have rA : F7.row ((Addr.mk bA 0 none).add (x.1 * 8)) (plA (fun k => foB t1 k x.1)) := flat_row (R := fun k j => foB t1 j k) (h.lo.le _ _ qA) hx1
    have rB : F7.row ((Addr.mk bB 0 none).add (x.2 * 8)) (plA (fun k => foB t2 k x.2)) := flat_row (R := fun k j => foB t2 j k) (h.lo.le _ _ qB) hx2
    refine ⟨(x.1 : Int), h.cells1.1, _, rfl, by omega, by simp only; omega, plA (fun k => foB t1 k x.1), plA_size _, by rw [Int.toNat_natCast]; exact rA, ?_⟩
    refine ⟨(x.2 : Int), h.cells1.2, _, rfl, by omega, by simp only; omega, plA (fun k => foB t2 k x.2), plA_size _, by rw [Int.toNat_natCast]; exact rB, ?_⟩
    refine (h.call (meeting_spec hT hM1 hM2 (P := fun k => foB t1 k x.1) (Q := fun k => foB t2 k x.2) (fun i hi => (h1.fol _ _ (foB_iff.1 hi)).1) (fun i hi => (h2.fol _ _ (foB_iff.1 hi)).1))).mono ?_
    rintro _ F8 ⟨G, ⟨⟨sz, rfl, hoz, _⟩, lG⟩, h⟩
    have hzs : ∀ y, y ∈ meetL l1 l2 (fun k => foB t1 k x.1) (fun k => foB t2 k x.2) 512 ↔ (two l1 l2 t1 t2).lnk y x ∧ (two l1 l2 t1 t2).cm y := fun y => by
      rw [meet_two h1 h2, foB_iff, foB_iff]
      exact Iff.rfl
    have hzl : (meetL l1 l2 (fun k => foB t1 k x.1) (fun k => foB t2 k x.2) 512).length ≤ 262144 := meetL_len l1 l2 _ _ 512
    generalize meetL l1 l2 (fun k => foB t1 k x.1) (fun k => foB t2 k x.2) 512 = zs at *
    refine ⟨_, rfl, h.cells1.2, h.cells1.1, dI2 (two l1 l2 t1 t2) G b24 b13 x w d zs, zs.length, ⟨0, q, mm, rfl, by omega, by omega, h, hB, hx, hd, hmx, fun j y hj => by omega⟩, fun m s i F9 hI => ?_⟩
    exact dist_L2 h1 h2 lG hoz.rd hzl hzs rfl hI
  · obtain rfl : w = q.length := by omega
    unfold b57j2
    obtain ⟨o, ho, hm⟩ := h.mz
    exact hR _ mm o ho hm hB.done (fun z e hz => by have := hmx z e hz; omega) h.lo.le
theorem dist_L3 {F2 F5 : PH} {m1 m2 bA bB b24 m : Nat} (hD : Dc F2 l1 l2 t1 t2 m1 m2 bA bB) {q0 : List Pr} {sl : Sl} {i : Int} {R : Value → PH → Prop} (hB0 : BF (two l1 l2 t1 t2) q0 0 (zeroM q0))
    (hI : ∃ w : Nat, i = w ∧ w ≤ q0.length ∧ m = q0.length - w ∧ Qu F2 F5 b24 (mvI (zeroM (q0.take w))) sl q0 []) (hR : ∀ F' mm o, F' b24 = some o → MapO encP (mvI mm) o → DM (two l1 l2 t1 t2) mm → (∀ z e, mm z = some e → e ≤ 262144) → F2.le F' → R (.map (some b24)) F') :
    b57L3 (fun y F => ∃ m', m' < m ∧ ∃ w : Nat, y = w ∧ w ≤ q0.length ∧ m' = q0.length - w ∧ Qu F2 F b24 (mvI (zeroM (q0.take w))) sl q0 []) ⟨m1, 0, none⟩ ⟨m2, 0, none⟩ ⟨some ⟨bA, 0, none⟩, l1.length, l1.length⟩ ⟨some ⟨bB, 0, none⟩, l2.length, l2.length⟩ b24 sl R i F5 := by
  obtain ⟨w, rfl, hw, rfl, h⟩ := hI
  have hlen := h.own.rd.plen
  have hqb := hB0.bound hD.w1 hD.w2
  unfold b57L3
  refine ⟨fun hlt => ?_, fun hge => ?_⟩
  · have hw' : w < q0.length := by omega
    have hx : q0[w]? = some q0[w] := List.getElem?_eq_getElem hw'
    generalize q0[w] = x at hx
    obtain ⟨a, ha, hr⟩ := rdp h.own.rd hx
    refine ⟨a, ha, by omega, by omega, parr x, rfl, by rw [Int.toNat_natCast]; exact hr, ?_⟩
    refine h.var x fun b11 F6 h => ?_
    refine ⟨parr x, rfl, h.row1, ?_⟩
    refine h.upd mt87 x (.int .i64 0) fun F7 h => ?_
    refine ⟨q0.length - (w + 1), by omega, w + 1, w64s (by omega), by omega, rfl, ?_⟩
    rw [← mvI_zero hx]
    exact h.sub (.cons _ (List.Sublist.refl _))
  · obtain rfl : w = q0.length := by omega
    unfold b57j1
    refine ⟨dI1 (two l1 l2 t1 t2) F2 b24, 262144, ⟨0, q0, zeroM q0, rfl, by omega, by omega, by rw [List.take_length] at h; exact h, hB0, fun z e hz => ?_⟩, fun m s i F6 hI => dist_L1 hD hI hR⟩
    unfold zeroM at hz
    split at hz
    · cases hz
      exact Nat.zero_le _
    · cases hz
theorem dist_spec {F : PH} (hT : Tab F) {m1 m2 : Nat} (hM1 : Mch F m1 l1 t1) (hM2 : Mch F m2 l2 t2) (h1 : Mw l1 t1) (h2 : Mw l2 t2) :
    Spec prog 57 #[pa m1, pa m2] F fun r F' => (∃ b m o, r = .map (some b) ∧ F' b = some o ∧ MapO encP (mvI m) o ∧ DM (two l1 l2 t1 t2) m ∧ ∀ z e, m z = some e → e ≤ 262144) ∧ F.le F' := by
  refine c57 ?_
  unfold b57
  refine (before_spec hT hM1 h1.len h1.fol).mono ?_
  rintro _ F1 ⟨⟨bA, rfl, qA⟩, le1⟩
  refine ⟨_, rfl, ?_⟩
  refine (before_spec (hT.le le1) (hM2.le le1) h2.len h2.fol).mono ?_
  rintro _ F2 ⟨⟨bB, rfl, qB⟩, le2⟩
  refine ⟨_, rfl, ?_⟩
  replace qA := le2 _ _ qA
  have le02 := le_trans' le1 le2
  have hD : Dc F2 l1 l2 t1 t2 m1 m2 bA bB := ⟨hT.le le02, hM1.le le02, hM2.le le02, h1, h2, qA, qB⟩
  intro b24 hb24
  refine atI ?_
  have le3 := le_set_fresh (.map #[] 0) hb24
  have q24 := set_eq F2 b24 (.map #[] 0)
  generalize F2.set b24 (.map #[] 0) = F3 at *
  obtain ⟨s1, bf1, qm1, hs1, qf1⟩ := hD.M1.ex
  obtain ⟨s2, bf2, qm2, hs2, qf2⟩ := hD.M2.ex
  refine ⟨_, rfl, plA (lB t1), plA_size _, (mc_row (le3 _ _ qm1)).2, _, rfl, plA (lB t2), plA_size _, (mc_row (le3 _ _ qm2)).2, ?_⟩
  refine ((meeting_spec hD.tab hD.M1 hD.M2 (P := lB t1) (Q := lB t2) (fun i hi => h1.lt _ (t1.last_lab (lB_iff.1 hi))) (fun i hi => h2.lt _ (t2.last_lab (lB_iff.1 hi)))).upon le3).mono ?_
  rintro _ F4 ⟨G', ⟨⟨sl, rfl, ho, hz⟩, lG⟩, lF, hk⟩
  refine ⟨_, rfl, ?_⟩
  have hq0 : ∀ x, x ∈ meetL l1 l2 (lB t1) (lB t2) 512 ↔ (two l1 l2 t1 t2).R 0 x := fun x => by
    rw [meet_two h1 h2, lB_iff, lB_iff]
    exact And.comm
  have hB0 := BF.start (meetL_nodup l1 l2 (lB t1) (lB t2) 512) hq0
  generalize meetL l1 l2 (lB t1) (lB t2) 512 = q0 at *
  have hQ : Qu F2 F4 b24 (mvI (zeroM (q0.take 0))) sl q0 [] := by
    refine ⟨⟨le_trans' lG lF, fun p hp => (by cases hp), List.nodup_nil⟩, ⟨_, (hk _ _ hb24 q24).1, ?_⟩, hb24, fun p hp => (by cases hp), ho.keep fun a ha => ?_, fun a ha => ⟨hz a ha, ?_, fun p hp => (by cases hp)⟩⟩
    · have : mvI (zeroM (q0.take 0)) = fun _ => none := by funext z; simp [mvI, zeroM]
      rw [this]
      exact MapO.empty encP
    · obtain ⟨o, ho'⟩ := ho.some ha
      rw [lF _ _ ho', ho']
    · rintro e
      obtain ⟨o, ho'⟩ := ho.some ha
      rw [e, (hk _ _ hb24 q24).2] at ho'
      cases ho'
  refine ⟨fun m i F' => ∃ w : Nat, i = w ∧ w ≤ q0.length ∧ m = q0.length - w ∧ Qu F2 F' b24 (mvI (zeroM (q0.take w))) sl q0 [], q0.length, ⟨0, rfl, by omega, by omega, hQ⟩, fun m i F5 hI => ?_⟩
  exact dist_L3 hD hB0 hI fun F' mm o ho hm hdm hbd lF => ⟨⟨b24, mm, o, rfl, ho, hm, hdm, hbd⟩, le_trans' le02 lF⟩
end
end Go.Proofs.YtnjcgpihfmklfaaDoor
