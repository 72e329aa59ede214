/-
  Common and Shortest.
-/
import Derived.Test.YtnjcgpihfmklfaaDoorSb
import Derived.Test.YtnjcgpihfmklfaaDoorPhm
import Derived.Test.YtnjcgpihfmklfaaDoorQx
namespace Go.Proofs.YtnjcgpihfmklfaaDoor
open Go Go.Proofs.Tryd
set_option maxRecDepth 10000
theorem chk_int' (e : Bool) (n : Nat) (a : Int) (F : PH) : rdo prog (Instr.checkKey e (n + 1) 3 (vi a)) F () := by
 simp only [Instr.checkKey, rdo_bind]
 refine ⟨_, (rdo_underlying underlying3 _).2 rfl, ?_⟩
 rfl
theorem chk_step' (e : Bool) (n : Nat) (i : Nat) (cs : Array Value) (x : Int) (h1 : cs[i]? = some (vi x)) (F : PH) :
  rdo prog (do
   let a ← part 3 cs i
   Instr.checkKey e (n + 1) 3 a
   pure (ForInStep.yield PUnit.unit) : Sem (ForInStep PUnit)) F (.yield PUnit.unit) := by
 simp only [rdo_bind]
 exact ⟨_, part_kind 3 .i64 underlying3 h1, _, chk_int' e n x F, rfl⟩
theorem si92 : prog.stoodInHeld 92 = false := by kernel_rfl
abbrev encP (p : Pr) : Value := .agg (parr p)
def pget (p : Pr) (k : Nat) : Int := match k with | 0 => p.1 | _ => p.2
theorem eqP (F : PH) (x y : Pr) : rdo prog (Op.equal 92 (encP x) (encP y)) F (decide (x = y)) := by
 unfold Op.equal Op.maxDepth
 show rdo prog (Op.equalIn (9998 + 1 + 1) 92 _ _) _ _
 unfold Op.equalIn
 simp only [rdo_bind]
 refine ⟨_, (rdo_underlying underlying92 _).2 rfl, ?_⟩
 dsimp only
 rw [rdo_bind]
 refine ⟨prog, rfl, ?_⟩
 rw [si92]
 simp only [Bool.false_eq_true, if_false]
 rw [List.forIn_toArray, rdo_bind]
 refine ⟨_, loopEq _ (fun f => decide (pget x f.offset = pget y f.offset)) _ fun f hf => ?_, ?_⟩
 ·simp only [List.mem_cons, List.not_mem_nil, or_false] at hf
  rcases hf with rfl | rfl <;> (rw [if_pos (by decide)]; exact fld_kind 3 .i64 underlying3 9998 _ _ _ _ _ rfl rfl)
 ·obtain ⟨a, b⟩ := x
  obtain ⟨a', b'⟩ := y
  simp only [List.all_cons, List.all_nil, pget, Bool.and_true]
  by_cases h : a = a' ∧ b = b'
  ·obtain ⟨rfl, rfl⟩ := h
   simp
  ·have h2 : ¬ (decide ((a : Int) = (a' : Int)) && decide ((b : Int) = (b' : Int))) = true := by
    simp only [Bool.and_eq_true, decide_eq_true_eq, Int.natCast_inj]
    exact h
   rw [if_neg h2]
   have h3 : ¬ ((a, b) = (a', b')) := fun hh => h (by simpa using hh)
   rw [decide_eq_false h3]
   rfl
theorem chkPr (e : Bool) (x : Pr) (F : PH) : rdo prog (Instr.checkKey e 10000 92 (encP x)) F () := by
 show rdo prog (Instr.checkKey e (9998 + 1 + 1) 92 _) _ _
 unfold Instr.checkKey
 simp only [rdo_bind]
 refine ⟨_, (rdo_underlying underlying92 _).2 rfl, ?_⟩
 dsimp only
 simp only [List.forIn_toArray, List.forIn_cons, List.forIn_nil]
 rw [if_pos (by decide), if_pos (by decide)]
 refine (rdo_bind _ _ _ _).2 ⟨PUnit.unit, (rdo_bind _ _ _ _).2 ⟨_, chk_step' e 9998 0 _ _ rfl F, (rdo_bind _ _ _ _).2 ⟨_, chk_step' e 9998 1 _ _ rfl F, rfl⟩⟩, rfl⟩
theorem keyP : KeyTy prog 92 encP := by
 refine ⟨fun F a b => eqP F a b, fun F e a => chkPr e a F, fun a => ?_, _, underlying92, .inr fun a b => ?_⟩
 ·show Instr.sameBits (9998 + 1 + 1) _ _ = true
  simp [Instr.sameBits]
 ·rfl
theorem zr3' : tzero prog 3 = some (vi 0) := by kernel_rfl
theorem mt87 : MapTy prog 87 encP (vi 0) := ⟨_, _, underlying87, zr3', keyP⟩
theorem mt117 : MapTy prog 117 encP (.bool false) := ⟨_, _, underlying117, zr4', keyP⟩
structure Qu (G F : PH) (b : Nat) (mv : Pr → Option Value) (sl : Sl) (q : List Pr) (ys : List (Nat × Array Value × TypeId)) : Prop where
 lo : Lo G F ys
 mz : ∃ o, F b = some o ∧ MapO encP mv o
 mg : G b = none
 mn : ∀ p ∈ ys, p.1 ≠ b
 own : OwnS F 92 2 sl (pflat q)
 oz : ∀ a, sl.base = some a → G a.block = none ∧ a.block ≠ b ∧ ∀ p ∈ ys, p.1 ≠ a.block
section
variable {G F : PH} {b : Nat} {mv : Pr → Option Value} {sl : Sl} {q : List Pr} {ys : List (Nat × Array Value × TypeId)}
theorem Qu.cell (h : Qu G F b mv sl q ys) {c i : Nat} {w : Array Value} {e : TypeId} (hm : (c, w, e) ∈ ys) : F.cell (Addr.mk c i none) = w[i]? := h.lo.cell hm
theorem Qu.row (h : Qu G F b mv sl q ys) {c : Nat} {w : Array Value} {e : TypeId} (hm : (c, w, e) ∈ ys) : F.row (Addr.mk c 0 none) w := h.lo.row hm
theorem Qu.sub (h : Qu G F b mv sl q ys) {zs : List (Nat × Array Value × TypeId)} (hs : zs.Sublist ys) : Qu G F b mv sl q zs :=
 ⟨h.lo.sub hs, h.mz, h.mg, fun p hp => h.mn p (hs.subset hp), h.own, fun a ha => ⟨(h.oz a ha).1, (h.oz a ha).2.1, fun p hp => (h.oz a ha).2.2 p (hs.subset hp)⟩⟩
theorem Qu.base {G0 : PH} (h : Qu G F b mv sl q ys) (hl : G0.le G) : Qu G0 F b mv sl q ys :=
 ⟨⟨le_trans' hl h.lo.le, fun p hp => ⟨(h.lo.z p hp).1, le_none hl (h.lo.z p hp).2⟩, h.lo.nd⟩, h.mz, le_none hl h.mg, h.mn, h.own, fun a ha => ⟨le_none hl (h.oz a ha).1, (h.oz a ha).2⟩⟩
theorem Qu.call {f : FuncId} {args : Array Value} {P : Value → PH → Prop} (h : Qu G F b mv sl q ys) (s : Spec prog f args G P) : Spec prog f args F fun r F' => ∃ G', P r G' ∧ Qu G' F' b mv sl q ys :=
 (s.upon h.lo.le).mono fun r F' ⟨G', hp, hl, hk⟩ => by
  obtain ⟨o, ho, hm⟩ := h.mz
  refine ⟨G', hp, ⟨⟨hl, fun p hp => ?_, h.lo.nd⟩, ⟨o, (hk _ _ h.mg ho).1, hm⟩, (hk _ _ h.mg ho).2, h.mn, h.own.keep fun a ha => ?_, fun a ha => ?_⟩⟩
  ·obtain ⟨a, b⟩ := h.lo.z p hp
   exact hk _ _ b a
  ·obtain ⟨o, ho⟩ := h.own.some ha
   rw [(hk _ _ (h.oz a ha).1 ho).1, ho]
  ·obtain ⟨o, ho⟩ := h.own.some ha
   exact ⟨(hk _ _ (h.oz a ha).1 ho).2, (h.oz a ha).2⟩
theorem Qu.new (h : Qu G F b mv sl q ys) (c : Array Value) (e : TypeId) {x : Nat} (hx : F x = none) : Qu G (F.set x (.cells c e)) b mv sl q ((x, c, e) :: ys) := by
 obtain ⟨o, ho, hm⟩ := h.mz
 refine ⟨h.lo.new' c e hx, ⟨o, (set_ne _ _ (ne_of_fresh hx ho)).trans ho, hm⟩, h.mg, fun p hp => ?_, h.own.keep fun a ha => ?_, fun a ha => ⟨(h.oz a ha).1, (h.oz a ha).2.1, fun p hp => ?_⟩⟩
 ·rcases List.mem_cons.1 hp with rfl | hp
  ·exact (ne_of_fresh hx ho).symm
  ·exact h.mn p hp
 ·obtain ⟨o, ho⟩ := h.own.some ha
  exact set_ne _ _ (ne_of_fresh hx ho)
 ·rcases List.mem_cons.1 hp with rfl | hp
  ·obtain ⟨o, ho⟩ := h.own.some ha
   exact (ne_of_fresh hx ho).symm
  ·exact (h.oz a ha).2.2 p hp
theorem Qu.var (h : Qu G F b mv sl q ys) (p : Pr) {K : Nat → PH → Prop} (k : ∀ x F', Qu G F' b mv sl q ((x, parr p, 92) :: ys) → K x F') : ∀ x, F x = none → atF (F.set x (.cells (#[.int .i64 0, .int .i64 0]) 92)) fun F =>
  (parr p).size = 2 ∧ (∀ v ∈ (parr p).toList, storable v) ∧ ∃ c e, F (Addr.mk x 0 none).block = some (.cells c e (0, 0)) ∧ (Addr.mk x 0 none).spot = none ∧ (Addr.mk x 0 none).off + 2 ≤ c.size ∧
  atF (F.set (Addr.mk x 0 none).block (.cells (wr c (Addr.mk x 0 none).off (parr p).toList) e)) (K x) := by
 intro x hx
 refine atI ?_
 have h' := h.new #[.int .i64 0, .int .i64 0] 92 hx
 generalize F.set x (.cells #[.int .i64 0, .int .i64 0] 92) = F1 at *
 refine stW (h'.lo.get (b := x) (w := #[.int .i64 0, .int .i64 0]) (e := 92) (by simp)) rfl rfl (st_parr p) (k x _ ?_)
 obtain ⟨o, ho, hm⟩ := h'.mz
 refine ⟨Lo.upd [] ys h'.lo (set_eq _ _ _) (Keep.set _ (.inl rfl)), ⟨o, (set_ne _ _ (h'.mn _ (List.mem_cons_self)).symm).trans ho, hm⟩, h'.mg, fun p hp => ?_, h'.own.keep fun a ha => ?_, fun a ha => ⟨(h'.oz a ha).1, (h'.oz a ha).2.1, fun p hp => ?_⟩⟩
 ·rcases List.mem_cons.1 hp with rfl | hp
  ·exact h'.mn (x, #[.int .i64 0, .int .i64 0], 92) (List.mem_cons_self)
  ·exact h.mn p hp
 ·exact set_ne _ _ ((h'.oz a ha).2.2 _ (List.mem_cons_self)).symm
 ·rcases List.mem_cons.1 hp with rfl | hp
  ·exact (h'.oz a ha).2.2 (x, #[.int .i64 0, .int .i64 0], 92) (List.mem_cons_self)
  ·exact (h.oz a ha).2.2 p hp
theorem Qu.upd {mt : TypeId} {z : Value} (hmt : MapTy prog mt encP z) (h : Qu G F b mv sl q ys) (p : Pr) (v : Value) {K : PH → Prop} (k : ∀ F', Qu G F' b (fun z => if z = p then some v else mv z) sl q ys → K F') :
  runs prog (Instr.mapUpdate mt (.map (some b)) (.agg (parr p)) v) F fun _ F => K F := by
 obtain ⟨o, ho, hm⟩ := h.mz
 refine runs_mapUpdate hmt ho hm p v fun o' ho' => k _ ?_
 have hne : ∀ x, x ≠ b → F.set b o' x = F x := fun x hx => set_ne _ _ hx
 refine ⟨⟨fun x ob hx => ?_, fun p hp => ?_, h.lo.nd⟩, ⟨o', set_eq _ _ _, ho'⟩, h.mg, h.mn, h.own.keep fun a ha => hne _ (h.oz a ha).2.1, h.oz⟩
 ·have : x ≠ b := fun e => by rw [e, h.mg] at hx; cases hx
  rw [hne x this]
  exact h.lo.le _ _ hx
 ·rw [hne _ (h.mn p hp)]
  exact h.lo.z p hp
theorem Qu.look {mt : TypeId} {z : Value} (hmt : MapTy prog mt encP z) (h : Qu G F b mv sl q ys) (p : Pr) (ok : Bool) : rdo prog (Instr.lookup mt (.map (some b)) (.agg (parr p)) ok) F (if ok then .tuple #[(mv p).getD z, .bool (mv p).isSome] else (mv p).getD z) := by
 obtain ⟨o, ho, hm⟩ := h.mz
 exact rdo_lookup hmt ho hm p ok
theorem Qu.push (h : Qu G F b mv sl q ys) (p : Pr) (hl : q.length ≤ 1000000) {K : Sl → PH → Prop} (k : ∀ s' F', Qu G F' b mv s' (q ++ [p]) ys → K s' F') :
  ∀ x, F x = none → atF (F.set x (.cells (parr p) 92)) fun F =>
   runs prog (Builtin.append_ #[89, 89] 89 #[(Sl.v sl), (Sl.v (Sl.mk (some (Addr.mk x 0 none)) 1 1))]) F fun v F => ∃ s' : Sl, v = (Sl.v s') ∧ K s' F := by
 intro x hx
 refine atI ?_
 have h1 := h.new (parr p) 92 hx
 have q1 := set_eq F x (.cells (parr p) 92)
 generalize F.set x (.cells (parr p) 92) = F1 at *
 have hlen := h1.own.rd.plen
 refine own_app (F0 := G) (x := ⟨some ⟨x, 0, none⟩, 1, 1⟩) (news := pcells p) underlying89 sz92' zr92' rfl (by decide) h1.lo.le h1.own (fun a ha => (h1.oz a ha).1) (RdS.new q1 rfl rfl (Nat.le_refl _)) (st_parr p) (by simp only; omega) (by simp only; omega) ?_
 intro s' F2 le2 ho2 hl2 hnew keep hsome
 refine ⟨s', rfl, k s' F2 ?_⟩
 obtain ⟨o, ho, hm⟩ := h.mz
 obtain ⟨o1, ho1, hm1⟩ := h1.mz
 have hz : ∀ y ob, F1 y = some ob → (∀ a, sl.base = some a → a.block ≠ y) → F2 y = some ob := fun y ob hy hn => keep _ _ hy fun ⟨a, ha, e⟩ => hn a ha e
 have e : pflat (q ++ [p]) = pflat q ++ pcells p := by rw [pflat_append]; simp [pflat]
 refine ⟨⟨le2, fun y hy => ⟨hz _ _ (h1.lo.z y (List.mem_cons_of_mem _ hy)).1 fun a ha => ((h.oz a ha).2.2 y hy).symm, (h.lo.z y hy).2⟩, h.lo.nd⟩, ⟨o1, hz _ _ ho1 fun a ha => (h.oz a ha).2.1, hm1⟩, h.mg, h.mn, by rw [e]; exact ho2, fun a ha => ⟨hnew a ha, ?_⟩⟩
 rcases hsome a ha with ⟨a', ha', e'⟩ | hf
 ·rw [← e']
  exact (h.oz a' ha').2
 ·exact ⟨fun e => (by rw [e, ho1] at hf; cases hf), fun y hy e => (by rw [← e, (h1.lo.z y (List.mem_cons_of_mem _ hy)).1] at hf; cases hf)⟩
end
def two (l1 l2 : List Nd) (t1 t2 : Lt) : Two :=
 ⟨fun x b => accN l1 x.1 b ∧ accN l2 x.2 b, fun x y => t1.fol x.1 y.1 ∧ t2.fol x.2 y.2, fun x => t1.first x.1 ∧ t2.first x.2, fun x => t1.last x.1 ∧ t2.last x.2⟩
theorem good_lo {l : List Nd} (h : GoodL l) {i : Nat} {x : Nd} (hx : l[i]? = some x) : 0 ≤ x.lo ∧ x.hi ≤ 255 := by
 obtain ⟨_, h1, h2, _⟩ := h.ok i x hx
 by_cases hk : x.k = 1
 ·exact ⟨(h1 hk).1, (h1 hk).2.2⟩
 ·rw [(h2 hk).1, (h2 hk).2]; omega
theorem cmP_iff {l1 l2 : List Nd} {t1 t2 : Lt} (h1 : GoodL l1) {p : Pr} : cmP l1 l2 p.1 p.2 ↔ (two l1 l2 t1 t2).cm p := by
 constructor
 ·rintro ⟨x, y, hx, hy, h⟩
  have := (good_lo h1 hx).1
  obtain ⟨b, hb⟩ := Int.eq_ofNat_of_zero_le (show 0 ≤ max x.lo y.lo by omega)
  exact ⟨b, ⟨x, hx, by omega, by omega⟩, ⟨y, hy, by omega, by omega⟩⟩
 ·rintro ⟨b, ⟨x, hx, _, _⟩, ⟨y, hy, _, _⟩⟩
  exact ⟨x, y, hx, hy, by omega⟩
theorem cm_lt {l1 l2 : List Nd} {t1 t2 : Lt} {p : Pr} (h : (two l1 l2 t1 t2).cm p) : p.1 < l1.length ∧ p.2 < l2.length := by
 obtain ⟨b, ⟨x, hx, _⟩, ⟨y, hy, _⟩⟩ := h
 exact ⟨(List.getElem?_eq_some_iff.1 hx).1, (List.getElem?_eq_some_iff.1 hy).1⟩
theorem row1_mem {l1 l2 : List Nd} {i k : Nat} {Q : Nat → Bool} {p : Pr} (h : p ∈ row1 l1 l2 i Q k) : p.1 = i ∧ p.2 < k := by
 unfold row1 at h
 obtain ⟨j, hj, rfl⟩ := List.mem_map.1 h
 exact ⟨rfl, List.mem_range.1 (List.mem_filter.1 hj).1⟩
theorem row1_nodup (l1 l2 : List Nd) (i : Nat) (Q : Nat → Bool) : ∀ k, (row1 l1 l2 i Q k).Nodup
 | 0 => List.nodup_nil
 | k + 1 => by
  rw [row1_succ, List.nodup_append]
  refine ⟨row1_nodup l1 l2 i Q k, by split <;> simp, fun a ha b hb e => ?_⟩
  subst e
  split at hb
  ·rw [List.mem_singleton] at hb
   subst hb
   have := (row1_mem ha).2
   omega
  ·cases hb
theorem meetL_fst {l1 l2 : List Nd} {P Q : Nat → Bool} {m : Nat} {p : Pr} (h : p ∈ meetL l1 l2 P Q m) : p.1 < m := by
 unfold meetL at h
 obtain ⟨i, hi, hp⟩ := List.mem_flatMap.1 h
 split at hp
 ·rw [(row1_mem hp).1]
  exact List.mem_range.1 hi
 ·cases hp
theorem meetL_nodup (l1 l2 : List Nd) (P Q : Nat → Bool) : ∀ m, (meetL l1 l2 P Q m).Nodup
 | 0 => List.nodup_nil
 | m + 1 => by
  rw [meetL_succ, List.nodup_append]
  refine ⟨meetL_nodup l1 l2 P Q m, ?_, fun a ha b hb e => ?_⟩
  ·split
   ·exact row1_nodup l1 l2 m Q 512
   ·exact List.nodup_nil
  ·subst e
   split at hb
   ·have := meetL_fst ha
    rw [(row1_mem hb).1] at this
    omega
   ·cases hb
structure Mw (l : List Nd) (t : Lt) : Prop where
 good : GoodL l
 len : l.length ≤ 512
 lt : ∀ j, t.lab j → j < l.length
theorem Mw.fol {l : List Nd} {t : Lt} (h : Mw l t) (i j : Nat) (hf : t.fol i j) : i < l.length ∧ j < l.length := ⟨h.lt _ (t.fol_lab hf).1, h.lt _ (t.fol_lab hf).2⟩
section
variable {l1 l2 : List Nd} {t1 t2 : Lt} {P Q : Nat → Bool}
theorem meet_two (h1 : Mw l1 t1) (h2 : Mw l2 t2) {x : Pr} : x ∈ meetL l1 l2 P Q 512 ↔ (P x.1 = true ∧ Q x.2 = true) ∧ (two l1 l2 t1 t2).cm x := by
 rw [meetL_mem, cmP_iff h1.good (t1 := t1) (t2 := t2)]
 constructor
 ·rintro ⟨⟨_, a⟩, ⟨_, b⟩, c⟩
  exact ⟨⟨a, b⟩, c⟩
 ·rintro ⟨⟨a, b⟩, c⟩
  obtain ⟨d, e⟩ := cm_lt c
  have := h1.len
  have := h2.len
  exact ⟨⟨by omega, a⟩, ⟨by omega, b⟩, c⟩
theorem BF.bound {q : List Pr} {at_ : Nat} {m : Pr → Option Nat} (h1 : Mw l1 t1) (h2 : Mw l2 t2) (h : BF (two l1 l2 t1 t2) q at_ m) : q.length ≤ 262144 := by
 have hlt : ∀ x ∈ q, x.1 < 512 ∧ x.2 < 512 := fun x hx => by
  obtain ⟨d, hd⟩ := (h.mem x).1 hx
  obtain ⟨a, b⟩ := cm_lt (Two.R_cm (h.snd x d hd))
  have := h1.len
  have := h2.len
  omega
 have := nodup_bound 262144 (q.map fun x => x.1 * 512 + x.2) (by
  rw [List.nodup_iff_pairwise_ne, List.pairwise_map]
  refine List.Pairwise.imp_of_mem ?_ (List.nodup_iff_pairwise_ne.1 h.nd)
  intro a b ha hb hab e
  obtain ⟨h1, h2⟩ := hlt a ha
  obtain ⟨h3, h4⟩ := hlt b hb
  exact hab (Prod.ext (by omega) (by omega))) (fun j hj => by
  obtain ⟨x, hx, rfl⟩ := List.mem_map.1 hj
  obtain ⟨h1, h2⟩ := hlt x hx
  show x.1 * 512 + x.2 < 262144
  omega)
 rwa [List.length_map] at this
end
def mvI (m : Pr → Option Nat) : Pr → Option Value := fun x => (m x).map fun (d : Nat) => vi d
theorem mvI_up (m : Pr → Option Nat) (y : Pr) (e : Nat) : (fun z => if z = y then some (vi e) else mvI m z) = mvI (upM m y e) := by
 funext z
 unfold mvI upM
 split <;> rfl
theorem mvI_zero {q : List Pr} {w : Nat} {x : Pr} (hx : q[w]? = some x) : (fun z => if z = x then some (vi (0 : Nat)) else mvI (zeroM (q.take w)) z) = mvI (zeroM (q.take (w + 1))) := by
 funext z
 unfold mvI zeroM
 rw [List.take_add_one, hx]
 by_cases h : z = x
 ·subst h
  simp
 ·simp [h]
section
variable {G F : PH} {b : Nat} {mv : Pr → Option Value} {sl : Sl} {q : List Pr} {ys : List (Nat × Array Value × TypeId)} {c c' : Nat} {p p' : Pr}
theorem Qu.row1 (h : Qu G F b mv sl q ((c, parr p, 92) :: ys)) : F.row (Addr.mk c 0 none) (parr p) := h.row (e := 92) (List.mem_cons_self)
theorem Qu.row2 (h : Qu G F b mv sl q ((c', parr p', 92) :: (c, parr p, 92) :: ys)) : F.row (Addr.mk c 0 none) (parr p) := h.row (e := 92) (List.mem_cons_of_mem _ (List.mem_cons_self))
theorem Qu.cells1 (h : Qu G F b mv sl q ((c, parr p, 92) :: ys)) : F.cell (Addr.mk c 0 none) = some (vi p.1) ∧ F.cell (Addr.mk c 1 none) = some (vi p.2) :=
 ⟨by rw [h.cell (c := c) (w := parr p) (e := 92) (List.mem_cons_self)]; rfl, by rw [h.cell (c := c) (w := parr p) (e := 92) (List.mem_cons_self)]; rfl⟩
end
def dI2 (T : Two) (G : PH) (b24 b13 : Nat) (x : Pr) (w d : Nat) (zs : List Pr) : Nat → Sl → Int → PH → Prop := fun m s i F' =>
 ∃ (k : Nat) (q : List Pr) (mm : Pr → Option Nat), i = k ∧ k ≤ zs.length ∧ m = zs.length - k ∧ Qu G F' b24 (mvI mm) s q [(b13, parr x, 92)] ∧ BF T q w mm ∧ q[w]? = some x ∧ mm x = some d ∧ (∀ z e, mm z = some e → e ≤ q.length) ∧
  ∀ (j : Nat) (y : Pr), j < k → zs[j]? = some y → ∃ d', mm y = some d' ∧ d' ≤ d + 1
def dI1 (T : Two) (G : PH) (b24 : Nat) : Nat → Sl → Int → PH → Prop := fun m s i F' =>
 ∃ (w : Nat) (q : List Pr) (mm : Pr → Option Nat), i = w ∧ w ≤ q.length ∧ m = 262144 - w ∧ Qu G F' b24 (mvI mm) s q [] ∧ BF T q w mm ∧ ∀ z e, mm z = some e → e ≤ q.length
section
variable {l1 l2 : List Nd} {t1 t2 : Lt}
theorem dist_L2 (h1 : Mw l1 t1) (h2 : Mw l2 t2) {G F9 F2 : PH} {b24 b13 : Nat} {x : Pr} {w d : Nat} {zs : List Pr} {a0 b1 : Addr} {v20 v23 sz s : Sl} {i : Int} {m m1 : Nat} {R : Value → PH → Prop} (lG : F2.le G) (hoz : RdS G sz 2 (pflat zs)) (hzl : zs.length ≤ 262144)
  (hzs : ∀ y, y ∈ zs ↔ (two l1 l2 t1 t2).lnk y x ∧ (two l1 l2 t1 t2).cm y) (hm1 : m1 = 262144 - w) (hI : dI2 (two l1 l2 t1 t2) G b24 b13 x w d zs m s i F9) :
  b57L2 (fun y1_0 y1_1 F => ∃ m', m' < m1 ∧ dI1 (two l1 l2 t1 t2) F2 b24 m' y1_0 y1_1 F) (fun y2_0 y2_1 F => ∃ m', m' < m ∧ dI2 (two l1 l2 t1 t2) G b24 b13 x w d zs m' y2_0 y2_1 F) a0 b1 v20 v23 b24 (w : Int) b13 sz R s i F9 := by
 obtain ⟨k, q, mm, rfl, hk, rfl, h, hB, hx, hd, hmx, hall⟩ := hI
 have hqb := hB.bound h1 h2
 have hw' := (List.getElem?_eq_some_iff.1 hx).1
 have hslen := hoz.plen
 unfold b57L2
 refine ⟨fun hlt => ?_, fun hge => ?_⟩
 ·have hk' : k < zs.length := by omega
  have hy : zs[k]? = some zs[k] := List.getElem?_eq_getElem hk'
  generalize zs[k] = y at hy
  obtain ⟨hl, hc⟩ := (hzs y).1 (List.mem_of_getElem? hy)
  obtain ⟨a, ha, hr⟩ := rdp (hoz.le h.lo.le) hy
  refine ⟨a, ha, by omega, by omega, parr y, rfl, by rw [Int.toNat_natCast]; exact hr, ?_⟩
  refine h.var y fun b15 F10 h => ?_
  have hlk := h.look mt87 y true
  have fin : ∀ {s' : Sl} {F' : PH} {q' : List Pr} {mm' : Pr → Option Nat}, Qu G F' b24 (mvI mm') s' q' [(b15, parr y, 92), (b13, parr x, 92)] → BF (two l1 l2 t1 t2) q' w mm' → q'[w]? = some x → mm' x = some d → (∀ z e, mm' z = some e → e ≤ q'.length) →
    (∀ z e, mm z = some e → mm' z = some e) → (∃ d', mm' y = some d' ∧ d' ≤ d + 1) →
    ∃ m', m' < zs.length - k ∧ dI2 (two l1 l2 t1 t2) G b24 b13 x w d zs m' s' (IntKind.i64.wrap ((k : Int) + 1)) F' := fun {s' F' q' mm'} h' hB' hx' hd' hmx' hold hy' => by
   refine ⟨zs.length - (k + 1), by omega, k + 1, q', mm', w64s (by omega), by omega, rfl, h'.sub (.cons _ (List.Sublist.refl _)), hB', hx', hd', hmx', fun j z hj hz => ?_⟩
   by_cases e : j = k
   ·subst e
    rw [hy] at hz
    cases hz
    exact hy'
   ·obtain ⟨d', e1, e2⟩ := hall j z (by omega) hz
    exact ⟨d', hold _ _ e1, e2⟩
  cases hmy : mm y with
  | some e =>
   rw [show mvI mm y = some (vi e) by simp [mvI, hmy]] at hlk
   refine ⟨parr y, rfl, h.row1, (e : Int), true, hlk, fun h => (by cases h), fun _ => ?_⟩
   unfold b57j4
   exact fin h hB hx hd hmx (fun _ _ h => h) ⟨e, hmy, hB.nxt x d y e hx hd hmy⟩
  | none =>
   rw [show mvI mm y = none by simp [mvI, hmy]] at hlk
   refine ⟨parr y, rfl, h.row1, 0, false, hlk, fun _ => ?_, fun h => (by cases h)⟩
   have hlx := h.look mt87 x false
   rw [show mvI mm x = some (vi d) by simp [mvI, hd]] at hlx
   refine ⟨parr y, rfl, h.row1, parr x, rfl, h.row2, (d : Int), hlx, ?_⟩
   have hdq := hmx x d hd
   rw [w64s (n := d) (by omega)]
   refine h.upd mt87 y _ fun F11 h => ?_
   rw [mvI_up] at h
   refine ⟨parr y, rfl, h.row1, rfl, ?_⟩
   refine h.push y (by omega) fun s' F12 h => ?_
   unfold b57j4
   refine fin h (hB.push hx hd hl hc hmy) (get_app' hx) (upM_old hmy hd) (fun z e hz => ?_) (fun z e hz => upM_old hmy hz) ⟨d + 1, by simp [upM], Nat.le_refl _⟩
   rw [List.length_append, List.length_singleton]
   rcases upM_cases hz with ⟨_, rfl⟩ | hz
   ·omega
   ·have := hmx z e hz
    omega
 ·obtain rfl : k = zs.length := by omega
  unfold b57j3
  refine ⟨262144 - (w + 1), by omega, w + 1, q, mm, w64s (by omega), by omega, rfl, (h.sub (List.nil_sublist _)).base lG, hB.step hx hd fun y hl hc => ?_, hmx⟩
  obtain ⟨j, hj, e⟩ := List.getElem_of_mem ((hzs y).2 ⟨hl, hc⟩)
  exact hall j y hj (by rw [List.getElem?_eq_getElem hj, e])
structure Dc (F2 : PH) (l1 l2 : List Nd) (t1 t2 : Lt) (m1 m2 bA bB : Nat) : Prop where
 tab : Tab F2
 M1 : Mch F2 m1 l1 t1
 M2 : Mch F2 m2 l2 t2
 w1 : Mw l1 t1
 w2 : Mw l2 t2
 qA : F2 bA = some (.cells (flatR l1.length (fun k j => foB t1 j k)).toArray 76)
 qB : F2 bB = some (.cells (flatR l2.length (fun k j => foB t2 j k)).toArray 76)
theorem dist_L1 {F2 F6 : PH} {m1 m2 bA bB b24 m : Nat} (hD : Dc F2 l1 l2 t1 t2 m1 m2 bA bB) {s : Sl} {i : Int} {R : Value → PH → Prop} (hI : dI1 (two l1 l2 t1 t2) F2 b24 m s i F6) (hR : ∀ F' mm o, F' b24 = some o → MapO encP (mvI mm) o → DM (two l1 l2 t1 t2) mm → (∀ z e, mm z = some e → e ≤ 262144) → F2.le F' → R (.map (some b24)) F') :
  b57L1 (fun y1_0 y1_1 F => ∃ m', m' < m ∧ dI1 (two l1 l2 t1 t2) F2 b24 m' y1_0 y1_1 F) ⟨m1, 0, none⟩ ⟨m2, 0, none⟩ ⟨some ⟨bA, 0, none⟩, l1.length, l1.length⟩ ⟨some ⟨bB, 0, none⟩, l2.length, l2.length⟩ b24 R s i F6 := by
 obtain ⟨hT, hM1, hM2, h1, h2, qA, qB⟩ := hD
 obtain ⟨w, q, mm, rfl, hw, rfl, h, hB, hmx⟩ := hI
 have hlen := h.own.rd.plen
 have hqb := hB.bound h1 h2
 unfold b57L1
 refine ⟨fun hlt => ?_, fun hge => ?_⟩
 ·have hw' : w < q.length := by omega
  have hx : q[w]? = some q[w] := List.getElem?_eq_getElem hw'
  generalize q[w] = x at hx
  obtain ⟨d, hd⟩ := (hB.mem x).1 (List.mem_of_getElem? hx)
  obtain ⟨hx1, hx2⟩ := cm_lt (Two.R_cm (hB.snd x d hd))
  obtain ⟨a, ha, hr⟩ := rdp h.own.rd hx
  refine ⟨a, ha, by omega, by omega, parr x, rfl, by rw [Int.toNat_natCast]; exact hr, ?_⟩
  refine h.var x fun b13 F7 h => ?_
  have rA : F7.row ((Addr.mk bA 0 none).add (x.1 * 8)) (plA (fun k => foB t1 k x.1)) := flat_row (R := fun k j => foB t1 j k) (h.lo.le _ _ qA) hx1
  have rB : F7.row ((Addr.mk bB 0 none).add (x.2 * 8)) (plA (fun k => foB t2 k x.2)) := flat_row (R := fun k j => foB t2 j k) (h.lo.le _ _ qB) hx2
  refine ⟨(x.1 : Int), h.cells1.1, _, rfl, by omega, by simp only; omega, plA (fun k => foB t1 k x.1), plA_size _, by rw [Int.toNat_natCast]; exact rA, ?_⟩
  refine ⟨(x.2 : Int), h.cells1.2, _, rfl, by omega, by simp only; omega, plA (fun k => foB t2 k x.2), plA_size _, by rw [Int.toNat_natCast]; exact rB, ?_⟩
  refine (h.call (meeting_spec hT hM1 hM2 (P := fun k => foB t1 k x.1) (Q := fun k => foB t2 k x.2) (fun i hi => (h1.fol _ _ (foB_iff.1 hi)).1) (fun i hi => (h2.fol _ _ (foB_iff.1 hi)).1))).mono ?_
  rintro _ F8 ⟨G, ⟨⟨sz, rfl, hoz, _⟩, lG⟩, h⟩
  have hzs : ∀ y, y ∈ meetL l1 l2 (fun k => foB t1 k x.1) (fun k => foB t2 k x.2) 512 ↔ (two l1 l2 t1 t2).lnk y x ∧ (two l1 l2 t1 t2).cm y := fun y => by
   rw [meet_two h1 h2, foB_iff, foB_iff]
   exact Iff.rfl
  have hzl : (meetL l1 l2 (fun k => foB t1 k x.1) (fun k => foB t2 k x.2) 512).length ≤ 262144 := meetL_len l1 l2 _ _ 512
  generalize meetL l1 l2 (fun k => foB t1 k x.1) (fun k => foB t2 k x.2) 512 = zs at *
  refine ⟨_, rfl, h.cells1.2, h.cells1.1, dI2 (two l1 l2 t1 t2) G b24 b13 x w d zs, zs.length, ⟨0, q, mm, rfl, by omega, by omega, h, hB, hx, hd, hmx, fun j y hj => by omega⟩, fun m s i F9 hI => ?_⟩
  exact dist_L2 h1 h2 lG hoz.rd hzl hzs rfl hI
 ·obtain rfl : w = q.length := by omega
  unfold b57j2
  obtain ⟨o, ho, hm⟩ := h.mz
  exact hR _ mm o ho hm hB.done (fun z e hz => by have := hmx z e hz; omega) h.lo.le
theorem dist_L3 {F2 F5 : PH} {m1 m2 bA bB b24 m : Nat} (hD : Dc F2 l1 l2 t1 t2 m1 m2 bA bB) {q0 : List Pr} {sl : Sl} {i : Int} {R : Value → PH → Prop} (hB0 : BF (two l1 l2 t1 t2) q0 0 (zeroM q0))
  (hI : ∃ w : Nat, i = w ∧ w ≤ q0.length ∧ m = q0.length - w ∧ Qu F2 F5 b24 (mvI (zeroM (q0.take w))) sl q0 []) (hR : ∀ F' mm o, F' b24 = some o → MapO encP (mvI mm) o → DM (two l1 l2 t1 t2) mm → (∀ z e, mm z = some e → e ≤ 262144) → F2.le F' → R (.map (some b24)) F') :
  b57L3 (fun y F => ∃ m', m' < m ∧ ∃ w : Nat, y = w ∧ w ≤ q0.length ∧ m' = q0.length - w ∧ Qu F2 F b24 (mvI (zeroM (q0.take w))) sl q0 []) ⟨m1, 0, none⟩ ⟨m2, 0, none⟩ ⟨some ⟨bA, 0, none⟩, l1.length, l1.length⟩ ⟨some ⟨bB, 0, none⟩, l2.length, l2.length⟩ b24 sl R i F5 := by
 obtain ⟨w, rfl, hw, rfl, h⟩ := hI
 have hlen := h.own.rd.plen
 have hqb := hB0.bound hD.w1 hD.w2
 unfold b57L3
 refine ⟨fun hlt => ?_, fun hge => ?_⟩
 ·have hw' : w < q0.length := by omega
  have hx : q0[w]? = some q0[w] := List.getElem?_eq_getElem hw'
  generalize q0[w] = x at hx
  obtain ⟨a, ha, hr⟩ := rdp h.own.rd hx
  refine ⟨a, ha, by omega, by omega, parr x, rfl, by rw [Int.toNat_natCast]; exact hr, ?_⟩
  refine h.var x fun b11 F6 h => ?_
  refine ⟨parr x, rfl, h.row1, ?_⟩
  refine h.upd mt87 x (.int .i64 0) fun F7 h => ?_
  refine ⟨q0.length - (w + 1), by omega, w + 1, w64s (by omega), by omega, rfl, ?_⟩
  rw [← mvI_zero hx]
  exact h.sub (.cons _ (List.Sublist.refl _))
 ·obtain rfl : w = q0.length := by omega
  unfold b57j1
  refine ⟨dI1 (two l1 l2 t1 t2) F2 b24, 262144, ⟨0, q0, zeroM q0, rfl, by omega, by omega, by rw [List.take_length] at h; exact h, hB0, fun z e hz => ?_⟩, fun m s i F6 hI => dist_L1 hD hI hR⟩
  unfold zeroM at hz
  split at hz
  ·cases hz
   exact Nat.zero_le _
  ·cases hz
theorem dist_spec {F : PH} (hT : Tab F) {m1 m2 : Nat} (hM1 : Mch F m1 l1 t1) (hM2 : Mch F m2 l2 t2) (h1 : Mw l1 t1) (h2 : Mw l2 t2) :
  Spec prog 57 #[pa m1, pa m2] F fun r F' => (∃ b m o, r = .map (some b) ∧ F' b = some o ∧ MapO encP (mvI m) o ∧ DM (two l1 l2 t1 t2) m ∧ ∀ z e, m z = some e → e ≤ 262144) ∧ F.le F' := by
 refine c57 ?_
 unfold b57
 refine (before_spec hT hM1 h1.len h1.fol).mono ?_
 rintro _ F1 ⟨⟨bA, rfl, qA⟩, le1⟩
 refine ⟨_, rfl, ?_⟩
 refine (before_spec (hT.le le1) (hM2.le le1) h2.len h2.fol).mono ?_
 rintro _ F2 ⟨⟨bB, rfl, qB⟩, le2⟩
 refine ⟨_, rfl, ?_⟩
 replace qA := le2 _ _ qA
 have le02 := le_trans' le1 le2
 have hD : Dc F2 l1 l2 t1 t2 m1 m2 bA bB := ⟨hT.le le02, hM1.le le02, hM2.le le02, h1, h2, qA, qB⟩
 intro b24 hb24
 refine atI ?_
 have le3 := le_set_fresh (.map #[] 0) hb24
 have q24 := set_eq F2 b24 (.map #[] 0)
 generalize F2.set b24 (.map #[] 0) = F3 at *
 obtain ⟨s1, bf1, qm1, hs1, qf1⟩ := hD.M1.ex
 obtain ⟨s2, bf2, qm2, hs2, qf2⟩ := hD.M2.ex
 refine ⟨_, rfl, plA (lB t1), plA_size _, (mc_row (le3 _ _ qm1)).2, _, rfl, plA (lB t2), plA_size _, (mc_row (le3 _ _ qm2)).2, ?_⟩
 refine ((meeting_spec hD.tab hD.M1 hD.M2 (P := lB t1) (Q := lB t2) (fun i hi => h1.lt _ (t1.last_lab (lB_iff.1 hi))) (fun i hi => h2.lt _ (t2.last_lab (lB_iff.1 hi)))).upon le3).mono ?_
 rintro _ F4 ⟨G', ⟨⟨sl, rfl, ho, hz⟩, lG⟩, lF, hk⟩
 refine ⟨_, rfl, ?_⟩
 have hq0 : ∀ x, x ∈ meetL l1 l2 (lB t1) (lB t2) 512 ↔ (two l1 l2 t1 t2).R 0 x := fun x => by
  rw [meet_two h1 h2, lB_iff, lB_iff]
  exact And.comm
 have hB0 := BF.start (meetL_nodup l1 l2 (lB t1) (lB t2) 512) hq0
 generalize meetL l1 l2 (lB t1) (lB t2) 512 = q0 at *
 have hQ : Qu F2 F4 b24 (mvI (zeroM (q0.take 0))) sl q0 [] := by
  refine ⟨⟨le_trans' lG lF, fun p hp => (by cases hp), List.nodup_nil⟩, ⟨_, (hk _ _ hb24 q24).1, ?_⟩, hb24, fun p hp => (by cases hp), ho.keep fun a ha => ?_, fun a ha => ⟨hz a ha, ?_, fun p hp => (by cases hp)⟩⟩
  ·have : mvI (zeroM (q0.take 0)) = fun _ => none := by funext z; simp [mvI, zeroM]
   rw [this]
   exact MapO.empty encP
  ·obtain ⟨o, ho'⟩ := ho.some ha
   rw [lF _ _ ho', ho']
  ·rintro e
   obtain ⟨o, ho'⟩ := ho.some ha
   rw [e, (hk _ _ hb24 q24).2] at ho'
   cases ho'
 refine ⟨fun m i F' => ∃ w : Nat, i = w ∧ w ≤ q0.length ∧ m = q0.length - w ∧ Qu F2 F' b24 (mvI (zeroM (q0.take w))) sl q0 [], q0.length, ⟨0, rfl, by omega, by omega, hQ⟩, fun m i F5 hI => ?_⟩
 exact dist_L3 hD hB0 hI fun F' mm o ho hm hdm hbd lF => ⟨⟨b24, mm, o, rfl, ho, hm, hdm, hbd⟩, le_trans' le02 lF⟩
end
theorem mch_pat {F : PH} {bm : Nat} {l : List Nd} {t : Lt} (h : Mch F bm l t) : ∃ s : Sl, F.cell (Addr.mk bm 0 none) = some s.v ∧ s.len = l.length ∧ ∀ i x, l[i]? = some x → ∃ a, s.base = some a ∧ F.cell ((a.add (i * 5)).add 1) = some (vi x.lo) ∧ F.cell ((a.add (i * 5)).add 2) = some (vi x.hi) := by
 obtain ⟨s, bf, qm, hs, qf⟩ := h.ex
 refine ⟨s, by rw [cell_eq qm]; rfl, hs.nlen, fun i x hx => ?_⟩
 obtain ⟨a, h1, _, h2, h3⟩ := rdn3 hs hx
 exact ⟨a, h1, h2, h3⟩
theorem mch_fol {F : PH} {bm : Nat} {l : List Nd} {t : Lt} (h : Mch F bm l t) : ∃ bf, F.cell ((Addr.mk bm 0 none).add 17) = some (Sl.v ⟨some ⟨bf, 0, none⟩, l.length, l.length⟩) ∧ F bf = some (.cells (flatR l.length (foB t)).toArray 76) := by
 obtain ⟨s, bf, qm, hs, qf⟩ := h.ex
 exact ⟨bf, by rw [add_off, Nat.zero_add, cell_eq qm]; rfl, qf⟩
def mvS (q : List Pr) : Pr → Option Value := fun z => if z ∈ q then some (.bool true) else none
theorem mvS_up (q : List Pr) (y : Pr) : (fun z => if z = y then some (.bool true) else mvS q z) = mvS (q ++ [y]) := by
 funext z
 unfold mvS
 by_cases h : z = y
 ·simp [h]
 ·simp [h]
theorem pr_bound {q : List Pr} (hn : q.Nodup) (hlt : ∀ x ∈ q, x.1 < 512 ∧ x.2 < 512) : q.length ≤ 262144 := by
 have := nodup_bound 262144 (q.map fun x => x.1 * 512 + x.2) (by
  rw [List.nodup_iff_pairwise_ne, List.pairwise_map]
  refine List.Pairwise.imp_of_mem ?_ (List.nodup_iff_pairwise_ne.1 hn)
  intro a b ha hb hab e
  obtain ⟨h1, h2⟩ := hlt a ha
  obtain ⟨h3, h4⟩ := hlt b hb
  exact hab (Prod.ext (by omega) (by omega))) (fun j hj => by
  obtain ⟨x, hx, rfl⟩ := List.mem_map.1 hj
  obtain ⟨h1, h2⟩ := hlt x hx
  show x.1 * 512 + x.2 < 262144
  omega)
 rwa [List.length_map] at this
section
variable {l1 l2 : List Nd} {t1 t2 : Lt}
def Aft (T : Two) (S : Pr → Bool) (c : Nat) (xs : List Pr) (y : Pr) : Prop := ∃ x ∈ xs, S x = true ∧ T.acc x c ∧ T.lnk x y ∧ T.cm y
structure AQ (T : Two) (S : Pr → Bool) (c : Nat) (xs q : List Pr) : Prop where
 nd : q.Nodup
 mem : ∀ y, y ∈ q ↔ Aft T S c xs y
theorem AQ.lt (h1 : Mw l1 t1) (h2 : Mw l2 t2) {y : Pr} (h : (two l1 l2 t1 t2).cm y) : y.1 < 512 ∧ y.2 < 512 := by
 obtain ⟨a, b⟩ := cm_lt h
 have := h1.len
 have := h2.len
 omega
def aI1 (T : Two) (F : PH) (b18 : Nat) (S : Pr → Bool) (c : Nat) (now : List Pr) : Nat → Sl → Int → PH → Prop := fun m s i F' =>
 ∃ (w : Nat) (q : List Pr), i = w ∧ w ≤ now.length ∧ m = now.length - w ∧ Qu F F' b18 (mvS q) s q [] ∧ AQ T S c (now.take w) q
def aI2 (G : PH) (b18 b14 : Nat) (x : Pr) (q zs : List Pr) : Nat → Sl → Int → PH → Prop := fun m s i F' =>
 ∃ (k : Nat) (q' : List Pr), i = k ∧ k ≤ zs.length ∧ m = zs.length - k ∧ Qu G F' b18 (mvS q') s q' [(b14, parr x, 92)] ∧ q'.Nodup ∧ ∀ y, y ∈ q' ↔ y ∈ q ∨ y ∈ zs.take k
theorem aft_snoc {T : Two} {S : Pr → Bool} {c w : Nat} {now : List Pr} {x y : Pr} (hx : now[w]? = some x) : Aft T S c (now.take (w + 1)) y ↔ Aft T S c (now.take w) y ∨ (S x = true ∧ T.acc x c ∧ T.lnk x y ∧ T.cm y) := by
 unfold Aft
 rw [List.take_add_one, hx]
 simp only [List.mem_append, Option.toList_some, List.mem_singleton]
 constructor
 ·rintro ⟨z, hz | rfl, h⟩
  ·exact .inl ⟨z, hz, h⟩
  ·exact .inr h
 ·rintro (⟨z, hz, h⟩ | h)
  ·exact ⟨z, .inl hz, h⟩
  ·exact ⟨x, .inr rfl, h⟩
theorem after_L2 (h1 : Mw l1 t1) (h2 : Mw l2 t2) {F G F9 : PH} {b18 b14 : Nat} {x : Pr} {q zs now : List Pr} {a0 b1 : Addr} {c w m m1 : Nat} {S : Pr → Bool} {chosen : Value} {ns sz s : Sl} {i : Int} {R : Value → PH → Prop} (lG : F.le G) (hoz : RdS G sz 2 (pflat zs)) (hzl : zs.length ≤ 262144)
  (hzs : ∀ y, y ∈ zs ↔ (two l1 l2 t1 t2).lnk x y ∧ (two l1 l2 t1 t2).cm y) (hnow : now[w]? = some x) (hnl : now.length ≤ 262144) (hq : AQ (two l1 l2 t1 t2) S c (now.take w) q) (hS : S x = true) (hc : (two l1 l2 t1 t2).acc x c) (hm1 : m1 = now.length - w) (hI : aI2 G b18 b14 x q zs m s i F9) :
  b59L2 (fun y1_0 y1_1 F' => ∃ m', m' < m1 ∧ aI1 (two l1 l2 t1 t2) F b18 S c now m' y1_0 y1_1 F') (fun y2_0 y2_1 F' => ∃ m', m' < m ∧ aI2 G b18 b14 x q zs m' y2_0 y2_1 F') a0 b1 (c : Int) chosen b18 ns (w : Int) sz R s i F9 := by
 obtain ⟨k, q', rfl, hk, rfl, h, hn, hmem⟩ := hI
 have hslen := hoz.plen
 have hwl := (List.getElem?_eq_some_iff.1 hnow).1
 have hcm : ∀ y ∈ q', (two l1 l2 t1 t2).cm y := fun y hy => by
  rcases (hmem y).1 hy with h | h
  ·obtain ⟨_, _, _, _, _, h⟩ := (hq.mem y).1 h
   exact h
  ·exact ((hzs y).1 (List.mem_of_mem_take h)).2
 have hqb : q'.length ≤ 262144 := pr_bound hn fun y hy => AQ.lt h1 h2 (hcm y hy)
 unfold b59L2
 refine ⟨fun hlt => ?_, fun hge => ?_⟩
 ·have hk' : k < zs.length := by omega
  have hy : zs[k]? = some zs[k] := List.getElem?_eq_getElem hk'
  generalize zs[k] = y at hy
  have hy2 := (hzs y).1 (List.mem_of_getElem? hy)
  obtain ⟨a, ha, hr⟩ := rdp (hoz.le h.lo.le) hy
  refine ⟨a, ha, by omega, by omega, parr y, rfl, by rw [Int.toNat_natCast]; exact hr, ?_⟩
  refine h.var y fun b17 F10 h => ?_
  have hlk := h.look mt117 y false
  have tk : ∀ z, z ∈ zs.take (k + 1) ↔ z ∈ zs.take k ∨ z = y := fun z => by rw [List.take_add_one, hy]; simp
  by_cases hin : y ∈ q'
  ·rw [show mvS q' y = some (.bool true) by simp [mvS, hin]] at hlk
   refine ⟨parr y, rfl, h.row1, true, hlk, fun h => (by cases h), fun _ => ?_⟩
   unfold b59j4
   refine ⟨zs.length - (k + 1), by omega, k + 1, q', w64s (by omega), by omega, rfl, h.sub (.cons _ (List.Sublist.refl _)), hn, fun z => ?_⟩
   rw [tk, hmem]
   constructor
   ·rintro (h | h)
    ·exact .inl h
    ·exact .inr (.inl h)
   ·rintro (h | h | rfl)
    ·exact .inl h
    ·exact .inr h
    ·exact (hmem z).1 hin
  ·rw [show mvS q' y = none by simp [mvS, hin]] at hlk
   refine ⟨parr y, rfl, h.row1, false, hlk, fun _ => ?_, fun h => (by cases h)⟩
   refine ⟨parr y, rfl, h.row1, ?_⟩
   refine h.upd mt117 y _ fun F11 h => ?_
   rw [mvS_up] at h
   refine ⟨parr y, rfl, h.row1, rfl, ?_⟩
   refine h.push y (by omega) fun s' F12 h => ?_
   unfold b59j4
   refine ⟨zs.length - (k + 1), by omega, k + 1, q' ++ [y], w64s (by omega), by omega, rfl, h.sub (.cons _ (List.Sublist.refl _)), ?_, fun z => ?_⟩
   ·rw [List.nodup_append]
    refine ⟨hn, by simp, fun a ha b hb e => ?_⟩
    simp only [List.mem_singleton] at hb
    subst hb
    exact hin (e ▸ ha)
   ·rw [tk, List.mem_append, List.mem_singleton, hmem, or_assoc]
 ·obtain rfl : k = zs.length := by omega
  unfold b59j2
  refine ⟨now.length - (w + 1), by omega, w + 1, q', w64s (by omega), by omega, rfl, (h.sub (List.nil_sublist _)).base lG, hn, fun y => ?_⟩
  rw [hmem, hq.mem, List.take_length, hzs, aft_snoc hnow]
  constructor
  ·rintro (h | ⟨a, b⟩)
   ·exact .inl h
   ·exact .inr ⟨hS, hc, a, b⟩
  ·rintro (h | ⟨_, _, a, b⟩)
   ·exact .inl h
   ·exact .inr ⟨a, b⟩
theorem after_L1 {F F5 : PH} (hT : Tab F) {m1 m2 : Nat} (hM1 : Mch F m1 l1 t1) (hM2 : Mch F m2 l2 t2) (h1 : Mw l1 t1) (h2 : Mw l2 t2) {ns s : Sl} {now : List Pr} (hs : RdS F ns 2 (pflat now)) (hnl : now.length ≤ 262144)
  (hnow : ∀ x ∈ now, x.1 < l1.length ∧ x.2 < l2.length) {c : Nat} {S : Pr → Bool} {k : FuncId} {cap : Array Value} (hcb : callableB prog k = true) (hS : ∀ x ∈ now, Spec prog k (#[.agg (parr x)] ++ cap) F fun v F' => v = .bool (S x) ∧ F.le F')
  {b18 m : Nat} {i : Int} {R : Value → PH → Prop} (hI : aI1 (two l1 l2 t1 t2) F b18 S c now m s i F5) (hR : ∀ F' sl q, RdS F' sl 2 (pflat q) → AQ (two l1 l2 t1 t2) S c now q → F.le F' → R sl.v F') :
  b59L1 (fun y1_0 y1_1 F' => ∃ m', m' < m ∧ aI1 (two l1 l2 t1 t2) F b18 S c now m' y1_0 y1_1 F') (some ⟨m1, 0, none⟩) (some ⟨m2, 0, none⟩) (c : Int) (.func (.func k) #[] cap) b18 ns R s i F5 := by
 obtain ⟨w, q, rfl, hw, rfl, h, hq⟩ := hI
 have hlen := hs.plen
 unfold b59L1
 refine ⟨fun hlt => ?_, fun hge => ?_⟩
 ·have hw' : w < now.length := by omega
  have hx : now[w]? = some now[w] := List.getElem?_eq_getElem hw'
  generalize now[w] = x at hx
  have hxm := List.mem_of_getElem? hx
  obtain ⟨hx1, hx2⟩ := hnow x hxm
  obtain ⟨a, ha, hr⟩ := rdp (hs.le h.lo.le) hx
  refine ⟨a, ha, by omega, by omega, parr x, rfl, by rw [Int.toNat_natCast]; exact hr, ?_⟩
  refine h.var x fun b14 F6 h => ?_
  obtain ⟨s1, c1, n1, k1⟩ := mch_pat (hM1.le h.lo.le)
  obtain ⟨s2, c2, n2, k2⟩ := mch_pat (hM2.le h.lo.le)
  have hn1 : l1[x.1]? = some l1[x.1] := List.getElem?_eq_getElem hx1
  have hn2 : l2[x.2]? = some l2[x.2] := List.getElem?_eq_getElem hx2
  generalize l1[x.1] = y1 at hn1
  generalize l2[x.2] = y2 at hn2
  obtain ⟨a1, ha1, lo1, hi1⟩ := k1 _ _ hn1
  obtain ⟨a2, ha2, lo2, hi2⟩ := k2 _ _ hn2
  have ea : Int.toNat (x.1 : Int) = x.1 := Int.toNat_natCast _
  have eb : Int.toNat (x.2 : Int) = x.2 := Int.toNat_natCast _
  have skip : ¬ (S x = true ∧ (two l1 l2 t1 t2).acc x c) → ∀ {G F' : PH}, F.le G → Qu G F' b18 (mvS q) s q [(b14, parr x, 92)] → ∃ m', m' < now.length - w ∧ aI1 (two l1 l2 t1 t2) F b18 S c now m' s (IntKind.i64.wrap ((w : Int) + 1)) F' := fun hno {G F'} lG h => by
   refine ⟨now.length - (w + 1), by omega, w + 1, q, w64s (by omega), by omega, rfl, (h.sub (List.nil_sublist _)).base lG, hq.nd, fun y => ?_⟩
   rw [hq.mem, aft_snoc hx]
   exact ⟨.inl, fun h => h.elim id fun h => absurd ⟨h.1, h.2.1⟩ hno⟩
  have j3 : ∀ ins : Bool, (ins = true ↔ (two l1 l2 t1 t2).acc x c) → b59j3 (fun y1_0 y1_1 F' => ∃ m', m' < now.length - w ∧ aI1 (two l1 l2 t1 t2) F b18 S c now m' y1_0 y1_1 F') (some ⟨m1, 0, none⟩) (some ⟨m2, 0, none⟩) (c : Int) (.func (.func k) #[] cap) b18 s b14 ns (w : Int) ins R F6 := fun ins hins => by
   unfold b59j3
   refine ⟨fun hi => ?_, fun hi => ?_⟩
   ·unfold b59j2
    exact skip (fun hh => by rw [hins.2 hh.2] at hi; cases hi) (le_refl' F) h
   ·have hacc : (two l1 l2 t1 t2).acc x c := hins.1 (by revert hi; cases ins <;> simp)
    refine ⟨parr x, rfl, h.row1, k, #[], cap, rfl, hcb, ?_⟩
    refine (h.call (hS x hxm)).mono ?_
    rintro _ F7 ⟨G, ⟨rfl, lG⟩, h⟩
    refine ⟨S x, rfl, fun hs0 => ?_, fun hs0 => ?_⟩
    ·unfold b59j2
     exact skip (fun hh => by rw [hh.1] at hs0; cases hs0) lG h
    ·have hS1 : S x = true := by revert hs0; cases S x <;> simp
     obtain ⟨bf1, f1, g1⟩ := mch_fol (hM1.le lG)
     obtain ⟨bf2, f2, g2⟩ := mch_fol (hM2.le lG)
     have rA := flat_row (h.lo.le _ _ g1) hx1
     have rB := flat_row (h.lo.le _ _ g2) hx2
     refine ⟨_, rfl, _, le_cell h.lo.le f1, (x.1 : Int), h.cells1.1, _, rfl, by omega, by simp only; omega, plA (foB t1 x.1), plA_size _, by rw [Int.toNat_natCast]; exact rA, ?_⟩
     refine ⟨_, rfl, _, le_cell h.lo.le f2, (x.2 : Int), h.cells1.2, _, rfl, by omega, by simp only; omega, plA (foB t2 x.2), plA_size _, by rw [Int.toNat_natCast]; exact rB, ?_⟩
     refine (h.call (meeting_spec (hT.le lG) (hM1.le lG) (hM2.le lG) (P := foB t1 x.1) (Q := foB t2 x.2) (fun i hi => (h1.fol _ _ (foB_iff.1 hi)).2) (fun i hi => (h2.fol _ _ (foB_iff.1 hi)).2))).mono ?_
     rintro _ F8 ⟨G2, ⟨⟨sz, rfl, hoz, _⟩, lG2⟩, h⟩
     have hzs : ∀ y, y ∈ meetL l1 l2 (foB t1 x.1) (foB t2 x.2) 512 ↔ (two l1 l2 t1 t2).lnk x y ∧ (two l1 l2 t1 t2).cm y := fun y => by
      rw [meet_two h1 h2, foB_iff, foB_iff]
      exact Iff.rfl
     have hzl : (meetL l1 l2 (foB t1 x.1) (foB t2 x.2) 512).length ≤ 262144 := meetL_len l1 l2 _ _ 512
     generalize meetL l1 l2 (foB t1 x.1) (foB t2 x.2) 512 = zs at *
     have l2' := le_trans' lG2 h.lo.le
     refine ⟨_, rfl, h.cells1.2, le_cell l2' f2, h.cells1.1, le_cell l2' f1, aI2 G2 b18 b14 x q zs, zs.length, ⟨0, q, rfl, by omega, by omega, h, hq.nd, fun y => by simp⟩, fun m s i F9 hI => ?_⟩
     exact after_L2 h1 h2 (le_trans' lG lG2) hoz.rd hzl hzs hx hnl hq hS1 hacc rfl hI
  have accI : (two l1 l2 t1 t2).acc x c ↔ ((y1.lo ≤ (c : Int) ∧ (c : Int) ≤ y1.hi) ∧ y2.lo ≤ (c : Int) ∧ (c : Int) ≤ y2.hi) := by
   constructor
   ·rintro ⟨⟨z1, e1, p1⟩, ⟨z2, e2, p2⟩⟩
    rw [hn1] at e1
    rw [hn2] at e2
    cases e1
    cases e2
    exact ⟨p1, p2⟩
   ·rintro ⟨p1, p2⟩
    exact ⟨⟨y1, hn1, p1⟩, ⟨y2, hn2, p2⟩⟩
  refine ⟨_, rfl, s1, c1, (x.1 : Int), h.cells1.1, a1, ha1, by omega, by omega, y1.lo, by rw [ea]; exact lo1, fun p1 => ?_, fun p1 => j3 false ⟨fun h => (by cases h), fun h => absurd (accI.1 h).1.1 p1⟩⟩
  refine ⟨s1, c1, (x.1 : Int), h.cells1.1, a1, ha1, by omega, by omega, y1.hi, by rw [ea]; exact hi1, fun p2 => ?_, fun p2 => j3 false ⟨fun h => (by cases h), fun h => absurd (accI.1 h).1.2 p2⟩⟩
  refine ⟨_, rfl, s2, c2, (x.2 : Int), h.cells1.2, a2, ha2, by omega, by omega, y2.lo, by rw [eb]; exact lo2, fun p3 => ?_, fun p3 => j3 false ⟨fun h => (by cases h), fun h => absurd (accI.1 h).2.1 p3⟩⟩
  refine ⟨s2, c2, (x.2 : Int), h.cells1.2, a2, ha2, by omega, by omega, y2.hi, by rw [eb]; exact hi2, j3 _ ?_⟩
  rw [decide_eq_true_eq, accI]
  exact ⟨fun h => ⟨⟨p1, p2⟩, p3, h⟩, fun h => h.2.2⟩
 ·obtain rfl : w = now.length := by omega
  unfold b59j1
  rw [List.take_length] at hq
  exact hR _ s q h.own.rd hq h.lo.le
theorem after_spec {F : PH} (hT : Tab F) {m1 m2 : Nat} (hM1 : Mch F m1 l1 t1) (hM2 : Mch F m2 l2 t2) (h1 : Mw l1 t1) (h2 : Mw l2 t2) {ns : Sl} {now : List Pr} (hs : RdS F ns 2 (pflat now)) (hnl : now.length ≤ 262144)
  (hnow : ∀ x ∈ now, x.1 < l1.length ∧ x.2 < l2.length) {c : Nat} {S : Pr → Bool} {k : FuncId} {cap : Array Value} (hcb : callableB prog k = true) (hS : ∀ x ∈ now, Spec prog k (#[.agg (parr x)] ++ cap) F fun v F' => v = .bool (S x) ∧ F.le F') :
  Spec prog 59 #[pa m1, pa m2, ns.v, vi c, .func (.func k) #[] cap] F fun r F' => (∃ (sl : Sl) (q : List Pr), r = sl.v ∧ RdS F' sl 2 (pflat q) ∧ AQ (two l1 l2 t1 t2) S c now q) ∧ F.le F' := by
 refine c59 ?_
 unfold b59
 intro b18 hb
 refine atI ?_
 have le1 := le_set_fresh (.map #[] 0) hb
 have q1 := set_eq F b18 (.map #[] 0)
 generalize F.set b18 (.map #[] 0) = F1 at *
 refine ⟨aI1 (two l1 l2 t1 t2) F b18 S c now, now.length, ⟨0, [], rfl, by omega, by omega, ⟨⟨le1, fun p hp => (by cases hp), List.nodup_nil⟩, ⟨_, q1, ?_⟩, hb, fun p hp => (by cases hp), .inl ⟨rfl, rfl⟩, fun a ha => (by cases ha)⟩, List.nodup_nil, fun y => ?_⟩, fun m s i F5 hI => ?_⟩
 ·have : mvS [] = fun _ => none := by funext z; simp [mvS]
  rw [this]
  exact MapO.empty encP
 ·simp [Aft]
 ·exact after_L1 hT hM1 hM2 h1 h2 hs hnl hnow hcb hS hI fun F' sl q hr ha lF => ⟨⟨sl, q, rfl, hr, ha⟩, lF⟩
end
theorem dist_at {F : PH} {b10 bm r : Nat} {o : Obj} {m : Pr → Option Nat} {d : Addr} (h1 : F.cell (Addr.mk b10 0 none) = some (.map (some bm))) (h2 : F bm = some o) (h3 : MapO encP (mvI m) o) (h4 : F.cell d = some (vi r)) (x : Pr) :
  Spec prog 60 #[.agg (parr x), pa b10, .pointer (some d)] F fun v F' => v = .bool (decide (m x = some r)) ∧ F.le F' := by
 refine c60 ?_
 unfold b60
 intro b3 hb
 refine atI ?_
 have le1 := le_set_fresh (.cells (parr x) 92) hb
 have q1 := set_eq F b3 (.cells (parr x) 92)
 generalize F.set b3 (.cells (parr x) 92) = F1 at *
 have hl := rdo_lookup mt87 (le1 _ _ h2) h3 x true
 refine ⟨_, rfl, _, le_cell le1 h1, parr x, rfl, row_whole q1, ?_⟩
 cases hm : m x with
 | none =>
  rw [show mvI m x = none by simp [mvI, hm]] at hl
  exact ⟨0, false, hl, fun h => (by cases h), fun _ => ⟨by simp, le1⟩⟩
 | some e =>
  rw [show mvI m x = some (vi e) by simp [mvI, hm]] at hl
  refine ⟨(e : Int), true, hl, fun _ => ⟨_, rfl, _, le_cell le1 h4, ?_, le1⟩, fun h => (by cases h)⟩
  congr 1
  rw [Bool.eq_iff_iff, decide_eq_true_eq, decide_eq_true_eq]
  constructor
  ·intro h
   rw [show e = r by omega]
  ·intro h
   cases h
   rfl
theorem PW_iff {l1 l2 : List Nd} {t1 t2 : Lt} : ∀ (w : List Nat) (x : Pr), (two l1 l2 t1 t2).PW x w ↔ Pth (accN l1) t1.fol t1.last x.1 w ∧ Pth (accN l2) t2.fol t2.last x.2 w
 | [], x => ⟨fun h => h.elim, fun h => h.1.elim⟩
 | b :: w, x => by
  constructor
  ·rintro ⟨⟨a1, a2⟩, ⟨rfl, e1, e2⟩ | ⟨y, ⟨f1, f2⟩, hy⟩⟩
   ·exact ⟨⟨a1, .inl ⟨rfl, e1⟩⟩, ⟨a2, .inl ⟨rfl, e2⟩⟩⟩
   ·obtain ⟨h1, h2⟩ := (PW_iff w y).1 hy
    exact ⟨⟨a1, .inr ⟨_, f1, h1⟩⟩, ⟨a2, .inr ⟨_, f2, h2⟩⟩⟩
  ·rintro ⟨⟨a1, h1⟩, ⟨a2, h2⟩⟩
   refine ⟨⟨a1, a2⟩, ?_⟩
   rcases h1 with ⟨rfl, e1⟩ | ⟨j1, f1, g1⟩
   ·rcases h2 with ⟨_, e2⟩ | ⟨j2, f2, g2⟩
    ·exact .inl ⟨rfl, e1, e2⟩
    ·exact g2.elim
   ·rcases h2 with ⟨rfl, e2⟩ | ⟨j2, f2, g2⟩
    ·exact g1.elim
    ·exact .inr ⟨(j1, j2), ⟨f1, f2⟩, (PW_iff w (j1, j2)).2 ⟨g1, g2⟩⟩
theorem two_C {l1 l2 : List Nd} {t1 t2 : Lt} (h1 : t1.fits (accN l1)) (h2 : t2.fits (accN l2)) (w : List Nat) : (two l1 l2 t1 t2).C w ↔ w ≠ [] ∧ Lg t1.pat w ∧ Lg t2.pat w := by
 constructor
 ·rintro ⟨x, ⟨i1, i2⟩, hp⟩
  obtain ⟨p1, p2⟩ := (PW_iff w x).1 hp
  exact ⟨p1.ne, (t1.places h1 w p1.ne).2 ⟨_, i1, p1⟩, (t2.places h2 w p1.ne).2 ⟨_, i2, p2⟩⟩
 ·rintro ⟨hn, g1, g2⟩
  obtain ⟨i, i1, p1⟩ := (t1.places h1 w hn).1 g1
  obtain ⟨j, i2, p2⟩ := (t2.places h2 w hn).1 g2
  exact ⟨(i, j), ⟨i1, i2⟩, (PW_iff w (i, j)).2 ⟨p1, p2⟩⟩
structure Ow (G F : PH) (s : Sl) (vs : List Value) : Prop where
 le : G.le F
 own : OwnS F 5 1 s vs
 oz : ∀ a, s.base = some a → G a.block = none
theorem sz5' : tsz prog 5 = some (1, 1) := by kernel_rfl
theorem zr5' : tzero prog 5 = some (.int .u8 0) := by kernel_rfl
section
variable {G F : PH} {s : Sl} {vs : List Value}
theorem Ow.fresh (h : Ow G F s vs) {x : Nat} (hx : F x = none) (o : Obj) : Ow G (F.set x o) s vs :=
 ⟨le_trans' h.le (le_set_fresh o hx), h.own.keep fun a ha => by
  obtain ⟨o', ho⟩ := h.own.some ha
  exact set_ne _ _ (ne_of_fresh hx ho), h.oz⟩
theorem Ow.over (h : Ow G F s vs) {x : Nat} (hg : G x = none) (hs : ∀ a, s.base = some a → a.block ≠ x) (o : Obj) : Ow G (F.set x o) s vs :=
 ⟨fun y ob hy => (set_ne _ _ (fun e => by rw [e, hg] at hy; cases hy)).trans (h.le y ob hy), h.own.keep fun a ha => set_ne _ _ (hs a ha), h.oz⟩
theorem Ow.ne (h : Ow G F s vs) {x : Nat} (hx : F x = none) : ∀ a, s.base = some a → a.block ≠ x := fun a ha => by
 obtain ⟨o', ho⟩ := h.own.some ha
 exact ne_of_fresh hx ho
theorem Ow.var (h : Ow G F s vs) (p : Pr) {K : Nat → PH → Prop} (k : ∀ x F', Ow G F' s vs → F' x = some (.cells (parr p) 92) → K x F') : ∀ x, F x = none → atF (F.set x (.cells (#[.int .i64 0, .int .i64 0]) 92)) fun F =>
  (parr p).size = 2 ∧ (∀ v ∈ (parr p).toList, storable v) ∧ ∃ c e, F (Addr.mk x 0 none).block = some (.cells c e (0, 0)) ∧ (Addr.mk x 0 none).spot = none ∧ (Addr.mk x 0 none).off + 2 ≤ c.size ∧
  atF (F.set (Addr.mk x 0 none).block (.cells (wr c (Addr.mk x 0 none).off (parr p).toList) e)) (K x) := by
 intro x hx
 refine atI ?_
 have h1 := h.fresh hx (.cells #[.int .i64 0, .int .i64 0] 92)
 have q1 := set_eq F x (.cells #[.int .i64 0, .int .i64 0] 92)
 have hg := le_none h.le hx
 have hn := h.ne hx
 generalize F.set x (.cells #[.int .i64 0, .int .i64 0] 92) = F1 at *
 exact stW q1 rfl rfl (st_parr p) (k x _ (h1.over hg hn _) (set_eq _ _ _))
theorem Ow.call {f : FuncId} {args : Array Value} {P : Value → PH → Prop} (h : Ow G F s vs) (sp : Spec prog f args G P) : Spec prog f args F fun r F' => ∃ G', P r G' ∧ Ow G' F' s vs :=
 (sp.upon h.le).mono fun r F' ⟨G', hp, hl, hk⟩ => ⟨G', hp, hl, h.own.keep fun a ha => by
  obtain ⟨o, ho⟩ := h.own.some ha
  rw [(hk _ _ (h.oz a ha) ho).1, ho], fun a ha => by
  obtain ⟨o, ho⟩ := h.own.some ha
  exact (hk _ _ (h.oz a ha) ho).2⟩
theorem Ow.push (h : Ow G F s vs) (c : Nat) (hl : s.len ≤ 1000000) {K : Sl → PH → Prop} (k : ∀ s' F', Ow G F' s' (vs ++ [.int .u8 (c : Int)]) → K s' F') :
  ∀ x, F x = none → atF (F.set x (.cells #[(.int .u8 (c : Int))] 5)) fun F =>
   runs prog (Builtin.append_ #[22, 22] 22 #[(Sl.v s), (Sl.v (Sl.mk (some (Addr.mk x 0 none)) 1 1))]) F fun v F => ∃ s' : Sl, v = (Sl.v s') ∧ K s' F := by
 intro x hx
 refine atI ?_
 have h1 := h.fresh hx (.cells #[(.int .u8 (c : Int))] 5)
 have q1 := set_eq F x (.cells #[(.int .u8 (c : Int))] 5)
 generalize F.set x (.cells #[(.int .u8 (c : Int))] 5) = F1 at *
 refine own_app (F0 := G) (x := ⟨some ⟨x, 0, none⟩, 1, 1⟩) (news := [.int .u8 (c : Int)]) underlying22 sz5' zr5' rfl (by decide) h1.le h1.own h1.oz (RdS.new q1 rfl rfl (Nat.le_refl _)) (fun v hv => by rw [List.mem_singleton] at hv; subst hv; exact st_int) (by simp only; omega) (by simp only; omega) ?_
 intro s' F2 le2 ho2 hl2 hnew keep hsome
 exact ⟨s', rfl, k s' F2 ⟨le2, ho2, hnew⟩⟩
theorem Ow.absorb (h : Ow G F s vs) {x : Nat} {o : Obj} (hg : G x = none) (hx : F x = some o) (hs : ∀ a, s.base = some a → a.block ≠ x) : Ow (G.set x o) F s vs ∧ G.le (G.set x o) := by
 refine ⟨⟨fun y ob hy => ?_, h.own, fun a ha => (set_ne _ _ (hs a ha)).trans (h.oz a ha)⟩, le_set_fresh o hg⟩
 by_cases e : y = x
 ·subst e
  rw [set_eq] at hy
  cases hy
  exact hx
 ·rw [set_ne _ _ e] at hy
  exact h.le y ob hy
theorem u8l_append (a b : List Nat) : u8l (a ++ b) = u8l a ++ u8l b := by simp [u8l]
theorem u8l_length (a : List Nat) : (u8l a).length = a.length := by simp [u8l]
end
structure Cc (G : PH) (l1 l2 : List Nd) (t1 t2 : Lt) (p q : Sl) (m1 m2 bm b10 : Nat) (mm : Pr → Option Nat) : Prop where
 tab : Tab G
 M1 : Mch G m1 l1 t1
 M2 : Mch G m2 l2 t2
 w1 : Mw l1 t1
 w2 : Mw l2 t2
 hp : RdS G p 5 (nflat l1)
 hq : RdS G q 5 (nflat l2)
 map : ∃ o, G bm = some o ∧ MapO encP (mvI mm) o
 var : G b10 = some (.cells #[.map (some bm)] 87)
 dm : DM (two l1 l2 t1 t2) mm
 bd : ∀ z e, mm z = some e → e ≤ 262144
theorem Cc.le {G F : PH} {l1 l2 : List Nd} {t1 t2 : Lt} {p q : Sl} {m1 m2 bm b10 : Nat} {mm : Pr → Option Nat} (h : Cc G l1 l2 t1 t2 p q m1 m2 bm b10 mm) (hl : G.le F) : Cc F l1 l2 t1 t2 p q m1 m2 bm b10 mm := by
 obtain ⟨o, h1, h2⟩ := h.map
 exact ⟨h.tab.le hl, h.M1.le hl, h.M2.le hl, h.w1, h.w2, h.hp.le hl, h.hq.le hl, ⟨o, hl _ _ h1, h2⟩, hl _ _ h.var, h.dm, h.bd⟩
theorem Cc.look {G F : PH} {l1 l2 : List Nd} {t1 t2 : Lt} {p q : Sl} {m1 m2 bm b10 : Nat} {mm : Pr → Option Nat} (h : Cc G l1 l2 t1 t2 p q m1 m2 bm b10 mm) (hl : G.le F) (x : Pr) :
  F.cell (Addr.mk b10 0 none) = some (.map (some bm)) ∧ ((∃ e : Nat, mm x = some e ∧ rdo prog (Instr.lookup 87 (.map (some bm)) (.agg (parr x)) true) F (.tuple #[vi e, .bool true])) ∨ (mm x = none ∧ rdo prog (Instr.lookup 87 (.map (some bm)) (.agg (parr x)) true) F (.tuple #[vi 0, .bool false]))) := by
 obtain ⟨o, h1, h2⟩ := h.map
 refine ⟨le_cell hl (by rw [cell_eq h.var]; rfl), ?_⟩
 have hlk := rdo_lookup mt87 (hl _ _ h1) h2 x true
 cases hm : mm x with
 | none =>
  rw [show mvI mm x = none by simp [mvI, hm]] at hlk
  exact .inr ⟨rfl, hlk⟩
 | some e =>
  rw [show mvI mm x = some (vi e) by simp [mvI, hm]] at hlk
  exact .inl ⟨e, rfl, hlk⟩
def cI1 (T : Two) (G0 : PH) (N : Nat) : Nat → Sl → Sl → Option Addr → PH → Prop := fun m ns os dp F' =>
 ∃ (G : PH) (r : Nat) (now : List Pr) (out : List Nat) (b18 : Nat), m = r ∧ dp = some ⟨b18, 0, none⟩ ∧ G0.le G ∧ G b18 = some (.cells #[vi ((r : Int) - 1)] 3) ∧ RdS G ns 2 (pflat now) ∧ now.Nodup ∧ (∀ x ∈ now, T.cm x) ∧ Ow G F' os (u8l out) ∧ Gr T N now out r ∧ ∀ b ∈ out, b < 256
def cI2 (T : Two) (G : PH) (mm : Pr → Option Nat) (r : Nat) (now : List Pr) (os : Sl) (out : List Nat) : Nat → Int → Int → PH → Prop := fun m least i F' =>
 ∃ w : Nat, i = w ∧ w ≤ now.length ∧ m = now.length - w ∧ Ow G F' os (u8l out) ∧ ((least = 256 ∧ ∀ x ∈ now.take w, mm x ≠ some r) ∨
  ∃ c : Nat, c < 256 ∧ least = c ∧ (∃ x ∈ now.take w, mm x = some r ∧ T.acc x c) ∧ ∀ x ∈ now.take w, mm x = some r → ∀ b, T.acc x b → c ≤ b)
section
variable {l1 l2 : List Nd} {t1 t2 : Lt}
theorem cb60' : callableB prog 60 = true := by kernel_rfl
theorem common_j4 {G0 G F9 : PH} {p q ns os : Sl} {m1 m2 bm b10 b18 N r : Nat} {mm : Pr → Option Nat} (hC : Cc G0 l1 l2 t1 t2 p q m1 m2 bm b10 mm) {now : List Pr} {out : List Nat} {R : Value → PH → Prop} (lG : G0.le G) (hb : G b18 = some (.cells #[vi (((r + 1 : Nat) : Int) - 1)] 3)) (hs : RdS G ns 2 (pflat now)) (hnd : now.Nodup) (hcm : ∀ x ∈ now, (two l1 l2 t1 t2).cm x)
  (hg : Gr (two l1 l2 t1 t2) N now out (r + 1)) (hN : N ≤ 262145) (hob : ∀ b ∈ out, b < 256) (ho : Ow G F9 os (u8l out)) {c : Nat} (hc : c < 256) (hc1 : ∃ x ∈ now, mm x = some r ∧ (two l1 l2 t1 t2).acc x c) (hc2 : ∀ x ∈ now, mm x = some r → ∀ b, (two l1 l2 t1 t2).acc x b → c ≤ b) :
  b31j4 (fun y1_0 y1_1 y1_2 F' => ∃ m', m' < r + 1 ∧ cI1 (two l1 l2 t1 t2) G0 N m' y1_0 y1_1 y1_2 F') p q ⟨m1, 0, none⟩ ⟨m2, 0, none⟩ b10 ns os ⟨b18, 0, none⟩ (c : Int) R F9 := by
 have hCG := hC.le lG
 have hlt : ∀ x ∈ now, x.1 < 512 ∧ x.2 < 512 := fun x hx => AQ.lt hC.w1 hC.w2 (hcm x hx)
 have hol : os.len = out.length := by have := ho.own.rd.len; rw [u8l_length] at this; omega
 have hgl := hg.len
 unfold b31j4
 rw [wu8_eq (by omega) (by omega)]
 refine ho.push c (by omega) fun s' F10 ho => ?_
 have er : ((r + 1 : Nat) : Int) - 1 = (r : Int) := by omega
 rw [er] at hb
 obtain ⟨o, ho1, ho2⟩ := hCG.map
 refine (ho.call (after_spec hCG.tab hCG.M1 hCG.M2 hC.w1 hC.w2 hs (pr_bound hnd hlt) (fun x hx => cm_lt (hcm x hx)) (c := c) (S := fun x => decide (mm x = some r)) (k := 60) (cap := #[pa b10, pa b18]) cb60' fun x hx =>
  dist_at (by rw [cell_eq hCG.var]; rfl) ho1 ho2 (by rw [cell_eq hb]; rfl) x)).mono ?_
 rintro _ F11 ⟨G2, ⟨⟨sl, q', rfl, hr, hA⟩, lG2⟩, ho⟩
 have hb2 := lG2 _ _ hb
 refine ⟨_, rfl, ?_⟩
 unfold b31j3
 refine ⟨(r : Int), le_cell ho.le (by rw [cell_eq hb2]; rfl), ?_⟩
 intro b hbf
 refine atI ?_
 have o1 := ho.fresh hbf (.cells #[.int .i64 0] 3)
 have q1 := set_eq F11 b (.cells #[.int .i64 0] 3)
 have gb := le_none ho.le hbf
 have nb := ho.ne hbf
 generalize F11.set b (.cells #[.int .i64 0] 3) = F12 at *
 refine st1 (o := 0) q1 (by simp) ?_
 show ∃ v_82 : Int, _
 have o2 := o1.over gb nb (.cells #[.int .i64 (r : Int)] 3)
 have q2 := set_eq F12 b (.cells #[.int .i64 (r : Int)] 3)
 have e1 : (#[Value.int .i64 0] : Array Value).setIfInBounds 0 (.int .i64 (r : Int)) = #[.int .i64 (r : Int)] := rfl
 rw [e1]
 generalize F12.set b (.cells #[.int .i64 (r : Int)] 3) = F13 at *
 refine ⟨(r : Int), by rw [cell_eq q2]; rfl, ?_⟩
 refine st1 (o := 0) q2 (by simp) ?_
 have e2 : (#[Value.int .i64 (r : Int)] : Array Value).setIfInBounds 0 (.int .i64 (IntKind.i64.wrap ((r : Int) - 1))) = #[vi ((r : Int) - 1)] := by
  rw [w64_eq (by omega) (by omega)]
  rfl
 rw [e2]
 have o3 := o2.over gb nb (.cells #[vi ((r : Int) - 1)] 3)
 have q3 := set_eq F13 b (.cells #[vi ((r : Int) - 1)] 3)
 generalize F13.set b (.cells #[vi ((r : Int) - 1)] 3) = F14 at *
 obtain ⟨o4, l4⟩ := o3.absorb gb q3 nb
 refine ⟨r, by omega, _, r, q', out ++ [c], b, rfl, rfl, le_trans' lG (le_trans' lG2 l4), set_eq _ _ _, hr.le l4, hA.nd, fun x hx => ?_, ?_, hg.step hC.dm hc1 hc2 fun y => ?_, fun z hz => ?_⟩
 ·obtain ⟨_, _, _, _, _, h⟩ := (hA.mem x).1 hx
  exact h
 ·rw [u8l_append]
  exact o4
 ·rw [hA.mem]
  constructor
  ·rintro ⟨x, hx, h1, h2⟩
   exact ⟨x, hx, by simpa using h1, h2⟩
  ·rintro ⟨x, hx, h1, h2⟩
   exact ⟨x, hx, by simpa using h1, h2⟩
 ·rcases List.mem_append.1 hz with h | h
  ·exact hob z h
  ·rw [List.mem_singleton] at h
   omega
theorem common_L2 {G0 G F9 : PH} {p q ns os : Sl} {m1 m2 bm b10 b18 N r m : Nat} {mm : Pr → Option Nat} (hC : Cc G0 l1 l2 t1 t2 p q m1 m2 bm b10 mm) {now : List Pr} {out : List Nat} {R : Value → PH → Prop} (lG : G0.le G) (hb : G b18 = some (.cells #[vi (((r + 1 : Nat) : Int) - 1)] 3)) (hs : RdS G ns 2 (pflat now)) (hnd : now.Nodup) (hcm : ∀ x ∈ now, (two l1 l2 t1 t2).cm x)
  (hg : Gr (two l1 l2 t1 t2) N now out (r + 1)) (hN : N ≤ 262145) (hob : ∀ b ∈ out, b < 256) {least i : Int} (hI : cI2 (two l1 l2 t1 t2) G mm r now os out m least i F9) :
  b31L2 (fun y1_0 y1_1 y1_2 F' => ∃ m', m' < r + 1 ∧ cI1 (two l1 l2 t1 t2) G0 N m' y1_0 y1_1 y1_2 F') (fun y2_0 y2_1 F' => ∃ m', m' < m ∧ cI2 (two l1 l2 t1 t2) G mm r now os out m' y2_0 y2_1 F') p q ⟨m1, 0, none⟩ ⟨m2, 0, none⟩ b10 ns os ⟨b18, 0, none⟩ R least i F9 := by
 obtain ⟨w, rfl, hw, rfl, ho, hle⟩ := hI
 have hlen := hs.plen
 have hlt : ∀ x ∈ now, x.1 < 512 ∧ x.2 < 512 := fun x hx => AQ.lt hC.w1 hC.w2 (hcm x hx)
 have hnl := pr_bound hnd hlt
 unfold b31L2
 refine ⟨fun hlt => ?_, fun hge => ?_⟩
 ·have hw' : w < now.length := by omega
  have hx : now[w]? = some now[w] := List.getElem?_eq_getElem hw'
  generalize now[w] = x at hx
  have hxm := List.mem_of_getElem? hx
  obtain ⟨hx1, hx2⟩ := cm_lt (hcm x hxm)
  obtain ⟨a, ha, hr⟩ := rdp (hs.le ho.le) hx
  refine ⟨a, ha, by omega, by omega, parr x, rfl, by rw [Int.toNat_natCast]; exact hr, ?_⟩
  refine ho.var x fun b21 F10 ho q21 => ?_
  obtain ⟨cv, hlk⟩ := hC.look (le_trans' lG ho.le) x
  refine ⟨_, cv, parr x, rfl, row_whole q21, ?_⟩
  have tk : ∀ z, z ∈ now.take (w + 1) ↔ z ∈ now.take w ∨ z = x := fun z => by rw [List.take_add_one, hx]; simp
  have skip : mm x ≠ some r → ∃ m', m' < now.length - w ∧ cI2 (two l1 l2 t1 t2) G mm r now os out m' least (IntKind.i64.wrap ((w : Int) + 1)) F10 := fun hne => by
   refine ⟨now.length - (w + 1), by omega, w + 1, w64s (by omega), by omega, rfl, ho, ?_⟩
   rcases hle with ⟨e, h⟩ | ⟨c, h1, h2, ⟨y, hy, h3⟩, h4⟩
   ·refine .inl ⟨e, fun z hz => ?_⟩
    rcases (tk z).1 hz with hz | rfl
    ·exact h z hz
    ·exact hne
   ·refine .inr ⟨c, h1, h2, ⟨y, (tk y).2 (.inl hy), h3⟩, fun z hz hm => ?_⟩
    rcases (tk z).1 hz with hz | rfl
    ·exact h4 z hz hm
    ·exact absurd hm hne
  rcases hlk with ⟨e, hm, hlk⟩ | ⟨hm, hlk⟩
  ·refine ⟨(e : Int), true, hlk, fun _ => ?_, fun h => (by cases h)⟩
   refine ⟨(((r + 1 : Nat) : Int) - 1), le_cell ho.le (by rw [cell_eq hb]; rfl), ?_⟩
   unfold b31j6
   refine ⟨fun he => ?_, fun he => ?_⟩
   ·have her : e = r := by have := of_decide_eq_true he; omega
    subst her
    have hn1 : l1[x.1]? = some l1[x.1] := List.getElem?_eq_getElem hx1
    have hn2 : l2[x.2]? = some l2[x.2] := List.getElem?_eq_getElem hx2
    generalize l1[x.1] = y1 at hn1
    generalize l2[x.2] = y2 at hn2
    obtain ⟨a1, ha1, _, lo1, _⟩ := rdn3 (hC.hp.le (le_trans' lG ho.le)) hn1
    obtain ⟨a2, ha2, _, lo2, _⟩ := rdn3 (hC.hq.le (le_trans' lG ho.le)) hn2
    have np := hC.hp.nlen
    have nq := hC.hq.nlen
    refine ⟨(x.1 : Int), by rw [cell_eq q21]; rfl, a1, ha1, by omega, by omega, y1.lo, by rw [Int.toNat_natCast]; exact lo1, (x.2 : Int), by rw [cell_eq q21]; rfl, a2, ha2, by omega, by omega, y2.lo, by rw [Int.toNat_natCast]; exact lo2, ?_⟩
    unfold b31j5
    have accI : ∀ b : Nat, (two l1 l2 t1 t2).acc x b ↔ ((y1.lo ≤ (b : Int) ∧ (b : Int) ≤ y1.hi) ∧ y2.lo ≤ (b : Int) ∧ (b : Int) ≤ y2.hi) := fun b => by
     constructor
     ·rintro ⟨⟨z1, e1, p1⟩, ⟨z2, e2, p2⟩⟩
      rw [hn1] at e1
      rw [hn2] at e2
      cases e1
      cases e2
      exact ⟨p1, p2⟩
     ·rintro ⟨p1, p2⟩
      exact ⟨⟨y1, hn1, p1⟩, ⟨y2, hn2, p2⟩⟩
    obtain ⟨b0, hb0⟩ := hcm x hxm
    have hb0 := (accI b0).1 hb0
    have g1 := good_lo hC.w1.good hn1
    have g2 := good_lo hC.w2.good hn2
    obtain ⟨cx, hcx⟩ := Int.eq_ofNat_of_zero_le (show 0 ≤ max y1.lo y2.lo by omega)
    have hcx' : (two l1 l2 t1 t2).acc x cx := (accI cx).2 (by omega)
    have hmin : ∀ b, (two l1 l2 t1 t2).acc x b → cx ≤ b := fun b h => by have := (accI b).1 h; omega
    rw [hcx]
    refine ⟨now.length - (w + 1), by omega, w + 1, w64s (by omega), by omega, rfl, ho, ?_⟩
    rcases hle with ⟨e, h⟩ | ⟨c, h1, h2, ⟨y, hy, h3⟩, h4⟩
    ·refine .inr ⟨cx, by omega, by omega, ⟨x, (tk x).2 (.inr rfl), hm, hcx'⟩, fun z hz hmz => ?_⟩
     rcases (tk z).1 hz with hz | rfl
     ·exact absurd hmz (h z hz)
     ·exact hmin
    ·by_cases hcc : c ≤ cx
     ·refine .inr ⟨c, h1, by omega, ⟨y, (tk y).2 (.inl hy), h3⟩, fun z hz hmz => ?_⟩
      rcases (tk z).1 hz with hz | rfl
      ·exact h4 z hz hmz
      ·exact fun b hb => by have := hmin b hb; omega
     ·refine .inr ⟨cx, by omega, by omega, ⟨x, (tk x).2 (.inr rfl), hm, hcx'⟩, fun z hz hmz => ?_⟩
      rcases (tk z).1 hz with hz | rfl
      ·exact fun b hb => by have := h4 z hz hmz b hb; omega
      ·exact hmin
   ·unfold b31j5
    refine skip fun h => ?_
    rw [hm] at h
    cases h
    have := of_decide_eq_false he
    omega
  ·refine ⟨0, false, hlk, fun h => (by cases h), fun _ => ?_⟩
   unfold b31j6
   refine ⟨fun h => (by cases h), fun _ => ?_⟩
   unfold b31j5
   exact skip fun h => by rw [hm] at h; cases h
 ·obtain rfl : w = now.length := by omega
  rw [List.take_length] at hle
  rcases hle with ⟨_, h⟩ | ⟨c, h1, rfl, h3, h4⟩
  ·obtain ⟨x, hx, hm⟩ := hg.pick hC.dm
   exact absurd hm (h x hx)
  ·exact common_j4 hC lG hb hs hnd hcm hg hN hob ho h1 h3 h4
theorem common_L1 {G0 F5 : PH} {p q ns os : Sl} {m1 m2 bm b10 N m : Nat} {mm : Pr → Option Nat} (hC : Cc G0 l1 l2 t1 t2 p q m1 m2 bm b10 mm) {R : Value → PH → Prop} (hN : N ≤ 262145) {dp : Option Addr} (hI : cI1 (two l1 l2 t1 t2) G0 N m ns os dp F5)
  (hR : ∀ F' w, LeastC (two l1 l2 t1 t2).C w → ((∀ b ∈ w, b < 256) ∧ w.length ≤ 262145) → G0.le F' → R (.tuple #[.string (mkS w), vi 0]) F') :
  b31L1 (fun y1_0 y1_1 y1_2 F' => ∃ m', m' < m ∧ cI1 (two l1 l2 t1 t2) G0 N m' y1_0 y1_1 y1_2 F') p q ⟨m1, 0, none⟩ ⟨m2, 0, none⟩ b10 R ns os dp F5 := by
 obtain ⟨G, r, now, out, b18, rfl, rfl, lG, hb, hs, hnd, hcm, ho, hg, hob⟩ := hI
 unfold b31L1
 refine ⟨_, rfl, (m : Int) - 1, le_cell ho.le (by rw [cell_eq hb]; rfl), fun h0 => ?_, fun h0 => ?_⟩
 ·obtain ⟨r, rfl⟩ : ∃ r, m = r + 1 := ⟨m - 1, by omega⟩
  exact ⟨cI2 (two l1 l2 t1 t2) G mm r now os out, now.length, ⟨0, rfl, by omega, by omega, ho, .inl ⟨rfl, fun x hx => by simp at hx⟩⟩, fun m2' least i F9 hI => common_L2 hC lG hb hs hnd hcm hg hN hob hI⟩
 ·obtain rfl : m = 0 := by omega
  unfold b31j2
  exact ⟨mkS out, bts_rdo ho.own.rd, hR _ out hg.least ⟨hob, by have := hg.len; omega⟩ (le_trans' lG ho.le)⟩
def cI3 (G : PH) (mm : Pr → Option Nat) (q0 : List Pr) : Nat → Int → Int → PH → Prop := fun m best i F' =>
 ∃ w : Nat, i = w ∧ w ≤ q0.length ∧ m = q0.length - w ∧ G.le F' ∧ ((best = -1 ∧ ∀ x ∈ q0.take w, mm x = none) ∨ ∃ d : Nat, best = d ∧ (∃ x ∈ q0.take w, mm x = some d) ∧ ∀ x ∈ q0.take w, ∀ e, mm x = some e → d ≤ e)
theorem common_j1 {G F5 : PH} {p q s0 : Sl} {m1 m2 bm b10 : Nat} {mm : Pr → Option Nat} (hC : Cc G l1 l2 t1 t2 p q m1 m2 bm b10 mm) {R : Value → PH → Prop} {q0 : List Pr} (hs : RdS G s0 2 (pflat q0)) (hnd : q0.Nodup) (hq0 : ∀ x, x ∈ q0 ↔ (two l1 l2 t1 t2).ini x ∧ (two l1 l2 t1 t2).cm x) {best : Int} (lG : G.le F5)
  (hb : (best = -1 ∧ ∀ x ∈ q0, mm x = none) ∨ ∃ d : Nat, best = d ∧ (∃ x ∈ q0, mm x = some d) ∧ ∀ x ∈ q0, ∀ e, mm x = some e → d ≤ e)
  (hR : ∀ F' w, LeastC (two l1 l2 t1 t2).C w → ((∀ b ∈ w, b < 256) ∧ w.length ≤ 262145) → G.le F' → R (.tuple #[.string (mkS w), vi 0]) F')
  (hR0 : ∀ F', (∀ w, ¬ (two l1 l2 t1 t2).C w) → G.le F' → R (.tuple #[.string (ByteArray.mk #[]), vi 3]) F') :
  b31j1 p q ⟨m1, 0, none⟩ ⟨m2, 0, none⟩ b10 s0 best R F5 := by
 unfold b31j1
 refine ⟨fun h0 => ?_, fun h0 => ?_⟩
 ·rcases hb with ⟨_, h⟩ | ⟨d, rfl, _⟩
  ·exact hR0 _ (no_word hC.dm hq0 h) lG
  ·omega
 ·rcases hb with ⟨rfl, _⟩ | ⟨d, rfl, h1, h2⟩
  ·exact absurd (show (-1 : Int) < 0 by decide) h0
  ·have hg := Gr.start hC.dm hq0 h1 h2
   have hd : d ≤ 262144 := h1.elim fun x h => hC.bd x d h.2
   intro b78 hb78
   refine atI ?_
   have le1 := le_set_fresh (.cells #[] 5) hb78
   have q1 := set_eq F5 b78 (.cells #[] 5)
   have ho : Ow G (F5.set b78 (.cells #[] 5)) ⟨some ⟨b78, 0, none⟩, 0, 0⟩ (u8l []) :=
    ⟨le_trans' lG le1, .inr ⟨b78, #[], rfl, q1, rfl, Nat.le_refl _, rfl, rfl⟩, fun a ha => by cases ha; exact le_none lG hb78⟩
   generalize F5.set b78 (.cells #[] 5) = F6 at *
   intro b hbf
   refine atI ?_
   have o1 := ho.fresh hbf (.cells #[.int .i64 0] 3)
   have q1 := set_eq F6 b (.cells #[.int .i64 0] 3)
   have gb := le_none ho.le hbf
   have nb := ho.ne hbf
   generalize F6.set b (.cells #[.int .i64 0] 3) = F12 at *
   refine st1 (o := 0) q1 (by simp) ?_
   have e1 : (#[Value.int .i64 0] : Array Value).setIfInBounds 0 (.int .i64 (d : Int)) = #[vi (((d + 1 : Nat) : Int) - 1)] := by
    rw [show ((d + 1 : Nat) : Int) - 1 = d by omega]
    rfl
   rw [e1]
   have o2 := o1.over gb nb (.cells #[vi (((d + 1 : Nat) : Int) - 1)] 3)
   have q2 := set_eq F12 b (.cells #[vi (((d + 1 : Nat) : Int) - 1)] 3)
   generalize F12.set b (.cells #[vi (((d + 1 : Nat) : Int) - 1)] 3) = F13 at *
   obtain ⟨o4, l4⟩ := o2.absorb gb q2 nb
   refine ⟨cI1 (two l1 l2 t1 t2) G (d + 1), d + 1, ⟨_, d + 1, q0, [], b, rfl, rfl, l4, set_eq _ _ _, hs.le l4, hnd, fun x hx => ((hq0 x).1 hx).2, o4, hg, fun b hb => (by cases hb)⟩, fun m ns os dp F14 hI => ?_⟩
   exact common_L1 hC (by omega) hI hR
theorem common_L3 {G F5 : PH} {p q s0 : Sl} {m1 m2 bm b10 m : Nat} {mm : Pr → Option Nat} (hC : Cc G l1 l2 t1 t2 p q m1 m2 bm b10 mm) {R : Value → PH → Prop} {q0 : List Pr} (hs : RdS G s0 2 (pflat q0)) (hnl : q0.length ≤ 262144) (hnd : q0.Nodup) (hq0 : ∀ x, x ∈ q0 ↔ (two l1 l2 t1 t2).ini x ∧ (two l1 l2 t1 t2).cm x) {best i : Int}
  (hI : cI3 G mm q0 m best i F5) (hR : ∀ F' w, LeastC (two l1 l2 t1 t2).C w → ((∀ b ∈ w, b < 256) ∧ w.length ≤ 262145) → G.le F' → R (.tuple #[.string (mkS w), vi 0]) F')
  (hR0 : ∀ F', (∀ w, ¬ (two l1 l2 t1 t2).C w) → G.le F' → R (.tuple #[.string (ByteArray.mk #[]), vi 3]) F') :
  b31L3 (fun y3_0 y3_1 F' => ∃ m', m' < m ∧ cI3 G mm q0 m' y3_0 y3_1 F') p q ⟨m1, 0, none⟩ ⟨m2, 0, none⟩ b10 s0 R best i F5 := by
 obtain ⟨w, rfl, hw, rfl, lG, hb⟩ := hI
 have hlen := hs.plen
 unfold b31L3
 refine ⟨fun hlt => ?_, fun hge => ?_⟩
 ·have hw' : w < q0.length := by omega
  have hx : q0[w]? = some q0[w] := List.getElem?_eq_getElem hw'
  generalize q0[w] = x at hx
  obtain ⟨a, ha, hr⟩ := rdp (hs.le lG) hx
  refine ⟨a, ha, by omega, by omega, parr x, rfl, by rw [Int.toNat_natCast]; exact hr, ?_⟩
  refine (⟨lG, .inl ⟨rfl, rfl⟩, fun a ha => (by cases ha)⟩ : Ow G F5 Sl.nil []).var x fun b14 F10 ho q14 => ?_
  obtain ⟨cv, hlk⟩ := hC.look ho.le x
  refine ⟨_, cv, parr x, rfl, row_whole q14, ?_⟩
  have tk : ∀ z, z ∈ q0.take (w + 1) ↔ z ∈ q0.take w ∨ z = x := fun z => by rw [List.take_add_one, hx]; simp
  have done : ∀ {best' : Int}, ((best' = -1 ∧ ∀ x ∈ q0.take (w + 1), mm x = none) ∨ ∃ d : Nat, best' = d ∧ (∃ x ∈ q0.take (w + 1), mm x = some d) ∧ ∀ x ∈ q0.take (w + 1), ∀ e, mm x = some e → d ≤ e) →
    ∃ m', m' < q0.length - w ∧ cI3 G mm q0 m' best' (IntKind.i64.wrap ((w : Int) + 1)) F10 := fun h => ⟨q0.length - (w + 1), by omega, w + 1, w64s (by omega), by omega, rfl, ho.le, h⟩
  rcases hlk with ⟨e, hm, hlk⟩ | ⟨hm, hlk⟩
  ·refine ⟨(e : Int), true, hlk, fun _ => ⟨fun h1 => ?_, fun h1 => ⟨fun h2 => ?_, fun h2 => ?_⟩⟩, fun h => (by cases h)⟩
   ·unfold b31j7
    refine done (.inr ⟨e, rfl, ⟨x, (tk x).2 (.inr rfl), hm⟩, fun z hz f hf => ?_⟩)
    rcases hb with ⟨_, h⟩ | ⟨d, rfl, _⟩
    ·rcases (tk z).1 hz with hz | rfl
     ·rw [h z hz] at hf
      cases hf
     ·rw [hm] at hf
      cases hf
      exact Nat.le_refl _
    ·omega
   ·unfold b31j7
    refine done (.inr ⟨e, rfl, ⟨x, (tk x).2 (.inr rfl), hm⟩, fun z hz f hf => ?_⟩)
    rcases hb with ⟨rfl, _⟩ | ⟨d, rfl, _, h⟩
    ·exact absurd (show (-1 : Int) < 0 by decide) h1
    ·rcases (tk z).1 hz with hz | rfl
     ·have := h z hz f hf
      omega
     ·rw [hm] at hf
      cases hf
      exact Nat.le_refl _
   ·unfold b31j7
    rcases hb with ⟨rfl, _⟩ | ⟨d, rfl, ⟨y, hy, h3⟩, h⟩
    ·exact absurd (show (-1 : Int) < 0 by decide) h1
    ·refine done (.inr ⟨d, rfl, ⟨y, (tk y).2 (.inl hy), h3⟩, fun z hz f hf => ?_⟩)
     rcases (tk z).1 hz with hz | rfl
     ·exact h z hz f hf
     ·rw [hm] at hf
      cases hf
      omega
  ·refine ⟨0, false, hlk, fun h => (by cases h), fun _ => ?_⟩
   unfold b31j7
   rcases hb with ⟨rfl, h⟩ | ⟨d, rfl, ⟨y, hy, h3⟩, h⟩
   ·refine done (.inl ⟨rfl, fun z hz => ?_⟩)
    rcases (tk z).1 hz with hz | rfl
    ·exact h z hz
    ·exact hm
   ·refine done (.inr ⟨d, rfl, ⟨y, (tk y).2 (.inl hy), h3⟩, fun z hz f hf => ?_⟩)
    rcases (tk z).1 hz with hz | rfl
    ·exact h z hz f hf
    ·rw [hm] at hf
     cases hf
 ·obtain rfl : w = q0.length := by omega
  rw [List.take_length] at hb
  exact common_j1 hC hs hnd hq0 lG hb hR hR0
end
def ComW (l1 l2 : List Nd) (w : List Nat) : Prop := w ≠ [] ∧ LgL l1 w ∧ LgL l2 w
def ComR (l1 l2 : List Nd) (r : Value) : Prop :=
 (chkP l1 ≠ 0 ∧ r = .tuple #[.string (ByteArray.mk #[]), vi (chkP l1)]) ∨ (chkP l1 = 0 ∧ chkP l2 ≠ 0 ∧ r = .tuple #[.string (ByteArray.mk #[]), vi (chkP l2)]) ∨
  (chkP l1 = 0 ∧ chkP l2 = 0 ∧ (((∀ w, ¬ ComW l1 l2 w) ∧ r = .tuple #[.string (ByteArray.mk #[]), vi 3]) ∨ ∃ w, LeastC (ComW l1 l2) w ∧ ((∀ b ∈ w, b < 256) ∧ w.length ≤ 262145) ∧ r = .tuple #[.string (mkS w), vi 0]))
theorem common_spec {F : PH} (hT : Tab F) {l1 l2 : List Nd} {p q : Sl} (hp : RdS F p 5 (nflat l1)) (hq : RdS F q 5 (nflat l2)) : Spec prog 31 #[p.v, q.v] F fun r F' => ComR l1 l2 r ∧ F.le F' := by
 refine c31 ?_
 unfold b31
 refine (check_spec hp).mono ?_
 rintro _ F1 ⟨rfl, le1⟩
 refine ⟨_, rfl, fun h => ⟨.inl ⟨h, rfl⟩, le1⟩, fun h => ?_⟩
 have h1 : chkP l1 = 0 := by omega
 refine (check_spec (hq.le le1)).mono ?_
 rintro _ F2 ⟨rfl, le2⟩
 have le02 := le_trans' le1 le2
 refine ⟨_, rfl, fun h => ⟨.inr (.inl ⟨h1, h, rfl⟩), le02⟩, fun h => ?_⟩
 have h2 : chkP l2 = 0 := by omega
 obtain ⟨g1, n1⟩ := chkP_zero h1
 obtain ⟨g2, n2⟩ := chkP_zero h2
 obtain ⟨ns1, t1⟩ := treeL_spec g1
 obtain ⟨ns2, t2⟩ := treeL_spec g2
 have w1 : Mw l1 (treeL l1) := ⟨g1, n1, fun j hj => (tree_mem t1).1 j ((tree_mem t1).2 j hj)⟩
 have w2 : Mw l2 (treeL l2) := ⟨g2, n2, fun j hj => (tree_mem t2).1 j ((tree_mem t2).2 j hj)⟩
 have hCw : ∀ w, (two l1 l2 (treeL l1) (treeL l2)).C w ↔ ComW l1 l2 w := two_C (tree_fits g1 t1) (tree_fits g2 t2)
 have hLC : ∀ {w}, LeastC (two l1 l2 (treeL l1) (treeL l2)).C w → LeastC (ComW l1 l2) w := fun h => ⟨(hCw _).1 h.is, fun v hv => h.short v ((hCw v).2 hv), fun v hv => h.lex v ((hCw v).2 hv)⟩
 refine (compile_spec (hT.le le02) g1 n1 (hp.le le02)).mono ?_
 rintro _ F3 ⟨⟨m1, rfl, M1⟩, le3⟩
 replace le3 := le_trans' le02 le3
 refine ⟨_, rfl, ?_⟩
 refine (compile_spec (hT.le le3) g2 n2 (hq.le le3)).mono ?_
 rintro _ F4 ⟨⟨m2, rfl, M2⟩, le4⟩
 replace M1 := M1.le le4
 replace le4 := le_trans' le3 le4
 refine ⟨_, rfl, ?_⟩
 refine (dist_spec (hT.le le4) M1 M2 w1 w2).mono ?_
 rintro _ F5 ⟨⟨bm, mm, o, rfl, hmo, hmm, hdm, hbd⟩, le5⟩
 replace M1 := M1.le le5
 replace M2 := M2.le le5
 replace le5 := le_trans' le4 le5
 refine ⟨_, rfl, ?_⟩
 intro b10 hb
 refine atI ?_
 have le6 := le_set_fresh (.cells #[.map none] 87) hb
 have q6 := set_eq F5 b10 (.cells #[.map none] 87)
 generalize F5.set b10 (.cells #[.map none] 87) = F6 at *
 refine st1 (o := 0) q6 (by simp) ?_
 have e1 : (#[Value.map none] : Array Value).setIfInBounds 0 (.map (some bm)) = #[.map (some bm)] := rfl
 rw [e1]
 have le7 := le_set_new (o := .cells #[.map (some bm)] 87) le6 hb
 have q7 := set_eq F6 b10 (.cells #[.map (some bm)] 87)
 clear q6 le6
 generalize F6.set b10 (.cells #[.map (some bm)] 87) = F7 at *
 have le07 := le_trans' le5 le7
 have hC : Cc F7 l1 l2 (treeL l1) (treeL l2) p q m1 m2 bm b10 mm := ⟨hT.le le07, M1.le le7, M2.le le7, w1, w2, hp.le le07, hq.le le07, ⟨o, le7 _ _ hmo, hmm⟩, q7, hdm, hbd⟩
 obtain ⟨s1, bf1, qm1, _, _⟩ := hC.M1.ex
 obtain ⟨s2, bf2, qm2, _, _⟩ := hC.M2.ex
 refine ⟨_, rfl, plA (fB (treeL l1)), plA_size _, (mc_row qm1).1, _, rfl, plA (fB (treeL l2)), plA_size _, (mc_row qm2).1, ?_⟩
 refine (meeting_spec hC.tab hC.M1 hC.M2 (P := fB (treeL l1)) (Q := fB (treeL l2)) (fun i hi => w1.lt _ ((treeL l1).first_lab (fB_iff.1 hi))) (fun i hi => w2.lt _ ((treeL l2).first_lab (fB_iff.1 hi)))).mono ?_
 rintro _ F8 ⟨⟨s0, rfl, ho, _⟩, le8⟩
 refine ⟨_, rfl, ?_⟩
 have hq0 : ∀ x, x ∈ meetL l1 l2 (fB (treeL l1)) (fB (treeL l2)) 512 ↔ (two l1 l2 (treeL l1) (treeL l2)).ini x ∧ (two l1 l2 (treeL l1) (treeL l2)).cm x := fun x => by
  rw [meet_two w1 w2, fB_iff, fB_iff]
  exact Iff.rfl
 have hnd := meetL_nodup l1 l2 (fB (treeL l1)) (fB (treeL l2)) 512
 have hnl : (meetL l1 l2 (fB (treeL l1)) (fB (treeL l2)) 512).length ≤ 262144 := meetL_len l1 l2 _ _ 512
 generalize meetL l1 l2 (fB (treeL l1)) (fB (treeL l2)) 512 = q0 at *
 have le08 := le_trans' le07 le8
 refine ⟨cI3 F8 mm q0, q0.length, ⟨0, rfl, by omega, by omega, le_refl' _, .inl ⟨rfl, fun x hx => by simp at hx⟩⟩, fun m best i F9 hI => ?_⟩
 exact common_L3 (hC.le le8) ho.rd hnl hnd hq0 hI (fun F' w hw hb lF => ⟨.inr (.inr ⟨h1, h2, .inr ⟨w, hLC hw, hb, rfl⟩⟩), le_trans' le08 lF⟩)
  (fun F' hw lF => ⟨.inr (.inr ⟨h1, h2, .inl ⟨fun w h => hw w ((hCw w).2 h), rfl⟩⟩), le_trans' le08 lF⟩)
theorem ComR.pair {l1 l2 : List Nd} {r : Value} (h : ComR l1 l2 r) : ∃ (s : ByteArray) (e : Int), r = .tuple #[.string s, vi e] := by
 rcases h with ⟨_, rfl⟩ | ⟨_, _, rfl⟩ | ⟨_, _, ⟨_, rfl⟩ | ⟨w, _, _, rfl⟩⟩ <;> exact ⟨_, _, rfl⟩
theorem shortest_spec {F : PH} (hT : Tab F) {l : List Nd} {p : Sl} (hp : RdS F p 5 (nflat l)) : Spec prog 29 #[p.v] F fun r F' => ComR l l r ∧ F.le F' := by
 refine c29 ?_
 unfold b29
 refine (common_spec hT hp hp).mono ?_
 rintro r F' ⟨h, l⟩
 obtain ⟨s, e, rfl⟩ := h.pair
 exact ⟨s, e, rfl, h, l⟩
end Go.Proofs.YtnjcgpihfmklfaaDoor
