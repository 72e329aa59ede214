/-
  A program logic over partial heaps. Part 8: equality of aggregates, and maps: what lookups and updates do, for keys that are compared like numbers.
-/
import Derived.Test.YtnjcgpihfmklfaaDoorPhf
namespace Go.Proofs.YtnjcgpihfmklfaaDoor
open Go
section
variable {P : Program} {F : PH} {E : En} {o : Oper} {x y : Operand} {t t' : TypeId}
theorem eqGuard_agg {op : BinOp} {c d : Array Value} (h : P.eqGuardType P.depth t = false) : rdo P (eqGuard op t x y (.agg c) (.agg d)) F () := by
 cases op <;> simp [eqGuard, program, rdo_bind, rdo, h]
theorem r_eqlAg {c d : Array Value} {r : Bool} (ho : o.op = .binOp .eql t x y t') (hx : ev E x = .agg c) (hy : ev E y = .agg d) (hg : P.eqGuardType P.depth t = false) (he : rdo P (Op.equal t (.agg c) (.agg d)) F r) :
  RD P E F o (.bool r) := r_eqlOf ho hx hy (eqGuard_agg hg) he rfl
end
section
variable {P : Program} {F : PH} {E : En} {K : En → PH → Prop} {ty : TypeId} {pos : String} {aft : Array Edge} {gd : Option (Nat × Bool)}
end
section
variable {K : Type} [DecidableEq K]
structure KeyTy (P : Program) (kt : TypeId) (enc : K → Value) : Prop where
 eq : ∀ F a b, rdo P (Op.equal kt (enc a) (enc b)) F (decide (a = b))
 chk : ∀ F e a, rdo P (Instr.checkKey e 10000 kt (enc a)) F ()
 same : ∀ a, Instr.sameBits 10000 (enc a) (enc a) = true
 kind : ∃ d, P.underlying kt = some d ∧ ((∀ a b, Instr.sameNow d (enc a) (enc b) = some (decide (a = b))) ∨ ∀ a b, Instr.sameNow d (enc a) (enc b) = none)
structure MapTy (P : Program) (mt : TypeId) (enc : K → Value) (z : Value) : Prop where
 ex : ∃ kt e, P.underlying mt = some (.map kt e) ∧ tzero P e = some z ∧ KeyTy P kt enc
def lk (k : K) : List (K × Value) → Option Value
 | [] => none
 | p :: r => if k = p.1 then some p.2 else lk k r
def fnd (k : K) : List (K × Value) → Nat → Option (Nat × Value)
 | [], _ => none
 | p :: r, i => if k = p.1 then some (i, p.2) else fnd k r (i + 1)
def upL (k : K) (v : Value) : List (K × Value) → List (K × Value)
 | [] => [(k, v)]
 | p :: r => if k = p.1 then (k, v) :: r else p :: upL k v r
theorem lk_upL (k k' : K) (v : Value) : ∀ (L : List (K × Value)), lk k' (upL k v L) = if k' = k then some v else lk k' L
 | [] => rfl
 | p :: r => by
  unfold upL
  split
  ·rename_i h
   simp only [lk]
   split
   ·rfl
   ·rename_i hn
    rw [if_neg (by rw [← h]; exact hn)]
  ·rename_i h
   simp only [lk, lk_upL k k' v r]
   split
   ·rename_i h2
    rw [if_neg (by rintro rfl; exact h h2)]
   ·rfl
theorem fnd_none (k : K) (v : Value) : ∀ (L : List (K × Value)) (i : Nat), fnd k L i = none → lk k L = none ∧ upL k v L = L ++ [(k, v)]
 | [], _, _ => ⟨rfl, rfl⟩
 | p :: r, i, h => by
  unfold fnd at h
  split at h
  ·cases h
  ·rename_i hn
   obtain ⟨h1, h2⟩ := fnd_none k v r _ h
   exact ⟨by unfold lk; rw [if_neg hn, h1], by unfold upL; rw [if_neg hn, h2]; rfl⟩
theorem fnd_some (k : K) (v : Value) : ∀ (L : List (K × Value)) (i j : Nat) (w : Value), fnd k L i = some (j, w) → ∃ d, j = i + d ∧ d < L.length ∧ L[d]? = some (k, w) ∧ lk k L = some w ∧ upL k v L = L.set d (k, v)
 | [], _, _, _, h => by cases h
 | p :: r, i, j, w, h => by
  unfold fnd at h
  split at h
  ·rename_i hp
   cases h
   refine ⟨0, rfl, by simp, ?_, by unfold lk; rw [if_pos hp], by unfold upL; rw [if_pos hp]; rfl⟩
   subst hp
   rfl
  ·rename_i hn
   obtain ⟨d, h1, h2, h3, h4, h5⟩ := fnd_some k v r _ _ _ h
   exact ⟨d + 1, by omega, by simp only [List.length_cons]; omega, by simpa using h3, by unfold lk; rw [if_neg hn, h4], by unfold upL; rw [if_neg hn, h5]; rfl⟩
def MapO (enc : K → Value) (m : K → Option Value) (o : Obj) : Prop :=
 ∃ (es : Array MapEntry) (c : Nat) (L : List (K × Value)), o = .map es c ∧ es.toList.map (fun e => (e.key, e.val)) = L.map (fun p => (enc p.1, p.2)) ∧ ∀ k, m k = lk k L
theorem MapO.empty (enc : K → Value) : MapO enc (fun _ => none) (.map #[] 0) := ⟨#[], 0, [], rfl, rfl, fun _ => rfl⟩
theorem MapO.not_cells {enc : K → Value} {m : K → Option Value} {o : Obj} (h : MapO enc m o) : ∀ c e fr, o ≠ .cells c e fr := by
 obtain ⟨es, c, L, rfl, _⟩ := h
 intro c e fr h
 cases h
variable {P : Program} {F : PH} {kt mt : TypeId} {enc : K → Value} {z : Value}
theorem rdo_findAsking (hk : KeyTy P kt enc) (k : K) : ∀ (es : List MapEntry) (L : List (K × Value)) (i : Nat), es.map (fun e => (e.key, e.val)) = L.map (fun p => (enc p.1, p.2)) →
  rdo P (Instr.findAsking kt (enc k) es i) F (fnd k L i)
 | [], [], _, _ => rfl
 | [], _ :: _, _, h => by cases h
 | _ :: _, [], _, h => by cases h
 | e :: es, p :: L, i, h => by
  simp only [List.map_cons, List.cons.injEq, Prod.mk.injEq] at h
  obtain ⟨⟨h1, h2⟩, h3⟩ := h
  simp only [Instr.findAsking, rdo_bind]
  refine ⟨_, by rw [h1]; exact hk.eq F k p.1, ?_⟩
  unfold fnd
  by_cases hp : k = p.1
  ·simp [hp, h2]
  ·simpa [hp] using rdo_findAsking hk k es L (i + 1) h3
theorem findNow_eq {d : TypeDesc} (hs : ∀ a b, Instr.sameNow d (enc a) (enc b) = some (decide (a = b))) (k : K) : ∀ (es : List MapEntry) (L : List (K × Value)) (i : Nat), es.map (fun e => (e.key, e.val)) = L.map (fun p => (enc p.1, p.2)) →
  Instr.findNow d (enc k) es i = some (fnd k L i)
 | [], [], _, _ => rfl
 | [], _ :: _, _, h => by cases h
 | _ :: _, [], _, h => by cases h
 | e :: es, p :: L, i, h => by
  simp only [List.map_cons, List.cons.injEq, Prod.mk.injEq] at h
  obtain ⟨⟨h1, h2⟩, h3⟩ := h
  simp only [Instr.findNow, h1, hs]
  unfold fnd
  by_cases hp : k = p.1
  ·simp [hp, h2]
  ·simpa [hp] using findNow_eq hs k es L (i + 1) h3
theorem rdo_findKey (hk : KeyTy P kt enc) (k : K) (es : List MapEntry) (L : List (K × Value)) (h : es.map (fun e => (e.key, e.val)) = L.map (fun p => (enc p.1, p.2))) :
  rdo P (Instr.findKey kt (enc k) es) F (fnd k L 0) := by
 obtain ⟨d, hd, hs⟩ := hk.kind
 unfold Instr.findKey
 simp only [rdo_bind]
 refine ⟨d, (rdo_underlying hd _).2 rfl, ?_⟩
 rcases hs with hs | hs
 ·rw [findNow_eq hs k es L 0 h]
  rfl
 ·cases es with
  | nil =>
   cases L with
   | nil => rfl
   | cons _ _ => cases h
  | cons e es =>
   cases L with
   | nil => cases h
   | cons p L =>
    have h1 : e.key = enc p.1 := by simp only [List.map_cons, List.cons.injEq, Prod.mk.injEq] at h; exact h.1.1
    have : Instr.findNow d (enc k) (e :: es) 0 = none := by simp only [Instr.findNow, h1, hs]
    rw [this]
    exact rdo_findAsking hk k _ _ 0 h
theorem rdo_lookup (hm : MapTy P mt enc z) {r : Nat} {o : Obj} {m : K → Option Value} (hr : F r = some o) (ho : MapO enc m o) (k : K) (ok : Bool) :
  rdo P (Instr.lookup mt (.map (some r)) (enc k) ok) F (if ok then .tuple #[(m k).getD z, .bool (m k).isSome] else (m k).getD z) := by
 obtain ⟨kt, e, h1, h2, hk⟩ := hm.ex
 have hnc := ho.not_cells
 obtain ⟨es, c, L, rfl, h3, h4⟩ := ho
 have hf := fun w => fnd_some k w L 0
 have hn := fnd_none k z L 0
 unfold Instr.lookup
 simp only [rdo_bind]
 refine ⟨_, (rdo_underlying h1 _).2 rfl, ?_⟩
 simp only [rdo_bind]
 refine ⟨_, ⟨_, hr, hnc, rfl⟩, ?_⟩
 simp only [rdo_bind]
 refine ⟨es, rfl, (), hk.chk F _ k, ?_⟩
 cases hfd : fnd k L 0 with
 | none =>
  refine ⟨_, rdo_findKey hk k _ _ h3, ?_⟩
  rw [hfd]
  simp only [rdo_bind]
  refine ⟨z, (rdo_zeroValue h2 _).2 rfl, _, rfl, ?_⟩
  rw [h4, (hn hfd).1]
  rfl
 | some q =>
  obtain ⟨j, v⟩ := q
  obtain ⟨d, _, _, _, h5, _⟩ := hf z j v hfd
  refine ⟨_, rdo_findKey hk k _ _ h3, ?_⟩
  rw [hfd]
  simp only [rdo_bind]
  refine ⟨_, rfl, ?_⟩
  rw [h4, h5]
  rfl
theorem runs_mapUpdate (hm : MapTy P mt enc z) {r : Nat} {o : Obj} {m : K → Option Value} (hr : F r = some o) (ho : MapO enc m o) (k : K) (v : Value) {Q : Unit → PH → Prop}
  (h : ∀ o', MapO enc (fun k' => if k' = k then some v else m k') o' → Q () (F.set r o')) : runs P (Instr.mapUpdate mt (.map (some r)) (enc k) v) F Q := by
 obtain ⟨kt, e, h1, h2, hk⟩ := hm.ex
 have hnc := ho.not_cells
 obtain ⟨es, c, L, rfl, h3, h4⟩ := ho
 have hf := fnd_some k v L 0
 have hn := fnd_none k v L 0
 unfold Instr.mapUpdate
 simp only [runs_bind', runs_underlying h1]
 refine ⟨_, hr, hnc, ?_⟩
 rw [show (Sem.pure (Obj.map es c) : Sem Obj) = pure (Obj.map es c) from rfl]
 simp only [runs_pure, runs_bind']
 refine rdo_runs _ _ _ _ (hk.chk F _ k) ?_
 refine rdo_runs _ _ _ _ (rdo_findKey hk k _ _ h3) ?_
 have hmm : ∀ k', (if k' = k then some v else m k') = lk k' (upL k v L) := fun k' => by rw [lk_upL, h4]
 cases hfd : fnd k L 0 with
 | none =>
  refine ⟨_, hr, hnc, h _ ⟨_, _, upL k v L, rfl, ?_, hmm⟩⟩
  rw [(hn hfd).2]
  simp [h3]
 | some q =>
  obtain ⟨j, w⟩ := q
  obtain ⟨d, hj, hd, h5, h6, h7⟩ := hf j w hfd
  obtain rfl : j = d := by omega
  have hlen : es.size = L.length := by simpa using congrArg List.length h3
  have hkey : (es[j]?.map (·.key)).getD (enc k) = enc k := by
   have := congrArg (fun l => l[j]?) h3
   simp only [List.getElem?_map, h5, Option.map_some] at this
   have hj2 : j < es.size := by omega
   simp [hj2] at this ⊢
   exact this.1
  simp only [runs_bind', hkey, Instr.keyThatStays, hk.same, if_true, runs_pure]
  refine ⟨_, hr, hnc, h _ ⟨_, _, upL k v L, rfl, ?_, hmm⟩⟩
  rw [h7]
  apply List.ext_getElem?
  intro i
  have h3i := congrArg (fun l => l[i]?) h3
  simp only [List.getElem?_map] at h3i
  simp only [Array.toList_modify, List.getElem?_map, List.getElem?_modify, List.getElem?_set]
  by_cases hi : j = i
  ·subst hi
   have hj2 : j < es.toList.length := by simpa [hlen] using hd
   rw [List.getElem?_eq_getElem hj2]
   simp [hd]
  ·simp only [hi, if_false]
   simpa using h3i
end
end Go.Proofs.YtnjcgpihfmklfaaDoor
