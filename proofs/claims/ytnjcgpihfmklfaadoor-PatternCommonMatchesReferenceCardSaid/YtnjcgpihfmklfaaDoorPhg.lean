/-
  A program logic over partial heaps. Part 7: what parts of a heap hold; slices that read as lists; make, append, copy.
-/
import Derived.Test.YtnjcgpihfmklfaaDoorPhf
import Derived.Laws.Append
namespace Go.Proofs.YtnjcgpihfmklfaaDoor
open Go
theorem le_refl' (F : PH) : F.le F := fun _ _ h => h
theorem le_trans' {F G H : PH} (h : F.le G) (k : G.le H) : F.le H := fun b o hb => k b o (h b o hb)
theorem le_set_fresh {F : PH} {b : Nat} (o : Obj) (h : F b = none) : F.le (F.set b o) := fun x o' hx => by
 unfold PH.set
 by_cases hb : x = b
 ·subst hb; rw [h] at hx; cases hx
 ·simp [hb, hx]
theorem le_cell {F G : PH} (h : F.le G) {a : Addr} {v : Value} (hc : F.cell a = some v) : G.cell a = some v := by
 unfold PH.cell at *
 cases hb : F a.block with
 | none => simp [hb] at hc
 | some o => rw [h _ _ hb]; rw [hb] at hc; exact hc
theorem le_none {F G : PH} (h : F.le G) {b : Nat} (hb : G b = none) : F b = none := by
 cases hf : F b with
 | none => rfl
 | some o => rw [h _ _ hf] at hb; cases hb
theorem ne_of_fresh {F : PH} {b c : Nat} {o : Obj} (hb : F b = none) (hc : F c = some o) : c ≠ b := by
 intro e; subst e; rw [hb] at hc; cases hc
@[simp] theorem add_mk (b o i : Nat) : Addr.add ⟨b, o, none⟩ i = ⟨b, o + i, none⟩ := by
 unfold Addr.add; split <;> simp_all
@[simp] theorem set_eq (F : PH) (b : Nat) (o : Obj) : (F.set b o) b = some o := by simp [PH.set]
theorem set_ne (F : PH) {b x : Nat} (o : Obj) (h : x ≠ b) : (F.set b o) x = F x := by simp [PH.set, h]
@[simp] theorem set_twice (F : PH) (b : Nat) (o o' : Obj) : (F.set b o).set b o' = F.set b o' := set_set F b o o'
theorem cell_eq {F : PH} {b i : Nat} {c : Array Value} {e : TypeId} {fr : Nat × Nat} (h : F b = some (.cells c e fr)) : F.cell ⟨b, i, none⟩ = c[i]? := by simp [PH.cell, h]
@[simp] theorem cell_set_eq (F : PH) (b i : Nat) (c : Array Value) (e : TypeId) (fr : Nat × Nat) : (F.set b (.cells c e fr)).cell ⟨b, i, none⟩ = c[i]? := by simp [PH.cell]
def Keep (fp : Nat → Prop) (F G : PH) : Prop := ∀ b o, F b = some o → ¬ fp b → G b = some o
theorem Keep.refl (fp : Nat → Prop) (F : PH) : Keep fp F F := fun _ _ h _ => h
theorem Keep.trans {fp : Nat → Prop} {F G H : PH} (h : Keep fp F G) (k : Keep fp G H) : Keep fp F H := fun b o hb hn => k b o (h b o hb hn) hn
theorem Keep.of_le {fp : Nat → Prop} {F G : PH} (h : F.le G) : Keep fp F G := fun b o hb _ => h b o hb
theorem Keep.mono {fp fq : Nat → Prop} {F G : PH} (h : Keep fp F G) (hs : ∀ b, fp b → fq b) : Keep fq F G := fun b o hb hn => h b o hb (fun hf => hn (hs b hf))
theorem Keep.set {fp : Nat → Prop} {F : PH} {b : Nat} (o : Obj) (h : fp b ∨ F b = none) : Keep fp F (F.set b o) := fun x o' hx hn => by
 by_cases hb : x = b
 ·subst hb
  rcases h with h | h
  ·exact absurd h hn
  ·rw [h] at hx; cases hx
 ·rw [set_ne F o hb]; exact hx
structure RdS (F : PH) (s : Sl) (size : Nat) (vs : List Value) : Prop where
 len : vs.length = s.len * size
 cap : s.len ≤ s.cap
 cells : 0 < s.len → ∃ b o, s.base = some ⟨b, o, none⟩ ∧ ∀ i, (h : i < vs.length) → F.cell ⟨b, o + i, none⟩ = some vs[i]
theorem RdS.le {F G : PH} {s : Sl} {size : Nat} {vs : List Value} (h : RdS F s size vs) (hl : F.le G) : RdS G s size vs :=
 ⟨h.len, h.cap, fun hp => by
  obtain ⟨b, o, h1, h2⟩ := h.cells hp
  exact ⟨b, o, h1, fun i hi => le_cell hl (h2 i hi)⟩⟩
theorem RdS.nil (F : PH) (size : Nat) : RdS F Sl.nil size [] := ⟨by simp [Sl.nil], by simp [Sl.nil], by simp [Sl.nil]⟩
theorem RdS.new {F : PH} {b n cap size : Nat} {c : Array Value} {e : TypeId} {fr : Nat × Nat} {vs : List Value} (h : F b = some (.cells c e fr)) (hv : c.toList.take (n * size) = vs) (hl : vs.length = n * size) (hc : n ≤ cap) :
  RdS F ⟨some ⟨b, 0, none⟩, n, cap⟩ size vs := ⟨hl, hc, fun _ => ⟨b, 0, rfl, fun i hi => by
   rw [cell_eq h]
   subst hv
   simp at hi ⊢⟩⟩
theorem RdS.row {F : PH} {s : Sl} {size : Nat} {vs : List Value} (h : RdS F s size vs) {a : Addr} (ha : s.base = some a) (k : Nat) (cs : Array Value) (hk : cs.toList = (vs.drop k).take cs.size) : F.row (a.add k) cs := by
 intro i hi
 have hlen : k + i < vs.length := by
  have := congrArg List.length hk
  rw [List.length_take, List.length_drop, Array.length_toList] at this
  omega
 have hp : 0 < s.len := by
  rcases Nat.eq_zero_or_pos s.len with h0 | h0
  ·have := h.len; rw [h0, Nat.zero_mul] at this; omega
  ·exact h0
 obtain ⟨b, o, h1, h2⟩ := h.cells hp
 rw [ha] at h1
 cases h1
 simp only [add_mk]
 rw [Nat.add_assoc, h2 (k + i) hlen]
 have e1 : cs.toList[i]? = some cs[i] := by simp [hi]
 rw [hk, List.getElem?_take_of_lt hi, List.getElem?_drop, List.getElem?_eq_getElem hlen] at e1
 exact e1
theorem RdS.cell {F : PH} {s : Sl} {vs : List Value} (h : RdS F s 1 vs) {a : Addr} (ha : s.base = some a) {i : Nat} (hi : i < vs.length) : F.cell (a.add i) = some vs[i] := by
 have hp : 0 < s.len := by have := h.len; omega
 obtain ⟨b, o, h1, h2⟩ := h.cells hp
 rw [ha] at h1
 cases h1
 simp only [add_mk]
 exact h2 i hi
theorem RdS.cut {F : PH} {s : Sl} {size : Nat} {vs : List Value} (h : RdS F s size vs) {l r m : Nat} (h1 : l ≤ r) (h2 : r ≤ s.len) (h3 : r ≤ m) : RdS F (s.cut size l r m) size ((vs.drop (l * size)).take ((r - l) * size)) := by
 have hle : (r - l) * size ≤ s.len * size - l * size := by rw [← Nat.sub_mul]; exact Nat.mul_le_mul_right _ (by omega)
 refine ⟨by rw [List.length_take, List.length_drop, h.len]; simp only [Sl.cut]; omega, by simp only [Sl.cut]; omega, fun hp => ?_⟩
 simp only [Sl.cut] at hp ⊢
 obtain ⟨b, o, h4, h5⟩ := h.cells (by omega)
 have hm : ¬ m = l := by omega
 refine ⟨b, o + l * size, by simp [hm, h4], fun i hi => ?_⟩
 simp only [List.length_take, List.length_drop] at hi
 rw [Nat.add_assoc, h5 (l * size + i) (by omega)]
 simp [List.getElem_take, List.getElem_drop]
theorem runs_askRoom {P : Program} {n : Nat} {F : PH} {Q : Unit → PH → Prop} (h : Q () F) : runs P (askRoom n) F Q := by
 unfold askRoom
 split
 ·exact h
 ·exact h
theorem runs_makeSlice {P : Program} {t e size bytes : Nat} {z : Value} {n c : Int} {k k' : IntKind} {F : PH} {Q : Value → PH → Prop} (ht : P.underlying t = some (.slice e)) (hs : tsz P e = some (size, bytes)) (hz : tzero P e = some z) (hzs : z.cells.size = size)
  (h0 : 0 ≤ n) (hnc : n ≤ c) (hc : (bytes : Int) * c ≤ 281474976710656) (hc63 : c ≤ 9223372036854775807)
  (h : ∀ b, F b = none → Q (Sl.v ⟨some ⟨b, 0, none⟩, n.toNat, c.toNat⟩) (F.set b (.cells (Builtin.zeroCells z.cells c.toNat) e))) :
  runs P (Instr.makeSlice t (.int k n) (.int k' c)) F Q := by
 obtain ⟨i, hi, hti⟩ := runs_typeInfo_bytes hs
 have e1 : IntKind.i64.wrap n = n := w64_eq (by omega) (by omega)
 have e2 : IntKind.i64.wrap c = c := w64_eq (by omega) (by omega)
 simp only [Instr.makeSlice, runs_bind', runs_underlying ht, asInt, asIntOf, runs_pure, hti, hi, e1, e2]
 have hc0 : 0 ≤ c := by omega
 have g1 : decide (c < 0) = false := by simpa using hc0
 have g2 : decide ((bytes : Int) * c > 2 ^ 48) = false := by simp; omega
 have g3 : decide (n < 0) = false := by simpa using h0
 have g4 : decide (n > c) = false := by simp; omega
 simp only [g1, g2, g3, g4, Bool.or_false, Bool.false_eq_true, if_false, runs_bind']
 refine runs_askRoom ?_
 simp only [runs_sizeOf hs]
 have fin : ∀ zz : Array Value, (Array.range (c.toNat * size)).map (fun i => zz[i % zz.size]!) = Builtin.zeroCells z.cells c.toNat →
   runs P (do let a ← newRow e ((Array.range (c.toNat * size)).map (fun i => zz[i % zz.size]!)); pure (Value.slice (some a) n.toNat c.toNat)) F Q := by
  intro zz hzz
  rw [hzz]
  simp only [newRow, newObj, runs_bind', runs, runs_pure]
  exact h
 by_cases hn0 : c.toNat * size = 0
 ·simp only [hn0, if_true, runs_pure]
  have := fin #[] (by simp [Builtin.zeroCells, hn0, hzs])
  simp only [hn0] at this
  exact this
 ·simp only [if_neg hn0, runs_bind', runs_zeroValue hz, runs_pure]
  exact fin z.cells (by simp [Builtin.zeroCells, hzs])
theorem runs_firstCells {P : Program} {F : PH} {s : Sl} {size n : Nat} {vs : List Value} {Q : Array Value → PH → Prop} (h : RdS F s size vs) (hn : n ≤ s.len) (hq : Q (vs.take (n * size)).toArray F) : runs P (Builtin.firstCells size n s.v) F Q := by
 obtain ⟨base, len, cap⟩ := s
 cases base with
 | none =>
  have h0 : len = 0 := by
   rcases Nat.eq_zero_or_pos len with h0 | h0
   ·exact h0
   ·obtain ⟨b, o, h1, _⟩ := h.cells h0; cases h1
  have hn0 : n = 0 := by simp only at hn; omega
  have := h.len
  simp only [h0, Nat.zero_mul, List.length_eq_zero_iff] at this
  subst this
  simpa [Sl.v, Builtin.firstCells] using hq
 | some a =>
  simp only [Sl.v, Builtin.firstCells]
  have hlen : (vs.take (n * size)).toArray.size = n * size := by
   have h1 := h.len
   have h2 : n * size ≤ len * size := Nat.mul_le_mul_right _ hn
   simp only at h1
   rw [List.size_toArray, List.length_take, h1]; omega
  refine rdo_runs _ _ _ _ ?_ hq
  have key : F.row a (vs.take (n * size)).toArray → rdo P (loadCells a (n * size)) F (vs.take (n * size)).toArray := fun hr => by
   have := rdo_loadCells (P := P) hr
   rw [hlen] at this
   exact this
  refine key ?_
  by_cases hz : n * size = 0
  ·intro i hi; rw [hlen, hz] at hi; omega
  ·have := h.row (a := a) rfl 0 (vs.take (n * size)).toArray (by rw [hlen]; simp)
   simpa [Addr.add] using this
theorem runs_append {P : Program} {F : PH} {s x : Sl} {t e size bytes ty : Nat} {z : Value} {olds news : List Value} {Q : Value → PH → Prop} (ht : P.underlying t = some (.slice e)) (hsz : tsz P e = some (size, bytes)) (hz : tzero P e = some z) (hzs : z.cells.size = size)
  (ho : RdS F s size olds) (hn : RdS F x size news) (hst : ∀ v ∈ news, storable v) (hfit : (s.len + x.len) * bytes ≤ 140737488355328) (hlen : s.len + x.len ≤ 9223372036854775807)
  (h0 : x.len * size = 0 → s.len + x.len ≤ s.cap → Q (Sl.v ⟨s.base, s.len + x.len, s.cap⟩) F)
  (h1 : 0 < x.len * size → s.len + x.len ≤ s.cap → ∃ b o c e', s.base = some ⟨b, o, none⟩ ∧ F b = some (.cells c e' (0, 0)) ∧ o + s.len * size + x.len * size ≤ c.size ∧
   Q (Sl.v ⟨s.base, s.len + x.len, s.cap⟩) (F.set b (.cells (wr c (o + s.len * size) news) e')))
  (h2 : s.cap < s.len + x.len → ∀ cap b, s.len + x.len ≤ cap → F b = none → Q (Sl.v ⟨some ⟨b, 0, none⟩, s.len + x.len, cap⟩) (F.set b (.cells (olds.toArray ++ news.toArray ++ Builtin.zeroCells z.cells (cap - (s.len + x.len))) e))) :
  runs P (Builtin.append_ #[t, t] ty #[s.v, x.v]) F Q := by
 have hnl := hn.len
 have hol := ho.len
 have hfn : ∀ Q', Q' news.toArray F → runs P (Builtin.firstCells size x.len x.v) F Q' := fun Q' hq => runs_firstCells hn (Nat.le_refl _) (by rw [← hnl, List.take_length]; exact hq)
 have hfo : ∀ Q', Q' olds.toArray F → runs P (Builtin.firstCells size s.len s.v) F Q' := fun Q' hq => runs_firstCells ho (Nat.le_refl _) (by rw [← hol, List.take_length]; exact hq)
 obtain ⟨base, len, cap⟩ := s
 obtain ⟨xb, xl, xc⟩ := x
 simp only [Builtin.append_, runs_bind', Sl.v, List.getElem?_toArray, List.getElem?_cons_zero, List.getElem?_cons_succ, runs_underlying ht, Builtin.lenOf, runs_pure, runs_sizeOf hsz, Bool.false_eq_true, if_false, Bool.not_false, if_true] at *
 obtain ⟨i, hib, hti⟩ := runs_typeInfo_bytes hsz
 by_cases hroom : len + xl ≤ cap
 ·rw [if_pos hroom]
  simp only [runs_bind']
  refine hfn _ ?_
  by_cases hz0 : xl * size = 0
  ·have hnil : news = [] := List.eq_nil_of_length_eq_zero (by rw [hnl, hz0])
   cases base with
   | none => exact h0 hz0 hroom
   | some a => simp only [hnil, storeCells, runs_bind', runs_pure]; exact h0 hz0 hroom
  ·obtain ⟨b, o, c, e', g1, g2, g3, g4⟩ := h1 (by omega) hroom
   cases g1
   simp only [runs_bind']
   refine runs_storeCells news 0 F _ c _ (by simp) (by simpa using g2) (by simp only [add_mk]; rw [hnl]; omega) hst (fun hnn => hz0 (by rw [← hnl, hnn]; rfl)) ?_
   simpa using g4
 ·rw [if_neg hroom]
  simp only [runs_bind', hti]
  rw [if_neg (by
   rintro ⟨ha, hb⟩
   have : (IntKind.i64.max : Int) = 9223372036854775807 := by decide
   rw [this] at ha
   omega)]
  have hg := growslice_fits (need := len + xl) (old := cap) (bytes := bytes) (by omega) hfit
  simp only [runs_bind', hti]
  rw [if_neg (by rw [hib]; omega)]
  simp only [runs_bind', choose]
  unfold runs
  rw [if_neg (by simp [Question.forced])]
  intro tt
  simp only [runs, hti]
  refine runs_askRoom ?_
  refine hfo _ ?_
  refine hfn _ ?_
  simp only [runs_zeroValue hz, newRow, newObj, runs_bind', runs, runs_pure]
  intro b hb
  exact h2 (by omega) _ b (by simp only [Question.cut]; omega) hb
end Go.Proofs.YtnjcgpihfmklfaaDoor
