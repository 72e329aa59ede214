/-
  A program logic over partial heaps: the user's kit, second part: stores into whole variables, rows that are owned, appending to them.
-/
import Derived.Test.YtelkfnmdnbbniaaPhf
import Derived.Laws.Append
namespace Go.Proofs.Ytelkfnmdnbbniaa
open Go
theorem le_refl' (F : PH) : F.le F := fun _ _ h => h
theorem le_trans' {F G H : PH} (h : F.le G) (k : G.le H) : F.le H := fun b o hb => k b o (h b o hb)
theorem le_set_fresh {F : PH} {b : Nat} (o : Obj) (h : F b = none) : F.le (F.set b o) := fun x o' hx => by
 unfold PH.set
 by_cases hb : x = b
 ·subst hb; rw [h] at hx; cases hx
 ·simp [hb, hx]
theorem le_cell {F G : PH} (h : F.le G) {a : Addr} {v : Value} (hc : F.cell a = some v) : G.cell a = some v := by
 unfold PH.cell at *
 cases hb : F a.block with
 | none => simp [hb] at hc
 | some o => rw [h _ _ hb]; rw [hb] at hc; exact hc
theorem le_none {F G : PH} (h : F.le G) {b : Nat} (hb : G b = none) : F b = none := by
 cases hf : F b with
 | none => rfl
 | some o => rw [h _ _ hf] at hb; cases hb
theorem ne_of_fresh {F : PH} {b c : Nat} {o : Obj} (hb : F b = none) (hc : F c = some o) : c ≠ b := by
 intro e; subst e; rw [hb] at hc; cases hc
@[simp] theorem add_mk (b o i : Nat) : Addr.add ⟨b, o, none⟩ i = ⟨b, o + i, none⟩ := by
 unfold Addr.add; split <;> simp_all
@[simp] theorem set_eq (F : PH) (b : Nat) (o : Obj) : (F.set b o) b = some o := by simp [PH.set]
theorem set_ne (F : PH) {b x : Nat} (o : Obj) (h : x ≠ b) : (F.set b o) x = F x := by simp [PH.set, h]
@[simp] theorem set_twice (F : PH) (b : Nat) (o o' : Obj) : (F.set b o).set b o' = F.set b o' := set_set F b o o'
theorem cell_eq {F : PH} {b i : Nat} {c : Array Value} {e : TypeId} {fr : Nat × Nat} (h : F b = some (.cells c e fr)) : F.cell ⟨b, i, none⟩ = c[i]? := by simp [PH.cell, h]
@[simp] theorem cell_set_eq (F : PH) (b i : Nat) (c : Array Value) (e : TypeId) (fr : Nat × Nat) : (F.set b (.cells c e fr)).cell ⟨b, i, none⟩ = c[i]? := by simp [PH.cell]
theorem cell_set_ne (F : PH) {b : Nat} {a : Addr} (o : Obj) (h : a.block ≠ b) : (F.set b o).cell a = F.cell a := by simp [PH.cell, PH.set, h]
def Keep (fp : Nat → Prop) (F G : PH) : Prop := ∀ b o, F b = some o → ¬ fp b → G b = some o
theorem Keep.refl (fp : Nat → Prop) (F : PH) : Keep fp F F := fun _ _ h _ => h
theorem Keep.trans {fp : Nat → Prop} {F G H : PH} (h : Keep fp F G) (k : Keep fp G H) : Keep fp F H := fun b o hb hn => k b o (h b o hb hn) hn
theorem Keep.of_le {fp : Nat → Prop} {F G : PH} (h : F.le G) : Keep fp F G := fun b o hb _ => h b o hb
theorem Keep.mono {fp fq : Nat → Prop} {F G : PH} (h : Keep fp F G) (hs : ∀ b, fp b → fq b) : Keep fq F G := fun b o hb hn => h b o hb (fun hf => hn (hs b hf))
theorem Keep.set {fp : Nat → Prop} {F : PH} {b : Nat} (o : Obj) (h : fp b ∨ F b = none) : Keep fp F (F.set b o) := fun x o' hx hn => by
 by_cases hb : x = b
 ·subst hb
  rcases h with h | h
  ·exact absurd h hn
  ·rw [h] at hx; cases hx
 ·rw [set_ne F o hb]; exact hx
structure RdS (F : PH) (s : Sl) (size : Nat) (vs : List Value) : Prop where
 len : vs.length = s.len * size
 cap : s.len ≤ s.cap
 cells : 0 < s.len → ∃ b o, s.base = some ⟨b, o, none⟩ ∧ ∀ i, (h : i < vs.length) → F.cell ⟨b, o + i, none⟩ = some vs[i]
theorem RdS.le {F G : PH} {s : Sl} {size : Nat} {vs : List Value} (h : RdS F s size vs) (hl : F.le G) : RdS G s size vs :=
 ⟨h.len, h.cap, fun hp => by
  obtain ⟨b, o, h1, h2⟩ := h.cells hp
  exact ⟨b, o, h1, fun i hi => le_cell hl (h2 i hi)⟩⟩
theorem RdS.nil (F : PH) (size : Nat) : RdS F Sl.nil size [] := ⟨by simp [Sl.nil], by simp [Sl.nil], by simp [Sl.nil]⟩
theorem RdS.new {F : PH} {b n cap size : Nat} {c : Array Value} {e : TypeId} {fr : Nat × Nat} {vs : List Value} (h : F b = some (.cells c e fr)) (hv : c.toList.take (n * size) = vs) (hl : vs.length = n * size) (hc : n ≤ cap) :
  RdS F ⟨some ⟨b, 0, none⟩, n, cap⟩ size vs := ⟨hl, hc, fun _ => ⟨b, 0, rfl, fun i hi => by
   rw [cell_eq h]
   subst hv
   simp at hi ⊢⟩⟩
theorem RdS.row {F : PH} {s : Sl} {size : Nat} {vs : List Value} (h : RdS F s size vs) {a : Addr} (ha : s.base = some a) (k : Nat) (cs : Array Value) (hk : cs.toList = (vs.drop k).take cs.size) : F.row (a.add k) cs := by
 intro i hi
 have hlen : k + i < vs.length := by
  have := congrArg List.length hk
  rw [List.length_take, List.length_drop, Array.length_toList] at this
  omega
 have hp : 0 < s.len := by
  rcases Nat.eq_zero_or_pos s.len with h0 | h0
  ·have := h.len; rw [h0, Nat.zero_mul] at this; omega
  ·exact h0
 obtain ⟨b, o, h1, h2⟩ := h.cells hp
 rw [ha] at h1
 cases h1
 simp only [add_mk]
 rw [Nat.add_assoc, h2 (k + i) hlen]
 have e1 : cs.toList[i]? = some cs[i] := by simp [hi]
 rw [hk, List.getElem?_take_of_lt hi, List.getElem?_drop, List.getElem?_eq_getElem hlen] at e1
 exact e1
theorem RdS.cell {F : PH} {s : Sl} {vs : List Value} (h : RdS F s 1 vs) {a : Addr} (ha : s.base = some a) {i : Nat} (hi : i < vs.length) : F.cell (a.add i) = some vs[i] := by
 have hp : 0 < s.len := by have := h.len; omega
 obtain ⟨b, o, h1, h2⟩ := h.cells hp
 rw [ha] at h1
 cases h1
 simp only [add_mk]
 exact h2 i hi
theorem RdS.cut {F : PH} {s : Sl} {size : Nat} {vs : List Value} (h : RdS F s size vs) {l r m : Nat} (h1 : l ≤ r) (h2 : r ≤ s.len) (h3 : r ≤ m) : RdS F (s.cut size l r m) size ((vs.drop (l * size)).take ((r - l) * size)) := by
 have hle : (r - l) * size ≤ s.len * size - l * size := by rw [← Nat.sub_mul]; exact Nat.mul_le_mul_right _ (by omega)
 refine ⟨by rw [List.length_take, List.length_drop, h.len]; simp only [Sl.cut]; omega, by simp only [Sl.cut]; omega, fun hp => ?_⟩
 simp only [Sl.cut] at hp ⊢
 obtain ⟨b, o, h4, h5⟩ := h.cells (by omega)
 have hm : ¬ m = l := by omega
 refine ⟨b, o + l * size, by simp [hm, h4], fun i hi => ?_⟩
 simp only [List.length_take, List.length_drop] at hi
 rw [Nat.add_assoc, h5 (l * size + i) (by omega)]
 simp [List.getElem_take, List.getElem_drop]
theorem runs_askRoom {P : Program} {n : Nat} {F : PH} {Q : Unit → PH → Prop} (h : Q () F) : runs P (askRoom n) F Q := by
 unfold askRoom
 split
 ·exact h
 ·exact h
theorem runs_makeSlice {P : Program} {t e size bytes : Nat} {z : Value} {n c : Int} {k k' : IntKind} {F : PH} {Q : Value → PH → Prop} (ht : P.underlying t = some (.slice e)) (hs : tsz P e = some (size, bytes)) (hz : tzero P e = some z) (hzs : z.cells.size = size)
  (h0 : 0 ≤ n) (hnc : n ≤ c) (hc : (bytes : Int) * c ≤ 281474976710656) (hc63 : c ≤ 9223372036854775807)
  (h : ∀ b, F b = none → Q (Sl.v ⟨some ⟨b, 0, none⟩, n.toNat, c.toNat⟩) (F.set b (.cells (Builtin.zeroCells z.cells c.toNat) e))) :
  runs P (Instr.makeSlice t (.int k n) (.int k' c)) F Q := by
 obtain ⟨i, hi, hti⟩ := runs_typeInfo_bytes hs
 have e1 : IntKind.i64.wrap n = n := w64_eq (by omega) (by omega)
 have e2 : IntKind.i64.wrap c = c := w64_eq (by omega) (by omega)
 simp only [Instr.makeSlice, runs_bind', runs_underlying ht, asInt, asIntOf, runs_pure, hti, hi, e1, e2]
 have hc0 : 0 ≤ c := by omega
 have g1 : decide (c < 0) = false := by simpa using hc0
 have g2 : decide ((bytes : Int) * c > 2 ^ 48) = false := by simp; omega
 have g3 : decide (n < 0) = false := by simpa using h0
 have g4 : decide (n > c) = false := by simp; omega
 simp only [g1, g2, g3, g4, Bool.or_false, Bool.false_eq_true, if_false, runs_bind']
 refine runs_askRoom ?_
 simp only [runs_sizeOf hs]
 have fin : ∀ zz : Array Value, (Array.range (c.toNat * size)).map (fun i => zz[i % zz.size]!) = Builtin.zeroCells z.cells c.toNat →
   runs P (do let a ← newRow e ((Array.range (c.toNat * size)).map (fun i => zz[i % zz.size]!)); pure (Value.slice (some a) n.toNat c.toNat)) F Q := by
  intro zz hzz
  rw [hzz]
  simp only [newRow, newObj, runs_bind', runs, runs_pure]
  exact h
 by_cases hn0 : c.toNat * size = 0
 ·simp only [hn0, if_true, runs_pure]
  have := fin #[] (by simp [Builtin.zeroCells, hn0, hzs])
  simp only [hn0] at this
  exact this
 ·simp only [if_neg hn0, runs_bind', runs_zeroValue hz, runs_pure]
  exact fin z.cells (by simp [Builtin.zeroCells, hzs])
theorem runs_firstCells {P : Program} {F : PH} {s : Sl} {size n : Nat} {vs : List Value} {Q : Array Value → PH → Prop} (h : RdS F s size vs) (hn : n ≤ s.len) (hq : Q (vs.take (n * size)).toArray F) : runs P (Builtin.firstCells size n s.v) F Q := by
 obtain ⟨base, len, cap⟩ := s
 cases base with
 | none =>
  have h0 : len = 0 := by
   rcases Nat.eq_zero_or_pos len with h0 | h0
   ·exact h0
   ·obtain ⟨b, o, h1, _⟩ := h.cells h0; cases h1
  have hn0 : n = 0 := by simp only at hn; omega
  have := h.len
  simp only [h0, Nat.zero_mul, List.length_eq_zero_iff] at this
  subst this
  simpa [Sl.v, Builtin.firstCells] using hq
 | some a =>
  simp only [Sl.v, Builtin.firstCells]
  have hlen : (vs.take (n * size)).toArray.size = n * size := by
   have h1 := h.len
   have h2 : n * size ≤ len * size := Nat.mul_le_mul_right _ hn
   simp only at h1
   rw [List.size_toArray, List.length_take, h1]; omega
  refine rdo_runs _ _ _ _ ?_ hq
  have key : F.row a (vs.take (n * size)).toArray → rdo P (loadCells a (n * size)) F (vs.take (n * size)).toArray := fun hr => by
   have := rdo_loadCells (P := P) hr
   rw [hlen] at this
   exact this
  refine key ?_
  by_cases hz : n * size = 0
  ·intro i hi; rw [hlen, hz] at hi; omega
  ·have := h.row (a := a) rfl 0 (vs.take (n * size)).toArray (by rw [hlen]; simp)
   simpa [Addr.add] using this
theorem runs_copy {P : Program} {F : PH} {d s : Sl} {t e size bytes ty : Nat} {ts : Array TypeId} {vs : List Value} {Q : Value → PH → Prop} (ht : P.underlying t = some (.slice e)) (hts : ts[0]? = some t) (hs : tsz P e = some (size, bytes))
  (hr : RdS F s size vs) (hst : ∀ v ∈ vs, storable v)
  (h0 : min s.len d.len * size = 0 → Q (.int .i64 ((min s.len d.len : Nat) : Int)) F)
  (h : 0 < min s.len d.len * size → ∃ b o c e', d.base = some ⟨b, o, none⟩ ∧ F b = some (.cells c e' (0, 0)) ∧ o + min s.len d.len * size ≤ c.size ∧
   Q (.int .i64 ((min s.len d.len : Nat) : Int)) (F.set b (.cells (wr c o (vs.take (min s.len d.len * size))) e'))) :
  runs P (Builtin.copy_ ts ty #[d.v, s.v]) F Q := by
 have hlen : (vs.take (min s.len d.len * size)).length = min s.len d.len * size := by
  have h2 : min s.len d.len * size ≤ s.len * size := Nat.mul_le_mul_right _ (by omega)
  rw [List.length_take, hr.len]; omega
 have hf : ∀ Q', Q' (vs.take (min s.len d.len * size)).toArray F → runs P (Builtin.firstCells size (min s.len d.len) s.v) F Q' := fun Q' hq => runs_firstCells hr (by omega) hq
 obtain ⟨base, dl, dc⟩ := d
 simp only [Builtin.copy_, hts, runs_bind', Sl.v, List.getElem?_toArray, List.getElem?_cons_zero, List.getElem?_cons_succ, runs_underlying ht, Builtin.lenOf, runs_pure, runs_sizeOf hs] at *
 show runs P (Builtin.firstCells size (min s.len dl) _) F _
 refine hf _ ?_
 by_cases hz : min s.len dl * size = 0
 ·have hnil : vs.take (min s.len dl * size) = [] := List.eq_nil_of_length_eq_zero (by rw [hlen, hz])
  cases base with
  | none => exact h0 hz
  | some a => simp only [hnil, storeCells, runs_bind', runs_pure]; exact h0 hz
 ·obtain ⟨b, o, c, e', h1, h2, h3, h4⟩ := h (by omega)
  cases h1
  simp only [runs_bind']
  refine runs_storeCells _ 0 F ⟨b, o, none⟩ c _ rfl h2 (by simp only; rw [Nat.add_zero, hlen]; exact h3) (fun v hv => hst v (List.mem_of_mem_take hv)) (fun hn => hz (by rw [← hlen, hn]; rfl)) ?_
  simpa [goInt] using h4
theorem runs_append {P : Program} {F : PH} {s x : Sl} {t e size bytes ty : Nat} {z : Value} {olds news : List Value} {Q : Value → PH → Prop} (ht : P.underlying t = some (.slice e)) (hsz : tsz P e = some (size, bytes)) (hz : tzero P e = some z) (hzs : z.cells.size = size)
  (ho : RdS F s size olds) (hn : RdS F x size news) (hst : ∀ v ∈ news, storable v) (hfit : (s.len + x.len) * bytes ≤ 140737488355328) (hlen : s.len + x.len ≤ 9223372036854775807)
  (h0 : x.len * size = 0 → s.len + x.len ≤ s.cap → Q (Sl.v ⟨s.base, s.len + x.len, s.cap⟩) F)
  (h1 : 0 < x.len * size → s.len + x.len ≤ s.cap → ∃ b o c e', s.base = some ⟨b, o, none⟩ ∧ F b = some (.cells c e' (0, 0)) ∧ o + s.len * size + x.len * size ≤ c.size ∧
   Q (Sl.v ⟨s.base, s.len + x.len, s.cap⟩) (F.set b (.cells (wr c (o + s.len * size) news) e')))
  (h2 : s.cap < s.len + x.len → ∀ cap b, s.len + x.len ≤ cap → F b = none → Q (Sl.v ⟨some ⟨b, 0, none⟩, s.len + x.len, cap⟩) (F.set b (.cells (olds.toArray ++ news.toArray ++ Builtin.zeroCells z.cells (cap - (s.len + x.len))) e))) :
  runs P (Builtin.append_ #[t, t] ty #[s.v, x.v]) F Q := by
 have hnl := hn.len
 have hol := ho.len
 have hfn : ∀ Q', Q' news.toArray F → runs P (Builtin.firstCells size x.len x.v) F Q' := fun Q' hq => runs_firstCells hn (Nat.le_refl _) (by rw [← hnl, List.take_length]; exact hq)
 have hfo : ∀ Q', Q' olds.toArray F → runs P (Builtin.firstCells size s.len s.v) F Q' := fun Q' hq => runs_firstCells ho (Nat.le_refl _) (by rw [← hol, List.take_length]; exact hq)
 obtain ⟨base, len, cap⟩ := s
 obtain ⟨xb, xl, xc⟩ := x
 simp only [Builtin.append_, runs_bind', Sl.v, List.getElem?_toArray, List.getElem?_cons_zero, List.getElem?_cons_succ, runs_underlying ht, Builtin.lenOf, runs_pure, runs_sizeOf hsz, Bool.false_eq_true, if_false, Bool.not_false, if_true] at *
 obtain ⟨i, hib, hti⟩ := runs_typeInfo_bytes hsz
 by_cases hroom : len + xl ≤ cap
 ·rw [if_pos hroom]
  simp only [runs_bind']
  refine hfn _ ?_
  by_cases hz0 : xl * size = 0
  ·have hnil : news = [] := List.eq_nil_of_length_eq_zero (by rw [hnl, hz0])
   cases base with
   | none => exact h0 hz0 hroom
   | some a => simp only [hnil, storeCells, runs_bind', runs_pure]; exact h0 hz0 hroom
  ·obtain ⟨b, o, c, e', g1, g2, g3, g4⟩ := h1 (by omega) hroom
   cases g1
   simp only [runs_bind']
   refine runs_storeCells news 0 F _ c _ (by simp) (by simpa using g2) (by simp only [add_mk]; rw [hnl]; omega) hst (fun hnn => hz0 (by rw [← hnl, hnn]; rfl)) ?_
   simpa using g4
 ·rw [if_neg hroom]
  simp only [runs_bind', hti]
  rw [if_neg (by
   rintro ⟨ha, hb⟩
   have : (IntKind.i64.max : Int) = 9223372036854775807 := by decide
   rw [this] at ha
   omega)]
  have hg := growslice_fits (need := len + xl) (old := cap) (bytes := bytes) (by omega) hfit
  simp only [runs_bind', hti]
  rw [if_neg (by rw [hib]; omega)]
  simp only [runs_bind', choose]
  unfold runs
  rw [if_neg (by simp [Question.forced])]
  intro tt
  simp only [runs, hti]
  refine runs_askRoom ?_
  refine hfo _ ?_
  refine hfn _ ?_
  simp only [runs_zeroValue hz, newRow, newObj, runs_bind', runs, runs_pure]
  intro b hb
  exact h2 (by omega) _ b (by simp only [Question.cut]; omega) hb
section
variable {P : Program} {F : PH} {E : En} {o : Oper} {x y : Operand} {t t' : TypeId}
end
section
variable {P : Program} {F : PH} {E : En} {K : En → PH → Prop} {ty : TypeId} {pos : String} {aft : Array Edge} {gd : Option (Nat × Bool)}
end
section
variable {K : Type} [DecidableEq K]
structure KeyTy (P : Program) (kt : TypeId) (enc : K → Value) : Prop where
 eq : ∀ F a b, rdo P (Op.equal kt (enc a) (enc b)) F (decide (a = b))
 chk : ∀ F e a, rdo P (Instr.checkKey e 10000 kt (enc a)) F ()
 same : ∀ a, Instr.sameBits 10000 (enc a) (enc a) = true
 kind : ∃ d, P.underlying kt = some d ∧ ((∀ a b, Instr.sameNow d (enc a) (enc b) = some (decide (a = b))) ∨ ∀ a b, Instr.sameNow d (enc a) (enc b) = none)
structure MapTy (P : Program) (mt : TypeId) (enc : K → Value) (z : Value) : Prop where
 ex : ∃ kt e, P.underlying mt = some (.map kt e) ∧ tzero P e = some z ∧ KeyTy P kt enc
def lk (k : K) : List (K × Value) → Option Value
 | [] => none
 | p :: r => if k = p.1 then some p.2 else lk k r
def fnd (k : K) : List (K × Value) → Nat → Option (Nat × Value)
 | [], _ => none
 | p :: r, i => if k = p.1 then some (i, p.2) else fnd k r (i + 1)
def upL (k : K) (v : Value) : List (K × Value) → List (K × Value)
 | [] => [(k, v)]
 | p :: r => if k = p.1 then (k, v) :: r else p :: upL k v r
theorem lk_upL (k k' : K) (v : Value) : ∀ (L : List (K × Value)), lk k' (upL k v L) = if k' = k then some v else lk k' L
 | [] => rfl
 | p :: r => by
  unfold upL
  split
  ·rename_i h
   simp only [lk]
   split
   ·rfl
   ·rename_i hn
    rw [if_neg (by rw [← h]; exact hn)]
  ·rename_i h
   simp only [lk, lk_upL k k' v r]
   split
   ·rename_i h2
    rw [if_neg (by rintro rfl; exact h h2)]
   ·rfl
theorem fnd_none (k : K) (v : Value) : ∀ (L : List (K × Value)) (i : Nat), fnd k L i = none → lk k L = none ∧ upL k v L = L ++ [(k, v)]
 | [], _, _ => ⟨rfl, rfl⟩
 | p :: r, i, h => by
  unfold fnd at h
  split at h
  ·cases h
  ·rename_i hn
   obtain ⟨h1, h2⟩ := fnd_none k v r _ h
   exact ⟨by unfold lk; rw [if_neg hn, h1], by unfold upL; rw [if_neg hn, h2]; rfl⟩
theorem fnd_some (k : K) (v : Value) : ∀ (L : List (K × Value)) (i j : Nat) (w : Value), fnd k L i = some (j, w) → ∃ d, j = i + d ∧ d < L.length ∧ L[d]? = some (k, w) ∧ lk k L = some w ∧ upL k v L = L.set d (k, v)
 | [], _, _, _, h => by cases h
 | p :: r, i, j, w, h => by
  unfold fnd at h
  split at h
  ·rename_i hp
   cases h
   refine ⟨0, rfl, by simp, ?_, by unfold lk; rw [if_pos hp], by unfold upL; rw [if_pos hp]; rfl⟩
   subst hp
   rfl
  ·rename_i hn
   obtain ⟨d, h1, h2, h3, h4, h5⟩ := fnd_some k v r _ _ _ h
   exact ⟨d + 1, by omega, by simp only [List.length_cons]; omega, by simpa using h3, by unfold lk; rw [if_neg hn, h4], by unfold upL; rw [if_neg hn, h5]; rfl⟩
def MapO (enc : K → Value) (m : K → Option Value) (o : Obj) : Prop :=
 ∃ (es : Array MapEntry) (c : Nat) (L : List (K × Value)), o = .map es c ∧ es.toList.map (fun e => (e.key, e.val)) = L.map (fun p => (enc p.1, p.2)) ∧ ∀ k, m k = lk k L
theorem MapO.empty (enc : K → Value) : MapO enc (fun _ => none) (.map #[] 0) := ⟨#[], 0, [], rfl, rfl, fun _ => rfl⟩
theorem MapO.not_cells {enc : K → Value} {m : K → Option Value} {o : Obj} (h : MapO enc m o) : ∀ c e fr, o ≠ .cells c e fr := by
 obtain ⟨es, c, L, rfl, _⟩ := h
 intro c e fr h
 cases h
variable {P : Program} {F : PH} {kt mt : TypeId} {enc : K → Value} {z : Value}
theorem rdo_findAsking (hk : KeyTy P kt enc) (k : K) : ∀ (es : List MapEntry) (L : List (K × Value)) (i : Nat), es.map (fun e => (e.key, e.val)) = L.map (fun p => (enc p.1, p.2)) →
  rdo P (Instr.findAsking kt (enc k) es i) F (fnd k L i)
 | [], [], _, _ => rfl
 | [], _ :: _, _, h => by cases h
 | _ :: _, [], _, h => by cases h
 | e :: es, p :: L, i, h => by
  simp only [List.map_cons, List.cons.injEq, Prod.mk.injEq] at h
  obtain ⟨⟨h1, h2⟩, h3⟩ := h
  simp only [Instr.findAsking, rdo_bind]
  refine ⟨_, by rw [h1]; exact hk.eq F k p.1, ?_⟩
  unfold fnd
  by_cases hp : k = p.1
  ·simp [hp, h2]
  ·simpa [hp] using rdo_findAsking hk k es L (i + 1) h3
theorem findNow_eq {d : TypeDesc} (hs : ∀ a b, Instr.sameNow d (enc a) (enc b) = some (decide (a = b))) (k : K) : ∀ (es : List MapEntry) (L : List (K × Value)) (i : Nat), es.map (fun e => (e.key, e.val)) = L.map (fun p => (enc p.1, p.2)) →
  Instr.findNow d (enc k) es i = some (fnd k L i)
 | [], [], _, _ => rfl
 | [], _ :: _, _, h => by cases h
 | _ :: _, [], _, h => by cases h
 | e :: es, p :: L, i, h => by
  simp only [List.map_cons, List.cons.injEq, Prod.mk.injEq] at h
  obtain ⟨⟨h1, h2⟩, h3⟩ := h
  simp only [Instr.findNow, h1, hs]
  unfold fnd
  by_cases hp : k = p.1
  ·simp [hp, h2]
  ·simpa [hp] using findNow_eq hs k es L (i + 1) h3
theorem rdo_findKey (hk : KeyTy P kt enc) (k : K) (es : List MapEntry) (L : List (K × Value)) (h : es.map (fun e => (e.key, e.val)) = L.map (fun p => (enc p.1, p.2))) :
  rdo P (Instr.findKey kt (enc k) es) F (fnd k L 0) := by
 obtain ⟨d, hd, hs⟩ := hk.kind
 unfold Instr.findKey
 simp only [rdo_bind]
 refine ⟨d, (rdo_underlying hd _).2 rfl, ?_⟩
 rcases hs with hs | hs
 ·rw [findNow_eq hs k es L 0 h]
  rfl
 ·cases es with
  | nil =>
   cases L with
   | nil => rfl
   | cons _ _ => cases h
  | cons e es =>
   cases L with
   | nil => cases h
   | cons p L =>
    have h1 : e.key = enc p.1 := by simp only [List.map_cons, List.cons.injEq, Prod.mk.injEq] at h; exact h.1.1
    have : Instr.findNow d (enc k) (e :: es) 0 = none := by simp only [Instr.findNow, h1, hs]
    rw [this]
    exact rdo_findAsking hk k _ _ 0 h
theorem rdo_lookup (hm : MapTy P mt enc z) {r : Nat} {o : Obj} {m : K → Option Value} (hr : F r = some o) (ho : MapO enc m o) (k : K) (ok : Bool) :
  rdo P (Instr.lookup mt (.map (some r)) (enc k) ok) F (if ok then .tuple #[(m k).getD z, .bool (m k).isSome] else (m k).getD z) := by
 obtain ⟨kt, e, h1, h2, hk⟩ := hm.ex
 have hnc := ho.not_cells
 obtain ⟨es, c, L, rfl, h3, h4⟩ := ho
 have hf := fun w => fnd_some k w L 0
 have hn := fnd_none k z L 0
 unfold Instr.lookup
 simp only [rdo_bind]
 refine ⟨_, (rdo_underlying h1 _).2 rfl, ?_⟩
 simp only [rdo_bind]
 refine ⟨_, ⟨_, hr, hnc, rfl⟩, ?_⟩
 simp only [rdo_bind]
 refine ⟨es, rfl, (), hk.chk F _ k, ?_⟩
 cases hfd : fnd k L 0 with
 | none =>
  refine ⟨_, rdo_findKey hk k _ _ h3, ?_⟩
  rw [hfd]
  simp only [rdo_bind]
  refine ⟨z, (rdo_zeroValue h2 _).2 rfl, _, rfl, ?_⟩
  rw [h4, (hn hfd).1]
  rfl
 | some q =>
  obtain ⟨j, v⟩ := q
  obtain ⟨d, _, _, _, h5, _⟩ := hf z j v hfd
  refine ⟨_, rdo_findKey hk k _ _ h3, ?_⟩
  rw [hfd]
  simp only [rdo_bind]
  refine ⟨_, rfl, ?_⟩
  rw [h4, h5]
  rfl
end
theorem st1 {F : PH} {b o : Nat} {v : Value} {c : Array Value} {e : TypeId} {K : PH → Prop} (h : F b = some (.cells c e (0, 0))) (hl : o < c.size) (k : K (F.set b (.cells (c.setIfInBounds o v) e))) :
  ∃ c e, F (Addr.mk b o none).block = some (.cells c e (0, 0)) ∧ (Addr.mk b o none).spot = none ∧ (Addr.mk b o none).off < c.size ∧
   atF (F.set (Addr.mk b o none).block (.cells (c.setIfInBounds (Addr.mk b o none).off v) e)) K := ⟨c, e, h, rfl, hl, k⟩
theorem st1' {F : PH} {A : Addr} {b o : Nat} {v : Value} {c : Array Value} {e : TypeId} {K : PH → Prop} (hA : A = ⟨b, o, none⟩) (h : F b = some (.cells c e (0, 0))) (hl : o < c.size) (k : K (F.set b (.cells (c.setIfInBounds o v) e))) :
  ∃ c e, F A.block = some (.cells c e (0, 0)) ∧ A.spot = none ∧ A.off < c.size ∧ atF (F.set A.block (.cells (c.setIfInBounds A.off v) e)) K := by
 subst hA; exact st1 h hl k
theorem wr_whole {c d : Array Value} (h : c.size = d.size) : wr c 0 d.toList = d := by
 apply Array.ext
 ·rw [wr_size, h]
 ·intro i h1 h2
  have := wr_get d.toList c 0 i (by simp [h])
  rw [if_pos (by simp; omega)] at this
  simp only [Nat.sub_zero] at this
  rw [Array.getElem?_eq_getElem h1] at this
  simp at this
  rw [Array.getElem?_eq_getElem h2] at this
  exact Option.some.inj this
theorem stW {F : PH} {b n : Nat} {v c : Array Value} {e : TypeId} {K : PH → Prop} (h : F b = some (.cells c e (0, 0))) (hs : v.size = n) (hc : c.size = n) (hst : ∀ x ∈ v.toList, storable x) (k : K (F.set b (.cells v e))) :
  v.size = n ∧ (∀ x ∈ v.toList, storable x) ∧ ∃ c e, F (Addr.mk b 0 none).block = some (.cells c e (0, 0)) ∧ (Addr.mk b 0 none).spot = none ∧ (Addr.mk b 0 none).off + n ≤ c.size ∧
   atF (F.set (Addr.mk b 0 none).block (.cells (wr c (Addr.mk b 0 none).off v.toList) e)) K :=
 ⟨hs, hst, c, e, h, rfl, by simp [hc], by
  unfold atF
  rw [show (Addr.mk b 0 none).off = 0 from rfl, wr_whole (by rw [hc, hs])]
  exact k⟩
theorem zc1 (v : Value) (h : v.cells = #[v]) (n : Nat) : Builtin.zeroCells v.cells n = (List.replicate n v).toArray := by
 rw [zc_flat _ (by rw [h]; rfl), h]
 congr 1
 induction n with
 | zero => rfl
 | succ n ih => simp [List.replicate_succ, ih]
theorem w64s {n : Nat} (h : n < 9223372036854775807) : IntKind.i64.wrap ((n : Int) + 1) = ((n + 1 : Nat) : Int) := by rw [w64_eq (by omega) (by omega)]; omega
theorem wr_list (vs : List Value) : ∀ (c : List Value) (o : Nat), o + vs.length ≤ c.length → wr c.toArray o vs = (c.take o ++ vs ++ c.drop (o + vs.length)).toArray := by
 intro c o h
 apply Array.ext
 ·rw [wr_size]; simp; omega
 ·intro i h1 h2
  have := wr_get vs c.toArray o i (by simpa using h)
  rw [Array.getElem?_eq_getElem h1] at this
  rw [wr_size] at h1
  simp only [List.size_toArray] at h1
  have h3 : (c.take o ++ vs ++ c.drop (o + vs.length)).toArray[i] = (c.take o ++ vs ++ c.drop (o + vs.length))[i]'(by simpa using h2) := by simp
  rw [h3]
  apply Option.some.inj
  rw [← List.getElem?_eq_getElem, this]
  by_cases hi : i < o
  ·rw [if_neg (by omega), List.append_assoc, List.getElem?_append_left (by simp; omega)]
   simp [hi]
  ·by_cases hj : i < o + vs.length
   ·rw [if_pos ⟨by omega, hj⟩, List.getElem?_append_left (by simp; omega), List.getElem?_append_right (by simp; omega)]
    simp
    congr 1
    omega
   ·rw [if_neg (by omega), List.getElem?_append_right (by simp; omega)]
    simp
    congr 1
    omega
def OwnS (F : PH) (e size : Nat) (s : Sl) (vs : List Value) : Prop :=
 (s = Sl.nil ∧ vs = []) ∨ ∃ b cur, s.base = some ⟨b, 0, none⟩ ∧ F b = some (.cells cur e (0, 0)) ∧ cur.size = s.cap * size ∧ s.len ≤ s.cap ∧ vs.length = s.len * size ∧ cur.toList.take (s.len * size) = vs
theorem OwnS.rd {F : PH} {e size : Nat} {s : Sl} {vs : List Value} (h : OwnS F e size s vs) : RdS F s size vs := by
 rcases h with ⟨rfl, rfl⟩ | ⟨b, cur, h1, h2, h3, h4, h5, h6⟩
 ·exact RdS.nil F size
 ·obtain ⟨base, len, cap⟩ := s
  cases h1
  exact RdS.new h2 h6 h5 h4
theorem OwnS.keep {F G : PH} {e size : Nat} {s : Sl} {vs : List Value} (h : OwnS F e size s vs) (hk : ∀ a, s.base = some a → G a.block = F a.block) : OwnS G e size s vs := by
 rcases h with h | ⟨b, cur, h1, h2, h3⟩
 ·exact .inl h
 ·exact .inr ⟨b, cur, h1, (hk _ h1).trans h2, h3⟩
theorem own_append {F : PH} {s x : Sl} {t e size bytes ty : Nat} {z : Value} {P : Program} {olds news : List Value} {Q : Value → PH → Prop} (ht : P.underlying t = some (.slice e)) (hsz : tsz P e = some (size, bytes)) (hz : tzero P e = some z) (hzs : z.cells.size = size) (hs0 : 0 < size)
  (ho : OwnS F e size s olds) (hn : RdS F x size news) (hx : 0 < x.len) (hst : ∀ v ∈ news, storable v) (hfit : (s.len + x.len) * bytes ≤ 140737488355328) (hlen : s.len + x.len ≤ 9223372036854775807)
  (h : ∀ s' F' b o, F' = F.set b o → OwnS F' e size s' (olds ++ news) → s'.len = s.len + x.len → (∀ a, s'.base = some a → a.block = b) → ((∃ a, s.base = some a ∧ a.block = b) ∨ F b = none) → Q s'.v F') :
  runs P (Builtin.append_ #[t, t] ty #[s.v, x.v]) F Q := by
 have hpos : 0 < x.len * size := Nat.mul_pos hx hs0
 have hol := ho.rd.len
 refine runs_append ht hsz hz hzs ho.rd hn hst hfit hlen (fun h0 => by omega) ?_ ?_
 ·intro _ hroom
  rcases ho with ⟨rfl, rfl⟩ | ⟨b, cur, h1, h2, h3, h4, h5, h6⟩
  ·simp [Sl.nil] at hroom; omega
  ·have hle : s.len * size + x.len * size ≤ cur.size := by rw [h3, ← Nat.add_mul]; exact Nat.mul_le_mul_right _ hroom
   refine ⟨b, 0, cur, e, h1, h2, by omega, ?_⟩
   refine h ⟨_, _, _⟩ _ b _ rfl (.inr ⟨b, _, h1, set_eq _ _ _, by rw [wr_size, h3], hroom, by simp [h5, hn.len, Nat.add_mul], ?_⟩) rfl (fun a ha => by rw [h1] at ha; cases ha; rfl) (.inl ⟨_, h1, rfl⟩)
   simp only [Nat.zero_add]
   have hw := wr_list news cur.toList (s.len * size) (by simp [hn.len]; omega)
   rw [show cur.toList.toArray = cur by simp] at hw
   rw [hw]
   simp only
   rw [h6, Nat.add_mul]
   rw [List.take_append_of_le_length (by simp [h5, hn.len]), List.take_of_length_le (by simp [h5, hn.len])]
 ·intro hgt cap b hc hb
  refine h ⟨_, _, _⟩ _ b _ rfl (.inr ⟨b, _, rfl, set_eq _ _ _, ?_, hc, by simp [hol, hn.len, Nat.add_mul], ?_⟩) rfl (fun a ha => by cases ha; rfl) (.inr hb)
  ·simp [Builtin.zeroCells, hzs, hol, hn.len]
   rw [← Nat.add_mul, ← Nat.add_mul]
   congr 1
   omega
  ·simp only [List.append_toArray, Array.toList_append]
   rw [List.take_append_of_le_length (by simp [hol, hn.len, Nat.add_mul]), List.take_of_length_le (by simp [hol, hn.len, Nat.add_mul])]
theorem own_append0 {F : PH} {s x : Sl} {t e size bytes ty : Nat} {z : Value} {P : Program} {olds news : List Value} {Q : Value → PH → Prop} (ht : P.underlying t = some (.slice e)) (hsz : tsz P e = some (size, bytes)) (hz : tzero P e = some z) (hzs : z.cells.size = size)
  (ho : OwnS F e size s olds) (hn : RdS F x size news) (hx : x.len = 0) (hfit : s.len * bytes ≤ 140737488355328) (hlen : s.len ≤ 9223372036854775807)
  (h : Q s.v F) : runs P (Builtin.append_ #[t, t] ty #[s.v, x.v]) F Q := by
 have hnil : news = [] := List.eq_nil_of_length_eq_zero (by rw [hn.len, hx, Nat.zero_mul])
 subst hnil
 refine runs_append ht hsz hz hzs ho.rd hn (by simp) (by rw [hx]; exact hfit) (by rw [hx]; exact hlen) (fun _ _ => ?_) (fun h1 => ?_) (fun h1 => ?_)
 ·rw [hx]; exact h
 ·rw [hx] at h1; simp at h1
 ·have := ho.rd.cap; omega
theorem own_app {F0 F : PH} {s x : Sl} {t e size bytes ty : Nat} {z : Value} {P : Program} {olds news : List Value} {Q : Value → PH → Prop} (ht : P.underlying t = some (.slice e)) (hsz : tsz P e = some (size, bytes)) (hz : tzero P e = some z) (hzs : z.cells.size = size) (hs0 : 0 < size)
  (hle : F0.le F) (ho : OwnS F e size s olds) (hnew : ∀ a, s.base = some a → F0 a.block = none) (hn : RdS F x size news) (hst : ∀ v ∈ news, storable v) (hfit : (s.len + x.len) * bytes ≤ 140737488355328) (hlen : s.len + x.len ≤ 9223372036854775807)
  (h : ∀ s' F', F0.le F' → OwnS F' e size s' (olds ++ news) → s'.len = s.len + x.len → (∀ a, s'.base = some a → F0 a.block = none) → Keep (fun b => ∃ a, s.base = some a ∧ a.block = b) F F' → (∀ a, s'.base = some a → (∃ a', s.base = some a' ∧ a'.block = a.block) ∨ F a.block = none) → Q s'.v F') :
  runs P (Builtin.append_ #[t, t] ty #[s.v, x.v]) F Q := by
 by_cases h0 : x.len = 0
 ·have hnil : news = [] := List.eq_nil_of_length_eq_zero (by rw [hn.len, h0, Nat.zero_mul])
  refine own_append0 ht hsz hz hzs ho hn h0 (by rw [h0] at hfit; exact hfit) (by omega) ?_
  refine h s F hle (by rw [hnil, List.append_nil]; exact ho) (by omega) hnew (Keep.refl _ _) (fun a ha => .inl ⟨a, ha, rfl⟩)
 ·refine own_append ht hsz hz hzs hs0 ho hn (by omega) hst hfit hlen ?_
  rintro s' F' b ob rfl ho' hl' hbase hb
  have hb0 : F0 b = none := by
   rcases hb with ⟨a, ha, rfl⟩ | hb
   ·exact hnew a ha
   ·exact le_none hle hb
  refine h s' _ (fun y o hy => ?_) ho' hl' (fun a ha => by rw [hbase a ha]; exact hb0) (fun y o hy hn => ?_) (fun a ha => ?_)
  ·rw [set_ne _ _ (fun e => by rw [e, hb0] at hy; cases hy)]; exact hle _ _ hy
  ·rw [set_ne]
   ·exact hy
   ·rintro rfl
    rcases hb with hb | hb
    ·exact hn hb
    ·rw [hb] at hy; cases hy
  ·rw [hbase a ha]
   exact hb
theorem row_whole {F : PH} {b e : Nat} {c : Array Value} {fr : Nat × Nat} (h : F b = some (.cells c e fr)) : F.row (Addr.mk b 0 none) c := by
 intro i hi
 rw [add_mk, cell_eq h]
 simp
theorem le_set_new {F0 F : PH} {b : Nat} {o : Obj} (h : F0.le F) (hb : F0 b = none) : F0.le (F.set b o) := fun y o' hy => by
 rw [set_ne _ _ (fun e => by rw [e, hb] at hy; cases hy)]
 exact h _ _ hy
theorem Spec.upon {P : Program} {f : FuncId} {args : Array Value} {F F2 : PH} {R : Value → PH → Prop} (h : Spec P f args F R) (hle : F.le F2) :
  Spec P f args F2 fun v F' => ∃ G, R v G ∧ G.le F' ∧ ∀ b o, F b = none → F2 b = some o → F' b = some o ∧ G b = none := by
 have e : F2 = F.and (fun b => if (F b).isNone then F2 b else none) := by
  funext b
  cases hf : F b with
  | some o => rw [PH.and_left hf]; exact hle b o hf
  | none => rw [PH.and_right hf]; simp [hf]
 have hb := h.beside (H := fun b => if (F b).isNone then F2 b else none) (fun b o hb => by
  cases hf : F b with
  | some o' => simp [hf] at hb
  | none => rfl)
 rw [← e] at hb
 refine hb.mono ?_
 rintro v F' ⟨G, hr, rfl, hd⟩
 refine ⟨G, hr, fun b o hb => PH.and_left hb, fun b o hb ho => ?_⟩
 have hH : (fun b => if (F b).isNone then F2 b else none) b = some o := by simp [hb, ho]
 have hG := hd b o hH
 exact ⟨(PH.and_right hG).trans hH, hG⟩
end Go.Proofs.Ytelkfnmdnbbniaa
