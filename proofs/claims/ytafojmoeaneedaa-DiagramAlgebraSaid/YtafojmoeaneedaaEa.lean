/-
  The diagrams: how memory represents them; the level of a number, the two sides, equality.
-/
import Derived.Test.YtafojmoeaneedaaPhn
import Derived.Test.YtafojmoeaneedaaRb
import Derived.Test.YtafojmoeaneedaaGa
namespace Go.Proofs.Ytafojmoeaneedaa
open Go Go.Proofs.Try Tr

abbrev vi (n : Int) : Value := .int .i64 n
abbrev Fit (n : Nat) : Prop := n ≤ 1000000000000
def bcells (b : Br) : List Value := [vi b.v, vi b.l, vi b.h]
def bflat (l : List Br) : List Value := l.flatMap bcells
abbrev barr (b : Br) : Array Value := #[vi b.v, vi b.l, vi b.h]

theorem bflat_length (l : List Br) : (bflat l).length = l.length * 3 := by
  induction l with
  | nil => rfl
  | cons b l ih => simp only [bflat, List.flatMap_cons, List.length_append, List.length_cons] at ih ⊢; rw [ih]; simp [bcells]; omega
theorem bflat_append (l m : List Br) : bflat (l ++ m) = bflat l ++ bflat m := by simp [bflat]
theorem bflat_get : ∀ (l : List Br) (i : Nat) (hi : i < l.length), ((bflat l).drop (i * 3)).take 3 = bcells l[i]
  | b :: l, 0, _ => by simp [bflat, bcells]
  | b :: l, i + 1, hi => by
    have e : (i + 1) * 3 = 3 + i * 3 := by omega
    have : bflat (b :: l) = bcells b ++ bflat l := by simp [bflat]
    rw [this, e, ← List.drop_drop, List.drop_left' (by simp [bcells])]
    simpa using bflat_get l i (by simpa using hi)
theorem st_bflat (l : List Br) : ∀ v ∈ bflat l, storable v := by
  intro v hv
  obtain ⟨b, _, hb⟩ := List.mem_flatMap.1 hv
  simp only [bcells, List.mem_cons, List.not_mem_nil, or_false] at hb
  rcases hb with rfl | rfl | rfl <;> exact st_int
theorem st_barr (b : Br) : ∀ v ∈ (barr b).toList, storable v := by
  intro v hv
  simp only [List.mem_cons, List.not_mem_nil, or_false] at hv
  rcases hv with rfl | rfl | rfl <;> exact st_int

theorem RdS.blen {F : PH} {s : Sl} {l : List Br} (h : RdS F s 3 (bflat l)) : s.len = l.length := by have := h.len; rw [bflat_length] at this; omega
theorem rdb {F : PH} {s : Sl} {l : List Br} (h : RdS F s 3 (bflat l)) {i : Nat} {x : Br} (hx : l[i]? = some x) : ∃ a, s.base = some a ∧ F.row (a.add (i * 3)) (barr x) ∧
    F.cell (a.add (i * 3)) = some (vi x.v) ∧ F.cell ((a.add (i * 3)).add 1) = some (vi x.l) ∧ F.cell ((a.add (i * 3)).add 2) = some (vi x.h) := by
  obtain ⟨hi, hx⟩ := List.getElem?_eq_some_iff.1 hx
  subst hx
  have hlen := h.blen
  obtain ⟨b, o, hb, _⟩ := h.cells (by omega)
  have hr := h.row hb (i * 3) (barr l[i]) (by
    have := bflat_get l i hi
    simpa [barr, bcells] using this.symm)
  refine ⟨_, hb, hr, ?_, ?_, ?_⟩
  · have := hr 0 (by simp); simpa using this
  · have := hr 1 (by simp); simpa using this
  · have := hr 2 (by simp); simpa using this

/-- A diagram in memory. -/
def DV (F : PH) (v : Array Value) (d : Dia) : Prop := ∃ s : Sl, v = #[s.v, vi d.2] ∧ RdS F s 3 (bflat d.1)
theorem DV.le {F G : PH} {v : Array Value} {d : Dia} (h : DV F v d) (hl : F.le G) : DV G v d := by
  obtain ⟨s, h1, h2⟩ := h
  exact ⟨s, h1, h2.le hl⟩
theorem DV.size {F : PH} {v : Array Value} {d : Dia} (h : DV F v d) : v.size = 2 := by
  obtain ⟨s, rfl, _⟩ := h
  rfl
theorem DV.st {F : PH} {v : Array Value} {d : Dia} (h : DV F v d) : ∀ x ∈ v.toList, storable x := by
  obtain ⟨s, rfl, _⟩ := h
  intro x hx
  simp only [List.mem_cons, List.not_mem_nil, or_false] at hx
  rcases hx with rfl | rfl
  · exact st_sl
  · exact st_int
theorem PH.le_rfl {F : PH} : F.le F := fun _ _ h => h

theorem brs_pre_get {S : List Tr} {d : List Br} (hp : brs S <+: d) {k : Nat} {t : Tr} (h : S[k]? = some t) : d[k]? = some (br S t) := by
  obtain ⟨r, rfl⟩ := hp
  rw [List.getElem?_append_left (by rw [brs_length]; exact (List.getElem?_eq_some_iff.1 h).1)]
  exact brs_get h
theorem w64m2 {n : Nat} (h : Fit n) (h2 : 2 ≤ n) : IntKind.i64.wrap ((n : Int) - 2) = ((n - 2 : Nat) : Int) := by
  rw [w64_eq (by omega) (by omega)]; omega

section
variable {F : PH} {v : Array Value} {d : Dia} {S : List Tr} {t : Tr}
theorem num_fit (hp : brs S <+: d.1) (ht : inn S t) (hf : Fit (d.1.length + 2)) : Fit (num S t) ∧ num S t ≤ d.1.length + 1 := by
  have h1 := num_le ht
  have h2 := hp.length_le
  rw [brs_length] at h2
  omega
theorem level_spec (hd : DV F v d) (hp : brs S <+: d.1) (ht : inn S t) (hf : Fit (d.1.length + 2)) :
    Spec prog 63 #[.agg v, vi (num S t)] F fun r F' => r = vi t.top ∧ F.le F' := by
  obtain ⟨hfit, hlt⟩ := num_fit hp ht hf
  obtain ⟨s, rfl, hr⟩ := hd
  refine c63 ?_
  unfold b63
  intro b2 hb2
  refine atI ?_
  have hle := le_set_fresh (.cells #[s.v, vi d.2] 28) hb2
  refine ⟨fun h => ?_, fun h => ?_⟩
  · have hl := num_lt2 (S := S) (t := t) (by omega)
    cases t with
    | leaf b => exact ⟨rfl, hle⟩
    | node _ _ _ => cases hl
  · cases t with
    | leaf b => have := num_leaf_le S b; omega
    | node w l r =>
      have hx := brs_pre_get hp (num_get (inn_mem ht rfl) rfl)
      obtain ⟨a, h1, _, h2, _⟩ := rdb (hr.le hle) hx
      have hw := w64m2 hfit (num_ge (S := S) (t := node w l r) rfl)
      have hg := num_ge (S := S) (t := node w l r) rfl
      refine ⟨s, by simp, a, h1, by rw [hw]; omega, by rw [hw, hr.blen]; omega, _, by rw [hw]; exact h2, rfl, hle⟩

theorem sides_spec (hd : DV F v d) (hp : brs S <+: d.1) (ht : inn S t) (hf : Fit (d.1.length + 2)) {w : Nat} (hw : w < 64) :
    Spec prog 98 #[.agg v, vi (num S t), vi w] F fun r F' => r = .tuple #[vi (num S (lo w t)), vi (num S (hi w t))] ∧ F.le F' := by
  obtain ⟨hfit, hlt⟩ := num_fit hp ht hf
  have hd' := hd
  obtain ⟨s, rfl, hr⟩ := hd
  refine c98 ?_
  unfold b98
  intro b3 hb3
  refine atI ?_
  have hle := le_set_fresh (.cells #[s.v, vi d.2] 28) hb3
  refine ⟨_, rfl, row_whole (set_eq _ _ _), ?_⟩
  refine (level_spec (hd'.le hle) hp ht hf).mono ?_
  rintro _ F2 ⟨rfl, hle2⟩
  have hc : F2 b3 = some _ := hle2 _ _ (set_eq _ _ _)
  have hle' : F.le F2 := fun b o h => hle2 b o (hle b o h)
  refine ⟨_, rfl, fun h => ?_, fun h => ?_⟩
  · refine ⟨?_, hle'⟩
    cases t with
    | leaf b => rfl
    | node w' l r =>
      have : ¬ w' = w := fun e => h (by simp [Tr.top, e])
      simp [lo, hi, this]
  · cases t with
    | leaf b => simp only [Tr.top] at h; omega
    | node w' l r =>
      have e : w' = w := by simp only [Tr.top] at h; omega
      subst e
      have hx := brs_pre_get hp (num_get (inn_mem ht rfl) rfl)
      obtain ⟨a, h1, _, _, h3, h4⟩ := rdb (hr.le hle') hx
      have hw := w64m2 hfit (num_ge (S := S) (t := node w' l r) rfl)
      have hg := num_ge (S := S) (t := node w' l r) rfl
      refine ⟨s, by rw [cell_eq hc]; rfl, a, h1, by rw [hw]; omega, by rw [hw, hr.blen]; omega, _, by rw [hw]; exact h3,
        s, by rw [cell_eq hc]; rfl, a, h1, by rw [hw]; omega, by rw [hw, hr.blen]; omega, _, by rw [hw]; exact h4, ?_, hle'⟩
      simp [lo, hi, br]
end

end Go.Proofs.Ytafojmoeaneedaa
