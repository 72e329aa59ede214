/-
  Made: a valid pattern of at most 40 nodes.
-/
import Derived.Test.YtnjcgpihfmklfaaDoorSf
import Derived.Test.YtnjcgpihfmklfaaDoorSg
import Derived.Test.YtnjcgpihfmklfaaDoorQi
import Derived.Test.YtnjcgpihfmklfaaDoorGp
namespace Go.Proofs.YtnjcgpihfmklfaaDoor
open Go Go.Proofs.Tryd
set_option maxRecDepth 10000
structure Ov (e : TypeId) (G F : PH) (s : Sl) (vs : List Value) : Prop where
 le : G.le F
 own : OwnS F e 1 s vs
 oz : ∀ a, s.base = some a → G a.block = none
section
variable {e : TypeId} {G F : PH} {s : Sl} {vs : List Value}
theorem Ov.fresh (h : Ov e G F s vs) {x : Nat} (hx : F x = none) (o : Obj) : Ov e G (F.set x o) s vs :=
 ⟨le_trans' h.le (le_set_fresh o hx), h.own.keep fun a ha => by
  obtain ⟨o', ho⟩ := h.own.some ha
  exact set_ne _ _ (ne_of_fresh hx ho), h.oz⟩
theorem Ov.call {f : FuncId} {args : Array Value} {P : Value → PH → Prop} (h : Ov e G F s vs) (sp : Spec prog f args G P) : Spec prog f args F fun r F' => ∃ G', P r G' ∧ Ov e G' F' s vs :=
 (sp.upon h.le).mono fun r F' ⟨G', hp, hl, hk⟩ => ⟨G', hp, hl, h.own.keep fun a ha => by
  obtain ⟨o, ho⟩ := h.own.some ha
  rw [(hk _ _ (h.oz a ha) ho).1, ho], fun a ha => by
  obtain ⟨o, ho⟩ := h.own.some ha
  exact (hk _ _ (h.oz a ha) ho).2⟩
theorem Ov.len (h : Ov e G F s vs) : s.len = vs.length := by have := h.own.rd.len; omega
theorem Ov.push {t bytes : Nat} {z : Value} (ht : prog.underlying t = some (.slice e)) (hsz : tsz prog e = some (1, bytes)) (hz : tzero prog e = some z) (hzs : z.cells.size = 1) (hby : bytes ≤ 64) (h : Ov e G F s vs) {v : Value} (hst : storable v) (hl : s.len ≤ 1000000) {K : Sl → PH → Prop} (k : ∀ s' F', Ov e G F' s' (vs ++ [v]) → K s' F') :
  ∀ x, F x = none → atF (F.set x (.cells #[v] e)) fun F =>
   runs prog (Builtin.append_ #[t, t] t #[(Sl.v s), (Sl.v (Sl.mk (some (Addr.mk x 0 none)) 1 1))]) F fun v F => ∃ s' : Sl, v = (Sl.v s') ∧ K s' F := by
 intro x hx
 refine atI ?_
 have h1 := h.fresh hx (.cells #[v] e)
 have q1 := set_eq F x (.cells #[v] e)
 generalize F.set x (.cells #[v] e) = F1 at *
 have hb : (s.len + 1) * bytes ≤ 1000001 * 64 := Nat.mul_le_mul (by omega) hby
 refine own_app (F0 := G) (x := ⟨some ⟨x, 0, none⟩, 1, 1⟩) (news := [v]) ht hsz hz hzs (by decide) h1.le h1.own h1.oz (RdS.new q1 rfl rfl (Nat.le_refl _)) (fun w hw => by rw [List.mem_singleton] at hw; subst hw; exact hst) (by simp only; omega) (by simp only; omega) ?_
 intro s' F2 le2 ho2 hl2 hnew keep hsome
 exact ⟨s', rfl, k s' F2 ⟨le2, ho2, hnew⟩⟩
theorem Ov.cut (h : Ov e G F s vs) {k : Nat} (hk : k ≤ s.len) (hne : s ≠ Sl.nil) : Ov e G F (Sl.cut s 1 0 k s.cap) (vs.take k) := by
 rcases h.own with ⟨rfl, _⟩ | ⟨b, cur, h1, h2, h3, h4, h5, h6⟩
 ·exact absurd rfl hne
 ·have hb : (Sl.cut s 1 0 k s.cap).base = s.base := by
   unfold Sl.cut
   simp only [Nat.zero_mul]
   split
   ·rfl
   ·rw [h1]; rfl
  refine ⟨h.le, .inr ⟨b, cur, by rw [hb]; exact h1, h2, by simp only [Sl.cut]; omega, by simp only [Sl.cut]; omega, ?_, ?_⟩, fun a ha => h.oz a (by rw [← hb]; exact ha)⟩
  ·rw [List.length_take]
   simp only [Sl.cut]
   omega
  ·rw [← h6, List.take_take]
   simp only [Sl.cut]
   congr 1
   omega
theorem Ov.put (h : Ov e G F s vs) {i : Nat} (hi : i < s.len) (v : Value) {K : PH → Prop} (k : ∀ F', Ov e G F' s (vs.set i v) → K F') :
  ∃ a : Addr, s.base = some a ∧ ∃ c e, F (Addr.add a (i * 1)).block = some (.cells c e (0, 0)) ∧ (Addr.add a (i * 1)).spot = none ∧ (Addr.add a (i * 1)).off < c.size ∧
   atF (F.set (Addr.add a (i * 1)).block (.cells (c.setIfInBounds (Addr.add a (i * 1)).off v) e)) K := by
 rcases h.own with ⟨rfl, _⟩ | ⟨b, cur, h1, h2, h3, h4, h5, h6⟩
 ·simp [Sl.nil] at hi
 ·have ea : (Addr.mk b 0 none).add (i * 1) = ⟨b, i, none⟩ := by rw [add_off, Nat.zero_add, Nat.mul_one]
  refine ⟨_, h1, ?_⟩
  rw [ea]
  refine st1 (o := i) h2 (by omega) (k _ ?_)
  refine ⟨fun y o hy => (set_ne _ _ (fun e => by rw [e, h.oz _ h1] at hy; cases hy)).trans (h.le y o hy), .inr ⟨b, _, h1, set_eq _ _ _, by simpa using h3, h4, by simpa using h5, ?_⟩, h.oz⟩
  rw [← h6, Array.toList_setIfInBounds, List.take_set]
end
theorem sz25' : tsz prog 25 = some (1, 24) := by kernel_rfl
theorem zr25' : tzero prog 25 = some (.slice none 0 0) := by kernel_rfl
theorem rep_nodes (t : Pat) : t.nodes 0 ++ [⟨4, 0, 0, ((t.nodes 0).length : Int) - 1, 0⟩] = (Pat.rep t).nodes 0 := by
 have := t.size_pos
 rw [t.nodes_length, Pat.nodes, show ((0 + t.size - 1 : Nat) : Int) = (t.size : Int) - 1 by omega]
def Rds (G : PH) (L : List (Sl × Pat)) : Prop := ∀ x ∈ L, RdS G x.1 5 (nflat (x.2.nodes 0)) ∧ x.2.byt
def szs (L : List (Sl × Pat)) : Nat := (L.map fun x => x.2.size + 1).sum
theorem szs_append (a b : List (Sl × Pat)) : szs (a ++ b) = szs a + szs b := by simp [szs]
theorem szs_one (x : Sl × Pat) : szs [x] = x.2.size + 1 := by simp [szs]
theorem szs_len : ∀ (L : List (Sl × Pat)), 2 * L.length ≤ szs L
 | [] => by simp [szs]
 | x :: L => by
  have := szs_len L
  have := x.2.size_pos
  rw [show x :: L = [x] ++ L from rfl, szs_append, szs_one, List.length_append, List.length_singleton]
  omega
def svs (L : List (Sl × Pat)) : List Value := L.map fun x => x.1.v
theorem Rds.le {G G' : PH} {L : List (Sl × Pat)} (h : Rds G L) (hl : G.le G') : Rds G' L := fun x hx => ⟨(h x hx).1.le hl, (h x hx).2⟩
def kI1 (F0 : PH) (L : List (Sl × Pat)) : Nat → Sl → Int → PH → Prop := fun m o i F' =>
 ∃ (w : Nat) (t : Pat), i = w ∧ 1 ≤ w ∧ w ≤ L.length ∧ m = L.length - w ∧ F0.le F' ∧ t.byt ∧ t.size + 1 = szs (L.take w) ∧ RdS F' o 5 (nflat (t.nodes 0))
section
variable {F0 : PH}
theorem svs_cell {G F1 : PH} {s : Sl} {L : List (Sl × Pat)} (h : Ov 25 G F1 s (svs L)) {i : Nat} {x : Sl × Pat} (hx : L[i]? = some x) : ∃ a, s.base = some a ∧ F1.cell (a.add (i * 1)) = some x.1.v := by
 have hlen : s.len = L.length := by rw [h.len]; simp [svs]
 have hi := (List.getElem?_eq_some_iff.1 hx).1
 obtain ⟨b, o, hb, hc⟩ := h.own.rd.cells (by omega)
 refine ⟨_, hb, ?_⟩
 have hlt : i < (svs L).length := by simpa [svs] using hi
 have := hc i hlt
 rw [add_off, Nat.mul_one, this]
 simp [svs, (List.getElem?_eq_some_iff.1 hx).2]
theorem szs_take {L : List (Sl × Pat)} {w : Nat} {x : Sl × Pat} (hx : L[w]? = some x) : szs (L.take (w + 1)) = szs (L.take w) + (x.2.size + 1) := by
 rw [List.take_add_one, hx, szs_append]
 simp [szs]
end
end Go.Proofs.YtnjcgpihfmklfaaDoor
