/-
  The reference's reader: repetitions and joins of patterns.
-/
import Derived.Test.YtnjcgpihfmklfaaDoorQg
import Derived.Test.YtnjcgpihfmklfaaDoorGb
namespace Go.Proofs.YtnjcgpihfmklfaaDoor
open Go Go.Proofs.Tryd
set_option maxRecDepth 10000
section
variable {F : PH}
theorem rdn {s : Sl} {l : List Nd} (h : RdS F s 5 (nflat l)) {i : Nat} {x : Nd} (hx : l[i]? = some x) : ∃ a, s.base = some a ∧ F.row (a.add (i * 5)) x.arr := by
 obtain ⟨hi, hx⟩ := List.getElem?_eq_some_iff.1 hx
 subst hx
 have hlen := h.nlen
 obtain ⟨b, o, hb, _⟩ := h.cells (by omega)
 exact ⟨_, hb, h.row hb (i * 5) l[i].arr (by
  have := nflat_get l i hi
  simpa [Nd.arr, Nd.cells] using this.symm)⟩
theorem empty_ref (F : PH) : Spec prog 38 #[] F fun r F' => PatV F' r (Pat.emp.nodes 0) ∧ F.le F' := by
 refine c38 ?_
 unfold b38
 refine ⟨rfl, fun b hb => ?_⟩
 exact atI ⟨⟨_, rfl, RdS.new (set_eq _ _ _) rfl rfl (Nat.le_refl _)⟩, le_set_fresh _ hb⟩
theorem one_ref (F : PH) (lo hi : Int) : Spec prog 39 #[vi lo, vi hi] F fun r F' => PatV F' r [⟨1, lo, hi, 0, 0⟩] ∧ F.le F' := by
 refine c39 ?_
 unfold b39
 refine ⟨rfl, fun b hb => ?_⟩
 exact atI ⟨⟨_, rfl, RdS.new (set_eq _ _ _) rfl rfl (Nat.le_refl _)⟩, le_set_fresh _ hb⟩
def opsN (k : Int) : Int := if k = 4 then 1 else if k = 2 ∨ k = 3 then 2 else 0
def knownK (k : Int) : Bool := decide (0 ≤ k ∧ k ≤ 4)
theorem operands_spec (F : PH) (k : Int) : Spec prog 52 #[vi k] F fun r F' => r = .tuple #[vi (opsN k), .bool (knownK k)] ∧ F' = F := by
 refine c52 ?_
 unfold b52
 have j1 : ∀ t : Bool, t = decide (k = 0 ∨ k = 1) → b52j1 k t (fun r F' => r = .tuple #[vi (opsN k), .bool (knownK k)] ∧ F' = F) F := fun t ht => by
  unfold b52j1
  refine ⟨fun h => ⟨?_, rfl⟩, fun h => ?_⟩
  ·have := of_decide_eq_true (ht.symm.trans h)
   have e1 : opsN k = 0 := by unfold opsN; rw [if_neg (by omega), if_neg (by omega)]
   have e2 : knownK k = true := by unfold knownK; simp; omega
   rw [e1, e2]
  ·have h01 := of_decide_eq_false (ht.symm.trans h)
   refine ⟨fun h4 => ⟨?_, rfl⟩, fun h4 => ⟨fun h2 => ⟨fun _ => ⟨?_, rfl⟩, fun h => absurd h2 h⟩, fun h2 => ⟨fun h3 => ⟨?_, rfl⟩, fun h3 => ⟨?_, rfl⟩⟩⟩⟩
   ·have e1 : opsN k = 1 := by unfold opsN; rw [if_pos (by omega)]
    have e2 : knownK k = true := by unfold knownK; simp; omega
    rw [e1, e2]
   ·have e1 : opsN k = 2 := by unfold opsN; rw [if_neg (by omega), if_pos (by omega)]
    have e2 : knownK k = true := by unfold knownK; simp; omega
    rw [e1, e2]
   ·have e1 : opsN k = 2 := by unfold opsN; rw [if_neg (by omega), if_pos (by omega)]
    have e2 : knownK k = true := by unfold knownK; simp; omega
    rw [e1, e2]
   ·have e1 : opsN k = 0 := by unfold opsN; rw [if_neg (by omega), if_neg (by omega)]
    have e2 : knownK k = false := by unfold knownK; simp; omega
    rw [e1, e2]
 refine ⟨fun h => j1 _ ?_, fun h => j1 _ ?_⟩
 ·rw [Bool.eq_iff_iff]; simp; omega
 ·rw [Bool.eq_iff_iff]; simp; omega
end
def shN (o : Nat) (x : Nd) : Nd := ⟨x.k, x.lo, x.hi, if 1 ≤ opsN x.k then IntKind.i64.wrap (x.a + o) else x.a, if 2 ≤ opsN x.k then IntKind.i64.wrap (x.b + o) else x.b⟩
def joinL (k : Int) (p q : List Nd) : List Nd := p ++ q.map (shN p.length) ++ [⟨k, 0, 0, (p.length : Int) - 1, (p.length : Int) + q.length - 1⟩]
theorem shN_nodes (o : Nat) : ∀ (t : Pat) (e : Nat), e + t.size + o ≤ 1000000 → (t.nodes e).map (shN o) = t.nodes (e + o)
 | .emp, e, _ => by simp [Pat.nodes, shN, opsN]
 | .rng lo hi, e, _ => by simp [Pat.nodes, shN, opsN]
 | .seq x y, e, h => by
  simp only [Pat.size] at h
  have hx := x.size_pos
  have hy := y.size_pos
  have e1 := shN_nodes o x e (by omega)
  have e2 := shN_nodes o y (e + x.size) (by omega)
  simp only [Pat.nodes, List.map_append, e1, e2, List.map_cons, List.map_nil]
  rw [show e + x.size + o = e + o + x.size by omega]
  congr 2
  simp only [shN, opsN]
  simp
  rw [w64_eq (by omega) (by omega), w64_eq (by omega) (by omega)]
  omega
 | .alt x y, e, h => by
  simp only [Pat.size] at h
  have hx := x.size_pos
  have hy := y.size_pos
  have e1 := shN_nodes o x e (by omega)
  have e2 := shN_nodes o y (e + x.size) (by omega)
  simp only [Pat.nodes, List.map_append, e1, e2, List.map_cons, List.map_nil]
  rw [show e + x.size + o = e + o + x.size by omega]
  congr 2
  simp only [shN, opsN]
  simp
  rw [w64_eq (by omega) (by omega), w64_eq (by omega) (by omega)]
  omega
 | .rep x, e, h => by
  simp only [Pat.size] at h
  have hx := x.size_pos
  have e1 := shN_nodes o x e (by omega)
  simp only [Pat.nodes, List.map_append, e1, List.map_cons, List.map_nil]
  congr 2
  simp only [shN, opsN]
  simp
  rw [w64_eq (by omega) (by omega)]
  omega
theorem joinL_seq (x y : Pat) (h : x.size + y.size ≤ 1000000) : joinL 2 (x.nodes 0) (y.nodes 0) = (Pat.seq x y).nodes 0 := by
 have hx := x.size_pos
 have hy := y.size_pos
 unfold joinL
 rw [Pat.nodes_length, Pat.nodes_length, shN_nodes x.size y 0 (by omega)]
 simp only [Pat.nodes, Nat.zero_add]
 congr 3 <;> omega
theorem joinL_alt (x y : Pat) (h : x.size + y.size ≤ 1000000) : joinL 3 (x.nodes 0) (y.nodes 0) = (Pat.alt x y).nodes 0 := by
 have hx := x.size_pos
 have hy := y.size_pos
 unfold joinL
 rw [Pat.nodes_length, Pat.nodes_length, shN_nodes x.size y 0 (by omega)]
 simp only [Pat.nodes, Nat.zero_add]
 congr 3 <;> omega
section
variable {F : PH}
theorem repeat_ref {s : Sl} {l : List Nd} (h : RdS F s 5 (nflat l)) (hl : l.length ≤ 1000000) : Spec prog 40 #[s.v] F fun r F' => PatV F' r (l ++ [⟨4, 0, 0, (l.length : Int) - 1, 0⟩]) ∧ F.le F' := by
 have hlen := h.nlen
 refine c40 ?_
 unfold b40
 intro b4 hb4
 refine atI ?_
 have l4 := le_set_fresh (.cells #[] 50) hb4
 have q4 := set_eq F b4 (.cells #[] 50)
 generalize F.set b4 (.cells #[] 50) = F4 at *
 have ho : OwnS F4 50 5 ⟨some ⟨b4, 0, none⟩, 0, 0⟩ (nflat []) := .inr ⟨b4, #[], rfl, q4, rfl, Nat.le_refl _, rfl, rfl⟩
 refine own_app (F0 := F) underlying25 sz50' zr50' rfl (by decide) l4 ho (fun a ha => by cases ha; exact hb4) (h.le l4) (st_nflat l) (by simp only; omega) (by simp only; omega) ?_
 intro s' F5 le5 ho5 hl5 hnew5 _ _
 refine ⟨s', rfl, rfl, fun b12 hb12 => ?_⟩
 refine atI ?_
 have e1 : IntKind.i64.wrap ((s.len : Int) - 1) = (l.length : Int) - 1 := by rw [hlen, w64_eq (by omega) (by omega)]
 rw [e1]
 have q12 := set_eq F5 b12 (.cells (Nd.arr ⟨4, 0, 0, (l.length : Int) - 1, 0⟩) 50)
 have l12 := le_set_new (o := .cells (Nd.arr ⟨4, 0, 0, (l.length : Int) - 1, 0⟩) 50) le5 (le_none le5 hb12)
 have ho12 : OwnS (F5.set b12 (.cells (Nd.arr ⟨4, 0, 0, (l.length : Int) - 1, 0⟩) 50)) 50 5 s' (nflat [] ++ nflat l) := ho5.keep fun a ha => by
  obtain ⟨o', ho'⟩ := ho5.some ha
  exact set_ne _ _ (ne_of_fresh hb12 ho')
 refine own_app (F0 := F) (x := ⟨some ⟨b12, 0, none⟩, 1, 1⟩) (news := Nd.cells ⟨4, 0, 0, (l.length : Int) - 1, 0⟩) underlying25 sz50' zr50' rfl (by decide) l12 ho12 hnew5 (RdS.new q12 rfl rfl (Nat.le_refl _)) (st_narr _) (by simp only at *; omega) (by simp only at *; omega) ?_
 intro s2 F6 le6 ho6 _ _ _ _
 refine ⟨s2, rfl, ⟨s2, rfl, ?_⟩, le6⟩
 have := ho6.rd
 simpa [nflat_append, nflat_one, nflat] using this
theorem join_ref {s s2 : Sl} {p q : List Nd} (k : Int) (hp : RdS F s 5 (nflat p)) (hq : RdS F s2 5 (nflat q)) (hl1 : p.length ≤ 1000000) (hl2 : q.length ≤ 1000000) : Spec prog 41 #[vi k, s.v, s2.v] F fun r F' => PatV F' r (joinL k p q) ∧ F.le F' := by
 have hlen := hp.nlen
 have hlen2 := hq.nlen
 refine c41 ?_
 unfold b41
 intro b4 hb4
 refine atI ?_
 have l4 := le_set_fresh (.cells #[] 50) hb4
 have q4 := set_eq F b4 (.cells #[] 50)
 generalize F.set b4 (.cells #[] 50) = F4 at *
 have ho : OwnS F4 50 5 ⟨some ⟨b4, 0, none⟩, 0, 0⟩ (nflat []) := .inr ⟨b4, #[], rfl, q4, rfl, Nat.le_refl _, rfl, rfl⟩
 refine own_app (F0 := F) underlying25 sz50' zr50' rfl (by decide) l4 ho (fun a ha => by cases ha; exact hb4) (hp.le l4) (st_nflat p) (by simp only; omega) (by simp only; omega) ?_
 intro s' F5 le5 ho5 hl5 hnew5 _ _
 rw [show nflat [] ++ nflat p = nflat p from rfl] at ho5
 refine ⟨s', rfl, fun m o i F' => ∃ j : Nat, i = j ∧ j ≤ q.length ∧ m = q.length - j ∧ F.le F' ∧ OwnS F' 50 5 o (nflat (p ++ (q.take j).map (shN p.length))) ∧ ∀ a, o.base = some a → F a.block = none, q.length, ⟨0, rfl, by omega, rfl, le5, by simpa using ho5, hnew5⟩, ?_⟩
 clear hnew5 ho5 le5 l4 q4 hb4 ho
 rintro _ o _ F6 ⟨j, rfl, hj, rfl, le6, ho6, hnew6⟩
 unfold b41L1
 have hol := ho6.rd.nlen
 simp only [List.length_append, List.length_map, List.length_take] at hol
 refine ⟨fun hlt => ?_, fun hge => ?_⟩
 ·have hjl : j < q.length := by omega
  have hx : q[j]? = some q[j] := List.getElem?_eq_getElem hjl
  generalize hxe : q[j] = x at hx
  obtain ⟨a, ha, hrow⟩ := rdn (hq.le le6) hx
  refine ⟨a, ha, by omega, by omega, x.arr, rfl, hrow, fun b9 hb9 => ?_⟩
  refine atI ?_
  refine stW (set_eq _ _ _) rfl rfl (st_narr x) ?_
  rw [set_twice]
  have step : ∀ (y : Nd), y = shN p.length x → b41j3 (fun y1_0 y1_1 F' => ∃ m', m' < q.length - j ∧ ∃ j : Nat, y1_1 = j ∧ j ≤ q.length ∧ m' = q.length - j ∧ F.le F' ∧ OwnS F' 50 5 y1_0 (nflat (p ++ (q.take j).map (shN p.length))) ∧ ∀ a, y1_0.base = some a → F a.block = none) k s s2 o j b9 (fun r F' => PatV F' r (joinL k p q) ∧ F.le F') (F6.set b9 (.cells y.arr 50)) := fun y hy => by
   have q9 := set_eq F6 b9 (.cells y.arr 50)
   have le7 := le_set_new (o := .cells y.arr 50) le6 (le_none le6 hb9)
   have ho7 : OwnS (F6.set b9 (.cells y.arr 50)) 50 5 o (nflat (p ++ (q.take j).map (shN p.length))) := ho6.keep fun a ha => by
    obtain ⟨o', ho'⟩ := ho6.some ha
    exact set_ne _ _ (ne_of_fresh hb9 ho')
   generalize F6.set b9 (.cells y.arr 50) = F7 at *
   unfold b41j3
   refine ⟨y.arr, rfl, row_whole q9, rfl, fun b49 hb49 => ?_⟩
   refine atI ?_
   have q49 := set_eq F7 b49 (.cells y.arr 50)
   have le8 := le_set_new (o := .cells y.arr 50) le7 (le_none le7 hb49)
   have ho8 : OwnS (F7.set b49 (.cells y.arr 50)) 50 5 o (nflat (p ++ (q.take j).map (shN p.length))) := ho7.keep fun a ha => by
    obtain ⟨o', ho'⟩ := ho7.some ha
    exact set_ne _ _ (ne_of_fresh hb49 ho')
   generalize F7.set b49 (.cells y.arr 50) = F8 at *
   refine own_app (F0 := F) (x := ⟨some ⟨b49, 0, none⟩, 1, 1⟩) (news := y.cells) underlying25 sz50' zr50' rfl (by decide) le8 ho8 hnew6 (RdS.new q49 rfl rfl (Nat.le_refl _)) (st_narr _) (by simp only at *; omega) (by simp only at *; omega) ?_
   intro s9 F9 le9 ho9 _ hnew9 _ _
   refine ⟨s9, rfl, q.length - (j + 1), by omega, j + 1, w64s (by omega), hjl, rfl, le9, ?_, hnew9⟩
   rw [← nflat_one, ← nflat_append, hy] at ho9
   rw [List.take_add_one, hx, List.map_append]
   simpa [List.append_assoc] using ho9
  have q9 := set_eq F6 b9 (.cells x.arr 50)
  refine ⟨x.k, by rw [cell_eq q9]; rfl, ?_⟩
  refine (operands_spec _ _).mono ?_
  rintro _ _ ⟨rfl, rfl⟩
  refine ⟨_, _, rfl, fun h1 => ⟨x.a, by rw [cell_eq q9]; rfl, st1 (o := 3) q9 (by simp) ?_⟩, fun h1 => ?_⟩
  ·rw [set_twice]
   have e1 : (x.arr).setIfInBounds 3 (vi (IntKind.i64.wrap (x.a + (s.len : Int)))) = Nd.arr ⟨x.k, x.lo, x.hi, IntKind.i64.wrap (x.a + p.length), x.b⟩ := by rw [hlen]; rfl
   show b41j2 _ k s s2 o j b9 (opsN x.k) _ (F6.set b9 (.cells ((x.arr).setIfInBounds 3 (vi (IntKind.i64.wrap (x.a + (s.len : Int))))) 50))
   rw [e1]
   unfold b41j2
   refine ⟨fun h2 => ⟨x.b, by rw [cell_eq (set_eq _ _ _)]; rfl, st1 (o := 4) (set_eq _ _ _) (by simp) ?_⟩, fun h2 => ?_⟩
   ·rw [set_twice]
    have e2 : (Nd.arr ⟨x.k, x.lo, x.hi, IntKind.i64.wrap (x.a + p.length), x.b⟩).setIfInBounds 4 (vi (IntKind.i64.wrap (x.b + (s.len : Int)))) = Nd.arr ⟨x.k, x.lo, x.hi, IntKind.i64.wrap (x.a + p.length), IntKind.i64.wrap (x.b + p.length)⟩ := by rw [hlen]; rfl
    show b41j3 _ k s s2 o j b9 _ (F6.set b9 (.cells ((Nd.arr ⟨x.k, x.lo, x.hi, IntKind.i64.wrap (x.a + p.length), x.b⟩).setIfInBounds 4 (vi (IntKind.i64.wrap (x.b + (s.len : Int))))) 50))
    rw [e2]
    exact step _ (by unfold shN; rw [if_pos h1, if_pos h2])
   ·exact step _ (by unfold shN; rw [if_pos h1, if_neg h2])
  ·unfold b41j2
   refine ⟨fun h2 => absurd h2 (by omega), fun h2 => step _ ?_⟩
   unfold shN
   rw [if_neg h1, if_neg h2]
 ·obtain rfl : j = q.length := by omega
  rw [List.take_length] at ho6
  unfold b41j1
  refine ⟨rfl, fun b63 hb63 => ?_⟩
  refine atI ?_
  have e1 : IntKind.i64.wrap ((s.len : Int) - 1) = (p.length : Int) - 1 := by rw [hlen, w64_eq (by omega) (by omega)]
  have e2 : IntKind.i64.wrap (IntKind.i64.wrap ((s.len : Int) + (s2.len : Int)) - 1) = (p.length : Int) + q.length - 1 := by rw [hlen, hlen2, w64_eq (x := (p.length : Int) + q.length) (by omega) (by omega), w64_eq (by omega) (by omega)]
  rw [e1, e2]
  have q12 := set_eq F6 b63 (.cells (Nd.arr ⟨k, 0, 0, (p.length : Int) - 1, (p.length : Int) + q.length - 1⟩) 50)
  have l12 := le_set_new (o := .cells (Nd.arr ⟨k, 0, 0, (p.length : Int) - 1, (p.length : Int) + q.length - 1⟩) 50) le6 (le_none le6 hb63)
  have ho12 : OwnS (F6.set b63 (.cells (Nd.arr ⟨k, 0, 0, (p.length : Int) - 1, (p.length : Int) + q.length - 1⟩) 50)) 50 5 o (nflat (p ++ q.map (shN p.length))) := ho6.keep fun a ha => by
   obtain ⟨o', ho'⟩ := ho6.some ha
   exact set_ne _ _ (ne_of_fresh hb63 ho')
  refine own_app (F0 := F) (x := ⟨some ⟨b63, 0, none⟩, 1, 1⟩) (news := Nd.cells ⟨k, 0, 0, (p.length : Int) - 1, (p.length : Int) + q.length - 1⟩) underlying25 sz50' zr50' rfl (by decide) l12 ho12 hnew6 (RdS.new q12 rfl rfl (Nat.le_refl _)) (st_narr _) (by simp only at *; omega) (by simp only at *; omega) ?_
  intro s2' F7 le7 ho7 _ _ _ _
  refine ⟨s2', rfl, ⟨s2', rfl, ?_⟩, le7⟩
  have := ho7.rd
  rw [← nflat_one, ← nflat_append] at this
  exact this
end
end Go.Proofs.YtnjcgpihfmklfaaDoor
