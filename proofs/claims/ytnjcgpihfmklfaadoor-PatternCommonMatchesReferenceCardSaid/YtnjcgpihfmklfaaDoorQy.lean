/-
  The pairs of places of two machines that have a common byte.
-/
import Derived.Test.YtnjcgpihfmklfaaDoorQx
import Derived.Test.YtnjcgpihfmklfaaDoorGi
namespace Go.Proofs.YtnjcgpihfmklfaaDoor
open Go Go.Proofs.Tryd
set_option maxRecDepth 10000
abbrev Pr := Nat × Nat
abbrev parr (p : Pr) : Array Value := #[vi p.1, vi p.2]
def pcells (p : Pr) : List Value := [vi p.1, vi p.2]
def pflat (l : List Pr) : List Value := l.flatMap pcells
theorem pflat_length (l : List Pr) : (pflat l).length = l.length * 2 := by
 induction l with
 | nil => rfl
 | cons b l ih => simp only [pflat, List.flatMap_cons, List.length_append, List.length_cons] at ih ⊢; rw [ih]; simp [pcells]; omega
theorem pflat_append (l m : List Pr) : pflat (l ++ m) = pflat l ++ pflat m := by simp [pflat]
theorem pflat_get : ∀ (l : List Pr) (i : Nat) (hi : i < l.length), ((pflat l).drop (i * 2)).take 2 = pcells l[i]
 | b :: l, 0, _ => by simp [pflat, pcells]
 | b :: l, i + 1, hi => by
  have e : (i + 1) * 2 = 2 + i * 2 := by omega
  have : pflat (b :: l) = pcells b ++ pflat l := by simp [pflat]
  rw [this, e, ← List.drop_drop, List.drop_left' (by simp [pcells])]
  simpa using pflat_get l i (by simpa using hi)
theorem st_parr (p : Pr) : ∀ v ∈ (parr p).toList, storable v := by
 intro v hv
 simp only [List.mem_cons, List.not_mem_nil, or_false] at hv
 rcases hv with rfl | rfl <;> exact st_int
theorem RdS.plen {F : PH} {s : Sl} {l : List Pr} (h : RdS F s 2 (pflat l)) : s.len = l.length := by have := h.len; rw [pflat_length] at this; omega
theorem rdp {F : PH} {s : Sl} {l : List Pr} (h : RdS F s 2 (pflat l)) {i : Nat} {x : Pr} (hx : l[i]? = some x) : ∃ a, s.base = some a ∧ F.row (a.add (i * 2)) (parr x) := by
 obtain ⟨hi, hx⟩ := List.getElem?_eq_some_iff.1 hx
 subst hx
 have hlen := h.plen
 obtain ⟨b, o, hb, _⟩ := h.cells (by omega)
 exact ⟨_, hb, h.row hb (i * 2) (parr l[i]) (by
  have := pflat_get l i hi
  simpa [parr, pcells] using this.symm)⟩
theorem sz92' : tsz prog 92 = some (2, 16) := by kernel_rfl
theorem zr92' : tzero prog 92 = some (.agg #[vi 0, vi 0]) := by kernel_rfl
structure Mt (G F : PH) (b : Nat) (ys : List (Nat × Array Value × TypeId)) (L : List Pr) : Prop where
 ex : ∃ sl : Sl, Lo G F ((b, #[sl.v], 89) :: ys) ∧ OwnS F 92 2 sl (pflat L) ∧ ∀ a, sl.base = some a → G a.block = none ∧ a.block ≠ b ∧ ∀ p ∈ ys, p.1 ≠ a.block
section
variable {G F : PH} {b : Nat} {ys : List (Nat × Array Value × TypeId)} {L : List Pr}
theorem Mt.le (h : Mt G F b ys L) : G.le F := h.ex.elim fun _ h => h.1.le
theorem Mt.cell (h : Mt G F b ys L) {c i : Nat} {w : Array Value} {e : TypeId} (hm : (c, w, e) ∈ ys) : F.cell (Addr.mk c i none) = w[i]? := h.ex.elim fun _ h => h.1.cell (List.mem_cons_of_mem _ hm)
theorem Mt.row (h : Mt G F b ys L) {c : Nat} {w : Array Value} {e : TypeId} (hm : (c, w, e) ∈ ys) : F.row (Addr.mk c 0 none) w := h.ex.elim fun _ h => h.1.row (List.mem_cons_of_mem _ hm)
theorem Mt.new (h : Mt G F b ys L) (c : Array Value) (e : TypeId) {x : Nat} (hx : F x = none) : Mt G (F.set x (.cells c e)) b ((x, c, e) :: ys) L := by
 obtain ⟨sl, hL, ho, hs⟩ := h.ex
 have hL' := hL.new' c e hx
 refine ⟨sl, ⟨hL'.le, fun p hp => hL'.z p (by simp only [List.mem_cons] at hp ⊢; rcases hp with h | h | h <;> simp [h]), ?_⟩, ho.keep fun a ha => ?_, fun a ha => ⟨(hs a ha).1, (hs a ha).2.1, fun p hp => ?_⟩⟩
 ·have nd := hL'.nd
  simp only [List.map_cons, List.nodup_cons, List.mem_cons, not_or] at nd ⊢
  exact ⟨⟨fun e => nd.1.1 e.symm, nd.2.1⟩, nd.1.2, nd.2.2⟩
 ·obtain ⟨o, ho'⟩ := ho.some ha
  exact set_ne _ _ (ne_of_fresh hx ho')
 ·rcases List.mem_cons.1 hp with rfl | hp
  ·obtain ⟨o, ho'⟩ := ho.some ha
   exact (ne_of_fresh hx ho').symm
  ·exact (hs a ha).2.2 p hp
theorem Mt.drop {p : Nat × Array Value × TypeId} (h : Mt G F b (p :: ys) L) : Mt G F b ys L := by
 obtain ⟨sl, hL, ho, hs⟩ := h.ex
 exact ⟨sl, hL.sub (.cons_cons _ (.cons _ (List.Sublist.refl _))), ho, fun a ha => ⟨(hs a ha).1, (hs a ha).2.1, fun q hq => (hs a ha).2.2 q (List.mem_cons_of_mem _ hq)⟩⟩
theorem Mt.push (h : Mt G F b ys L) (p : Pr) (hl : L.length ≤ 1000000) {K : PH → Prop} (k : ∀ F', Mt G F' b ys (L ++ [p]) → K F') :
  ∃ v_41 : Sl, F.cell (Addr.mk b 0 none) = some (Sl.v v_41) ∧ ∀ b45, F b45 = none → atF (F.set b45 (.cells (parr p) 92)) fun F =>
   runs prog (Builtin.append_ #[89, 89] 89 #[(Sl.v v_41), (Sl.v (Sl.mk (some (Addr.mk b45 0 none)) 1 1))]) F fun v F => ∃ v_46 : Sl, v = (Sl.v v_46) ∧
   ∃ c e, F (Addr.mk b 0 none).block = some (.cells c e (0, 0)) ∧ (Addr.mk b 0 none).spot = none ∧ (Addr.mk b 0 none).off < c.size ∧
   atF (F.set (Addr.mk b 0 none).block (.cells (c.setIfInBounds (Addr.mk b 0 none).off (Sl.v v_46)) e)) K := by
 obtain ⟨sl, hL, ho, hs⟩ := h.ex
 refine ⟨sl, by rw [hL.cell (b := b) (w := #[sl.v]) (e := 89) (by simp)]; rfl, fun c hc => ?_⟩
 refine atI ?_
 have l1 := le_set_fresh (.cells (parr p) 92) hc
 have q1 := set_eq F c (.cells (parr p) 92)
 have hL1 := hL.le' l1
 have ho1 : OwnS (F.set c (.cells (parr p) 92)) 92 2 sl (pflat L) := ho.keep fun a ha => by
  obtain ⟨o, ho'⟩ := ho.some ha
  exact set_ne _ _ (ne_of_fresh hc ho')
 generalize F.set c (.cells (parr p) 92) = F1 at *
 have hlen := ho1.rd.plen
 refine own_app (F0 := G) (x := ⟨some ⟨c, 0, none⟩, 1, 1⟩) (news := pcells p) underlying89 sz92' zr92' rfl (by decide) hL1.le ho1 (fun a ha => (hs a ha).1) (RdS.new q1 rfl rfl (Nat.le_refl _)) (st_parr p) (by simp only; omega) (by simp only; omega) ?_
 intro s' F2 le2 ho2 hl2 hnew keep hsome
 have hz : ∀ q ∈ ((b, #[sl.v], 89) :: ys : List (Nat × Array Value × TypeId)), F2 q.1 = some (.cells q.2.1 q.2.2) ∧ G q.1 = none := fun q hq => by
  obtain ⟨h1, h2⟩ := hL1.z q hq
  refine ⟨keep _ _ h1 fun ⟨a, ha, e⟩ => ?_, h2⟩
  rcases List.mem_cons.1 hq with rfl | hq
  ·exact (hs a ha).2.1 e
  ·exact (hs a ha).2.2 q hq e.symm
 have hL2 : Lo G F2 ((b, #[sl.v], 89) :: ys) := ⟨le2, hz, hL1.nd⟩
 refine ⟨s', rfl, ?_⟩
 have qb := hL2.get (b := b) (w := #[sl.v]) (e := 89) (by simp)
 refine st1 (o := 0) qb (by simp) ?_
 have hb : ∀ a, s'.base = some a → a.block ≠ b ∧ ∀ q ∈ ys, q.1 ≠ a.block := fun a ha => by
  rcases hsome a ha with ⟨a', ha', e⟩ | hf
  ·rw [← e]
   exact ⟨(hs a' ha').2.1, (hs a' ha').2.2⟩
  ·exact ⟨fun e => (by rw [e, hL1.get (b := b) (w := #[sl.v]) (e := 89) (by simp)] at hf; cases hf), fun q hq e => (by rw [← e, (hL1.z q (List.mem_cons_of_mem _ hq)).1] at hf; cases hf)⟩
 refine k _ ⟨s', Lo.upd [] ys (w := #[s'.v]) hL2 (set_eq _ _ _) (Keep.set _ (.inl rfl)), ?_, fun a ha => ⟨hnew a ha, hb a ha⟩⟩
 have e : pflat (L ++ [p]) = pflat L ++ pcells p := by rw [pflat_append]; simp [pflat]
 rw [e]
 exact ho2.keep fun a ha => set_ne _ _ (hb a ha).1
end
def cmP (l1 l2 : List Nd) (i j : Nat) : Prop := ∃ x y, l1[i]? = some x ∧ l2[j]? = some y ∧ max x.lo y.lo ≤ min x.hi y.hi
open Classical in
noncomputable def cmB (l1 l2 : List Nd) (i j : Nat) : Bool := decide (cmP l1 l2 i j)
theorem cmB_iff {l1 l2 : List Nd} {i j : Nat} : cmB l1 l2 i j = true ↔ cmP l1 l2 i j := by simp [cmB]
noncomputable def row1 (l1 l2 : List Nd) (i : Nat) (Q : Nat → Bool) (k : Nat) : List Pr := ((List.range k).filter fun j => Q j && cmB l1 l2 i j).map fun j => (i, j)
noncomputable def meetL (l1 l2 : List Nd) (P Q : Nat → Bool) (m : Nat) : List Pr := (List.range m).flatMap fun i => if P i then row1 l1 l2 i Q 512 else []
theorem row1_succ (l1 l2 : List Nd) (i : Nat) (Q : Nat → Bool) (k : Nat) : row1 l1 l2 i Q (k + 1) = row1 l1 l2 i Q k ++ if Q k && cmB l1 l2 i k then [(i, k)] else [] := by
 unfold row1
 rw [List.range_succ, List.filter_append, List.map_append]
 congr 1
 by_cases h : (Q k && cmB l1 l2 i k) = true
 ·rw [if_pos h, List.filter_cons_of_pos (p := fun j => Q j && cmB l1 l2 i j) h]
  rfl
 ·rw [if_neg h, List.filter_cons_of_neg (p := fun j => Q j && cmB l1 l2 i j) h]
  rfl
theorem row1_len (l1 l2 : List Nd) (i : Nat) (Q : Nat → Bool) (k : Nat) : (row1 l1 l2 i Q k).length ≤ k := by
 unfold row1
 rw [List.length_map]
 have := List.length_filter_le (fun j => Q j && cmB l1 l2 i j) (List.range k)
 rwa [List.length_range] at this
theorem meetL_succ (l1 l2 : List Nd) (P Q : Nat → Bool) (m : Nat) : meetL l1 l2 P Q (m + 1) = meetL l1 l2 P Q m ++ if P m then row1 l1 l2 m Q 512 else [] := by
 unfold meetL
 rw [List.range_succ, List.flatMap_append, List.flatMap_cons, List.flatMap_nil, List.append_nil]
theorem meetL_len (l1 l2 : List Nd) (P Q : Nat → Bool) : ∀ m, (meetL l1 l2 P Q m).length ≤ m * 512
 | 0 => by simp [meetL]
 | m + 1 => by
  have := meetL_len l1 l2 P Q m
  have := row1_len l1 l2 m Q 512
  rw [meetL_succ, List.length_append]
  split
  ·omega
  ·simp
   omega
theorem meetL_mem {l1 l2 : List Nd} {P Q : Nat → Bool} {p : Pr} : p ∈ meetL l1 l2 P Q 512 ↔ (p.1 < 512 ∧ P p.1 = true) ∧ (p.2 < 512 ∧ Q p.2 = true) ∧ cmP l1 l2 p.1 p.2 := by
 unfold meetL row1
 simp only [List.mem_flatMap, List.mem_range]
 constructor
 ·rintro ⟨i, hi, hp⟩
  split at hp
  ·rename_i hP
   obtain ⟨j, hj, rfl⟩ := List.mem_map.1 hp
   simp only [List.mem_filter, List.mem_range, Bool.and_eq_true, cmB_iff] at hj
   exact ⟨⟨hi, hP⟩, ⟨hj.1, hj.2.1⟩, hj.2.2⟩
  ·cases hp
 ·rintro ⟨⟨h1, h2⟩, ⟨h3, h4⟩, h5⟩
  refine ⟨p.1, h1, ?_⟩
  rw [if_pos h2]
  refine List.mem_map.2 ⟨p.2, ?_, rfl⟩
  simp only [List.mem_filter, List.mem_range, Bool.and_eq_true, cmB_iff]
  exact ⟨h3, h4, h5⟩
section
variable {G F : PH} {l1 l2 : List Nd} {t1 t2 : Lt} {m1 m2 : Nat}
theorem Mch.pat {F : PH} {bm : Nat} {l : List Nd} {t : Lt} (h : Mch F bm l t) : ∃ s : Sl, F.cell (Addr.mk bm 0 none) = some s.v ∧ s.len = l.length ∧ ∀ i x, l[i]? = some x → ∃ a, s.base = some a ∧ F.cell ((a.add (i * 5)).add 1) = some (vi x.lo) ∧ F.cell ((a.add (i * 5)).add 2) = some (vi x.hi) := by
 obtain ⟨s, bf, qm, hs, qf⟩ := h.ex
 refine ⟨s, by rw [cell_eq qm]; rfl, hs.nlen, fun i x hx => ?_⟩
 obtain ⟨a, h1, _, h2, h3⟩ := rdn3 hs hx
 exact ⟨a, h1, h2, h3⟩
theorem meet1_spec (hM1 : Mch G m1 l1 t1) (hM2 : Mch G m2 l2 t2) {b4 b5 bi b9 : Nat} {ys : List (Nat × Array Value × TypeId)} {L : List Pr} {i j : Nat} (h : Mt G F b9 ys L) (h4 : (b4, #[pa m1], 61) ∈ ys) (h5 : (b5, #[pa m2], 61) ∈ ys) (hbi : (bi, #[vi i], 3) ∈ ys)
  (hi : i < l1.length) (hj : j < l2.length) (hL : L.length ≤ 1000000) :
  Spec prog 85 #[vi j, pa b4, pa bi, pa b5, pa b9] F fun r F' => r = .tuple #[] ∧ Mt G F' b9 ys (L ++ if cmB l1 l2 i j then [(i, j)] else []) := by
 obtain ⟨s1, c1, n1, k1⟩ := (hM1.le h.le).pat
 obtain ⟨s2, c2, n2, k2⟩ := (hM2.le h.le).pat
 have hx : l1[i]? = some l1[i] := List.getElem?_eq_getElem hi
 have hy : l2[j]? = some l2[j] := List.getElem?_eq_getElem hj
 generalize l1[i] = x at hx
 generalize l2[j] = y at hy
 obtain ⟨a1, ha1, xlo, xhi⟩ := k1 i x hx
 obtain ⟨a2, ha2, ylo, yhi⟩ := k2 j y hy
 have ei : Int.toNat (i : Int) = i := Int.toNat_natCast i
 have ej : Int.toNat (j : Int) = j := Int.toNat_natCast j
 have q4 : F.cell (Addr.mk b4 0 none) = some (pa m1) := by rw [h.cell h4]; rfl
 have q5 : F.cell (Addr.mk b5 0 none) = some (pa m2) := by rw [h.cell h5]; rfl
 have qi : F.cell (Addr.mk bi 0 none) = some (vi i) := by rw [h.cell hbi]; rfl
 refine c85 ?_
 unfold b85
 refine ⟨_, rfl, _, q4, _, rfl, _, c1, _, rfl, _, qi, a1, ha1, by omega, by omega, _, by rw [ei]; exact xlo, _, rfl, _, q5, _, rfl, _, c2, a2, ha2, by omega, by omega, _, by rw [ej]; exact ylo, _, q4, _, rfl, _, c1, _, qi, a1, ha1, by omega, by omega, _, by rw [ei]; exact xhi,
  _, q5, _, rfl, _, c2, a2, ha2, by omega, by omega, _, by rw [ej]; exact yhi, fun hc => ?_, fun hc => ?_⟩
 ·have hcm : cmB l1 l2 i j = true := cmB_iff.2 ⟨x, y, hx, hy, hc⟩
  rw [if_pos hcm]
  obtain ⟨sl, hsl, hk⟩ := h.push (i, j) hL (K := fun F' => Value.tuple #[] = .tuple #[] ∧ Mt G F' b9 ys (L ++ [(i, j)])) fun F' h' => ⟨rfl, h'⟩
  exact ⟨_, rfl, sl, hsl, _, qi, rfl, hk⟩
 ·have hcm : cmB l1 l2 i j = false := by
   rw [← Bool.not_eq_true, cmB_iff]
   rintro ⟨x', y', hx', hy', h'⟩
   rw [hx] at hx'
   rw [hy] at hy'
   cases hx'
   cases hy'
   exact hc h'
  rw [hcm]
  simp only [Bool.false_eq_true, if_false, List.append_nil]
  exact ⟨trivial, h⟩
theorem cb84' : callableB prog 84 = true := by kernel_rfl
theorem cb85' : callableB prog 85 = true := by kernel_rfl
theorem meeting_spec (hT : Tab F) (hM1 : Mch F m1 l1 t1) (hM2 : Mch F m2 l2 t2) {P Q : Nat → Bool} (hP : ∀ i, P i = true → i < l1.length) (hQ : ∀ j, Q j = true → j < l2.length) :
  Spec prog 58 #[pa m1, pa m2, .agg (plA P), .agg (plA Q)] F fun r F' => (∃ sl : Sl, r = sl.v ∧ OwnS F' 92 2 sl (pflat (meetL l1 l2 P Q 512)) ∧ ∀ a, sl.base = some a → F a.block = none) ∧ F.le F' := by
 refine c58 ?_
 unfold b58
 have h := Lo.start F
 refine h.new _ _ fun b4 F1 h => ?_
 refine h.new _ _ fun b5 F2 h => ?_
 refine h.new _ _ fun b6 F3 h => ?_
 refine h.new _ _ fun b7 F4 h => ?_
 refine h.new _ _ fun b9 F5 h => ?_
 have hm : Mt F F5 b9 [(b7, plA Q, 76), (b6, plA P, 76), (b5, #[pa m2], 61), (b4, #[pa m1], 61)] [] := ⟨Sl.nil, h, .inl ⟨rfl, rfl⟩, fun a ha => by cases ha⟩
 clear h
 refine (each_spec (a := ⟨b6, 0, none⟩) (P := P) (k := 84) (cap := #[pa b7, pa b4, pa b5, pa b9]) (Inv := fun m F' => Mt F F' b9 [(b7, plA Q, 76), (b6, plA P, 76), (b5, #[pa m2], 61), (b4, #[pa m1], 61)] (meetL l1 l2 P Q m)) cb84' rfl
  (fun m F' hI => ⟨hT.le hI.le, hI.row (c := b6) (w := plA P) (e := 76) (by simp)⟩) (fun i F' hi hp hI => ?_) (fun i F' hi hp hI => ?_) hm).mono ?_
 ·rw [meetL_succ, hp]
  simpa using hI
 ·-- one row
  have hlen := meetL_len l1 l2 P Q i
  show Spec prog 84 #[vi i, pa b7, pa b4, pa b5, pa b9] F' _
  refine c84 ?_
  unfold b84
  intro bi hbi
  refine atI ?_
  have hI := hI.new #[vi i] 3 hbi
  generalize F'.set bi (.cells #[vi i] 3) = F6 at *
  refine (each_spec (a := ⟨b7, 0, none⟩) (P := Q) (k := 85) (cap := #[pa b4, pa bi, pa b5, pa b9]) (Inv := fun k F' => Mt F F' b9 [(bi, #[vi i], 3), (b7, plA Q, 76), (b6, plA P, 76), (b5, #[pa m2], 61), (b4, #[pa m1], 61)] (meetL l1 l2 P Q i ++ row1 l1 l2 i Q k)) cb85' rfl
   (fun m F' hI => ⟨hT.le hI.le, hI.row (c := b7) (w := plA Q) (e := 76) (by simp)⟩) (fun k F' hk hq hI => ?_) (fun k F' hk hq hI => ?_) (by simpa [row1] using hI)).mono ?_
  ·rw [row1_succ, hq]
   simpa using hI
  ·have := row1_len l1 l2 i Q k
   refine (meet1_spec hM1 hM2 hI (by simp) (by simp) (by simp) (hP i hp) (hQ k hq) (by rw [List.length_append]; omega)).mono ?_
   rintro _ F'' ⟨rfl, h2⟩
   rw [row1_succ, hq, Bool.true_and, ← List.append_assoc]
   exact ⟨rfl, h2⟩
  ·rintro _ F'' ⟨rfl, h2⟩
   have e : meetL l1 l2 P Q (i + 1) = meetL l1 l2 P Q i ++ row1 l1 l2 i Q 512 := by
    rw [meetL_succ, hp]
    rfl
   refine ⟨rfl, ?_⟩
   show Value.tuple #[] = .tuple #[] ∧ Mt F F'' b9 _ _
   rw [e]
   exact ⟨rfl, h2.drop⟩
 ·rintro _ F6 ⟨rfl, hI⟩
  obtain ⟨sl, hL, ho, hs⟩ := hI.ex
  exact ⟨rfl, sl, by rw [hL.cell (b := b9) (w := #[sl.v]) (e := 89) (by simp)]; rfl, ⟨sl, rfl, ho, fun a ha => (hs a ha).1⟩, hL.le⟩
end
end Go.Proofs.YtnjcgpihfmklfaaDoor
