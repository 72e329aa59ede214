/-
  The making of a machine.
-/
import Derived.Test.YtnjcgpihfmklfaaDoorQq
import Derived.Test.YtnjcgpihfmklfaaDoorQo
namespace Go.Proofs.YtnjcgpihfmklfaaDoor
open Go Go.Proofs.Tryd
set_option maxRecDepth 10000
structure Lo (G F : PH) (xs : List (Nat × Array Value × TypeId)) : Prop where
 le : G.le F
 z : ∀ p ∈ xs, F p.1 = some (.cells p.2.1 p.2.2) ∧ G p.1 = none
 nd : (xs.map (·.1)).Nodup
theorem Lo.start (F : PH) : Lo F F [] := ⟨le_refl' F, fun p hp => (by cases hp), List.nodup_nil⟩
section
variable {F G : PH} {xs : List (Nat × Array Value × TypeId)}
theorem Lo.get (h : Lo G F xs) {b : Nat} {w : Array Value} {e : TypeId} (hm : (b, w, e) ∈ xs) : F b = some (.cells w e) := (h.z _ hm).1
theorem Lo.row (h : Lo G F xs) {b : Nat} {w : Array Value} {e : TypeId} (hm : (b, w, e) ∈ xs) : F.row (Addr.mk b 0 none) w := row_whole (h.z _ hm).1
theorem Lo.cell (h : Lo G F xs) {b i : Nat} {w : Array Value} {e : TypeId} (hm : (b, w, e) ∈ xs) : F.cell (Addr.mk b i none) = w[i]? := cell_eq (h.z _ hm).1
theorem Lo.call {f : FuncId} {args : Array Value} {P : Value → PH → Prop} (h : Lo G F xs) (s : Spec prog f args G P) : Spec prog f args F fun r F' => ∃ G', P r G' ∧ Lo G' F' xs :=
 (s.upon h.le).mono fun r F' ⟨G', hp, hl, hk⟩ => ⟨G', hp, hl, fun p hp => by
  obtain ⟨a, b⟩ := h.z p hp
  exact hk _ _ b a, h.nd⟩
theorem Lo.new (h : Lo G F xs) (c : Array Value) (e : TypeId) {K : Nat → PH → Prop} (k : ∀ b F', Lo G F' ((b, c, e) :: xs) → K b F') : ∀ b, F b = none → atF (F.set b (.cells c e)) (K b) := by
 intro b hb
 refine atI ?_
 have hne : ∀ p ∈ xs, p.1 ≠ b := fun p hp => ne_of_fresh hb (h.z p hp).1
 refine k b _ ⟨le_trans' h.le (le_set_fresh _ hb), fun p hp => ?_, ?_⟩
 ·rcases List.mem_cons.1 hp with rfl | hp
  ·exact ⟨set_eq _ _ _, le_none h.le hb⟩
  ·obtain ⟨a, c⟩ := h.z p hp
   exact ⟨(set_ne _ _ (hne p hp)).trans a, c⟩
 ·rw [List.map_cons, List.nodup_cons]
  refine ⟨fun hm => ?_, h.nd⟩
  obtain ⟨p, hp, e⟩ := List.mem_map.1 hm
  exact hne p hp e
theorem Lo.upd (l1 l2 : List (Nat × Array Value × TypeId)) {b : Nat} {w0 w : Array Value} {e : TypeId} (h : Lo G F (l1 ++ (b, w0, e) :: l2)) {F' : PH} (hb : F' b = some (.cells w e)) (hk : Keep (fun x => x = b) F F') : Lo G F' (l1 ++ (b, w, e) :: l2) := by
 obtain ⟨q, g⟩ := h.z (b, w0, e) (by simp)
 have nd := h.nd
 rw [List.map_append, List.map_cons] at nd
 have hne : ∀ p, p ∈ l1 ∨ p ∈ l2 → p.1 ≠ b := fun p hp e => by
  obtain ⟨_, n2, n3⟩ := List.nodup_append.1 nd
  rcases hp with hp | hp
  ·exact n3 p.1 (List.mem_map.2 ⟨p, hp, rfl⟩) b (by simp) e
  ·exact (List.nodup_cons.1 n2).1 (List.mem_map.2 ⟨p, hp, e⟩)
 have hkp : ∀ p, p ∈ l1 ∨ p ∈ l2 → F' p.1 = some (.cells p.2.1 p.2.2) ∧ G p.1 = none := fun p hp => by
  obtain ⟨a, c⟩ := h.z p (by simp only [List.mem_append, List.mem_cons]; rcases hp with hp | hp <;> simp [hp])
  exact ⟨hk _ _ a (hne p hp), c⟩
 refine ⟨fun x o hx => hk x o (h.le x o hx) fun e => (by rw [e] at hx; rw [g] at hx; cases hx), fun p hp => ?_, by rw [List.map_append, List.map_cons]; exact nd⟩
 rcases List.mem_append.1 hp with hp | hp
 ·exact hkp p (.inl hp)
 ·rcases List.mem_cons.1 hp with rfl | hp
  ·exact ⟨hb, g⟩
  ·exact hkp p (.inr hp)
theorem Lo.put (l1 l2 : List (Nat × Array Value × TypeId)) {b n : Nat} {w0 w : Array Value} {e : TypeId} (h : Lo G F (l1 ++ (b, w0, e) :: l2)) (h1 : w.size = n) (h2 : w0.size = n) (hst : ∀ v ∈ w.toList, storable v)
  {K : PH → Prop} (k : ∀ F', Lo G F' (l1 ++ (b, w, e) :: l2) → K F') :
  w.size = n ∧ (∀ v ∈ w.toList, storable v) ∧ ∃ c e, F (Addr.mk b 0 none).block = some (.cells c e (0, 0)) ∧ (Addr.mk b 0 none).spot = none ∧ (Addr.mk b 0 none).off + n ≤ c.size ∧
   atF (F.set (Addr.mk b 0 none).block (.cells (wr c (Addr.mk b 0 none).off w.toList) e)) K := by
 obtain ⟨q, g⟩ := h.z (b, w0, e) (by simp)
 refine stW q h1 h2 hst (k _ (h.upd l1 l2 (set_eq _ _ _) (Keep.set _ (.inl rfl))))
theorem Lo.put1 (l1 l2 : List (Nat × Array Value × TypeId)) {b i : Nat} {w0 w : Array Value} {v : Value} {e : TypeId} (h : Lo G F (l1 ++ (b, w0, e) :: l2)) (h2 : i < w0.size) (hw : w0.setIfInBounds i v = w)
  {K : PH → Prop} (k : ∀ F', Lo G F' (l1 ++ (b, w, e) :: l2) → K F') :
  ∃ c e, F (Addr.mk b i none).block = some (.cells c e (0, 0)) ∧ (Addr.mk b i none).spot = none ∧ (Addr.mk b i none).off < c.size ∧
   atF (F.set (Addr.mk b i none).block (.cells (c.setIfInBounds (Addr.mk b i none).off v) e)) K := by
 obtain ⟨q, g⟩ := h.z (b, w0, e) (by simp)
 subst hw
 exact st1 (o := i) q h2 (k _ (h.upd l1 l2 (set_eq _ _ _) (Keep.set _ (.inl rfl))))
theorem Lo.join (l1 l2 : List (Nat × Array Value × TypeId)) {b : Nat} {P Q : Nat → Bool} (h : Lo G F (l1 ++ (b, plA P, 76) :: l2)) :
  Spec prog 68 #[pa b, .agg (plA Q)] F fun r F' => r = .tuple #[] ∧ Lo G F' (l1 ++ (b, plA (fun i => P i || Q i), 76) :: l2) := by
 obtain ⟨q, g⟩ := h.z (b, plA P, 76) (by simp)
 refine (join_spec (Q := Q) (SetB.own.2 q)).mono ?_
 rintro _ F' ⟨rfl, hs, hk⟩
 exact ⟨rfl, h.upd l1 l2 (SetB.own.1 hs) hk⟩
theorem Lo.add (l1 l2 : List (Nat × Array Value × TypeId)) {b i : Nat} {P : Nat → Bool} (hi : i < 512) (h : Lo G F (l1 ++ (b, plA P, 76) :: l2)) :
  Spec prog 70 #[pa b, vi i] F fun r F' => r = .tuple #[] ∧ Lo G F' (l1 ++ (b, plA (fun j => P j || decide (j = i)), 76) :: l2) := by
 obtain ⟨q, g⟩ := h.z (b, plA P, 76) (by simp)
 refine (add_spec' hi q).mono ?_
 rintro _ F' ⟨rfl, rfl⟩
 exact ⟨rfl, h.upd l1 l2 (set_eq _ _ _) (Keep.set _ (.inl rfl))⟩
end
def flatR (n : Nat) (R : Nat → Nat → Bool) : List Value := (List.range n).flatMap fun i => (plA (R i)).toList
theorem flatR_length (n : Nat) (R : Nat → Nat → Bool) : (flatR n R).length = n * 8 := by
 unfold flatR
 induction n with
 | zero => rfl
 | succ n ih => rw [List.range_succ, List.flatMap_append, List.length_append, ih]; simp [plA]; omega
theorem fm_congr {f g : Nat → List Value} : ∀ {l : List Nat}, (∀ j ∈ l, f j = g j) → l.flatMap f = l.flatMap g
 | [], _ => rfl
 | a :: l, h => by rw [List.flatMap_cons, List.flatMap_cons, h a (by simp), fm_congr fun j hj => h j (by simp [hj])]
theorem fm_split (f : Nat → List Value) {n i : Nat} (hi : i < n) : (List.range n).flatMap f = (List.range i).flatMap f ++ f i ++ ((List.range (n - i - 1)).map (· + (i + 1))).flatMap f := by
 have : List.range n = List.range i ++ [i] ++ (List.range (n - i - 1)).map (· + (i + 1)) := by
  have h1 : n = (i + 1) + (n - i - 1) := by omega
  rw [h1, List.range_add, List.range_succ, show i + 1 + (n - i - 1) - i - 1 = n - i - 1 by omega]
  congr 1
  apply List.map_congr_left
  intro a _
  omega
 rw [this, List.flatMap_append, List.flatMap_append, List.flatMap_cons, List.flatMap_nil, List.append_nil]
theorem flatR_congr {n : Nat} {R S : Nat → Nat → Bool} (h : ∀ i, i < n → R i = S i) : flatR n R = flatR n S := by
 unfold flatR
 exact fm_congr fun j hj => by rw [h j (List.mem_range.1 hj)]
theorem flatR_split {n i : Nat} (hi : i < n) (R : Nat → Nat → Bool) : ∃ pre post, pre.length = i * 8 ∧ flatR n R = pre ++ (plA (R i)).toList ++ post ∧ ∀ R', (∀ j, j ≠ i → R' j = R j) → flatR n R' = pre ++ (plA (R' i)).toList ++ post := by
 refine ⟨flatR i R, ((List.range (n - i - 1)).map (· + (i + 1))).flatMap (fun j => (plA (R j)).toList), flatR_length i R, fm_split _ hi, fun R' h => ?_⟩
 have e := fm_split (fun j => (plA (R' j)).toList) hi
 have e1 : flatR i R' = flatR i R := flatR_congr fun j hj => h j (by omega)
 have e2 : ((List.range (n - i - 1)).map (· + (i + 1))).flatMap (fun j => (plA (R' j)).toList) = ((List.range (n - i - 1)).map (· + (i + 1))).flatMap (fun j => (plA (R j)).toList) := fm_congr fun j hj => by
  obtain ⟨a, _, rfl⟩ := List.mem_map.1 hj
  rw [h _ (by omega)]
 rw [e2] at e
 rw [← e1]
 exact e
structure Lnk (F : PH) (b3 bm bf n : Nat) (R : Nat → Nat → Bool) : Prop where
 tab : Tab F
 q3 : F b3 = some (.cells #[pa bm] 61)
 q17 : ∃ mc, F bm = some (.cells mc 79) ∧ mc[17]? = some (Sl.v ⟨some ⟨bf, 0, none⟩, n, n⟩)
 qf : F bf = some (.cells (flatR n R).toArray 76)
theorem Lnk.keep {F F' : PH} {b3 bm bf n : Nat} {R R' : Nat → Nat → Bool} (h : Lnk F b3 bm bf n R) (hk : Keep (fun x => x = bf) F F') (hf : F' bf = some (.cells (flatR n R').toArray 76)) (h0 : bf ≠ 0) : Lnk F' b3 bm bf n R' := by
 obtain ⟨tab, q3, ⟨mc, qm, h17⟩, qf⟩ := h
 refine ⟨fun k v hv => ?_, hk _ _ q3 fun e => ?_, ⟨mc, hk _ _ qm fun e => ?_, h17⟩, hf⟩
 ·have := tab k v hv
  unfold PH.cell at this ⊢
  cases hz : F 0 with
  | none => rw [hz] at this; cases this
  | some o =>
   rw [hz] at this
   rw [hk _ _ hz h0.symm]
   exact this
 ·rw [e, qf] at q3
  simp at q3
 ·rw [e, qf] at qm
  simp at qm
theorem Lnk.le {F F' : PH} {b3 bm bf n : Nat} {R : Nat → Nat → Bool} (h : Lnk F b3 bm bf n R) (hl : F.le F') : Lnk F' b3 bm bf n R := by
 obtain ⟨tab, q3, ⟨mc, qm, h17⟩, qf⟩ := h
 exact ⟨tab.le hl, hl _ _ q3, ⟨mc, hl _ _ qm, h17⟩, hl _ _ qf⟩
section
variable {F : PH} {b3 bm bf n : Nat} {R : Nat → Nat → Bool}
theorem link1_spec (h : Lnk F b3 bm bf n R) (h0 : bf ≠ 0) {i bt : Nat} {Q : Nat → Bool} (hi : i < n) (ht : F bt = some (.cells (plA Q) 76)) (hne : bt ≠ bf) :
  Spec prog 67 #[vi i, pa b3, pa bt] F fun r F' => r = .tuple #[] ∧ Lnk F' b3 bm bf n (fun k j => R k j || (decide (k = i) && Q j)) ∧ Keep (fun x => x = bf) F F' := by
 obtain ⟨tab, q3, ⟨mc, qm, h17⟩, qf⟩ := id h
 refine c67 ?_
 unfold b67
 obtain ⟨pre, post, hpre, hsp, hup⟩ := flatR_split hi R
 have c3 : F.cell (Addr.mk b3 0 none) = some (pa bm) := by rw [cell_eq q3]; rfl
 have c17 : F.cell ((Addr.mk bm 0 none).add 17) = some (Sl.v ⟨some ⟨bf, 0, none⟩, n, n⟩) := by rw [add_off, Nat.zero_add, cell_eq qm]; exact h17
 refine ⟨_, rfl, _, c3, _, rfl, _, c17, _, rfl, by omega, by simp only; omega, _, rfl, plA Q, rfl, row_whole ht, ?_⟩
 have ea : (Addr.mk bf 0 none).add (Int.toNat (i : Int) * 8) = ⟨bf, pre.length, none⟩ := by rw [add_off, Nat.zero_add, Int.toNat_natCast, hpre]
 rw [ea]
 have hs : SetB F bf 76 pre (R i) post := by unfold SetB; rw [← hsp]; exact qf
 refine (join_spec (Q := Q) hs).mono ?_
 rintro _ F' ⟨rfl, hs', hk⟩
 have e : ∀ k, k ≠ i → (fun k j => R k j || (decide (k = i) && Q j)) k = R k := fun k hk => by funext j; simp [hk]
 have hL : Lnk F' b3 bm bf n (fun k j => R k j || (decide (k = i) && Q j)) := h.keep hk (by
  rw [hup _ e]
  have : (fun j => R i j || (decide (i = i) && Q j)) = fun j => R i j || Q j := by funext j; simp
  show F' bf = some (.cells (pre ++ (plA (fun j => R i j || (decide (i = i) && Q j))).toList ++ post).toArray 76)
  rw [this]
  exact hs') h0
 obtain ⟨mc', qm', h17'⟩ := hL.q17
 exact ⟨rfl, by rw [add_off, Nat.zero_add, cell_eq qm']; exact h17', by rw [cell_eq hL.q3]; rfl, rfl, hL, hk⟩
theorem cb67' : callableB prog 67 = true := by kernel_rfl
theorem link_spec (h : Lnk F b3 bm bf n R) (h0 : bf ≠ 0) (hn : n ≤ 512) {P Q : Nat → Bool} (hP : ∀ i, P i = true → i < n) :
  Spec prog 65 #[.agg (plA P), .agg (plA Q), pa b3] F fun r F' => r = .tuple #[] ∧ Lnk F' b3 bm bf n (fun k j => R k j || (P k && Q j)) ∧ Keep (fun x => x = bf) F F' := by
 refine c65 ?_
 unfold b65
 intro c hc
 refine atI ?_
 have lc := le_set_fresh (.cells (plA P) 76) hc
 have qc := set_eq F c (.cells (plA P) 76)
 generalize F.set c (.cells (plA P) 76) = F1 at *
 intro d hd
 refine atI ?_
 have ld := le_set_fresh (.cells (plA Q) 76) hd
 have qd := set_eq F1 d (.cells (plA Q) 76)
 have qc' := ld _ _ qc
 generalize F1.set d (.cells (plA Q) 76) = F2 at *
 have hcf : c ≠ bf := fun e => by rw [e, h.qf] at hc; cases hc
 have hdf : d ≠ bf := fun e => by rw [e, lc _ _ h.qf] at hd; cases hd
 have l2 := le_trans' lc ld
 refine (each_spec (a := ⟨c, 0, none⟩) (P := P) (k := 67) (cap := #[pa b3, pa d]) (Inv := fun m F' => Lnk F' b3 bm bf n (fun k j => R k j || (decide (k < m) && P k && Q j)) ∧ Keep (fun x => x = bf) F2 F') cb67' rfl
  (fun m F' hI => ⟨hI.1.tab, row_whole (hI.2 _ _ qc' hcf)⟩) (fun i F' hi hp hI => ?_) (fun i F' hi hp hI => ?_) ⟨?_, Keep.refl _ _⟩).mono ?_
 ·refine ⟨?_, hI.2⟩
  have : (fun k j => R k j || (decide (k < i + 1) && P k && Q j)) = fun k j => R k j || (decide (k < i) && P k && Q j) := by
   funext k j
   by_cases hk : k = i
   ·subst hk; simp [hp]
   ·rw [show decide (k < i + 1) = decide (k < i) by rw [Bool.eq_iff_iff]; simp; omega]
  rw [this]
  exact hI.1
 ·refine (link1_spec hI.1 h0 (hP i hp) (hI.2 _ _ qd hdf) hdf).mono ?_
  rintro _ F'' ⟨rfl, hL, hk⟩
  refine ⟨rfl, ?_, hI.2.trans hk⟩
  have : (fun k j => (R k j || (decide (k < i) && P k && Q j)) || (decide (k = i) && Q j)) = fun k j => R k j || (decide (k < i + 1) && P k && Q j) := by
   funext k j
   by_cases hk : k = i
   ·subst hk; simp [hp]
   ·rw [show decide (k < i + 1) = decide (k < i) by rw [Bool.eq_iff_iff]; simp; omega]
    simp [hk]
  rw [← this]
  exact hL
 ·have : (fun k j => R k j || (decide (k < 0) && P k && Q j)) = R := by funext k j; simp
  rw [this]
  exact h.le l2
 ·rintro _ F' ⟨rfl, hL, hk⟩
  refine ⟨rfl, rfl, ?_, fun x o hx hn => hk x o (l2 _ _ hx) hn⟩
  have : Lnk F' b3 bm bf n (fun k j => R k j || (P k && Q j)) := by
   refine ⟨hL.tab, hL.q3, hL.q17, ?_⟩
   have e : flatR n (fun k j => R k j || (P k && Q j)) = flatR n (fun k j => R k j || (decide (k < 512) && P k && Q j)) := by
    refine flatR_congr fun i hi => ?_
    funext j
    rw [show decide (i < 512) = true by simp; omega, Bool.true_and]
   rw [e]
   exact hL.qf
  exact this
end
theorem cb65' : callableB prog 65 = true := by kernel_rfl
theorem cb69' : callableB prog 69 = true := by kernel_rfl
open Classical in
noncomputable def fB (t : Lt) : Nat → Bool := fun j => decide (t.first j)
open Classical in
noncomputable def lB (t : Lt) : Nat → Bool := fun j => decide (t.last j)
open Classical in
noncomputable def foB (t : Lt) : Nat → Nat → Bool := fun i j => decide (t.fol i j)
theorem fB_iff {t : Lt} {j : Nat} : fB t j = true ↔ t.first j := by simp [fB]
theorem lB_iff {t : Lt} {j : Nat} : lB t j = true ↔ t.last j := by simp [lB]
theorem foB_iff {t : Lt} {i j : Nat} : foB t i j = true ↔ t.fol i j := by simp [foB]
theorem fB_emp : fB .emp = noP := by funext j; rw [Bool.eq_iff_iff, fB_iff]; simp [Lt.first, noP]
theorem lB_emp : lB .emp = noP := by funext j; rw [Bool.eq_iff_iff, lB_iff]; simp [Lt.last, noP]
theorem foB_emp (i j : Nat) : foB .emp i j = false := by rw [← Bool.not_eq_true, foB_iff]; exact id
theorem fB_rng {i lo hi : Nat} : fB (.rng i lo hi) = fun j => noP j || decide (j = i) := by funext j; rw [Bool.eq_iff_iff, fB_iff]; simp [Lt.first, noP]; exact eq_comm
theorem lB_rng {i lo hi : Nat} : lB (.rng i lo hi) = fun j => noP j || decide (j = i) := by funext j; rw [Bool.eq_iff_iff, lB_iff]; simp [Lt.last, noP]; exact eq_comm
theorem foB_rng {i lo hi : Nat} (k j : Nat) : foB (.rng i lo hi) k j = false := by rw [← Bool.not_eq_true, foB_iff]; exact id
theorem fB_seq1 {t u : Lt} (h : t.nul = true) : fB (.seq t u) = fun i => fB t i || fB u i := by funext j; rw [Bool.eq_iff_iff, Bool.or_eq_true, fB_iff, fB_iff, fB_iff]; simp [Lt.first, h]
theorem fB_seq0 {t u : Lt} (h : t.nul = false) : fB (.seq t u) = fB t := by funext j; rw [Bool.eq_iff_iff, fB_iff, fB_iff]; simp [Lt.first, h]
theorem lB_seq1 {t u : Lt} (h : u.nul = true) : lB (.seq t u) = fun i => lB u i || lB t i := by funext j; rw [Bool.eq_iff_iff, Bool.or_eq_true, lB_iff, lB_iff, lB_iff]; simp [Lt.last, h]
theorem lB_seq0 {t u : Lt} (h : u.nul = false) : lB (.seq t u) = lB u := by funext j; rw [Bool.eq_iff_iff, lB_iff, lB_iff]; simp [Lt.last, h]
theorem foB_seq {t u : Lt} (k j : Nat) : foB (.seq t u) k j = (foB t k j || (foB u k j || (lB t k && fB u j))) := by rw [Bool.eq_iff_iff]; simp only [Bool.or_eq_true, Bool.and_eq_true, foB_iff, lB_iff, fB_iff, Lt.fol]
theorem fB_alt {t u : Lt} : fB (.alt t u) = fun i => fB t i || fB u i := by funext j; rw [Bool.eq_iff_iff, Bool.or_eq_true, fB_iff, fB_iff, fB_iff]; simp [Lt.first]
theorem lB_alt {t u : Lt} : lB (.alt t u) = fun i => lB t i || lB u i := by funext j; rw [Bool.eq_iff_iff, Bool.or_eq_true, lB_iff, lB_iff, lB_iff]; simp [Lt.last]
theorem foB_alt {t u : Lt} (k j : Nat) : foB (.alt t u) k j = (foB t k j || foB u k j) := by rw [Bool.eq_iff_iff]; simp only [Bool.or_eq_true, foB_iff, Lt.fol]
theorem fB_rep {t : Lt} : fB (.rep t) = fB t := by funext j; rw [Bool.eq_iff_iff, fB_iff, fB_iff]; simp [Lt.first]
theorem lB_rep {t : Lt} : lB (.rep t) = lB t := by funext j; rw [Bool.eq_iff_iff, lB_iff, lB_iff]; simp [Lt.last]
theorem foB_rep {t : Lt} (k j : Nat) : foB (.rep t) k j = (foB t k j || (lB t k && fB t j)) := by rw [Bool.eq_iff_iff]; simp only [Bool.or_eq_true, Bool.and_eq_true, foB_iff, lB_iff, fB_iff, Lt.fol]
theorem tree_mem {l : List Nd} {i : Nat} {t : Lt} {ns : List Nat} (h : TreeAt l i t ns) : (∀ j ∈ ns, j < l.length) ∧ ∀ j, t.lab j → j ∈ ns := by
 induction h with
 | emp hx hk => exact ⟨fun j hj => by simp at hj; subst hj; exact (List.getElem?_eq_some_iff.1 hx).1, fun j h => h.elim⟩
 | rng hx hk _ _ _ _ => exact ⟨fun j hj => by simp at hj; subst hj; exact (List.getElem?_eq_some_iff.1 hx).1, fun j h => by rw [show j = _ from h.symm]; simp⟩
 | seq hx hk _ _ _ _ i1 i2 =>
  refine ⟨fun j hj => ?_, fun j h => ?_⟩
  ·simp only [List.cons_append, List.mem_cons, List.mem_append] at hj
   rcases hj with rfl | hj | hj
   ·exact (List.getElem?_eq_some_iff.1 hx).1
   ·exact i1.1 j hj
   ·exact i2.1 j hj
  ·simp only [List.cons_append, List.mem_cons, List.mem_append]
   exact .inr (h.elim (fun h => .inl (i1.2 j h)) fun h => .inr (i2.2 j h))
 | alt hx hk _ _ _ _ i1 i2 =>
  refine ⟨fun j hj => ?_, fun j h => ?_⟩
  ·simp only [List.cons_append, List.mem_cons, List.mem_append] at hj
   rcases hj with rfl | hj | hj
   ·exact (List.getElem?_eq_some_iff.1 hx).1
   ·exact i1.1 j hj
   ·exact i2.1 j hj
  ·simp only [List.cons_append, List.mem_cons, List.mem_append]
   exact .inr (h.elim (fun h => .inl (i1.2 j h)) fun h => .inr (i2.2 j h))
 | rep hx hk _ _ i1 =>
  refine ⟨fun j hj => ?_, fun j h => ?_⟩
  ·simp only [List.mem_cons] at hj
   rcases hj with rfl | hj
   ·exact (List.getElem?_eq_some_iff.1 hx).1
   ·exact i1.1 j hj
  ·exact List.mem_cons_of_mem _ (i1.2 j h)
theorem tree_lb {l : List Nd} {i : Nat} {t : Lt} {ns : List Nat} (h : TreeAt l i t ns) {j : Nat} (hj : lB t j = true) : j < l.length := (tree_mem h).1 j ((tree_mem h).2 j (t.last_lab (lB_iff.1 hj)))
theorem RdS.keep {F F' : PH} {s : Sl} {size : Nat} {vs : List Value} (h : RdS F s size vs) (hk : ∀ a, s.base = some a → ∀ o, F a.block = some o → F' a.block = some o) : RdS F' s size vs := by
 refine ⟨h.len, h.cap, fun hp => ?_⟩
 obtain ⟨b, o, h1, h2⟩ := h.cells hp
 refine ⟨b, o, h1, fun i hi => ?_⟩
 have hc := h2 i hi
 unfold PH.cell at hc ⊢
 cases hz : F b with
 | none => simp only [hz] at hc; cases hc
 | some ob =>
  simp only [hz] at hc
  simp only [hk _ h1 ob hz]
  exact hc
structure Cmp (F : PH) (b1 b3 b4 b5 bm bf : Nat) (l : List Nd) (R : Nat → Nat → Bool) : Prop where
 lnk : Lnk F b3 bm bf l.length R
 q1 : ∃ s : Sl, F b1 = some (.cells #[s.v] 25) ∧ RdS F s 5 (nflat l) ∧ ∀ a, s.base = some a → a.block ≠ bf
 q4 : F b4 = some (.cells #[.func (.func 69) #[] #[pa b1, pa b4, pa b5]] 104)
 q5 : F b5 = some (.cells #[.func (.func 65) #[] #[pa b3]] 108)
section
variable {F F' : PH} {b1 b3 b4 b5 bm bf : Nat} {l : List Nd} {R R' : Nat → Nat → Bool}
theorem Cmp.le (h : Cmp F b1 b3 b4 b5 bm bf l R) (hl : F.le F') : Cmp F' b1 b3 b4 b5 bm bf l R := by
 obtain ⟨s, a, b, c⟩ := h.q1
 exact ⟨h.lnk.le hl, ⟨s, hl _ _ a, b.le hl, c⟩, hl _ _ h.q4, hl _ _ h.q5⟩
theorem Cmp.keep (h : Cmp F b1 b3 b4 b5 bm bf l R) (hk : Keep (fun x => x = bf) F F') (hL : Lnk F' b3 bm bf l.length R') : Cmp F' b1 b3 b4 b5 bm bf l R' := by
 obtain ⟨s, a, b, c⟩ := h.q1
 have hne : ∀ {x : Nat} {cs : Array Value} {e : TypeId}, e ≠ 76 → F x = some (.cells cs e) → x ≠ bf := fun he hx e => by
  rw [e, h.lnk.qf] at hx
  simp at hx
  exact he hx.2.symm
 exact ⟨hL, ⟨s, hk _ _ a (hne (by decide) a), b.keep fun ad had o ho => hk _ _ ho (c ad had), c⟩, hk _ _ h.q4 (hne (by decide) h.q4), hk _ _ h.q5 (hne (by decide) h.q5)⟩
theorem Cmp.to (h : Cmp F b1 b3 b4 b5 bm bf l R) (e : ∀ k j, R k j = R' k j) : Cmp F b1 b3 b4 b5 bm bf l R' := by
 have : R = R' := by funext k j; exact e k j
 rw [← this]
 exact h
set_option maxHeartbeats 4000000 in
theorem walk_spec (hn : l.length ≤ 512) (h0 : bf ≠ 0) {i : Nat} {t : Lt} {ns : List Nat} (h : TreeAt l i t ns) : ∀ {F : PH} {R : Nat → Nat → Bool}, Cmp F b1 b3 b4 b5 bm bf l R →
  Spec prog 69 #[vi i, pa b1, pa b4, pa b5] F fun r F' => r = .tuple #[.agg (plA (fB t)), .agg (plA (lB t)), .bool t.nul] ∧ Cmp F' b1 b3 b4 b5 bm bf l (fun k j => R k j || foB t k j) ∧ Keep (fun x => x = bf) F F' := by
 induction h with
 | @emp i x hx hk =>
  intro F R hC
  obtain ⟨s, q1, hs, hsb⟩ := hC.q1
  have hlen := hs.nlen
  have hi' := (List.getElem?_eq_some_iff.1 hx).1
  obtain ⟨ad, had, hrow⟩ := rdn hs hx
  refine c69 ?_
  unfold b69
  have h := Lo.start F
  refine h.new _ _ fun r1 F1 h => ?_
  refine h.new _ _ fun r2 F2 h => ?_
  rw [← plA_none] at h
  refine ⟨_, rfl, s, by rw [cell_eq (h.le _ _ q1)]; rfl, ad, had, by omega, by omega, x.arr, rfl, fun k hk' => le_cell h.le (hrow k hk'), ?_⟩
  refine h.new _ _ fun b8 F3 h => ?_
  refine Lo.put [] [(r2, _, 76), (r1, _, 76)] (n := 5) (w := x.arr) h rfl rfl (st_narr x) fun F4 h => ?_
  simp only [List.nil_append] at h
  refine ⟨x.k, by rw [h.cell (b := b8) (w := x.arr) (e := 50) (by simp)]; rfl, ?_⟩
  have hK : Keep (fun x => x = bf) F F := Keep.refl _ _
  refine ⟨fun h => absurd h (by omega), fun _ => ⟨fun h => absurd h (by omega), fun _ => ⟨fun h => absurd h (by omega), fun _ => ⟨fun h => absurd h (by omega), fun _ => ?_⟩⟩⟩⟩
  refine ⟨plA noP, rfl, h.row (b := r1) (w := plA noP) (e := 76) (by simp), plA noP, rfl, h.row (b := r2) (w := plA noP) (e := 76) (by simp), ?_⟩
  refine Lo.put [(b8, x.arr, 50), (r2, plA noP, 76)] [] (n := 8) (b := r1) (w0 := plA noP) (w := plA noP) (e := 76) h rfl rfl (plA_st _) fun F5 h => ?_
  replace h : Lo F F5 [(b8, x.arr, 50), (r2, plA noP, 76), (r1, plA noP, 76)] := h
  refine ⟨h.row (b := r2) (w := plA noP) (e := 76) (by simp), ?_⟩
  refine Lo.put [(b8, x.arr, 50)] [(r1, plA noP, 76)] (n := 8) (b := r2) (w0 := plA noP) (w := plA noP) (e := 76) h rfl rfl (plA_st _) fun F6 h => ?_
  replace h : Lo F F6 [(b8, x.arr, 50), (r2, plA noP, 76), (r1, plA noP, 76)] := h
  refine ⟨plA noP, rfl, h.row (b := r1) (w := plA noP) (e := 76) (by simp), plA noP, rfl, h.row (b := r2) (w := plA noP) (e := 76) (by simp), ?_⟩
  refine ⟨?_, (hC.le h.le).to (fun k j => by rw [foB_emp, Bool.or_false]), fun y o hy hn => h.le _ _ (hK y o hy hn)⟩
  rw [fB_emp, lB_emp, Lt.nul]
 | @rng i lo hi x hx hk hlo hhi hle h255 =>
  intro F R hC
  obtain ⟨s, q1, hs, hsb⟩ := hC.q1
  have hlen := hs.nlen
  have hi' := (List.getElem?_eq_some_iff.1 hx).1
  obtain ⟨ad, had, hrow⟩ := rdn hs hx
  refine c69 ?_
  unfold b69
  have h := Lo.start F
  refine h.new _ _ fun r1 F1 h => ?_
  refine h.new _ _ fun r2 F2 h => ?_
  rw [← plA_none] at h
  refine ⟨_, rfl, s, by rw [cell_eq (h.le _ _ q1)]; rfl, ad, had, by omega, by omega, x.arr, rfl, fun k hk' => le_cell h.le (hrow k hk'), ?_⟩
  refine h.new _ _ fun b8 F3 h => ?_
  refine Lo.put [] [(r2, _, 76), (r1, _, 76)] (n := 5) (w := x.arr) h rfl rfl (st_narr x) fun F4 h => ?_
  simp only [List.nil_append] at h
  refine ⟨x.k, by rw [h.cell (b := b8) (w := x.arr) (e := 50) (by simp)]; rfl, ?_⟩
  have hK : Keep (fun x => x = bf) F F := Keep.refl _ _
  refine ⟨fun _ => ?_, fun h => absurd hk h⟩
  refine (Lo.add [(b8, x.arr, 50), (r2, plA noP, 76)] [] (b := r1) (P := noP) (by omega) h).mono ?_
  rintro _ F5 ⟨rfl, h'⟩
  replace h : Lo F F5 [(b8, x.arr, 50), (r2, plA noP, 76), (r1, plA (fun j => noP j || decide (j = i)), 76)] := h'
  clear h'
  refine ⟨rfl, plA (fun j => noP j || decide (j = i)), rfl, h.row (b := r1) (w := plA (fun j => noP j || decide (j = i))) (e := 76) (by simp), plA (fun j => noP j || decide (j = i)), rfl, h.row (b := r1) (w := plA (fun j => noP j || decide (j = i))) (e := 76) (by simp), ?_⟩
  refine Lo.put [(b8, x.arr, 50), (r2, plA noP, 76)] [] (n := 8) (b := r1) (w0 := plA (fun j => noP j || decide (j = i))) (w := plA (fun j => noP j || decide (j = i))) (e := 76) h rfl rfl (plA_st _) fun F6 h => ?_
  replace h : Lo F F6 [(b8, x.arr, 50), (r2, plA noP, 76), (r1, plA (fun j => noP j || decide (j = i)), 76)] := h
  refine Lo.put [(b8, x.arr, 50)] [(r1, plA (fun j => noP j || decide (j = i)), 76)] (n := 8) (b := r2) (w0 := plA noP) (w := plA (fun j => noP j || decide (j = i))) (e := 76) h rfl rfl (plA_st _) fun F7 h => ?_
  replace h : Lo F F7 [(b8, x.arr, 50), (r2, plA (fun j => noP j || decide (j = i)), 76), (r1, plA (fun j => noP j || decide (j = i)), 76)] := h
  refine ⟨plA (fun j => noP j || decide (j = i)), rfl, h.row (b := r1) (w := plA (fun j => noP j || decide (j = i))) (e := 76) (by simp), plA (fun j => noP j || decide (j = i)), rfl, h.row (b := r2) (w := plA (fun j => noP j || decide (j = i))) (e := 76) (by simp), ?_⟩
  refine ⟨?_, (hC.le h.le).to (fun k j => by rw [foB_rng, Bool.or_false]), fun y o hy hn => h.le _ _ (hK y o hy hn)⟩
  rw [fB_rng, lB_rng, Lt.nul]
 | @seq i a b x t u na nb hx hk hxa hxb ht hu it iu =>
  intro F R hC
  obtain ⟨s, q1, hs, hsb⟩ := hC.q1
  have hlen := hs.nlen
  have hi' := (List.getElem?_eq_some_iff.1 hx).1
  obtain ⟨ad, had, hrow⟩ := rdn hs hx
  refine c69 ?_
  unfold b69
  have h := Lo.start F
  refine h.new _ _ fun r1 F1 h => ?_
  refine h.new _ _ fun r2 F2 h => ?_
  rw [← plA_none] at h
  refine ⟨_, rfl, s, by rw [cell_eq (h.le _ _ q1)]; rfl, ad, had, by omega, by omega, x.arr, rfl, fun k hk' => le_cell h.le (hrow k hk'), ?_⟩
  refine h.new _ _ fun b8 F3 h => ?_
  refine Lo.put [] [(r2, _, 76), (r1, _, 76)] (n := 5) (w := x.arr) h rfl rfl (st_narr x) fun F4 h => ?_
  simp only [List.nil_append] at h
  refine ⟨x.k, by rw [h.cell (b := b8) (w := x.arr) (e := 50) (by simp)]; rfl, ?_⟩
  have hK : Keep (fun x => x = bf) F F := Keep.refl _ _
  refine ⟨fun h => absurd h (by omega), fun _ => ⟨fun _ => ?_, fun h => absurd hk h⟩⟩
  refine ⟨_, rfl, _, by rw [cell_eq (h.le _ _ hC.q4)]; rfl, _, by rw [h.cell (b := b8) (w := x.arr) (e := 50) (by simp)]; rfl, 69, #[], _, rfl, cb69', ?_⟩
  rw [hxa]
  refine (h.call (it hC)).mono ?_
  rintro _ F5 ⟨G5, ⟨rfl, hC', hk'⟩, h'⟩
  replace hK := hK.trans hk'
  clear hC h hk'
  have hC := hC'
  have h := h'
  clear hC' h'
  refine ⟨_, _, _, rfl, ?_⟩
  refine h.new _ _ fun b9 F6 h => ?_
  replace h : Lo G5 F6 [(b9, plA noP, 76), (b8, x.arr, 50), (r2, plA noP, 76), (r1, plA noP, 76)] := by rw [← plA_none] at h; exact h
  refine h.new _ _ fun b10 F7 h => ?_
  replace h : Lo G5 F7 [(b10, plA noP, 76), (b9, plA noP, 76), (b8, x.arr, 50), (r2, plA noP, 76), (r1, plA noP, 76)] := by rw [← plA_none] at h; exact h
  refine Lo.put [(b10, plA noP, 76)] [(b8, x.arr, 50), (r2, plA noP, 76), (r1, plA noP, 76)] (n := 8) (b := b9) (w0 := plA noP) (w := plA (fB t)) (e := 76) h rfl rfl (plA_st _) fun F8 h => ?_
  replace h : Lo G5 F8 [(b10, plA noP, 76), (b9, plA (fB t), 76), (b8, x.arr, 50), (r2, plA noP, 76), (r1, plA noP, 76)] := h
  refine Lo.put [] [(b9, plA (fB t), 76), (b8, x.arr, 50), (r2, plA noP, 76), (r1, plA noP, 76)] (n := 8) (b := b10) (w0 := plA noP) (w := plA (lB t)) (e := 76) h rfl rfl (plA_st _) fun F9 h => ?_
  replace h : Lo G5 F9 [(b10, plA (lB t), 76), (b9, plA (fB t), 76), (b8, x.arr, 50), (r2, plA noP, 76), (r1, plA noP, 76)] := h
  refine ⟨_, by rw [cell_eq (h.le _ _ hC.q4)]; rfl, _, by rw [h.cell (b := b8) (w := x.arr) (e := 50) (by simp)]; rfl, 69, #[], _, rfl, cb69', ?_⟩
  rw [hxb]
  refine (h.call (iu hC)).mono ?_
  rintro _ F10 ⟨G10, ⟨rfl, hC', hk'⟩, h'⟩
  replace hK := hK.trans hk'
  clear hC h hk'
  have hC := hC'
  have h := h'
  clear hC' h'
  refine ⟨_, _, _, rfl, ?_⟩
  refine h.new _ _ fun b12 F11 h => ?_
  replace h : Lo G10 F11 [(b12, plA noP, 76), (b10, plA (lB t), 76), (b9, plA (fB t), 76), (b8, x.arr, 50), (r2, plA noP, 76), (r1, plA noP, 76)] := by rw [← plA_none] at h; exact h
  refine h.new _ _ fun b13 F12 h => ?_
  replace h : Lo G10 F12 [(b13, plA noP, 76), (b12, plA noP, 76), (b10, plA (lB t), 76), (b9, plA (fB t), 76), (b8, x.arr, 50), (r2, plA noP, 76), (r1, plA noP, 76)] := by rw [← plA_none] at h; exact h
  refine Lo.put [(b13, plA noP, 76)] [(b10, plA (lB t), 76), (b9, plA (fB t), 76), (b8, x.arr, 50), (r2, plA noP, 76), (r1, plA noP, 76)] (n := 8) (b := b12) (w0 := plA noP) (w := plA (fB u)) (e := 76) h rfl rfl (plA_st _) fun F13 h => ?_
  replace h : Lo G10 F13 [(b13, plA noP, 76), (b12, plA (fB u), 76), (b10, plA (lB t), 76), (b9, plA (fB t), 76), (b8, x.arr, 50), (r2, plA noP, 76), (r1, plA noP, 76)] := h
  refine Lo.put [] [(b12, plA (fB u), 76), (b10, plA (lB t), 76), (b9, plA (fB t), 76), (b8, x.arr, 50), (r2, plA noP, 76), (r1, plA noP, 76)] (n := 8) (b := b13) (w0 := plA noP) (w := plA (lB u)) (e := 76) h rfl rfl (plA_st _) fun F14 h => ?_
  replace h : Lo G10 F14 [(b13, plA (lB u), 76), (b12, plA (fB u), 76), (b10, plA (lB t), 76), (b9, plA (fB t), 76), (b8, x.arr, 50), (r2, plA noP, 76), (r1, plA noP, 76)] := h
  refine ⟨_, rfl, _, by rw [cell_eq (h.le _ _ hC.q5)]; rfl, plA (lB t), rfl, h.row (b := b10) (w := plA (lB t)) (e := 76) (by simp), plA (fB u), rfl, h.row (b := b12) (w := plA (fB u)) (e := 76) (by simp), 65, #[], _, rfl, cb65', ?_⟩
  refine (h.call (link_spec (P := lB t) (Q := fB u) hC.lnk h0 hn (fun j hj => tree_lb ht hj))).mono ?_
  rintro _ F15 ⟨G15, ⟨rfl, hL, hk'⟩, h'⟩
  have hC' := hC.keep hk' hL
  replace hK := hK.trans hk'
  clear hC h hk' hL
  have hC := hC'
  have h := h'
  clear hC' h'
  refine ⟨rfl, ?_⟩
  have hR : ∀ k j, (R k j || foB t k j || foB u k j || (lB t k && fB u j)) = (R k j || foB (.seq t u) k j) := fun k j => by rw [foB_seq]; simp only [Bool.or_assoc]
  refine ⟨fun HA => ?_, fun HA => ?_⟩
  ·refine ⟨plA (fB u), rfl, h.row (b := b12) (w := plA (fB u)) (e := 76) (by simp), ?_⟩
   refine (Lo.join [(b13, plA (lB u), 76), (b12, plA (fB u), 76), (b10, plA (lB t), 76)] [(b8, x.arr, 50), (r2, plA noP, 76), (r1, plA noP, 76)] (b := b9) (P := fB t) (Q := fB u) h).mono ?_
   rintro _ F16 ⟨rfl, h'⟩
   replace h : Lo G15 F16 [(b13, plA (lB u), 76), (b12, plA (fB u), 76), (b10, plA (lB t), 76), (b9, plA (fun i => fB t i || fB u i), 76), (b8, x.arr, 50), (r2, plA noP, 76), (r1, plA noP, 76)] := h'
   clear h'
   refine ⟨rfl, ?_⟩
   unfold b69j1
   refine ⟨fun hb => ?_, fun hb => ?_⟩
   ·refine ⟨plA (lB t), rfl, h.row (b := b10) (w := plA (lB t)) (e := 76) (by simp), ?_⟩
    refine (Lo.join [] [(b12, plA (fB u), 76), (b10, plA (lB t), 76), (b9, plA (fun i => fB t i || fB u i), 76), (b8, x.arr, 50), (r2, plA noP, 76), (r1, plA noP, 76)] (b := b13) (P := lB u) (Q := lB t) h).mono ?_
    rintro _ F17 ⟨rfl, h'⟩
    replace h : Lo G15 F17 [(b13, plA (fun i => lB u i || lB t i), 76), (b12, plA (fB u), 76), (b10, plA (lB t), 76), (b9, plA (fun i => fB t i || fB u i), 76), (b8, x.arr, 50), (r2, plA noP, 76), (r1, plA noP, 76)] := h'
    clear h'
    refine ⟨rfl, ?_⟩
    unfold b69j2
    refine ⟨plA (fun i => fB t i || fB u i), rfl, h.row (b := b9) (w := plA (fun i => fB t i || fB u i)) (e := 76) (by simp), plA (fun i => lB u i || lB t i), rfl, h.row (b := b13) (w := plA (fun i => lB u i || lB t i)) (e := 76) (by simp), fun ha => ?_, fun ha => absurd ha (by rw [HA]; simp)⟩
    refine Lo.put [(b13, plA (fun i => lB u i || lB t i), 76), (b12, plA (fB u), 76), (b10, plA (lB t), 76), (b9, plA (fun i => fB t i || fB u i), 76), (b8, x.arr, 50), (r2, plA noP, 76)] [] (n := 8) (b := r1) (w0 := plA noP) (w := plA (fun i => fB t i || fB u i)) (e := 76) h rfl rfl (plA_st _) fun F18 h => ?_
    replace h : Lo G15 F18 [(b13, plA (fun i => lB u i || lB t i), 76), (b12, plA (fB u), 76), (b10, plA (lB t), 76), (b9, plA (fun i => fB t i || fB u i), 76), (b8, x.arr, 50), (r2, plA noP, 76), (r1, plA (fun i => fB t i || fB u i), 76)] := h
    refine Lo.put [(b13, plA (fun i => lB u i || lB t i), 76), (b12, plA (fB u), 76), (b10, plA (lB t), 76), (b9, plA (fun i => fB t i || fB u i), 76), (b8, x.arr, 50)] [(r1, plA (fun i => fB t i || fB u i), 76)] (n := 8) (b := r2) (w0 := plA noP) (w := plA (fun i => lB u i || lB t i)) (e := 76) h rfl rfl (plA_st _) fun F19 h => ?_
    replace h : Lo G15 F19 [(b13, plA (fun i => lB u i || lB t i), 76), (b12, plA (fB u), 76), (b10, plA (lB t), 76), (b9, plA (fun i => fB t i || fB u i), 76), (b8, x.arr, 50), (r2, plA (fun i => lB u i || lB t i), 76), (r1, plA (fun i => fB t i || fB u i), 76)] := h
    refine ⟨plA (fun i => fB t i || fB u i), rfl, h.row (b := r1) (w := plA (fun i => fB t i || fB u i)) (e := 76) (by simp), plA (fun i => lB u i || lB t i), rfl, h.row (b := r2) (w := plA (fun i => lB u i || lB t i)) (e := 76) (by simp), ?_⟩
    refine ⟨?_, (hC.le h.le).to hR, fun y o hy hn => h.le _ _ (hK y o hy hn)⟩
    rw [fB_seq1 HA, lB_seq1 hb]
    simp only [Lt.nul, HA, hb]
    rfl
   ·unfold b69j2
    refine ⟨plA (fun i => fB t i || fB u i), rfl, h.row (b := b9) (w := plA (fun i => fB t i || fB u i)) (e := 76) (by simp), plA (lB u), rfl, h.row (b := b13) (w := plA (lB u)) (e := 76) (by simp), fun ha => ?_, fun ha => absurd ha (by rw [HA]; simp)⟩
    refine Lo.put [(b13, plA (lB u), 76), (b12, plA (fB u), 76), (b10, plA (lB t), 76), (b9, plA (fun i => fB t i || fB u i), 76), (b8, x.arr, 50), (r2, plA noP, 76)] [] (n := 8) (b := r1) (w0 := plA noP) (w := plA (fun i => fB t i || fB u i)) (e := 76) h rfl rfl (plA_st _) fun F17 h => ?_
    replace h : Lo G15 F17 [(b13, plA (lB u), 76), (b12, plA (fB u), 76), (b10, plA (lB t), 76), (b9, plA (fun i => fB t i || fB u i), 76), (b8, x.arr, 50), (r2, plA noP, 76), (r1, plA (fun i => fB t i || fB u i), 76)] := h
    refine Lo.put [(b13, plA (lB u), 76), (b12, plA (fB u), 76), (b10, plA (lB t), 76), (b9, plA (fun i => fB t i || fB u i), 76), (b8, x.arr, 50)] [(r1, plA (fun i => fB t i || fB u i), 76)] (n := 8) (b := r2) (w0 := plA noP) (w := plA (lB u)) (e := 76) h rfl rfl (plA_st _) fun F18 h => ?_
    replace h : Lo G15 F18 [(b13, plA (lB u), 76), (b12, plA (fB u), 76), (b10, plA (lB t), 76), (b9, plA (fun i => fB t i || fB u i), 76), (b8, x.arr, 50), (r2, plA (lB u), 76), (r1, plA (fun i => fB t i || fB u i), 76)] := h
    refine ⟨plA (fun i => fB t i || fB u i), rfl, h.row (b := r1) (w := plA (fun i => fB t i || fB u i)) (e := 76) (by simp), plA (lB u), rfl, h.row (b := r2) (w := plA (lB u)) (e := 76) (by simp), ?_⟩
    refine ⟨?_, (hC.le h.le).to hR, fun y o hy hn => h.le _ _ (hK y o hy hn)⟩
    rw [fB_seq1 HA, lB_seq0 hb]
    simp only [Lt.nul, HA, hb]
    rfl
  ·unfold b69j1
   refine ⟨fun hb => ?_, fun hb => ?_⟩
   ·refine ⟨plA (lB t), rfl, h.row (b := b10) (w := plA (lB t)) (e := 76) (by simp), ?_⟩
    refine (Lo.join [] [(b12, plA (fB u), 76), (b10, plA (lB t), 76), (b9, plA (fB t), 76), (b8, x.arr, 50), (r2, plA noP, 76), (r1, plA noP, 76)] (b := b13) (P := lB u) (Q := lB t) h).mono ?_
    rintro _ F16 ⟨rfl, h'⟩
    replace h : Lo G15 F16 [(b13, plA (fun i => lB u i || lB t i), 76), (b12, plA (fB u), 76), (b10, plA (lB t), 76), (b9, plA (fB t), 76), (b8, x.arr, 50), (r2, plA noP, 76), (r1, plA noP, 76)] := h'
    clear h'
    refine ⟨rfl, ?_⟩
    unfold b69j2
    refine ⟨plA (fB t), rfl, h.row (b := b9) (w := plA (fB t)) (e := 76) (by simp), plA (fun i => lB u i || lB t i), rfl, h.row (b := b13) (w := plA (fun i => lB u i || lB t i)) (e := 76) (by simp), fun ha => absurd ha (by rw [HA]; simp), fun ha => ?_⟩
    refine Lo.put [(b13, plA (fun i => lB u i || lB t i), 76), (b12, plA (fB u), 76), (b10, plA (lB t), 76), (b9, plA (fB t), 76), (b8, x.arr, 50), (r2, plA noP, 76)] [] (n := 8) (b := r1) (w0 := plA noP) (w := plA (fB t)) (e := 76) h rfl rfl (plA_st _) fun F17 h => ?_
    replace h : Lo G15 F17 [(b13, plA (fun i => lB u i || lB t i), 76), (b12, plA (fB u), 76), (b10, plA (lB t), 76), (b9, plA (fB t), 76), (b8, x.arr, 50), (r2, plA noP, 76), (r1, plA (fB t), 76)] := h
    refine Lo.put [(b13, plA (fun i => lB u i || lB t i), 76), (b12, plA (fB u), 76), (b10, plA (lB t), 76), (b9, plA (fB t), 76), (b8, x.arr, 50)] [(r1, plA (fB t), 76)] (n := 8) (b := r2) (w0 := plA noP) (w := plA (fun i => lB u i || lB t i)) (e := 76) h rfl rfl (plA_st _) fun F18 h => ?_
    replace h : Lo G15 F18 [(b13, plA (fun i => lB u i || lB t i), 76), (b12, plA (fB u), 76), (b10, plA (lB t), 76), (b9, plA (fB t), 76), (b8, x.arr, 50), (r2, plA (fun i => lB u i || lB t i), 76), (r1, plA (fB t), 76)] := h
    refine ⟨plA (fB t), rfl, h.row (b := r1) (w := plA (fB t)) (e := 76) (by simp), plA (fun i => lB u i || lB t i), rfl, h.row (b := r2) (w := plA (fun i => lB u i || lB t i)) (e := 76) (by simp), ?_⟩
    refine ⟨?_, (hC.le h.le).to hR, fun y o hy hn => h.le _ _ (hK y o hy hn)⟩
    rw [fB_seq0 HA, lB_seq1 hb]
    simp only [Lt.nul, HA, hb]
    rfl
   ·unfold b69j2
    refine ⟨plA (fB t), rfl, h.row (b := b9) (w := plA (fB t)) (e := 76) (by simp), plA (lB u), rfl, h.row (b := b13) (w := plA (lB u)) (e := 76) (by simp), fun ha => absurd ha (by rw [HA]; simp), fun ha => ?_⟩
    refine Lo.put [(b13, plA (lB u), 76), (b12, plA (fB u), 76), (b10, plA (lB t), 76), (b9, plA (fB t), 76), (b8, x.arr, 50), (r2, plA noP, 76)] [] (n := 8) (b := r1) (w0 := plA noP) (w := plA (fB t)) (e := 76) h rfl rfl (plA_st _) fun F16 h => ?_
    replace h : Lo G15 F16 [(b13, plA (lB u), 76), (b12, plA (fB u), 76), (b10, plA (lB t), 76), (b9, plA (fB t), 76), (b8, x.arr, 50), (r2, plA noP, 76), (r1, plA (fB t), 76)] := h
    refine Lo.put [(b13, plA (lB u), 76), (b12, plA (fB u), 76), (b10, plA (lB t), 76), (b9, plA (fB t), 76), (b8, x.arr, 50)] [(r1, plA (fB t), 76)] (n := 8) (b := r2) (w0 := plA noP) (w := plA (lB u)) (e := 76) h rfl rfl (plA_st _) fun F17 h => ?_
    replace h : Lo G15 F17 [(b13, plA (lB u), 76), (b12, plA (fB u), 76), (b10, plA (lB t), 76), (b9, plA (fB t), 76), (b8, x.arr, 50), (r2, plA (lB u), 76), (r1, plA (fB t), 76)] := h
    refine ⟨plA (fB t), rfl, h.row (b := r1) (w := plA (fB t)) (e := 76) (by simp), plA (lB u), rfl, h.row (b := r2) (w := plA (lB u)) (e := 76) (by simp), ?_⟩
    refine ⟨?_, (hC.le h.le).to hR, fun y o hy hn => h.le _ _ (hK y o hy hn)⟩
    rw [fB_seq0 HA, lB_seq0 hb]
    simp only [Lt.nul, HA, hb]
    rfl
 | @alt i a b x t u na nb hx hk hxa hxb ht hu it iu =>
  intro F R hC
  obtain ⟨s, q1, hs, hsb⟩ := hC.q1
  have hlen := hs.nlen
  have hi' := (List.getElem?_eq_some_iff.1 hx).1
  obtain ⟨ad, had, hrow⟩ := rdn hs hx
  refine c69 ?_
  unfold b69
  have h := Lo.start F
  refine h.new _ _ fun r1 F1 h => ?_
  refine h.new _ _ fun r2 F2 h => ?_
  rw [← plA_none] at h
  refine ⟨_, rfl, s, by rw [cell_eq (h.le _ _ q1)]; rfl, ad, had, by omega, by omega, x.arr, rfl, fun k hk' => le_cell h.le (hrow k hk'), ?_⟩
  refine h.new _ _ fun b8 F3 h => ?_
  refine Lo.put [] [(r2, _, 76), (r1, _, 76)] (n := 5) (w := x.arr) h rfl rfl (st_narr x) fun F4 h => ?_
  simp only [List.nil_append] at h
  refine ⟨x.k, by rw [h.cell (b := b8) (w := x.arr) (e := 50) (by simp)]; rfl, ?_⟩
  have hK : Keep (fun x => x = bf) F F := Keep.refl _ _
  refine ⟨fun h => absurd h (by omega), fun _ => ⟨fun h => absurd h (by omega), fun _ => ⟨fun _ => ?_, fun h => absurd hk h⟩⟩⟩
  refine ⟨_, rfl, _, by rw [cell_eq (h.le _ _ hC.q4)]; rfl, _, by rw [h.cell (b := b8) (w := x.arr) (e := 50) (by simp)]; rfl, 69, #[], _, rfl, cb69', ?_⟩
  rw [hxa]
  refine (h.call (it hC)).mono ?_
  rintro _ F5 ⟨G5, ⟨rfl, hC', hk'⟩, h'⟩
  replace hK := hK.trans hk'
  clear hC h hk'
  have hC := hC'
  have h := h'
  clear hC' h'
  refine ⟨_, _, _, rfl, ?_⟩
  refine h.new _ _ fun b15 F6 h => ?_
  replace h : Lo G5 F6 [(b15, plA noP, 76), (b8, x.arr, 50), (r2, plA noP, 76), (r1, plA noP, 76)] := by rw [← plA_none] at h; exact h
  refine h.new _ _ fun b16 F7 h => ?_
  replace h : Lo G5 F7 [(b16, plA noP, 76), (b15, plA noP, 76), (b8, x.arr, 50), (r2, plA noP, 76), (r1, plA noP, 76)] := by rw [← plA_none] at h; exact h
  refine Lo.put [(b16, plA noP, 76)] [(b8, x.arr, 50), (r2, plA noP, 76), (r1, plA noP, 76)] (n := 8) (b := b15) (w0 := plA noP) (w := plA (fB t)) (e := 76) h rfl rfl (plA_st _) fun F8 h => ?_
  replace h : Lo G5 F8 [(b16, plA noP, 76), (b15, plA (fB t), 76), (b8, x.arr, 50), (r2, plA noP, 76), (r1, plA noP, 76)] := h
  refine Lo.put [] [(b15, plA (fB t), 76), (b8, x.arr, 50), (r2, plA noP, 76), (r1, plA noP, 76)] (n := 8) (b := b16) (w0 := plA noP) (w := plA (lB t)) (e := 76) h rfl rfl (plA_st _) fun F9 h => ?_
  replace h : Lo G5 F9 [(b16, plA (lB t), 76), (b15, plA (fB t), 76), (b8, x.arr, 50), (r2, plA noP, 76), (r1, plA noP, 76)] := h
  refine ⟨_, by rw [cell_eq (h.le _ _ hC.q4)]; rfl, _, by rw [h.cell (b := b8) (w := x.arr) (e := 50) (by simp)]; rfl, 69, #[], _, rfl, cb69', ?_⟩
  rw [hxb]
  refine (h.call (iu hC)).mono ?_
  rintro _ F10 ⟨G10, ⟨rfl, hC', hk'⟩, h'⟩
  replace hK := hK.trans hk'
  clear hC h hk'
  have hC := hC'
  have h := h'
  clear hC' h'
  refine ⟨_, _, _, rfl, ?_⟩
  refine h.new _ _ fun b18 F11 h => ?_
  replace h : Lo G10 F11 [(b18, plA noP, 76), (b16, plA (lB t), 76), (b15, plA (fB t), 76), (b8, x.arr, 50), (r2, plA noP, 76), (r1, plA noP, 76)] := by rw [← plA_none] at h; exact h
  refine h.new _ _ fun b19 F12 h => ?_
  replace h : Lo G10 F12 [(b19, plA noP, 76), (b18, plA noP, 76), (b16, plA (lB t), 76), (b15, plA (fB t), 76), (b8, x.arr, 50), (r2, plA noP, 76), (r1, plA noP, 76)] := by rw [← plA_none] at h; exact h
  refine Lo.put [(b19, plA noP, 76)] [(b16, plA (lB t), 76), (b15, plA (fB t), 76), (b8, x.arr, 50), (r2, plA noP, 76), (r1, plA noP, 76)] (n := 8) (b := b18) (w0 := plA noP) (w := plA (fB u)) (e := 76) h rfl rfl (plA_st _) fun F13 h => ?_
  replace h : Lo G10 F13 [(b19, plA noP, 76), (b18, plA (fB u), 76), (b16, plA (lB t), 76), (b15, plA (fB t), 76), (b8, x.arr, 50), (r2, plA noP, 76), (r1, plA noP, 76)] := h
  refine Lo.put [] [(b18, plA (fB u), 76), (b16, plA (lB t), 76), (b15, plA (fB t), 76), (b8, x.arr, 50), (r2, plA noP, 76), (r1, plA noP, 76)] (n := 8) (b := b19) (w0 := plA noP) (w := plA (lB u)) (e := 76) h rfl rfl (plA_st _) fun F14 h => ?_
  replace h : Lo G10 F14 [(b19, plA (lB u), 76), (b18, plA (fB u), 76), (b16, plA (lB t), 76), (b15, plA (fB t), 76), (b8, x.arr, 50), (r2, plA noP, 76), (r1, plA noP, 76)] := h
  refine ⟨plA (fB u), rfl, h.row (b := b18) (w := plA (fB u)) (e := 76) (by simp), ?_⟩
  refine (Lo.join [(b19, plA (lB u), 76), (b18, plA (fB u), 76), (b16, plA (lB t), 76)] [(b8, x.arr, 50), (r2, plA noP, 76), (r1, plA noP, 76)] (b := b15) (P := fB t) (Q := fB u) h).mono ?_
  rintro _ F15 ⟨rfl, h'⟩
  replace h : Lo G10 F15 [(b19, plA (lB u), 76), (b18, plA (fB u), 76), (b16, plA (lB t), 76), (b15, plA (fun i => fB t i || fB u i), 76), (b8, x.arr, 50), (r2, plA noP, 76), (r1, plA noP, 76)] := h'
  clear h'
  refine ⟨rfl, ?_⟩
  refine ⟨plA (lB u), rfl, h.row (b := b19) (w := plA (lB u)) (e := 76) (by simp), ?_⟩
  refine (Lo.join [(b19, plA (lB u), 76), (b18, plA (fB u), 76)] [(b15, plA (fun i => fB t i || fB u i), 76), (b8, x.arr, 50), (r2, plA noP, 76), (r1, plA noP, 76)] (b := b16) (P := lB t) (Q := lB u) h).mono ?_
  rintro _ F16 ⟨rfl, h'⟩
  replace h : Lo G10 F16 [(b19, plA (lB u), 76), (b18, plA (fB u), 76), (b16, plA (fun i => lB t i || lB u i), 76), (b15, plA (fun i => fB t i || fB u i), 76), (b8, x.arr, 50), (r2, plA noP, 76), (r1, plA noP, 76)] := h'
  clear h'
  refine ⟨rfl, ?_⟩
  have hR : ∀ k j, (R k j || foB t k j || foB u k j) = (R k j || foB (.alt t u) k j) := fun k j => by rw [foB_alt, Bool.or_assoc]
  refine ⟨plA (fun i => fB t i || fB u i), rfl, h.row (b := b15) (w := plA (fun i => fB t i || fB u i)) (e := 76) (by simp), plA (fun i => lB t i || lB u i), rfl, h.row (b := b16) (w := plA (fun i => lB t i || lB u i)) (e := 76) (by simp), fun ha => ?_, fun ha => ?_⟩
  ·refine Lo.put [(b19, plA (lB u), 76), (b18, plA (fB u), 76), (b16, plA (fun i => lB t i || lB u i), 76), (b15, plA (fun i => fB t i || fB u i), 76), (b8, x.arr, 50), (r2, plA noP, 76)] [] (n := 8) (b := r1) (w0 := plA noP) (w := plA (fun i => fB t i || fB u i)) (e := 76) h rfl rfl (plA_st _) fun F17 h => ?_
   replace h : Lo G10 F17 [(b19, plA (lB u), 76), (b18, plA (fB u), 76), (b16, plA (fun i => lB t i || lB u i), 76), (b15, plA (fun i => fB t i || fB u i), 76), (b8, x.arr, 50), (r2, plA noP, 76), (r1, plA (fun i => fB t i || fB u i), 76)] := h
   refine Lo.put [(b19, plA (lB u), 76), (b18, plA (fB u), 76), (b16, plA (fun i => lB t i || lB u i), 76), (b15, plA (fun i => fB t i || fB u i), 76), (b8, x.arr, 50)] [(r1, plA (fun i => fB t i || fB u i), 76)] (n := 8) (b := r2) (w0 := plA noP) (w := plA (fun i => lB t i || lB u i)) (e := 76) h rfl rfl (plA_st _) fun F18 h => ?_
   replace h : Lo G10 F18 [(b19, plA (lB u), 76), (b18, plA (fB u), 76), (b16, plA (fun i => lB t i || lB u i), 76), (b15, plA (fun i => fB t i || fB u i), 76), (b8, x.arr, 50), (r2, plA (fun i => lB t i || lB u i), 76), (r1, plA (fun i => fB t i || fB u i), 76)] := h
   refine ⟨plA (fun i => fB t i || fB u i), rfl, h.row (b := r1) (w := plA (fun i => fB t i || fB u i)) (e := 76) (by simp), plA (fun i => lB t i || lB u i), rfl, h.row (b := r2) (w := plA (fun i => lB t i || lB u i)) (e := 76) (by simp), ?_⟩
   refine ⟨?_, (hC.le h.le).to hR, fun y o hy hn => h.le _ _ (hK y o hy hn)⟩
   rw [fB_alt, lB_alt]
   simp only [Lt.nul, ha]
   rfl
  ·refine Lo.put [(b19, plA (lB u), 76), (b18, plA (fB u), 76), (b16, plA (fun i => lB t i || lB u i), 76), (b15, plA (fun i => fB t i || fB u i), 76), (b8, x.arr, 50), (r2, plA noP, 76)] [] (n := 8) (b := r1) (w0 := plA noP) (w := plA (fun i => fB t i || fB u i)) (e := 76) h rfl rfl (plA_st _) fun F17 h => ?_
   replace h : Lo G10 F17 [(b19, plA (lB u), 76), (b18, plA (fB u), 76), (b16, plA (fun i => lB t i || lB u i), 76), (b15, plA (fun i => fB t i || fB u i), 76), (b8, x.arr, 50), (r2, plA noP, 76), (r1, plA (fun i => fB t i || fB u i), 76)] := h
   refine Lo.put [(b19, plA (lB u), 76), (b18, plA (fB u), 76), (b16, plA (fun i => lB t i || lB u i), 76), (b15, plA (fun i => fB t i || fB u i), 76), (b8, x.arr, 50)] [(r1, plA (fun i => fB t i || fB u i), 76)] (n := 8) (b := r2) (w0 := plA noP) (w := plA (fun i => lB t i || lB u i)) (e := 76) h rfl rfl (plA_st _) fun F18 h => ?_
   replace h : Lo G10 F18 [(b19, plA (lB u), 76), (b18, plA (fB u), 76), (b16, plA (fun i => lB t i || lB u i), 76), (b15, plA (fun i => fB t i || fB u i), 76), (b8, x.arr, 50), (r2, plA (fun i => lB t i || lB u i), 76), (r1, plA (fun i => fB t i || fB u i), 76)] := h
   refine ⟨plA (fun i => fB t i || fB u i), rfl, h.row (b := r1) (w := plA (fun i => fB t i || fB u i)) (e := 76) (by simp), plA (fun i => lB t i || lB u i), rfl, h.row (b := r2) (w := plA (fun i => lB t i || lB u i)) (e := 76) (by simp), ?_⟩
   refine ⟨?_, (hC.le h.le).to hR, fun y o hy hn => h.le _ _ (hK y o hy hn)⟩
   rw [fB_alt, lB_alt]
   simp only [Lt.nul, ha]
   rfl
 | @rep i a x t na hx hk hxa ht it =>
  intro F R hC
  obtain ⟨s, q1, hs, hsb⟩ := hC.q1
  have hlen := hs.nlen
  have hi' := (List.getElem?_eq_some_iff.1 hx).1
  obtain ⟨ad, had, hrow⟩ := rdn hs hx
  refine c69 ?_
  unfold b69
  have h := Lo.start F
  refine h.new _ _ fun r1 F1 h => ?_
  refine h.new _ _ fun r2 F2 h => ?_
  rw [← plA_none] at h
  refine ⟨_, rfl, s, by rw [cell_eq (h.le _ _ q1)]; rfl, ad, had, by omega, by omega, x.arr, rfl, fun k hk' => le_cell h.le (hrow k hk'), ?_⟩
  refine h.new _ _ fun b8 F3 h => ?_
  refine Lo.put [] [(r2, _, 76), (r1, _, 76)] (n := 5) (w := x.arr) h rfl rfl (st_narr x) fun F4 h => ?_
  simp only [List.nil_append] at h
  refine ⟨x.k, by rw [h.cell (b := b8) (w := x.arr) (e := 50) (by simp)]; rfl, ?_⟩
  have hK : Keep (fun x => x = bf) F F := Keep.refl _ _
  refine ⟨fun h => absurd h (by omega), fun _ => ⟨fun h => absurd h (by omega), fun _ => ⟨fun h => absurd h (by omega), fun _ => ⟨fun _ => ?_, fun h => absurd hk h⟩⟩⟩⟩
  refine ⟨_, rfl, _, by rw [cell_eq (h.le _ _ hC.q4)]; rfl, _, by rw [h.cell (b := b8) (w := x.arr) (e := 50) (by simp)]; rfl, 69, #[], _, rfl, cb69', ?_⟩
  rw [hxa]
  refine (h.call (it hC)).mono ?_
  rintro _ F5 ⟨G5, ⟨rfl, hC', hk'⟩, h'⟩
  replace hK := hK.trans hk'
  clear hC h hk'
  have hC := hC'
  have h := h'
  clear hC' h'
  refine ⟨_, _, _, rfl, ?_⟩
  refine h.new _ _ fun b21 F6 h => ?_
  replace h : Lo G5 F6 [(b21, plA noP, 76), (b8, x.arr, 50), (r2, plA noP, 76), (r1, plA noP, 76)] := by rw [← plA_none] at h; exact h
  refine h.new _ _ fun b22 F7 h => ?_
  replace h : Lo G5 F7 [(b22, plA noP, 76), (b21, plA noP, 76), (b8, x.arr, 50), (r2, plA noP, 76), (r1, plA noP, 76)] := by rw [← plA_none] at h; exact h
  refine Lo.put [(b22, plA noP, 76)] [(b8, x.arr, 50), (r2, plA noP, 76), (r1, plA noP, 76)] (n := 8) (b := b21) (w0 := plA noP) (w := plA (fB t)) (e := 76) h rfl rfl (plA_st _) fun F8 h => ?_
  replace h : Lo G5 F8 [(b22, plA noP, 76), (b21, plA (fB t), 76), (b8, x.arr, 50), (r2, plA noP, 76), (r1, plA noP, 76)] := h
  refine Lo.put [] [(b21, plA (fB t), 76), (b8, x.arr, 50), (r2, plA noP, 76), (r1, plA noP, 76)] (n := 8) (b := b22) (w0 := plA noP) (w := plA (lB t)) (e := 76) h rfl rfl (plA_st _) fun F9 h => ?_
  replace h : Lo G5 F9 [(b22, plA (lB t), 76), (b21, plA (fB t), 76), (b8, x.arr, 50), (r2, plA noP, 76), (r1, plA noP, 76)] := h
  refine ⟨_, rfl, _, by rw [cell_eq (h.le _ _ hC.q5)]; rfl, plA (lB t), rfl, h.row (b := b22) (w := plA (lB t)) (e := 76) (by simp), plA (fB t), rfl, h.row (b := b21) (w := plA (fB t)) (e := 76) (by simp), 65, #[], _, rfl, cb65', ?_⟩
  refine (h.call (link_spec (P := lB t) (Q := fB t) hC.lnk h0 hn (fun j hj => tree_lb ht hj))).mono ?_
  rintro _ F10 ⟨G10, ⟨rfl, hL, hk'⟩, h'⟩
  have hC' := hC.keep hk' hL
  replace hK := hK.trans hk'
  clear hC h hk' hL
  have hC := hC'
  have h := h'
  clear hC' h'
  refine ⟨rfl, ?_⟩
  have hR : ∀ k j, (R k j || foB t k j || (lB t k && fB t j)) = (R k j || foB (.rep t) k j) := fun k j => by rw [foB_rep]; simp only [Bool.or_assoc]
  refine ⟨plA (fB t), rfl, h.row (b := b21) (w := plA (fB t)) (e := 76) (by simp), plA (lB t), rfl, h.row (b := b22) (w := plA (lB t)) (e := 76) (by simp), ?_⟩
  refine Lo.put [(b22, plA (lB t), 76), (b21, plA (fB t), 76), (b8, x.arr, 50), (r2, plA noP, 76)] [] (n := 8) (b := r1) (w0 := plA noP) (w := plA (fB t)) (e := 76) h rfl rfl (plA_st _) fun F11 h => ?_
  replace h : Lo G10 F11 [(b22, plA (lB t), 76), (b21, plA (fB t), 76), (b8, x.arr, 50), (r2, plA noP, 76), (r1, plA (fB t), 76)] := h
  refine ⟨h.row (b := b22) (w := plA (lB t)) (e := 76) (by simp), ?_⟩
  refine Lo.put [(b22, plA (lB t), 76), (b21, plA (fB t), 76), (b8, x.arr, 50)] [(r1, plA (fB t), 76)] (n := 8) (b := r2) (w0 := plA noP) (w := plA (lB t)) (e := 76) h rfl rfl (plA_st _) fun F12 h => ?_
  replace h : Lo G10 F12 [(b22, plA (lB t), 76), (b21, plA (fB t), 76), (b8, x.arr, 50), (r2, plA (lB t), 76), (r1, plA (fB t), 76)] := h
  refine ⟨plA (fB t), rfl, h.row (b := r1) (w := plA (fB t)) (e := 76) (by simp), plA (lB t), rfl, h.row (b := r2) (w := plA (lB t)) (e := 76) (by simp), ?_⟩
  refine ⟨?_, (hC.le h.le).to hR, fun y o hy hn => h.le _ _ (hK y o hy hn)⟩
  rw [fB_rep, lB_rep, Lt.nul]
end
def mcells (s : Sl) (P Q : Nat → Bool) (bf n : Nat) (e : Bool) : Array Value :=
 #[s.v, u64v (wd P 0), u64v (wd P 1), u64v (wd P 2), u64v (wd P 3), u64v (wd P 4), u64v (wd P 5), u64v (wd P 6), u64v (wd P 7),
  u64v (wd Q 0), u64v (wd Q 1), u64v (wd Q 2), u64v (wd Q 3), u64v (wd Q 4), u64v (wd Q 5), u64v (wd Q 6), u64v (wd Q 7), Sl.v ⟨some ⟨bf, 0, none⟩, n, n⟩, .bool e]
theorem wr19a (a0 a1 a2 a3 a4 a5 a6 a7 a8 a9 a10 a11 a12 a13 a14 a15 a16 a17 a18 v0 v1 v2 v3 v4 v5 v6 v7 : Value) : wr (#[a0, a1, a2, a3, a4, a5, a6, a7, a8, a9, a10, a11, a12, a13, a14, a15, a16, a17, a18] : Array Value) 1 [v0, v1, v2, v3, v4, v5, v6, v7] = #[a0, v0, v1, v2, v3, v4, v5, v6, v7, a9, a10, a11, a12, a13, a14, a15, a16, a17, a18] :=
 (wr_list [v0, v1, v2, v3, v4, v5, v6, v7] [a0, a1, a2, a3, a4, a5, a6, a7, a8, a9, a10, a11, a12, a13, a14, a15, a16, a17, a18] 1 (by show 9 ≤ 19; omega)).trans rfl
theorem wr19b (a0 a1 a2 a3 a4 a5 a6 a7 a8 a9 a10 a11 a12 a13 a14 a15 a16 a17 a18 v0 v1 v2 v3 v4 v5 v6 v7 : Value) : wr (#[a0, a1, a2, a3, a4, a5, a6, a7, a8, a9, a10, a11, a12, a13, a14, a15, a16, a17, a18] : Array Value) 9 [v0, v1, v2, v3, v4, v5, v6, v7] = #[a0, a1, a2, a3, a4, a5, a6, a7, a8, v0, v1, v2, v3, v4, v5, v6, v7, a17, a18] :=
 (wr_list [v0, v1, v2, v3, v4, v5, v6, v7] [a0, a1, a2, a3, a4, a5, a6, a7, a8, a9, a10, a11, a12, a13, a14, a15, a16, a17, a18] 9 (by show 17 ≤ 19; omega)).trans rfl
theorem mc_w1 (s : Sl) (P P' Q : Nat → Bool) (bf n : Nat) (e : Bool) : wr (mcells s P' Q bf n e) 1 (plA P).toList = mcells s P Q bf n e := wr19a _ _ _ _ _ _ _ _ _ _ _ _ _ _ _ _ _ _ _ _ _ _ _ _ _ _ _
theorem mc_w9 (s : Sl) (P Q' Q : Nat → Bool) (bf n : Nat) (e : Bool) : wr (mcells s P Q' bf n e) 9 (plA Q).toList = mcells s P Q bf n e := wr19b _ _ _ _ _ _ _ _ _ _ _ _ _ _ _ _ _ _ _ _ _ _ _ _ _ _ _
theorem mc_18 (s : Sl) (P Q : Nat → Bool) (bf n : Nat) (e e' : Bool) : (mcells s P Q bf n e).setIfInBounds 18 (.bool e') = mcells s P Q bf n e' := rfl
def noR : Nat → Nat → Bool := fun _ _ => false
theorem flat_none : ∀ n : Nat, flatR n noR = List.replicate (n * 8) (.int .u64 0)
 | 0 => rfl
 | n + 1 => by
  have := flat_none n
  unfold flatR at this ⊢
  rw [List.range_succ, List.flatMap_append, this, List.flatMap_cons, List.flatMap_nil, List.append_nil]
  have e : (plA (noR n)).toList = List.replicate 8 (.int .u64 0) := by
   show (plA noP).toList = _
   rw [plA_none]
   rfl
  rw [e, List.replicate_append_replicate]
  congr 1
  omega
theorem sz76' : tsz prog 76 = some (8, 64) := by kernel_rfl
theorem zr76' : tzero prog 76 = some (.agg #[.int .u64 0, .int .u64 0, .int .u64 0, .int .u64 0, .int .u64 0, .int .u64 0, .int .u64 0, .int .u64 0]) := by kernel_rfl
theorem zc8 (n : Nat) : Builtin.zeroCells (Value.agg #[.int .u64 0, .int .u64 0, .int .u64 0, .int .u64 0, .int .u64 0, .int .u64 0, .int .u64 0, .int .u64 0]).cells n = (flatR n noR).toArray := by
 rw [flat_none]
 have hz : (Value.agg #[.int .u64 0, .int .u64 0, .int .u64 0, .int .u64 0, .int .u64 0, .int .u64 0, .int .u64 0, .int .u64 0]).cells = (List.replicate 8 (Value.int .u64 0)).toArray := rfl
 rw [hz]
 apply Array.ext
 ·simp [Builtin.zeroCells]
 ·intro i h1 h2
  simp only [Builtin.zeroCells, Array.getElem_map, Array.getElem_range, List.getElem_toArray, List.getElem_replicate]
  have : i % (List.replicate 8 (Value.int .u64 0)).toArray.size < 8 := Nat.mod_lt _ (by decide)
  rw [getElem!_pos _ _ (by simpa using this)]
  simp only [List.size_toArray, List.length_replicate, List.getElem_toArray, List.getElem_replicate]
structure Mch (F : PH) (bm : Nat) (l : List Nd) (t : Lt) : Prop where
 ex : ∃ (s : Sl) (bf : Nat), F bm = some (.cells (mcells s (fB t) (lB t) bf l.length t.nul) 79) ∧ RdS F s 5 (nflat l) ∧ F bf = some (.cells (flatR l.length (foB t)).toArray 76)
theorem Mch.le {F G : PH} {bm : Nat} {l : List Nd} {t : Lt} (h : Mch F bm l t) (hl : F.le G) : Mch G bm l t := by
 obtain ⟨s, bf, a, b, c⟩ := h.ex
 exact ⟨s, bf, hl _ _ a, b.le hl, hl _ _ c⟩
theorem Tab.zero {F : PH} (h : Tab F) : ∃ o, F 0 = some o := by
 have := h 0 0 rfl
 unfold PH.cell at this
 cases hz : F 0 with
 | none => rw [hz] at this; cases this
 | some o => exact ⟨o, rfl⟩
theorem RdS.block {F : PH} {s : Sl} {size : Nat} {vs : List Value} (h : RdS F s size vs) (hv : 0 < vs.length) {a : Addr} (ha : s.base = some a) : ∃ o, F a.block = some o := by
 have hp : 0 < s.len := by
  rcases Nat.eq_zero_or_pos s.len with h0 | h0
  ·have := h.len; rw [h0, Nat.zero_mul] at this; omega
  ·exact h0
 obtain ⟨b, o, h1, h2⟩ := h.cells hp
 rw [ha] at h1
 cases h1
 have hc := h2 0 hv
 unfold PH.cell at hc
 cases hz : F b with
 | none => simp only [hz] at hc; cases hc
 | some ob => exact ⟨ob, rfl⟩
theorem Lo.new' {G F : PH} {xs : List (Nat × Array Value × TypeId)} (h : Lo G F xs) (c : Array Value) (e : TypeId) {b : Nat} (hb : F b = none) : Lo G (F.set b (.cells c e)) ((b, c, e) :: xs) :=
 atE (h.new c e (K := fun b F' => Lo G F' ((b, c, e) :: xs)) (fun _ _ h => h) b hb)
section
variable {F0 F : PH} {l : List Nd}
set_option maxHeartbeats 1000000 in
theorem compile_j1 {s : Sl} {b1 b3 bm bf : Nat} (hT : Tab F0) (hG : GoodL l) (hl : l.length ≤ 512) (hs : RdS F0 s 5 (nflat l)) (le : F0.le F) (q1 : F b1 = some (.cells #[s.v] 25)) (q3 : F b3 = some (.cells #[pa bm] 61))
  (qm : F bm = some (.cells (mcells s noP noP bf l.length false) 79)) (qf : F bf = some (.cells (flatR l.length noR).toArray 76)) (zm : F0 bm = none) (zf : F0 bf = none) {R : Value → PH → Prop}
  (k : ∀ F', Mch F' bm l (treeL l) → F0.le F' → R (pa bm) F') : b42j1 b1 (some ⟨b3, 0, none⟩) R F := by
 obtain ⟨ns, ht⟩ := treeL_spec hG
 have hlen := hs.nlen
 have hpos := List.length_pos_iff.2 hG.ne
 have h0 : bf ≠ 0 := fun e => by
  obtain ⟨o, ho⟩ := hT.zero
  rw [e, ho] at zf
  cases zf
 unfold b42j1
 intro b4 hb4
 refine atI ?_
 have l4 := le_set_fresh (.cells #[.nilFunc] 104) hb4
 have q4 := set_eq F b4 (.cells #[.nilFunc] 104)
 have le4 := le_trans' le l4
 replace q1 := l4 _ _ q1
 replace q3 := l4 _ _ q3
 replace qm := l4 _ _ qm
 replace qf := l4 _ _ qf
 have z4 : F0 b4 = none := le_none le hb4
 clear l4 hb4 le
 generalize F.set b4 (.cells #[.nilFunc] 104) = F1 at *
 intro b5 hb5
 refine atI ?_
 have l5 := le_set_fresh (.cells #[.nilFunc] 108) hb5
 have q5 := set_eq F1 b5 (.cells #[.nilFunc] 108)
 have le5 := le_trans' le4 l5
 replace q1 := l5 _ _ q1
 replace q3 := l5 _ _ q3
 replace qm := l5 _ _ qm
 replace qf := l5 _ _ qf
 have n45 : b4 ≠ b5 := ne_of_fresh hb5 q4
 replace q4 := l5 _ _ q4
 have z5 : F0 b5 = none := le_none le4 hb5
 clear l5 hb5 le4
 generalize F1.set b5 (.cells #[.nilFunc] 108) = F2 at *
 have ne : ∀ {x y : Nat} {c d : Array Value} {e e' : TypeId}, e ≠ e' → F2 x = some (.cells c e) → F2 y = some (.cells d e') → x ≠ y := fun he hx hy e => by
  rw [e, hy] at hx
  simp at hx
  exact he hx.2.symm
 refine st1 (o := 0) q5 (by simp) ?_
 show ∃ c e, _
 have e5 : (#[Value.nilFunc] : Array Value).setIfInBounds 0 (.func (.func 65) #[] #[pa b3]) = #[.func (.func 65) #[] #[pa b3]] := rfl
 rw [e5]
 have le6 := le_set_new (o := .cells #[.func (.func 65) #[] #[pa b3]] 108) le5 z5
 have q1' : (F2.set b5 (.cells #[.func (.func 65) #[] #[pa b3]] 108)) b1 = _ := (set_ne _ _ (ne (by decide) q1 q5)).trans q1
 have q3' : (F2.set b5 (.cells #[.func (.func 65) #[] #[pa b3]] 108)) b3 = _ := (set_ne _ _ (ne (by decide) q3 q5)).trans q3
 have qm' : (F2.set b5 (.cells #[.func (.func 65) #[] #[pa b3]] 108)) bm = _ := (set_ne _ _ (ne (by decide) qm q5)).trans qm
 have qf' : (F2.set b5 (.cells #[.func (.func 65) #[] #[pa b3]] 108)) bf = _ := (set_ne _ _ (ne (by decide) qf q5)).trans qf
 have q4' : (F2.set b5 (.cells #[.func (.func 65) #[] #[pa b3]] 108)) b4 = _ := (set_ne _ _ n45).trans q4
 have q5' := set_eq F2 b5 (.cells #[.func (.func 65) #[] #[pa b3]] 108)
 clear q1 q3 qm qf q4 q5 le5 ne
 generalize F2.set b5 (.cells #[.func (.func 65) #[] #[pa b3]] 108) = F3 at *
 have ne : ∀ {x y : Nat} {c d : Array Value} {e e' : TypeId}, e ≠ e' → F3 x = some (.cells c e) → F3 y = some (.cells d e') → x ≠ y := fun he hx hy e => by
  rw [e, hy] at hx
  simp at hx
  exact he hx.2.symm
 refine st1 (o := 0) q4' (by simp) ?_
 have e4 : (#[Value.nilFunc] : Array Value).setIfInBounds 0 (.func (.func 69) #[] #[pa b1, pa b4, pa b5]) = #[.func (.func 69) #[] #[pa b1, pa b4, pa b5]] := rfl
 rw [e4]
 have le7 := le_set_new (o := .cells #[.func (.func 69) #[] #[pa b1, pa b4, pa b5]] 104) le6 z4
 have q1 : (F3.set b4 (.cells #[.func (.func 69) #[] #[pa b1, pa b4, pa b5]] 104)) b1 = _ := (set_ne _ _ (ne (by decide) q1' q4')).trans q1'
 have q3 : (F3.set b4 (.cells #[.func (.func 69) #[] #[pa b1, pa b4, pa b5]] 104)) b3 = _ := (set_ne _ _ (ne (by decide) q3' q4')).trans q3'
 have qm : (F3.set b4 (.cells #[.func (.func 69) #[] #[pa b1, pa b4, pa b5]] 104)) bm = _ := (set_ne _ _ (ne (by decide) qm' q4')).trans qm'
 have qf : (F3.set b4 (.cells #[.func (.func 69) #[] #[pa b1, pa b4, pa b5]] 104)) bf = _ := (set_ne _ _ (ne (by decide) qf' q4')).trans qf'
 have q5 : (F3.set b4 (.cells #[.func (.func 69) #[] #[pa b1, pa b4, pa b5]] 104)) b5 = _ := (set_ne _ _ n45.symm).trans q5'
 have q4 := set_eq F3 b4 (.cells #[.func (.func 69) #[] #[pa b1, pa b4, pa b5]] 104)
 clear q1' q3' qm' qf' q4' q5' le6 ne
 generalize F3.set b4 (.cells #[.func (.func 69) #[] #[pa b1, pa b4, pa b5]] 104) = F4 at *
 have hs4 := hs.le le7
 have hC : Cmp F4 b1 b3 b4 b5 bm bf l noR := by
  refine ⟨⟨hT.le le7, q3, ⟨_, qm, rfl⟩, qf⟩, ⟨s, q1, hs4, fun a ha e => ?_⟩, q4, q5⟩
  obtain ⟨o, ho⟩ := hs.block (by rw [nflat_length]; omega) ha
  rw [e, zf] at ho
  cases ho
 have c3 : F4.cell (Addr.mk b3 0 none) = some (pa bm) := by rw [cell_eq q3]; rfl
 refine ⟨_, rfl, _, c3, _, c3, _, c3, _, by rw [cell_eq q4]; rfl, s, by rw [cell_eq q1]; rfl, 69, #[], _, rfl, cb69', ?_⟩
 have ew : IntKind.i64.wrap ((s.len : Int) - 1) = ((l.length - 1 : Nat) : Int) := by rw [hlen, w64_eq (by omega) (by omega)]; omega
 rw [ew]
 refine (walk_spec hl h0 ht hC).mono ?_
 rintro _ F5 ⟨rfl, hC5, hK⟩
 have hne : ∀ {x : Nat} {c : Array Value} {e : TypeId}, e ≠ 76 → F4 x = some (.cells c e) → x ≠ bf := fun he hx e => by
  rw [e, qf] at hx
  simp at hx
  exact he hx.2.symm
 have q1 := hK _ _ q1 (hne (by decide) q1)
 have q3 := hK _ _ q3 (hne (by decide) q3)
 have qm := hK _ _ qm (hne (by decide) qm)
 have le8 : F0.le F5 := fun y o hy => hK y o (le7 y o hy) fun e => by rw [e, zf] at hy; cases hy
 have c3 : ∀ {G : PH}, G b3 = some (.cells #[pa bm] 61) → G.cell (Addr.mk b3 0 none) = some (pa bm) := fun h => by rw [cell_eq h]; rfl
 have n3m : b3 ≠ bm := fun e => by rw [e, qm] at q3; simp at q3
 have nfm : bf ≠ bm := fun e => by rw [← e, hC5.lnk.qf] at qm; simp at qm
 have nsm : ∀ a, s.base = some a → a.block ≠ bm := fun a ha e => by
  obtain ⟨o, ho⟩ := hs.block (by rw [nflat_length]; omega) ha
  rw [e, zm] at ho
  cases ho
 have qf := hC5.lnk.qf
 have hs5 := hs.le le8
 clear hC hC5 hK hne
 refine ⟨_, _, _, rfl, by rw [cell_eq q1]; rfl, c3 q3, c3 q3, c3 q3, _, rfl, rfl, plA_st _, _, _, qm, rfl, (by show 9 ≤ 19; omega), ?_⟩
 refine atI ?_
 have w1 : wr (mcells s noP noP bf l.length false) ((Addr.mk bm 0 none).add 1).off (plA (fB (treeL l))).toList = mcells s (fB (treeL l)) noP bf l.length false := mc_w1 _ _ _ _ _ _ _
 rw [w1]
 show (F5.set bm _).cell _ = _ ∧ _
 have q3a : (F5.set bm (.cells (mcells s (fB (treeL l)) noP bf l.length false) 79)) b3 = _ := (set_ne _ _ n3m).trans q3
 have qma := set_eq F5 bm (.cells (mcells s (fB (treeL l)) noP bf l.length false) 79)
 refine ⟨c3 q3a, c3 q3a, _, rfl, rfl, plA_st _, _, _, qma, rfl, (by show 17 ≤ 19; omega), ?_⟩
 refine atI ?_
 have w2 : wr (mcells s (fB (treeL l)) noP bf l.length false) ((Addr.mk bm 0 none).add 9).off (plA (lB (treeL l))).toList = mcells s (fB (treeL l)) (lB (treeL l)) bf l.length false := mc_w9 _ _ _ _ _ _ _
 rw [w2]
 rw [show ((F5.set ((Addr.mk bm 0 none).add 1).block (.cells (mcells s (fB (treeL l)) noP bf l.length false) 79)).set ((Addr.mk bm 0 none).add 9).block (.cells (mcells s (fB (treeL l)) (lB (treeL l)) bf l.length false) 79)) = F5.set bm (.cells (mcells s (fB (treeL l)) (lB (treeL l)) bf l.length false) 79) from set_twice _ _ _ _]
 have q3b : (F5.set bm (.cells (mcells s (fB (treeL l)) (lB (treeL l)) bf l.length false) 79)) b3 = _ := (set_ne _ _ n3m).trans q3
 have qmb := set_eq F5 bm (.cells (mcells s (fB (treeL l)) (lB (treeL l)) bf l.length false) 79)
 refine ⟨c3 q3b, _, rfl, ?_⟩
 refine st1' (b := bm) (o := 18) rfl qmb (by show 18 < 19; omega) ?_
 rw [set_twice]
 have w3 : (mcells s (fB (treeL l)) (lB (treeL l)) bf l.length false).setIfInBounds 18 (.bool (treeL l).nul) = mcells s (fB (treeL l)) (lB (treeL l)) bf l.length (treeL l).nul := mc_18 _ _ _ _ _ _ _
 rw [w3]
 refine ⟨_, c3 ((set_ne _ _ n3m).trans q3), k _ ⟨s, bf, set_eq _ _ _, hs5.keep fun a ha o ho => (set_ne _ _ (nsm a ha)).trans ho, ?_⟩ (le_set_new le8 zm)⟩
 rw [set_ne _ _ nfm, qf]
 congr 3
theorem compile_spec {s : Sl} (hT : Tab F) (hG : GoodL l) (hl : l.length ≤ 512) (hs : RdS F s 5 (nflat l)) : Spec prog 42 #[s.v] F fun r F' => (∃ bm, r = pa bm ∧ Mch F' bm l (treeL l)) ∧ F.le F' := by
 have hlen := hs.nlen
 refine c42 ?_
 unfold b42
 have fin : ∀ {F' : PH} {xs : List (Nat × Array Value × TypeId)} {b1 bf bm b3 : Nat}, Lo F F' xs → (b1, #[s.v], 25) ∈ xs → (b3, #[pa bm], 61) ∈ xs →
   (bm, (#[s.v, .int .u64 0, .int .u64 0, .int .u64 0, .int .u64 0, .int .u64 0, .int .u64 0, .int .u64 0, .int .u64 0, .int .u64 0, .int .u64 0, .int .u64 0, .int .u64 0, .int .u64 0, .int .u64 0, .int .u64 0, .int .u64 0, Sl.v ⟨some ⟨bf, 0, none⟩, s.len, s.len⟩, .bool false] : Array Value), 79) ∈ xs →
   (bf, (flatR s.len noR).toArray, 76) ∈ xs → b42j1 b1 (some ⟨b3, 0, none⟩) (fun r F' => (∃ bm, r = pa bm ∧ Mch F' bm l (treeL l)) ∧ F.le F') F' := fun h m1 m3 mm mf => by
  have em : ∀ bf : Nat, (#[s.v, .int .u64 0, .int .u64 0, .int .u64 0, .int .u64 0, .int .u64 0, .int .u64 0, .int .u64 0, .int .u64 0, .int .u64 0, .int .u64 0, .int .u64 0, .int .u64 0, .int .u64 0, .int .u64 0, .int .u64 0, .int .u64 0, Sl.v ⟨some ⟨bf, 0, none⟩, s.len, s.len⟩, .bool false] : Array Value) = mcells s noP noP bf l.length false := fun bf => by
   unfold mcells noP
   simp only [wd_zero, hlen]
   rfl
  rw [em] at mm
  rw [hlen] at mf
  exact compile_j1 hT hG hl hs h.le (h.get m1) (h.get m3) (h.get mm) (h.get mf) (h.z _ mm).2 (h.z _ mf).2 fun F'' a b => ⟨⟨_, rfl, a⟩, b⟩
 have h := Lo.start F
 refine h.new _ _ fun b1 F1 h => ?_
 have c1 : F1.cell (Addr.mk b1 0 none) = some s.v := by rw [h.cell (b := b1) (w := #[s.v]) (e := 25) (by simp)]; rfl
 refine ⟨s, c1, s, c1, ?_, ?_⟩
 ·refine runs_makeSlice underlying77 sz76' zr76' rfl (by omega) (Int.le_refl _) (by omega) (by omega) ?_
  intro bf hbf
  rw [zc8, Int.toNat_natCast]
  have h := h.new' (flatR s.len noR).toArray 76 hbf
  generalize F1.set bf (.cells (flatR s.len noR).toArray 76) = F2 at *
  have c1 : F2.cell (Addr.mk b1 0 none) = some s.v := by rw [h.cell (b := b1) (w := #[s.v]) (e := 25) (by simp)]; rfl
  refine ⟨_, rfl, c1, c1, ?_, ?_⟩
  ·refine h.new _ _ fun bm F3 h => ?_
   refine h.new _ _ fun b3 F4 h => ?_
   refine Lo.put1 [] [(bm, _, 79), (bf, _, 76), (b1, _, 25)] (b := b3) (i := 0) (w0 := #[.pointer none]) (w := #[pa bm]) (e := 61) h (by simp) rfl fun F5 h => ?_
   exact fin h (.tail _ (.tail _ (.tail _ (.head _)))) (.head _) (.tail _ (.head _)) (.tail _ (.tail _ (.head _)))
  ·refine h.new _ _ fun b3 F3 h => ?_
   refine h.new _ _ fun bm F4 h => ?_
   refine Lo.put1 [(bm, _, 79)] [(bf, _, 76), (b1, _, 25)] (b := b3) (i := 0) (w0 := #[.pointer none]) (w := #[pa bm]) (e := 61) h (by simp) rfl fun F5 h => ?_
   exact fin h (.tail _ (.tail _ (.tail _ (.head _)))) (.tail _ (.head _)) (.head _) (.tail _ (.tail _ (.head _)))
 ·refine h.new _ _ fun b3 F2 h => ?_
  refine runs_makeSlice underlying77 sz76' zr76' rfl (by omega) (Int.le_refl _) (by omega) (by omega) ?_
  intro bf hbf
  rw [zc8, Int.toNat_natCast]
  have h := h.new' (flatR s.len noR).toArray 76 hbf
  generalize F2.set bf (.cells (flatR s.len noR).toArray 76) = F3 at *
  have c1 : F3.cell (Addr.mk b1 0 none) = some s.v := by rw [h.cell (b := b1) (w := #[s.v]) (e := 25) (by simp)]; rfl
  refine ⟨_, rfl, c1, c1, ?_⟩
  refine h.new _ _ fun bm F4 h => ?_
  refine Lo.put1 [(bm, _, 79), (bf, _, 76)] [(b1, _, 25)] (b := b3) (i := 0) (w0 := #[.pointer none]) (w := #[pa bm]) (e := 61) h (by simp) rfl fun F5 h => ?_
  exact fin h (.tail _ (.tail _ (.tail _ (.head _)))) (.tail _ (.tail _ (.head _))) (.head _) (.tail _ (.head _))
end
end Go.Proofs.YtnjcgpihfmklfaaDoor
