/-
  The reference's Common: one byte behind one pair, in whatever order its parts are computed.
-/
import Derived.Test.YtnjcgpihfmklfaaDoorTe
import Derived.Test.YtnjcgpihfmklfaaDoorGj
namespace Go.Proofs.YtnjcgpihfmklfaaDoor
set_option maxRecDepth 10000
def lx : List Nat → List Nat → Prop
 | a :: u, b :: v => a < b ∨ (a = b ∧ lx u v)
 | _, _ => False
theorem lx_irrefl : ∀ u, ¬ lx u u
 | [], h => h
 | a :: u, h => by
  rcases h with h | ⟨_, h⟩
  ·omega
  ·exact lx_irrefl u h
theorem lx_trans : ∀ {u v w : List Nat}, lx u v → lx v w → lx u w
 | [], _, _, h, _ => h.elim
 | _ :: _, [], _, h, _ => h.elim
 | _ :: _, _ :: _, [], _, h => h.elim
 | a :: u, b :: v, c :: w, h1, h2 => by
  rcases h1 with h1 | ⟨rfl, h1⟩ <;> rcases h2 with h2 | ⟨rfl, h2⟩
  ·exact .inl (by omega)
  ·exact .inl h1
  ·exact .inl h2
  ·exact .inr ⟨rfl, lx_trans h1 h2⟩
theorem lx_tri : ∀ (u v : List Nat), u.length = v.length → lx u v ∨ u = v ∨ lx v u
 | [], [], _ => .inr (.inl rfl)
 | [], _ :: _, h => by simp at h
 | _ :: _, [], h => by simp at h
 | a :: u, b :: v, h => by
  rcases Nat.lt_trichotomy a b with h1 | rfl | h1
  ·exact .inl (.inl h1)
  ·rcases lx_tri u v (by simpa using h) with h2 | rfl | h2
   ·exact .inl (.inr ⟨rfl, h2⟩)
   ·exact .inr (.inl rfl)
   ·exact .inr (.inr (.inr ⟨rfl, h2⟩))
  ·exact .inr (.inr (.inl h1))
theorem lx_snoc : ∀ (u v : List Nat) (a b : Nat), u.length = v.length → (lx (u ++ [a]) (v ++ [b]) ↔ lx u v ∨ (u = v ∧ a < b))
 | [], [], a, b, _ => by simp [lx]
 | [], _ :: _, _, _, h => by simp at h
 | _ :: _, [], _, _, h => by simp at h
 | c :: u, d :: v, a, b, h => by
  simp only [List.cons_append, lx, List.cons.injEq, lx_snoc u v a b (by simpa using h)]
  clear h
  constructor
  ·rintro (h | ⟨rfl, h | ⟨rfl, h⟩⟩)
   ·exact .inl (.inl h)
   ·exact .inl (.inr ⟨rfl, h⟩)
   ·exact .inr ⟨⟨rfl, rfl⟩, h⟩
  ·rintro ((h | ⟨rfl, h⟩) | ⟨⟨rfl, rfl⟩, h⟩)
   ·exact .inl h
   ·exact .inr ⟨rfl, .inl h⟩
   ·exact .inr ⟨rfl, .inr ⟨rfl, h⟩⟩
theorem lx_LL : ∀ {u v : List Nat}, lx u v → LL u v
 | [], _, h => h.elim
 | _ :: _, [], h => h.elim
 | a :: u, b :: v, h => by
  rcases h with h | ⟨rfl, h⟩
  ·exact .inr ⟨[], a, b, u, v, rfl, rfl, h⟩
  ·rcases lx_LL h with ⟨r, rfl⟩ | ⟨p, c, d, r, s, rfl, rfl, hcd⟩
   ·exact .inl ⟨r, rfl⟩
   ·exact .inr ⟨a :: p, c, d, r, s, rfl, rfl, hcd⟩
def sl (u v : List Nat) : Prop := u.length < v.length ∨ (u.length = v.length ∧ lx u v)
def sle (u v : List Nat) : Prop := u = v ∨ sl u v
theorem sl_irrefl (u : List Nat) : ¬ sl u u := by
 rintro (h | ⟨_, h⟩)
 ·omega
 ·exact lx_irrefl u h
theorem sl_trans {u v w : List Nat} (h1 : sl u v) (h2 : sl v w) : sl u w := by
 rcases h1 with h1 | ⟨e1, h1⟩ <;> rcases h2 with h2 | ⟨e2, h2⟩
 ·exact .inl (by omega)
 ·exact .inl (by omega)
 ·exact .inl (by omega)
 ·exact .inr ⟨by omega, lx_trans h1 h2⟩
theorem sle_sl {u v w : List Nat} (h1 : sle u v) (h2 : sl v w) : sl u w := by
 rcases h1 with rfl | h1
 ·exact h2
 ·exact sl_trans h1 h2
theorem sle_trans {u v w : List Nat} (h1 : sle u v) (h2 : sle v w) : sle u w := by
 rcases h2 with rfl | h2
 ·exact h1
 ·exact .inr (sle_sl h1 h2)
theorem sl_snoc {u v : List Nat} {a b : Nat} : sl (u ++ [a]) (v ++ [b]) ↔ sl u v ∨ (u = v ∧ a < b) := by
 unfold sl
 simp only [List.length_append, List.length_singleton]
 constructor
 ·rintro (h | ⟨e, h⟩)
  ·exact .inl (.inl (by omega))
  ·rcases (lx_snoc u v a b (by omega)).1 h with h | h
   ·exact .inl (.inr ⟨by omega, h⟩)
   ·exact .inr h
 ·rintro ((h | ⟨e, h⟩) | ⟨rfl, h⟩)
  ·exact .inl (by omega)
  ·exact .inr ⟨by omega, (lx_snoc u v a b e).2 (.inl h)⟩
  ·exact .inr ⟨rfl, (lx_snoc u u a b rfl).2 (.inr ⟨rfl, h⟩)⟩
theorem sle_snoc {u v : List Nat} (h : sle u v) (a : Nat) : sle (u ++ [a]) (v ++ [a]) := by
 rcases h with rfl | h
 ·exact .inl rfl
 ·exact .inr (sl_snoc.2 (.inl h))
theorem sl_more (u : List Nat) (a : Nat) : sl u (u ++ [a]) := .inl (by simp)
structure Dfa where
 S : List Nat → Nat
 acc : List Nat → Prop
 dead : List Nat → Prop
 step : ∀ {u v : List Nat} (b : Nat), S u = S v → S (u ++ [b]) = S (v ++ [b])
 ac : ∀ {u v : List Nat}, S u = S v → acc u → acc v
 dd : ∀ {u v : List Nat}, S u = S v → dead u → dead v
 no : ∀ {u x : List Nat}, dead u → x ≠ [] → ¬ acc (u ++ x)
section
variable {D : Dfa} {W : List (List Nat)}
theorem bfs_main (h0 : [] ∈ W) {P : List Nat → Prop} (hP : ∀ u v, P v → sle u v → P u)
  (H : ∀ r ∈ W, ∀ c, c < 256 → P (r ++ [c]) → ¬ D.acc (r ++ [c]) ∧ (D.dead (r ++ [c]) ∨ ∃ v ∈ W, D.S v = D.S (r ++ [c]) ∧ sle v (r ++ [c]))) :
  ∀ x : List Nat, (∀ c ∈ x, c < 256) → P x → ((∃ y z, x = y ++ z ∧ D.dead y) ∨ ∃ r ∈ W, D.S r = D.S x ∧ sle r x) ∧ (x ≠ [] → ¬ D.acc x) := by
 intro x
 refine snoc_ind (P := fun x => (∀ c ∈ x, c < 256) → P x → ((∃ y z, x = y ++ z ∧ D.dead y) ∨ ∃ r ∈ W, D.S r = D.S x ∧ sle r x) ∧ (x ≠ [] → ¬ D.acc x)) (fun _ _ => ⟨.inr ⟨[], h0, rfl, .inl rfl⟩, fun h => absurd rfl h⟩) (fun w b ih hb hp => ?_) x
 obtain ⟨ih, _⟩ := ih (fun c hc => hb c (by simp [hc])) (hP _ _ hp (.inr (sl_more w b)))
 rcases ih with ⟨y, z, rfl, hd⟩ | ⟨r, hr, hs, hle⟩
 ·refine ⟨.inl ⟨y, z ++ [b], by rw [List.append_assoc], hd⟩, fun _ => ?_⟩
  rw [List.append_assoc]
  exact D.no hd (by simp)
 ·obtain ⟨h1, h2⟩ := H r hr b (hb b (by simp)) (hP _ _ hp (sle_snoc hle b))
  have hs' := D.step b hs
  refine ⟨?_, fun _ h => h1 (D.ac hs'.symm h)⟩
  rcases h2 with h2 | ⟨v, hv, e, hl⟩
  ·exact .inl ⟨w ++ [b], [], by simp, D.dd hs' h2⟩
  ·exact .inr ⟨v, hv, e.trans hs', sle_trans hl (sle_snoc hle b)⟩
structure Bfs (D : Dfa) (W : List (List Nat)) (i b : Nat) : Prop where
 z : W[0]? = some []
 by_ : ∀ w ∈ W, ∀ c ∈ w, c < 256
 so : ∀ (p q : Nat) u v, W[p]? = some u → W[q]? = some v → p < q → sl u v
 gen : ∀ w ∈ W, w = [] ∨ ∃ (p c : Nat) (u : List Nat), W[p]? = some u ∧ w = u ++ [c] ∧ (p < i ∨ (p = i ∧ c < b))
 cov : ∀ (p c : Nat) u, W[p]? = some u → c < 256 → (p < i ∨ (p = i ∧ c < b)) → ¬ D.acc (u ++ [c]) ∧ (D.dead (u ++ [c]) ∨ ∃ v ∈ W, D.S v = D.S (u ++ [c]) ∧ sle v (u ++ [c]))
 inj : (W.map D.S).Nodup
theorem Bfs.start : Bfs D [[]] 0 0 := ⟨rfl, by simp, fun p q u v h1 h2 h => by
  have := (List.getElem?_eq_some_iff.1 h1).1
  have := (List.getElem?_eq_some_iff.1 h2).1
  simp at *
  omega, by simp, fun p c u h1 h2 h3 => by omega, by simp⟩
theorem Bfs.next {i : Nat} (h : Bfs D W i 256) : Bfs D W (i + 1) 0 := ⟨h.z, h.by_, h.so, fun w hw => by
  rcases h.gen w hw with e | ⟨p, c, u, h1, h2, h3⟩
  ·exact .inl e
  ·exact .inr ⟨p, c, u, h1, h2, .inl (by omega)⟩, fun p c u h1 h2 h3 => h.cov p c u h1 h2 (by omega), h.inj⟩
theorem Bfs.before {i b : Nat} (h : Bfs D W i b) {u : List Nat} (hu : W[i]? = some u) : ∀ v ∈ W, sl v (u ++ [b]) := by
 intro v hv
 rcases h.gen v hv with rfl | ⟨p, c, x, h1, rfl, h3 | ⟨rfl, h3⟩⟩
 ·exact .inl (by simp)
 ·exact sl_snoc.2 (.inl (h.so p i x u h1 hu h3))
 ·rw [hu] at h1
  cases h1
  exact sl_snoc.2 (.inr ⟨rfl, h3⟩)
theorem Bfs.skip {i b : Nat} (h : Bfs D W i b) {u : List Nat} (hu : W[i]? = some u) (ha : ¬ D.acc (u ++ [b])) (hd : D.dead (u ++ [b]) ∨ ∃ v ∈ W, D.S v = D.S (u ++ [b])) : Bfs D W i (b + 1) := by
 refine ⟨h.z, h.by_, h.so, fun w hw => ?_, fun p c x h1 h2 h3 => ?_, h.inj⟩
 ·rcases h.gen w hw with e | ⟨p, c, u, h1, h2, h3⟩
  ·exact .inl e
  ·exact .inr ⟨p, c, u, h1, h2, by omega⟩
 ·by_cases e : p = i ∧ c = b
  ·obtain ⟨rfl, rfl⟩ := e
   rw [hu] at h1
   cases h1
   refine ⟨ha, ?_⟩
   rcases hd with hd | ⟨v, hv, e⟩
   ·exact .inl hd
   ·exact .inr ⟨v, hv, e, .inr (h.before hu v hv)⟩
  ·exact h.cov p c x h1 h2 (by omega)
theorem Bfs.push {i b : Nat} (h : Bfs D W i b) (hb : b < 256) {u : List Nat} (hu : W[i]? = some u) (ha : ¬ D.acc (u ++ [b])) (hn : ∀ v ∈ W, D.S v ≠ D.S (u ++ [b])) : Bfs D (W ++ [u ++ [b]]) i (b + 1) := by
 have hi := (List.getElem?_eq_some_iff.1 hu).1
 have old : ∀ {p : Nat} {x : List Nat}, (W ++ [u ++ [b]])[p]? = some x → W[p]? = some x ∨ (p = W.length ∧ x = u ++ [b]) := fun {p x} hx => by
  by_cases hp : p < W.length
  ·rw [List.getElem?_append_left hp] at hx
   exact .inl hx
  ·have := (List.getElem?_eq_some_iff.1 hx).1
   rw [List.length_append, List.length_singleton] at this
   obtain rfl : p = W.length := by omega
   simp at hx
   exact .inr ⟨rfl, hx.symm⟩
 have new : ∀ {p : Nat} {x : List Nat}, W[p]? = some x → (W ++ [u ++ [b]])[p]? = some x := fun {p x} hx => by
  rw [List.getElem?_append_left (List.getElem?_eq_some_iff.1 hx).1]
  exact hx
 refine ⟨new h.z, fun w hw => ?_, fun p q x y hx hy hpq => ?_, fun w hw => ?_, fun p c x h1 h2 h3 => ?_, ?_⟩
 ·rcases List.mem_append.1 hw with hw | hw
  ·exact h.by_ w hw
  ·simp at hw
   subst hw
   intro c hc
   rcases List.mem_append.1 hc with hc | hc
   ·exact h.by_ u (List.mem_of_getElem? hu) c hc
   ·simp at hc
    omega
 ·rcases old hx with hx | ⟨rfl, rfl⟩ <;> rcases old hy with hy | ⟨rfl, rfl⟩
  ·exact h.so p q x y hx hy hpq
  ·exact h.before hu x (List.mem_of_getElem? hx)
  ·have := (List.getElem?_eq_some_iff.1 hy).1
   omega
  ·omega
 ·rcases List.mem_append.1 hw with hw | hw
  ·rcases h.gen w hw with e | ⟨p, c, x, h1, h2, h3⟩
   ·exact .inl e
   ·exact .inr ⟨p, c, x, new h1, h2, by omega⟩
  ·simp at hw
   subst hw
   exact .inr ⟨i, b, u, new hu, rfl, .inr ⟨rfl, by omega⟩⟩
 ·rcases old h1 with k1 | ⟨rfl, rfl⟩
  ·by_cases e : p = i ∧ c = b
   ·obtain ⟨rfl, rfl⟩ := e
    rw [hu] at k1
    cases k1
    exact ⟨ha, .inr ⟨_, by simp, rfl, .inl rfl⟩⟩
   ·obtain ⟨g1, g2⟩ := h.cov p c x k1 h2 (by omega)
    refine ⟨g1, ?_⟩
    rcases g2 with g2 | ⟨v, hv, g3⟩
    ·exact .inl g2
    ·exact .inr ⟨v, List.mem_append_left _ hv, g3⟩
  ·omega
 ·rw [List.map_append, List.nodup_append]
  refine ⟨h.inj, by simp, fun a ha c hc e => ?_⟩
  obtain ⟨v, hv, rfl⟩ := List.mem_map.1 ha
  simp at hc
  subst hc
  exact hn v hv e
theorem Bfs.nil_mem {i b : Nat} (h : Bfs D W i b) : [] ∈ W := List.mem_of_getElem? h.z
theorem Bfs.found {i b : Nat} (h : Bfs D W i b) {u : List Nat} (hu : W[i]? = some u) {x : List Nat} (hx : ∀ c ∈ x, c < 256) (hne : x ≠ []) (hl : sl x (u ++ [b])) : ¬ D.acc x := by
 refine (bfs_main (P := fun v => sl v (u ++ [b])) h.nil_mem (fun a c h1 h2 => sle_sl h2 h1) (fun r hr c hc hl => ?_) x hx hl).2 hne
 obtain ⟨p, hp⟩ := List.mem_iff_getElem?.1 hr
 refine h.cov p c r hp hc ?_
 rcases sl_snoc.1 hl with h1 | ⟨rfl, h1⟩
 ·rcases Nat.lt_trichotomy p i with g | rfl | g
  ·exact .inl g
  ·rw [hu] at hp
   cases hp
   exact absurd h1 (sl_irrefl _)
  ·exact absurd (sl_trans h1 (h.so i p u r hu hp g)) (sl_irrefl _)
 ·rcases Nat.lt_trichotomy p i with g | rfl | g
  ·exact .inl g
  ·exact .inr ⟨rfl, h1⟩
  ·exact absurd (h.so i p r r hu hp g) (sl_irrefl _)
theorem Bfs.finished (h : Bfs D W W.length 0) {x : List Nat} (hx : ∀ c ∈ x, c < 256) (hne : x ≠ []) : ¬ D.acc x := by
 refine (bfs_main (P := fun _ => True) h.nil_mem (fun _ _ _ _ => trivial) (fun r hr c hc _ => ?_) x hx trivial).2 hne
 obtain ⟨p, hp⟩ := List.mem_iff_getElem?.1 hr
 exact h.cov p c r hp hc (.inl (List.getElem?_eq_some_iff.1 hp).1)
theorem Bfs.bound {i b B : Nat} (h : Bfs D W i b) (hS : ∀ w, D.S w < B) : W.length ≤ B := by
 have hB := hS []
 have := few_of_nodup (n := B - 1) h.inj fun e he => by
  obtain ⟨w, _, rfl⟩ := List.mem_map.1 he
  have := hS w
  omega
 rw [List.length_map] at this
 omega
theorem Bfs.short {i b : Nat} (h : Bfs D W i b) : ∀ (n p : Nat) (u : List Nat), p < n → W[p]? = some u → u.length ≤ p := by
 intro n
 induction n with
 | zero => intro p u h; omega
 | succ n ih =>
  intro p u hp hu
  rcases h.gen u (List.mem_of_getElem? hu) with rfl | ⟨q, c, x, h1, rfl, _⟩
  ·simp
  ·have hq : q < p := by
    rcases Nat.lt_trichotomy q p with g | rfl | g
    ·exact g
    ·rw [hu] at h1
     have := congrArg List.length (Option.some.inj h1)
     simp at this
    ·exact absurd (sl_trans (h.so p q _ x hu h1 g) (sl_more x c)) (sl_irrefl _)
   have := ih q x (by omega) h1
   rw [List.length_append, List.length_singleton]
   omega
end
end Go.Proofs.YtnjcgpihfmklfaaDoor
namespace Go.Proofs.YtnjcgpihfmklfaaDoor
open Go Go.Proofs.Tryd
set_option maxRecDepth 10000
def bl (n : Nat) (P : Nat → Bool) : List Value := (List.range n).map fun (i : Nat) => Value.bool (P i)
theorem bl_len (n : Nat) (P : Nat → Bool) : (bl n P).length = n := by simp [bl]
theorem bl_get {n : Nat} {P : Nat → Bool} {i : Nat} (hi : i < n) : (bl n P)[i]? = some (.bool (P i)) := by simp [bl, hi]
theorem bl_congr {n : Nat} {P Q : Nat → Bool} (h : ∀ j, j < n → P j = Q j) : bl n P = bl n Q := by
 unfold bl
 refine List.map_congr_left fun j hj => ?_
 rw [h j (List.mem_range.1 hj)]
theorem bl_set (n : Nat) (P : Nat → Bool) (i : Nat) (hi : i < n) : (bl n P).toArray.setIfInBounds i (.bool true) = (bl n (fun j => P j || decide (j = i))).toArray := by
 apply Array.ext'
 rw [Array.toList_setIfInBounds]
 apply List.ext_getElem?
 intro j
 rw [List.getElem?_set]
 by_cases h : i = j
 ·subst h
  rw [if_pos rfl, if_pos (by rw [bl_len]; exact hi), bl_get hi]
  simp
 ·rw [if_neg h]
  by_cases hj : j < n
  ·rw [bl_get hj, bl_get hj, decide_eq_false (by omega), Bool.or_false]
  ·rw [List.getElem?_eq_none (by rw [bl_len]; omega), List.getElem?_eq_none (by rw [bl_len]; omega)]
structure Wb (G F : PH) (u n : Nat) (P : Nat → Bool) : Prop where
 zu : G u = none
 le : G.le F
 qu : F u = some (.cells (bl n P).toArray 4)
theorem Wb.fresh {G F : PH} {u n x : Nat} {P : Nat → Bool} (h : Wb G F u n P) (hx : F x = none) (o : Obj) : Wb G (F.set x o) u n P :=
 ⟨h.zu, le_trans' h.le (le_set_fresh _ hx), le_set_fresh _ hx _ _ h.qu⟩
theorem ux {u i : Nat} : (Addr.mk u 0 none).add (Int.toNat (i : Int) * 1) = ⟨u, i, none⟩ := by
 rw [Int.toNat_natCast, Nat.mul_one]
 simp [Addr.add]
 omega
inductive Cx (l : List Nd) : Nat → (Nat → Prop) → Bool → Prop where
 | root {i : Nat} : i + 1 = l.length → Cx l i (fun _ => False) true
 | seqL {i k b : Nat} {x : Nd} {t u : Lt} {na nb : List Nat} {f : Nat → Prop} {e : Bool} : l[k]? = some x → x.k = 2 → x.a = i → x.b = b → TreeAt l i t na → TreeAt l b u nb → Cx l k f e → Cx l i (fun j => u.first j ∨ (u.nul = true ∧ f j)) (u.nul && e)
 | seqR {i k a : Nat} {x : Nd} {t u : Lt} {na nb : List Nat} {f : Nat → Prop} {e : Bool} : l[k]? = some x → x.k = 2 → x.a = a → x.b = i → TreeAt l a t na → TreeAt l i u nb → Cx l k f e → Cx l i f e
 | altL {i k b : Nat} {x : Nd} {t u : Lt} {na nb : List Nat} {f : Nat → Prop} {e : Bool} : l[k]? = some x → x.k = 3 → x.a = i → x.b = b → TreeAt l i t na → TreeAt l b u nb → Cx l k f e → Cx l i f e
 | altR {i k a : Nat} {x : Nd} {t u : Lt} {na nb : List Nat} {f : Nat → Prop} {e : Bool} : l[k]? = some x → x.k = 3 → x.a = a → x.b = i → TreeAt l a t na → TreeAt l i u nb → Cx l k f e → Cx l i f e
 | rep {i k : Nat} {x : Nd} {t : Lt} {na : List Nat} {f : Nat → Prop} {e : Bool} : l[k]? = some x → x.k = 4 → x.a = i → TreeAt l i t na → Cx l k f e → Cx l i (fun j => t.first j ∨ f j) e
section
variable {l : List Nd} (hG : GoodL l)
include hG
theorem cx_sem {T : Lt} {nT : List Nat} (hT : TreeAt l (l.length - 1) T nT) {k : Nat} {f : Nat → Prop} {e : Bool} (h : Cx l k f e) : ∀ {t : Lt} {ns : List Nat}, TreeAt l k t ns → ∀ i, t.lab i → (∀ j, T.fol i j ↔ t.fol i j ∨ (t.last i ∧ f j)) ∧ (T.last i ↔ t.last i ∧ e = true) := by
 induction h with
 | @root i hi =>
  intro t ns ht j hj
  obtain rfl : i = l.length - 1 := by omega
  rw [tree_uniq ht hT]
  exact ⟨fun j => by simp, by simp⟩
 | @seqL i k b x t u na nb f e hx hk hxa hxb ht hu hc ih =>
  intro t' ns ht' j hj
  have et := tree_uniq ht' ht
  subst et
  have hp : TreeAt l k (.seq t' u) _ := .seq hx hk hxa hxb ht hu
  have hfit := (tree_fits hG hp).2.2 j hj
  obtain ⟨i1, i2⟩ := ih hp j (.inl hj)
  have n1 : ∀ m, ¬ u.fol j m := fun m h => hfit (u.fol_lab h).1
  have n2 : ¬ u.last j := fun h => hfit (u.last_lab h)
  constructor
  ·intro m
   rw [i1 m]
   simp only [Lt.fol, Lt.last]
   have := n1 m
   constructor
   ·rintro ((h | h | h) | ⟨h | h, h'⟩)
    ·exact .inl h
    ·exact absurd h this
    ·exact .inr ⟨h.1, .inl h.2⟩
    ·exact absurd h n2
    ·exact .inr ⟨h.2, .inr ⟨h.1, h'⟩⟩
   ·rintro (h | ⟨h, h' | h'⟩)
    ·exact .inl (.inl h)
    ·exact .inl (.inr (.inr ⟨h, h'⟩))
    ·exact .inr ⟨.inr ⟨h'.1, h⟩, h'.2⟩
  ·rw [i2]
   simp only [Lt.last, Bool.and_eq_true]
   constructor
   ·rintro ⟨h | h, h'⟩
    ·exact absurd h n2
    ·exact ⟨h.2, h.1, h'⟩
   ·rintro ⟨h, h1, h2⟩
    exact ⟨.inr ⟨h1, h⟩, h2⟩
 | @seqR i k a x t u na nb f e hx hk hxa hxb ht hu hc ih =>
  intro u' ns hu' j hj
  have et := tree_uniq hu' hu
  subst et
  have hp : TreeAt l k (.seq t u') _ := .seq hx hk hxa hxb ht hu
  have hfit : ¬ t.lab j := fun h => (tree_fits hG hp).2.2 j h hj
  obtain ⟨i1, i2⟩ := ih hp j (.inr hj)
  have n1 : ∀ m, ¬ t.fol j m := fun m h => hfit (t.fol_lab h).1
  have n2 : ¬ t.last j := fun h => hfit (t.last_lab h)
  constructor
  ·intro m
   rw [i1 m]
   simp only [Lt.fol, Lt.last]
   have := n1 m
   constructor
   ·rintro ((h | h | h) | ⟨h | h, h'⟩)
    ·exact absurd h this
    ·exact .inl h
    ·exact absurd h.1 n2
    ·exact .inr ⟨h, h'⟩
    ·exact absurd h.2 n2
   ·rintro (h | ⟨h, h'⟩)
    ·exact .inl (.inr (.inl h))
    ·exact .inr ⟨.inl h, h'⟩
  ·rw [i2]
   simp only [Lt.last]
   constructor
   ·rintro ⟨h | h, h'⟩
    ·exact ⟨h, h'⟩
    ·exact absurd h.2 n2
   ·rintro ⟨h, h'⟩
    exact ⟨.inl h, h'⟩
 | @altL i k b x t u na nb f e hx hk hxa hxb ht hu hc ih =>
  intro t' ns ht' j hj
  have et := tree_uniq ht' ht
  subst et
  have hp : TreeAt l k (.alt t' u) _ := .alt hx hk hxa hxb ht hu
  have hfit := (tree_fits hG hp).2.2 j hj
  obtain ⟨i1, i2⟩ := ih hp j (.inl hj)
  have n1 : ∀ m, ¬ u.fol j m := fun m h => hfit (u.fol_lab h).1
  have n2 : ¬ u.last j := fun h => hfit (u.last_lab h)
  constructor
  ·intro m
   rw [i1 m]
   simp only [Lt.fol, Lt.last]
   simp [n1 m, n2]
  ·rw [i2]
   simp only [Lt.last]
   simp [n2]
 | @altR i k a x t u na nb f e hx hk hxa hxb ht hu hc ih =>
  intro u' ns hu' j hj
  have et := tree_uniq hu' hu
  subst et
  have hp : TreeAt l k (.alt t u') _ := .alt hx hk hxa hxb ht hu
  have hfit : ¬ t.lab j := fun h => (tree_fits hG hp).2.2 j h hj
  obtain ⟨i1, i2⟩ := ih hp j (.inr hj)
  have n1 : ∀ m, ¬ t.fol j m := fun m h => hfit (t.fol_lab h).1
  have n2 : ¬ t.last j := fun h => hfit (t.last_lab h)
  constructor
  ·intro m
   rw [i1 m]
   simp only [Lt.fol, Lt.last]
   simp [n1 m, n2]
  ·rw [i2]
   simp only [Lt.last]
   simp [n2]
 | @rep i k x t na f e hx hk hxa ht hc ih =>
  intro t' ns ht' j hj
  have et := tree_uniq ht' ht
  subst et
  have hp : TreeAt l k (.rep t') _ := .rep hx hk hxa ht
  obtain ⟨i1, i2⟩ := ih hp j hj
  constructor
  ·intro m
   rw [i1 m]
   simp only [Lt.fol, Lt.last]
   constructor
   ·rintro ((h | h) | h)
    ·exact .inl h
    ·exact .inr ⟨h.1, .inl h.2⟩
    ·exact .inr ⟨h.1, .inr h.2⟩
   ·rintro (h | ⟨h, h' | h'⟩)
    ·exact .inl (.inl h)
    ·exact .inl (.inr ⟨h, h'⟩)
    ·exact .inr ⟨h, h'⟩
  ·rw [i2]
   simp only [Lt.last]
omit hG in
theorem cx_ex {k : Nat} {t : Lt} {ns : List Nat} (h : TreeAt l k t ns) : ∀ {f : Nat → Prop} {e : Bool}, Cx l k f e → ∀ i, t.lab i → ∃ (lo hi : Nat) (f' : Nat → Prop) (e' : Bool), TreeAt l i (.rng i lo hi) [i] ∧ Cx l i f' e' := by
 induction h with
 | emp => intro f e hc i hi; exact hi.elim
 | rng hx hk h1 h2 h3 h4 =>
  intro f e hc i hi
  obtain rfl : _ = i := hi
  exact ⟨_, _, _, _, .rng hx hk h1 h2 h3 h4, hc⟩
 | seq hx hk hxa hxb ht hu it iu =>
  intro f e hc i hi
  rcases hi with hi | hi
  ·exact it (.seqL hx hk hxa hxb ht hu hc) i hi
  ·exact iu (.seqR hx hk hxa hxb ht hu hc) i hi
 | alt hx hk hxa hxb ht hu it iu =>
  intro f e hc i hi
  rcases hi with hi | hi
  ·exact it (.altL hx hk hxa hxb ht hu hc) i hi
  ·exact iu (.altR hx hk hxa hxb ht hu hc) i hi
 | rep hx hk hxa ht it =>
  intro f e hc i hi
  exact it (.rep hx hk hxa ht hc) i hi
theorem cx_place {T : Lt} {nT : List Nat} (hT : TreeAt l (l.length - 1) T nT) {i : Nat} (hi : T.lab i) : ∃ (f : Nat → Prop) (e : Bool), Cx l i f e ∧ (∀ j, T.fol i j ↔ f j) ∧ (T.last i ↔ e = true) := by
 have hp := List.length_pos_iff.2 hG.ne
 obtain ⟨lo, hi', f, e, h1, h2⟩ := cx_ex hT (.root (by omega)) i hi
 obtain ⟨s1, s2⟩ := cx_sem hG hT h2 h1 i rfl
 refine ⟨f, e, h2, fun j => ?_, ?_⟩
 ·rw [s1 j]
  simp [Lt.fol, Lt.last]
 ·rw [s2]
  simp [Lt.last]
end
section
variable {l : List Nd} {p : Sl} {G : PH}
theorem enter_spec {i : Nat} {t : Lt} {ns : List Nat} (h : TreeAt l i t ns) : ∀ {G F : PH} {u : Nat} {P : Nat → Bool}, RdS G p 5 (nflat l) → Wb G F u l.length P →
  Spec prog 86 #[p.v, vi i, Sl.v ⟨some ⟨u, 0, none⟩, l.length, l.length⟩] F fun r F' => r = .bool t.nul ∧ ∃ Q, Wb G F' u l.length Q ∧ ∀ j, Q j = true ↔ P j = true ∨ t.first j := by
 induction h with
 | @emp i x hx hk =>
  intro G F u P hs hW
  have hlen := hs.nlen
  have hi := (List.getElem?_eq_some_iff.1 hx).1
  obtain ⟨a, ha, hrow⟩ := rdn (hs.le hW.le) hx
  refine c86 ?_
  unfold b86
  refine ⟨a, ha, by omega, by omega, x.arr, rfl, hrow, fun b7 hb7 => ?_⟩
  refine atI ?_
  refine stW (set_eq _ _ _) rfl rfl (st_narr x) ?_
  rw [set_twice]
  refine ⟨x.k, by rw [cell_eq (set_eq _ _ _)]; rfl, fun _ => ⟨rfl, P, hW.fresh hb7 _, fun j => by simp [Lt.first]⟩, fun h => absurd hk h⟩
 | @rng i lo hi x hx hk hlo hhi hle h255 =>
  intro G F u P hs hW
  have hlen := hs.nlen
  have hi' := (List.getElem?_eq_some_iff.1 hx).1
  obtain ⟨a, ha, hrow⟩ := rdn (hs.le hW.le) hx
  refine c86 ?_
  unfold b86
  refine ⟨a, ha, by omega, by omega, x.arr, rfl, hrow, fun b7 hb7 => ?_⟩
  refine atI ?_
  refine stW (set_eq _ _ _) rfl rfl (st_narr x) ?_
  rw [set_twice]
  have hW7 := hW.fresh hb7 (.cells x.arr 50)
  have q7 := set_eq F b7 (.cells x.arr 50)
  generalize F.set b7 (.cells x.arr 50) = F1 at *
  refine ⟨x.k, by rw [cell_eq q7]; rfl, fun h => absurd h (by omega), fun _ => ⟨fun _ => ⟨_, rfl, by omega, by simp only; omega, ?_⟩, fun h => absurd hk h⟩⟩
  refine st1' (b := u) (o := i) ux hW7.qu (by simp [bl]; exact hi') ?_
  rw [bl_set _ _ _ hi']
  refine ⟨rfl, _, ⟨hW7.zu, le_set_new hW7.le hW7.zu, set_eq _ _ _⟩, fun j => ?_⟩
  rw [Bool.or_eq_true, decide_eq_true_eq]
  exact ⟨fun h => h.imp id Eq.symm, fun h => h.imp id Eq.symm⟩
 | @seq i a b x t u' na nb hx hk hxa hxb ht hu it iu =>
  intro G F u P hs hW
  have hlen := hs.nlen
  have hi' := (List.getElem?_eq_some_iff.1 hx).1
  obtain ⟨ad, had, hrow⟩ := rdn (hs.le hW.le) hx
  refine c86 ?_
  unfold b86
  refine ⟨ad, had, by omega, by omega, x.arr, rfl, hrow, fun b7 hb7 => ?_⟩
  refine atI ?_
  refine stW (set_eq _ _ _) rfl rfl (st_narr x) ?_
  rw [set_twice]
  have q7 := set_eq F b7 (.cells x.arr 50)
  have hg7 : G b7 = none := le_none hW.le hb7
  have hu7 : u ≠ b7 := ne_of_fresh hb7 hW.qu
  have lG := le_set_fresh (.cells x.arr 50) hg7
  have hW7 : Wb (G.set b7 (.cells x.arr 50)) (F.set b7 (.cells x.arr 50)) u l.length P := ⟨by rw [set_ne _ _ hu7]; exact hW.zu, fun y o hy => by
   by_cases e : y = b7
   ·subst e
    rw [set_eq] at hy ⊢
    exact hy
   ·rw [set_ne _ _ e] at hy ⊢
    exact hW.le _ _ hy, by rw [set_ne _ _ hu7]; exact hW.qu⟩
  have g7 := set_eq G b7 (.cells x.arr 50)
  generalize F.set b7 (.cells x.arr 50) = F1 at *
  generalize G.set b7 (.cells x.arr 50) = G1 at *
  refine ⟨x.k, by rw [cell_eq q7]; rfl, fun h => absurd h (by omega), fun _ => ⟨fun h => absurd h (by omega), fun _ => ⟨fun _ => ?_, fun h => absurd hk h⟩⟩⟩
  refine ⟨(a : Int), by rw [cell_eq q7, ← hxa]; rfl, ?_⟩
  refine (it (hs.le lG) hW7).mono ?_
  rintro _ F2 ⟨rfl, Q, hW2, hQ⟩
  refine ⟨_, rfl, fun hn => ⟨(b : Int), by rw [cell_eq (hW2.le _ _ g7), ← hxb]; rfl, ?_⟩, fun hn => ⟨by simp [Lt.nul, hn], Q, ⟨hW.zu, le_trans' lG hW2.le, hW2.qu⟩, fun j => by rw [hQ]; simp [Lt.first, hn]⟩⟩
  refine (iu (hs.le lG) hW2).mono ?_
  rintro _ F3 ⟨rfl, Q', hW3, hQ'⟩
  exact ⟨_, rfl, by simp [Lt.nul, hn], Q', ⟨hW.zu, le_trans' lG hW3.le, hW3.qu⟩, fun j => by rw [hQ', hQ]; simp [Lt.first, hn, or_assoc]⟩
 | @alt i a b x t u' na nb hx hk hxa hxb ht hu it iu =>
  intro G F u P hs hW
  have hlen := hs.nlen
  have hi' := (List.getElem?_eq_some_iff.1 hx).1
  obtain ⟨ad, had, hrow⟩ := rdn (hs.le hW.le) hx
  refine c86 ?_
  unfold b86
  refine ⟨ad, had, by omega, by omega, x.arr, rfl, hrow, fun b7 hb7 => ?_⟩
  refine atI ?_
  refine stW (set_eq _ _ _) rfl rfl (st_narr x) ?_
  rw [set_twice]
  have q7 := set_eq F b7 (.cells x.arr 50)
  have hg7 : G b7 = none := le_none hW.le hb7
  have hu7 : u ≠ b7 := ne_of_fresh hb7 hW.qu
  have lG := le_set_fresh (.cells x.arr 50) hg7
  have hW7 : Wb (G.set b7 (.cells x.arr 50)) (F.set b7 (.cells x.arr 50)) u l.length P := ⟨by rw [set_ne _ _ hu7]; exact hW.zu, fun y o hy => by
   by_cases e : y = b7
   ·subst e
    rw [set_eq] at hy ⊢
    exact hy
   ·rw [set_ne _ _ e] at hy ⊢
    exact hW.le _ _ hy, by rw [set_ne _ _ hu7]; exact hW.qu⟩
  have g7 := set_eq G b7 (.cells x.arr 50)
  generalize F.set b7 (.cells x.arr 50) = F1 at *
  generalize G.set b7 (.cells x.arr 50) = G1 at *
  refine ⟨x.k, by rw [cell_eq q7]; rfl, fun h => absurd h (by omega), fun _ => ⟨fun h => absurd h (by omega), fun _ => ⟨fun h => absurd h (by omega), fun _ => ⟨fun _ => ?_, fun h => absurd hk h⟩⟩⟩⟩
  refine ⟨(a : Int), by rw [cell_eq q7, ← hxa]; rfl, ?_⟩
  refine (it (hs.le lG) hW7).mono ?_
  rintro _ F2 ⟨rfl, Q, hW2, hQ⟩
  refine ⟨_, rfl, (b : Int), by rw [cell_eq (hW2.le _ _ g7), ← hxb]; rfl, ?_⟩
  refine (iu (hs.le lG) hW2).mono ?_
  rintro _ F3 ⟨rfl, Q', hW3, hQ'⟩
  exact ⟨_, rfl, fun hn => ⟨by simp [Lt.nul, hn], Q', ⟨hW.zu, le_trans' lG hW3.le, hW3.qu⟩, fun j => by rw [hQ', hQ]; simp [Lt.first, or_assoc]⟩, fun hn => ⟨by simp [Lt.nul, hn], Q', ⟨hW.zu, le_trans' lG hW3.le, hW3.qu⟩, fun j => by rw [hQ', hQ]; simp [Lt.first, or_assoc]⟩⟩
 | @rep i a x t na hx hk hxa ht it =>
  intro G F u P hs hW
  have hlen := hs.nlen
  have hi' := (List.getElem?_eq_some_iff.1 hx).1
  obtain ⟨ad, had, hrow⟩ := rdn (hs.le hW.le) hx
  refine c86 ?_
  unfold b86
  refine ⟨ad, had, by omega, by omega, x.arr, rfl, hrow, fun b7 hb7 => ?_⟩
  refine atI ?_
  refine stW (set_eq _ _ _) rfl rfl (st_narr x) ?_
  rw [set_twice]
  have q7 := set_eq F b7 (.cells x.arr 50)
  have hW7 := hW.fresh hb7 (.cells x.arr 50)
  generalize F.set b7 (.cells x.arr 50) = F1 at *
  refine ⟨x.k, by rw [cell_eq q7]; rfl, fun h => absurd h (by omega), fun _ => ⟨fun h => absurd h (by omega), fun _ => ⟨fun h => absurd h (by omega), fun _ => ⟨fun h => absurd h (by omega), fun _ => ?_⟩⟩⟩⟩
  refine ⟨(a : Int), by rw [cell_eq q7, ← hxa]; rfl, ?_⟩
  refine (it hs hW7).mono ?_
  rintro _ F2 ⟨rfl, Q, hW2, hQ⟩
  exact ⟨_, rfl, rfl, Q, hW2, hQ⟩
theorem ndc {F : PH} (hs : RdS F p 5 (nflat l)) {a : Addr} (ha : p.base = some a) {j o : Nat} {y : Nd} (hy : l[j]? = some y) (ho : o < 5) {v : Value} (hv : y.arr[o]? = some v) : F.cell ((a.add (Int.toNat (j : Int) * 5)).add o) = some v := by
 obtain ⟨a', ha', hrow⟩ := rdn hs hy
 rw [ha] at ha'
 cases ha'
 rw [Int.toNat_natCast]
 have := hrow o (by show o < 5; omega)
 rw [this, ← hv]
 exact (Array.getElem?_eq_getElem (xs := y.arr) (i := o) _).symm
theorem ndc0 {F : PH} (hs : RdS F p 5 (nflat l)) {a : Addr} (ha : p.base = some a) {j : Nat} {y : Nd} (hy : l[j]? = some y) : F.cell (a.add (Int.toNat (j : Int) * 5)) = some (vi y.k) := ndc (o := 0) hs ha hy (by omega) rfl
theorem leave_at (hG : GoodL l) (hbig : l.length ≤ 1000000000) (hs : RdS G p 5 (nflat l)) {F : PH} {u i k : Nat} {P : Nat → Bool} (hW : Wb G F u l.length P) (hp : Par l i k) {x : Nd} (hx : l[k]? = some x) {R : Value → PH → Prop}
  (hk : ∀ N fb, (fb = true ↔ x.a = i) → b87j4 N p ⟨some ⟨u, 0, none⟩, l.length, l.length⟩ k fb R F) : Spec prog 87 #[p.v, vi i, Sl.v ⟨some ⟨u, 0, none⟩, l.length, l.length⟩] F R := by
 obtain ⟨hik, hkl⟩ := hp.lt hG
 have hlen := hs.nlen
 ·refine c87 ?_
  unfold b87
  rw [w64s (by omega)]
  refine ⟨fun m j F' => ∃ w : Nat, j = w ∧ i < w ∧ w ≤ k ∧ m = l.length - w ∧ F' = F, l.length - (i + 1), ⟨i + 1, rfl, by omega, by omega, rfl, rfl⟩, ?_⟩
  rintro _ _ F' ⟨w, rfl, hw1, hw2, rfl, e⟩
  obtain rfl := e.symm
  unfold b87L1
  refine ⟨fun hlt => ?_, fun hge => absurd hge (by omega)⟩
  have hwl : w < l.length := by omega
  have hy : l[w]? = some l[w] := List.getElem?_eq_getElem hwl
  generalize l[w] = y at hy
  obtain ⟨ad, had, _⟩ := rdn (hs.le hW.le) hy
  have hok := hG.ok w y hy
  obtain ⟨hn, hn0⟩ := opsN_ar (ar_known hok.1)
  refine ⟨ad, had, by omega, by omega, y.k, ndc0 (hs.le hW.le) had hy, ?_⟩
  refine (operands_spec F y.k).mono ?_
  rintro _ F2 ⟨rfl, e⟩
  obtain rfl := e.symm
  refine ⟨_, _, rfl, ?_⟩
  rw [hn]
  have hus : (i : Int) ∈ us y ↔ (1 ≤ ar y.k ∧ y.a = i) ∨ (2 ≤ ar y.k ∧ y.b = i) := by
   unfold us
   split
   ·rename_i h2
    simp only [List.mem_cons, List.not_mem_nil, or_false]
    constructor
    ·rintro (h | h)
     ·exact .inr ⟨h2, h.symm⟩
     ·exact .inl ⟨by omega, h.symm⟩
    ·rintro (h | h)
     ·exact .inr h.2.symm
     ·exact .inl h.2.symm
   ·rename_i h2
    split
    ·rename_i h1
     simp only [List.mem_cons, List.not_mem_nil, or_false]
     constructor
     ·intro h
      exact .inl ⟨h1, h.symm⟩
     ·rintro (h | h)
      ·exact h.2.symm
      ·exact absurd h.1 h2
    ·rename_i h1
     simp only [List.not_mem_nil, false_iff]
     omega
  have j3 : ∀ fb sb : Bool, (fb = true ↔ 1 ≤ ar y.k ∧ y.a = i) → (sb = true ↔ 2 ≤ ar y.k ∧ y.b = i) → b87j3 (fun y1_0 F_1 => ∃ m', m' < l.length - w ∧ ∃ w : Nat, y1_0 = w ∧ i < w ∧ w ≤ k ∧ m' = l.length - w ∧ F_1 = F) p i ⟨some ⟨u, 0, none⟩, l.length, l.length⟩ w fb sb R F := fun fb sb hfb hsb => by
   have key : (fb = true ∨ sb = true) ↔ w = k := by
    rw [hfb, hsb, ← hus]
    constructor
    ·intro hm
     exact Par.uniq hG ⟨y, hy, hm⟩ hp
    ·rintro rfl
     obtain ⟨z, hz, hm⟩ := hp
     rw [hy] at hz
     cases hz
     exact hm
   have cont : w = k → b87j4 (fun y1_0 F_1 => ∃ m', m' < l.length - w ∧ ∃ w : Nat, y1_0 = w ∧ i < w ∧ w ≤ k ∧ m' = l.length - w ∧ F_1 = F) p ⟨some ⟨u, 0, none⟩, l.length, l.length⟩ w fb R F := by
    rintro rfl
    rw [hx] at hy
    cases hy
    refine hk _ fb ?_
    rw [hfb]
    refine ⟨fun h => h.2, fun h => ⟨?_, h⟩⟩
    obtain ⟨z, hz, hm⟩ := hp
    rw [hx] at hz
    cases hz
    rcases hus.1 hm with h | h
    ·exact h.1
    ·omega
   unfold b87j3
   refine ⟨fun hf => ⟨fun hs' => ?_, fun hs' => cont (key.1 (.inr (by simpa using hs')))⟩, fun hf => cont (key.1 (.inl (by simpa using hf)))⟩
   have hwk : w ≠ k := fun e => by
    rcases key.2 e with h | h
    ·rw [h] at hf; cases hf
    ·rw [h] at hs'; cases hs'
   exact ⟨l.length - (w + 1), by omega, w + 1, w64s (by omega), by omega, by omega, rfl, rfl⟩
  have j2 : ∀ fb : Bool, (fb = true ↔ 1 ≤ ar y.k ∧ y.a = i) → b87j2 (fun y1_0 F_1 => ∃ m', m' < l.length - w ∧ ∃ w : Nat, y1_0 = w ∧ i < w ∧ w ≤ k ∧ m' = l.length - w ∧ F_1 = F) p i ⟨some ⟨u, 0, none⟩, l.length, l.length⟩ w (ar y.k) fb R F := fun fb hfb => by
   unfold b87j2
   refine ⟨fun h2 => ⟨ad, had, by omega, by omega, y.b, ndc (hs.le hW.le) had hy (by omega) rfl, j3 fb _ hfb ?_⟩, fun h2 => j3 fb false hfb ⟨fun h => (by cases h), fun h => absurd h.1 h2⟩⟩
   rw [decide_eq_true_eq]
   exact ⟨fun h => ⟨h2, h⟩, fun h => h.2⟩
  refine ⟨fun h1 => ⟨ad, had, by omega, by omega, y.a, ndc (hs.le hW.le) had hy (by omega) rfl, j2 _ ?_⟩, fun h1 => j2 false ⟨fun h => (by cases h), fun h => absurd h.1 h1⟩⟩
  rw [decide_eq_true_eq]
  exact ⟨fun h => ⟨h1, h⟩, fun h => h.2⟩
theorem leave_spec (hG : GoodL l) (hbig : l.length ≤ 1000000000) {i : Nat} {f : Nat → Prop} {e : Bool} (h : Cx l i f e) : ∀ {G F : PH} {u : Nat} {P : Nat → Bool}, RdS G p 5 (nflat l) → Wb G F u l.length P →
  Spec prog 87 #[p.v, vi i, Sl.v ⟨some ⟨u, 0, none⟩, l.length, l.length⟩] F fun r F' => r = .bool e ∧ ∃ Q, Wb G F' u l.length Q ∧ ∀ j, Q j = true ↔ P j = true ∨ f j := by
 induction h with
 | @root i hi =>
  intro G F u P hs hW
  have hlen := hs.nlen
  refine c87 ?_
  unfold b87
  rw [w64s (by omega)]
  refine ⟨fun m j F' => j = ((i + 1 : Nat) : Int) ∧ F' = F, 0, ⟨rfl, rfl⟩, ?_⟩
  rintro m j F' ⟨rfl, e⟩
  obtain rfl := e.symm
  unfold b87L1
  refine ⟨fun h => absurd h (by omega), fun _ => ?_⟩
  unfold b87j1
  exact ⟨rfl, P, hW, fun j => by simp⟩
 | @seqL i k b x t u' na nb f e hx hk hxa hxb ht hu hc ih =>
  intro G F u P hs hW
  have hlen := hs.nlen
  have hkl := (List.getElem?_eq_some_iff.1 hx).1
  refine leave_at hG hbig hs hW ⟨x, hx, by rw [us_two (.inl hk), hxa]; simp⟩ hx fun N fb hfb => ?_
  obtain ⟨ad, had, _⟩ := rdn (hs.le hW.le) hx
  have hft : fb = true := hfb.2 hxa
  subst hft
  unfold b87j4
  refine ⟨ad, had, by omega, by omega, x.k, ndc0 (hs.le hW.le) had hx, fun h => absurd h (by omega), fun _ => ?_⟩
  unfold b87j5
  refine ⟨ad, had, by omega, by omega, x.k, ndc0 (hs.le hW.le) had hx, fun _ => ⟨fun _ => ⟨ad, had, by omega, by omega, x.b, ndc (hs.le hW.le) had hx (by omega) rfl, ?_⟩, fun h => (by cases h)⟩, fun h => absurd hk h⟩
  rw [hxb]
  refine (enter_spec hu hs hW).mono ?_
  rintro _ F2 ⟨rfl, Q, hW2, hQ⟩
  refine ⟨_, rfl, fun hn => ?_, fun hn => ?_⟩
  ·have hn' : u'.nul = false := by simpa using hn
   refine ⟨by rw [hn']; rfl, Q, hW2, fun j => by rw [hQ]; simp [hn']⟩
  ·have hn' : u'.nul = true := by simpa using hn
   unfold b87j6
   refine (ih hs hW2).mono ?_
   rintro _ F3 ⟨rfl, Q', hW3, hQ'⟩
   exact ⟨_, rfl, by rw [hn']; rfl, Q', hW3, fun j => by rw [hQ', hQ]; simp [hn', or_assoc]⟩
 | @seqR i k a x t u' na nb f e hx hk hxa hxb ht hu hc ih =>
  intro G F u P hs hW
  have hlen := hs.nlen
  have hkl := (List.getElem?_eq_some_iff.1 hx).1
  refine leave_at hG hbig hs hW ⟨x, hx, by rw [us_two (.inl hk), hxb]; simp⟩ hx fun N fb hfb => ?_
  obtain ⟨ad, had, _⟩ := rdn (hs.le hW.le) hx
  have hne := us_ne hG hx (.inl hk) hxa hxb
  have hft : fb = false := by
   cases fb with
   | false => rfl
   | true => have := hfb.1 rfl; omega
  subst hft
  unfold b87j4
  refine ⟨ad, had, by omega, by omega, x.k, ndc0 (hs.le hW.le) had hx, fun h => absurd h (by omega), fun _ => ?_⟩
  unfold b87j5
  refine ⟨ad, had, by omega, by omega, x.k, ndc0 (hs.le hW.le) had hx, fun _ => ⟨fun h => (by cases h), fun _ => ?_⟩, fun h => absurd hk h⟩
  unfold b87j6
  refine (ih hs hW).mono ?_
  rintro _ F3 ⟨rfl, Q', hW3, hQ'⟩
  exact ⟨_, rfl, rfl, Q', hW3, hQ'⟩
 | @altL i k b x t u' na nb f e hx hk hxa hxb ht hu hc ih =>
  intro G F u P hs hW
  have hlen := hs.nlen
  have hkl := (List.getElem?_eq_some_iff.1 hx).1
  refine leave_at hG hbig hs hW ⟨x, hx, by rw [us_two (.inr hk), hxa]; simp⟩ hx fun N fb hfb => ?_
  obtain ⟨ad, had, _⟩ := rdn (hs.le hW.le) hx
  unfold b87j4
  refine ⟨ad, had, by omega, by omega, x.k, ndc0 (hs.le hW.le) had hx, fun h => absurd h (by omega), fun _ => ?_⟩
  unfold b87j5
  refine ⟨ad, had, by omega, by omega, x.k, ndc0 (hs.le hW.le) had hx, fun h => absurd h (by omega), fun _ => ?_⟩
  unfold b87j6
  refine (ih hs hW).mono ?_
  rintro _ F3 ⟨rfl, Q', hW3, hQ'⟩
  exact ⟨_, rfl, rfl, Q', hW3, hQ'⟩
 | @altR i k a x t u' na nb f e hx hk hxa hxb ht hu hc ih =>
  intro G F u P hs hW
  have hlen := hs.nlen
  have hkl := (List.getElem?_eq_some_iff.1 hx).1
  refine leave_at hG hbig hs hW ⟨x, hx, by rw [us_two (.inr hk), hxb]; simp⟩ hx fun N fb hfb => ?_
  obtain ⟨ad, had, _⟩ := rdn (hs.le hW.le) hx
  unfold b87j4
  refine ⟨ad, had, by omega, by omega, x.k, ndc0 (hs.le hW.le) had hx, fun h => absurd h (by omega), fun _ => ?_⟩
  unfold b87j5
  refine ⟨ad, had, by omega, by omega, x.k, ndc0 (hs.le hW.le) had hx, fun h => absurd h (by omega), fun _ => ?_⟩
  unfold b87j6
  refine (ih hs hW).mono ?_
  rintro _ F3 ⟨rfl, Q', hW3, hQ'⟩
  exact ⟨_, rfl, rfl, Q', hW3, hQ'⟩
 | @rep i k x t na f e hx hk hxa ht hc ih =>
  intro G F u P hs hW
  have hlen := hs.nlen
  have hkl := (List.getElem?_eq_some_iff.1 hx).1
  refine leave_at hG hbig hs hW ⟨x, hx, by rw [us_one hk, hxa]; simp⟩ hx fun N fb hfb => ?_
  obtain ⟨ad, had, _⟩ := rdn (hs.le hW.le) hx
  unfold b87j4
  refine ⟨ad, had, by omega, by omega, x.k, ndc0 (hs.le hW.le) had hx, fun _ => ?_, fun h => absurd hk h⟩
  refine (enter_spec (.rep hx hk hxa ht) hs hW).mono ?_
  rintro _ F2 ⟨rfl, Q, hW2, hQ⟩
  refine ⟨_, rfl, ?_⟩
  unfold b87j5
  refine ⟨ad, had, by omega, by omega, x.k, ndc0 (hs.le hW2.le) had hx, fun h => absurd h (by omega), fun _ => ?_⟩
  unfold b87j6
  refine (ih hs hW2).mono ?_
  rintro _ F3 ⟨rfl, Q', hW3, hQ'⟩
  exact ⟨_, rfl, rfl, Q', hW3, fun j => by rw [hQ', hQ]; simp [Lt.first, or_assoc]⟩
end
open Classical in
noncomputable def eB (t : Lt) (w : List Nat) : Bool := decide (Lg t.pat w)
theorem eB_iff {t : Lt} {w : List Nat} : eB t w = true ↔ Lg t.pat w := by simp [eB]
def StV (F : PH) (v : Value) (l : List Nd) (t : Lt) (w : List Nat) : Prop := ∃ s : Sl, v = .agg #[.bool (eB t w), s.v] ∧ RdS F s 1 (bl l.length (nowB l t w))
theorem now_lab {l : List Nd} {t : Lt} : ∀ (w : List Nat) {j : Nat}, nowP l t w j → t.lab j := by
 intro w
 refine snoc_ind (P := fun w => ∀ {j : Nat}, nowP l t w j → t.lab j) (fun {j} h => t.first_lab h) (fun w b _ {j} h => ?_) w
 obtain ⟨i, _, _, h3⟩ := (Nx_snoc _ _ _ _).1 h
 exact (t.fol_lab h3).2
def rm (F : PH) (u : Nat) : PH := fun x => if x = u then none else F x
theorem rm_ne {F : PH} {u x : Nat} (h : x ≠ u) : rm F u x = F x := by simp [rm, h]
theorem rm_le {F0 F : PH} {u : Nat} (h : F0.le F) (hu : F0 u = none) : F0.le (rm F u) := fun y o hy => by
 rw [rm_ne (fun e => by rw [e, hu] at hy; cases hy)]
 exact h _ _ hy
theorem wb_rm {F : PH} {u n : Nat} {P : Nat → Bool} (h : F u = some (.cells (bl n P).toArray 4)) : Wb (rm F u) F u n P :=
 ⟨by simp [rm], fun y o hy => by
  unfold rm at hy
  split at hy
  ·cases hy
  ·exact hy, h⟩
theorem Wb.over {G F : PH} {u n x : Nat} {P : Nat → Bool} {o : Obj} (h : Wb G F u n P) (hx : G x = some o) (o' : Obj) : Wb (G.set x o') (F.set x o') u n P := by
 have hne : u ≠ x := fun e => by rw [← e, h.zu] at hx; cases hx
 refine ⟨by rw [set_ne _ _ hne]; exact h.zu, fun y p hy => ?_, by rw [set_ne _ _ hne]; exact h.qu⟩
 by_cases e : y = x
 ·subst e
  rw [set_eq] at hy ⊢
  exact hy
 ·rw [set_ne _ _ e] at hy ⊢
  exact h.le _ _ hy
theorem bl_rd {F : PH} {u n : Nat} {P : Nat → Bool} (h : F u = some (.cells (bl n P).toArray 4)) : RdS F ⟨some ⟨u, 0, none⟩, n, n⟩ 1 (bl n P) :=
 RdS.new h (by rw [Nat.mul_one]; exact List.take_of_length_le (by rw [bl_len]; exact Nat.le_refl _)) (by rw [bl_len, Nat.mul_one]) (Nat.le_refl _)
theorem bl_none (n : Nat) : (List.replicate n (Value.bool false)).toArray = (bl n fun _ => false).toArray := by
 congr 1
 apply List.ext_getElem?
 intro j
 by_cases hj : j < n
 ·simp [bl, hj]
 ·rw [List.getElem?_eq_none (by simp; omega), List.getElem?_eq_none (by rw [bl_len]; omega)]
theorem bl_cell {F : PH} {s : Sl} {n : Nat} {P : Nat → Bool} (h : RdS F s 1 (bl n P)) {i : Nat} (hi : i < n) : s.len = n ∧ ∃ a, s.base = some a ∧ F.cell (a.add (Int.toNat (i : Int) * 1)) = some (.bool (P i)) := by
 have hl := h.len
 rw [bl_len, Nat.mul_one] at hl
 obtain ⟨b, o, hb, _⟩ := h.cells (by omega)
 refine ⟨hl.symm, _, hb, ?_⟩
 rw [Int.toNat_natCast, Nat.mul_one, h.cell hb (i := i) (by rw [bl_len]; exact hi)]
 congr 1
 have := bl_get (P := P) hi
 rw [List.getElem?_eq_getElem (by rw [bl_len]; exact hi)] at this
 exact Option.some.inj this
theorem bl_slen {F : PH} {s : Sl} {n : Nat} {P : Nat → Bool} (h : RdS F s 1 (bl n P)) : s.len = n := by
 have hl := h.len
 rw [bl_len, Nat.mul_one] at hl
 exact hl.symm
theorem st_two {a b : Value} (ha : storable a) (hb : storable b) : ∀ x ∈ (#[a, b] : Array Value).toList, storable x := by
 intro x hx
 simp at hx
 rcases hx with rfl | rfl
 ·exact ha
 ·exact hb
section
variable {F : PH} {l : List Nd} {p : Sl} {T : Lt} {nT : List Nat}
theorem begin_spec (hG : GoodL l) (hbig : l.length ≤ 1000000) (hT : TreeAt l (l.length - 1) T nT) (hs : RdS F p 5 (nflat l)) : Spec prog 61 #[p.v] F fun r F' => StV F' r l T [] ∧ F.le F' := by
 have hlen := hs.nlen
 have hne := List.length_pos_iff.2 hG.ne
 refine c61 ?_
 unfold b61
 intro b2 hb2
 refine atI ?_
 refine runs_makeSlice underlying69 sz4' zr4' rfl (by omega) (Int.le_refl _) (by omega) (by omega) ?_
 intro u hu
 rw [zc1 _ rfl, Int.toNat_natCast, hlen, bl_none]
 refine ⟨_, rfl, fun b3 hb3 => ?_⟩
 refine atI ?_
 refine stW (set_eq _ _ _) rfl rfl (st_two st_bool st_sl) ?_
 rw [set_twice]
 have n2 : u ≠ b2 := fun e => by rw [e, set_eq] at hu; cases hu
 have n3 : b3 ≠ u := fun e => by rw [e, set_eq] at hb3; cases hb3
 have n4 : b3 ≠ b2 := fun e => by rw [e, set_ne _ _ n2.symm, set_eq] at hb3; cases hb3
 have huF : F u = none := by rwa [set_ne _ _ n2] at hu
 have h3F : F b3 = none := by rwa [set_ne _ _ n3, set_ne _ _ n4] at hb3
 have l4 := le_set_new (o := .cells #[.bool false, Sl.v ⟨some ⟨u, 0, none⟩, l.length, l.length⟩] 96) (le_set_new (o := .cells (bl l.length fun _ => false).toArray 4) (le_set_fresh (.cells #[.bool false, .slice none 0 0] 96) hb2) huF) h3F
 have q2 : (((F.set b2 (.cells #[.bool false, .slice none 0 0] 96)).set u (.cells (bl l.length fun _ => false).toArray 4)).set b3 (.cells #[.bool false, Sl.v ⟨some ⟨u, 0, none⟩, l.length, l.length⟩] 96)) b2 = some (.cells #[.bool false, .slice none 0 0] 96) := by
  rw [set_ne _ _ n4.symm, set_ne _ _ n2.symm, set_eq]
 have qu : (((F.set b2 (.cells #[.bool false, .slice none 0 0] 96)).set u (.cells (bl l.length fun _ => false).toArray 4)).set b3 (.cells #[.bool false, Sl.v ⟨some ⟨u, 0, none⟩, l.length, l.length⟩] 96)) u = some (.cells (bl l.length fun _ => false).toArray 4) := by
  rw [set_ne _ _ n3.symm, set_eq]
 have q3 := set_eq ((F.set b2 (.cells #[.bool false, .slice none 0 0] 96)).set u (.cells (bl l.length fun _ => false).toArray 4)) b3 (.cells #[.bool false, Sl.v ⟨some ⟨u, 0, none⟩, l.length, l.length⟩] 96)
 generalize (((F.set b2 (.cells #[.bool false, .slice none 0 0] 96)).set u (.cells (bl l.length fun _ => false).toArray 4)).set b3 (.cells #[.bool false, Sl.v ⟨some ⟨u, 0, none⟩, l.length, l.length⟩] 96)) = F4 at *
 refine ⟨⟨some ⟨u, 0, none⟩, l.length, l.length⟩, by rw [cell_eq q3]; rfl, ?_⟩
 have ew : IntKind.i64.wrap ((l.length : Int) - 1) = ((l.length - 1 : Nat) : Int) := by rw [w64_eq (by omega) (by omega)]; omega
 rw [ew]
 refine (enter_spec hT (hs.le (rm_le l4 huF)) (wb_rm qu)).mono ?_
 rintro _ F5 ⟨rfl, Q, hW, hQ⟩
 have k2 : F5 b2 = some (.cells #[.bool false, .slice none 0 0] 96) := hW.le _ _ (by rw [rm_ne n2.symm]; exact q2)
 have k3 : F5 b3 = some (.cells #[.bool false, Sl.v ⟨some ⟨u, 0, none⟩, l.length, l.length⟩] 96) := hW.le _ _ (by rw [rm_ne n3]; exact q3)
 have l5 : F.le F5 := le_trans' (rm_le l4 huF) hW.le
 refine ⟨_, rfl, ?_⟩
 refine st1 k3 (by simp) ?_
 have k3' := set_eq F5 b3 (.cells #[.bool T.nul, Sl.v ⟨some ⟨u, 0, none⟩, l.length, l.length⟩] 96)
 have k2' : (F5.set b3 (.cells #[.bool T.nul, Sl.v ⟨some ⟨u, 0, none⟩, l.length, l.length⟩] 96)) b2 = some (.cells #[.bool false, .slice none 0 0] 96) := by rw [set_ne _ _ n4.symm]; exact k2
 have ku' : (F5.set b3 (.cells #[.bool T.nul, Sl.v ⟨some ⟨u, 0, none⟩, l.length, l.length⟩] 96)) u = some (.cells (bl l.length Q).toArray 4) := by rw [set_ne _ _ n3.symm]; exact hW.qu
 have l6 : F.le (F5.set b3 (.cells #[.bool T.nul, Sl.v ⟨some ⟨u, 0, none⟩, l.length, l.length⟩] 96)) := le_set_new l5 h3F
 have e6 : (#[.bool false, Sl.v ⟨some ⟨u, 0, none⟩, l.length, l.length⟩] : Array Value).setIfInBounds 0 (.bool T.nul) = #[.bool T.nul, Sl.v ⟨some ⟨u, 0, none⟩, l.length, l.length⟩] := rfl
 rw [e6]
 generalize F5.set b3 (.cells #[.bool T.nul, Sl.v ⟨some ⟨u, 0, none⟩, l.length, l.length⟩] 96) = F6 at *
 refine ⟨_, rfl, row_whole k3', ?_⟩
 refine stW k2' rfl rfl (st_two st_bool st_sl) ?_
 refine ⟨_, rfl, row_whole (set_eq _ _ _), ⟨⟨some ⟨u, 0, none⟩, l.length, l.length⟩, ?_, ?_⟩, le_set_new l6 hb2⟩
 ·have : eB T [] = T.nul := Bool.eq_iff_iff.2 (eB_iff.trans (Lt.nul_iff T).symm)
  rw [this]
 ·have e : bl l.length Q = bl l.length (nowB l T []) := bl_congr fun j _ => Bool.eq_iff_iff.2 ((hQ j).trans (by rw [nowB_iff]; simp [nowP, Nx]))
  rw [← e]
  exact bl_rd (by rw [set_ne _ _ n2]; exact ku')
theorem dead_spec {s : Sl} {n : Nat} (hn : n ≤ 1000000) {e : Bool} {P : Nat → Bool} (h : RdS F s 1 (bl n P)) : Spec prog 63 #[.agg #[.bool e, s.v]] F fun r F' => (∃ b : Bool, r = .bool b ∧ (b = true ↔ ∀ j, j < n → P j = false)) ∧ F.le F' := by
 refine c63 ?_
 unfold b63
 intro b1 hb1
 refine atI ?_
 have l1 := le_set_fresh (.cells #[.bool e, s.v] 96) hb1
 have q1 := set_eq F b1 (.cells #[.bool e, s.v] 96)
 generalize F.set b1 (.cells #[.bool e, s.v] 96) = F1 at *
 have hsl := bl_slen h
 refine ⟨fun m i F' => ∃ j : Nat, i = j ∧ j ≤ n ∧ m = n - j ∧ F' = F1 ∧ ∀ i, i < j → P i = false, n, ⟨0, rfl, by omega, rfl, rfl, fun i hi => by omega⟩, ?_⟩
 rintro _ _ F' ⟨j, rfl, hj, rfl, ee, hall⟩
 obtain rfl := ee.symm
 unfold b63L1
 refine ⟨s, by rw [cell_eq q1]; rfl, fun hlt => ?_, fun hge => ?_⟩
 ·have hjn : j < n := by omega
  obtain ⟨_, a, ha, hc⟩ := bl_cell (h.le l1) hjn
  refine ⟨s, by rw [cell_eq q1]; rfl, a, ha, by omega, by omega, _, hc, fun ht => ⟨⟨false, rfl, fun h => (by cases h), fun h => ?_⟩, l1⟩, fun hf => ⟨n - (j + 1), by omega, j + 1, w64s (by omega), by omega, rfl, rfl, fun i hi => ?_⟩⟩
  ·rw [h j hjn] at ht
   cases ht
  ·by_cases ei : i = j
   ·subst ei
    exact hf
   ·exact hall i (by omega)
 ·unfold b63j1
  exact ⟨⟨true, rfl, fun _ i hi => hall i (by omega), fun _ => rfl⟩, l1⟩
theorem same_ref {s1 s2 : Sl} {n : Nat} (hn : n ≤ 1000000) {e1 e2 : Bool} {P Q : Nat → Bool} (h1 : RdS F s1 1 (bl n P)) (h2 : RdS F s2 1 (bl n Q)) : Spec prog 88 #[.agg #[.bool e1, s1.v], .agg #[.bool e2, s2.v]] F fun r F' => (∃ b : Bool, r = .bool b ∧ (b = true ↔ e1 = e2 ∧ ∀ j, j < n → P j = Q j)) ∧ F.le F' := by
 refine c88 ?_
 unfold b88
 intro b2 hb2
 refine atI ?_
 intro b3 hb3
 refine atI ?_
 have l1 := le_trans' (le_set_fresh (.cells #[.bool e1, s1.v] 96) hb2) (le_set_fresh (.cells #[.bool e2, s2.v] 96) hb3)
 have q2 := le_set_fresh (.cells #[.bool e2, s2.v] 96) hb3 _ _ (set_eq F b2 (.cells #[.bool e1, s1.v] 96))
 have q3 := set_eq (F.set b2 (.cells #[.bool e1, s1.v] 96)) b3 (.cells #[.bool e2, s2.v] 96)
 generalize (F.set b2 (.cells #[.bool e1, s1.v] 96)).set b3 (.cells #[.bool e2, s2.v] 96) = F1 at *
 have hsl1 := bl_slen h1
 have hsl2 := bl_slen h2
 refine ⟨fun m i F' => ∃ j : Nat, i = j ∧ j ≤ n ∧ m = n - j ∧ F' = F1 ∧ ∀ i, i < j → P i = Q i, n, ⟨0, rfl, by omega, rfl, rfl, fun i hi => by omega⟩, ?_⟩
 rintro _ _ F' ⟨j, rfl, hj, rfl, ee, hall⟩
 obtain rfl := ee.symm
 unfold b88L1
 refine ⟨s1, by rw [cell_eq q2]; rfl, fun hlt => ?_, fun hge => ?_⟩
 ·have hjn : j < n := by omega
  obtain ⟨_, a, ha, hc⟩ := bl_cell (h1.le l1) hjn
  obtain ⟨_, a', ha', hc'⟩ := bl_cell (h2.le l1) hjn
  refine ⟨s1, by rw [cell_eq q2]; rfl, a, ha, by omega, by omega, _, hc, s2, by rw [cell_eq q3]; rfl, a', ha', by omega, by omega, _, hc', fun ht => ⟨⟨false, rfl, fun h => (by cases h), fun h => ?_⟩, l1⟩, fun hf => ⟨n - (j + 1), by omega, j + 1, w64s (by omega), by omega, rfl, rfl, fun i hi => ?_⟩⟩
  ·rw [h.2 j hjn] at ht
   simp at ht
  ·by_cases ei : i = j
   ·subst ei
    simpa using hf
   ·exact hall i (by omega)
 ·unfold b88j1
  refine ⟨e1, by rw [cell_eq q2]; rfl, e2, by rw [cell_eq q3]; rfl, ⟨_, rfl, ?_⟩, l1⟩
  rw [beq_iff_eq]
  exact ⟨fun h => ⟨h, fun i hi => hall i (by omega)⟩, fun h => h.1⟩
end
section
variable {F : PH} {l : List Nd} {p : Sl} {T : Lt} {nT : List Nat}
def toP (l : List Nd) (T : Lt) (w : List Nat) (b k j : Nat) : Prop := ∃ i, i < k ∧ nowP l T w i ∧ accN l i b ∧ T.fol i j
def toE (l : List Nd) (T : Lt) (w : List Nat) (b k : Nat) : Prop := ∃ i, i < k ∧ nowP l T w i ∧ accN l i b ∧ T.last i
theorem toP_succ {l : List Nd} {T : Lt} {w : List Nat} {b k j : Nat} : toP l T w b (k + 1) j ↔ toP l T w b k j ∨ (nowP l T w k ∧ accN l k b ∧ T.fol k j) := by
 constructor
 ·rintro ⟨i, hi, h⟩
  by_cases e : i = k
  ·subst e
   exact .inr h
  ·exact .inl ⟨i, by omega, h⟩
 ·rintro (⟨i, hi, h⟩ | h)
  ·exact ⟨i, by omega, h⟩
  ·exact ⟨k, by omega, h⟩
theorem toE_succ {l : List Nd} {T : Lt} {w : List Nat} {b k : Nat} : toE l T w b (k + 1) ↔ toE l T w b k ∨ (nowP l T w k ∧ accN l k b ∧ T.last k) := by
 constructor
 ·rintro ⟨i, hi, h⟩
  by_cases e : i = k
  ·subst e
   exact .inr h
  ·exact .inl ⟨i, by omega, h⟩
 ·rintro (⟨i, hi, h⟩ | h)
  ·exact ⟨i, by omega, h⟩
  ·exact ⟨k, by omega, h⟩
theorem accN_iff {l : List Nd} {i : Nat} {x : Nd} (hx : l[i]? = some x) (b : Nat) : accN l i b ↔ x.lo ≤ (b : Int) ∧ (b : Int) ≤ x.hi := by
 constructor
 ·rintro ⟨y, hy, h⟩
  rw [hx] at hy
  cases hy
  exact h
 ·intro h
  exact ⟨x, hx, h⟩
def sI (F0 : PH) (l : List Nd) (T : Lt) (w : List Nat) (b b4 b6 b7 u : Nat) (s : Sl) (e0 : Bool) : Nat → Int → PH → Prop := fun m i F' =>
 ∃ (k : Nat) (G : PH) (P : Nat → Bool) (e : Bool), i = k ∧ k ≤ l.length ∧ m = l.length - k ∧ F0.le G ∧ Wb G F' u l.length P ∧ G b4 = some (.cells #[.bool e0, s.v] 96) ∧ G b6 = some (.cells #[.bool false, .slice none 0 0] 96) ∧
  G b7 = some (.cells #[.bool e, Sl.v ⟨some ⟨u, 0, none⟩, l.length, l.length⟩] 96) ∧ (∀ j, P j = true ↔ toP l T w b k j) ∧ (e = true ↔ toE l T w b k)
theorem step_spec (hG : GoodL l) (hbig : l.length ≤ 1000000) (hT : TreeAt l (l.length - 1) T nT) (hs : RdS F p 5 (nflat l)) {s : Sl} {w : List Nat} {e0 : Bool} (hw : RdS F s 1 (bl l.length (nowB l T w))) (b : Nat) :
  Spec prog 62 #[p.v, .agg #[.bool e0, s.v], vi b] F fun r F' => StV F' r l T (w ++ [b]) ∧ F.le F' := by
 have hlen := hs.nlen
 refine c62 ?_
 unfold b62
 intro b4 hb4
 refine atI ?_
 intro b6 hb6
 refine atI ?_
 refine runs_makeSlice underlying69 sz4' zr4' rfl (by omega) (Int.le_refl _) (by omega) (by omega) ?_
 intro u hu
 rw [zc1 _ rfl, Int.toNat_natCast, hlen, bl_none]
 refine ⟨_, rfl, fun b7 hb7 => ?_⟩
 refine atI ?_
 refine stW (set_eq _ _ _) rfl rfl (st_two st_bool st_sl) ?_
 rw [set_twice]
 have l4 := le_set_fresh (.cells #[.bool e0, s.v] 96) hb4
 have q4 := set_eq F b4 (.cells #[.bool e0, s.v] 96)
 generalize F.set b4 (.cells #[.bool e0, s.v] 96) = F1 at *
 have h6F := le_none l4 hb6
 have l6 := le_set_fresh (.cells #[.bool false, .slice none 0 0] 96) hb6
 have q6 := set_eq F1 b6 (.cells #[.bool false, .slice none 0 0] 96)
 have k4 := l6 _ _ q4
 generalize F1.set b6 (.cells #[.bool false, .slice none 0 0] 96) = F2 at *
 have huF : F u = none := le_none (le_trans' l4 l6) hu
 have lu := le_set_fresh (.cells (bl l.length fun _ => false).toArray 4) hu
 have qu := set_eq F2 u (.cells (bl l.length fun _ => false).toArray 4)
 have k44 := lu _ _ k4
 have k66 := lu _ _ q6
 generalize F2.set u (.cells (bl l.length fun _ => false).toArray 4) = F3 at *
 have l7 := le_set_fresh (.cells #[.bool false, Sl.v ⟨some ⟨u, 0, none⟩, l.length, l.length⟩] 96) hb7
 have q7 := set_eq F3 b7 (.cells #[.bool false, Sl.v ⟨some ⟨u, 0, none⟩, l.length, l.length⟩] 96)
 have h7F : F b7 = none := le_none (le_trans' (le_trans' l4 l6) lu) hb7
 have m4 := l7 _ _ k44
 have m6 := l7 _ _ k66
 have mu := l7 _ _ qu
 have n4 : b4 ≠ u := fun e => by rw [e, hu] at k4; cases k4
 have n6 : b6 ≠ u := fun e => by rw [e, hu] at q6; cases q6
 have n7 : b7 ≠ u := fun e => by rw [e, qu] at hb7; cases hb7
 have n67 : b6 ≠ b7 := fun e => by rw [e, hb7] at k66; cases k66
 have n47 : b4 ≠ b7 := fun e => by rw [e, hb7] at k44; cases k44
 have l8 : F.le (F3.set b7 (.cells #[.bool false, Sl.v ⟨some ⟨u, 0, none⟩, l.length, l.length⟩] 96)) := le_trans' (le_trans' (le_trans' l4 l6) lu) l7
 generalize F3.set b7 (.cells #[.bool false, Sl.v ⟨some ⟨u, 0, none⟩, l.length, l.length⟩] 96) = F4 at *
 refine ⟨sI F l T w b b4 b6 b7 u s e0, l.length, ⟨0, rm F4 u, _, false, rfl, by omega, rfl, rm_le l8 huF, wb_rm mu, by rw [rm_ne n4]; exact m4, by rw [rm_ne n6]; exact m6, by rw [rm_ne n7]; exact q7, fun j => ⟨fun h => (by cases h), fun ⟨i, hi, _⟩ => by omega⟩, ⟨fun h => (by cases h), fun ⟨i, hi, _⟩ => by omega⟩⟩, ?_⟩
 clear mu m4 m6 q7 l8 l7 k44 k66 hb7 lu qu hu k4 q6 l6 hb6 q4 l4
 rintro _ _ F5 ⟨k, G, P, e, rfl, hk, rfl, lG, hW, g4, g6, g7, hP, he⟩
 have hsl := bl_slen hw
 unfold b62L1
 refine ⟨fun hlt => ?_, fun hge => ?_⟩
 ·have hkl : k < l.length := by omega
  have hx : l[k]? = some l[k] := List.getElem?_eq_getElem hkl
  generalize l[k] = x at hx
  have l05 := le_trans' lG hW.le
  obtain ⟨_, a, ha, hc⟩ := bl_cell (hw.le l05) hkl
  obtain ⟨ad, had, _⟩ := rdn (hs.le l05) hx
  have j3 : ∀ fl : Bool, (fl = true ↔ nowP l T w k ∧ accN l k b) → b62j3 (fun y1_0 F_1 => ∃ m', m' < l.length - k ∧ sI F l T w b b4 b6 b7 u s e0 m' y1_0 F_1) p b b4 b6 b7 k fl (fun r F' => StV F' r l T (w ++ [b]) ∧ F.le F') F5 := fun fl hfl => by
   unfold b62j3
   refine ⟨fun ht => ?_, fun hf => ?_⟩
   ·obtain ⟨hn, hac⟩ := hfl.1 ht
    obtain ⟨f, e', hc', hfo, hla⟩ := cx_place hG hT (now_lab w hn)
    refine ⟨⟨some ⟨u, 0, none⟩, l.length, l.length⟩, by rw [cell_eq (hW.le _ _ g7)]; rfl, ?_⟩
    refine (leave_spec hG (by omega) hc' (hs.le lG) hW).mono ?_
    rintro _ F6 ⟨rfl, Q, hW6, hQ⟩
    have fin : ∀ e2 : Bool, (e2 = true ↔ e = true ∨ e' = true) → b62j2 (fun y1_0 F_1 => ∃ m', m' < l.length - k ∧ sI F l T w b b4 b6 b7 u s e0 m' y1_0 F_1) p b b4 b6 b7 k (fun r F' => StV F' r l T (w ++ [b]) ∧ F.le F') (F6.set b7 (.cells #[.bool e2, Sl.v ⟨some ⟨u, 0, none⟩, l.length, l.length⟩] 96)) := fun e2 he2 => by
     unfold b62j2
     refine ⟨l.length - (k + 1), by omega, k + 1, G.set b7 (.cells #[.bool e2, Sl.v ⟨some ⟨u, 0, none⟩, l.length, l.length⟩] 96), Q, e2, w64s (by omega), by omega, rfl, le_set_new lG h7F, hW6.over g7 _, by rw [set_ne _ _ n47]; exact g4, by rw [set_ne _ _ n67]; exact g6, set_eq _ _ _, fun j => ?_, ?_⟩
     ·rw [hQ, hP, toP_succ, hfo]
      exact ⟨fun h => h.imp id fun h => ⟨hn, hac, h⟩, fun h => h.imp id fun h => h.2.2⟩
     ·rw [he2, he, toE_succ, hla]
      exact ⟨fun h => h.imp id fun h => ⟨hn, hac, h⟩, fun h => h.imp id fun h => h.2.2⟩
    refine ⟨_, rfl, e, by rw [cell_eq (hW6.le _ _ g7)]; rfl, fun het => ?_, fun hef => ?_⟩
    ·refine st1 (hW6.le _ _ g7) (by simp) ?_
     exact fin true (by simp [het])
    ·refine st1 (hW6.le _ _ g7) (by simp) ?_
     exact fin e' (by simp [hef])
   ·unfold b62j2
    have hno : ¬ (nowP l T w k ∧ accN l k b) := fun h => by rw [hfl.2 h] at hf; cases hf
    refine ⟨l.length - (k + 1), by omega, k + 1, G, P, e, w64s (by omega), by omega, rfl, lG, hW, g4, g6, g7, fun j => ?_, ?_⟩
    ·rw [hP, toP_succ]
     exact ⟨fun h => .inl h, fun h => h.elim id fun h => absurd ⟨h.1, h.2.1⟩ hno⟩
    ·rw [he, toE_succ]
     exact ⟨fun h => .inl h, fun h => h.elim id fun h => absurd ⟨h.1, h.2.1⟩ hno⟩
  refine ⟨s, by rw [cell_eq (hW.le _ _ g4)]; rfl, a, ha, by omega, by omega, _, hc, fun ht => ⟨ad, had, by omega, by omega, x.lo, ndc (hs.le l05) had hx (by omega) rfl, fun hlo => ⟨ad, had, by omega, by omega, x.hi, ndc (hs.le l05) had hx (by omega) rfl, j3 _ ?_⟩, fun hlo => j3 false ?_⟩, fun hf => j3 false ?_⟩
  ·rw [decide_eq_true_eq, accN_iff hx]
   exact ⟨fun h => ⟨nowB_iff.1 ht, hlo, h⟩, fun h => h.2.2⟩
  ·refine ⟨fun h => (by cases h), fun h => absurd ((accN_iff hx b).1 h.2).1 hlo⟩
  ·refine ⟨fun h => (by cases h), fun h => ?_⟩
   rw [nowB_iff.2 h.1] at hf
   cases hf
 ·obtain rfl : k = l.length := by omega
  unfold b62j1
  have g7' := hW.le _ _ g7
  have g6' := hW.le _ _ g6
  refine ⟨_, rfl, row_whole g7', ?_⟩
  refine stW g6' rfl rfl (st_two st_bool st_sl) ?_
  have lab_lt : ∀ {i : Nat}, nowP l T w i → i < l.length := fun {i} h => (tree_mem hT).1 i ((tree_mem hT).2 i (now_lab w h))
  refine ⟨_, rfl, row_whole (set_eq _ _ _), ⟨⟨some ⟨u, 0, none⟩, l.length, l.length⟩, ?_, ?_⟩, le_set_new (le_trans' lG hW.le) h6F⟩
  ·have : eB T (w ++ [b]) = e := by
    rw [Bool.eq_iff_iff, eB_iff, he, acc_iff (tree_fits hG hT)]
    exact ⟨fun ⟨j, h1, h2, h3⟩ => ⟨j, lab_lt h1, h1, h2, h3⟩, fun ⟨j, _, h1, h2, h3⟩ => ⟨j, h1, h2, h3⟩⟩
   rw [this]
  ·have ee : bl l.length P = bl l.length (nowB l T (w ++ [b])) := bl_congr fun j _ => by
    rw [Bool.eq_iff_iff, hP, nowB_iff]
    refine Iff.trans ?_ (Nx_snoc _ _ _ _).symm
    exact ⟨fun ⟨i, _, h⟩ => ⟨i, h⟩, fun ⟨i, h⟩ => ⟨i, lab_lt h.1, h⟩⟩
   rw [← ee]
   exact bl_rd (by rw [set_ne _ _ n6.symm]; exact hW.qu)
end
def enc : Nat → (Nat → Bool) → Nat
 | 0, _ => 0
 | n + 1, P => 2 * enc n P + (if P n = true then 1 else 0)
theorem enc_lt : ∀ (n : Nat) (P : Nat → Bool), enc n P < 2 ^ n
 | 0, _ => by simp [enc]
 | n + 1, P => by
  have := enc_lt n P
  unfold enc
  rw [Nat.pow_succ]
  split <;> omega
theorem enc_eq : ∀ (n : Nat) (P Q : Nat → Bool), enc n P = enc n Q ↔ ∀ j, j < n → P j = Q j
 | 0, P, Q => by simp [enc]
 | n + 1, P, Q => by
  have ih := enc_eq n P Q
  unfold enc
  constructor
  ·intro h j hj
   have h1 : enc n P = enc n Q ∧ P n = Q n := by
    cases hP : P n <;> cases hQ : Q n <;> rw [hP, hQ] at h <;> simp at h ⊢ <;> omega
   by_cases e : j = n
   ·rw [e]; exact h1.2
   ·exact ih.1 h1.1 j (by omega)
  ·intro h
   rw [ih.2 fun j hj => h j (by omega), h n (by omega)]
section
variable {l : List Nd} {T : Lt} {nT : List Nat}
noncomputable def stN (l : List Nd) (T : Lt) (w : List Nat) : Nat := enc (l.length + 1) fun j => if j = l.length then eB T w else nowB l T w j
theorem stN_eq {u v : List Nat} : stN l T u = stN l T v ↔ eB T u = eB T v ∧ ∀ j, j < l.length → nowB l T u j = nowB l T v j := by
 unfold stN
 rw [enc_eq]
 constructor
 ·intro h
  refine ⟨by simpa using h l.length (by omega), fun j hj => ?_⟩
  have := h j (by omega)
  rw [if_neg (by omega), if_neg (by omega)] at this
  exact this
 ·rintro ⟨h1, h2⟩ j hj
  by_cases e : j = l.length
  ·rw [if_pos e, if_pos e, h1]
  ·rw [if_neg e, if_neg e]
   exact h2 j (by omega)
theorem nowP_lt (hG : GoodL l) (hT : TreeAt l (l.length - 1) T nT) {w : List Nat} {j : Nat} (h : nowP l T w j) : j < l.length := (tree_mem hT).1 j ((tree_mem hT).2 j (now_lab w h))
theorem stN_now (hG : GoodL l) (hT : TreeAt l (l.length - 1) T nT) {u v : List Nat} (h : stN l T u = stN l T v) (j : Nat) : nowP l T u j ↔ nowP l T v j := by
 have h2 := (stN_eq.1 h).2
 constructor <;> intro k
 ·exact nowB_iff.1 (by rw [← h2 j (nowP_lt hG hT k)]; exact nowB_iff.2 k)
 ·exact nowB_iff.1 (by rw [h2 j (nowP_lt hG hT k)]; exact nowB_iff.2 k)
theorem stN_step (hG : GoodL l) (hT : TreeAt l (l.length - 1) T nT) {u v : List Nat} (b : Nat) (h : stN l T u = stN l T v) : stN l T (u ++ [b]) = stN l T (v ++ [b]) := by
 have hn := stN_now hG hT h
 refine stN_eq.2 ⟨?_, fun j _ => ?_⟩
 ·rw [Bool.eq_iff_iff, eB_iff, eB_iff, acc_iff (tree_fits hG hT), acc_iff (tree_fits hG hT)]
  exact ⟨fun ⟨j, h1, h2⟩ => ⟨j, (hn j).1 h1, h2⟩, fun ⟨j, h1, h2⟩ => ⟨j, (hn j).2 h1, h2⟩⟩
 ·rw [Bool.eq_iff_iff, nowB_iff, nowB_iff]
  refine (Nx_snoc _ _ _ _).trans (Iff.trans ?_ (Nx_snoc _ _ _ _).symm)
  exact ⟨fun ⟨i, h1, h2⟩ => ⟨i, (hn i).1 h1, h2⟩, fun ⟨i, h1, h2⟩ => ⟨i, (hn i).2 h1, h2⟩⟩
theorem now_dead (hG : GoodL l) (hT : TreeAt l (l.length - 1) T nT) {u x : List Nat} (h : ∀ j, j < l.length → nowB l T u j = false) (hx : x ≠ []) : ¬ Lg T.pat (u ++ x) := by
 have h0 : ∀ j, ¬ nowP l T u j := fun j hj => by
  have := h j (nowP_lt hG hT hj)
  rw [nowB_iff.2 hj] at this
  cases this
 obtain ⟨y, b, rfl⟩ : ∃ y b, x = y ++ [b] := ⟨x.dropLast, x.getLast hx, (List.dropLast_concat_getLast hx).symm⟩
 rw [← List.append_assoc, acc_iff (tree_fits hG hT)]
 rintro ⟨j, h1, _⟩
 exact Nx_none y _ h0 j ((Nx_append u y _ j).1 h1)
end
section
variable {l1 l2 : List Nd} {T1 T2 : Lt} {n1 n2 : List Nat}
theorem pair_inj {a b c d m : Nat} (h1 : b < m) (h2 : d < m) (h : a * m + b = c * m + d) : a = c ∧ b = d := by
 have e : a = c := by
  rcases Nat.lt_trichotomy a c with k | k | k
  ·have : (a + 1) * m ≤ c * m := Nat.mul_le_mul_right _ k
   rw [Nat.add_mul] at this
   omega
  ·exact k
  ·have : (c + 1) * m ≤ a * m := Nat.mul_le_mul_right _ k
   rw [Nat.add_mul] at this
   omega
 subst e
 exact ⟨rfl, by omega⟩
noncomputable def dfa2 (g1 : GoodL l1) (g2 : GoodL l2) (t1 : TreeAt l1 (l1.length - 1) T1 n1) (t2 : TreeAt l2 (l2.length - 1) T2 n2) : Dfa where
 S w := stN l1 T1 w * 2 ^ (l2.length + 1) + stN l2 T2 w
 acc w := Lg T1.pat w ∧ Lg T2.pat w
 dead w := (∀ j, j < l1.length → nowB l1 T1 w j = false) ∨ ∀ j, j < l2.length → nowB l2 T2 w j = false
 step {u v} b h := by
  have h1 := enc_lt (l2.length + 1) fun j => if j = l2.length then eB T2 u else nowB l2 T2 u j
  have h2 := enc_lt (l2.length + 1) fun j => if j = l2.length then eB T2 v else nowB l2 T2 v j
  obtain ⟨e1, e2⟩ := pair_inj h1 h2 h
  rw [stN_step g1 t1 b e1, stN_step g2 t2 b e2]
 ac {u v} h := by
  have h1 := enc_lt (l2.length + 1) fun j => if j = l2.length then eB T2 u else nowB l2 T2 u j
  have h2 := enc_lt (l2.length + 1) fun j => if j = l2.length then eB T2 v else nowB l2 T2 v j
  obtain ⟨e1, e2⟩ := pair_inj h1 h2 h
  rintro ⟨a1, a2⟩
  exact ⟨eB_iff.1 (by rw [← (stN_eq.1 e1).1]; exact eB_iff.2 a1), eB_iff.1 (by rw [← (stN_eq.1 e2).1]; exact eB_iff.2 a2)⟩
 dd {u v} h := by
  have h1 := enc_lt (l2.length + 1) fun j => if j = l2.length then eB T2 u else nowB l2 T2 u j
  have h2 := enc_lt (l2.length + 1) fun j => if j = l2.length then eB T2 v else nowB l2 T2 v j
  obtain ⟨e1, e2⟩ := pair_inj h1 h2 h
  rintro (a | a)
  ·exact .inl fun j hj => by rw [← (stN_eq.1 e1).2 j hj]; exact a j hj
  ·exact .inr fun j hj => by rw [← (stN_eq.1 e2).2 j hj]; exact a j hj
 no {u x} h hx := by
  rintro ⟨a1, a2⟩
  rcases h with h | h
  ·exact now_dead g1 t1 h hx a1
  ·exact now_dead g2 t2 h hx a2
theorem dfa2_eq {g1 : GoodL l1} {g2 : GoodL l2} {t1 : TreeAt l1 (l1.length - 1) T1 n1} {t2 : TreeAt l2 (l2.length - 1) T2 n2} {u v : List Nat} : (dfa2 g1 g2 t1 t2).S u = (dfa2 g1 g2 t1 t2).S v ↔ stN l1 T1 u = stN l1 T1 v ∧ stN l2 T2 u = stN l2 T2 v :=
 ⟨fun h => pair_inj (enc_lt (l2.length + 1) _) (enc_lt (l2.length + 1) _) h, fun ⟨h1, h2⟩ => by
  show stN l1 T1 u * 2 ^ (l2.length + 1) + stN l2 T2 u = stN l1 T1 v * 2 ^ (l2.length + 1) + stN l2 T2 v
  rw [h1, h2]⟩
theorem dfa2_lt {g1 : GoodL l1} {g2 : GoodL l2} {t1 : TreeAt l1 (l1.length - 1) T1 n1} {t2 : TreeAt l2 (l2.length - 1) T2 n2} (b1 : l1.length ≤ 12) (b2 : l2.length ≤ 12) (w : List Nat) : (dfa2 g1 g2 t1 t2).S w < 67108864 := by
 show stN l1 T1 w * 2 ^ (l2.length + 1) + stN l2 T2 w < 67108864
 have h1 : stN l1 T1 w < 2 ^ (l1.length + 1) := enc_lt _ _
 have h2 : stN l2 T2 w < 2 ^ (l2.length + 1) := enc_lt _ _
 have p1 : 2 ^ (l1.length + 1) ≤ 2 ^ 13 := Nat.pow_le_pow_right (by omega) (by omega)
 have p2 : 2 ^ (l2.length + 1) ≤ 2 ^ 13 := Nat.pow_le_pow_right (by omega) (by omega)
 have : stN l1 T1 w * 2 ^ (l2.length + 1) ≤ 8191 * 8192 := Nat.mul_le_mul (by omega) (by omega)
 omega
abbrev Prx := Sl × Sl × List Nat
noncomputable def prv (T1 T2 : Lt) (x : Prx) : List Value := [.bool (eB T1 x.2.2), x.1.v, .bool (eB T2 x.2.2), x.2.1.v, .string (mkS x.2.2)]
noncomputable def prs (T1 T2 : Lt) (L : List Prx) : List Value := L.flatMap (prv T1 T2)
def PrX (l1 l2 : List Nd) (T1 T2 : Lt) (F : PH) (x : Prx) : Prop := RdS F x.1 1 (bl l1.length (nowB l1 T1 x.2.2)) ∧ RdS F x.2.1 1 (bl l2.length (nowB l2 T2 x.2.2))
theorem PrX.le {F F' : PH} {x : Prx} (h : PrX l1 l2 T1 T2 F x) (l : F.le F') : PrX l1 l2 T1 T2 F' x := ⟨h.1.le l, h.2.le l⟩
theorem prs_length (L : List Prx) : (prs T1 T2 L).length = L.length * 5 := by
 induction L with
 | nil => rfl
 | cons b L ih => simp only [prs, List.flatMap_cons, List.length_append, List.length_cons] at ih ⊢; rw [ih]; simp [prv]; omega
theorem prs_append (L M : List Prx) : prs T1 T2 (L ++ M) = prs T1 T2 L ++ prs T1 T2 M := by simp [prs]
theorem prs_get : ∀ (L : List Prx) (i : Nat) (x : Prx), L[i]? = some x → ((prs T1 T2 L).drop (i * 5)).take 5 = prv T1 T2 x
 | b :: L, 0, x, h => by cases h; simp [prs, prv]
 | b :: L, i + 1, x, h => by
  have e : (i + 1) * 5 = 5 + i * 5 := by omega
  have : prs T1 T2 (b :: L) = prv T1 T2 b ++ prs T1 T2 L := by simp [prs]
  rw [this, e, ← List.drop_drop, List.drop_left' (by simp [prv])]
  exact prs_get L i x (by simpa using h)
theorem st_prv (x : Prx) : ∀ v ∈ prv T1 T2 x, storable v := by
 intro v hv
 simp only [prv, List.mem_cons, List.not_mem_nil, or_false] at hv
 rcases hv with rfl | rfl | rfl | rfl | rfl
 ·exact st_bool
 ·exact st_sl
 ·exact st_bool
 ·exact st_sl
 ·exact st_str
theorem row_sub {F : PH} {a : Addr} {c d : Array Value} (h : F.row a c) (ha : a.spot = none) (k : Nat) (hd : ∀ (i : Nat) (hi : i < d.size), c[k + i]? = some d[i]) : F.row (a.add k) d := by
 intro i hi
 rw [add_add _ _ _ ha]
 have h1 := hd i hi
 obtain ⟨h2, h3⟩ := Array.getElem?_eq_some_iff.1 h1
 rw [h _ h2, h3]
theorem prs_rows {F : PH} {s : Sl} {L : List Prx} (h : RdS F s 5 (prs T1 T2 L)) {i : Nat} {x : Prx} (hx : L[i]? = some x) : s.len = L.length ∧ ∃ a : Addr, s.base = some a ∧
  F.row (a.add (i * 5)) #[.bool (eB T1 x.2.2), x.1.v] ∧ F.row ((a.add (i * 5)).add 2) #[.bool (eB T2 x.2.2), x.2.1.v] ∧ F.cell ((a.add (i * 5)).add 4) = some (.string (mkS x.2.2)) := by
 have hl := h.len
 rw [prs_length] at hl
 have hi := (List.getElem?_eq_some_iff.1 hx).1
 obtain ⟨b, o, hb, _⟩ := h.cells (by omega)
 have hr := h.row hb (i * 5) (prv T1 T2 x).toArray (by rw [List.size_toArray]; exact (prs_get L i x hx).symm)
 refine ⟨by omega, _, hb, ?_, ?_, ?_⟩
 ·have := row_sub (d := #[.bool (eB T1 x.2.2), x.1.v]) hr (by rw [add_mk]) 0 fun j hj => by
   have : j < 2 := hj
   match j, this with
   | 0, _ => rfl
   | 1, _ => rfl
  rw [show (({ block := b, off := o } : Addr).add (i * 5)).add 0 = ({ block := b, off := o } : Addr).add (i * 5) by rw [add_mk, add_mk]; rfl] at this
  exact this
 ·exact row_sub (d := #[.bool (eB T2 x.2.2), x.2.1.v]) hr (by rw [add_mk]) 2 fun j hj => by
   have : j < 2 := hj
   match j, this with
   | 0, _ => rfl
   | 1, _ => rfl
 ·exact hr 4 (show 4 < 5 by decide)
theorem met_spec (hb1 : l1.length ≤ 1000000) (hb2 : l2.length ≤ 1000000) {F : PH} {s : Sl} {L : List Prx} (h : RdS F s 5 (prs T1 T2 L)) (hL : ∀ x ∈ L, PrX l1 l2 T1 T2 F x) (hn : L.length ≤ 1000000000) {x : Prx} (hx : PrX l1 l2 T1 T2 F x) :
  Spec prog 64 #[s.v, .agg (prv T1 T2 x).toArray] F fun r F' => (∃ b : Bool, r = .bool b ∧ (b = true ↔ ∃ y ∈ L, stN l1 T1 y.2.2 = stN l1 T1 x.2.2 ∧ stN l2 T2 y.2.2 = stN l2 T2 x.2.2)) ∧ F.le F' := by
 have hl := h.len
 rw [prs_length] at hl
 refine c64 ?_
 unfold b64
 intro b3 hb3
 refine atI ?_
 have l1' := le_set_fresh (.cells (prv T1 T2 x).toArray 99) hb3
 have q1 := set_eq F b3 (.cells (prv T1 T2 x).toArray 99)
 generalize F.set b3 (.cells (prv T1 T2 x).toArray 99) = F1 at *
 have hr : F1.row ⟨b3, 0, none⟩ (prv T1 T2 x).toArray := row_whole q1
 refine ⟨fun m i F' => ∃ j : Nat, i = j ∧ j ≤ L.length ∧ m = L.length - j ∧ F1.le F' ∧ ∀ i y, i < j → L[i]? = some y → ¬ (stN l1 T1 y.2.2 = stN l1 T1 x.2.2 ∧ stN l2 T2 y.2.2 = stN l2 T2 x.2.2), L.length, ⟨0, rfl, by omega, rfl, le_refl' _, fun i y hi => by omega⟩, ?_⟩
 rintro _ _ F2 ⟨j, rfl, hj, rfl, l2', hno⟩
 have l02 := le_trans' l1' l2'
 unfold b64L1
 refine ⟨fun hlt => ?_, fun hge => ?_⟩
 ·have hjn : j < L.length := by omega
  have hy : L[j]? = some L[j] := List.getElem?_eq_getElem hjn
  have hym : L[j] ∈ L := List.getElem_mem hjn
  generalize L[j] = y at hy hym
  have hry := hL y hym
  obtain ⟨_, a, ha, r1, r2, r3⟩ := prs_rows (h.le l02) hy
  have more : ¬ (stN l1 T1 y.2.2 = stN l1 T1 x.2.2 ∧ stN l2 T2 y.2.2 = stN l2 T2 x.2.2) → ∀ F3 : PH, F1.le F3 → b64j2 (fun y1_0 F => ∃ m', m' < L.length - j ∧ ∃ j : Nat, y1_0 = j ∧ j ≤ L.length ∧ m' = L.length - j ∧ F1.le F ∧ ∀ i y, i < j → L[i]? = some y → ¬ (stN l1 T1 y.2.2 = stN l1 T1 x.2.2 ∧ stN l2 T2 y.2.2 = stN l2 T2 x.2.2)) s b3 j (fun r F' => (∃ b : Bool, r = .bool b ∧ (b = true ↔ ∃ y ∈ L, stN l1 T1 y.2.2 = stN l1 T1 x.2.2 ∧ stN l2 T2 y.2.2 = stN l2 T2 x.2.2)) ∧ F.le F') F3 := fun hne F3 l3 => by
   unfold b64j2
   refine ⟨L.length - (j + 1), by omega, j + 1, w64s (by omega), by omega, rfl, l3, fun i z hi hz => ?_⟩
   by_cases e : i = j
   ·subst e
    rw [hy] at hz
    cases hz
    exact hne
   ·exact hno i z (by omega) hz
  refine ⟨a, ha, by omega, by omega, _, rfl, by rw [Int.toNat_natCast]; exact r1, #[.bool (eB T1 x.2.2), x.1.v], rfl, ?_, ?_⟩
  ·have := row_sub (d := #[.bool (eB T1 x.2.2), x.1.v]) (fun i hi => le_cell l2' (hr i hi)) rfl 0 fun i hi => by
    have : i < 2 := hi
    match i, this with
    | 0, _ => rfl
    | 1, _ => rfl
   exact this
  refine (same_ref hb1 (hry.1.le l02) (hx.1.le l02)).mono ?_
  rintro _ F3 ⟨⟨fb, rfl, hfb⟩, l3⟩
  have l03 := le_trans' l02 l3
  refine ⟨_, rfl, fun ht => ?_, fun hf => ?_⟩
  ·obtain ⟨_, a', ha', _, r2', _⟩ := prs_rows (h.le l03) hy
   refine ⟨a', ha', by omega, by omega, _, rfl, by rw [Int.toNat_natCast]; exact r2', #[.bool (eB T2 x.2.2), x.2.1.v], rfl, ?_, ?_⟩
   ·have := row_sub (a := ⟨b3, 0, none⟩) (d := #[.bool (eB T2 x.2.2), x.2.1.v]) (fun i hi => le_cell (le_trans' l2' l3) (hr i hi)) rfl 2 fun i hi => by
     have : i < 2 := hi
     match i, this with
     | 0, _ => rfl
     | 1, _ => rfl
    exact this
   refine (same_ref hb2 (hry.2.le l03) (hx.2.le l03)).mono ?_
   rintro _ F4 ⟨⟨fc, rfl, hfc⟩, l4⟩
   refine ⟨_, rfl, fun ht2 => ⟨⟨true, rfl, fun _ => ⟨y, hym, stN_eq.2 (hfb.1 ht), stN_eq.2 (hfc.1 ht2)⟩, fun _ => rfl⟩, le_trans' l03 l4⟩, fun hf2 => more (fun hc => ?_) F4 (le_trans' l2' (le_trans' l3 l4))⟩
   rw [hfc.2 (stN_eq.1 hc.2)] at hf2
   cases hf2
  ·refine more (fun hc => ?_) F3 (le_trans' l2' l3)
   rw [hfb.2 (stN_eq.1 hc.1)] at hf
   cases hf
 ·unfold b64j1
  refine ⟨⟨false, rfl, fun h => (by cases h), ?_⟩, l02⟩
  rintro ⟨y, hy, hs⟩
  obtain ⟨i, hi⟩ := List.mem_iff_getElem?.1 hy
  exact absurd hs (hno i y (by have := (List.getElem?_eq_some_iff.1 hi).1; omega) hi)
end
theorem sz99' : tsz prog 99 = some (5, 80) := by kernel_rfl
theorem zr99' : tzero prog 99 = some (.agg #[.bool false, .slice none 0 0, .bool false, .slice none 0 0, .string ⟨#[]⟩]) := by kernel_rfl
theorem mkS_append (a b : List Nat) : mkS a ++ mkS b = mkS (a ++ b) := by
 unfold mkS
 rw [List.map_append]
 apply bs_inj
 rw [bs_append]
 simp [bs]
theorem mkS_size (a : List Nat) : (mkS a).size = a.length := by
 rw [← bs_length]
 simp [bs, mkS]
structure Owp (G F : PH) (s : Sl) (vs : List Value) : Prop where
 le : G.le F
 own : OwnS F 99 5 s vs
 oz : ∀ a, s.base = some a → G a.block = none
def Kp (G F G' F' : PH) : Prop := ∀ y o, G y = none → F y = some o → G' y = none ∧ F' y = some o
section
variable {G F : PH} {s : Sl} {vs : List Value}
theorem Owp.up (h : Owp G F s vs) {F' : PH} (l : F.le F') : Owp G F' s vs :=
 ⟨le_trans' h.le l, h.own.keep fun a ha => by
  obtain ⟨o', ho⟩ := h.own.some ha
  rw [ho, l _ _ ho], h.oz⟩
theorem Owp.call {f : FuncId} {args : Array Value} {P : Value → PH → Prop} (h : Owp G F s vs) (sp : Spec prog f args G P) : Spec prog f args F fun r F' => ∃ G', P r G' ∧ Owp G' F' s vs ∧ Kp G F G' F' :=
 (sp.upon h.le).mono fun r F' ⟨G', hp, hl, hk⟩ => ⟨G', hp, ⟨hl, h.own.keep fun a ha => by
  obtain ⟨o, ho⟩ := h.own.some ha
  rw [(hk _ _ (h.oz a ha) ho).1, ho], fun a ha => by
  obtain ⟨o, ho⟩ := h.own.some ha
  exact (hk _ _ (h.oz a ha) ho).2⟩, fun y o h1 h2 => (hk y o h1 h2).symm⟩
theorem Owp.new {o : Obj} (h : Owp G F s vs) {K : Nat → PH → Prop} (k : ∀ (b : Nat) (G' F' : PH), G.le G' → Owp G' F' s vs → G' b = some o → Kp G F G' F' → K b F') : ∀ b, F b = none → atF (F.set b o) (K b) := by
 intro b hb
 refine atI (k b (G.set b o) _ (le_set_fresh o (le_none h.le hb)) ⟨fun y p hy => ?_, h.own.keep fun a ha => ?_, fun a ha => ?_⟩ (set_eq _ _ _) fun y p h1 h2 => ?_)
 ·by_cases e : y = b
  ·rw [e, set_eq] at hy ⊢
   exact hy
  ·rw [set_ne _ _ e] at hy ⊢
   exact h.le _ _ hy
 ·obtain ⟨o', ho⟩ := h.own.some ha
  exact set_ne _ _ (ne_of_fresh hb ho)
 ·obtain ⟨o', ho⟩ := h.own.some ha
  rw [set_ne _ _ (ne_of_fresh hb ho)]
  exact h.oz a ha
 ·have e := ne_of_fresh hb h2
  rw [set_ne _ _ e, set_ne _ _ e]
  exact ⟨h1, h2⟩
theorem Owp.out {o : Obj} (h : Owp G F s vs) {K : Nat → PH → Prop} (k : ∀ (b : Nat) (F' : PH), Owp G F' s vs → G b = none → F' b = some o → (∀ a, s.base = some a → a.block ≠ b) → K b F') : ∀ b, F b = none → atF (F.set b o) (K b) := by
 intro b hb
 refine atI (k b _ (h.up (le_set_fresh o hb)) (le_none h.le hb) (set_eq _ _ _) fun a ha => ?_)
 obtain ⟨o', ho⟩ := h.own.some ha
 exact ne_of_fresh hb ho
theorem Owp.over (h : Owp G F s vs) {b : Nat} (hz : G b = none) (hn : ∀ a, s.base = some a → a.block ≠ b) (o : Obj) : Owp G (F.set b o) s vs :=
 ⟨le_set_new h.le hz, h.own.keep fun a ha => set_ne _ _ (hn a ha), h.oz⟩
theorem Owp.push (h : Owp G F s vs) {ws : List Value} (hw : ws.length = 5) (hst : ∀ v ∈ ws, storable v) (hl : s.len ≤ 1000000000) {K : Sl → PH → Prop} (k : ∀ s' F', Owp G F' s' (vs ++ ws) → K s' F') :
  ∀ x, F x = none → atF (F.set x (.cells ws.toArray 99)) fun F =>
   runs prog (Builtin.append_ #[100, 100] 100 #[(Sl.v s), (Sl.v (Sl.mk (some (Addr.mk x 0 none)) 1 1))]) F fun v F => ∃ s' : Sl, v = (Sl.v s') ∧ K s' F := by
 refine h.out (K := fun x F => runs prog (Builtin.append_ #[100, 100] 100 #[(Sl.v s), (Sl.v (Sl.mk (some (Addr.mk x 0 none)) 1 1))]) F fun v F => ∃ s' : Sl, v = (Sl.v s') ∧ K s' F) fun x F1 h1 _ q1 _ => ?_
 refine own_app (F0 := G) (x := ⟨some ⟨x, 0, none⟩, 1, 1⟩) (news := ws) underlying100 sz99' zr99' rfl (by decide) h1.le h1.own h1.oz (RdS.new q1 (List.take_of_length_le (by show ws.length ≤ 1 * 5; omega)) (by omega) (Nat.le_refl _)) hst (by simp only; omega) (by simp only; omega) ?_
 intro s' F2 le2 ho2 hl2 hnew keep hsome
 exact ⟨s', rfl, k s' F2 ⟨le2, ho2, hnew⟩⟩
end
section
variable {l1 l2 : List Nd} {T1 T2 : Lt} {n1 n2 : List Nat} {F : PH} {s : Sl} {L : List Prx} {i : Nat} {x : Prx}
theorem prs_a {a : Addr} (h : RdS F s 5 (prs T1 T2 L)) (hx : L[i]? = some x) (ha : s.base = some a) :
  F.row (a.add (Int.toNat (i : Int) * 5)) #[.bool (eB T1 x.2.2), x.1.v] ∧ F.row ((a.add (Int.toNat (i : Int) * 5)).add 2) #[.bool (eB T2 x.2.2), x.2.1.v] ∧ F.cell ((a.add (Int.toNat (i : Int) * 5)).add 4) = some (.string (mkS x.2.2)) := by
 obtain ⟨_, a', ha', r⟩ := prs_rows h hx
 rw [ha] at ha'
 cases ha'
 rw [Int.toNat_natCast]
 exact r
theorem rd61 {b61 k : Nat} (hk : k < 256) (c : F b61 = some (.cells #[.int .u8 (IntKind.u8.wrap (k : Int))] 5)) : RdS F ⟨some ⟨b61, 0, none⟩, 1, 1⟩ 1 (u8l [k]) := by
 have e : IntKind.u8.wrap (k : Int) = k := wu8_eq (by omega) (by omega)
 rw [e] at c
 exact RdS.new c rfl rfl (Nat.le_refl _)
theorem st_five {a b c d e : Value} (ha : storable a) (hb : storable b) (hc : storable c) (hd : storable d) (he : storable e) : ∀ x ∈ (#[a, b, c, d, e] : Array Value).toList, storable x := by
 intro x hx
 simp at hx
 rcases hx with rfl | rfl | rfl | rfl | rfl <;> assumption
theorem step32 (g1 : GoodL l1) (g2 : GoodL l2) (t1 : TreeAt l1 (l1.length - 1) T1 n1) (t2 : TreeAt l2 (l2.length - 1) T2 n2) (hb1 : l1.length ≤ 1000000) (hb2 : l2.length ≤ 1000000) {p q l : Sl} {G F : PH} (hp : RdS G p 5 (nflat l1)) (hq : RdS G q 5 (nflat l2))
  (h : Owp G F l (prs T1 T2 L)) {s t : Sl} {w : List Nat} (hx : L[i]? = some (s, t, w)) (hs : RdS G s 1 (bl l1.length (nowB l1 T1 w))) (ht : RdS G t 1 (bl l2.length (nowB l2 T2 w))) (hsz : w.length + 1 ≤ 9223372036854775807) {b : Nat} (hb : b ≤ 256)
  {N1 N2 : Sl → Int → PH → Prop} {R : Value → PH → Prop} (hge : ¬ b < 256 → N1 l (IntKind.i64.wrap (i + 1)) F)
  (hfin : ∀ (G' F' : PH) (b11 : Nat) (s' t' : Sl), b < 256 → G.le G' → Owp G' F' l (prs T1 T2 L) → G' b11 = none → F' b11 = some (.cells #[.bool (eB T1 (w ++ [b])), s'.v, .bool (eB T2 (w ++ [b])), t'.v, .string (mkS w ++ mkS [b])] 99) →
   RdS G' s' 1 (bl l1.length (nowB l1 T1 (w ++ [b]))) → RdS G' t' 1 (bl l2.length (nowB l2 T2 (w ++ [b]))) → b32j4 N1 N2 p q l i b (some ⟨b11, 0, none⟩) R F') : b32L2 N1 N2 p q i R l b F := by
 have hil := (List.getElem?_eq_some_iff.1 hx).1
 have hlen : l.len = L.length := by have := h.own.rd.len; rw [prs_length] at this; omega
 obtain ⟨_, a, ha, _⟩ := prs_rows h.own.rd hx
 have hsz' : (mkS w).size + (mkS [b]).size ≤ 9223372036854775807 := by rw [mkS_size, mkS_size]; exact hsz
 unfold b32L2
 refine ⟨fun hlt => ?_, fun h' => hge fun k => h' (by omega)⟩
 replace hfin := fun G' F' b11 s' t' => hfin G' F' b11 s' t' (by omega)
 have hk : b < 256 := by omega
 clear hge
 obtain ⟨r1, r2, r3⟩ := prs_a h.own.rd hx ha
 refine ⟨a, ha, by omega, by omega, _, rfl, r1, a, ha, by omega, by omega, _, rfl, r2, a, ha, by omega, by omega, _, r3, ?_⟩
 clear r1 r2 r3
 have l0 := le_refl' G
 generalize hGx : G = Gx at l0 hp hq hs ht hfin
 rw [hGx] at h
 clear hGx
 refine ⟨?_, ?_, ?_⟩
 ·
  refine (h.call (step_spec g1 hb1 t1 (hp.le l0) (hs.le l0) b)).mono ?_
  rintro _ F1 ⟨G1, ⟨⟨s', rfl, hs'⟩, lx⟩, h, kp⟩
  replace l0 := le_trans' l0 lx
  clear lx kp
  refine ⟨_, rfl, (prs_a h.own.rd hx ha).2.2, (prs_a h.own.rd hx ha).2.1, ?_⟩
  refine ⟨?_, ?_, ?_⟩
  ·
   refine (h.call (step_spec g2 hb2 t2 (hq.le l0) (ht.le l0) b)).mono ?_
   rintro _ F2 ⟨G2, ⟨⟨t', rfl, ht'⟩, lx⟩, h, kp⟩
   replace hs' := hs'.le lx
   replace l0 := le_trans' l0 lx
   clear lx kp
   refine ⟨_, rfl, (prs_a h.own.rd hx ha).2.2, ?_⟩
   refine ⟨?_, ?_⟩
   ·
    refine h.new fun b61 G3 F3 lx h c61 kp => ?_
    replace hs' := hs'.le lx
    replace ht' := ht'.le lx
    replace l0 := le_trans' l0 lx
    clear lx kp
    refine ⟨_, bts_rdo (rd61 hk (h.le _ _ c61)), hsz', rfl, rfl, ?_⟩
    refine h.out fun b11 F4 h z11 c11 nb => ?_
    refine ⟨bts_rdo (rd61 hk (h.le _ _ c61)), ?_⟩
    refine stW c11 rfl rfl (st_five st_bool st_sl st_bool st_sl st_str) ?_
    exact hfin _ _ b11 s' t' l0 (h.over z11 nb _) z11 (set_eq _ _ _) hs' ht'
   ·
    refine h.out fun b11 F5 h z11 c11 nb => ?_
    refine h.new fun b61 G6 F6 lx h c61 kp => ?_
    replace hs' := hs'.le lx
    replace ht' := ht'.le lx
    obtain ⟨z11, c11⟩ := kp _ _ z11 c11
    replace l0 := le_trans' l0 lx
    clear lx kp
    refine ⟨_, bts_rdo (rd61 hk (h.le _ _ c61)), hsz', rfl, rfl, ?_⟩
    refine stW c11 rfl rfl (st_five st_bool st_sl st_bool st_sl st_str) ?_
    exact hfin _ _ b11 s' t' l0 (h.over z11 nb _) z11 (set_eq _ _ _) hs' ht'
  ·
   refine h.new fun b61 G7 F7 lx h c61 kp => ?_
   replace hs' := hs'.le lx
   replace l0 := le_trans' l0 lx
   clear lx kp
   refine ⟨_, bts_rdo (rd61 hk (h.le _ _ c61)), hsz', ?_⟩
   refine ⟨?_, ?_⟩
   ·
    refine (h.call (step_spec g2 hb2 t2 (hq.le l0) (ht.le l0) b)).mono ?_
    rintro _ F8 ⟨G8, ⟨⟨t', rfl, ht'⟩, lx⟩, h, kp⟩
    replace hs' := hs'.le lx
    replace c61 := lx _ _ c61
    replace l0 := le_trans' l0 lx
    clear lx kp
    refine ⟨_, rfl, bts_rdo (rd61 hk (h.le _ _ c61)), (prs_a h.own.rd hx ha).2.2, rfl, rfl, ?_⟩
    refine h.out fun b11 F9 h z11 c11 nb => ?_
    refine ⟨bts_rdo (rd61 hk (h.le _ _ c61)), ?_⟩
    refine stW c11 rfl rfl (st_five st_bool st_sl st_bool st_sl st_str) ?_
    exact hfin _ _ b11 s' t' l0 (h.over z11 nb _) z11 (set_eq _ _ _) hs' ht'
   ·
    refine h.out fun b11 F10 h z11 c11 nb => ?_
    refine ⟨bts_rdo (rd61 hk (h.le _ _ c61)), ?_⟩
    refine (h.call (step_spec g2 hb2 t2 (hq.le l0) (ht.le l0) b)).mono ?_
    rintro _ F11 ⟨G11, ⟨⟨t', rfl, ht'⟩, lx⟩, h, kp⟩
    replace hs' := hs'.le lx
    replace c61 := lx _ _ c61
    obtain ⟨z11, c11⟩ := kp _ _ z11 c11
    replace l0 := le_trans' l0 lx
    clear lx kp
    refine ⟨_, rfl, bts_rdo (rd61 hk (h.le _ _ c61)), (prs_a h.own.rd hx ha).2.2, rfl, rfl, ?_⟩
    refine stW c11 rfl rfl (st_five st_bool st_sl st_bool st_sl st_str) ?_
    exact hfin _ _ b11 s' t' l0 (h.over z11 nb _) z11 (set_eq _ _ _) hs' ht'
  ·
   refine h.out fun b11 F12 h z11 c11 nb => ?_
   refine ⟨?_, ?_⟩
   ·
    refine (h.call (step_spec g2 hb2 t2 (hq.le l0) (ht.le l0) b)).mono ?_
    rintro _ F13 ⟨G13, ⟨⟨t', rfl, ht'⟩, lx⟩, h, kp⟩
    replace hs' := hs'.le lx
    obtain ⟨z11, c11⟩ := kp _ _ z11 c11
    replace l0 := le_trans' l0 lx
    clear lx kp
    refine ⟨_, rfl, (prs_a h.own.rd hx ha).2.2, ?_⟩
    refine h.new fun b61 G14 F14 lx h c61 kp => ?_
    replace hs' := hs'.le lx
    obtain ⟨z11, c11⟩ := kp _ _ z11 c11
    replace ht' := ht'.le lx
    replace l0 := le_trans' l0 lx
    clear lx kp
    refine ⟨_, bts_rdo (rd61 hk (h.le _ _ c61)), hsz', rfl, rfl, ?_⟩
    refine stW c11 rfl rfl (st_five st_bool st_sl st_bool st_sl st_str) ?_
    exact hfin _ _ b11 s' t' l0 (h.over z11 nb _) z11 (set_eq _ _ _) hs' ht'
   ·
    refine h.new fun b61 G15 F15 lx h c61 kp => ?_
    replace hs' := hs'.le lx
    obtain ⟨z11, c11⟩ := kp _ _ z11 c11
    replace l0 := le_trans' l0 lx
    clear lx kp
    refine ⟨_, bts_rdo (rd61 hk (h.le _ _ c61)), hsz', ?_⟩
    refine (h.call (step_spec g2 hb2 t2 (hq.le l0) (ht.le l0) b)).mono ?_
    rintro _ F16 ⟨G16, ⟨⟨t', rfl, ht'⟩, lx⟩, h, kp⟩
    replace hs' := hs'.le lx
    obtain ⟨z11, c11⟩ := kp _ _ z11 c11
    replace c61 := lx _ _ c61
    replace l0 := le_trans' l0 lx
    clear lx kp
    refine ⟨_, rfl, bts_rdo (rd61 hk (h.le _ _ c61)), (prs_a h.own.rd hx ha).2.2, rfl, rfl, ?_⟩
    refine stW c11 rfl rfl (st_five st_bool st_sl st_bool st_sl st_str) ?_
    exact hfin _ _ b11 s' t' l0 (h.over z11 nb _) z11 (set_eq _ _ _) hs' ht'
 ·
  refine h.new fun b61 G17 F17 lx h c61 kp => ?_
  replace l0 := le_trans' l0 lx
  clear lx kp
  refine ⟨_, bts_rdo (rd61 hk (h.le _ _ c61)), hsz', ?_⟩
  refine ⟨?_, ?_⟩
  ·
   refine (h.call (step_spec g1 hb1 t1 (hp.le l0) (hs.le l0) b)).mono ?_
   rintro _ F18 ⟨G18, ⟨⟨s', rfl, hs'⟩, lx⟩, h, kp⟩
   replace c61 := lx _ _ c61
   replace l0 := le_trans' l0 lx
   clear lx kp
   refine ⟨_, rfl, bts_rdo (rd61 hk (h.le _ _ c61)), (prs_a h.own.rd hx ha).2.2, (prs_a h.own.rd hx ha).2.1, ?_⟩
   refine ⟨?_, ?_⟩
   ·
    refine (h.call (step_spec g2 hb2 t2 (hq.le l0) (ht.le l0) b)).mono ?_
    rintro _ F19 ⟨G19, ⟨⟨t', rfl, ht'⟩, lx⟩, h, kp⟩
    replace c61 := lx _ _ c61
    replace hs' := hs'.le lx
    replace l0 := le_trans' l0 lx
    clear lx kp
    refine ⟨_, rfl, bts_rdo (rd61 hk (h.le _ _ c61)), (prs_a h.own.rd hx ha).2.2, rfl, rfl, ?_⟩
    refine h.out fun b11 F20 h z11 c11 nb => ?_
    refine ⟨bts_rdo (rd61 hk (h.le _ _ c61)), ?_⟩
    refine stW c11 rfl rfl (st_five st_bool st_sl st_bool st_sl st_str) ?_
    exact hfin _ _ b11 s' t' l0 (h.over z11 nb _) z11 (set_eq _ _ _) hs' ht'
   ·
    refine h.out fun b11 F21 h z11 c11 nb => ?_
    refine ⟨bts_rdo (rd61 hk (h.le _ _ c61)), ?_⟩
    refine (h.call (step_spec g2 hb2 t2 (hq.le l0) (ht.le l0) b)).mono ?_
    rintro _ F22 ⟨G22, ⟨⟨t', rfl, ht'⟩, lx⟩, h, kp⟩
    replace c61 := lx _ _ c61
    replace hs' := hs'.le lx
    obtain ⟨z11, c11⟩ := kp _ _ z11 c11
    replace l0 := le_trans' l0 lx
    clear lx kp
    refine ⟨_, rfl, bts_rdo (rd61 hk (h.le _ _ c61)), (prs_a h.own.rd hx ha).2.2, rfl, rfl, ?_⟩
    refine stW c11 rfl rfl (st_five st_bool st_sl st_bool st_sl st_str) ?_
    exact hfin _ _ b11 s' t' l0 (h.over z11 nb _) z11 (set_eq _ _ _) hs' ht'
  ·
   refine h.out fun b11 F23 h z11 c11 nb => ?_
   refine ⟨bts_rdo (rd61 hk (h.le _ _ c61)), ?_⟩
   refine (h.call (step_spec g1 hb1 t1 (hp.le l0) (hs.le l0) b)).mono ?_
   rintro _ F24 ⟨G24, ⟨⟨s', rfl, hs'⟩, lx⟩, h, kp⟩
   replace c61 := lx _ _ c61
   obtain ⟨z11, c11⟩ := kp _ _ z11 c11
   replace l0 := le_trans' l0 lx
   clear lx kp
   refine ⟨_, rfl, bts_rdo (rd61 hk (h.le _ _ c61)), (prs_a h.own.rd hx ha).2.2, (prs_a h.own.rd hx ha).2.1, ?_⟩
   refine (h.call (step_spec g2 hb2 t2 (hq.le l0) (ht.le l0) b)).mono ?_
   rintro _ F25 ⟨G25, ⟨⟨t', rfl, ht'⟩, lx⟩, h, kp⟩
   replace c61 := lx _ _ c61
   obtain ⟨z11, c11⟩ := kp _ _ z11 c11
   replace hs' := hs'.le lx
   replace l0 := le_trans' l0 lx
   clear lx kp
   refine ⟨_, rfl, bts_rdo (rd61 hk (h.le _ _ c61)), (prs_a h.own.rd hx ha).2.2, rfl, rfl, ?_⟩
   refine stW c11 rfl rfl (st_five st_bool st_sl st_bool st_sl st_str) ?_
   exact hfin _ _ b11 s' t' l0 (h.over z11 nb _) z11 (set_eq _ _ _) hs' ht'
 ·
  refine h.out fun b11 F26 h z11 c11 nb => ?_
  refine ⟨?_, ?_⟩
  ·
   refine (h.call (step_spec g1 hb1 t1 (hp.le l0) (hs.le l0) b)).mono ?_
   rintro _ F27 ⟨G27, ⟨⟨s', rfl, hs'⟩, lx⟩, h, kp⟩
   obtain ⟨z11, c11⟩ := kp _ _ z11 c11
   replace l0 := le_trans' l0 lx
   clear lx kp
   refine ⟨_, rfl, (prs_a h.own.rd hx ha).2.2, (prs_a h.own.rd hx ha).2.1, ?_⟩
   refine ⟨?_, ?_⟩
   ·
    refine (h.call (step_spec g2 hb2 t2 (hq.le l0) (ht.le l0) b)).mono ?_
    rintro _ F28 ⟨G28, ⟨⟨t', rfl, ht'⟩, lx⟩, h, kp⟩
    obtain ⟨z11, c11⟩ := kp _ _ z11 c11
    replace hs' := hs'.le lx
    replace l0 := le_trans' l0 lx
    clear lx kp
    refine ⟨_, rfl, (prs_a h.own.rd hx ha).2.2, ?_⟩
    refine h.new fun b61 G29 F29 lx h c61 kp => ?_
    obtain ⟨z11, c11⟩ := kp _ _ z11 c11
    replace hs' := hs'.le lx
    replace ht' := ht'.le lx
    replace l0 := le_trans' l0 lx
    clear lx kp
    refine ⟨_, bts_rdo (rd61 hk (h.le _ _ c61)), hsz', rfl, rfl, ?_⟩
    refine stW c11 rfl rfl (st_five st_bool st_sl st_bool st_sl st_str) ?_
    exact hfin _ _ b11 s' t' l0 (h.over z11 nb _) z11 (set_eq _ _ _) hs' ht'
   ·
    refine h.new fun b61 G30 F30 lx h c61 kp => ?_
    obtain ⟨z11, c11⟩ := kp _ _ z11 c11
    replace hs' := hs'.le lx
    replace l0 := le_trans' l0 lx
    clear lx kp
    refine ⟨_, bts_rdo (rd61 hk (h.le _ _ c61)), hsz', ?_⟩
    refine (h.call (step_spec g2 hb2 t2 (hq.le l0) (ht.le l0) b)).mono ?_
    rintro _ F31 ⟨G31, ⟨⟨t', rfl, ht'⟩, lx⟩, h, kp⟩
    obtain ⟨z11, c11⟩ := kp _ _ z11 c11
    replace hs' := hs'.le lx
    replace c61 := lx _ _ c61
    replace l0 := le_trans' l0 lx
    clear lx kp
    refine ⟨_, rfl, bts_rdo (rd61 hk (h.le _ _ c61)), (prs_a h.own.rd hx ha).2.2, rfl, rfl, ?_⟩
    refine stW c11 rfl rfl (st_five st_bool st_sl st_bool st_sl st_str) ?_
    exact hfin _ _ b11 s' t' l0 (h.over z11 nb _) z11 (set_eq _ _ _) hs' ht'
  ·
   refine h.new fun b61 G32 F32 lx h c61 kp => ?_
   obtain ⟨z11, c11⟩ := kp _ _ z11 c11
   replace l0 := le_trans' l0 lx
   clear lx kp
   refine ⟨_, bts_rdo (rd61 hk (h.le _ _ c61)), hsz', ?_⟩
   refine (h.call (step_spec g1 hb1 t1 (hp.le l0) (hs.le l0) b)).mono ?_
   rintro _ F33 ⟨G33, ⟨⟨s', rfl, hs'⟩, lx⟩, h, kp⟩
   obtain ⟨z11, c11⟩ := kp _ _ z11 c11
   replace c61 := lx _ _ c61
   replace l0 := le_trans' l0 lx
   clear lx kp
   refine ⟨_, rfl, bts_rdo (rd61 hk (h.le _ _ c61)), (prs_a h.own.rd hx ha).2.2, (prs_a h.own.rd hx ha).2.1, ?_⟩
   refine (h.call (step_spec g2 hb2 t2 (hq.le l0) (ht.le l0) b)).mono ?_
   rintro _ F34 ⟨G34, ⟨⟨t', rfl, ht'⟩, lx⟩, h, kp⟩
   obtain ⟨z11, c11⟩ := kp _ _ z11 c11
   replace c61 := lx _ _ c61
   replace hs' := hs'.le lx
   replace l0 := le_trans' l0 lx
   clear lx kp
   refine ⟨_, rfl, bts_rdo (rd61 hk (h.le _ _ c61)), (prs_a h.own.rd hx ha).2.2, rfl, rfl, ?_⟩
   refine stW c11 rfl rfl (st_five st_bool st_sl st_bool st_sl st_str) ?_
   exact hfin _ _ b11 s' t' l0 (h.over z11 nb _) z11 (set_eq _ _ _) hs' ht'
end
end Go.Proofs.YtnjcgpihfmklfaaDoor
