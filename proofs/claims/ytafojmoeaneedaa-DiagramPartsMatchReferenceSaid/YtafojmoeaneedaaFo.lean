/-
  The library's sort and compaction of a row of numbers: the kit's contracts, over a part of the heap.
-/
import Derived.Test.YtafojmoeaneedaaPhn
import Derived.Test.YtafojmoeaneedaaProg
import Derived.Shelf.Small.Bits
import Derived.Shelf.Sort.Plain
import Derived.Shelf.Slices.CompactI
import Derived.Shelf.Lay
import Derived.Ground.NamesProg
import Derived.Ground.Names2Prog
import Derived.WalkKit
import Derived.BigGuard
import Derived.BigCall
namespace Go.Proofs
open Go.RowKit Go.Shelf
shelf_lay Lays.n189 Nm 189 at Try as Try.lays189
shelf_lay Lays2.n20 Nm2 20 at Try as Try.lays2_20
shelf_lay Lays.n125 Nm 125 at Try as Try.lays125
end Go.Proofs
namespace Go.Proofs.Ytafojmoeaneedaa
open Go Go.RowKit Go.Shelf

/-! no element -/
theorem insertion_nil (p : Option Addr) (cap : Nat) (w : World) :
    Calls Try.prog 111 #[.slice p 0 cap, .int .i64 0, .int .i64 0] w fun e w' => e = .returned (.tuple #[]) ∧ w' = w := by
  go_enter Try.func111, Try.ntmps111
  go_wp2
  refine wp_loop_rounds 1 ?_
  rw [rounds_succ]
  go_wp2
  go_end0
  exact ⟨rfl, rfl⟩
set_option maxRecDepth 100000 in
theorem pdqsort_nil (p : Option Addr) (cap : Nat) (w : World) :
    Calls Try.prog 106 #[.slice p 0 cap, .int .i64 0, .int .i64 0, .int .i64 0] w fun e w' => e = .returned (.tuple #[]) ∧ w' = w := by
  go_enter Try.func106, Try.ntmps106
  go_wp2
  refine wp_loop_rounds 1 ?_
  rw [rounds_succ]
  go_wp2_with (first | (go_at_call 111; refine (insertion_nil p cap _).mono ?_; rintro e w' ⟨rfl, rfl⟩))
  refine bodyPost_ret (results_none rfl _ _ _) rfl ?_
  exact ⟨rfl, rfl⟩
set_option maxRecDepth 100000 in
theorem sort_nil (p : Option Addr) (cap : Nat) (w : World) :
    Calls Try.prog 91 #[.slice p 0 cap] w fun e w' => e = .returned (.tuple #[]) ∧ w' = w := by
  have hLen : ∀ w, Calls Try.prog 107 #[.int .u64 0] w fun e w' => e = .returned (.int .i64 0) ∧ w' = w := fun w => by
    have h := Any.bits_Len Try.lays125 0 w (by omega) (by omega)
    exact h
  go_enter Try.func91, Try.ntmps91
  go_wp2_with (first
    | (go_at_call 107; refine (hLen _).mono ?_; rintro e w' ⟨rfl, rfl⟩)
    | (go_at_call 106; refine (pdqsort_nil p cap _).mono ?_; rintro e w' ⟨rfl, rfl⟩))
  go_end0
  exact ⟨rfl, rfl⟩

abbrev vI : Int → Value := Value.int .i64
theorem putCells_take (d : Array Int) (c : Array Value) (h : d.size ≤ c.size) : (Sort.putCells vI 0 d c).toList.take d.size = d.toList.map vI := by
  apply List.ext_getElem?
  intro i
  by_cases hi : i < d.size
  · rw [List.getElem?_take_of_lt hi]
    simp only [Array.getElem?_toList, Sort.putCells, Array.getElem?_mapIdx, List.getElem?_map]
    rw [Array.getElem?_eq_getElem (by omega : i < c.size), Array.getElem?_eq_getElem hi]
    simp [hi, getElem!_pos]
  · rw [List.getElem?_eq_none (by simp; omega), List.getElem?_eq_none (by simp; omega)]
theorem sat_putRow {e : Ev} {w : World} {F : PH} {b n : Nat} {cur : Array Value} {t : TypeId} {d : Array Int} {os : Array Obj} (h : Sat e w F) (hb : F b = some (.cells cur t (0, 0))) :
    Sat e (Sort.grow (Sort.putRow vI (Sort.ahead w n) b 0 d) os) (F.set b (.cells (Sort.putCells vI 0 d cur) t)) := by
  have hw := h.heap _ _ hb
  have hk : ∀ x o, x ≠ b → w.heap[x]? = some o → (Sort.grow (Sort.putRow vI (Sort.ahead w n) b 0 d) os).heap[x]? = some o := fun x o hx ho => by
    have hlt : x < w.heap.size := (Array.getElem?_eq_some_iff.1 ho).1
    simp only [Sort.grow, Sort.putRow, Sort.mapBlock, Sort.ahead]
    rw [Array.getElem?_append_left (by simpa using hlt), Array.getElem?_modify, if_neg (Ne.symm hx)]
    exact ho
  refine ⟨h.os, h.tape, h.output, fun x o hx => ?_, fun x o hx => ?_⟩
  · by_cases hxb : x = b
    · subst hxb
      rw [set_eq] at hx
      obtain rfl := Option.some.inj hx
      have hlt : x < w.heap.size := (Array.getElem?_eq_some_iff.1 hw).1
      simp only [Sort.grow, Sort.putRow, Sort.mapBlock, Sort.ahead]
      rw [Array.getElem?_append_left (by simpa using hlt), Array.getElem?_modify, if_pos rfl, hw]
      rfl
    · rw [set_ne _ _ hxb] at hx
      exact hk x o hxb (h.heap _ _ hx)
  · obtain ⟨f1, f2⟩ := h.frame x o hx
    have hxb : x ≠ b := fun e => by rw [e, hb] at f1; cases f1
    exact ⟨by rw [set_ne _ _ hxb]; exact f1, hk x o hxb f2⟩
theorem holds_own {e : Ev} {w : World} {F : PH} {b : Nat} {cur : Array Value} {t : TypeId} {zs : List Int} (h : Sat e w F) (hb : F b = some (.cells cur t (0, 0))) (hz : cur.toList.take zs.length = zs.map vI) :
    Sort.Holds vI w b 0 zs.toArray := by
  intro j hj
  have hw := h.heap _ _ hb
  have hj' : j < zs.length := by simpa using hj
  have hc : cur[j]? = some (vI zs[j]) := by
    have := congrArg (fun l => l[j]?) hz
    simp only [List.getElem?_take_of_lt hj', Array.getElem?_toList, List.getElem?_map, List.getElem?_eq_getElem hj', Option.map_some] at this
    exact this
  constructor
  · simp only [World.cell?, hw, Nat.zero_add]
    rw [hc]
    simp [hj', getElem!_pos]
  · simp [World.frozen?, hw]

section
variable {F : PH} {s : Sl} {zs : List Int}
abbrev sortI (zs : List Int) : List Int := zs.mergeSort fun x y => decide (x ≤ y)
/-- slices.Sort. -/
theorem sort_spec (ho : OwnS F 3 1 s (zs.map vI)) (hl : zs.length < 4611686018427387904) :
    Spec Try.prog 91 #[s.v] F fun r F' => r = .tuple #[] ∧ OwnS F' 3 1 s ((sortI zs).map vI) ∧ ∀ x o, (∀ a, s.base = some a → a.block ≠ x) → F x = some o → F' x = some o := by
  rcases ho with ⟨rfl, hz⟩ | ⟨b, cur, h1, h2, h3, h4, h5, h6⟩
  · obtain rfl : zs = [] := by simpa using hz
    intro e w hs
    refine (sort_nil none 0 w).mono ?_
    rintro en w' ⟨rfl, rfl⟩
    exact ⟨_, F, rfl, hs, rfl, .inl ⟨rfl, by simp [sortI]⟩, fun x o _ h => h⟩
  · obtain ⟨base, len, cap⟩ := s
    simp only at h1 h3 h4 h5 h6
    subst h1
    have hlen : zs.length = len := by simpa using h5
    subst hlen
    intro e w hs
    have hh := holds_own (zs := zs) hs h2 (by simpa using h6)
    have hlt : b < w.heap.size := (Array.getElem?_eq_some_iff.1 (hs.heap _ _ h2)).1
    refine (Any.slices_Sort_int Try.lays189 b 0 cap zs w hh hlt hl).mono ?_
    rintro en w' ⟨rfl, n, os, rfl⟩
    have hsl : (sortI zs).length = zs.length := List.length_mergeSort zs
    refine ⟨_, _, rfl, sat_putRow (d := (sortI zs).toArray) hs h2, rfl, .inr ⟨b, _, rfl, set_eq _ _ _, by simp [Sort.putCells, h3], h4, by simp [hsl], ?_⟩, fun x o hx hq => ?_⟩
    · have := putCells_take (sortI zs).toArray cur (by simp [hsl, h3]; omega)
      simp only [List.size_toArray, hsl, Nat.mul_one] at this ⊢
      exact this
    · rw [set_ne _ _ (fun e => hx _ rfl e.symm)]
      exact hq
/-- slices.Compact. -/
theorem compact_spec (ho : OwnS F 3 1 s (zs.map vI)) (hl : zs.length ≤ 9223372036854775807) :
    Spec Try.prog 92 #[s.v] F fun r F' => ∃ s', r = Sl.v s' ∧ RdS F' s' 1 ((Lib.compact zs).map vI) ∧ ∀ x o, (∀ a, s.base = some a → a.block ≠ x) → F x = some o → F' x = some o := by
  rcases ho with ⟨rfl, hz⟩ | ⟨b, cur, h1, h2, h3, h4, h5, h6⟩
  · obtain rfl : zs = [] := by simpa using hz
    intro e w hs
    refine (Any.slices_Compact_int_empty Try.lays2_20 none 0 w).mono ?_
    rintro en w' ⟨rfl, rfl⟩
    exact ⟨_, F, rfl, hs, Sl.nil, rfl, RdS.nil F 1, fun x o _ h => h⟩
  · obtain ⟨base, len, cap⟩ := s
    simp only at h1 h3 h4 h5 h6
    subst h1
    have hlen : zs.length = len := by simpa using h5
    subst hlen
    intro e w hs
    have hh := holds_own (zs := zs) hs h2 (by simpa using h6)
    refine (Any.slices_Compact_int Try.lays2_20 b 0 cap zs w hh hl h4).mono ?_
    rintro en w' ⟨rfl, q, rfl⟩
    have hcl : (Lib.compact zs).length ≤ zs.length := by
      unfold Lib.compact Lib.compactUpTo
      rw [List.length_map]
      exact Nat.le_trans (List.length_filter_le _ _) (by simp)
    have hgr : ∀ w : World, Sort.grow w #[] = w := fun w => by simp [Sort.grow]
    have hsat := sat_putRow (n := q) (os := #[]) (d := (Lib.compact zs ++ List.replicate (zs.length - (Lib.compact zs).length) 0).toArray) hs h2
    rw [hgr] at hsat
    refine ⟨_, _, rfl, hsat, ⟨some ⟨b, 0, none⟩, (Lib.compact zs).length, cap⟩, rfl, RdS.new (set_eq _ _ _) ?_ (by simp) (by omega), fun x o hx hq => ?_⟩
    · have := putCells_take (Lib.compact zs ++ List.replicate (zs.length - (Lib.compact zs).length) 0).toArray cur (by simp [h3]; omega)
      have e : ((Lib.compact zs ++ List.replicate (zs.length - (Lib.compact zs).length) 0).toArray : Array Int).size = zs.length := by simp; omega
      rw [e] at this
      have tt : ∀ l : List Value, l.take (Lib.compact zs).length = (l.take zs.length).take (Lib.compact zs).length := fun l => by rw [List.take_take, Nat.min_eq_left hcl]
      rw [Nat.mul_one, tt, this]
      simp
    · rw [set_ne _ _ (fun e => hx _ rfl e.symm)]
      exact hq
end
end Go.Proofs.Ytafojmoeaneedaa
