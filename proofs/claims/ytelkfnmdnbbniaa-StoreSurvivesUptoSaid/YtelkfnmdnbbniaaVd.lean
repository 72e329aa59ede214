/-
  The store: the keys of a map, collected by a range over maps.Keys and sorted.
-/
import Derived.Test.YtelkfnmdnbbniaaShp
import Derived.RangeFuncBox
import Derived.RangeFuncLeaves
import Derived.Shelf.Abstract
import Derived.WalkKit
import Derived.OwnWalkIn
import Derived.TacticsInMore
import Derived.LoopNIn
import Derived.LoopIn
import Derived.Maps.AppendAt
import Derived.Sort.OwnSorted
import Derived.Test.YtelkfnmdnbbniaaProg
namespace Go.Proofs
open Go.RowKit Go.Maps Go.Sort Go.Shelf
attribute [local go_sem] Oper.semAt_some
theorem Try.info9 : (Try.prog.info? 9).map (fun i => (i.zero, i.size, i.bytes)) = some (some (.string ⟨#[]⟩), 1, 16) := by kernel_rfl
theorem Try.strKeys_len {H : Type} (D : DataW H) : (strKeys D).length = Maps.size D := by
 cases D <;> simp [strKeys, Maps.size]
set_option maxRecDepth 100000 in
set_option maxHeartbeats 4000000 in
theorem Try.keys_calls {H : Type} (s b nn : Nat) (D0 : DataW H) (R : Value → Option (DataW H × List MemPlace)) (w : World) (hs : w.cell? ⟨s, 5, none⟩ = some (.map (some b))) (hown : w.ownsMap Try.prog 9 R b nn D0) (hmax : Maps.size D0 ≤ 1000000) :
  Calls Try.prog 31 #[.pointer (some ⟨s, 0, none⟩)] w fun e w' => ∃ (v : Value) (ss : List (List UInt8)), e = .returned v ∧ ss.Perm (strKeys D0) ∧
   w'.ownsRow w.heap.size 9 1 v ss.length ((ss.mergeSort leB).map encStr) ∧ Below w.heap.size w w' := by
 refine (callsIn_wide (n := 6)).1 ?_
 have hbl := hown.lt
 obtain ⟨i0, hi, hz0, hz1, hz2⟩ := info_parts Try.info9
 have cK : ∀ mb W, CallsIn Fence.wide 5 Try.prog 59 #[.map mb] W fun e w' => e = .returned (.func (.func 71) #[] #[.pointer (some ⟨W.heap.size, 0, none⟩)]) ∧ w' = W.alloc (.cells #[.map mb] 82) := fun mb W => AnyZ.keys_in Try.keysA Fence.wide 5 trivial rfl mb W
 have hf59 : Fence.wide.fn 59 := trivial
 have hf60 : Fence.wide.fn 60 := trivial
 refine callsIn_of_wp_marks Try.func31 rfl trivial ?_ rfl
 simp only [Try.ntmps31, List.size_toArray, List.length_cons, List.length_nil, Nat.reduceAdd, Nat.reduceSub, Array.replicate_succ, Array.replicate_zero, List.push_toArray, List.append_toArray, List.nil_append, List.cons_append]
 have hsb : s < w.heap.size := by
  unfold World.cell? at hs
  cases hh : w.heap[s]? with
  | none => rw [hh] at hs; cases hs
  | some o => exact (Array.getElem?_eq_some_iff.1 hh).1
 have hs1 : (w.alloc (.cells #[.slice none 0 0] 62)).cell? ⟨s, 5, none⟩ = some (.map (some b)) := (World.cell?_of_block (Below.heap_alloc _ _ _ hsb)).trans hs
 gi_wp2_with (gi_at_call 59; refine (cK _ _).mono ?_; rintro e w' ⟨rfl, rfl⟩)
 have bO := Boxed.new w 62 (.slice none 0 0)
 have bN := Boxed.new (w.alloc (.cells #[.slice none 0 0] 62)) 82 (.map (some b))
 rw [World.size_alloc] at bN
 have hB0 : Below w.heap.size w ((w.alloc (.cells #[.slice none 0 0] 62)).alloc (.cells #[.map (some b)] 82)) := ((Below.refl _ w).alloc (Nat.le_refl _) _).alloc (by simp) _
 have hown2 : ((w.alloc (.cells #[.slice none 0 0] 62)).alloc (.cells #[.map (some b)] 82)).ownsMap Try.prog 9 R b nn D0 := by
  obtain ⟨es, clock, hb, Ft, hss, hD⟩ := hown
  exact ⟨es, clock, (hB0.block b hbl).trans hb, Ft, hss, hD⟩
 refine wpIn_rangeFunc_ownG rfl (by omega) (gf := 71) (lb := #[.pointer (some ⟨w.heap.size + 1, 0, none⟩)]) rfl trivial (enters_of Try.func71 (by kernel_rfl) rfl)
  (encs := fun x : List UInt8 => #[encStr x]) (Kp := KeepsWalks) (S := fun ss => ss.Perm (strKeys D0) ∧ ∀ x, x ∈ ss ↔ has D0 (.string x) = true) (Sp := fun pre => pre.Nodup ∧ ∀ x ∈ pre, has D0 (.string x) = true) (N := Maps.size D0)
  (w0 := (w.alloc (.cells #[.slice none 0 0] 62)).alloc (.cells #[.map (some b)] 82))
  (AnyZ.keys_stops (ρ := Try.keysA_ren) { Try.keysA with } Fence.wide 5 trivial rfl (by omega) (w.heap.size + 1) b nn D0 _ (by simp) bN.cell hown2) walksK_t walksK_b (Below.refl _ _) (fun _ => rfl)
  (fun pre W => (∃ v, Boxed W w.heap.size 62 v ∧ W.ownsRow w.heap.size 9 1 v pre.length (pre.map encStr) ∧ True) ∧ Below w.heap.size w W)
  (fun _ _ _ => False)
  (OwnFrom.and (Own.from (holdsRow_own w.heap.size w.heap.size 62 9 1 (fun pre : List (List UInt8) => pre.length) (fun pre => pre.map encStr) (fun _ _ => True)) _) (ownFrom_below (Nat.le_refl _) (by simp; omega)))
  (fun _ _ _ _ _ hs _ _ => hs)
  ⟨⟨_, bO.alloc _, World.ownsRow_nil _ _ _ _, trivial⟩, hB0⟩
  (fun x => { tmps := #[.pointer (some ⟨s, 0, none⟩), undef, .slice none 0 0, .pointer (some ⟨w.heap.size, 0, none⟩), encStr x, .pointer (some ⟨s, 0, none⟩), .pointer (some ⟨s, 0, none⟩), .pointer (some ⟨s, 5, none⟩), .map (some b), .func (.func 71) #[] #[.pointer (some ⟨w.heap.size + 1, 0, none⟩)], encStr x, undef, undef, undef, undef, undef, undef, undef], defers := [] }) ?assign ?body ?done ?stop
 case assign =>
  intro l x W K hK
  gi_wp2
  exact hK
 case body =>
  rintro l pre x W ⟨⟨v, hv, hrow, _⟩, hB⟩ hlt
  have hc := hv.cell
  have hml : maxLen = 9223372036854775807 := by decide
  have hk1 : pre.length + 1 ≤ maxLen := by omega
  have hk3 : (pre.length + 1) * 16 ≤ 140737488355328 := by omega
  have hone : ∀ u ∈ [encStr x], u.oneCell' = true := by intro u hu; rw [List.mem_singleton] at hu; subst hu; rfl
  have hWs : w.heap.size ≤ (W.alloc (.cells #[encStr x] 9)).heap.size := by have := hB.size; simp; omega
  gi_wp2_with (gi_at_builtin; refine wpListIn_append_own _ rfl _ _ 62 rfl w.heap.size 9 i0 (.string ⟨#[]⟩) 1 16 Try.underlying62 hi hz0 hz1 hz2 rfl (by decide) _ _ _ rfl (hrow.alloc _) ⟨W.heap.size, 0, none⟩ 1 1 [encStr x] rfl rfl (cell_one_new _ _ _) hone hk1 hk3 hWs ?_; intro v' w1 hown' hgrow _; obtain ⟨g', cap', rfl⟩ := ownsRow_succ hown'; obtain ⟨hv1, hv2, hr2, hk2, hb2⟩ := hv.appended (by decide) hrow hB.size (Nat.le_refl _) hown' hgrow; have hc1 := hv1.cell; have hf1 := hv1.frozen)
  exact ⟨hk2.from _, hk2.walks, ⟨_, hv2, by simpa using hr2, trivial⟩, hB.trans hb2⟩
 case done =>
  rintro D ys W hD ⟨hS, _⟩ ⟨⟨v, hv, hrow, _⟩, hB⟩ hK
  have hc := hv.cell
  rcases hrow.2 with ⟨rfl, hz⟩ | ⟨gb, cap, cur, rfl, hbase, hgb, r1, r2, r3, r4⟩
  ·have hss : ys = [] := List.eq_nil_of_length_eq_zero hz
   subst hss
   have cS : CallsIn Fence.wide 5 Try.prog 60 #[.slice none 0 0] W fun e w' => e = .returned (.tuple #[]) ∧ w' = W := callsIn_wide.2 (AnyM.slices_Sort_string_none Try.sortA none 0 W)
   gi_wp2_with (gi_at_call 60; refine cS.mono ?_; rintro e w' ⟨rfl, rfl⟩)
   refine ⟨by simp, .inl ⟨_, _, rfl, run_takeDeferred hK, ?_⟩⟩
   exact ⟨_, results_tmp rfl _ _ _, .slice none 0 0, [], rfl, hS, by simpa using ownsRow_putObj hrow _ hK rfl, hB.trans (belowK_b (w := w) (Nat.le_refl _) _ D _ _ (by simp at hD; omega) hK rfl rfl)⟩
  ·have hH : Holds encStr W gb 0 ys.toArray := holds_of_block hgb (by simpa using r4)
   have hgl : gb < W.heap.size := (Array.getElem?_eq_some_iff.1 hgb).1
   have hsz : ys.length < 4611686018427387904 := by have := hS.length_eq; rw [Try.strKeys_len] at this; omega
   have cS : CallsIn Fence.wide 5 Try.prog 60 #[.slice (some ⟨gb, 0, none⟩) ys.length cap] W fun e w' => e = .returned (.tuple #[]) ∧ ∃ n os, w' = grow (putRow encStr (Sort.ahead W n) gb 0 (ys.mergeSort fun x y => decide (x ≤ y)).toArray) os := callsIn_wide.2 (AnyM.slices_Sort_string Try.sortA gb 0 cap ys W hH hgl hsz)
   have hne : gb ≠ w.heap.size := fun e => by
    have h1 : W.heap[w.heap.size]? = some (.cells #[.slice (some ⟨gb, 0, none⟩) ys.length cap] 62 (0, 0)) := hv
    rw [← e, hgb] at h1
    injection h1 with h1
    injection h1 with _ h2
    cases h2
   gi_wp2_with (gi_at_call 60; refine cS.mono ?_; rintro e w' ⟨rfl, n2, os, rfl⟩; have hg := grownBy_sorted (w := W) (g := gb) (n := n2) (os := os) (ys.mergeSort fun x y => decide (x ≤ y)).toArray; have hv2 := hv.kept hg (by simpa using fun e => hne e.symm); have hc2 := hv2.cell)
   have hKO : KeepsOthers W (grow (putRow encStr (Sort.ahead W n2) gb 0 (ys.mergeSort fun x y => decide (x ≤ y)).toArray) os) := KeepsOthers.of_grownBy hg (fun j o ej hj => by cases ej; rw [hgb] at hj; cases hj; rfl)
   have hK' := hKO.same D _ hK rfl
   refine ⟨by simp, .inl ⟨_, _, rfl, run_takeDeferred hK', ?_⟩⟩
   exact ⟨_, results_tmp rfl _ _ _, _, ys, rfl, hS, ownsRow_putObj (ownsRow_sorted (by simp) hbase hgb r1 r2 r3) _ hK' rfl, (hB.grown hg hB.size (fun j hj => by cases hj; exact hbase)).trans (belowK_b (w := w) (Nat.le_refl _) _ D _ _ (by simp at hD; omega) hK' rfl rfl)⟩
 case stop =>
  rintro D c pre W _ _ h _
  exact h.elim
end Go.Proofs
