/-
  PatternCommon.
-/
import Derived.Test.YtnjcgpihfmklfaaDoorSj
import Derived.Test.YtnjcgpihfmklfaaDoorSh
import Derived.Test.YtnjcgpihfmklfaaDoorGL10
namespace Go.Proofs.YtnjcgpihfmklfaaDoor
open Go Go.Proofs.Tryd
set_option maxRecDepth 10000

theorem less_cons (a b : UInt8) (x y : List UInt8) : Op.bytesLess (a :: x) (b :: y) = (decide (a.toNat < b.toNat) || (decide (a.toNat = b.toNat) && Op.bytesLess x y)) := by
  show (decide (a < b) || (a == b && Op.bytesLess x y)) = _
  congr 1
  have : (a == b) = decide (a.toNat = b.toNat) := by
    rw [Bool.eq_iff_iff, beq_iff_eq, decide_eq_true_eq, UInt8.toNat_inj]
  rw [this]
/-- A word that is not after u in the order of words is not less than u. -/
theorem less_LL : ∀ (x y : List UInt8), LL (y.map UInt8.toNat) (x.map UInt8.toNat) → Op.bytesLess x y = false
  | x, [], _ => by cases x <;> rfl
  | [], b :: y, h => by
    rcases h with ⟨r, h⟩ | ⟨p, a, c, r, s, _, h, _⟩
    · simp at h
    · simp at h
  | a :: x, b :: y, h => by
    rw [less_cons]
    rcases h with ⟨r, h⟩ | ⟨p, c, d, r, s, h1, h2, hcd⟩
    · simp only [List.map_cons, List.cons_append, List.cons.injEq] at h
      rw [less_LL x y (.inl ⟨r, h.2⟩), h.1]
      simp
    · cases p with
      | nil =>
        simp only [List.map_cons, List.nil_append, List.cons.injEq] at h1 h2
        have e1 : decide (a.toNat < b.toNat) = false := by simp; omega
        have e2 : decide (a.toNat = b.toNat) = false := by simp; omega
        rw [e1, e2]
        rfl
      | cons e p =>
        simp only [List.map_cons, List.cons_append, List.cons.injEq] at h1 h2
        rw [less_LL x y (.inr ⟨p, c, d, r, s, h1.2, h2.2, hcd⟩)]
        have e1 : decide (a.toNat < b.toNat) = false := by simp; omega
        rw [e1]
        simp
theorem less_bs {s u : ByteArray} (h : LL (bs u) (bs s)) : Op.bytesLess s.toList u.toList = false := less_LL _ _ (by rw [toList_bs, toList_bs]; exact h)
/-- What Common says of two valid patterns: a string and an error. -/
def ComS (l1 l2 : List Nd) (s : ByteArray) (e : Int) : Prop := ((∀ w, ¬ ComW l1 l2 w) ∧ bs s = [] ∧ e = 3) ∨ (LeastC (ComW l1 l2) (bs s) ∧ e = 0 ∧ s.size ≤ 262145)
theorem ComR.val {l1 l2 : List Nd} {r : Value} (h : ComR l1 l2 r) (h1 : chkP l1 = 0) (h2 : chkP l2 = 0) : ∃ s e, r = .tuple #[.string s, vi e] ∧ ComS l1 l2 s e := by
  rcases h with ⟨h, _⟩ | ⟨_, h, _⟩ | ⟨_, _, ⟨h, rfl⟩ | ⟨w, hw, hb, rfl⟩⟩
  · exact absurd h1 h
  · exact absurd h2 h
  · exact ⟨_, _, rfl, .inl ⟨h, rfl, rfl⟩⟩
  · exact ⟨_, _, rfl, .inr ⟨by rw [bs_mkS hb.1]; exact hw, rfl, by rw [← bs_length, bs_mkS hb.1]; exact hb.2⟩⟩
theorem ComS.uniq {l1 l2 : List Nd} {s t : ByteArray} {e f : Int} (h : ComS l1 l2 s e) (k : ComS l1 l2 t f) : s = t ∧ e = f := by
  rcases h with ⟨h1, h2, rfl⟩ | ⟨h1, rfl, _⟩
  · rcases k with ⟨k1, k2, rfl⟩ | ⟨k1, rfl, _⟩
    · exact ⟨bs_inj (h2.trans k2.symm), rfl⟩
    · exact absurd k1.is (h1 _)
  · rcases k with ⟨k1, k2, rfl⟩ | ⟨k1, rfl, _⟩
    · exact absurd h1.is (k1 _)
    · exact ⟨bs_inj (h1.uniq k1), rfl⟩
theorem ComS.swap {l1 l2 : List Nd} {s : ByteArray} {e : Int} (h : ComS l1 l2 s e) : ComS l2 l1 s e := by
  have hs : ComW l1 l2 = ComW l2 l1 := by
    funext w
    exact propext ⟨fun ⟨a, b, c⟩ => ⟨a, c, b⟩, fun ⟨a, b, c⟩ => ⟨a, c, b⟩⟩
  unfold ComS at h ⊢
  rw [← hs]
  exact h
theorem ComS.self {l1 l2 : List Nd} {s t : ByteArray} {f : Int} (h : LeastC (ComW l1 l2) (bs s)) (k : ComS l1 l1 t f) : f = 0 ∧ t.size ≤ s.size ∧ (t.size = s.size → Op.bytesLess s.toList t.toList = false) := by
  have hw : ComW l1 l1 (bs s) := ⟨h.is.1, h.is.2.1, h.is.2.1⟩
  rcases k with ⟨k1, _⟩ | ⟨k1, rfl, _⟩
  · exact absurd hw (k1 _)
  · refine ⟨rfl, ?_, fun e => less_bs (k1.lex _ hw ?_)⟩
    · have := k1.short _ hw
      rwa [bs_length, bs_length] at this
    · rw [bs_length, bs_length, e]
section
variable {F : PH}
theorem law10_j1 {F0 : PH} (hT : Tab F) (l0 : F0.le F) {s1 s2 : Sl} {l1 l2 : List Nd} (r1 : RdS F s1 5 (nflat l1)) (r2 : RdS F s2 5 (nflat l2)) (c1 : chkP l1 = 0) (c2 : chkP l2 = 0) {w : ByteArray} (hw : LeastC (ComW l1 l2) (bs w)) (hsz : w.size ≤ 1000000000) :
    b10j1 true s1 s2 w 0 0 true (fun r F' => r = .bool true ∧ F0.le F') F := by
  unfold b10j1
  have hne : (!(w.toList == (ByteArray.mk #[]).toList)) = true := by
    rw [beq_bs, Bool.not_eq_true', decide_eq_false_iff_not]
    exact hw.is.1
  refine ⟨fun _ => ⟨fun _ => ⟨fun _ => ?_, fun h => by rw [hne] at h; cases h⟩, fun h => absurd rfl h⟩, fun h => absurd rfl h⟩
  refine (matches_spec hT r1 w hsz).mono ?_
  rintro _ F1 ⟨⟨q, rfl, hq⟩, l1'⟩
  obtain rfl : q = true := hq.2 ⟨c1, hw.is.2.1⟩
  refine ⟨true, rfl, fun _ => ?_, fun h => (by cases h)⟩
  refine (matches_spec (hT.le l1') (r2.le l1') w hsz).mono ?_
  rintro _ F2 ⟨⟨q, rfl, hq⟩, l2'⟩
  obtain rfl : q = true := hq.2 ⟨c2, hw.is.2.2⟩
  exact ⟨true, rfl, fun _ => ⟨fun _ => ⟨rfl, le_trans' l0 (le_trans' l1' l2')⟩, fun h => (by cases h)⟩, fun h => (by cases h)⟩
theorem law10_spec (hT : Tab F) {sl1 sl2 : Sl} {zs1 zs2 : List Int} (h1 : RdS F sl1 1 (zs1.map (Value.int .u8))) (h2 : RdS F sl2 1 (zs2.map (Value.int .u8))) (hz1 : ∀ z ∈ zs1, 0 ≤ z ∧ z ≤ 255) (hz2 : ∀ z ∈ zs2, 0 ≤ z ∧ z ≤ 255) (hn1 : zs1.length ≤ 9000000000000000) (hn2 : zs2.length ≤ 9000000000000000) :
    Spec prog 10 #[sl1.v, sl2.v] F fun r F' => r = .bool true ∧ F.le F' := by
  refine c10 ?_
  unfold b10
  refine (sanity_spec hT).mono ?_
  rintro _ F1 ⟨rfl, l1⟩
  refine ⟨true, rfl, ?_⟩
  refine (made_spec (by decide) (h1.le l1) hz1 hn1).mono ?_
  rintro _ F2 ⟨hm, l2⟩
  obtain ⟨s1, t1, rfl, b1, z1, r1, c1⟩ := hm.rd
  replace l2 := le_trans' l1 l2
  refine ⟨s1, rfl, ?_⟩
  refine (made_spec (by decide) (h2.le l2) hz2 hn2).mono ?_
  rintro _ F3 ⟨hm, l3⟩
  obtain ⟨s2, t2, rfl, b2, z2, r2, c2⟩ := hm.rd
  replace r1 := r1.le l3
  replace l3 := le_trans' l2 l3
  refine ⟨s2, rfl, ?_⟩
  refine (common_spec (hT.le l3) r1 r2).mono ?_
  rintro _ F4 ⟨hr, l4⟩
  obtain ⟨w, e, rfl, hw⟩ := hr.val c1 c2
  replace r1 := r1.le l4
  replace r2 := r2.le l4
  replace l4 := le_trans' l3 l4
  refine ⟨w, e, rfl, ?_⟩
  refine (common_spec (hT.le l4) r2 r1).mono ?_
  rintro _ F5 ⟨hr, l5⟩
  obtain ⟨w', e', rfl, hw'⟩ := hr.val c2 c1
  obtain ⟨rfl, rfl⟩ := hw.uniq hw'.swap
  replace r1 := r1.le l5
  replace r2 := r2.le l5
  replace l5 := le_trans' l4 l5
  refine ⟨w, e, rfl, ?_⟩
  refine (common_spec (hT.le l5) r1 r1).mono ?_
  rintro _ F6 ⟨hr, l6⟩
  obtain ⟨u, f, rfl, hu⟩ := hr.val c1 c1
  replace r1 := r1.le l6
  replace r2 := r2.le l6
  replace l6 := le_trans' l5 l6
  refine ⟨u, f, rfl, ?_⟩
  refine (shortest_spec (hT.le l6) r1).mono ?_
  rintro _ F7 ⟨hr, l7⟩
  obtain ⟨u', f', rfl, hu'⟩ := hr.val c1 c1
  obtain ⟨rfl, rfl⟩ := hu.uniq hu'
  replace r1 := r1.le l7
  replace r2 := r2.le l7
  replace l7 := le_trans' l6 l7
  refine ⟨u, f, rfl, ?_⟩
  refine (shortest_spec (hT.le l7) r2).mono ?_
  rintro _ F8 ⟨hr, l8⟩
  obtain ⟨v, g, rfl, hv⟩ := hr.val c2 c2
  replace r1 := r1.le l8
  replace r2 := r2.le l8
  replace l8 := le_trans' l7 l8
  refine ⟨v, g, rfl, ?_⟩
  have b1 : ∀ x : ByteArray, (x.toList == x.toList) = true := fun x => beq_self_eq_true _
  rw [b1, b1]
  refine ⟨fun h => (by cases h), fun _ => ⟨fun h => absurd rfl h, fun _ => ⟨fun h => (by cases h), fun _ => ⟨fun h => absurd rfl h, fun _ => ⟨fun he => ?_, fun he => ?_⟩⟩⟩⟩⟩
  · rcases hw with ⟨_, hb, rfl⟩ | ⟨_, rfl, _⟩
    · refine ⟨fun _ => ⟨fun _ => ⟨rfl, l8⟩, fun h => ?_⟩, fun h => absurd rfl h⟩
      rw [beq_bs, hb] at h
      simp [bs] at h
    · exact absurd rfl he
  · rcases hw with ⟨_, _, rfl⟩ | ⟨hw, rfl, hsz⟩
    · exact absurd (show (3 : Int) ≠ 0 by decide) he
    · obtain ⟨rfl, a1, a2⟩ := ComS.self hw hu
      have hw2 : LeastC (ComW (t2.nodes 0) (t1.nodes 0)) (bs w) := by
        rcases (ComS.swap (.inr ⟨hw, rfl, hsz⟩ : ComS (t1.nodes 0) (t2.nodes 0) w 0)) with ⟨_, _, h⟩ | ⟨h, _⟩
        · cases h
        · exact h
      obtain ⟨rfl, a3, a4⟩ := ComS.self hw2 hv
      have j1 := law10_j1 (hT.le l8) l8 r1 r2 c1 c2 hw (by omega)
      have ng : ∀ {b : Bool}, b = false → (!b) = true := fun h => by rw [h]; rfl
      refine ⟨fun _ => ⟨fun _ => ⟨fun h1 => ⟨fun h2 => j1, fun h2 => ?_⟩, fun h1 => ⟨fun _ => ⟨fun h2 => j1, fun h2 => ?_⟩, fun h => ?_⟩⟩, fun h => absurd (by omega) h⟩, fun h => absurd (by omega) h⟩
      · rw [ng (a4 (by omega))]
        exact j1
      · rw [ng (a4 (by omega))]
        exact j1
      · rw [ng (a2 (by omega))] at h
        cases h
end
end Go.Proofs.YtnjcgpihfmklfaaDoor
