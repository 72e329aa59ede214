/-
  Reduced ordered decision trees, plain: what they decide, that they are determined by it, and the lists of branches that hold them.
-/
import Derived.Orders
namespace Go.Proofs.Ytafojmoeaneedaa

inductive Tr where
  | leaf (b : Bool)
  | node (v : Nat) (l h : Tr)
deriving DecidableEq

/-- A configuration as a function of the conditions. -/
abbrev Cf := Nat → Bool
def Cf.set (c : Cf) (v : Nat) (b : Bool) : Cf := fun i => if i = v then b else c i

namespace Tr
def top : Tr → Nat
  | leaf _ => 64
  | node v _ _ => v
def ev : Tr → Cf → Bool
  | leaf b, _ => b
  | node v l h, c => if c v = true then h.ev c else l.ev c
def ok : Tr → Prop
  | leaf _ => True
  | node v l h => v < 64 ∧ v < l.top ∧ v < h.top ∧ l ≠ h ∧ l.ok ∧ h.ok
def sz : Tr → Nat
  | leaf _ => 1
  | node _ l h => l.sz + h.sz + 1
def mk (v : Nat) (l h : Tr) : Tr := if l = h then l else node v l h
def lo (v : Nat) : Tr → Tr
  | leaf b => leaf b
  | node w l h => if w = v then l else node w l h
def hi (v : Nat) : Tr → Tr
  | leaf b => leaf b
  | node w l h => if w = v then h else node w l h
def isL : Tr → Bool
  | leaf _ => true
  | node _ _ _ => false

theorem top_le : ∀ (t : Tr), t.ok → t.top ≤ 64
  | leaf _, _ => Nat.le_refl _
  | node _ _ _, h => Nat.le_of_lt h.1
theorem top_lt {t : Tr} (h : t.ok) (hl : t.isL = false) : t.top < 64 := by
  cases t with
  | leaf b => cases hl
  | node v l r => exact h.1
theorem sz_pos : ∀ (t : Tr), 0 < t.sz
  | leaf _ => Nat.one_pos
  | node _ _ _ => Nat.succ_pos _

theorem ev_congr : ∀ (t : Tr), t.ok → ∀ (c d : Cf), (∀ i, t.top ≤ i → c i = d i) → t.ev c = t.ev d
  | leaf _, _, _, _, _ => rfl
  | node v l h, ⟨_, h1, h2, _, h4, h5⟩, c, d, hc => by
    simp only [ev]
    rw [hc v (Nat.le_refl _), ev_congr l h4 c d (fun i hi => hc i (by simp only [top]; omega)), ev_congr h h5 c d (fun i hi => hc i (by simp only [top]; omega))]

theorem ev_set {t : Tr} (h : t.ok) {v : Nat} (hv : v < t.top) (c : Cf) (b : Bool) : t.ev (c.set v b) = t.ev c :=
  ev_congr t h _ _ fun i hi => by
    unfold Cf.set
    rw [if_neg (by omega)]

theorem canon : ∀ (n : Nat) (a b : Tr), a.sz + b.sz ≤ n → a.ok → b.ok → (∀ c, a.ev c = b.ev c) → a = b := by
  intro n
  induction n with
  | zero => intro a b hn; have := sz_pos a; omega
  | succ n ih =>
    have key : ∀ (v : Nat) (l h b : Tr), (node v l h).sz + b.sz ≤ n + 1 → (node v l h).ok → b.ok → v < b.top → (∀ c, (node v l h).ev c = b.ev c) → False := by
      rintro v l h b hn ⟨h0, h1, h2, h3, h4, h5⟩ hb hv he
      have hp := sz_pos b
      simp only [sz] at hn
      refine h3 (ih l h (by omega) h4 h5 fun c => ?_)
      have e1 := he (c.set v false)
      have e2 := he (c.set v true)
      rw [ev_set hb hv] at e1 e2
      have f1 : (node v l h).ev (c.set v false) = l.ev c := by simp only [ev]; rw [if_neg (by simp [Cf.set]), ev_set h4 h1]
      have f2 : (node v l h).ev (c.set v true) = h.ev c := by simp only [ev]; rw [if_pos (by simp [Cf.set]), ev_set h5 h2]
      rw [← f1, ← f2, e1, e2]
    intro a b hn ha hb he
    cases a with
    | leaf x =>
      cases b with
      | leaf y => exact congrArg leaf (he (fun _ => false))
      | node v l h => exact (key v l h (leaf x) (by omega) hb trivial hb.1 (fun c => (he c).symm)).elim
    | node v l h =>
      by_cases h1 : v < b.top
      · exact (key v l h b hn ha hb h1 he).elim
      cases b with
      | leaf y => exact (h1 ha.1).elim
      | node w l' h' =>
        simp only [top] at h1
        by_cases h2 : w < v
        · exact (key w l' h' (node v l h) (by omega) hb ha h2 (fun c => (he c).symm)).elim
        obtain rfl : v = w := by omega
        obtain ⟨h0, a1, a2, a3, a4, a5⟩ := ha
        obtain ⟨_, b1, b2, b3, b4, b5⟩ := hb
        simp only [sz] at hn
        have e1 : l = l' := ih l l' (by omega) a4 b4 fun c => by
          have := he (c.set v false)
          simp only [ev] at this
          rw [if_neg (by simp [Cf.set]), if_neg (by simp [Cf.set]), ev_set a4 a1, ev_set b4 b1] at this
          exact this
        have e2 : h = h' := ih h h' (by omega) a5 b5 fun c => by
          have := he (c.set v true)
          simp only [ev] at this
          rw [if_pos (by simp [Cf.set]), if_pos (by simp [Cf.set]), ev_set a5 a2, ev_set b5 b2] at this
          exact this
        rw [e1, e2]

theorem eq_of_ev {a b : Tr} (ha : a.ok) (hb : b.ok) (he : ∀ c, a.ev c = b.ev c) : a = b := canon _ a b (Nat.le_refl _) ha hb he

theorem ok_mk {v : Nat} {l h : Tr} (hv : v < 64) (h1 : v < l.top) (h2 : v < h.top) (h3 : l.ok) (h4 : h.ok) : (mk v l h).ok := by
  unfold mk
  split
  · exact h3
  · rename_i hn
    exact ⟨hv, h1, h2, hn, h3, h4⟩
theorem top_mk {v : Nat} {l h : Tr} (h1 : v < l.top) : v ≤ (mk v l h).top := by
  unfold mk
  split
  · omega
  · exact Nat.le_refl _
theorem ev_mk (v : Nat) (l h : Tr) (c : Cf) : (mk v l h).ev c = if c v = true then h.ev c else l.ev c := by
  unfold mk
  split
  · rename_i e
    subst e
    simp
  · rfl

theorem lo_facts {t : Tr} (h : t.ok) {v : Nat} (hv : v ≤ t.top) : (lo v t).ok ∧ (v < 64 → v < (lo v t).top) ∧ (lo v t).sz ≤ t.sz ∧ (t.top = v → t.isL = false → (lo v t).sz < t.sz) ∧
    ∀ c, c v = false → (lo v t).ev c = t.ev c := by
  cases t with
  | leaf b => exact ⟨trivial, fun h => h, Nat.le_refl _, fun _ h => (by cases h), fun _ _ => rfl⟩
  | node w l r =>
    obtain ⟨h0, h1, h2, h3, h4, h5⟩ := h
    simp only [lo]
    split
    · rename_i e
      subst e
      refine ⟨h4, fun _ => h1, by simp only [sz]; omega, fun _ _ => by simp only [sz]; omega, fun c hc => ?_⟩
      simp [ev, hc]
    · rename_i e
      refine ⟨⟨h0, h1, h2, h3, h4, h5⟩, fun _ => ?_, Nat.le_refl _, fun he => ?_, fun _ _ => rfl⟩
      · simp only [top] at hv ⊢; omega
      · simp only [top] at he; omega
theorem hi_facts {t : Tr} (h : t.ok) {v : Nat} (hv : v ≤ t.top) : (hi v t).ok ∧ (v < 64 → v < (hi v t).top) ∧ (hi v t).sz ≤ t.sz ∧ (t.top = v → t.isL = false → (hi v t).sz < t.sz) ∧
    ∀ c, c v = true → (hi v t).ev c = t.ev c := by
  cases t with
  | leaf b => exact ⟨trivial, fun h => h, Nat.le_refl _, fun _ h => (by cases h), fun _ _ => rfl⟩
  | node w l r =>
    obtain ⟨h0, h1, h2, h3, h4, h5⟩ := h
    simp only [hi]
    split
    · rename_i e
      subst e
      refine ⟨h5, fun _ => h2, by simp only [sz]; omega, fun _ _ => by simp only [sz]; omega, fun c hc => ?_⟩
      simp [ev, hc]
    · rename_i e
      refine ⟨⟨h0, h1, h2, h3, h4, h5⟩, fun _ => ?_, Nat.le_refl _, fun he => ?_, fun _ _ => rfl⟩
      · simp only [top] at hv ⊢; omega
      · simp only [top] at he; omega

abbrev Op3 := Bool → Bool → Bool → Bool
/-- The least condition of three trees. -/
def top3 (a b d : Tr) : Nat := min (min a.top b.top) d.top

theorem ex_ap (o : Op3) : ∀ (n : Nat) (a b d : Tr), a.sz + b.sz + d.sz ≤ n → a.ok → b.ok → d.ok →
    ∃ t : Tr, t.ok ∧ top3 a b d ≤ t.top ∧ ∀ c, t.ev c = o (a.ev c) (b.ev c) (d.ev c) := by
  intro n
  induction n with
  | zero => intro a b d hn; have := sz_pos a; omega
  | succ n ih =>
    intro a b d hn ha hb hd
    by_cases hv : top3 a b d < 64
    · have v1 : top3 a b d ≤ a.top := by unfold top3; omega
      have v2 : top3 a b d ≤ b.top := by unfold top3; omega
      have v3 : top3 a b d ≤ d.top := by unfold top3; omega
      have hcase : top3 a b d = a.top ∨ top3 a b d = b.top ∨ top3 a b d = d.top := by unfold top3; omega
      revert hcase
      revert v1 v2 v3 hv
      generalize top3 a b d = v
      intro hv v1 v2 v3 hcase
      have nl : ∀ {t : Tr}, v = t.top → t.isL = false := fun {t} e => by
        cases t with
        | leaf b => simp only [top] at e; omega
        | node _ _ _ => rfl
      obtain ⟨al1, al2, al3, al4, al5⟩ := lo_facts ha v1
      obtain ⟨bl1, bl2, bl3, bl4, bl5⟩ := lo_facts hb v2
      obtain ⟨dl1, dl2, dl3, dl4, dl5⟩ := lo_facts hd v3
      obtain ⟨ah1, ah2, ah3, ah4, ah5⟩ := hi_facts ha v1
      obtain ⟨bh1, bh2, bh3, bh4, bh5⟩ := hi_facts hb v2
      obtain ⟨dh1, dh2, dh3, dh4, dh5⟩ := hi_facts hd v3
      have hsl : (lo v a).sz + (lo v b).sz + (lo v d).sz ≤ n := by
        rcases hcase with e | e | e
        · have := al4 e.symm (nl e); omega
        · have := bl4 e.symm (nl e); omega
        · have := dl4 e.symm (nl e); omega
      have hsh : (hi v a).sz + (hi v b).sz + (hi v d).sz ≤ n := by
        rcases hcase with e | e | e
        · have := ah4 e.symm (nl e); omega
        · have := bh4 e.symm (nl e); omega
        · have := dh4 e.symm (nl e); omega
      obtain ⟨tl, l1, l2, l3⟩ := ih _ _ _ hsl al1 bl1 dl1
      obtain ⟨th, h1, h2, h3⟩ := ih _ _ _ hsh ah1 bh1 dh1
      have l2' : v < tl.top := by have := al2 hv; have := bl2 hv; have := dl2 hv; unfold top3 at l2; omega
      have h2' : v < th.top := by have := ah2 hv; have := bh2 hv; have := dh2 hv; unfold top3 at h2; omega
      refine ⟨mk v tl th, ok_mk hv l2' h2' l1 h1, top_mk l2', fun c => ?_⟩
      rw [ev_mk]
      split
      · rename_i hc
        rw [h3, ah5 c hc, bh5 c hc, dh5 c hc]
      · rename_i hc
        have hc : c v = false := by simpa using hc
        rw [l3, al5 c hc, bl5 c hc, dl5 c hc]
    · have isl : ∀ {t : Tr}, t.ok → 64 ≤ t.top → ∃ b, t = leaf b := fun {t} ht h64 => by
        cases t with
        | leaf b => exact ⟨b, rfl⟩
        | node _ _ _ => have := ht.1; simp only [top] at h64; omega
      unfold top3 at hv
      obtain ⟨x, rfl⟩ := isl ha (by omega)
      obtain ⟨y, rfl⟩ := isl hb (by omega)
      obtain ⟨z, rfl⟩ := isl hd (by omega)
      exact ⟨leaf (o x y z), trivial, by simp [top3, top], fun c => rfl⟩

/-- The tree that decides f, if one does. -/
noncomputable def can (f : Cf → Bool) : Tr := open Classical in if h : ∃ t : Tr, t.ok ∧ ∀ c, t.ev c = f c then h.choose else leaf false
theorem can_eq {f : Cf → Bool} {t : Tr} (h : t.ok) (he : ∀ c, t.ev c = f c) : can f = t := by
  have hx : ∃ t : Tr, t.ok ∧ ∀ c, t.ev c = f c := ⟨t, h, he⟩
  unfold can
  rw [dif_pos hx]
  exact eq_of_ev hx.choose_spec.1 h fun c => (hx.choose_spec.2 c).trans (he c).symm

/-- The operation o, applied to three trees. -/
noncomputable def ap (o : Op3) (a b d : Tr) : Tr := can fun c => o (a.ev c) (b.ev c) (d.ev c)
section
variable {o : Op3} {a b d : Tr} (ha : a.ok) (hb : b.ok) (hd : d.ok)
include ha hb hd
theorem ap_facts : (ap o a b d).ok ∧ top3 a b d ≤ (ap o a b d).top ∧ ∀ c, (ap o a b d).ev c = o (a.ev c) (b.ev c) (d.ev c) := by
  obtain ⟨t, h1, h2, h3⟩ := ex_ap o _ a b d (Nat.le_refl _) ha hb hd
  have : ap o a b d = t := can_eq h1 h3
  rw [this]
  exact ⟨h1, h2, h3⟩
theorem ap_ok : (ap o a b d).ok := (ap_facts ha hb hd).1
theorem ap_ev (c : Cf) : (ap o a b d).ev c = o (a.ev c) (b.ev c) (d.ev c) := (ap_facts ha hb hd).2.2 c
theorem ap_step (hv : top3 a b d < 64) : ap o a b d = mk (top3 a b d) (ap o (lo (top3 a b d) a) (lo (top3 a b d) b) (lo (top3 a b d) d)) (ap o (hi (top3 a b d) a) (hi (top3 a b d) b) (hi (top3 a b d) d)) := by
  have v1 : top3 a b d ≤ a.top := by unfold top3; omega
  have v2 : top3 a b d ≤ b.top := by unfold top3; omega
  have v3 : top3 a b d ≤ d.top := by unfold top3; omega
  revert v1 v2 v3 hv
  generalize top3 a b d = v
  intro hv v1 v2 v3
  obtain ⟨al1, al2, al3, al4, al5⟩ := lo_facts ha v1
  obtain ⟨bl1, bl2, bl3, bl4, bl5⟩ := lo_facts hb v2
  obtain ⟨dl1, dl2, dl3, dl4, dl5⟩ := lo_facts hd v3
  obtain ⟨ah1, ah2, ah3, ah4, ah5⟩ := hi_facts ha v1
  obtain ⟨bh1, bh2, bh3, bh4, bh5⟩ := hi_facts hb v2
  obtain ⟨dh1, dh2, dh3, dh4, dh5⟩ := hi_facts hd v3
  obtain ⟨l1, l2, l3⟩ := ap_facts (o := o) al1 bl1 dl1
  obtain ⟨h1, h2, h3⟩ := ap_facts (o := o) ah1 bh1 dh1
  have l2' : v < (ap o (lo v a) (lo v b) (lo v d)).top := by have := al2 hv; have := bl2 hv; have := dl2 hv; unfold top3 at l2; omega
  have h2' : v < (ap o (hi v a) (hi v b) (hi v d)).top := by have := ah2 hv; have := bh2 hv; have := dh2 hv; unfold top3 at h2; omega
  refine can_eq (ok_mk hv l2' h2' l1 h1) fun c => ?_
  rw [ev_mk]
  split
  · rename_i hc
    rw [h3, ah5 c hc, bh5 c hc, dh5 c hc]
  · rename_i hc
    have hc : c v = false := by simpa using hc
    rw [l3, al5 c hc, bl5 c hc, dl5 c hc]
end
theorem ap_leaf (o : Op3) (x y z : Bool) : ap o (leaf x) (leaf y) (leaf z) = leaf (o x y z) := can_eq trivial fun _ => rfl
theorem leaf_of_top {t : Tr} (ht : t.ok) (h64 : 64 ≤ t.top) : ∃ b, t = leaf b := by
  cases t with
  | leaf b => exact ⟨b, rfl⟩
  | node _ _ _ => have := ht.1; simp only [top] at h64; omega
end Tr
end Go.Proofs.Ytafojmoeaneedaa
