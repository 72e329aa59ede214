/-
  The nodes of a tree are a valid pattern, and its tree is this one; a matcher that can be evaluated.
-/
import Derived.Test.YtnjcgpihfmklfaaDoorQx
namespace Go.Proofs.YtnjcgpihfmklfaaDoor
open Go
set_option maxRecDepth 10000
theorem tree_uniq {l : List Nd} {i : Nat} {t : Lt} {ns : List Nat} (h : TreeAt l i t ns) : ∀ {u : Lt} {ms : List Nat}, TreeAt l i u ms → t = u := by
 induction h with
 | emp hx hk =>
  intro u ms hu
  cases hu with
  | emp => rfl
  | rng hy hk' => rw [hx] at hy; cases hy; omega
  | seq hy hk' => rw [hx] at hy; cases hy; omega
  | alt hy hk' => rw [hx] at hy; cases hy; omega
  | rep hy hk' => rw [hx] at hy; cases hy; omega
 | rng hx hk hlo hhi _ _ =>
  intro u ms hu
  cases hu with
  | emp hy hk' => rw [hx] at hy; cases hy; omega
  | rng hy hk' hlo' hhi' _ _ =>
   rw [hx] at hy
   cases hy
   have e1 := Int.ofNat.inj (hlo.symm.trans hlo')
   have e2 := Int.ofNat.inj (hhi.symm.trans hhi')
   rw [e1, e2]
  | seq hy hk' => rw [hx] at hy; cases hy; omega
  | alt hy hk' => rw [hx] at hy; cases hy; omega
  | rep hy hk' => rw [hx] at hy; cases hy; omega
 | seq hx hk ha hb _ _ it iu =>
  intro u ms hu
  cases hu with
  | emp hy hk' => rw [hx] at hy; cases hy; omega
  | rng hy hk' => rw [hx] at hy; cases hy; omega
  | seq hy hk' ha' hb' ht' hu' =>
   rw [hx] at hy
   cases hy
   have e1 := Int.ofNat.inj (ha.symm.trans ha')
   have e2 := Int.ofNat.inj (hb.symm.trans hb')
   subst e1 e2
   rw [it ht', iu hu']
  | alt hy hk' => rw [hx] at hy; cases hy; omega
  | rep hy hk' => rw [hx] at hy; cases hy; omega
 | alt hx hk ha hb _ _ it iu =>
  intro u ms hu
  cases hu with
  | emp hy hk' => rw [hx] at hy; cases hy; omega
  | rng hy hk' => rw [hx] at hy; cases hy; omega
  | seq hy hk' => rw [hx] at hy; cases hy; omega
  | alt hy hk' ha' hb' ht' hu' =>
   rw [hx] at hy
   cases hy
   have e1 := Int.ofNat.inj (ha.symm.trans ha')
   have e2 := Int.ofNat.inj (hb.symm.trans hb')
   subst e1 e2
   rw [it ht', iu hu']
  | rep hy hk' => rw [hx] at hy; cases hy; omega
 | rep hx hk ha _ it =>
  intro u ms hu
  cases hu with
  | emp hy hk' => rw [hx] at hy; cases hy; omega
  | rng hy hk' => rw [hx] at hy; cases hy; omega
  | seq hy hk' => rw [hx] at hy; cases hy; omega
  | alt hy hk' => rw [hx] at hy; cases hy; omega
  | rep hy hk' ha' ht' =>
   rw [hx] at hy
   cases hy
   have e1 := Int.ofNat.inj (ha.symm.trans ha')
   subst e1
   rw [it ht']
theorem usL_append : ∀ (a b : List Nd), usL (a ++ b) = usL b ++ usL a
 | [], b => by simp [usL]
 | x :: a, b => by rw [List.cons_append, usL, usL_append a b, usL, List.append_assoc]
theorem get_at {pre post : List Nd} {x : Nd} {i : Nat} (h : pre.length = i) : (pre ++ [x] ++ post)[i]? = some x := by
 subst h
 rw [List.append_assoc, List.getElem?_append_right (Nat.le_refl _)]
 simp
theorem nodes_tree : ∀ (t : Pat) (o : Nat) (pre post : List Nd), pre.length = o → t.byt → ∃ lt ns, TreeAt (pre ++ t.nodes o ++ post) (o + t.size - 1) lt ns ∧ lt.pat = t
 | .emp, o, pre, post, h, _ => ⟨_, _, .emp (x := ⟨0, 0, 0, 0, 0⟩) (get_at h) rfl, rfl⟩
 | .rng lo hi, o, pre, post, h, hb => ⟨_, _, .rng (x := ⟨1, lo, hi, 0, 0⟩) (lo := lo) (hi := hi) (get_at h) rfl rfl rfl hb.1 hb.2, rfl⟩
 | .seq x y, o, pre, post, h, hb => by
  have px := x.size_pos
  have py := y.size_pos
  have lx := x.nodes_length o
  have ly := y.nodes_length (o + x.size)
  obtain ⟨t, n1, h1, e1⟩ := nodes_tree x o pre (y.nodes (o + x.size) ++ [⟨2, 0, 0, ((o + x.size - 1 : Nat) : Int), ((o + x.size + y.size - 1 : Nat) : Int)⟩] ++ post) h hb.1
  obtain ⟨u, n2, h2, e2⟩ := nodes_tree y (o + x.size) (pre ++ x.nodes o) ([⟨2, 0, 0, ((o + x.size - 1 : Nat) : Int), ((o + x.size + y.size - 1 : Nat) : Int)⟩] ++ post) (by rw [List.length_append]; omega) hb.2
  refine ⟨.seq t u, _, .seq (na := n1) (nb := n2) (x := ⟨2, 0, 0, ((o + x.size - 1 : Nat) : Int), ((o + x.size + y.size - 1 : Nat) : Int)⟩) ?_ rfl rfl rfl ?_ ?_, by rw [Lt.pat, e1, e2]⟩
  ·have := get_at (pre := pre ++ (x.nodes o ++ y.nodes (o + x.size))) (post := post) (x := ⟨2, 0, 0, ((o + x.size - 1 : Nat) : Int), ((o + x.size + y.size - 1 : Nat) : Int)⟩) (i := o + (Pat.seq x y).size - 1) (by simp only [List.length_append, Pat.size]; omega)
   rw [← this]
   simp only [Pat.nodes, List.append_assoc]
  ·have : pre ++ (Pat.seq x y).nodes o ++ post = pre ++ x.nodes o ++ (y.nodes (o + x.size) ++ [⟨2, 0, 0, ((o + x.size - 1 : Nat) : Int), ((o + x.size + y.size - 1 : Nat) : Int)⟩] ++ post) := by simp only [Pat.nodes, List.append_assoc]
   rw [this]
   exact h1
  ·have : pre ++ (Pat.seq x y).nodes o ++ post = pre ++ x.nodes o ++ y.nodes (o + x.size) ++ ([⟨2, 0, 0, ((o + x.size - 1 : Nat) : Int), ((o + x.size + y.size - 1 : Nat) : Int)⟩] ++ post) := by simp only [Pat.nodes, List.append_assoc]
   rw [this]
   exact h2
 | .alt x y, o, pre, post, h, hb => by
  have px := x.size_pos
  have py := y.size_pos
  have lx := x.nodes_length o
  have ly := y.nodes_length (o + x.size)
  obtain ⟨t, n1, h1, e1⟩ := nodes_tree x o pre (y.nodes (o + x.size) ++ [⟨3, 0, 0, ((o + x.size - 1 : Nat) : Int), ((o + x.size + y.size - 1 : Nat) : Int)⟩] ++ post) h hb.1
  obtain ⟨u, n2, h2, e2⟩ := nodes_tree y (o + x.size) (pre ++ x.nodes o) ([⟨3, 0, 0, ((o + x.size - 1 : Nat) : Int), ((o + x.size + y.size - 1 : Nat) : Int)⟩] ++ post) (by rw [List.length_append]; omega) hb.2
  refine ⟨.alt t u, _, .alt (na := n1) (nb := n2) (x := ⟨3, 0, 0, ((o + x.size - 1 : Nat) : Int), ((o + x.size + y.size - 1 : Nat) : Int)⟩) ?_ rfl rfl rfl ?_ ?_, by rw [Lt.pat, e1, e2]⟩
  ·have := get_at (pre := pre ++ (x.nodes o ++ y.nodes (o + x.size))) (post := post) (x := ⟨3, 0, 0, ((o + x.size - 1 : Nat) : Int), ((o + x.size + y.size - 1 : Nat) : Int)⟩) (i := o + (Pat.alt x y).size - 1) (by simp only [List.length_append, Pat.size]; omega)
   rw [← this]
   simp only [Pat.nodes, List.append_assoc]
  ·have : pre ++ (Pat.alt x y).nodes o ++ post = pre ++ x.nodes o ++ (y.nodes (o + x.size) ++ [⟨3, 0, 0, ((o + x.size - 1 : Nat) : Int), ((o + x.size + y.size - 1 : Nat) : Int)⟩] ++ post) := by simp only [Pat.nodes, List.append_assoc]
   rw [this]
   exact h1
  ·have : pre ++ (Pat.alt x y).nodes o ++ post = pre ++ x.nodes o ++ y.nodes (o + x.size) ++ ([⟨3, 0, 0, ((o + x.size - 1 : Nat) : Int), ((o + x.size + y.size - 1 : Nat) : Int)⟩] ++ post) := by simp only [Pat.nodes, List.append_assoc]
   rw [this]
   exact h2
 | .rep x, o, pre, post, h, hb => by
  have px := x.size_pos
  have lx := x.nodes_length o
  obtain ⟨t, n1, h1, e1⟩ := nodes_tree x o pre ([⟨4, 0, 0, ((o + x.size - 1 : Nat) : Int), 0⟩] ++ post) h hb
  refine ⟨.rep t, _, .rep (na := n1) (x := ⟨4, 0, 0, ((o + x.size - 1 : Nat) : Int), 0⟩) ?_ rfl rfl ?_, by rw [Lt.pat, e1]⟩
  ·have := get_at (pre := pre ++ x.nodes o) (post := post) (x := ⟨4, 0, 0, ((o + x.size - 1 : Nat) : Int), 0⟩) (i := o + (Pat.rep x).size - 1) (by simp only [List.length_append, Pat.size]; omega)
   rw [← this]
   simp only [Pat.nodes, List.append_assoc]
  ·have : pre ++ (Pat.rep x).nodes o ++ post = pre ++ x.nodes o ++ ([⟨4, 0, 0, ((o + x.size - 1 : Nat) : Int), 0⟩] ++ post) := by simp only [Pat.nodes, List.append_assoc]
   rw [this]
   exact h1
theorem us_zero {x : Nd} (h : x.k = 0 ∨ x.k = 1) : us x = [] := by
 have := ar_zero h
 unfold us
 rw [this]
 rfl
theorem nodes_us : ∀ (t : Pat) (o : Nat), (usL (t.nodes o)).Nodup ∧ ∀ j : Int, j ∈ usL (t.nodes o) ↔ (o : Int) ≤ j ∧ j < (o : Int) + t.size - 1
 | .emp, o => by
  have : usL (Pat.emp.nodes o) = [] := by simp [Pat.nodes, usL, us_zero]
  rw [this]
  exact ⟨List.nodup_nil, fun j => by simp [Pat.size]⟩
 | .rng lo hi, o => by
  have : usL ((Pat.rng lo hi).nodes o) = [] := by simp [Pat.nodes, usL, us_zero]
  rw [this]
  exact ⟨List.nodup_nil, fun j => by simp [Pat.size]⟩
 | .seq x y, o => by
  obtain ⟨n1, m1⟩ := nodes_us x o
  obtain ⟨n2, m2⟩ := nodes_us y (o + x.size)
  have px := x.size_pos
  have py := y.size_pos
  have : usL ((Pat.seq x y).nodes o) = [((o + x.size + y.size - 1 : Nat) : Int), ((o + x.size - 1 : Nat) : Int)] ++ (usL (y.nodes (o + x.size)) ++ usL (x.nodes o)) := by
   rw [Pat.nodes, usL_append, usL_append]
   congr 1
  rw [this]
  constructor
  ·rw [List.nodup_append, List.nodup_append]
   refine ⟨?_, ⟨n2, n1, fun a ha b hb e => ?_⟩, fun a ha b hb e => ?_⟩
   ·simp only [List.nodup_cons, List.mem_singleton, List.not_mem_nil, not_false_iff, List.nodup_nil, and_true]
    omega
   ·have := (m2 a).1 ha
    have := (m1 b).1 hb
    omega
   ·simp only [List.mem_cons, List.not_mem_nil, or_false] at ha
    rcases List.mem_append.1 hb with hb | hb
    ·have := (m2 b).1 hb
     omega
    ·have := (m1 b).1 hb
     omega
  ·intro j
   simp only [List.mem_append, List.mem_cons, List.not_mem_nil, or_false, m1, m2, Pat.size]
   omega
 | .alt x y, o => by
  obtain ⟨n1, m1⟩ := nodes_us x o
  obtain ⟨n2, m2⟩ := nodes_us y (o + x.size)
  have px := x.size_pos
  have py := y.size_pos
  have : usL ((Pat.alt x y).nodes o) = [((o + x.size + y.size - 1 : Nat) : Int), ((o + x.size - 1 : Nat) : Int)] ++ (usL (y.nodes (o + x.size)) ++ usL (x.nodes o)) := by
   rw [Pat.nodes, usL_append, usL_append]
   congr 1
  rw [this]
  constructor
  ·rw [List.nodup_append, List.nodup_append]
   refine ⟨?_, ⟨n2, n1, fun a ha b hb e => ?_⟩, fun a ha b hb e => ?_⟩
   ·simp only [List.nodup_cons, List.mem_singleton, List.not_mem_nil, not_false_iff, List.nodup_nil, and_true]
    omega
   ·have := (m2 a).1 ha
    have := (m1 b).1 hb
    omega
   ·simp only [List.mem_cons, List.not_mem_nil, or_false] at ha
    rcases List.mem_append.1 hb with hb | hb
    ·have := (m2 b).1 hb
     omega
    ·have := (m1 b).1 hb
     omega
  ·intro j
   simp only [List.mem_append, List.mem_cons, List.not_mem_nil, or_false, m1, m2, Pat.size]
   omega
 | .rep x, o => by
  obtain ⟨n1, m1⟩ := nodes_us x o
  have px := x.size_pos
  have : usL ((Pat.rep x).nodes o) = [((o + x.size - 1 : Nat) : Int)] ++ usL (x.nodes o) := by
   rw [Pat.nodes, usL_append]
   congr 1
  rw [this]
  constructor
  ·rw [List.nodup_append]
   refine ⟨by simp, n1, fun a ha b hb e => ?_⟩
   simp only [List.mem_cons, List.not_mem_nil, or_false] at ha
   have := (m1 b).1 hb
   omega
  ·intro j
   simp only [List.mem_append, List.mem_cons, List.not_mem_nil, or_false, m1, Pat.size]
   omega
theorem okN_two {k : Int} {i a b : Nat} (hk : k = 2 ∨ k = 3) (ha : a < i) (hb : b < i) : okN i ⟨k, 0, 0, a, b⟩ := by
 have e := ar_two hk
 refine ⟨by simp only [e]; decide, fun h => ?_, fun _ => ⟨rfl, rfl⟩, fun h => ?_, fun h => ?_, fun _ => ⟨?_, ?_⟩, fun _ => ⟨?_, ?_⟩⟩ <;> simp only [e] at * <;> omega
theorem nodes_ok : ∀ (t : Pat) (o : Nat), t.byt → ∀ i x, (t.nodes o)[i]? = some x → okN (o + i) x
 | .emp, o, _, i, x, h => by
  obtain ⟨hi, rfl⟩ := List.getElem?_eq_some_iff.1 h
  simp only [Pat.nodes, List.length_singleton] at hi
  obtain rfl : i = 0 := by omega
  have e := ar_zero (k := 0) (.inl rfl)
  refine ⟨by simp [Pat.nodes, e], ?_, ?_, ?_, ?_, ?_, ?_⟩ <;> simp [Pat.nodes, e]
 | .rng lo hi, o, hb, i, x, h => by
  obtain ⟨hi', rfl⟩ := List.getElem?_eq_some_iff.1 h
  simp only [Pat.nodes, List.length_singleton] at hi'
  obtain rfl : i = 0 := by omega
  have e := ar_zero (k := 1) (.inr rfl)
  have h1 := hb.1
  have h2 := hb.2
  refine ⟨by simp [Pat.nodes, e], fun _ => ?_, ?_, ?_, ?_, ?_, ?_⟩
  ·simp only [Pat.nodes, List.getElem_cons_zero]
   omega
  all_goals simp [Pat.nodes, e]
 | .seq x y, o, hb, i, z, h => by
  have px := x.size_pos
  have py := y.size_pos
  have lx := x.nodes_length o
  have ly := y.nodes_length (o + x.size)
  rw [Pat.nodes, List.getElem?_append, List.getElem?_append] at h
  rw [List.length_append] at h
  split at h
  ·split at h
   ·exact nodes_ok x o hb.1 i z h
   ·rename_i h1 h2
    have := nodes_ok y (o + x.size) hb.2 _ z h
    rw [show o + x.size + (i - (x.nodes o).length) = o + i by omega] at this
    exact this
  ·rename_i h1
   obtain ⟨hi, rfl⟩ := List.getElem?_eq_some_iff.1 h
   simp only [List.length_singleton] at hi
   rw [List.getElem_singleton]
   exact okN_two (.inl rfl) (by omega) (by omega)
 | .alt x y, o, hb, i, z, h => by
  have px := x.size_pos
  have py := y.size_pos
  have lx := x.nodes_length o
  have ly := y.nodes_length (o + x.size)
  rw [Pat.nodes, List.getElem?_append, List.getElem?_append] at h
  rw [List.length_append] at h
  split at h
  ·split at h
   ·exact nodes_ok x o hb.1 i z h
   ·rename_i h1 h2
    have := nodes_ok y (o + x.size) hb.2 _ z h
    rw [show o + x.size + (i - (x.nodes o).length) = o + i by omega] at this
    exact this
  ·rename_i h1
   obtain ⟨hi, rfl⟩ := List.getElem?_eq_some_iff.1 h
   simp only [List.length_singleton] at hi
   rw [List.getElem_singleton]
   exact okN_two (.inr rfl) (by omega) (by omega)
 | .rep x, o, hb, i, z, h => by
  have px := x.size_pos
  have lx := x.nodes_length o
  rw [Pat.nodes, List.getElem?_append] at h
  split at h
  ·exact nodes_ok x o hb i z h
  ·rename_i h1
   obtain ⟨hi, rfl⟩ := List.getElem?_eq_some_iff.1 h
   simp only [List.length_singleton] at hi
   rw [List.getElem_singleton]
   have e := ar_one (k := 4) rfl
   refine ⟨by simp only [e]; decide, fun h => ?_, fun _ => ⟨rfl, rfl⟩, fun h => ?_, fun h => rfl, fun _ => ⟨?_, ?_⟩, fun h => ?_⟩ <;> simp only [e] at * <;> omega
theorem nodes_good {t : Pat} (hb : t.byt) : GoodL (t.nodes 0) := by
 have hl := t.nodes_length 0
 have hp := t.size_pos
 refine ⟨fun e => by rw [e] at hl; simp at hl; omega, fun i x h => by have := nodes_ok t 0 hb i x h; rwa [Nat.zero_add] at this, (nodes_us t 0).1, fun i hi => ((nodes_us t 0).2 i).2 (by omega)⟩
theorem nodes_chk {t : Pat} (hb : t.byt) (hs : t.size ≤ 512) : chkP (t.nodes 0) = 0 := by
 unfold chkP
 rw [if_neg (by rw [t.nodes_length]; omega), if_pos (nodes_good hb)]
theorem nodes_pat {t : Pat} (hb : t.byt) : (treeL (t.nodes 0)).pat = t := by
 obtain ⟨ns, h1⟩ := treeL_spec (nodes_good hb)
 obtain ⟨lt, ms, h2, e⟩ := nodes_tree t 0 [] [] rfl hb
 rw [List.nil_append, List.append_nil] at h2
 rw [t.nodes_length] at h1
 rw [Nat.zero_add] at h2
 rw [tree_uniq h1 h2, e]
def Pat.nulP : Pat → Bool
 | .emp => true
 | .rng _ _ => false
 | .seq x y => x.nulP && y.nulP
 | .alt x y => x.nulP || y.nulP
 | .rep _ => true
def Pat.der (b : Nat) : Pat → Pat
 | .emp => .rng 1 0
 | .rng lo hi => if lo ≤ b ∧ b ≤ hi then .emp else .rng 1 0
 | .seq x y => if x.nulP then .alt (.seq (x.der b) y) (y.der b) else .seq (x.der b) y
 | .alt x y => .alt (x.der b) (y.der b)
 | .rep x => .seq (x.der b) (.rep x)
theorem nulP_iff : ∀ p : Pat, p.nulP = true ↔ Lg p []
 | .emp => by simp [Pat.nulP, Lg]
 | .rng _ _ => by simp [Pat.nulP, Lg]
 | .seq x y => by
  simp only [Pat.nulP, Bool.and_eq_true, nulP_iff x, nulP_iff y, Lg]
  constructor
  ·rintro ⟨h1, h2⟩
   exact ⟨[], [], rfl, h1, h2⟩
  ·rintro ⟨u, v, e, h1, h2⟩
   obtain ⟨rfl, rfl⟩ := List.append_eq_nil_iff.1 e.symm
   exact ⟨h1, h2⟩
 | .alt x y => by simp only [Pat.nulP, Bool.or_eq_true, nulP_iff x, nulP_iff y, Lg]
 | .rep x => by
  simp only [Pat.nulP, true_iff]
  exact Star.nil
theorem no_rng (w : List Nat) : ¬ Lg (.rng 1 0) w := by
 rintro ⟨b, _, h1, h2⟩
 omega
theorem der_iff (b : Nat) : ∀ (p : Pat) (w : List Nat), Lg (p.der b) w ↔ Lg p (b :: w)
 | .emp, w => ⟨fun h => absurd h (no_rng w), fun h => (by cases h)⟩
 | .rng lo hi, w => by
  unfold Pat.der
  split
  ·rename_i h
   constructor
   ·rintro rfl
    exact ⟨b, rfl, h⟩
   ·rintro ⟨c, e, _⟩
    cases e
    rfl
  ·rename_i h
   constructor
   ·exact fun h' => absurd h' (no_rng w)
   ·rintro ⟨c, e, h'⟩
    cases e
    exact absurd h' h
 | .seq x y, w => by
  have key : Lg (.seq x y) (b :: w) ↔ Lg (.seq (x.der b) y) w ∨ (Lg x [] ∧ Lg y (b :: w)) := by
   constructor
   ·rintro ⟨u, v, e, h1, h2⟩
    cases u with
    | nil => exact .inr ⟨h1, by rw [List.nil_append] at e; rw [e]; exact h2⟩
    | cons c u =>
     rw [List.cons_append, List.cons.injEq] at e
     obtain ⟨rfl, rfl⟩ := e
     exact .inl ⟨u, v, rfl, (der_iff b x u).2 h1, h2⟩
   ·rintro (⟨u, v, rfl, h1, h2⟩ | ⟨h1, h2⟩)
    ·exact ⟨b :: u, v, rfl, (der_iff b x u).1 h1, h2⟩
    ·exact ⟨[], b :: w, rfl, h1, h2⟩
  rw [key, ← nulP_iff x]
  have e : (Pat.seq x y).der b = if x.nulP then .alt (.seq (x.der b) y) (y.der b) else .seq (x.der b) y := rfl
  rw [e]
  split
  ·rename_i h
   show Lg (.seq (x.der b) y) w ∨ Lg (y.der b) w ↔ _
   rw [der_iff b y w]
   exact ⟨fun h' => h'.elim .inl fun h'' => .inr ⟨h, h''⟩, fun h' => h'.elim .inl fun h'' => .inr h''.2⟩
  ·rename_i h
   exact ⟨.inl, fun h' => h'.elim id fun h'' => absurd h''.1 h⟩
 | .alt x y, w => by
  show Lg (x.der b) w ∨ Lg (y.der b) w ↔ _
  rw [der_iff b x w, der_iff b y w]
  exact Iff.rfl
 | .rep x, w => by
  constructor
  ·rintro ⟨u, v, rfl, h1, h2⟩
   exact Star.cons ((der_iff b x u).1 h1) h2
  ·intro h
   rcases Star.ne h with e | ⟨u, v, hu, e, h1, h2⟩
   ·cases e
   ·cases u with
    | nil => exact absurd rfl hu
    | cons c u =>
     rw [List.cons_append, List.cons.injEq] at e
     obtain ⟨rfl, rfl⟩ := e
     exact ⟨u, v, rfl, (der_iff b x u).2 h1, h2⟩
def mtc (p : Pat) (w : List Nat) : Bool := match w with
 | [] => p.nulP
 | b :: w => mtc (p.der b) w
theorem mtc_iff : ∀ (w : List Nat) (p : Pat), mtc p w = true ↔ Lg p w
 | [], p => nulP_iff p
 | b :: w, p => by rw [mtc, mtc_iff w, der_iff]
end Go.Proofs.YtnjcgpihfmklfaaDoor
