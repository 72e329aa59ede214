/-
  The diagrams: Least.
-/
import Derived.Test.YtafojmoeaneedaaEo
namespace Go.Proofs.Ytafojmoeaneedaa
open Go Go.Proofs.Try Tr
set_option maxRecDepth 10000

theorem lm_length : ∀ (k n : Nat), n < 4294967296 ^ k → (lm n).length ≤ k
  | 0, n, h => by
    have : n = 0 := by simpa using h
    subst this
    rw [lm_zero]
    exact Nat.le_refl _
  | k + 1, n, h => by
    by_cases h0 : n = 0
    · subst h0; rw [lm_zero]; exact Nat.zero_le _
    · rw [lm_pos h0, List.length_cons]
      have := lm_length k (n / 4294967296) (Nat.div_lt_of_lt_mul (by rw [Nat.pow_succ, Nat.mul_comm] at h; exact h))
      omega
theorem lm_small {n : Nat} (h : n ≤ 18446744073709551616) : (lm n).length ≤ 1000 := by
  have := lm_length 3 n (by omega)
  omega

/-- The configurations over the conditions from that of a tree on to n-1. -/
def cv (n : Nat) : Tr → Nat
  | leaf b => if b then 1 else 0
  | node v l h => cv n l * 2 ^ (min n l.top - (v + 1)) + cv n h * 2 ^ (min n h.top - (v + 1))
def countT (n : Nat) (t : Tr) : Nat := cv n t * 2 ^ (min n t.top)
/-- All conditions of a tree are below n. -/
def below (n : Nat) : Tr → Prop
  | leaf _ => True
  | node v l h => v < n ∧ below n l ∧ below n h
theorem cv_le {n : Nat} (hn : n ≤ 64) : ∀ (t : Tr), t.ok → below n t → cv n t ≤ 2 ^ (n - min n t.top)
  | leaf b, _, _ => by
    have : n - min n (leaf b).top = 0 := by simp only [top]; omega
    rw [this]
    cases b <;> simp [cv]
  | node v l h, ⟨h0, h1, h2, h3, h4, h5⟩, ⟨b0, b1, b2⟩ => by
    have il := cv_le hn l h4 b1
    have ih := cv_le hn h h5 b2
    have key : ∀ (x m : Nat), v < m → x ≤ 2 ^ (n - min n m) → x * 2 ^ (min n m - (v + 1)) ≤ 2 ^ (n - (v + 1)) := fun x m hm hx => by
      calc x * 2 ^ (min n m - (v + 1)) ≤ 2 ^ (n - min n m) * 2 ^ (min n m - (v + 1)) := Nat.mul_le_mul_right _ hx
        _ = 2 ^ (n - (v + 1)) := by rw [← Nat.pow_add]; congr 1; omega
    have k1 := key _ _ h1 il
    have k2 := key _ _ h2 ih
    have e : n - min n (node v l h).top = n - (v + 1) + 1 := by simp only [top]; omega
    rw [e, Nat.pow_succ]
    simp only [cv]
    omega
theorem two64 {m : Nat} (h : m ≤ 64) : 2 ^ m ≤ 18446744073709551616 := Nat.pow_le_pow_right (by decide) h

structure CE (E : PH) (b2 b3 b9 b10 g n : Nat) (t : Tr) (len : Nat) : Prop where
  c3 : E.cell ⟨b3, 0, none⟩ = some (vi n)
  c2 : ∃ w, E.row ⟨b2, 0, none⟩ w ∧ DV E w (dia t)
  c9 : E.cell ⟨b9, 0, none⟩ = some (Sl.v ⟨some ⟨g, 0, none⟩, len, len⟩)
  c10 : E.cell ⟨b10, 0, none⟩ = some (.func (.func 74) #[] #[.pointer (some ⟨b3, 0, none⟩), .pointer (some ⟨b2, 0, none⟩)])
theorem CE.le {E F : PH} {b2 b3 b9 b10 g n : Nat} {t : Tr} {len : Nat} (h : CE E b2 b3 b9 b10 g n t len) (hl : E.le F) : CE F b2 b3 b9 b10 g n t len := by
  obtain ⟨h1, ⟨w, h2, h3⟩, h4, h5⟩ := h
  exact ⟨le_cell hl h1, ⟨w, row_le hl h2, h3.le hl⟩, le_cell hl h4, le_cell hl h5⟩
/-- The counts so far. -/
structure CS (E F : PH) (g n : Nat) (T : List Tr) (k : Nat) (Ls : List Sl) : Prop where
  le : E.le F
  ng : E g = none
  hg : F g = some (.cells (Ls.map Sl.v).toArray 57)
  len : Ls.length = T.length + 2
  nv : ∀ j s, j < k + 2 → Ls[j]? = some s → NV (del1 F g) s (cv n (tr T j))
theorem CS.upto {E F G : PH} {g n : Nat} {T : List Tr} {k : Nat} {Ls : List Sl} (h : CS E F g n T k Ls) (hl : F.le G) : CS E G g n T k Ls :=
  ⟨h.le.trans hl, h.ng, hl _ _ h.hg, h.len, fun j s hj hs => (h.nv j s hj hs).le fun x o hx => by
    have hne : x ≠ g := fun e => by rw [e, del1_1] at hx; cases hx
    rw [del1_of hne] at hx ⊢
    exact hl _ _ hx⟩
theorem cb74 : callableB prog 74 = true := by kernel_rfl
/-- Addition, kept out of one block. -/
theorem addA {F : PH} {x : Nat} {o : Obj} {sx sy : Sl} {a b : Nat} (hx : F x = some o) (ha : NV (del1 F x) sx a) (hb : NV (del1 F x) sy b) (la : a ≤ 18446744073709551616) (lb : b ≤ 18446744073709551616) :
    Spec prog 33 #[sx.v, sy.v] F fun r F' => ∃ s', r = .tuple #[s'.v, vi 0] ∧ NV (del1 F' x) s' (a + b) ∧ F.le F' ∧ F' x = some o :=
  (Spec.avoid (add_spec ha hb (lm_small la) (lm_small lb)) hx).mono fun r F' ⟨G, ⟨s', hr, hn, lg⟩, lG, q, gx⟩ =>
    ⟨s', hr, hn.le (fun y ob hy => by rw [del1_of (fun e => by rw [e, gx] at hy; cases hy)]; exact lG _ _ hy), le_avoid lg lG q hx, q⟩
theorem del1_mono {F G : PH} {x : Nat} (h : F.le G) : (del1 F x).le (del1 G x) := fun y o hy => by
  have hne : y ≠ x := fun e => by rw [e, del1_1] at hy; cases hy
  rw [del1_of hne] at hy ⊢
  exact h _ _ hy

section
variable {E F : PH} {b2 b3 b9 b10 g n : Nat} {t : Tr} {k : Nat} {Ls : List Sl}
theorem doubled_spec (ht : t.ok) (hlt : (subs t).length ≤ 4096) (hn : n ≤ 64) (he : CE E b2 b3 b9 b10 g n t ((subs t).length + 2)) (hs : CS E F g n (subs t) k Ls) {u : Tr} (hu : inn (subs t) u) (hbu : below n u)
    (hk : num (subs t) u < k + 2) {from_ : Nat} (hfr : from_ ≤ min n u.top) :
    Spec prog 75 #[vi (num (subs t) u), vi from_, .pointer (some ⟨b9, 0, none⟩), .pointer (some ⟨b10, 0, none⟩)] F fun r F' =>
      ∃ s', r = .tuple #[s'.v, vi 0] ∧ NV (del1 F' g) s' (cv n u * 2 ^ (min n u.top - from_)) ∧ F.le F' := by
  have hT := subs_cl ht
  have huo := hT.inn_ok hu
  have hnl := num_le hu
  have hlen := hs.len
  refine c75 ?_
  unfold b75
  have hlt2 : num (subs t) u < Ls.length := by omega
  have hget := List.getElem?_eq_getElem hlt2
  have hnv := hs.nv _ _ hk hget
  rw [tr_num hT hu] at hnv
  refine ⟨_, rfl, _, le_cell hs.le he.c9, _, rfl, by omega, by simp only; omega, Ls[num (subs t) u], by simp only [add_mk]; rw [cell_eq hs.hg]; simp [hget], _, rfl, _, le_cell hs.le he.c10, _, _, _, rfl, cb74, ?_⟩
  obtain ⟨w, hw1, hw2⟩ := he.c2
  have hplace : Spec prog 74 #[vi (num (subs t) u), .pointer (some ⟨b3, 0, none⟩), .pointer (some ⟨b2, 0, none⟩)] F fun r F' => r = vi (min (n : Int) (u.top : Int)) ∧ F.le F' := by
    refine c74 ?_
    unfold b74
    refine ⟨_, rfl, _, le_cell hs.le he.c3, _, rfl, w, hw2.size, row_le hs.le hw1, ?_⟩
    refine (level_spec (hw2.le hs.le) (List.prefix_refl _) hu (by show Fit ((brs (subs t)).length + 2); rw [brs_length]; omega)).mono ?_
    rintro _ F1 ⟨rfl, l1⟩
    exact ⟨_, rfl, le_cell l1 (le_cell hs.le he.c3), rfl, l1⟩
  refine hplace.mono ?_
  rintro _ F1 ⟨rfl, l1⟩
  refine ⟨_, rfl, ?_⟩
  have hs1 := hs.upto l1
  have hnv1 := hnv.le (del1_mono (x := g) l1)
  have hwr : IntKind.i64.wrap (min (n : Int) (u.top : Int) - (from_ : Int)) = ((min n u.top - from_ : Nat) : Int) := by
    rw [w64_eq (by omega) (by omega)]; omega
  have hcv := cv_le hn u huo hbu
  refine ⟨fun m out i F' => ∃ q : Nat, i = q ∧ q ≤ min n u.top - from_ ∧ m = min n u.top - from_ - q ∧ NV (del1 F' g) out (cv n u * 2 ^ q) ∧ F1.le F', min n u.top - from_, ⟨0, rfl, by omega, by omega, by simpa using hnv1, PH.le_rfl⟩, ?_⟩
  rintro m out i F2 ⟨q, rfl, hq, rfl, ho, l2⟩
  unfold b75L1
  rw [hwr]
  refine ⟨fun hlt => ?_, fun hge => ?_⟩
  · have hval : cv n u * 2 ^ q ≤ 18446744073709551616 := by
      refine Nat.le_trans (Nat.mul_le_mul_right _ hcv) ?_
      rw [← Nat.pow_add]
      exact two64 (by omega)
    refine (addA (l2 _ _ hs1.hg) ho ho hval hval).mono ?_
    rintro _ F3 ⟨s', rfl, h1, l3, _⟩
    refine ⟨_, _, rfl, fun h => absurd rfl h, fun _ => ⟨min n u.top - from_ - (q + 1), by omega, q + 1, w64s (by omega), by omega, rfl, ?_, l2.trans l3⟩⟩
    rw [Nat.pow_succ, ← Nat.mul_assoc, Nat.mul_two]
    exact h1
  · unfold b75j1
    have hq' : q = min n u.top - from_ := by omega
    subst hq'
    exact ⟨_, rfl, ho, l1.trans l2⟩
end
theorem below_of {T : List Tr} (hT : Cl T) {n : Nat} (h : ∀ x ∈ T, x.top < n) : ∀ (t : Tr), inn T t → below n t
  | leaf _, _ => trivial
  | node v l r, ht => by
    obtain ⟨il, ir⟩ := hT.inn_kids ht
    exact ⟨h _ (inn_mem ht rfl), below_of hT h l il, below_of hT h r ir⟩
theorem below_vis {n : Nat} : ∀ (t : Tr) (S : List Tr), below n t → ∀ x ∈ vis t S, x ∈ S ∨ below n x ∧ x.top < n
  | leaf _, _, _ => fun x hx => .inl hx
  | node v l r, S, ⟨b0, b1, b2⟩ => by
    unfold vis
    split
    · exact fun x hx => .inl hx
    · intro x hx
      rcases List.mem_append.1 hx with hx | hx
      · rcases below_vis r _ b2 x hx with h | h
        · exact below_vis l S b1 x h
        · exact .inr h
      · rw [List.mem_singleton.1 hx]
        exact .inr ⟨⟨b0, b1, b2⟩, b0⟩
theorem below_subs {n : Nat} {t : Tr} (h : below n t) : ∀ x ∈ subs t, below n x ∧ x.top < n := fun x hx => by
  rcases below_vis t [] h x hx with h | h
  · cases h
  · exact h
theorem below_inn {n : Nat} {t : Tr} (h : below n t) {x : Tr} (hx : inn (subs t) x) : below n x := by
  cases x with
  | leaf b => trivial
  | node v l r => exact (below_subs h _ (inn_mem hx rfl)).1

open Classical in
noncomputable def countD (a : Dia) (n : Int) : Nat × Int :=
  if chk a ≠ 0 then (0, chk a) else if n < 0 ∨ 64 < n then (0, 1) else if below n.toNat (tre a) then (countT n.toNat (tre a), 0) else (0, 1)
theorem NV.nil (F : PH) : NV F Sl.nil 0 := by unfold NV; rw [lm_zero]; exact RdS.nil F 1
theorem zr57b : tzero prog 57 = some (.slice none 0 0) := by kernel_rfl

section
variable {F : PH} {v : Array Value} {a : Dia}
theorem count_spec (ha : DV F v a) (n : Int) : Spec prog 32 #[.agg v, vi n] F fun r F' => ∃ s, r = .tuple #[s.v, vi (countD a n).2] ∧ NV F' s (countD a n).1 ∧ F.le F' := by
  have ha' := ha
  obtain ⟨s, rfl, hr⟩ := ha
  refine c32 ?_
  unfold b32
  intro b2 hb2
  refine atI ?_
  have l2 := le_set_fresh (.cells #[s.v, vi a.2] 28) hb2
  have q2 := set_eq F b2 (.cells #[s.v, vi a.2] 28)
  generalize F.set b2 (.cells #[s.v, vi a.2] 28) = F2 at *
  intro b3 hb3
  refine atI ?_
  have lx := le_set_fresh (.cells #[vi n] 3) hb3
  have q3 := set_eq F2 b3 (.cells #[vi n] 3)
  replace q2 := lx _ _ q2
  have l3 := l2.trans lx
  clear lx
  generalize F2.set b3 (.cells #[vi n] 3) = F3 at *
  refine ⟨_, rfl, row_whole q2, ?_⟩
  refine (check_spec (ha'.le l3)).mono ?_
  rintro _ F4 ⟨rfl, lx⟩
  replace q2 := lx _ _ q2
  replace q3 := lx _ _ q3
  have l4 := l3.trans lx
  clear lx
  have err : ∀ {F' : PH} {e : Int}, countD a n = (0, e) → F.le F' → ∃ s, Value.tuple #[Sl.v Sl.nil, vi e] = .tuple #[s.v, vi (countD a n).2] ∧ NV F' s (countD a n).1 ∧ F.le F' := fun {F' e} h hl => ⟨Sl.nil, by rw [h], by rw [h]; exact NV.nil _, hl⟩
  refine ⟨_, rfl, fun h => err (by unfold countD; rw [if_pos h]) l4, fun h => ?_⟩
  have h0 : chk a = 0 := by omega
  refine ⟨n, by rw [cell_eq q3]; rfl, fun hb => err (by unfold countD; rw [if_neg h, if_pos (.inl hb)]) l4, fun hb => ⟨n, by rw [cell_eq q3]; rfl, fun hb2 => err (by unfold countD; rw [if_neg h, if_pos (.inr hb2)]) l4, fun hb2 => ?_⟩⟩
  obtain ⟨ka, ea, la⟩ := chk0 h0
  have hT := subs_cl ka
  have hr' : RdS F s 3 (bflat (brs (subs (tre a)))) := by rw [ea] at hr; exact hr
  have hlen := hr'.blen
  rw [brs_length] at hlen
  have hsl := subs_tre h0
  have e2 : a.2 = (num (subs (tre a)) (tre a) : Int) := by conv => lhs; rw [ea]
                                                           rfl
  obtain ⟨N, rfl⟩ := Int.eq_ofNat_of_zero_le (by omega : 0 ≤ n)
  have hN : N ≤ 64 := by omega
  refine ⟨s, by rw [cell_eq q2]; rfl, ?_⟩
  refine ⟨fun m i F' => ∃ k : Nat, i = k ∧ k ≤ (subs (tre a)).length ∧ m = (subs (tre a)).length - k ∧ F4.le F' ∧ ∀ j x, j < k → (subs (tre a))[j]? = some x → x.top < N, (subs (tre a)).length, ⟨0, rfl, by omega, rfl, PH.le_rfl, fun j x hj => by omega⟩, ?_⟩
  rintro m i F5 ⟨k, rfl, hk, rfl, l5, hall⟩
  unfold b32L2
  refine ⟨fun hlt => ?_, fun hge => ?_⟩
  · have hkT : k < (subs (tre a)).length := by omega
    obtain ⟨_, vv, lo', hi', hget, _, _, hok, _⟩ := cl_get hT k hkT
    obtain ⟨p, hp, hrow, _⟩ := rdb (hr'.le (l4.trans l5)) (brs_get hget)
    refine ⟨p, hp, by omega, hlt, barr (br (subs (tre a)) (node vv lo' hi')), rfl, by simpa using hrow, ?_⟩
    intro b8 hb8
    refine atI ?_
    refine stW (set_eq _ _ _) rfl rfl (st_barr _) ?_
    rw [set_twice]
    have l8 := l5.trans (le_set_fresh (.cells (barr (br (subs (tre a)) (node vv lo' hi'))) 72) hb8)
    refine ⟨(vv : Int), by rw [cell_eq (set_eq _ _ _)]; rfl, (N : Int), by rw [cell_eq (l8 _ _ q3)]; rfl, fun hbad => err ?_ (l4.trans l8), fun hgood => ?_⟩
    · unfold countD
      rw [if_neg h, if_neg (by omega), if_neg]
      intro hbel
      have := (below_subs hbel _ (List.mem_of_getElem? hget)).2
      simp only [Tr.top, Int.toNat_natCast] at this
      omega
    · refine ⟨(subs (tre a)).length - (k + 1), by omega, k + 1, w64s (by omega), by omega, rfl, l8, fun j x hj hx => ?_⟩
      by_cases hjk : j < k
      · exact hall j x hjk hx
      · obtain rfl : j = k := by omega
        rw [hget] at hx
        obtain rfl := Option.some.inj hx
        simp only [Tr.top]
        omega
  · obtain rfl : k = (subs (tre a)).length := by omega
    have hbel : below N (tre a) := below_of hT (fun x hx => by
      obtain ⟨j, hj, he⟩ := List.mem_iff_getElem.1 hx
      exact hall j x hj (by rw [List.getElem?_eq_getElem hj, he])) _ (subs_inn ka)
    have hcount : countD a (N : Int) = (countT N (tre a), 0) := by
      unfold countD
      rw [if_neg h, if_neg (by omega), if_pos (by simpa using hbel)]
      simp
    have q2' := l5 _ _ q2
    have q3' := l5 _ _ q3
    have l5' := l4.trans l5
    clear hall hge hk err
    unfold b32j1
    have hw2 : IntKind.i64.wrap ((s.len : Int) + 2) = (((subs (tre a)).length + 2 : Nat) : Int) := by rw [hlen, w64_eq (by omega) (by omega)]; omega
    refine ⟨s, by rw [cell_eq q2']; rfl, ?_⟩
    rw [hw2]
    refine runs_makeSlice underlying93 sz57 zr57b rfl (by omega) (Int.le_refl _) (by omega) (by omega) ?_
    intro g hg
    rw [zc1 _ rfl, Int.toNat_natCast]
    refine ⟨_, rfl, ?_⟩
    have e0 : (List.replicate ((subs (tre a)).length + 2) (Value.slice none 0 0)).toArray = ((List.replicate ((subs (tre a)).length + 2) Sl.nil).map Sl.v).toArray := by rw [List.map_replicate]; rfl
    rw [e0]
    have fg : F g = none := le_none l5' hg
    have lg := le_set_fresh (.cells ((List.replicate ((subs (tre a)).length + 2) Sl.nil).map Sl.v).toArray 57) hg
    have qg := set_eq F5 g (.cells ((List.replicate ((subs (tre a)).length + 2) Sl.nil).map Sl.v).toArray 57)
    have n2 : b2 ≠ g := ne_of_fresh hg q2'
    have n3 : b3 ≠ g := ne_of_fresh hg q3'
    generalize F5.set g (.cells ((List.replicate ((subs (tre a)).length + 2) Sl.nil).map Sl.v).toArray 57) = F6 at *
    intro b9 hb9
    refine atI ?_
    refine st1 (set_eq _ _ _) (by simp) ?_
    rw [set_twice, show (#[Value.slice none 0 0].setIfInBounds 0 (Sl.v ⟨some ⟨g, 0, none⟩, (subs (tre a)).length + 2, (subs (tre a)).length + 2⟩) : Array Value) = #[Sl.v ⟨some ⟨g, 0, none⟩, (subs (tre a)).length + 2, (subs (tre a)).length + 2⟩] from rfl]
    have n9 : g ≠ b9 := ne_of_fresh hb9 qg
    have lx := le_set_fresh (.cells #[Sl.v ⟨some ⟨g, 0, none⟩, (subs (tre a)).length + 2, (subs (tre a)).length + 2⟩] 93) hb9
    have q9 := set_eq F6 b9 (.cells #[Sl.v ⟨some ⟨g, 0, none⟩, (subs (tre a)).length + 2, (subs (tre a)).length + 2⟩] 93)
    replace qg := lx _ _ qg
    have l9 := lg.trans lx
    clear lx
    generalize F6.set b9 (.cells #[Sl.v ⟨some ⟨g, 0, none⟩, (subs (tre a)).length + 2, (subs (tre a)).length + 2⟩] 93) = F7 at *
    refine ⟨_, by rw [cell_eq q9]; rfl, ?_⟩
    refine (Spec.avoid (of_spec (F := del1 F7 g) (n := 1) (by omega)) qg).mono ?_
    rintro _ F8 ⟨G, ⟨s1, rfl, hn1, lG1⟩, lG, qg8, gG⟩
    have l8 := le_avoid lG1 lG qg8 qg
    have hn1' : NV (del1 F8 g) s1 1 := hn1.le (fun y ob hy => by rw [del1_of (fun e => by rw [e, gG] at hy; cases hy)]; exact lG _ _ hy)
    have q9' := l8 _ _ q9
    refine ⟨_, rfl, by rw [cell_eq q9']; rfl, _, rfl, by omega, by simp only; omega, ?_⟩
    refine st1' (b := g) (o := 1) (by simp) qg8 (by simp) ?_
    rw [List.setIfInBounds_toArray]
    have e1 : ((List.replicate ((subs (tre a)).length + 2) Sl.nil).map Sl.v).set 1 s1.v = ((List.replicate ((subs (tre a)).length + 2) Sl.nil).set 1 s1).map Sl.v := by rw [List.map_set]
    rw [e1]
    generalize hLs : (List.replicate ((subs (tre a)).length + 2) Sl.nil).set 1 s1 = Ls
    have hLl : Ls.length = (subs (tre a)).length + 2 := by rw [← hLs]; simp
    have d9 : del1 (F8.set g (.cells (Ls.map Sl.v).toArray 57)) g = del1 F8 g := by
      funext y
      by_cases hy : y = g
      · subst hy; rw [del1_1, del1_1]
      · rw [del1_of hy, del1_of hy, set_ne _ _ hy]
    have qg9 := set_eq F8 g (.cells (Ls.map Sl.v).toArray 57)
    have n9' : b9 ≠ g := n9.symm
    -- E: what is fixed from here on
    have lE8 : F5.le F8 := l9.trans l8
    have hE : F5.le (del1 F8 g) := le_del1 lE8 hg
    have q2E : (del1 F8 g) b2 = some (.cells #[s.v, vi a.2] 28) := hE _ _ q2'
    have q3E : (del1 F8 g) b3 = some (.cells #[vi N] 3) := hE _ _ q3'
    have q9E : (del1 F8 g) b9 = some (.cells #[Sl.v ⟨some ⟨g, 0, none⟩, (subs (tre a)).length + 2, (subs (tre a)).length + 2⟩] 93) := by rw [del1_of n9']; exact q9'
    have lE9 : (del1 F8 g).le (F8.set g (.cells (Ls.map Sl.v).toArray 57)) := le_set_new (del1_le _ _) (del1_1 _ _)
    have gE : (del1 F8 g) g = none := del1_1 _ _
    have lFE : F.le (del1 F8 g) := l5'.trans hE
    have hnv0 : ∀ j x, j < 0 + 2 → Ls[j]? = some x → NV (del1 (F8.set g (.cells (Ls.map Sl.v).toArray 57)) g) x (cv N (tr (subs (tre a)) j)) := fun j x hj hx => by
      rw [d9]
      match j, hj with
      | 0, _ =>
        rw [← hLs] at hx
        simp at hx
        subst hx
        exact NV.nil _
      | 1, _ =>
        rw [← hLs] at hx
        simp at hx
        subst hx
        exact hn1'
    clear hn1' hLs e1
    generalize del1 F8 g = E at *
    generalize F8.set g (.cells (Ls.map Sl.v).toArray 57) = F9 at *
    intro b10 hb10
    refine atI ?_
    refine st1 (set_eq _ _ _) (by simp) ?_
    rw [set_twice, show (#[Value.nilFunc].setIfInBounds 0 (Value.func (.func 74) #[] #[.pointer (some ⟨b3, 0, none⟩), .pointer (some ⟨b2, 0, none⟩)]) : Array Value) = #[Value.func (.func 74) #[] #[.pointer (some ⟨b3, 0, none⟩), .pointer (some ⟨b2, 0, none⟩)]] from rfl]
    have n10 : g ≠ b10 := ne_of_fresh hb10 qg9
    have E10 : E b10 = none := le_none lE9 hb10
    have hcs0 : CS (E.set b10 (.cells #[Value.func (.func 74) #[] #[.pointer (some ⟨b3, 0, none⟩), .pointer (some ⟨b2, 0, none⟩)]] 94)) (F9.set b10 (.cells #[Value.func (.func 74) #[] #[.pointer (some ⟨b3, 0, none⟩), .pointer (some ⟨b2, 0, none⟩)]] 94)) g N (subs (tre a)) 0 Ls := by
      refine ⟨fun x ob hx => ?_, by rw [set_ne _ _ n10]; exact gE, by rw [set_ne _ _ n10]; exact qg9, hLl, fun j x hj hx => (hnv0 j x hj hx).le (del1_mono (le_set_fresh _ hb10))⟩
      by_cases hxb : x = b10
      · subst hxb; rw [set_eq] at hx ⊢; exact hx
      · rw [set_ne _ _ hxb] at hx ⊢; exact lE9 _ _ hx
    have lE' : E.le (E.set b10 (.cells #[Value.func (.func 74) #[] #[.pointer (some ⟨b3, 0, none⟩), .pointer (some ⟨b2, 0, none⟩)]] 94)) := le_set_fresh _ E10
    have q10 := set_eq E b10 (.cells #[Value.func (.func 74) #[] #[.pointer (some ⟨b3, 0, none⟩), .pointer (some ⟨b2, 0, none⟩)]] 94)
    generalize E.set b10 (.cells #[Value.func (.func 74) #[] #[.pointer (some ⟨b3, 0, none⟩), .pointer (some ⟨b2, 0, none⟩)]] 94) = E2 at *
    generalize F9.set b10 (.cells #[Value.func (.func 74) #[] #[.pointer (some ⟨b3, 0, none⟩), .pointer (some ⟨b2, 0, none⟩)]] 94) = F10 at *
    have hce : CE E2 b2 b3 b9 b10 g N (tre a) ((subs (tre a)).length + 2) := by
      refine ⟨by rw [cell_eq (lE' _ _ q3E)]; rfl, ⟨#[s.v, vi a.2], row_whole (lE' _ _ q2E), ?_⟩, by rw [cell_eq (lE' _ _ q9E)]; rfl, by rw [cell_eq q10]; rfl⟩
      rw [← ea]
      exact ha'.le (lFE.trans lE')
    have lFE2 : F.le E2 := lFE.trans lE'
    refine ⟨s, by rw [cell_eq (hcs0.le _ _ (lE' _ _ q2E))]; rfl, ?_⟩
    refine ⟨fun m i F' => ∃ (k : Nat) (Ls : List Sl), i = k ∧ k ≤ (subs (tre a)).length ∧ m = (subs (tre a)).length - k ∧ CS E2 F' g N (subs (tre a)) k Ls, (subs (tre a)).length, ⟨0, Ls, rfl, by omega, rfl, hcs0⟩, ?_⟩
    clear hcs0 hnv0 hLl qg9 d9
    clear Ls
    rintro m i F11 ⟨k, Ls, rfl, hk, rfl, hcs⟩
    unfold b32L1
    refine ⟨fun hlt => ?_, fun hge => ?_⟩
    · have hkT : k < (subs (tre a)).length := by omega
      obtain ⟨hck, vv, lo', hi', hget, hlo, hhi, hok, _⟩ := cl_get hT k hkT
      have hlo2 := num_le hlo
      have hhi2 := num_le hhi
      rw [← num_take hlo, List.length_take] at hlo2
      rw [← num_take hhi, List.length_take] at hhi2
      have inl : inn (subs (tre a)) lo' := by rw [← List.take_append_drop k (subs (tre a))]; exact inn_append hlo
      have inh : inn (subs (tre a)) hi' := by rw [← List.take_append_drop k (subs (tre a))]; exact inn_append hhi
      have hk2 : tr (subs (tre a)) (k + 2) = node vv lo' hi' := by
        unfold tr
        rw [if_neg (by omega), if_neg (by omega), Nat.add_sub_cancel, List.getD_eq_getElem?_getD, hget]
        rfl
      obtain ⟨bn0, bn1, bn2⟩ : below N (node vv lo' hi') := (below_subs hbel _ (List.mem_of_getElem? hget)).1
      have hok' := hok
      obtain ⟨o1, o2, o3, o4, o5, o6⟩ := hok
      obtain ⟨p, hp, hrow, _⟩ := rdb (hr'.le (lFE2.trans hcs.le)) (brs_get hget)
      refine ⟨p, hp, by omega, hlt, barr (br (subs (tre a)) (node vv lo' hi')), rfl, by simpa using hrow, ?_⟩
      intro b13 hb13
      refine atI ?_
      refine stW (set_eq _ _ _) rfl rfl (st_barr _) ?_
      rw [set_twice]
      have hcs1 := hcs.upto (le_set_fresh (.cells (barr (br (subs (tre a)) (node vv lo' hi'))) 72) hb13)
      have q13 := set_eq F11 b13 (.cells (barr (br (subs (tre a)) (node vv lo' hi'))) 72)
      have n13 : b13 ≠ g := (ne_of_fresh hb13 hcs.hg).symm
      generalize F11.set b13 (.cells (barr (br (subs (tre a)) (node vv lo' hi'))) 72) = F12 at *
      have hwv : IntKind.i64.wrap ((vv : Int) + 1) = ((vv + 1 : Nat) : Int) := w64s (by omega)
      refine ⟨(num (subs (tre a)) lo' : Int), by rw [cell_eq q13]; rfl, (vv : Int), by rw [cell_eq q13]; rfl, ?_⟩
      rw [hwv]
      refine (doubled_spec ka hsl hN hce hcs1 inl bn1 (by omega) (by omega)).mono ?_
      rintro _ F13 ⟨sl, rfl, hsl1, l13⟩
      have hcs2 := hcs1.upto l13
      refine ⟨_, _, rfl, (num (subs (tre a)) hi' : Int), by rw [cell_eq (l13 _ _ q13)]; rfl, (vv : Int), by rw [cell_eq (l13 _ _ q13)]; rfl, ?_⟩
      rw [hwv]
      refine (doubled_spec ka hsl hN hce hcs2 inh bn2 (by omega) (by omega)).mono ?_
      rintro _ F14 ⟨sh, rfl, hsh1, l14⟩
      have hcs3 := hcs2.upto l14
      have hsl2 := hsl1.le (del1_mono (x := g) l14)
      have val : ∀ u : Tr, u.ok → below N u → vv < u.top → cv N u * 2 ^ (min N u.top - (vv + 1)) ≤ 18446744073709551616 := fun u hu hbu hvu => by
        refine Nat.le_trans (Nat.mul_le_mul_right _ (cv_le hN u hu hbu)) ?_
        rw [← Nat.pow_add]
        exact two64 (by omega)
      refine ⟨_, _, rfl, ?_⟩
      refine (addA hcs3.hg hsl2 hsh1 (val _ o5 bn1 o2) (val _ o6 bn2 o3)).mono ?_
      rintro _ F15 ⟨s', rfl, hs', l15, _⟩
      have hcs4 := hcs3.upto l15
      have hw4 : IntKind.i64.wrap ((k : Int) + 2) = ((k + 2 : Nat) : Int) := by rw [w64_eq (by omega) (by omega)]; omega
      refine ⟨_, _, rfl, fun hc => absurd rfl hc, fun _ => ?_⟩
      rw [hw4]
      refine ⟨_, le_cell hcs4.le hce.c9, _, rfl, by omega, by simp only; omega, ?_⟩
      refine st1' (b := g) (o := k + 2) (by simp; omega) hcs4.hg (by have := hcs4.len; simp; omega) ?_
      rw [List.setIfInBounds_toArray]
      have e1 : (Ls.map Sl.v).set (k + 2) s'.v = (Ls.set (k + 2) s').map Sl.v := by rw [List.map_set]
      rw [e1]
      have d15 : del1 (F15.set g (.cells ((Ls.set (k + 2) s').map Sl.v).toArray 57)) g = del1 F15 g := by
        funext y
        by_cases hy : y = g
        · subst hy; rw [del1_1, del1_1]
        · rw [del1_of hy, del1_of hy, set_ne _ _ hy]
      refine ⟨(subs (tre a)).length - (k + 1), by omega, k + 1, Ls.set (k + 2) s', w64s (by omega), by omega, rfl, le_set_new hcs4.le hcs4.ng, hcs4.ng, set_eq _ _ _, by rw [List.length_set]; exact hcs4.len, fun j x hj hx => ?_⟩
      rw [d15]
      by_cases hjk : k + 2 = j
      · subst hjk
        rw [List.getElem?_set_self (by have := hcs4.len; omega)] at hx
        obtain rfl := Option.some.inj hx
        rw [hk2]
        exact hs'
      · rw [List.getElem?_set_ne hjk] at hx
        exact hcs4.nv j x (by omega) hx
    · obtain rfl : k = (subs (tre a)).length := by omega
      unfold b32j2
      have hnl := num_le (subs_inn ka)
      refine ⟨(num (subs (tre a)) (tre a) : Int), by rw [cell_eq (hcs.le _ _ (lE' _ _ q2E))]; rw [← e2]; rfl, ?_⟩
      refine (doubled_spec (from_ := 0) ka hsl hN hce hcs (subs_inn ka) hbel (by omega) (by omega)).mono ?_
      rintro _ F12 ⟨s', rfl, hs', l12⟩
      refine ⟨_, _, rfl, s', by rw [hcount], ?_, lFE2.trans (hcs.le.trans l12)⟩
      rw [hcount]
      unfold countT
      rw [Nat.sub_zero] at hs'
      exact hs'.le (del1_le _ _)
end
def leastT : Tr → Nat
  | leaf _ => 0
  | node v l h => if l = leaf false then leastT h ||| 2 ^ v else if h = leaf false then leastT l else min (leastT l) (leastT h ||| 2 ^ v)
theorem leastT_lt : ∀ (t : Tr), t.ok → leastT t < 18446744073709551616
  | leaf _, _ => by simp [leastT]
  | node v l h, ⟨h0, h1, h2, h3, h4, h5⟩ => by
    have il := leastT_lt l h4
    have ih := leastT_lt h h5
    have hp : leastT h ||| 2 ^ v < 2 ^ 64 := Nat.or_lt_two_pow (by omega) (Nat.pow_lt_pow_right (by decide) h0)
    unfold leastT
    split
    · omega
    · split
      · exact il
      · omega
theorem bit_or {x v : Nat} (hx : x < 18446744073709551616) (hv : v < 64) :
    (IntKind.u64.wrap ((BitVec.ofInt (IntKind.u64).bits (x : Int) ||| BitVec.ofInt (IntKind.u64).bits (IntKind.u64.wrap ((1 : Int) * 2 ^ (min (Int.toNat (v : Int)) (IntKind.u64).bits)))).toNat)) = ((x ||| 2 ^ v : Nat) : Int) := by
  have hm : min (Int.toNat (v : Int)) (IntKind.u64).bits = v := by simp only [IntKind.bits, Int.toNat_natCast]; omega
  have hp : 2 ^ v < 2 ^ 64 := Nat.pow_lt_pow_right (by decide) hv
  have e1 : (1 : Int) * 2 ^ v = ((2 ^ v : Nat) : Int) := by simp
  have ho : x ||| 2 ^ v < 2 ^ 64 := Nat.or_lt_two_pow (by omega) hp
  rw [hm, e1]
  generalize 2 ^ v = w at *
  rw [wu64_eq (x := (w : Int)) (by omega) (by omega), BitVec.toNat_or, ofInt_nat _ hx, ofInt_nat _ (by omega), wu64_eq (by omega) (by omega)]
open Classical in
noncomputable def leastD (a : Dia) : Int × Bool := if chk a ≠ 0 then (0, false) else if tre a = leaf false then (0, false) else ((leastT (tre a) : Int), true)

/-- The least numbers so far. -/
def lsA (T : List Tr) (k : Nat) : List Value := (List.range (T.length + 2)).map fun j => Value.int .u64 (if j < k + 2 then (leastT (tr T j) : Int) else 0)
theorem lsA_get {T : List Tr} {k j : Nat} (h : j < k + 2) (hk : k ≤ T.length) : (lsA T k)[j]? = some (.int .u64 (leastT (tr T j))) := by
  unfold lsA
  rw [List.getElem?_map, List.getElem?_range (by omega)]
  simp [h]
theorem lsA_zero (T : List Tr) : List.replicate (T.length + 2) (Value.int .u64 0) = lsA T 0 := by
  apply List.ext_getElem?
  intro j
  unfold lsA
  rw [List.getElem?_map]
  by_cases hj : j < T.length + 2
  · rw [List.getElem?_range hj]
    simp only [Option.map_some, List.getElem?_replicate]
    rw [if_pos hj]
    match j, hj with
    | 0, _ => rfl
    | 1, _ => rfl
    | j + 2, hj => rw [if_neg (by omega)]
  · have e2 : (List.range (T.length + 2))[j]? = none := by simp; omega
    rw [e2]
    simp only [List.getElem?_replicate, Option.map_none]
    rw [if_neg (by omega)]
theorem lsA_step {T : List Tr} {k : Nat} (hk : k < T.length) : (lsA T k).set (k + 2) (.int .u64 (leastT (tr T (k + 2)))) = lsA T (k + 1) := by
  apply List.ext_getElem?
  intro j
  unfold lsA
  rw [List.getElem?_set, List.getElem?_map, List.getElem?_map]
  by_cases hj : j < T.length + 2
  · rw [List.getElem?_range hj]
    simp only [Option.map_some, List.length_map, List.length_range]
    by_cases h1 : k + 2 = j
    · subst h1
      simp
      omega
    · rw [if_neg h1]
      by_cases h2 : j < k + 2
      · rw [if_pos h2, if_pos (by omega)]
      · rw [if_neg h2, if_neg (by omega)]
  · have e2 : (List.range (T.length + 2))[j]? = none := by simp; omega
    rw [e2]
    simp only [Option.map_none]
    rw [if_neg (by omega)]
theorem num_zero {S : List Tr} {t : Tr} : num S t = 0 ↔ t = leaf false := by
  cases t with
  | leaf b => cases b <;> simp [num]
  | node v l h => have := num_ge (S := S) (t := node v l h) rfl; constructor
                  · intro h; omega
                  · intro h; cases h

section
variable {F : PH} {v : Array Value} {a : Dia}
theorem least_spec (ha : DV F v a) : Spec prog 31 #[.agg v] F fun r F' => r = .tuple #[.int .u64 (leastD a).1, .bool (leastD a).2] ∧ F.le F' := by
  have ha' := ha
  obtain ⟨s, rfl, hr⟩ := ha
  refine c31 ?_
  unfold b31
  intro b1 hb1
  refine atI ?_
  have l1 := le_set_fresh (.cells #[s.v, vi a.2] 28) hb1
  have q1 := set_eq F b1 (.cells #[s.v, vi a.2] 28)
  generalize F.set b1 (.cells #[s.v, vi a.2] 28) = F2 at *
  refine ⟨_, rfl, row_whole q1, ?_⟩
  refine (check_spec (ha'.le l1)).mono ?_
  rintro _ F3 ⟨rfl, lx⟩
  replace q1 := lx _ _ q1
  have l3 := l1.trans lx
  clear lx
  refine ⟨_, rfl, fun h => ?_, fun h => ?_⟩
  · refine ⟨?_, l3⟩
    unfold leastD
    rw [if_pos h]
  have h0 : chk a = 0 := by omega
  obtain ⟨ka, ea, la⟩ := chk0 h0
  have hT := subs_cl ka
  have hr' : RdS F s 3 (bflat (brs (subs (tre a)))) := by rw [ea] at hr; exact hr
  have hlen := hr'.blen
  rw [brs_length] at hlen
  have hsl := subs_tre h0
  have e2 : a.2 = (num (subs (tre a)) (tre a) : Int) := by conv => lhs; rw [ea]
                                                           rfl
  refine ⟨a.2, by rw [cell_eq q1]; rfl, fun hz => ?_, fun hz => ?_⟩
  · refine ⟨?_, l3⟩
    have : tre a = leaf false := (num_zero (S := subs (tre a))).1 (by omega)
    unfold leastD
    rw [if_neg h, if_pos this]
  have hne : ¬ tre a = leaf false := fun e => hz (by
    have := (num_zero (S := subs (tre a)) (t := tre a)).2 e
    omega)
  have hld : leastD a = ((leastT (tre a) : Int), true) := by unfold leastD; rw [if_neg h, if_neg hne]
  have hw2 : IntKind.i64.wrap ((s.len : Int) + 2) = (((subs (tre a)).length + 2 : Nat) : Int) := by rw [hlen, w64_eq (by omega) (by omega)]; omega
  refine ⟨s, by rw [cell_eq q1]; rfl, ?_⟩
  rw [hw2]
  refine runs_makeSlice underlying92 sz39 zr39 rfl (by omega) (Int.le_refl _) (by omega) (by omega) ?_
  intro g hg
  rw [zc1 _ rfl, Int.toNat_natCast, lsA_zero]
  have fg : F g = none := le_none l3 hg
  have l4 := l3.trans (le_set_fresh (.cells (lsA (subs (tre a)) 0).toArray 39) hg)
  have q1' := le_set_fresh (.cells (lsA (subs (tre a)) 0).toArray 39) hg _ _ q1
  have qg := set_eq F3 g (.cells (lsA (subs (tre a)) 0).toArray 39)
  generalize F3.set g (.cells (lsA (subs (tre a)) 0).toArray 39) = F4 at *
  have n1 : b1 ≠ g := ne_of_fresh hg q1
  refine ⟨_, rfl, s, by rw [cell_eq q1']; rfl, ?_⟩
  refine ⟨fun m i F' => ∃ k : Nat, i = k ∧ k ≤ (subs (tre a)).length ∧ m = (subs (tre a)).length - k ∧ F.le F' ∧ F' b1 = some (.cells #[s.v, vi a.2] 28) ∧ F' g = some (.cells (lsA (subs (tre a)) k).toArray 39), (subs (tre a)).length,
    ⟨0, rfl, by omega, rfl, l4, q1', qg⟩, ?_⟩
  rintro m i F5 ⟨k, rfl, hk, rfl, l5, q15, qg5⟩
  unfold b31L1
  refine ⟨fun hlt => ?_, fun hge => ?_⟩
  · have hkT : k < (subs (tre a)).length := by omega
    obtain ⟨hck, vv, lo', hi', hget, hlo, hhi, hok, _⟩ := cl_get hT k hkT
    have hlo2 := num_le hlo
    have hhi2 := num_le hhi
    rw [← num_take hlo, List.length_take] at hlo2
    rw [← num_take hhi, List.length_take] at hhi2
    have inl : inn (subs (tre a)) lo' := by rw [← List.take_append_drop k (subs (tre a))]; exact inn_append hlo
    have inh : inn (subs (tre a)) hi' := by rw [← List.take_append_drop k (subs (tre a))]; exact inn_append hhi
    have hk2 : tr (subs (tre a)) (k + 2) = node vv lo' hi' := by
      unfold tr
      rw [if_neg (by omega), if_neg (by omega), Nat.add_sub_cancel, List.getD_eq_getElem?_getD, hget]
      rfl
    obtain ⟨o1, o2, o3, o4, o5, o6⟩ := hok
    obtain ⟨p, hp, hrow, _⟩ := rdb (hr'.le l5) (brs_get hget)
    refine ⟨p, hp, by omega, hlt, barr (br (subs (tre a)) (node vv lo' hi')), rfl, by simpa using hrow, ?_⟩
    intro b6 hb6
    refine atI ?_
    refine stW (set_eq _ _ _) rfl rfl (st_barr _) ?_
    rw [set_twice]
    have lx := le_set_fresh (.cells (barr (br (subs (tre a)) (node vv lo' hi'))) 72) hb6
    have q6 := set_eq F5 b6 (.cells (barr (br (subs (tre a)) (node vv lo' hi'))) 72)
    replace q15 := lx _ _ q15
    replace qg5 := lx _ _ qg5
    have l6 := l5.trans lx
    clear lx
    generalize F5.set b6 (.cells (barr (br (subs (tre a)) (node vv lo' hi'))) 72) = F6 at *
    have gl : (lsA (subs (tre a)) k)[num (subs (tre a)) lo']? = some (.int .u64 (leastT lo')) := by rw [lsA_get (by omega) (by omega), tr_num hT inl]
    have gh : (lsA (subs (tre a)) k)[num (subs (tre a)) hi']? = some (.int .u64 (leastT hi')) := by rw [lsA_get (by omega) (by omega), tr_num hT inh]
    have hw4 : IntKind.i64.wrap ((k : Int) + 2) = ((k + 2 : Nat) : Int) := by rw [w64_eq (by omega) (by omega)]; omega
    have hw1 : IntKind.i64.wrap ((k : Int) + 1) = ((k + 1 : Nat) : Int) := w64s (by omega)
    have hor := bit_or (leastT_lt hi' o6) o1
    have zl : (num (subs (tre a)) lo' : Int) = 0 ↔ lo' = leaf false := by rw [← num_zero (S := subs (tre a))]; omega
    have zh : (num (subs (tre a)) hi' : Int) = 0 ↔ hi' = leaf false := by rw [← num_zero (S := subs (tre a))]; omega
    have hln : leastT (node vv lo' hi') = if lo' = leaf false then leastT hi' ||| 2 ^ vv else if hi' = leaf false then leastT lo' else min (leastT lo') (leastT hi' ||| 2 ^ vv) := by conv => lhs; unfold leastT
    -- the store and the next round
    have rest : ∀ (x : Int), x = (leastT (node vv lo' hi') : Int) → ∀ {N : Int → PH → Prop} {R : Value → PH → Prop},
        (∀ F', F.le F' → F' b1 = some (.cells #[s.v, vi a.2] 28) → F' g = some (.cells (lsA (subs (tre a)) (k + 1)).toArray 39) → N ((k + 1 : Nat) : Int) F') →
        ∃ a50_ : Addr, (some (Addr.mk g 0 none)) = some a50_ ∧ 0 ≤ (IntKind.i64.wrap ((k : Int) + (2 : Int))) ∧ (IntKind.i64.wrap ((k : Int) + (2 : Int))) < (((subs (tre a)).length + 2 : Nat) : Int) ∧
        ∃ c e, F6 (Addr.add a50_ (Int.toNat (IntKind.i64.wrap ((k : Int) + (2 : Int))) * 1)).block = some (.cells c e (0, 0)) ∧ (Addr.add a50_ (Int.toNat (IntKind.i64.wrap ((k : Int) + (2 : Int))) * 1)).spot = none ∧ (Addr.add a50_ (Int.toNat (IntKind.i64.wrap ((k : Int) + (2 : Int))) * 1)).off < c.size ∧
        atF (F6.set (Addr.add a50_ (Int.toNat (IntKind.i64.wrap ((k : Int) + (2 : Int))) * 1)).block (.cells (c.setIfInBounds (Addr.add a50_ (Int.toNat (IntKind.i64.wrap ((k : Int) + (2 : Int))) * 1)).off (Value.int .u64 x)) e)) fun F =>
        b31j2 N b1 ⟨some ⟨g, 0, none⟩, (subs (tre a)).length + 2, (subs (tre a)).length + 2⟩ s k R F := by
      intro x hx N R hN
      rw [hw4]
      refine ⟨_, rfl, by omega, by omega, ?_⟩
      refine st1' (b := g) (o := k + 2) (by simp; omega) qg5 (by simp [lsA]; omega) ?_
      rw [List.setIfInBounds_toArray, hx, ← hk2, lsA_step hkT]
      unfold b31j2
      rw [hw1]
      exact hN _ (le_set_new l6 fg) (by rw [set_ne _ _ n1]; exact q15) (set_eq _ _ _)
    have done : ∀ F' : PH, F.le F' → F' b1 = some (.cells #[s.v, vi a.2] 28) → F' g = some (.cells (lsA (subs (tre a)) (k + 1)).toArray 39) → ∃ m', m' < (subs (tre a)).length - k ∧ ∃ k' : Nat, ((k + 1 : Nat) : Int) = k' ∧ k' ≤ (subs (tre a)).length ∧ m' = (subs (tre a)).length - k' ∧ F.le F' ∧ F' b1 = some (.cells #[s.v, vi a.2] 28) ∧ F' g = some (.cells (lsA (subs (tre a)) k').toArray 39) := fun F' h1 h2 h3 =>
      ⟨(subs (tre a)).length - (k + 1), by omega, k + 1, rfl, by omega, rfl, h1, h2, h3⟩
    have c1 : F6.cell ⟨b6, 1, none⟩ = some (vi (num (subs (tre a)) lo')) := by rw [cell_eq q6]; rfl
    have c2 : F6.cell ⟨b6, 2, none⟩ = some (vi (num (subs (tre a)) hi')) := by rw [cell_eq q6]; rfl
    have c0 : F6.cell ⟨b6, 0, none⟩ = some (vi vv) := by rw [cell_eq q6]; rfl
    refine ⟨_, c1, _, rfl, by omega, by simp only; omega, (leastT lo' : Int), by simp only [add_mk]; rw [cell_eq qg5]; simpa using gl, _, c2, _, rfl, by omega, by simp only; omega, (leastT hi' : Int), by simp only [add_mk]; rw [cell_eq qg5]; simpa using gh, _, c0, by omega, _, c1, fun hz1 => ?_, fun hz1 => ?_⟩
    · rw [hor]
      exact rest _ (by rw [hln, if_pos (zl.1 hz1)]) done
    · have hl0 : ¬ lo' = leaf false := fun e => hz1 (zl.2 e)
      refine ⟨_, c2, fun hz2 => ?_, fun hz2 => ?_⟩
      · exact rest _ (by rw [hln, if_neg hl0, if_pos (zh.1 hz2)]) done
      · rw [hor]
        exact rest _ (by rw [hln, if_neg hl0, if_neg (fun e => hz2 (zh.2 e))]; omega) done
  · obtain rfl : k = (subs (tre a)).length := by omega
    unfold b31j1
    have hnl := num_le (subs_inn ka)
    have gt : (lsA (subs (tre a)) (subs (tre a)).length)[num (subs (tre a)) (tre a)]? = some (.int .u64 (leastT (tre a))) := by rw [lsA_get (by omega) (by omega), tr_num hT (subs_inn ka)]
    refine ⟨(num (subs (tre a)) (tre a) : Int), by rw [cell_eq q15, ← e2]; rfl, _, rfl, by omega, by simp only; omega, (leastT (tre a) : Int), by simp only [add_mk]; rw [cell_eq qg5]; simpa using gt, by rw [hld], l5⟩
end
end Go.Proofs.Ytafojmoeaneedaa
