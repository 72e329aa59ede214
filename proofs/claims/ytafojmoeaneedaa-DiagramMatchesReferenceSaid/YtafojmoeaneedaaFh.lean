/-
  The diagrams: meets, Within, Disjoint.
-/
import Derived.Test.YtafojmoeaneedaaEk
import Derived.Test.YtafojmoeaneedaaGg
namespace Go.Proofs.Ytafojmoeaneedaa
open Go Go.Proofs.Try Tr
set_option maxRecDepth 10000

/-- A configuration of x at which y says both. -/
def hit (x y : Tr) (both : Bool) : Prop := ∃ c, x.ev c = true ∧ y.ev c = both
theorem ex_ev {t : Tr} (h : t.ok) (hn : t ≠ leaf false) : ∃ c, t.ev c = true := by
  apply Classical.byContradiction
  intro hne
  exact hn (eq_of_ev h trivial fun c => by
    cases hc : t.ev c with
    | true => exact absurd ⟨c, hc⟩ hne
    | false => rfl)
theorem hit_step {x y : Tr} {both : Bool} {v : Nat} (hx : x.ok) (hy : y.ok) (h1 : v ≤ x.top) (h2 : v ≤ y.top) (hv : v < 64) : hit x y both ↔ hit (lo v x) (lo v y) both ∨ hit (hi v x) (hi v y) both := by
  obtain ⟨xl1, xl2, _, _, xl⟩ := lo_facts hx h1
  obtain ⟨yl1, yl2, _, _, yl⟩ := lo_facts hy h2
  obtain ⟨xh1, xh2, _, _, xh⟩ := hi_facts hx h1
  obtain ⟨yh1, yh2, _, _, yh⟩ := hi_facts hy h2
  constructor
  · rintro ⟨c, a, b⟩
    cases hc : c v with
    | false => exact .inl ⟨c, by rw [xl c hc]; exact a, by rw [yl c hc]; exact b⟩
    | true => exact .inr ⟨c, by rw [xh c hc]; exact a, by rw [yh c hc]; exact b⟩
  · rintro (⟨c, a, b⟩ | ⟨c, a, b⟩)
    · have hc : (c.set v false) v = false := by unfold Cf.set; simp
      exact ⟨c.set v false, by rw [← xl _ hc, ev_set xl1 (xl2 hv)]; exact a, by rw [← yl _ hc, ev_set yl1 (yl2 hv)]; exact b⟩
    · have hc : (c.set v true) v = true := by unfold Cf.set; simp
      exact ⟨c.set v true, by rw [← xh _ hc, ev_set xh1 (xh2 hv)]; exact a, by rw [← yh _ hc, ev_set yh1 (yh2 hv)]; exact b⟩

theorem cb104 : callableB prog 104 = true := by kernel_rfl
section
variable {ta tb : Tr} {both : Bool} {b3 b4 b5 b7 b8 b9 : Nat}
abbrev mcaps (b3 b4 b5 b7 b8 : Nat) : Array Value := #[.pointer (some ⟨b5, 0, none⟩), .pointer (some ⟨b7, 0, none⟩), .pointer (some ⟨b3, 0, none⟩), .pointer (some ⟨b4, 0, none⟩), .pointer (some ⟨b8, 0, none⟩)]
structure ME (E : PH) (ta tb : Tr) (both : Bool) (b3 b4 b5 b7 b8 b9 : Nat) : Prop where
  c3 : ∃ w, E.row ⟨b3, 0, none⟩ w ∧ DV E w (dia ta)
  c4 : ∃ w, E.row ⟨b4, 0, none⟩ w ∧ DV E w (dia tb)
  c5 : E.cell ⟨b5, 0, none⟩ = some (.bool both)
  c7 : E.cell ⟨b7, 0, none⟩ = some (.map (some b9))
  c8 : E.cell ⟨b8, 0, none⟩ = some (.func (.func 104) #[] (mcaps b3 b4 b5 b7 b8))
def mkey (ta tb x y : Tr) : Int × Int := ((num (subs ta) x : Int), (num (subs tb) y : Int))
structure MS (E F : PH) (b9 : Nat) (m : Int × Int → Option Value) : Prop where
  le : E.le F
  n9 : E b9 = none
  mp : ∃ o, F b9 = some o ∧ MapO enc2 m o
  val : ∀ k v, m k = some v → v = .bool true
theorem MS.upto {E F G : PH} {m : Int × Int → Option Value} (h : MS E F b9 m) (hl : F.le G) : MS E G b9 m := by
  obtain ⟨h1, h2, ⟨o, h3, h4⟩, h5⟩ := h
  exact ⟨h1.trans hl, h2, ⟨o, hl _ _ h3, h4⟩, h5⟩
/-- What the marked pairs, up to a size, say. -/
def MOK (ta tb : Tr) (both : Bool) (n : Nat) (m : Int × Int → Option Value) : Prop := ∀ x y, inn (subs ta) x → inn (subs tb) y → m (mkey ta tb x y) ≠ none → x.sz + y.sz ≤ n → ¬ hit x y both
/-- What a call adds. -/
def MAdd (ta tb : Tr) (both : Bool) (m m' : Int × Int → Option Value) : Prop := ∀ x y, inn (subs ta) x → inn (subs tb) y → m' (mkey ta tb x y) ≠ none → m (mkey ta tb x y) ≠ none ∨ ¬ hit x y both
def MSpec (ta tb : Tr) (both : Bool) (b3 b4 b5 b7 b8 b9 : Nat) (x y : Tr) : Prop := ∀ (E F : PH) (m : Int × Int → Option Value), ME E ta tb both b3 b4 b5 b7 b8 b9 → MS E F b9 m → MOK ta tb both (x.sz + y.sz) m →
  Spec prog 104 (#[vi (num (subs ta) x), vi (num (subs tb) y)] ++ mcaps b3 b4 b5 b7 b8) F fun r F' => ∃ h m', r = .bool h ∧ MS E F' b9 m' ∧ (h = true → hit x y both) ∧ (h = false → ¬ hit x y both ∧ MAdd ta tb both m m')

theorem meets_rest {x y : Tr} {E F : PH} {m : Int × Int → Option Value} (ka : ta.ok) (kb : tb.ok) (fa : Fit ((subs ta).length + 2)) (fb : Fit ((subs tb).length + 2)) (ix : inn (subs ta) x) (iy : inn (subs tb) y)
    (ih : ∀ x' y', inn (subs ta) x' → inn (subs tb) y' → x'.sz + y'.sz < x.sz + y.sz → MSpec ta tb both b3 b4 b5 b7 b8 b9 x' y')
    (he : ME E ta tb both b3 b4 b5 b7 b8 b9) (hs : MS E F b9 m) (ho : MOK ta tb both (x.sz + y.sz) m) (hx : x ≠ leaf false) (hy : ∀ b, y = leaf b → b = both) :
    b104j1 (num (subs ta) x) (num (subs tb) y) (some ⟨b7, 0, none⟩) (some ⟨b3, 0, none⟩) (some ⟨b4, 0, none⟩) (some ⟨b8, 0, none⟩)
      (fun r F' => ∃ h m', r = .bool h ∧ MS E F' b9 m' ∧ (h = true → hit x y both) ∧ (h = false → ¬ hit x y both ∧ MAdd ta tb both m m')) F := by
  have cla := subs_cl ka
  have clb := subs_cl kb
  have okx := cla.inn_ok ix
  have oky := clb.inn_ok iy
  unfold b104j1
  refine ⟨fun h => ?_, fun h => ?_⟩
  · have hl := num_lt2 (S := subs tb) (t := y) (by omega)
    cases y with
    | node _ _ _ => cases hl
    | leaf b =>
      obtain rfl := hy b rfl
      obtain ⟨c, hc⟩ := ex_ev okx hx
      exact ⟨true, m, rfl, hs, fun _ => ⟨c, hc, rfl⟩, fun h => by cases h⟩
  · have nly : y.isL = false := by
      cases y with
      | node _ _ _ => rfl
      | leaf b => have := num_leaf_le (subs tb) b; omega
    have hty := top_lt oky nly
    obtain ⟨o, hm, hmo⟩ := hs.mp
    have hlk := rdo_lookup (F := F) mt2 hm hmo (mkey ta tb x y) false
    rw [if_neg (by simp)] at hlk
    refine ⟨_, rfl, _, le_cell hs.le he.c7, ?_⟩
    cases hmk : m (mkey ta tb x y) with
    | some w =>
      rw [hmk] at hlk
      obtain rfl := hs.val _ _ hmk
      refine ⟨true, hlk, fun _ => ⟨false, m, rfl, hs, fun h => (by cases h), fun _ => ⟨ho x y ix iy (by rw [hmk]; simp) (Nat.le_refl _), fun x' y' _ _ h => .inl h⟩⟩, fun h => by cases h⟩
    | none =>
      rw [hmk] at hlk
      refine ⟨false, hlk, fun h => (by cases h), fun _ => ⟨_, le_cell hs.le he.c7, ?_⟩⟩
      refine runs_mapUpdate mt2 hm hmo (mkey ta tb x y) _ fun o' ho' => ?_
      have hs1 : MS E (F.set b9 o') b9 (fun k' => if k' = mkey ta tb x y then some (.bool true) else m k') := ⟨le_set_new hs.le hs.n9, hs.n9, ⟨o', set_eq _ _ _, ho'⟩, fun k v hk => by
        by_cases hkk : k = mkey ta tb x y
        · rw [if_pos hkk] at hk; exact (Option.some.inj hk).symm
        · rw [if_neg hkk] at hk; exact hs.val _ _ hk⟩
      have mem1 : ∀ x' y', inn (subs ta) x' → inn (subs tb) y' → (if mkey ta tb x' y' = mkey ta tb x y then some (Value.bool true) else m (mkey ta tb x' y')) ≠ none → (x' = x ∧ y' = y) ∨ m (mkey ta tb x' y') ≠ none := fun x' y' ix' iy' h => by
        by_cases hkk : mkey ta tb x' y' = mkey ta tb x y
        · unfold mkey at hkk
          simp only [Prod.mk.injEq] at hkk
          exact .inl ⟨num_inj ix' ix (by omega), num_inj iy' iy (by omega)⟩
        · rw [if_neg hkk] at h; exact .inr h
      generalize F.set b9 o' = F1 at *
      obtain ⟨w3, r3, d3⟩ := he.c3
      obtain ⟨w4, r4, d4⟩ := he.c4
      have f3 : Fit ((dia ta).1.length + 2) := by show Fit ((brs (subs ta)).length + 2); rw [brs_length]; exact fa
      have f4 : Fit ((dia tb).1.length + 2) := by show Fit ((brs (subs tb)).length + 2); rw [brs_length]; exact fb
      refine ⟨_, rfl, w3, d3.size, row_le hs1.le r3, _, rfl, w4, d4.size, row_le hs1.le r4, ?_⟩
      refine (level_spec (S := subs ta) (d3.le hs1.le) (List.prefix_refl _) ix f3).mono ?_
      rintro _ F2 ⟨rfl, l2⟩
      have hs2 := hs1.upto l2
      refine ⟨_, rfl, row_le hs2.le r4, ?_⟩
      refine (level_spec (S := subs tb) (d4.le hs2.le) (List.prefix_refl _) iy f4).mono ?_
      rintro _ F3 ⟨rfl, l3⟩
      have hs3 := hs2.upto l3
      refine ⟨_, rfl, w3, d3.size, row_le hs3.le r3, ?_⟩
      have hmin : min (x.top : Int) (y.top : Int) = ((min x.top y.top : Nat) : Int) := by omega
      rw [hmin]
      have vx : min x.top y.top ≤ x.top := by omega
      have vy : min x.top y.top ≤ y.top := by omega
      have hv : min x.top y.top < 64 := by omega
      have hcase : min x.top y.top = x.top ∨ min x.top y.top = y.top := by omega
      generalize min x.top y.top = v at *
      refine (sides_spec (S := subs ta) (d3.le hs3.le) (List.prefix_refl _) ix f3 hv).mono ?_
      rintro _ F4 ⟨rfl, l4⟩
      have hs4 := hs3.upto l4
      refine ⟨_, _, rfl, w4, d4.size, row_le hs4.le r4, ?_⟩
      refine (sides_spec (S := subs tb) (d4.le hs4.le) (List.prefix_refl _) iy f4 hv).mono ?_
      rintro _ F5 ⟨rfl, l5⟩
      have hs5 := hs4.upto l5
      clear hs4 hs3 hs2 hs1
      obtain ⟨_, _, xs1, xs2, _⟩ := lo_facts okx vx
      obtain ⟨_, _, ys1, ys2, _⟩ := lo_facts oky vy
      obtain ⟨_, _, xs3, xs4, _⟩ := hi_facts okx vx
      obtain ⟨_, _, ys3, ys4, _⟩ := hi_facts oky vy
      have nl : ∀ {t : Tr}, v = t.top → t.isL = false := fun {t} e => by
        cases t with
        | leaf b => simp only [top] at e; omega
        | node _ _ _ => rfl
      have sl : (lo v x).sz + (lo v y).sz < x.sz + y.sz := by
        rcases hcase with e | e
        · have := xs2 e.symm (nl e); omega
        · have := ys2 e.symm (nl e); omega
      have sh : (hi v x).sz + (hi v y).sz < x.sz + y.sz := by
        rcases hcase with e | e
        · have := xs4 e.symm (nl e); omega
        · have := ys4 e.symm (nl e); omega
      have step := hit_step (both := both) okx oky vx vy hv
      have ilx := cla.inn_lo ix v
      have ily := clb.inn_lo iy v
      have ihx := cla.inn_hi ix v
      have ihy := clb.inn_hi iy v
      refine ⟨_, _, rfl, _, rfl, _, le_cell hs5.le he.c8, _, _, _, rfl, cb104, ?_⟩
      refine (ih _ _ ilx ily sl E F5 _ he hs5 (fun x' y' ix' iy' h hsz => ?_)).mono ?_
      · rcases mem1 x' y' ix' iy' h with ⟨rfl, rfl⟩ | h
        · omega
        · exact ho x' y' ix' iy' h (by omega)
      rintro _ F6 ⟨h1, m1, rfl, hs6, ht1, hf1⟩
      refine ⟨_, rfl, fun h => ⟨true, m1, rfl, hs6, fun _ => step.2 (.inl (ht1 h)), fun h => by cases h⟩, fun h => ?_⟩
      obtain ⟨n1, a1⟩ := hf1 h
      refine ⟨_, le_cell hs6.le he.c8, _, _, _, rfl, cb104, ?_⟩
      refine (ih _ _ ihx ihy sh E F6 _ he hs6 (fun x' y' ix' iy' h hsz => ?_)).mono ?_
      · rcases a1 x' y' ix' iy' h with h | h
        · rcases mem1 x' y' ix' iy' h with ⟨rfl, rfl⟩ | h
          · omega
          · exact ho x' y' ix' iy' h (by omega)
        · exact h
      rintro _ F7 ⟨h2, m2, rfl, hs7, ht2, hf2⟩
      refine ⟨_, rfl, h2, m2, rfl, hs7, fun h => step.2 (.inr (ht2 h)), fun h => ?_⟩
      obtain ⟨n2, a2⟩ := hf2 h
      have nxy : ¬ hit x y both := fun hh => (step.1 hh).elim n1 n2
      refine ⟨nxy, fun x' y' ix' iy' h => ?_⟩
      rcases a2 x' y' ix' iy' h with h | h
      · rcases a1 x' y' ix' iy' h with h | h
        · rcases mem1 x' y' ix' iy' h with ⟨rfl, rfl⟩ | h
          · exact .inr nxy
          · exact .inl h
        · exact .inr h
      · exact .inr h
theorem meets_at (ka : ta.ok) (kb : tb.ok) (fa : Fit ((subs ta).length + 2)) (fb : Fit ((subs tb).length + 2)) : ∀ (n : Nat) (x y : Tr), x.sz + y.sz ≤ n → inn (subs ta) x → inn (subs tb) y → MSpec ta tb both b3 b4 b5 b7 b8 b9 x y := by
  intro n
  induction n with
  | zero => intro x y hn; have := sz_pos x; omega
  | succ n ih =>
    intro x y hn ix iy E F m he hs ho
    show Spec prog 104 #[vi (num (subs ta) x), vi (num (subs tb) y), _, _, _, _, _] F _
    refine c104 ?_
    unfold b104
    have rest : x ≠ leaf false → (∀ b, y = leaf b → b = both) → _ := fun hx hy => meets_rest (b3 := b3) (b4 := b4) (b5 := b5) (b7 := b7) (b8 := b8) ka kb fa fb ix iy (fun x' y' ix' iy' h => ih x' y' (by omega) ix' iy') he hs ho hx hy
    refine ⟨fun h => ?_, fun h => ?_⟩
    · have e : x = leaf false := num_inj (S := subs ta) ix (.inl rfl) (by rw [num_leaf]; simpa using h)
      subst e
      exact ⟨false, m, rfl, hs, fun h => (by cases h), fun _ => ⟨fun ⟨c, h, _⟩ => (by cases h), fun x' y' _ _ h => .inl h⟩⟩
    · have hx : x ≠ leaf false := fun e => h (by rw [e, num_leaf]; rfl)
      refine ⟨fun h2 => ?_, fun h2 => rest hx fun b hb => ?_⟩
      · have hl := num_lt2 (S := subs tb) (t := y) (by omega)
        cases y with
        | node _ _ _ => cases hl
        | leaf b =>
          have eb : decide ((num (subs tb) (leaf b) : Int) = 1) = b := by rw [num_leaf]; cases b <;> simp
          refine ⟨_, rfl, both, le_cell hs.le he.c5, ?_⟩
          rw [eb]
          refine ⟨fun h3 => ?_, fun h3 => rest hx fun b' hb' => ?_⟩
          · refine ⟨false, m, rfl, hs, fun h => (by cases h), fun _ => ⟨fun ⟨c, _, hc⟩ => ?_, fun x' y' _ _ h => .inl h⟩⟩
            have hc' : b = both := hc
            rw [hc'] at h3
            simp at h3
          · cases hb'
            simpa using h3
      · rw [hb, num_leaf] at h2
        exfalso
        revert h2
        split <;> omega
end

open Classical in
noncomputable def hitB (x y : Tr) (both : Bool) : Bool := decide (hit x y both)
theorem hitB_iff {x y : Tr} {both : Bool} : hitB x y both = true ↔ hit x y both := by unfold hitB; simp
theorem meets_spec {F : PH} {v w : Array Value} {ta tb : Tr} {both : Bool} (ha : DV F v (dia ta)) (hb : DV F w (dia tb)) (ka : ta.ok) (kb : tb.ok) (fa : Fit ((subs ta).length + 2)) (fb : Fit ((subs tb).length + 2)) :
    Spec prog 86 #[.agg v, .agg w, .bool both] F fun r F' => r = .bool (hitB ta tb both) ∧ F.le F' := by
  refine c86 ?_
  unfold b86
  intro b3 hb3
  refine atI ?_
  have l3 := le_set_fresh (.cells v 28) hb3
  have q3 := set_eq F b3 (.cells v 28)
  generalize F.set b3 (.cells v 28) = F3 at *
  intro b4 hb4
  refine atI ?_
  have lx := le_set_fresh (.cells w 28) hb4
  have q4 := set_eq F3 b4 (.cells w 28)
  replace q3 := lx _ _ q3
  have l4 := l3.trans lx
  clear lx
  generalize F3.set b4 (.cells w 28) = F4 at *
  intro b5 hb5
  refine atI ?_
  have lx := le_set_fresh (.cells #[Value.bool both] 4) hb5
  have q5 := set_eq F4 b5 (.cells #[Value.bool both] 4)
  replace q3 := lx _ _ q3
  replace q4 := lx _ _ q4
  have l5 := l4.trans lx
  clear lx
  generalize F4.set b5 (.cells #[Value.bool both] 4) = F5 at *
  intro b9 hb9
  refine atI ?_
  intro b7 hb7
  refine atI ?_
  refine st1 (set_eq _ _ _) (by simp) ?_
  rw [set_twice, show (#[Value.map none].setIfInBounds (Addr.mk b7 0 none).off (Value.map (some b9)) : Array Value) = #[Value.map (some b9)] from rfl]
  intro b8 hb8
  refine atI ?_
  refine st1 (set_eq _ _ _) (by simp) ?_
  rw [set_twice]
  have n97 : b9 ≠ b7 := ne_of_fresh hb7 (set_eq _ _ _)
  have n98 : b9 ≠ b8 := fun e => by rw [e] at hb8; rw [← e, set_ne _ _ n97, set_eq] at hb8; cases hb8
  have n78 : b7 ≠ b8 := ne_of_fresh hb8 (set_eq _ _ _)
  have h57 : F5 b7 = none := by rw [set_ne _ _ (Ne.symm n97)] at hb7; exact hb7
  have h58 : F5 b8 = none := by rw [set_ne _ _ (Ne.symm n78), set_ne _ _ (Ne.symm n98)] at hb8; exact hb8
  -- E: all but the map
  have hE7 := le_set_fresh (.cells #[Value.map (some b9)] 121) h57
  have h78 : (F5.set b7 (.cells #[Value.map (some b9)] 121)) b8 = none := by rw [set_ne _ _ (Ne.symm n78)]; exact h58
  have hE8 := hE7.trans (le_set_fresh (.cells #[Value.func (.func 104) #[] (mcaps b3 b4 b5 b7 b8)] 122) h78)
  have e7 : ((F5.set b7 (.cells #[Value.map (some b9)] 121)).set b8 (.cells #[Value.func (.func 104) #[] (mcaps b3 b4 b5 b7 b8)] 122)) b7 = some (.cells #[Value.map (some b9)] 121) := by rw [set_ne _ _ n78, set_eq]
  have e8 := set_eq (F5.set b7 (.cells #[Value.map (some b9)] 121)) b8 (.cells #[Value.func (.func 104) #[] (mcaps b3 b4 b5 b7 b8)] 122)
  have e9 : ((F5.set b7 (.cells #[Value.map (some b9)] 121)).set b8 (.cells #[Value.func (.func 104) #[] (mcaps b3 b4 b5 b7 b8)] 122)) b9 = none := by rw [set_ne _ _ n98, set_ne _ _ n97]; exact hb9
  have hs0 : MS ((F5.set b7 (.cells #[Value.map (some b9)] 121)).set b8 (.cells #[Value.func (.func 104) #[] (mcaps b3 b4 b5 b7 b8)] 122))
      (((F5.set b9 (.map #[] 0)).set b7 (.cells #[Value.map (some b9)] 121)).set b8 (.cells #[Value.func (.func 104) #[] (mcaps b3 b4 b5 b7 b8)] 122)) b9 (fun _ => none) := by
    refine ⟨fun z ob hz => ?_, e9, ⟨_, by rw [set_ne _ _ n98, set_ne _ _ n97, set_eq], MapO.empty enc2⟩, fun k v h => by cases h⟩
    by_cases h8 : z = b8
    · subst h8; rw [set_eq] at hz ⊢; exact hz
    · rw [set_ne _ _ h8] at hz ⊢
      by_cases h7 : z = b7
      · subst h7; rw [set_eq] at hz ⊢; exact hz
      · rw [set_ne _ _ h7] at hz ⊢
        rw [set_ne _ _ (ne_of_fresh hb9 hz)]
        exact hz
  rw [show (#[Value.nilFunc].setIfInBounds 0 (Value.func (.func 104) #[] #[.pointer (some ⟨b5, 0, none⟩), .pointer (some ⟨b7, 0, none⟩), .pointer (some ⟨b3, 0, none⟩), .pointer (some ⟨b4, 0, none⟩), .pointer (some ⟨b8, 0, none⟩)]) : Array Value) = #[Value.func (.func 104) #[] (mcaps b3 b4 b5 b7 b8)] from rfl]
  generalize (F5.set b7 (.cells #[Value.map (some b9)] 121)).set b8 (.cells #[Value.func (.func 104) #[] (mcaps b3 b4 b5 b7 b8)] 122) = E at *
  generalize ((F5.set b9 (.map #[] 0)).set b7 (.cells #[Value.map (some b9)] 121)).set b8 (.cells #[Value.func (.func 104) #[] (mcaps b3 b4 b5 b7 b8)] 122) = F8 at *
  have lE := l5.trans hE8
  have he : ME E ta tb both b3 b4 b5 b7 b8 b9 := ⟨⟨v, row_whole (hE8 _ _ q3), ha.le lE⟩, ⟨w, row_whole (hE8 _ _ q4), hb.le lE⟩, by rw [cell_eq (hE8 _ _ q5)]; rfl, by rw [cell_eq e7]; rfl, by rw [cell_eq e8]; rfl⟩
  have ha' := ha
  have hb' := hb
  obtain ⟨s, rfl, _⟩ := ha
  obtain ⟨u, rfl, _⟩ := hb
  refine ⟨_, le_cell hs0.le he.c8, (num (subs ta) ta : Int), by rw [cell_eq (hs0.le _ _ (hE8 _ _ q3))]; rfl, (num (subs tb) tb : Int), by rw [cell_eq (hs0.le _ _ (hE8 _ _ q4))]; rfl, _, _, _, rfl, cb104, ?_⟩
  refine (meets_at ka kb fa fb _ ta tb (Nat.le_refl _) (subs_inn ka) (subs_inn kb) E F8 _ he hs0 (fun x y _ _ h => absurd rfl h)).mono ?_
  rintro _ F9 ⟨h, m', rfl, hs9, ht, hf⟩
  refine ⟨_, rfl, ?_, lE.trans hs9.le⟩
  cases h with
  | true => rw [hitB_iff.2 (ht rfl)]
  | false => rw [Bool.eq_false_iff.2 fun hc => (hf rfl).1 (hitB_iff.1 hc)]

section
variable {F : PH} {v w : Array Value} {a b : Dia}
noncomputable def missD (a b : Dia) (both : Bool) : Bool := if chkL [a, b] ≠ 0 then false else !hitB (tre a) (tre b) both
theorem within_spec (ha : DV F v a) (hb : DV F w b) : Spec prog 44 #[.agg v, .agg w] F fun r F' => r = .bool (missD a b false) ∧ F.le F' := by
  have ha' := ha
  have hb' := hb
  obtain ⟨s, rfl, hr⟩ := ha
  obtain ⟨t, rfl, ht⟩ := hb
  refine c44 ?_
  unfold b44
  intro b3 hb3
  refine atI ?_
  have l3 := le_set_fresh (.cells #[s.v, vi a.2] 28) hb3
  have q3 := set_eq F b3 (.cells #[s.v, vi a.2] 28)
  generalize F.set b3 (.cells #[s.v, vi a.2] 28) = F3 at *
  intro b4 hb4
  refine atI ?_
  have lx := le_set_fresh (.cells #[t.v, vi b.2] 28) hb4
  have q4 := set_eq F3 b4 (.cells #[t.v, vi b.2] 28)
  replace q3 := lx _ _ q3
  have l4 := l3.trans lx
  clear lx
  generalize F3.set b4 (.cells #[t.v, vi b.2] 28) = F4 at *
  refine ⟨#[s.v, vi a.2], rfl, row_whole q3, #[t.v, vi b.2], rfl, row_whole q4, rfl, rfl, fun b11 hb11 => ?_⟩
  refine atI ?_
  have e11 : wr (wr (#[Value.slice none 0 0, Value.int .i64 0, Value.slice none 0 0, Value.int .i64 0] : Array Value) 0 (#[s.v, vi a.2] : Array Value).toList) 2 (#[t.v, vi b.2] : Array Value).toList = #[s.v, vi a.2, t.v, vi b.2] := rfl
  rw [e11]
  have lx := le_set_fresh (.cells #[s.v, vi a.2, t.v, vi b.2] 28) hb11
  have q11 := set_eq F4 b11 (.cells #[s.v, vi a.2, t.v, vi b.2] 28)
  replace q3 := lx _ _ q3
  replace q4 := lx _ _ q4
  have l11 := l4.trans lx
  clear lx
  generalize F4.set b11 (.cells #[s.v, vi a.2, t.v, vi b.2] 28) = F7 at *
  refine (checkL_spec (F := F7) (x := b11) (dd := [a, b]) (n := 2) rfl (by omega) (fun i hi => ?_)).mono ?_
  · have row : ∀ (j : Nat) (s' : Sl) (r : Int), (#[s.v, vi a.2, t.v, vi b.2] : Array Value)[j]? = some s'.v → (#[s.v, vi a.2, t.v, vi b.2] : Array Value)[j + 1]? = some (vi r) → F7.row ⟨b11, j, none⟩ #[s'.v, vi r] := fun j s' r h1 h2 i hi => by
      simp only [add_mk]
      rw [cell_eq q11]
      match i, hi with
      | 0, _ => simpa using h1
      | 1, _ => simpa using h2
    match i, hi with
    | 0, _ => exact ⟨_, row 0 s _ rfl rfl, ha'.le l11⟩
    | 1, _ => exact ⟨_, row 2 t _ rfl rfl, hb'.le l11⟩
  rintro _ F8 ⟨rfl, l8⟩
  replace q3 := l8 _ _ q3
  replace q4 := l8 _ _ q4
  have l18 := l11.trans l8
  refine ⟨_, rfl, fun hc => ?_, fun hc => ?_⟩
  · obtain ⟨hca, hcb⟩ := chkL2 (a := a) (b := b) (by omega)
    obtain ⟨ka, ea, la⟩ := chk0 hca
    obtain ⟨kb, eb, lb⟩ := chk0 hcb
    have sa := subs_tre hca
    have sb := subs_tre hcb
    refine ⟨#[s.v, vi a.2], rfl, row_whole q3, #[t.v, vi b.2], rfl, row_whole q4, ?_⟩
    have da : DV F8 #[s.v, vi a.2] (dia (tre a)) := by rw [← ea]; exact ha'.le l18
    have db : DV F8 #[t.v, vi b.2] (dia (tre b)) := by rw [← eb]; exact hb'.le l18
    have hm : missD a b false = !hitB (tre a) (tre b) false := by unfold missD; rw [if_neg (by omega)]
    rw [hm]
    refine (meets_spec (both := false) da db ka kb (by omega) (by omega)).mono ?_
    rintro _ F9 ⟨rfl, l9⟩
    exact ⟨_, rfl, rfl, l18.trans l9⟩
  · refine ⟨?_, l18⟩
    unfold missD
    rw [if_pos hc]
theorem disjoint_spec (ha : DV F v a) (hb : DV F w b) : Spec prog 46 #[.agg v, .agg w] F fun r F' => r = .bool (missD a b true) ∧ F.le F' := by
  have ha' := ha
  have hb' := hb
  obtain ⟨s, rfl, hr⟩ := ha
  obtain ⟨t, rfl, ht⟩ := hb
  refine c46 ?_
  unfold b46
  intro b3 hb3
  refine atI ?_
  have l3 := le_set_fresh (.cells #[s.v, vi a.2] 28) hb3
  have q3 := set_eq F b3 (.cells #[s.v, vi a.2] 28)
  generalize F.set b3 (.cells #[s.v, vi a.2] 28) = F3 at *
  intro b4 hb4
  refine atI ?_
  have lx := le_set_fresh (.cells #[t.v, vi b.2] 28) hb4
  have q4 := set_eq F3 b4 (.cells #[t.v, vi b.2] 28)
  replace q3 := lx _ _ q3
  have l4 := l3.trans lx
  clear lx
  generalize F3.set b4 (.cells #[t.v, vi b.2] 28) = F4 at *
  refine ⟨#[s.v, vi a.2], rfl, row_whole q3, #[t.v, vi b.2], rfl, row_whole q4, rfl, rfl, fun b11 hb11 => ?_⟩
  refine atI ?_
  have e11 : wr (wr (#[Value.slice none 0 0, Value.int .i64 0, Value.slice none 0 0, Value.int .i64 0] : Array Value) 0 (#[s.v, vi a.2] : Array Value).toList) 2 (#[t.v, vi b.2] : Array Value).toList = #[s.v, vi a.2, t.v, vi b.2] := rfl
  rw [e11]
  have lx := le_set_fresh (.cells #[s.v, vi a.2, t.v, vi b.2] 28) hb11
  have q11 := set_eq F4 b11 (.cells #[s.v, vi a.2, t.v, vi b.2] 28)
  replace q3 := lx _ _ q3
  replace q4 := lx _ _ q4
  have l11 := l4.trans lx
  clear lx
  generalize F4.set b11 (.cells #[s.v, vi a.2, t.v, vi b.2] 28) = F7 at *
  refine (checkL_spec (F := F7) (x := b11) (dd := [a, b]) (n := 2) rfl (by omega) (fun i hi => ?_)).mono ?_
  · have row : ∀ (j : Nat) (s' : Sl) (r : Int), (#[s.v, vi a.2, t.v, vi b.2] : Array Value)[j]? = some s'.v → (#[s.v, vi a.2, t.v, vi b.2] : Array Value)[j + 1]? = some (vi r) → F7.row ⟨b11, j, none⟩ #[s'.v, vi r] := fun j s' r h1 h2 i hi => by
      simp only [add_mk]
      rw [cell_eq q11]
      match i, hi with
      | 0, _ => simpa using h1
      | 1, _ => simpa using h2
    match i, hi with
    | 0, _ => exact ⟨_, row 0 s _ rfl rfl, ha'.le l11⟩
    | 1, _ => exact ⟨_, row 2 t _ rfl rfl, hb'.le l11⟩
  rintro _ F8 ⟨rfl, l8⟩
  replace q3 := l8 _ _ q3
  replace q4 := l8 _ _ q4
  have l18 := l11.trans l8
  refine ⟨_, rfl, fun hc => ?_, fun hc => ?_⟩
  · obtain ⟨hca, hcb⟩ := chkL2 (a := a) (b := b) (by omega)
    obtain ⟨ka, ea, la⟩ := chk0 hca
    obtain ⟨kb, eb, lb⟩ := chk0 hcb
    have sa := subs_tre hca
    have sb := subs_tre hcb
    refine ⟨#[s.v, vi a.2], rfl, row_whole q3, #[t.v, vi b.2], rfl, row_whole q4, ?_⟩
    have da : DV F8 #[s.v, vi a.2] (dia (tre a)) := by rw [← ea]; exact ha'.le l18
    have db : DV F8 #[t.v, vi b.2] (dia (tre b)) := by rw [← eb]; exact hb'.le l18
    have hm : missD a b true = !hitB (tre a) (tre b) true := by unfold missD; rw [if_neg (by omega)]
    rw [hm]
    refine (meets_spec (both := true) da db ka kb (by omega) (by omega)).mono ?_
    rintro _ F9 ⟨rfl, l9⟩
    exact ⟨_, rfl, rfl, l18.trans l9⟩
  · refine ⟨?_, l18⟩
    unfold missD
    rw [if_pos hc]
end
end Go.Proofs.Ytafojmoeaneedaa
