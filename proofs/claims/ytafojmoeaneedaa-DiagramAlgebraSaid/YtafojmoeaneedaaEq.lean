/-
  The diagrams: Count, whole.
-/
import Derived.Test.YtafojmoeaneedaaEp
namespace Go.Proofs.Ytafojmoeaneedaa
open Go Go.Proofs.Try Tr
set_option maxRecDepth 10000

theorem below_of {T : List Tr} (hT : Cl T) {n : Nat} (h : ∀ x ∈ T, x.top < n) : ∀ (t : Tr), inn T t → below n t
  | leaf _, _ => trivial
  | node v l r, ht => by
    obtain ⟨il, ir⟩ := hT.inn_kids ht
    exact ⟨h _ (inn_mem ht rfl), below_of hT h l il, below_of hT h r ir⟩
theorem below_vis {n : Nat} : ∀ (t : Tr) (S : List Tr), below n t → ∀ x ∈ vis t S, x ∈ S ∨ below n x ∧ x.top < n
  | leaf _, _, _ => fun x hx => .inl hx
  | node v l r, S, ⟨b0, b1, b2⟩ => by
    unfold vis
    split
    · exact fun x hx => .inl hx
    · intro x hx
      rcases List.mem_append.1 hx with hx | hx
      · rcases below_vis r _ b2 x hx with h | h
        · exact below_vis l S b1 x h
        · exact .inr h
      · rw [List.mem_singleton.1 hx]
        exact .inr ⟨⟨b0, b1, b2⟩, b0⟩
theorem below_subs {n : Nat} {t : Tr} (h : below n t) : ∀ x ∈ subs t, below n x ∧ x.top < n := fun x hx => by
  rcases below_vis t [] h x hx with h | h
  · cases h
  · exact h
theorem below_inn {n : Nat} {t : Tr} (h : below n t) {x : Tr} (hx : inn (subs t) x) : below n x := by
  cases x with
  | leaf b => trivial
  | node v l r => exact (below_subs h _ (inn_mem hx rfl)).1

open Classical in
noncomputable def countD (a : Dia) (n : Int) : Nat × Int :=
  if chk a ≠ 0 then (0, chk a) else if n < 0 ∨ 64 < n then (0, 1) else if below n.toNat (tre a) then (countT n.toNat (tre a), 0) else (0, 1)
theorem NV.nil (F : PH) : NV F Sl.nil 0 := by unfold NV; rw [lm_zero]; exact RdS.nil F 1
theorem zr57b : tzero prog 57 = some (.slice none 0 0) := by kernel_rfl

section
variable {F : PH} {v : Array Value} {a : Dia}
theorem count_spec (ha : DV F v a) (n : Int) : Spec prog 32 #[.agg v, vi n] F fun r F' => ∃ s, r = .tuple #[s.v, vi (countD a n).2] ∧ NV F' s (countD a n).1 ∧ F.le F' := by
  have ha' := ha
  obtain ⟨s, rfl, hr⟩ := ha
  refine c32 ?_
  unfold b32
  intro b2 hb2
  refine atI ?_
  have l2 := le_set_fresh (.cells #[s.v, vi a.2] 28) hb2
  have q2 := set_eq F b2 (.cells #[s.v, vi a.2] 28)
  generalize F.set b2 (.cells #[s.v, vi a.2] 28) = F2 at *
  intro b3 hb3
  refine atI ?_
  have lx := le_set_fresh (.cells #[vi n] 3) hb3
  have q3 := set_eq F2 b3 (.cells #[vi n] 3)
  replace q2 := lx _ _ q2
  have l3 := l2.trans lx
  clear lx
  generalize F2.set b3 (.cells #[vi n] 3) = F3 at *
  refine ⟨_, rfl, row_whole q2, ?_⟩
  refine (check_spec (ha'.le l3)).mono ?_
  rintro _ F4 ⟨rfl, lx⟩
  replace q2 := lx _ _ q2
  replace q3 := lx _ _ q3
  have l4 := l3.trans lx
  clear lx
  have err : ∀ {F' : PH} {e : Int}, countD a n = (0, e) → F.le F' → ∃ s, Value.tuple #[Sl.v Sl.nil, vi e] = .tuple #[s.v, vi (countD a n).2] ∧ NV F' s (countD a n).1 ∧ F.le F' := fun {F' e} h hl => ⟨Sl.nil, by rw [h], by rw [h]; exact NV.nil _, hl⟩
  refine ⟨_, rfl, fun h => err (by unfold countD; rw [if_pos h]) l4, fun h => ?_⟩
  have h0 : chk a = 0 := by omega
  refine ⟨n, by rw [cell_eq q3]; rfl, fun hb => err (by unfold countD; rw [if_neg h, if_pos (.inl hb)]) l4, fun hb => ⟨n, by rw [cell_eq q3]; rfl, fun hb2 => err (by unfold countD; rw [if_neg h, if_pos (.inr hb2)]) l4, fun hb2 => ?_⟩⟩
  obtain ⟨ka, ea, la⟩ := chk0 h0
  have hT := subs_cl ka
  have hr' : RdS F s 3 (bflat (brs (subs (tre a)))) := by rw [ea] at hr; exact hr
  have hlen := hr'.blen
  rw [brs_length] at hlen
  have hsl := subs_tre h0
  have e2 : a.2 = (num (subs (tre a)) (tre a) : Int) := by conv => lhs; rw [ea]
                                                           rfl
  obtain ⟨N, rfl⟩ := Int.eq_ofNat_of_zero_le (by omega : 0 ≤ n)
  have hN : N ≤ 64 := by omega
  refine ⟨s, by rw [cell_eq q2]; rfl, ?_⟩
  refine ⟨fun m i F' => ∃ k : Nat, i = k ∧ k ≤ (subs (tre a)).length ∧ m = (subs (tre a)).length - k ∧ F4.le F' ∧ ∀ j x, j < k → (subs (tre a))[j]? = some x → x.top < N, (subs (tre a)).length, ⟨0, rfl, by omega, rfl, PH.le_rfl, fun j x hj => by omega⟩, ?_⟩
  rintro m i F5 ⟨k, rfl, hk, rfl, l5, hall⟩
  unfold b32L2
  refine ⟨fun hlt => ?_, fun hge => ?_⟩
  · have hkT : k < (subs (tre a)).length := by omega
    obtain ⟨_, vv, lo', hi', hget, _, _, hok, _⟩ := cl_get hT k hkT
    obtain ⟨p, hp, hrow, _⟩ := rdb (hr'.le (l4.trans l5)) (brs_get hget)
    refine ⟨p, hp, by omega, hlt, barr (br (subs (tre a)) (node vv lo' hi')), rfl, by simpa using hrow, ?_⟩
    intro b8 hb8
    refine atI ?_
    refine stW (set_eq _ _ _) rfl rfl (st_barr _) ?_
    rw [set_twice]
    have l8 := l5.trans (le_set_fresh (.cells (barr (br (subs (tre a)) (node vv lo' hi'))) 72) hb8)
    refine ⟨(vv : Int), by rw [cell_eq (set_eq _ _ _)]; rfl, (N : Int), by rw [cell_eq (l8 _ _ q3)]; rfl, fun hbad => err ?_ (l4.trans l8), fun hgood => ?_⟩
    · unfold countD
      rw [if_neg h, if_neg (by omega), if_neg]
      intro hbel
      have := (below_subs hbel _ (List.mem_of_getElem? hget)).2
      simp only [Tr.top, Int.toNat_natCast] at this
      omega
    · refine ⟨(subs (tre a)).length - (k + 1), by omega, k + 1, w64s (by omega), by omega, rfl, l8, fun j x hj hx => ?_⟩
      by_cases hjk : j < k
      · exact hall j x hjk hx
      · obtain rfl : j = k := by omega
        rw [hget] at hx
        obtain rfl := Option.some.inj hx
        simp only [Tr.top]
        omega
  · obtain rfl : k = (subs (tre a)).length := by omega
    have hbel : below N (tre a) := below_of hT (fun x hx => by
      obtain ⟨j, hj, he⟩ := List.mem_iff_getElem.1 hx
      exact hall j x hj (by rw [List.getElem?_eq_getElem hj, he])) _ (subs_inn ka)
    have hcount : countD a (N : Int) = (countT N (tre a), 0) := by
      unfold countD
      rw [if_neg h, if_neg (by omega), if_pos (by simpa using hbel)]
      simp
    have q2' := l5 _ _ q2
    have q3' := l5 _ _ q3
    have l5' := l4.trans l5
    clear hall hge hk err
    unfold b32j1
    have hw2 : IntKind.i64.wrap ((s.len : Int) + 2) = (((subs (tre a)).length + 2 : Nat) : Int) := by rw [hlen, w64_eq (by omega) (by omega)]; omega
    refine ⟨s, by rw [cell_eq q2']; rfl, ?_⟩
    rw [hw2]
    refine runs_makeSlice underlying93 sz57 zr57b rfl (by omega) (Int.le_refl _) (by omega) (by omega) ?_
    intro g hg
    rw [zc1 _ rfl, Int.toNat_natCast]
    refine ⟨_, rfl, ?_⟩
    have e0 : (List.replicate ((subs (tre a)).length + 2) (Value.slice none 0 0)).toArray = ((List.replicate ((subs (tre a)).length + 2) Sl.nil).map Sl.v).toArray := by rw [List.map_replicate]; rfl
    rw [e0]
    have fg : F g = none := le_none l5' hg
    have lg := le_set_fresh (.cells ((List.replicate ((subs (tre a)).length + 2) Sl.nil).map Sl.v).toArray 57) hg
    have qg := set_eq F5 g (.cells ((List.replicate ((subs (tre a)).length + 2) Sl.nil).map Sl.v).toArray 57)
    have n2 : b2 ≠ g := ne_of_fresh hg q2'
    have n3 : b3 ≠ g := ne_of_fresh hg q3'
    generalize F5.set g (.cells ((List.replicate ((subs (tre a)).length + 2) Sl.nil).map Sl.v).toArray 57) = F6 at *
    intro b9 hb9
    refine atI ?_
    refine st1 (set_eq _ _ _) (by simp) ?_
    rw [set_twice, show (#[Value.slice none 0 0].setIfInBounds 0 (Sl.v ⟨some ⟨g, 0, none⟩, (subs (tre a)).length + 2, (subs (tre a)).length + 2⟩) : Array Value) = #[Sl.v ⟨some ⟨g, 0, none⟩, (subs (tre a)).length + 2, (subs (tre a)).length + 2⟩] from rfl]
    have n9 : g ≠ b9 := ne_of_fresh hb9 qg
    have lx := le_set_fresh (.cells #[Sl.v ⟨some ⟨g, 0, none⟩, (subs (tre a)).length + 2, (subs (tre a)).length + 2⟩] 93) hb9
    have q9 := set_eq F6 b9 (.cells #[Sl.v ⟨some ⟨g, 0, none⟩, (subs (tre a)).length + 2, (subs (tre a)).length + 2⟩] 93)
    replace qg := lx _ _ qg
    have l9 := lg.trans lx
    clear lx
    generalize F6.set b9 (.cells #[Sl.v ⟨some ⟨g, 0, none⟩, (subs (tre a)).length + 2, (subs (tre a)).length + 2⟩] 93) = F7 at *
    refine ⟨_, by rw [cell_eq q9]; rfl, ?_⟩
    refine (Spec.avoid (of_spec (F := del1 F7 g) (n := 1) (by omega)) qg).mono ?_
    rintro _ F8 ⟨G, ⟨s1, rfl, hn1, lG1⟩, lG, qg8, gG⟩
    have l8 := le_avoid lG1 lG qg8 qg
    have hn1' : NV (del1 F8 g) s1 1 := hn1.le (fun y ob hy => by rw [del1_of (fun e => by rw [e, gG] at hy; cases hy)]; exact lG _ _ hy)
    have q9' := l8 _ _ q9
    refine ⟨_, rfl, by rw [cell_eq q9']; rfl, _, rfl, by omega, by simp only; omega, ?_⟩
    refine st1' (b := g) (o := 1) (by simp) qg8 (by simp) ?_
    rw [List.setIfInBounds_toArray]
    have e1 : ((List.replicate ((subs (tre a)).length + 2) Sl.nil).map Sl.v).set 1 s1.v = ((List.replicate ((subs (tre a)).length + 2) Sl.nil).set 1 s1).map Sl.v := by rw [List.map_set]
    rw [e1]
    generalize hLs : (List.replicate ((subs (tre a)).length + 2) Sl.nil).set 1 s1 = Ls
    have hLl : Ls.length = (subs (tre a)).length + 2 := by rw [← hLs]; simp
    have d9 : del1 (F8.set g (.cells (Ls.map Sl.v).toArray 57)) g = del1 F8 g := by
      funext y
      by_cases hy : y = g
      · subst hy; rw [del1_1, del1_1]
      · rw [del1_of hy, del1_of hy, set_ne _ _ hy]
    have qg9 := set_eq F8 g (.cells (Ls.map Sl.v).toArray 57)
    have n9' : b9 ≠ g := n9.symm
    -- E: what is fixed from here on
    have lE8 : F5.le F8 := l9.trans l8
    have hE : F5.le (del1 F8 g) := le_del1 lE8 hg
    have q2E : (del1 F8 g) b2 = some (.cells #[s.v, vi a.2] 28) := hE _ _ q2'
    have q3E : (del1 F8 g) b3 = some (.cells #[vi N] 3) := hE _ _ q3'
    have q9E : (del1 F8 g) b9 = some (.cells #[Sl.v ⟨some ⟨g, 0, none⟩, (subs (tre a)).length + 2, (subs (tre a)).length + 2⟩] 93) := by rw [del1_of n9']; exact q9'
    have lE9 : (del1 F8 g).le (F8.set g (.cells (Ls.map Sl.v).toArray 57)) := le_set_new (del1_le _ _) (del1_1 _ _)
    have gE : (del1 F8 g) g = none := del1_1 _ _
    have lFE : F.le (del1 F8 g) := l5'.trans hE
    have hnv0 : ∀ j x, j < 0 + 2 → Ls[j]? = some x → NV (del1 (F8.set g (.cells (Ls.map Sl.v).toArray 57)) g) x (cv N (tr (subs (tre a)) j)) := fun j x hj hx => by
      rw [d9]
      match j, hj with
      | 0, _ =>
        rw [← hLs] at hx
        simp at hx
        subst hx
        exact NV.nil _
      | 1, _ =>
        rw [← hLs] at hx
        simp at hx
        subst hx
        exact hn1'
    clear hn1' hLs e1
    generalize del1 F8 g = E at *
    generalize F8.set g (.cells (Ls.map Sl.v).toArray 57) = F9 at *
    intro b10 hb10
    refine atI ?_
    refine st1 (set_eq _ _ _) (by simp) ?_
    rw [set_twice, show (#[Value.nilFunc].setIfInBounds 0 (Value.func (.func 74) #[] #[.pointer (some ⟨b3, 0, none⟩), .pointer (some ⟨b2, 0, none⟩)]) : Array Value) = #[Value.func (.func 74) #[] #[.pointer (some ⟨b3, 0, none⟩), .pointer (some ⟨b2, 0, none⟩)]] from rfl]
    have n10 : g ≠ b10 := ne_of_fresh hb10 qg9
    have E10 : E b10 = none := le_none lE9 hb10
    have hcs0 : CS (E.set b10 (.cells #[Value.func (.func 74) #[] #[.pointer (some ⟨b3, 0, none⟩), .pointer (some ⟨b2, 0, none⟩)]] 94)) (F9.set b10 (.cells #[Value.func (.func 74) #[] #[.pointer (some ⟨b3, 0, none⟩), .pointer (some ⟨b2, 0, none⟩)]] 94)) g N (subs (tre a)) 0 Ls := by
      refine ⟨fun x ob hx => ?_, by rw [set_ne _ _ n10]; exact gE, by rw [set_ne _ _ n10]; exact qg9, hLl, fun j x hj hx => (hnv0 j x hj hx).le (del1_mono (le_set_fresh _ hb10))⟩
      by_cases hxb : x = b10
      · subst hxb; rw [set_eq] at hx ⊢; exact hx
      · rw [set_ne _ _ hxb] at hx ⊢; exact lE9 _ _ hx
    have lE' : E.le (E.set b10 (.cells #[Value.func (.func 74) #[] #[.pointer (some ⟨b3, 0, none⟩), .pointer (some ⟨b2, 0, none⟩)]] 94)) := le_set_fresh _ E10
    have q10 := set_eq E b10 (.cells #[Value.func (.func 74) #[] #[.pointer (some ⟨b3, 0, none⟩), .pointer (some ⟨b2, 0, none⟩)]] 94)
    generalize E.set b10 (.cells #[Value.func (.func 74) #[] #[.pointer (some ⟨b3, 0, none⟩), .pointer (some ⟨b2, 0, none⟩)]] 94) = E2 at *
    generalize F9.set b10 (.cells #[Value.func (.func 74) #[] #[.pointer (some ⟨b3, 0, none⟩), .pointer (some ⟨b2, 0, none⟩)]] 94) = F10 at *
    have hce : CE E2 b2 b3 b9 b10 g N (tre a) ((subs (tre a)).length + 2) := by
      refine ⟨by rw [cell_eq (lE' _ _ q3E)]; rfl, ⟨#[s.v, vi a.2], row_whole (lE' _ _ q2E), ?_⟩, by rw [cell_eq (lE' _ _ q9E)]; rfl, by rw [cell_eq q10]; rfl⟩
      rw [← ea]
      exact ha'.le (lFE.trans lE')
    have lFE2 : F.le E2 := lFE.trans lE'
    refine ⟨s, by rw [cell_eq (hcs0.le _ _ (lE' _ _ q2E))]; rfl, ?_⟩
    refine ⟨fun m i F' => ∃ (k : Nat) (Ls : List Sl), i = k ∧ k ≤ (subs (tre a)).length ∧ m = (subs (tre a)).length - k ∧ CS E2 F' g N (subs (tre a)) k Ls, (subs (tre a)).length, ⟨0, Ls, rfl, by omega, rfl, hcs0⟩, ?_⟩
    clear hcs0 hnv0 hLl qg9 d9
    clear Ls
    rintro m i F11 ⟨k, Ls, rfl, hk, rfl, hcs⟩
    unfold b32L1
    refine ⟨fun hlt => ?_, fun hge => ?_⟩
    · have hkT : k < (subs (tre a)).length := by omega
      obtain ⟨hck, vv, lo', hi', hget, hlo, hhi, hok, _⟩ := cl_get hT k hkT
      have hlo2 := num_le hlo
      have hhi2 := num_le hhi
      rw [← num_take hlo, List.length_take] at hlo2
      rw [← num_take hhi, List.length_take] at hhi2
      have inl : inn (subs (tre a)) lo' := by rw [← List.take_append_drop k (subs (tre a))]; exact inn_append hlo
      have inh : inn (subs (tre a)) hi' := by rw [← List.take_append_drop k (subs (tre a))]; exact inn_append hhi
      have hk2 : tr (subs (tre a)) (k + 2) = node vv lo' hi' := by
        unfold tr
        rw [if_neg (by omega), if_neg (by omega), Nat.add_sub_cancel, List.getD_eq_getElem?_getD, hget]
        rfl
      obtain ⟨bn0, bn1, bn2⟩ : below N (node vv lo' hi') := (below_subs hbel _ (List.mem_of_getElem? hget)).1
      have hok' := hok
      obtain ⟨o1, o2, o3, o4, o5, o6⟩ := hok
      obtain ⟨p, hp, hrow, _⟩ := rdb (hr'.le (lFE2.trans hcs.le)) (brs_get hget)
      refine ⟨p, hp, by omega, hlt, barr (br (subs (tre a)) (node vv lo' hi')), rfl, by simpa using hrow, ?_⟩
      intro b13 hb13
      refine atI ?_
      refine stW (set_eq _ _ _) rfl rfl (st_barr _) ?_
      rw [set_twice]
      have hcs1 := hcs.upto (le_set_fresh (.cells (barr (br (subs (tre a)) (node vv lo' hi'))) 72) hb13)
      have q13 := set_eq F11 b13 (.cells (barr (br (subs (tre a)) (node vv lo' hi'))) 72)
      have n13 : b13 ≠ g := (ne_of_fresh hb13 hcs.hg).symm
      generalize F11.set b13 (.cells (barr (br (subs (tre a)) (node vv lo' hi'))) 72) = F12 at *
      have hwv : IntKind.i64.wrap ((vv : Int) + 1) = ((vv + 1 : Nat) : Int) := w64s (by omega)
      refine ⟨(num (subs (tre a)) lo' : Int), by rw [cell_eq q13]; rfl, (vv : Int), by rw [cell_eq q13]; rfl, ?_⟩
      rw [hwv]
      refine (doubled_spec ka hsl hN hce hcs1 inl bn1 (by omega) (by omega)).mono ?_
      rintro _ F13 ⟨sl, rfl, hsl1, l13⟩
      have hcs2 := hcs1.upto l13
      refine ⟨_, _, rfl, (num (subs (tre a)) hi' : Int), by rw [cell_eq (l13 _ _ q13)]; rfl, (vv : Int), by rw [cell_eq (l13 _ _ q13)]; rfl, ?_⟩
      rw [hwv]
      refine (doubled_spec ka hsl hN hce hcs2 inh bn2 (by omega) (by omega)).mono ?_
      rintro _ F14 ⟨sh, rfl, hsh1, l14⟩
      have hcs3 := hcs2.upto l14
      have hsl2 := hsl1.le (del1_mono (x := g) l14)
      have val : ∀ u : Tr, u.ok → below N u → vv < u.top → cv N u * 2 ^ (min N u.top - (vv + 1)) ≤ 18446744073709551616 := fun u hu hbu hvu => by
        refine Nat.le_trans (Nat.mul_le_mul_right _ (cv_le hN u hu hbu)) ?_
        rw [← Nat.pow_add]
        exact two64 (by omega)
      refine ⟨_, _, rfl, ?_⟩
      refine (addA hcs3.hg hsl2 hsh1 (val _ o5 bn1 o2) (val _ o6 bn2 o3)).mono ?_
      rintro _ F15 ⟨s', rfl, hs', l15, _⟩
      have hcs4 := hcs3.upto l15
      have hw4 : IntKind.i64.wrap ((k : Int) + 2) = ((k + 2 : Nat) : Int) := by rw [w64_eq (by omega) (by omega)]; omega
      refine ⟨_, _, rfl, fun hc => absurd rfl hc, fun _ => ?_⟩
      rw [hw4]
      refine ⟨_, le_cell hcs4.le hce.c9, _, rfl, by omega, by simp only; omega, ?_⟩
      refine st1' (b := g) (o := k + 2) (by simp; omega) hcs4.hg (by have := hcs4.len; simp; omega) ?_
      rw [List.setIfInBounds_toArray]
      have e1 : (Ls.map Sl.v).set (k + 2) s'.v = (Ls.set (k + 2) s').map Sl.v := by rw [List.map_set]
      rw [e1]
      have d15 : del1 (F15.set g (.cells ((Ls.set (k + 2) s').map Sl.v).toArray 57)) g = del1 F15 g := by
        funext y
        by_cases hy : y = g
        · subst hy; rw [del1_1, del1_1]
        · rw [del1_of hy, del1_of hy, set_ne _ _ hy]
      refine ⟨(subs (tre a)).length - (k + 1), by omega, k + 1, Ls.set (k + 2) s', w64s (by omega), by omega, rfl, le_set_new hcs4.le hcs4.ng, hcs4.ng, set_eq _ _ _, by rw [List.length_set]; exact hcs4.len, fun j x hj hx => ?_⟩
      rw [d15]
      by_cases hjk : k + 2 = j
      · subst hjk
        rw [List.getElem?_set_self (by have := hcs4.len; omega)] at hx
        obtain rfl := Option.some.inj hx
        rw [hk2]
        exact hs'
      · rw [List.getElem?_set_ne hjk] at hx
        exact hcs4.nv j x (by omega) hx
    · obtain rfl : k = (subs (tre a)).length := by omega
      unfold b32j2
      have hnl := num_le (subs_inn ka)
      refine ⟨(num (subs (tre a)) (tre a) : Int), by rw [cell_eq (hcs.le _ _ (lE' _ _ q2E))]; rw [← e2]; rfl, ?_⟩
      refine (doubled_spec (from_ := 0) ka hsl hN hce hcs (subs_inn ka) hbel (by omega) (by omega)).mono ?_
      rintro _ F12 ⟨s', rfl, hs', l12⟩
      refine ⟨_, _, rfl, s', by rw [hcount], ?_, lFE2.trans (hcs.le.trans l12)⟩
      rw [hcount]
      unfold countT
      rw [Nat.sub_zero] at hs'
      exact hs'.le (del1_le _ _)
end
end Go.Proofs.Ytafojmoeaneedaa
