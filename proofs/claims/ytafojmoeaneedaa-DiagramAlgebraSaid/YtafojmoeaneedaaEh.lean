/-
  The diagrams: an operation on three diagrams: the walk.
-/
import Derived.Test.YtafojmoeaneedaaEg
namespace Go.Proofs.Ytafojmoeaneedaa
open Go Go.Proofs.Try Tr
set_option maxRecDepth 10000

theorem numI_lt2 {S : List Tr} {t : Tr} : ((num S t : Int) < 2) ↔ t.isL = true := by
  constructor
  · intro h
    exact num_lt2 (S := S) (by omega)
  · intro h
    cases t with
    | leaf b => have := num_leaf_le S b; omega
    | node _ _ _ => cases h

section
variable {p : AP} {t : Nat → Tr} {F0 F : PH} {S : List Tr} {n6 : Nat}

theorem at_leaf (he : AE F0 p) (hs : AS F0 F p S) (h6 : F0 n6 = some (.cells (arr3 (p.key t)) 114)) (h0 : (t 0).isL = true) (h1 : (t 1).isL = true) (h2 : (t 2).isL = true) {R : Value → PH → Prop}
    (hR : ∀ F', F.le F' → R (vi (num S (p.res t))) F') :
    b97j1 (some ⟨p.b3, 0, none⟩) (some ⟨p.b6, 0, none⟩) (some ⟨p.b2, 0, none⟩) (some ⟨p.b7, 0, none⟩) (some ⟨p.b5, 0, none⟩) n6 true R F := by
  unfold b97j1
  obtain ⟨k, fst, cap, hop, hcb, hsp⟩ := he.op
  have hle := hs.bd.le
  have h6' := hle _ _ h6
  refine ⟨fun _ => ?_, fun hc => by cases hc⟩
  refine ⟨_, rfl, _, le_cell hle he.c3, by omega, by omega, _, by simp only [add_mk]; rw [cell_eq h6']; rfl, by omega, by omega, _, by simp only [add_mk]; rw [cell_eq h6']; rfl, by omega, by omega, _, by simp only [add_mk]; rw [cell_eq h6']; rfl, k, fst, cap, hop, hcb, ?_⟩
  generalize ht0 : t 0 = x0 at *
  generalize ht1 : t 1 = x1 at *
  generalize ht2 : t 2 = x2 at *
  cases x0 with
  | node _ _ _ => cases h0
  | leaf a =>
    cases x1 with
    | node _ _ _ => cases h1
    | leaf b =>
      cases x2 with
      | node _ _ _ => cases h2
      | leaf c =>
        have e : ∀ (S : List Tr) (x : Bool), decide ((num S (leaf x) : Int) = 1) = x := fun S x => by cases x <;> simp [num]
        simp only [AP.key, ht0, ht1, ht2, e]
        refine (hsp a b c F hle).mono ?_
        rintro _ F' ⟨rfl, hle'⟩
        have hres : p.res t = leaf (p.o a b c) := by unfold AP.res; rw [ht0, ht1, ht2]; exact ap_leaf _ _ _ _
        have hR' := hR F' hle'
        rw [hres] at hR'
        refine ⟨_, rfl, fun h => ?_, fun h => ?_⟩
        · rw [h] at hR'; exact hR'
        · rw [h] at hR'; exact hR'

theorem at_rest (hf : AF p) (ht : p.inK t) (ih : ∀ u, p.inK u → szs u < szs t → AtSpec p u) (he : AE F0 p) (hs : AS F0 F p S) (h6 : F0 n6 = some (.cells (arr3 (p.key t)) 114))
    (hfit : Fit ((vis (p.res t) S).length + 4)) (hn : ¬ ((t 0).isL = true ∧ (t 1).isL = true ∧ (t 2).isL = true)) {R : Value → PH → Prop}
    (hR : ∀ F', AS F0 F' p (vis (p.res t) S) → R (vi (num (vis (p.res t) S) (p.res t))) F') :
    b97j1 (some ⟨p.b3, 0, none⟩) (some ⟨p.b6, 0, none⟩) (some ⟨p.b2, 0, none⟩) (some ⟨p.b7, 0, none⟩) (some ⟨p.b5, 0, none⟩) n6 false R F := by
  have hv : top3 (t 0) (t 1) (t 2) < 64 := by
    have k0 := fun hl => top_lt ((hf.cl 0 (by omega)).inn_ok ht.1) hl
    have k1 := fun hl => top_lt ((hf.cl 1 (by omega)).inn_ok ht.2.1) hl
    have k2 := fun hl => top_lt ((hf.cl 2 (by omega)).inn_ok ht.2.2) hl
    unfold top3
    cases e0 : (t 0).isL with
    | false => have := k0 e0; omega
    | true =>
      cases e1 : (t 1).isL with
      | false => have := k1 e1; omega
      | true =>
        cases e2 : (t 2).isL with
        | false => have := k2 e2; omega
        | true => exact absurd ⟨e0, e1, e2⟩ hn
  have D := down hf ht hv
  unfold b97j1
  have hle := hs.bd.le
  have h6' := hle _ _ h6
  obtain ⟨om, m3, hm, hmo, hok⟩ := hs.memo
  refine ⟨fun hc => (by cases hc), fun _ => ?_⟩
  have hlk := rdo_lookup (F := F) mt3 hm hmo (p.key t) true
  refine ⟨_, rfl, _, le_cell hle he.c6, arr3 (p.key t), rfl, row_whole h6', ?_⟩
  cases hmk : m3 (p.key t) with
  | some v =>
    rw [hmk] at hlk
    obtain ⟨u, hu, hk, hi, rfl⟩ := hok _ _ hmk
    have e := key_inj ht hu hk
    rw [← e] at hi hlk
    have hvi := vis_inn hi
    refine ⟨_, _, hlk, fun _ => ?_, fun hc => by cases hc⟩
    have := hR F (by rw [hvi]; exact hs)
    rw [hvi] at this
    exact this
  | none =>
    rw [hmk] at hlk
    refine ⟨_, _, hlk, fun hc => (by cases hc), fun _ => ?_⟩
    obtain ⟨w0, r0, d0⟩ := he.c2 0 (by omega)
    obtain ⟨w1, r1, d1⟩ := he.c2 1 (by omega)
    obtain ⟨w2, r2, d2⟩ := he.c2 2 (by omega)
    have c6 : ∀ {G : PH}, F.le G → G.cell ⟨n6, 0, none⟩ = some (vi (num (p.SS 0) (t 0))) ∧ G.cell ⟨n6, 1, none⟩ = some (vi (num (p.SS 1) (t 1))) ∧ G.cell ⟨n6, 2, none⟩ = some (vi (num (p.SS 2) (t 2))) := fun {G} hl => by
      rw [cell_eq (hl _ _ h6'), cell_eq (hl _ _ h6'), cell_eq (hl _ _ h6')]
      exact ⟨rfl, rfl, rfl⟩
    have rr : ∀ {G : PH}, F.le G → G.row (Addr.add ⟨p.b2, 0, none⟩ (Int.toNat 0 * 2)) w0 ∧ G.row (Addr.add ⟨p.b2, 0, none⟩ (Int.toNat 1 * 2)) w1 ∧ G.row (Addr.add ⟨p.b2, 0, none⟩ (Int.toNat 2 * 2)) w2 := fun {G} hl => by
      simp only [add_mk]
      exact ⟨row_le (hle.trans hl) r0, row_le (hle.trans hl) r1, row_le (hle.trans hl) r2⟩
    have cc : ∀ {G : PH}, F.le G → G.cell (Addr.add ⟨n6, 0, none⟩ (Int.toNat 0 * 1)) = some (vi (num (p.SS 0) (t 0))) ∧ G.cell (Addr.add ⟨n6, 0, none⟩ (Int.toNat 1 * 1)) = some (vi (num (p.SS 1) (t 1))) ∧ G.cell (Addr.add ⟨n6, 0, none⟩ (Int.toNat 2 * 1)) = some (vi (num (p.SS 2) (t 2))) := fun {G} hl => by
      simp only [add_mk]
      exact c6 hl
    have hFF : F.le F := PH.le_rfl
    refine ⟨_, rfl, by omega, by omega, w0, d0.size, (rr hFF).1, by omega, by omega, _, (cc hFF).1, by omega, by omega, w1, d1.size, (rr hFF).2.1, by omega, by omega, _, (cc hFF).2.1, by omega, by omega, w2, d2.size, (rr hFF).2.2, by omega, by omega, _, (cc hFF).2.2, ?_⟩
    refine (level_spec (d0.le hle) (hf.pre 0 (by omega)) ht.1 (hf.fit 0 (by omega))).mono ?_
    rintro _ G1 ⟨rfl, l1⟩
    refine ⟨_, rfl, (cc l1).2.2, (rr l1).2.2, (cc l1).2.1, (rr l1).2.1, ?_⟩
    refine (level_spec (d1.le (hle.trans l1)) (hf.pre 1 (by omega)) ht.2.1 (hf.fit 1 (by omega))).mono ?_
    rintro _ G2 ⟨rfl, l2⟩
    replace l2 := l1.trans l2
    refine ⟨_, rfl, (cc l2).2.2, (rr l2).2.2, ?_⟩
    refine (level_spec (d2.le (hle.trans l2)) (hf.pre 2 (by omega)) ht.2.2 (hf.fit 2 (by omega))).mono ?_
    rintro _ G ⟨rfl, l3⟩
    replace l3 := l2.trans l3
    refine ⟨_, rfl, ?_⟩
    have hmin : (min (min ((t 0).top : Int) ((t 1).top : Int)) ((t 2).top : Int)) = ((top3 (t 0) (t 1) (t 2) : Nat) : Int) := by unfold top3; omega
    generalize top3 (t 0) (t 1) (t 2) = v at *
    intro b11 hb11
    refine atI ?_
    intro b12 hb12
    refine atI ?_
    have n12 : b11 ≠ b12 := ne_of_fresh hb12 (set_eq _ _ _)
    have g12 : G b12 = none := by rw [set_ne _ _ n12.symm] at hb12; exact hb12
    let A (k : Nat) (f : Nat → Nat) : Array Value := #[if 0 < k then vi (f 0) else vi 0, if 1 < k then vi (f 1) else vi 0, if 2 < k then vi (f 2) else vi 0]
    let fl : Nat → Nat := fun i => num (p.SS i) (lo v (t i))
    let fh : Nat → Nat := fun i => num (p.SS i) (hi v (t i))
    have hA : ∀ k f, k < 3 → (A k f).setIfInBounds k (vi (f k)) = A (k + 1) f := by
      intro k f hk
      match k, hk with
      | 0, _ => simp [A]
      | 1, _ => simp [A]
      | 2, _ => simp [A]
    refine ⟨fun m i F' => ∃ k : Nat, i = k ∧ k ≤ 3 ∧ m = 3 - k ∧ G.le F' ∧ F' b11 = some (.cells (A k fl) 114) ∧ F' b12 = some (.cells (A k fh) 114), 3,
      ⟨0, rfl, by omega, rfl, (le_set_fresh _ hb11).trans (le_set_fresh _ hb12), by rw [set_ne _ _ n12, set_eq]; rfl, by rw [set_eq]; rfl⟩, ?_⟩
    rintro m i F1 ⟨k, rfl, hk, rfl, hG, h11, h12⟩
    unfold b97L1
    rw [hmin]
    refine ⟨fun hlt => ?_, fun hge => ?_⟩
    · have hk3 : k < 3 := by omega
      obtain ⟨w, rw', dw⟩ := he.c2 k hk3
      have hFG : F.le F1 := l3.trans hG
      have hin : inn (p.SS k) (t k) := by
        match k, hk3 with
        | 0, _ => exact ht.1
        | 1, _ => exact ht.2.1
        | 2, _ => exact ht.2.2
      have hc : F1.cell (Addr.add ⟨n6, 0, none⟩ (Int.toNat (k : Int) * 1)) = some (vi (num (p.SS k) (t k))) := by
        match k, hk3 with
        | 0, _ => exact (cc hFG).1
        | 1, _ => exact (cc hFG).2.1
        | 2, _ => exact (cc hFG).2.2
      refine ⟨by omega, by omega, w, dw.size, by simpa using row_le (hle.trans hFG) rw', by omega, by omega, _, hc, ?_⟩
      refine (sides_spec (dw.le (hle.trans hFG)) (hf.pre k hk3) hin (hf.fit k hk3) D.lt).mono ?_
      rintro _ F2 ⟨rfl, l4⟩
      refine ⟨_, _, rfl, by omega, by omega, ?_⟩
      refine st1' (b := b11) (o := k) (by simp) (l4 _ _ h11) (by simp [A]; omega) ?_
      rw [hA k fl hk3]
      refine ⟨by omega, by omega, ?_⟩
      refine st1' (b := b12) (o := k) (by simp) (by rw [set_ne _ _ n12.symm]; exact l4 _ _ h12) (by simp [A]; omega) ?_
      rw [hA k fh hk3]
      refine ⟨3 - (k + 1), by omega, k + 1, w64s (by omega), by omega, rfl, le_set_new (le_set_new (hG.trans l4) hb11) g12, ?_, set_eq _ _ _⟩
      rw [set_ne _ _ n12, set_eq]
    · obtain rfl : k = 3 := by omega
      have e11 : A 3 fl = arr3 (p.key fun i => lo v (t i)) := rfl
      have e12 : A 3 fh = arr3 (p.key fun i => hi v (t i)) := rfl
      rw [e11] at h11
      rw [e12] at h12
      clear hA hge hk
      clear_value A fl fh
      unfold b97j2
      rw [hmin]
      have hs1 := (hs.upto l3).grow (F := G.set b11 (.cells (arr3 (p.key fun i => lo v (t i))) 114)) (le_set_fresh _ hb11) hb11 (set_eq _ _ _)
      have lx : (G.set b11 (.cells (arr3 (p.key fun i => lo v (t i))) 114)).le F1 := fun x ob hx => by
        by_cases hxb : x = b11
        · subst hxb; rw [set_eq] at hx; rw [h11]; exact hx
        · rw [set_ne _ _ hxb] at hx; exact hG _ _ hx
      have hs2 := hs1.grow lx (by rw [set_ne _ _ n12.symm]; exact g12) h12
      have f11 : F0 b11 = none := le_none (hle.trans l3) hb11
      have f12 : F0 b12 = none := le_none (hle.trans l3) g12
      have l0 : F0.le ((F0.set b11 (.cells (arr3 (p.key fun i => lo v (t i))) 114)).set b12 (.cells (arr3 (p.key fun i => hi v (t i))) 114)) := le_set_new (le_set_new PH.le_rfl f11) f12
      have q11 : ((F0.set b11 (.cells (arr3 (p.key fun i => lo v (t i))) 114)).set b12 (.cells (arr3 (p.key fun i => hi v (t i))) 114)) b11 = some (.cells (arr3 (p.key fun i => lo v (t i))) 114) := by rw [set_ne _ _ n12, set_eq]
      have q12 : ((F0.set b11 (.cells (arr3 (p.key fun i => lo v (t i))) 114)).set b12 (.cells (arr3 (p.key fun i => hi v (t i))) 114)) b12 = some (.cells (arr3 (p.key fun i => hi v (t i))) 114) := set_eq _ _ _
      generalize ((F0.set b11 (.cells (arr3 (p.key fun i => lo v (t i))) 114)).set b12 (.cells (arr3 (p.key fun i => hi v (t i))) 114)) = E0 at *
      have he0 := he.le l0
      have hcl := hs.bd.cl
      obtain ⟨a1, a2, X, a3, a4⟩ := vis_facts (p.res fun i => lo v (t i)) S D.ol hcl
      obtain ⟨c1, c2, Y, c3, c4⟩ := vis_facts (p.res fun i => hi v (t i)) (vis (p.res fun i => lo v (t i)) S) D.oh a1
      have hadd := addT_vis hcl (v := v) (l := p.res fun i => lo v (t i)) (h := p.res fun i => hi v (t i)) ⟨D.lt, D.tl, D.th, D.ol, D.oh⟩
      rw [← D.res] at hadd
      have g1 := vis_grow (p.res fun i => hi v (t i)) (vis (p.res fun i => lo v (t i)) S)
      have g2 := addT_le (vis (p.res fun i => hi v (t i)) (vis (p.res fun i => lo v (t i)) S)) (p.res t)
      rw [hadd] at g2
      refine ⟨_, rfl, _, le_cell hs2.bd.le he0.c7, arr3 (p.key fun i => lo v (t i)), rfl, row_whole (hs2.bd.le _ _ q11), _, _, _, rfl, cb97, ?_⟩
      refine (ih _ D.il D.sl E0 F1 S he0 hs2 (by omega)).mono ?_
      rintro _ F2 ⟨rfl, hs3⟩
      refine ⟨_, rfl, _, rfl, _, le_cell hs3.bd.le he0.c5, _, le_cell hs3.bd.le he0.c7, arr3 (p.key fun i => hi v (t i)), rfl, row_whole (hs3.bd.le _ _ q12), _, _, _, rfl, cb97, ?_⟩
      refine (ih _ D.ih D.sh E0 F2 _ he0 hs3 (by omega)).mono ?_
      rintro _ F3 ⟨rfl, hs4⟩
      refine ⟨_, rfl, le_cell hs4.bd.le he0.c5, ?_⟩
      obtain ⟨bd4, n94, ne4, o9, m9, hm9, hmo9, hok9⟩ := hs4
      have hnl : num (vis (p.res fun i => lo v (t i)) S) (p.res fun i => lo v (t i)) = num (vis (p.res fun i => hi v (t i)) (vis (p.res fun i => lo v (t i)) S)) (p.res fun i => lo v (t i)) := by
        rw [c3, num_append a2]
      rw [hnl]
      have hil : inn (vis (p.res fun i => hi v (t i)) (vis (p.res fun i => lo v (t i)) S)) (p.res fun i => lo v (t i)) := by rw [c3]; exact inn_append a2
      have hnb : p.bb ≠ p.b9 := fun e => by
        obtain ⟨_, _, _, _, ⟨s, h5, _⟩, _⟩ := bd4
        obtain ⟨es, c, L, rfl, _⟩ := hmo9
        rw [e, hm9] at h5
        cases h5
      have bd4' : BD (E0.set p.b9 o9) F3 p.bb p.mm (vis (p.res fun i => hi v (t i)) (vis (p.res fun i => lo v (t i)) S)) := by
        obtain ⟨k1, k2, k3, k4, ⟨s, k5, k6, k7⟩, k8⟩ := bd4
        refine ⟨fun x ob hx => ?_, k2, by rw [set_ne _ _ hnb]; exact k3, by rw [set_ne _ _ ne4]; exact k4, ⟨s, k5, k6, fun a ha => ?_⟩, k8⟩
        · by_cases hxb : x = p.b9
          · subst hxb; rw [set_eq] at hx; rw [hm9]; exact hx
          · rw [set_ne _ _ hxb] at hx; exact k1 _ _ hx
        · rw [set_ne _ _ (fun e => ?_)]
          · exact k7 a ha
          · obtain ⟨cur, hcur⟩ := k6.elem ha
            obtain ⟨es, c, L, rfl, _⟩ := hmo9
            rw [e, hm9] at hcur
            cases hcur
      refine (branch_spec bd4' hil c2 ⟨D.lt, D.tl, D.th⟩ (by omega)).mono ?_
      rintro _ F4 ⟨rfl, bd5⟩
      rw [← D.res, hadd] at bd5 ⊢
      have hm5 : F4 p.b9 = some o9 := bd5.le _ _ (set_eq _ _ _)
      have h65 : F4 n6 = some (.cells (arr3 (p.key t)) 114) := by
        have hne6 : n6 ≠ p.b9 := fun e => by
          rw [e, hs.n9] at h6; cases h6
        exact bd5.le _ _ (by rw [set_ne _ _ hne6]; exact l0 _ _ h6)
      have bd6 : BD E0 F4 p.bb p.mm (vis (p.res t) S) := bd5.weaken (le_set_new PH.le_rfl n94)
      refine ⟨_, rfl, _, le_cell bd6.le he0.c6, arr3 (p.key t), rfl, row_whole h65, ?_⟩
      refine runs_mapUpdate mt3 hm5 hmo9 (p.key t) _ fun o' ho' => ?_
      refine hR _ ?_
      refine AS.weaken ?_ l0
      have hinT : inn (vis (p.res t) S) (p.res t) := by
        have hokT : (p.res t).ok := by rw [D.res]; exact ok_mk D.lt D.tl D.th D.ol D.oh
        exact (vis_facts _ S hokT hcl).2.1
      refine ⟨bd6.other n94 hnb ne4 (fun c e fr h => ?_), n94, ne4, o', _, set_eq _ _ _, ho', ?_⟩
      · obtain ⟨es, c, L, rfl, _⟩ := hmo9
        rw [hm5] at h
        cases h
      · intro k w hkw
        dsimp only at hkw
        by_cases hk : k = p.key t
        · rw [if_pos hk] at hkw
          exact ⟨t, ht, hk, hinT, (Option.some.inj hkw).symm⟩
        · rw [if_neg hk] at hkw
          obtain ⟨u, u1, u2, u3, u4⟩ := hok9 k w hkw
          refine ⟨u, u1, u2, ?_, ?_⟩
          · rw [← hadd]
            unfold addT
            split
            · exact u3
            · exact inn_append u3
          · rw [u4, ← hadd]
            unfold addT
            split
            · rfl
            · rw [num_append u3]
theorem at_spec (hf : AF p) : ∀ (n : Nat) (t : Nat → Tr), szs t ≤ n → p.inK t → AtSpec p t := by
  intro n
  induction n with
  | zero => intro t hn; have := sz_pos (t 0); unfold szs at hn; omega
  | succ n ih =>
    intro t hn ht F0 F S he hs hfit
    show Spec prog 97 #[.agg (arr3 (p.key t)), _, _, _, _, _] F _
    refine c97 ?_
    unfold b97
    intro n6 hn6
    refine atI ?_
    have hle := hs.bd.le
    have f6 : F0 n6 = none := le_none hle hn6
    have hs1 := hs.grow (F := F.set n6 (.cells (arr3 (p.key t)) 114)) (le_set_fresh _ hn6) hn6 (set_eq _ _ _)
    have l0 : F0.le (F0.set n6 (.cells (arr3 (p.key t)) 114)) := le_set_fresh _ f6
    have he1 := he.le l0
    have h6 := set_eq F0 n6 (.cells (arr3 (p.key t)) 114)
    generalize F0.set n6 (.cells (arr3 (p.key t)) 114) = E0 at *
    generalize F.set n6 (.cells (arr3 (p.key t)) 114) = F1 at *
    have h6' := hs1.bd.le _ _ h6
    have rest : ¬ ((t 0).isL = true ∧ (t 1).isL = true ∧ (t 2).isL = true) → b97j1 (some ⟨p.b3, 0, none⟩) (some ⟨p.b6, 0, none⟩) (some ⟨p.b2, 0, none⟩) (some ⟨p.b7, 0, none⟩) (some ⟨p.b5, 0, none⟩) n6 false
        (fun r F' => r = vi (num (vis (p.res t) S) (p.res t)) ∧ AS F0 F' p (vis (p.res t) S)) F1 := fun hn' =>
      at_rest hf ht (fun u hu hlt => ih u (by omega) hu) he1 hs1 h6 hfit hn' fun F' h => ⟨rfl, h.weaken l0⟩
    refine ⟨by omega, by omega, _, by simp only [add_mk]; rw [cell_eq h6']; rfl, fun h0 => ?_, fun h0 => ?_⟩
    · refine ⟨by omega, by omega, _, by simp only [add_mk]; rw [cell_eq h6']; rfl, fun h1 => ?_, fun h1 => ?_⟩
      · refine ⟨by omega, by omega, _, by simp only [add_mk]; rw [cell_eq h6']; rfl, ?_⟩
        have k0 := numI_lt2.1 h0
        have k1 := numI_lt2.1 h1
        by_cases h2 : (t 2).isL = true
        · have e : decide ((p.key t).2.2 < 2) = true := decide_eq_true (numI_lt2.2 h2)
          rw [e]
          have hl : (p.res t).isL = true := by
            unfold AP.res
            generalize t 0 = x0 at *
            generalize t 1 = x1 at *
            generalize t 2 = x2 at *
            cases x0 with
            | node _ _ _ => cases k0
            | leaf a =>
              cases x1 with
              | node _ _ _ => cases k1
              | leaf b =>
                cases x2 with
                | node _ _ _ => cases h2
                | leaf c => rw [ap_leaf]; rfl
          have hvi : vis (p.res t) S = S := vis_inn (.inl hl)
          rw [hvi]
          exact at_leaf he1 hs1 h6 k0 k1 h2 fun F' h => ⟨rfl, (hs1.upto h).weaken l0⟩
        · have e : decide ((p.key t).2.2 < 2) = false := decide_eq_false (fun h => h2 (numI_lt2.1 h))
          rw [e]
          exact rest fun hc => h2 hc.2.2
      · exact rest fun hc => h1 (numI_lt2.2 hc.2.1)
    · exact rest fun hc => h0 (numI_lt2.2 hc.1)
end
end Go.Proofs.Ytafojmoeaneedaa
