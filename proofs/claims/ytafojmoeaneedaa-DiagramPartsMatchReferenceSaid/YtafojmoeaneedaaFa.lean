/-
  The reference's diagrams: intersection, union, complement, difference.
-/
import Derived.Test.YtafojmoeaneedaaEz
namespace Go.Proofs.Ytafojmoeaneedaa
open Go Go.Proofs.Try Tr
set_option maxRecDepth 10000

/-- An operation on two trees. -/
noncomputable abbrev ap2 (o : Op2) (a b : Tr) : Tr := ap (fun x y _ => o x y) a b (leaf false)
structure F2 (o : Op2) (a b : Tr) : Prop where
  ka : a.ok
  kb : b.ok
  fA : Fit ((subs a).length + 2)
  fB : Fit ((subs b).length + 2)
  fP : Fit (((subs a).length + 2) * ((subs b).length + 2) + 2)
  fT : Fit ((subs (ap2 o a b)).length + 4)
theorem ap2_facts {o : Op2} {a b : Tr} (ha : a.ok) (hb : b.ok) : (ap2 o a b).ok ∧ ∀ c, (ap2 o a b).ev c = o (a.ev c) (b.ev c) := by
  obtain ⟨h1, _, h2⟩ := ap_facts (o := fun x y _ => o x y) ha hb (d := leaf false) trivial
  exact ⟨h1, h2⟩

section
variable {F : PH} {v w : Array Value} {a b : Tr}
theorem rcombine_spec {o : Op2} {opc : Int} (hop : (opc = 0 ∧ o = oAnd) ∨ (opc = 1 ∧ o = oOr) ∨ (opc = 2 ∧ o = oXor)) (ha : DV F v (dia a)) (hb : DV F w (dia b)) (h : F2 o a b) :
    Spec prog 100 #[.agg v, .agg w, vi opc] F fun r F' => ∃ u, r = .agg u ∧ DV F' u (dia (ap2 o a b)) ∧ F.le F' := by
  obtain ⟨ka, kb, fA, fB, fP, fT⟩ := h
  obtain ⟨sa, rfl, hra⟩ := ha
  obtain ⟨sb, rfl, hrb⟩ := hb
  refine c100 ?_
  unfold b100
  intro b3 hb3
  refine atI ?_
  have l3 := le_set_fresh (.cells #[sa.v, vi (dia a).2] 28) hb3
  have q3 := set_eq F b3 (.cells #[sa.v, vi (dia a).2] 28)
  generalize F.set b3 (.cells #[sa.v, vi (dia a).2] 28) = F3 at *
  intro b4 hb4
  refine atI ?_
  have lx := le_set_fresh (.cells #[sb.v, vi (dia b).2] 28) hb4
  have q4 := set_eq F3 b4 (.cells #[sb.v, vi (dia b).2] 28)
  replace q3 := lx _ _ q3
  have l4 := l3.trans lx
  clear lx
  generalize F3.set b4 (.cells #[sb.v, vi (dia b).2] 28) = F4 at *
  intro b6 hb6
  refine atI ?_
  have f6 : F b6 = none := le_none l4 hb6
  have lx := le_set_fresh (.cells #[Value.slice none 0 0, Value.int .i64 0] 28) hb6
  have q6 := set_eq F4 b6 (.cells #[Value.slice none 0 0, Value.int .i64 0] 28)
  replace q3 := lx _ _ q3
  replace q4 := lx _ _ q4
  have l6 := l4.trans lx
  clear lx
  generalize F4.set b6 (.cells #[Value.slice none 0 0, Value.int .i64 0] 28) = F6 at *
  refine ⟨#[sa.v, vi (dia a).2], rfl, row_whole q3, #[sb.v, vi (dia b).2], rfl, row_whole q4, rfl, rfl, fun b13 hb13 => ?_⟩
  refine atI ?_
  let p : RP := ⟨b13, sa, sb, opc, o, dia a, dia b, subs a, subs b⟩
  have e13 : (Array.setIfInBounds (wr (wr (#[Value.slice none 0 0, Value.int .i64 0, Value.slice none 0 0, Value.int .i64 0, Value.int .i64 0, Value.slice none 0 0, Value.slice none 0 0] : Array Value) 0 (#[sa.v, vi (dia a).2] : Array Value).toList) 2 (#[sb.v, vi (dia b).2] : Array Value).toList) 4 (Value.int .i64 opc)) = p.obj Sl.nil Sl.nil := rfl
  rw [e13]
  have lx := le_set_fresh (.cells (p.obj Sl.nil Sl.nil) 131) hb13
  have q13 := set_eq F6 b13 (.cells (p.obj Sl.nil Sl.nil) 131)
  have q3' := lx _ _ q3
  have q4' := lx _ _ q4
  have hrf : RF p := ⟨subs_cl ka, subs_cl kb, List.prefix_refl _, List.prefix_refl _, by show Fit ((brs (subs a)).length + 2); rw [brs_length]; exact fA, by show Fit ((brs (subs b)).length + 2); rw [brs_length]; exact fB, fP, hop⟩
  have hre : RE F6 p := ⟨hra.le l6, hrb.le l6⟩
  have hrs : RS F6 (F6.set b13 (.cells (p.obj Sl.nil Sl.nil) 131)) p [] [] := ⟨lx, hb13, .nil, ⟨fun e he => (by cases he), by simp⟩, Sl.nil, Sl.nil, q13, .inl ⟨rfl, rfl⟩, fun a ha => (by cases ha), .inl ⟨rfl, rfl⟩, fun a ha => by cases ha⟩
  generalize F6.set b13 (.cells (p.obj Sl.nil Sl.nil) 131) = F7 at *
  refine ⟨(dia a).2, by rw [cell_eq q3']; rfl, (dia b).2, by rw [cell_eq q4']; rfl, ?_⟩
  have hres : p.q.res (pick3 a b (leaf false)) = ap2 o a b := rfl
  have hat := rat_spec hrf _ (pick3 a b (leaf false)) (Nat.le_refl _) ⟨subs_inn ka, subs_inn kb, rfl⟩ F6 F7 [] [] hre hrs (by rw [hres]; exact fT)
  rw [hres] at hat
  refine hat.mono ?_
  rintro _ F8 ⟨rfl, Ls', hs8, _⟩
  obtain ⟨hle8, hnb8, hcl8, _, nodes, seen, hb8, hon8, hnn8, _, _⟩ := hs8
  replace hb8 : F8 b13 = some (.cells (p.obj nodes seen) 131) := hb8
  refine ⟨_, rfl, nodes, by rw [cell_eq hb8]; rfl, ?_⟩
  have ev : vis (ap2 o a b) [] = subs (ap2 o a b) := rfl
  rw [ev] at *
  have q68 := hle8 _ _ q6
  have hon' : OwnS (del1 F8 b6) 72 3 nodes (bflat (brs (subs (ap2 o a b)))) := hon8.keep fun a ha => del1_of (fun e => by
    have := hnn8 a ha
    rw [e, q6] at this
    cases this)
  have hkT := (ap2_facts (o := o) ka kb).1
  refine (callD (numbered_spec hon'.rd hcl8 (subs_inn hkT) fT) q68).mono ?_
  rintro _ F9 ⟨u, rfl, ⟨G, hu, lG, gG⟩, l9, q9⟩
  refine ⟨_, rfl, ?_⟩
  exact ret2 (K := fun vres F' => ∃ u, Value.agg vres = .agg u ∧ DV F' u (dia (ap2 o a b)) ∧ F.le F') hu q9 rfl ⟨_, rfl, hu.le (le_set_new lG gG), le_set_new (l6.trans (hle8.trans l9)) f6⟩
theorem inter_spec (ha : DV F v (dia a)) (hb : DV F w (dia b)) (h : F2 oAnd a b) : Spec prog 83 #[.agg v, .agg w] F fun r F' => ∃ u, r = .agg u ∧ DV F' u (dia (ap2 oAnd a b)) ∧ F.le F' := by
  refine c83 ?_
  unfold b83
  intro b2 hb2
  refine atI ?_
  have l2 := le_set_fresh (.cells v 28) hb2
  have q2 := set_eq F b2 (.cells v 28)
  generalize F.set b2 (.cells v 28) = F2 at *
  intro b3 hb3
  refine atI ?_
  have lx := le_set_fresh (.cells w 28) hb3
  have q3 := set_eq F2 b3 (.cells w 28)
  replace q2 := lx _ _ q2
  have l3 := l2.trans lx
  clear lx
  generalize F2.set b3 (.cells w 28) = F3 at *
  intro b4 hb4
  refine atI ?_
  have f4 : F b4 = none := le_none l3 hb4
  have lx := le_set_fresh (.cells #[Value.slice none 0 0, Value.int .i64 0] 28) hb4
  have q4 := set_eq F3 b4 (.cells #[Value.slice none 0 0, Value.int .i64 0] 28)
  replace q2 := lx _ _ q2
  replace q3 := lx _ _ q3
  have l4 := l3.trans lx
  clear lx
  generalize F3.set b4 (.cells #[Value.slice none 0 0, Value.int .i64 0] 28) = F4 at *
  refine ⟨v, ha.size, row_whole q2, w, hb.size, row_whole q3, ?_⟩
  have ld := le_del1 l4 f4
  refine (callD (rcombine_spec (opc := 0) (.inl ⟨rfl, rfl⟩) (ha.le ld) (hb.le ld) h) q4).mono ?_
  rintro _ F5 ⟨z, rfl, ⟨G, hz, lG, gG⟩, l5, q5⟩
  refine ⟨_, rfl, ?_⟩
  exact ret2 (K := fun vres F' => ∃ u, Value.agg vres = .agg u ∧ DV F' u (dia (ap2 oAnd a b)) ∧ F.le F') hz q5 rfl ⟨_, rfl, hz.le (le_set_new lG gG), le_set_new (l4.trans l5) f4⟩
theorem union_spec (ha : DV F v (dia a)) (hb : DV F w (dia b)) (h : F2 oOr a b) : Spec prog 82 #[.agg v, .agg w] F fun r F' => ∃ u, r = .agg u ∧ DV F' u (dia (ap2 oOr a b)) ∧ F.le F' := by
  refine c82 ?_
  unfold b82
  intro b2 hb2
  refine atI ?_
  have l2 := le_set_fresh (.cells v 28) hb2
  have q2 := set_eq F b2 (.cells v 28)
  generalize F.set b2 (.cells v 28) = F2 at *
  intro b3 hb3
  refine atI ?_
  have lx := le_set_fresh (.cells w 28) hb3
  have q3 := set_eq F2 b3 (.cells w 28)
  replace q2 := lx _ _ q2
  have l3 := l2.trans lx
  clear lx
  generalize F2.set b3 (.cells w 28) = F3 at *
  intro b4 hb4
  refine atI ?_
  have f4 : F b4 = none := le_none l3 hb4
  have lx := le_set_fresh (.cells #[Value.slice none 0 0, Value.int .i64 0] 28) hb4
  have q4 := set_eq F3 b4 (.cells #[Value.slice none 0 0, Value.int .i64 0] 28)
  replace q2 := lx _ _ q2
  replace q3 := lx _ _ q3
  have l4 := l3.trans lx
  clear lx
  generalize F3.set b4 (.cells #[Value.slice none 0 0, Value.int .i64 0] 28) = F4 at *
  refine ⟨v, ha.size, row_whole q2, w, hb.size, row_whole q3, ?_⟩
  have ld := le_del1 l4 f4
  refine (callD (rcombine_spec (opc := 1) (.inr (.inl ⟨rfl, rfl⟩)) (ha.le ld) (hb.le ld) h) q4).mono ?_
  rintro _ F5 ⟨z, rfl, ⟨G, hz, lG, gG⟩, l5, q5⟩
  refine ⟨_, rfl, ?_⟩
  exact ret2 (K := fun vres F' => ∃ u, Value.agg vres = .agg u ∧ DV F' u (dia (ap2 oOr a b)) ∧ F.le F') hz q5 rfl ⟨_, rfl, hz.le (le_set_new lG gG), le_set_new (l4.trans l5) f4⟩
theorem compl_spec (ha : DV F v (dia a)) (h : F2 oXor a (leaf true)) : Spec prog 85 #[.agg v] F fun r F' => ∃ u, r = .agg u ∧ DV F' u (dia (ap2 oXor a (leaf true))) ∧ F.le F' := by
  refine c85 ?_
  unfold b85
  intro b2 hb2
  refine atI ?_
  have l2 := le_set_fresh (.cells v 28) hb2
  have q2 := set_eq F b2 (.cells v 28)
  generalize F.set b2 (.cells v 28) = F3 at *
  intro b4 hb4
  refine atI ?_
  have f4 : F b4 = none := le_none l2 hb4
  have lx := le_set_fresh (.cells #[Value.slice none 0 0, Value.int .i64 0] 28) hb4
  have q4 := set_eq F3 b4 (.cells #[Value.slice none 0 0, Value.int .i64 0] 28)
  replace q2 := lx _ _ q2
  have l4 := l2.trans lx
  clear lx
  generalize F3.set b4 (.cells #[Value.slice none 0 0, Value.int .i64 0] 28) = F4 at *
  refine ⟨v, ha.size, row_whole q2, ?_⟩
  refine (callD (rconstant_spec (F := del1 F4 b4) true) q4).mono ?_
  rintro _ F5 ⟨y, rfl, ⟨G0, hy, lG0, gG0⟩, l5, q5⟩
  refine ⟨_, rfl, row_whole (l5 _ _ q2), ?_⟩
  have ld := le_del1 (l4.trans l5) f4
  refine (callD (rcombine_spec (opc := 2) (.inr (.inr ⟨rfl, rfl⟩)) (ha.le ld) (hy.beside lG0 gG0) h) q5).mono ?_
  rintro _ F6 ⟨z, rfl, ⟨G, hz, lG, gG⟩, l6, q6⟩
  refine ⟨_, rfl, ?_⟩
  exact ret2 (K := fun vres F' => ∃ u, Value.agg vres = .agg u ∧ DV F' u (dia (ap2 oXor a (leaf true))) ∧ F.le F') hz q6 rfl ⟨_, rfl, hz.le (le_set_new lG gG), le_set_new (l4.trans (l5.trans l6)) f4⟩
theorem minus_spec (ha : DV F v (dia a)) (hb : DV F w (dia b)) (h1 : F2 oXor b (leaf true)) (h2 : F2 oAnd a (ap2 oXor b (leaf true))) :
    Spec prog 84 #[.agg v, .agg w] F fun r F' => ∃ u, r = .agg u ∧ DV F' u (dia (ap2 oAnd a (ap2 oXor b (leaf true)))) ∧ F.le F' := by
  refine c84 ?_
  unfold b84
  intro b2 hb2
  refine atI ?_
  have l2 := le_set_fresh (.cells v 28) hb2
  have q2 := set_eq F b2 (.cells v 28)
  generalize F.set b2 (.cells v 28) = F2 at *
  intro b3 hb3
  refine atI ?_
  have lx := le_set_fresh (.cells w 28) hb3
  have q3 := set_eq F2 b3 (.cells w 28)
  replace q2 := lx _ _ q2
  have l3 := l2.trans lx
  clear lx
  generalize F2.set b3 (.cells w 28) = F3 at *
  intro b4 hb4
  refine atI ?_
  have f4 : F b4 = none := le_none l3 hb4
  have lx := le_set_fresh (.cells #[Value.slice none 0 0, Value.int .i64 0] 28) hb4
  have q4 := set_eq F3 b4 (.cells #[Value.slice none 0 0, Value.int .i64 0] 28)
  replace q2 := lx _ _ q2
  replace q3 := lx _ _ q3
  have l4 := l3.trans lx
  clear lx
  generalize F3.set b4 (.cells #[Value.slice none 0 0, Value.int .i64 0] 28) = F4 at *
  refine ⟨v, ha.size, row_whole q2, w, hb.size, row_whole q3, ?_⟩
  refine (callD (compl_spec (hb.le (le_del1 l4 f4)) h1) q4).mono ?_
  rintro _ F5 ⟨y, rfl, ⟨G0, hy, lG0, gG0⟩, l5, q5⟩
  refine ⟨_, rfl, row_whole (l5 _ _ q2), ?_⟩
  refine (callD (inter_spec (ha.le (le_del1 (l4.trans l5) f4)) (hy.beside lG0 gG0) h2) q5).mono ?_
  rintro _ F6 ⟨z, rfl, ⟨G, hz, lG, gG⟩, l6, q6⟩
  refine ⟨_, rfl, ?_⟩
  exact ret2 (K := fun vres F' => ∃ u, Value.agg vres = .agg u ∧ DV F' u (dia (ap2 oAnd a (ap2 oXor b (leaf true)))) ∧ F.le F') hz q6 rfl ⟨_, rfl, hz.le (le_set_new lG gG), le_set_new (l4.trans (l5.trans l6)) f4⟩
end
end Go.Proofs.Ytafojmoeaneedaa
