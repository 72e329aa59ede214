/-
  The reference's diagrams: level, sides, constants, conditions; the walk that numbers the branches.
-/
import Derived.Test.YtafojmoeaneedaaEs
namespace Go.Proofs.Ytafojmoeaneedaa
open Go Go.Proofs.Try Tr
set_option maxRecDepth 10000

section
variable {F : PH} {v : Array Value} {d : Dia} {S : List Tr} {t : Tr}
theorem rlevel_spec (hd : DV F v d) (hp : brs S <+: d.1) (ht : inn S t) (hf : Fit (d.1.length + 2)) :
    Spec prog 109 #[.agg v, vi (num S t)] F fun r F' => r = vi t.top ∧ F.le F' := by
  obtain ⟨hfit, hlt⟩ := num_fit hp ht hf
  obtain ⟨s, rfl, hr⟩ := hd
  refine c109 ?_
  unfold b109
  intro b2 hb2
  refine atI ?_
  have hle := le_set_fresh (.cells #[s.v, vi d.2] 28) hb2
  refine ⟨fun h => ?_, fun h => ?_⟩
  · have hl := num_lt2 (S := S) (t := t) (by omega)
    cases t with
    | leaf b => exact ⟨rfl, hle⟩
    | node _ _ _ => cases hl
  · cases t with
    | leaf b => have := num_leaf_le S b; omega
    | node w l r =>
      have hx := brs_pre_get hp (num_get (inn_mem ht rfl) rfl)
      obtain ⟨a, h1, _, h2, _⟩ := rdb (hr.le hle) hx
      have hw := w64m2 hfit (num_ge (S := S) (t := node w l r) rfl)
      have hg := num_ge (S := S) (t := node w l r) rfl
      refine ⟨s, by simp, a, h1, by rw [hw]; omega, by rw [hw, hr.blen]; omega, _, by rw [hw]; exact h2, rfl, hle⟩

theorem rsides_spec (hd : DV F v d) (hp : brs S <+: d.1) (ht : inn S t) (hf : Fit (d.1.length + 2)) {w : Nat} (hw : w < 64) :
    Spec prog 123 #[.agg v, vi (num S t), vi w] F fun r F' => r = .tuple #[vi (num S (lo w t)), vi (num S (hi w t))] ∧ F.le F' := by
  obtain ⟨hfit, hlt⟩ := num_fit hp ht hf
  have hd' := hd
  obtain ⟨s, rfl, hr⟩ := hd
  refine c123 ?_
  unfold b123
  intro b3 hb3
  refine atI ?_
  have hle := le_set_fresh (.cells #[s.v, vi d.2] 28) hb3
  refine ⟨_, rfl, row_whole (set_eq _ _ _), ?_⟩
  refine (rlevel_spec (hd'.le hle) hp ht hf).mono ?_
  rintro _ F2 ⟨rfl, hle2⟩
  have hc : F2 b3 = some _ := hle2 _ _ (set_eq _ _ _)
  have hle' : F.le F2 := fun b o h => hle2 b o (hle b o h)
  refine ⟨_, rfl, fun h => ?_, fun h => ?_⟩
  · refine ⟨?_, hle'⟩
    cases t with
    | leaf b => rfl
    | node w' l r =>
      have : ¬ w' = w := fun e => h (by simp [Tr.top, e])
      simp [lo, hi, this]
  · cases t with
    | leaf b => simp only [Tr.top] at h; omega
    | node w' l r =>
      have e : w' = w := by simp only [Tr.top] at h; omega
      subst e
      have hx := brs_pre_get hp (num_get (inn_mem ht rfl) rfl)
      obtain ⟨a, h1, _, _, h3, h4⟩ := rdb (hr.le hle') hx
      have hw := w64m2 hfit (num_ge (S := S) (t := node w' l r) rfl)
      have hg := num_ge (S := S) (t := node w' l r) rfl
      refine ⟨s, by rw [cell_eq hc]; rfl, a, h1, by rw [hw]; omega, by rw [hw, hr.blen]; omega, _, by rw [hw]; exact h3,
        s, by rw [cell_eq hc]; rfl, a, h1, by rw [hw]; omega, by rw [hw, hr.blen]; omega, _, by rw [hw]; exact h4, ?_, hle'⟩
      simp [lo, hi, br]
end
section
variable {F : PH}
theorem rconstant_spec (x : Bool) : Spec prog 103 #[.bool x] F fun r F' => ∃ w, r = .agg w ∧ DV F' w (dia (leaf x)) ∧ F.le F' := by
  refine c103 ?_
  unfold b103
  intro b2 hb2
  refine atI ?_
  have l2 := le_set_fresh (.cells #[Value.slice none 0 0, Value.int .i64 0] 28) hb2
  have q2 := set_eq F b2 (.cells #[Value.slice none 0 0, Value.int .i64 0] 28)
  refine ⟨fun h => ?_, fun h => ?_⟩
  · subst h
    have hd : ∀ G : PH, DV G #[Value.slice none 0 0, Value.int .i64 1] (dia (leaf true)) := fun G => ⟨Sl.nil, rfl, RdS.nil G 3⟩
    exact ret2 (K := fun vres F' => ∃ w, Value.agg vres = .agg w ∧ DV F' w (dia (leaf true)) ∧ F.le F') (hd F) q2 rfl ⟨_, rfl, hd _, le_set_new l2 hb2⟩
  · subst h
    have hd : ∀ G : PH, DV G #[Value.slice none 0 0, Value.int .i64 0] (dia (leaf false)) := fun G => ⟨Sl.nil, rfl, RdS.nil G 3⟩
    exact ret2 (K := fun vres F' => ∃ w, Value.agg vres = .agg w ∧ DV F' w (dia (leaf false)) ∧ F.le F') (hd F) q2 rfl ⟨_, rfl, hd _, le_set_new l2 hb2⟩
theorem rvar_spec (x : Int) : Spec prog 52 #[vi x] F fun r F' => DRV F' r (varD x) ∧ F.le F' := by
  refine c52 ?_
  unfold b52
  intro b2 hb2
  refine atI ?_
  have l2 := le_set_fresh (.cells #[Value.slice none 0 0, Value.int .i64 0] 28) hb2
  have q2 := set_eq F b2 (.cells #[Value.slice none 0 0, Value.int .i64 0] 28)
  generalize F.set b2 (.cells #[Value.slice none 0 0, Value.int .i64 0] 28) = F2 at *
  have bad : x < 0 ∨ 63 < x → b52j1 x b2 true (fun r F' => DRV F' r (varD x) ∧ F.le F') F2 := fun h => by
    unfold b52j1
    refine ⟨fun _ => ?_, fun hc => by cases hc⟩
    have e : varD x = (none0, 1) := by unfold varD; rw [if_pos h]
    rw [e]
    exact retErr q2 rfl l2 hb2
  refine ⟨fun h => bad (.inl h), fun h => ?_⟩
  by_cases h2 : 63 < x
  · rw [decide_eq_true h2]
    exact bad (.inr h2)
  · rw [decide_eq_false h2]
    unfold b52j1
    refine ⟨fun hc => (by cases hc), fun _ => ⟨rfl, fun b13 hb13 => ?_⟩⟩
    refine atI ?_
    have e : varD x = (dia (tv x.toNat), 0) := by unfold varD; rw [if_neg (by omega)]
    have hx : ((x.toNat : Nat) : Int) = x := by omega
    have lx := le_set_fresh (.cells #[vi x, vi 0, vi 1] 72) hb13
    have q13 := set_eq F2 b13 (.cells #[vi x, vi 0, vi 1] 72)
    have n : b13 ≠ b2 := (ne_of_fresh hb13 q2).symm
    replace q2 := lx _ _ q2
    have l3 := l2.trans lx
    rw [e]
    have hd : ∀ G : PH, G b13 = some (.cells #[vi x, vi 0, vi 1] 72) → DV G #[(Sl.mk (some ⟨b13, 0, none⟩) 1 1).v, vi 2] (dia (tv x.toNat)) := fun G hG => by
      rw [dia_tv, hx]
      exact ⟨_, rfl, RdS.new hG rfl rfl (Nat.le_refl _)⟩
    exact ret2 (K := fun vres F' => DRV F' (.tuple #[.agg vres, vi 0]) (dia (tv x.toNat), 0) ∧ F.le F') (hd _ q13) q2 rfl ⟨⟨_, rfl, hd _ (by rw [set_ne _ _ n]; exact q13)⟩, le_set_new l3 hb2⟩
end

/-! the walk -/
/-- The numbers that the walk has given. -/
def rnS (S : List Tr) (t : Tr) : Nat := if t ∈ S then num S t else 0
def rnL (S0 S : List Tr) : List Value := S0.map fun t => vi (rnS S t : Int)
structure WS (F0 F : PH) (bw g : Nat) (ns : Sl) (S0 S : List Tr) : Prop where
  le : F0.le F
  cl : Cl S
  sub : ∀ x ∈ S, x ∈ S0
  nw : F0 bw = none
  ng : F0 g = none
  rd : RdS F0 ns 3 (bflat (brs S0))
  ex : ∃ s : Sl, F bw = some (.cells #[ns.v, Sl.v ⟨some ⟨g, 0, none⟩, S0.length, S0.length⟩, s.v] 135) ∧ OwnS F 72 3 s (bflat (brs S)) ∧ ∀ a, s.base = some a → F0 a.block = none
  hg : F g = some (.cells (rnL S0 S).toArray 3)
theorem rnL_snoc {S0 S : List Tr} (h0 : Cl S0) {t : Tr} (hS' : Cl (S ++ [t])) (ht : t ∈ S0) (hl : t.isL = false) : (rnL S0 S).set (num S0 t - 2) (vi ((S.length + 2 : Nat) : Int)) = rnL S0 (S ++ [t]) := by
  apply List.ext_getElem?
  intro j
  unfold rnL
  rw [List.getElem?_set, List.getElem?_map, List.getElem?_map]
  have hg := num_ge (S := S0) hl
  have hgt := num_get ht hl
  by_cases hj : num S0 t - 2 = j
  · subst hj
    have hlt := (List.getElem?_eq_some_iff.1 hgt).1
    rw [if_pos rfl, List.length_map, if_pos hlt, hgt]
    simp only [Option.map_some, rnS]
    rw [if_pos (by simp), num_of_get hS' (k := S.length) (by simp)]
  · rw [if_neg hj]
    cases hx : S0[j]? with
    | none => rfl
    | some u =>
      simp only [Option.map_some, rnS]
      have hne : u ≠ t := fun e => by
        subst e
        have := num_of_get h0 hx
        omega
      have hm : u ∈ S ++ [t] ↔ u ∈ S := by simp [hne]
      by_cases hu : u ∈ S
      · rw [if_pos hu, if_pos (hm.2 hu), num_append (.inr hu)]
      · rw [if_neg hu, if_neg (fun h => hu (hm.1 h))]
theorem rvisit_spec {bw g : Nat} {ns : Sl} {S0 : List Tr} (h0 : Cl S0) (hf : Fit (S0.length + 4)) : ∀ (t : Tr), inn S0 t → ∀ (F0 F : PH) (S : List Tr), WS F0 F bw g ns S0 S →
    Spec prog 110 #[.pointer (some ⟨bw, 0, none⟩), vi (num S0 t)] F fun r F' => r = vi (num (vis t S) t) ∧ WS F0 F' bw g ns S0 (vis t S) := by
  intro t
  induction t with
  | leaf x =>
    intro ht F0 F S hs
    refine c110 ?_
    unfold b110
    have := num_leaf_le S0 x
    exact ⟨fun _ => ⟨rfl, hs⟩, fun h => by omega⟩
  | node v l h ihl ihh =>
    intro ht F0 F S hs
    have hs' := hs
    obtain ⟨hle, hS, hsub, hnw, hng, hrd, ⟨s, hw, ho, hsb⟩, hg⟩ := hs
    have htm := inn_mem ht rfl
    obtain ⟨hil, hih⟩ := h0.inn_kids ht
    have hok := h0.inn_ok ht
    have hge := num_ge (S := S0) (t := node v l h) rfl
    have hnl := num_le ht
    have hgt := num_get htm rfl
    have hlt := (List.getElem?_eq_some_iff.1 hgt).1
    have hw2 := w64m2 (n := num S0 (node v l h)) (by omega) hge
    refine c110 ?_
    unfold b110
    refine ⟨fun h => by omega, fun _ => ?_⟩
    rw [hw2]
    have cell0 : F.cell ⟨bw, 0, none⟩ = some ns.v := by rw [cell_eq hw]; rfl
    have cell1 : F.cell (Addr.add ⟨bw, 0, none⟩ 1) = some (Sl.v ⟨some ⟨g, 0, none⟩, S0.length, S0.length⟩) := by rw [add_mk, cell_eq hw]; rfl
    have cellg : F.cell (Addr.add ⟨g, 0, none⟩ (Int.toNat ((num S0 (node v l h) - 2 : Nat) : Int) * 1)) = some (vi (rnS S (node v l h))) := by
      simp only [add_mk]
      rw [cell_eq hg]
      have : (rnL S0 S)[num S0 (node v l h) - 2]? = some (vi (rnS S (node v l h))) := by
        unfold rnL
        rw [List.getElem?_map, hgt]
        rfl
      simpa using this
    refine ⟨_, rfl, _, cell1, _, rfl, by omega, by simp only; omega, _, cellg, fun hpos => ?_, fun hpos => ?_⟩
    · have hin : node v l h ∈ S := by
        unfold rnS at hpos
        split at hpos
        · assumption
        · omega
      have e : vis (node v l h) S = S := vis_inn (.inr hin)
      rw [e]
      have e2 : rnS S (node v l h) = num S (node v l h) := by unfold rnS; rw [if_pos hin]
      rw [e2] at cellg
      exact ⟨_, cell1, _, rfl, by omega, by simp only; omega, _, cellg, rfl, hs'⟩
    · have hin : node v l h ∉ S := fun hin => hpos (by
        have := num_ge (S := S) (t := node v l h) rfl
        unfold rnS
        rw [if_pos hin]
        omega)
      obtain ⟨a, ha, hrow, _⟩ := rdb (hrd.le hle) (brs_get hgt)
      have hns := hrd.blen
      rw [brs_length] at hns
      refine ⟨ns, cell0, a, ha, by omega, by omega, barr (br S0 (node v l h)), rfl, by simpa using hrow, ?_⟩
      intro b5 hb5
      refine atI ?_
      refine stW (set_eq _ _ _) rfl rfl (st_barr _) ?_
      rw [set_twice]
      have h50 : F0 b5 = none := le_none hle hb5
      have n5w : bw ≠ b5 := ne_of_fresh hb5 hw
      have n5g : g ≠ b5 := ne_of_fresh hb5 hg
      have hs5 : WS (F0.set b5 (.cells (barr (br S0 (node v l h))) 72)) (F.set b5 (.cells (barr (br S0 (node v l h))) 72)) bw g ns S0 S := by
        refine ⟨fun x ob hx => ?_, hS, hsub, by rw [set_ne _ _ n5w]; exact hnw, by rw [set_ne _ _ n5g]; exact hng, hrd.le (le_set_fresh _ h50), ⟨s, by rw [set_ne _ _ n5w]; exact hw, ho.upto (le_set_fresh _ hb5), fun a ha => ?_⟩, by rw [set_ne _ _ n5g]; exact hg⟩
        · by_cases hxb : x = b5
          · subst hxb; rw [set_eq] at hx ⊢; exact hx
          · rw [set_ne _ _ hxb] at hx ⊢; exact hle _ _ hx
        · obtain ⟨cur, hcur⟩ := ho.elem ha
          rw [set_ne _ _ (ne_of_fresh hb5 hcur)]
          exact hsb a ha
      have hle0 : F0.le (F0.set b5 (.cells (barr (br S0 (node v l h))) 72)) := le_set_fresh _ h50
      have hc5 : (F0.set b5 (.cells (barr (br S0 (node v l h))) 72)) b5 = some (.cells (barr (br S0 (node v l h))) 72) := set_eq _ _ _
      generalize F0.set b5 (.cells (barr (br S0 (node v l h))) 72) = G0 at *
      generalize F.set b5 (.cells (barr (br S0 (node v l h))) 72) = F1 at *
      refine ⟨_, by rw [cell_eq (hs5.le _ _ hc5)]; rfl, ?_⟩
      refine (ihl hil G0 F1 S hs5).mono ?_
      rintro _ F2 ⟨rfl, hs2⟩
      refine ⟨_, rfl, _, by rw [cell_eq (hs2.le _ _ hc5)]; rfl, ?_⟩
      refine (ihh hih G0 F2 _ hs2).mono ?_
      rintro _ F3 ⟨rfl, hs3⟩
      obtain ⟨hle3, hS3, hsub3, hnw3, hng3, hrd3, ⟨s3, hw3, ho3, hsb3⟩, hg3⟩ := hs3
      obtain ⟨fl1, fl2, X, fl3, fl4⟩ := vis_facts l S hok.2.2.2.2.1 hS
      obtain ⟨fh1, fh2, Y, fh3, fh4⟩ := vis_facts h (vis l S) hok.2.2.2.2.2 fl1
      have hnl' : num (vis l S) l = num (vis h (vis l S)) l := by rw [fh3, num_append fl2]
      have evis : vis (node v l h) S = vis h (vis l S) ++ [node v l h] := by
        conv => lhs; unfold vis
        rw [if_neg hin]
      obtain ⟨hSv, _, _⟩ := vis_facts (node v l h) S hok hS
      rw [evis] at hSv ⊢
      rw [hnl']
      have hil3 : inn (vis h (vis l S)) l := by rw [fh3]; exact inn_append fl2
      generalize vis h (vis l S) = T at *
      refine ⟨_, rfl, s3, by rw [add_mk, cell_eq hw3]; rfl, _, by rw [cell_eq (hle3 _ _ hc5)]; rfl, rfl, fun b54 hb54 => ?_⟩
      refine atI ?_
      have hTl : T.length ≤ S0.length := nodup_length T S0 hS3.nodup hsub3
      have hlen := ho3.rd.blen
      rw [brs_length] at hlen
      have hle54 := le_set_fresh (.cells (barr ⟨(v : Int), (num T l : Int), (num T h : Int)⟩) 72) hb54
      have h54 := set_eq F3 b54 (.cells (barr ⟨(v : Int), (num T l : Int), (num T h : Int)⟩) 72)
      show runs prog _ (F3.set b54 (.cells (barr ⟨(v : Int), (num T l : Int), (num T h : Int)⟩) 72)) _
      replace hle3 : G0.le (F3.set b54 (.cells (barr ⟨(v : Int), (num T l : Int), (num T h : Int)⟩) 72)) := fun x ob hx => hle54 _ _ (hle3 _ _ hx)
      replace ho3 := ho3.upto hle54
      replace hw3 := hle54 _ _ hw3
      replace hg3 := hle54 _ _ hg3
      generalize F3.set b54 (.cells (barr ⟨(v : Int), (num T l : Int), (num T h : Int)⟩) 72) = F4 at *
      refine own_app underlying26 sz72 zr72 rfl (by decide) hle3 ho3 hsb3 (x := ⟨some ⟨b54, 0, none⟩, 1, 1⟩) (news := bcells ⟨(v : Int), (num T l : Int), (num T h : Int)⟩) (RdS.new h54 rfl rfl (Nat.le_refl _))
        (fun x hx => st_bflat [⟨(v : Int), (num T l : Int), (num T h : Int)⟩] x (by simpa [bflat] using hx)) (by simp only [hlen]; omega) (by simp only [hlen]; omega) ?_
      intro s5 F5 hle5 ho5 hlen5 hsb5 hk5 _
      have new : ∀ a, s3.base = some a → a.block ≠ bw := fun a ha e => by
        obtain ⟨cur, hcur⟩ := ho3.elem ha
        rw [e, hw3] at hcur
        simp at hcur
      have neg : ∀ a, s3.base = some a → a.block ≠ g := fun a ha e => by
        obtain ⟨cur, hcur⟩ := ho3.elem ha
        rw [e, hg3] at hcur
        simp at hcur
      replace hw3 := hk5 _ _ hw3 (fun ⟨a, ha, e⟩ => new a ha e)
      replace hg3 := hk5 _ _ hg3 (fun ⟨a, ha, e⟩ => neg a ha e)
      have nwg : bw ≠ g := fun e => by rw [e, hg3] at hw3; simp at hw3
      have hsb6 : ∀ a, s5.base = some a → a.block ≠ bw ∧ a.block ≠ g := fun a ha => by
        obtain ⟨cur, hcur⟩ := ho5.elem ha
        refine ⟨fun e => ?_, fun e => ?_⟩
        · rw [e, hw3] at hcur; simp at hcur
        · rw [e, hg3] at hcur; simp at hcur
      refine ⟨s5, rfl, by rw [cell_eq (hle5 _ _ hc5)]; rfl, ?_⟩
      refine st1' (b := bw) (o := 2) (by simp) hw3 (by simp) ?_
      rw [show (#[ns.v, Sl.v ⟨some ⟨g, 0, none⟩, S0.length, S0.length⟩, s3.v].setIfInBounds 2 s5.v : Array Value) = #[ns.v, Sl.v ⟨some ⟨g, 0, none⟩, S0.length, S0.length⟩, s5.v] from rfl]
      have hle6 : G0.le (F5.set bw (.cells #[ns.v, Sl.v ⟨some ⟨g, 0, none⟩, S0.length, S0.length⟩, s5.v] 135)) := le_set_new hle5 hnw3
      have hw6 := set_eq F5 bw (.cells #[ns.v, Sl.v ⟨some ⟨g, 0, none⟩, S0.length, S0.length⟩, s5.v] 135)
      have hg6 : (F5.set bw (.cells #[ns.v, Sl.v ⟨some ⟨g, 0, none⟩, S0.length, S0.length⟩, s5.v] 135)) g = some (.cells (rnL S0 T).toArray 3) := by rw [set_ne _ _ nwg.symm]; exact hg3
      have ho6 : OwnS (F5.set bw (.cells #[ns.v, Sl.v ⟨some ⟨g, 0, none⟩, S0.length, S0.length⟩, s5.v] 135)) 72 3 s5 _ := ho5.keep fun a ha => set_ne _ _ (hsb6 a ha).1
      generalize F5.set bw (.cells #[ns.v, Sl.v ⟨some ⟨g, 0, none⟩, S0.length, S0.length⟩, s5.v] 135) = F6 at *
      have hlen6 : s5.len = T.length + 1 := by rw [hlen5, hlen]
      have hw7 : IntKind.i64.wrap ((s5.len : Int) + 1) = ((T.length + 2 : Nat) : Int) := by rw [hlen6, w64_eq (by omega) (by omega)]; omega
      refine ⟨_, by rw [add_mk, cell_eq hw6]; rfl, s5, by rw [add_mk, cell_eq hw6]; rfl, _, rfl, by omega, by simp only; omega, ?_⟩
      rw [hw7]
      refine st1' (b := g) (o := num S0 (node v l h) - 2) (by simp) hg6 (by simp [rnL]; omega) ?_
      rw [List.setIfInBounds_toArray, rnL_snoc h0 hSv htm rfl]
      refine ⟨s5, by rw [add_mk, cell_eq ((set_ne _ _ nwg).trans hw6)]; rfl, ?_⟩
      rw [hw7]
      refine ⟨by rw [num_of_get hSv (k := T.length) (by simp)], fun x ob hx => le_set_new hle6 hng3 _ _ (hle0 _ _ hx), hSv, fun x hx => ?_, hnw, hng, hrd, ⟨s5, (set_ne _ _ nwg).trans hw6, ?_, fun a ha => le_none hle0 (hsb5 a ha)⟩, set_eq _ _ _⟩
      · rcases List.mem_append.1 hx with hx | hx
        · exact hsub3 x hx
        · rw [List.mem_singleton.1 hx]; exact htm
      · have e3 : bflat (brs (T ++ [node v l h])) = bflat (brs T) ++ bcells ⟨(v : Int), (num T l : Int), (num T h : Int)⟩ := by
          rw [brs_snoc hS3 hil3 fh2, bflat_append]
          simp [bflat]
        rw [e3]
        exact ho6.keep fun a ha => set_ne _ _ (hsb6 a ha).2

section
variable {F : PH} {ns : Sl} {S0 : List Tr} {t : Tr}
theorem numbered_spec (hr : RdS F ns 3 (bflat (brs S0))) (h0 : Cl S0) (ht : inn S0 t) (hf : Fit (S0.length + 4)) :
    Spec prog 102 #[ns.v, vi (num S0 t)] F fun r F' => ∃ v, r = .agg v ∧ DV F' v (dia t) ∧ F.le F' := by
  have hns := hr.blen
  rw [brs_length] at hns
  refine c102 ?_
  unfold b102
  intro b4 hb4
  refine atI ?_
  have l4 := le_set_fresh (.cells #[Value.slice none 0 0, Value.int .i64 0] 28) hb4
  have q4 := set_eq F b4 (.cells #[Value.slice none 0 0, Value.int .i64 0] 28)
  generalize F.set b4 (.cells #[Value.slice none 0 0, Value.int .i64 0] 28) = F4 at *
  refine runs_makeSlice underlying68 sz3 zr3 rfl (by omega) (Int.le_refl _) (by omega) (by omega) ?_
  intro g hg
  rw [zc1 _ rfl, Int.toNat_natCast, hns]
  refine ⟨_, rfl, ?_⟩
  have e0 : List.replicate S0.length (Value.int .i64 0) = rnL S0 [] := by
    apply List.ext_getElem?
    intro j
    unfold rnL
    rw [List.getElem?_replicate, List.getElem?_map]
    by_cases hj : j < S0.length
    · rw [if_pos hj, List.getElem?_eq_getElem hj]
      simp [rnS]
    · rw [if_neg hj, List.getElem?_eq_none (by omega)]
      rfl
  rw [e0]
  have lg := le_set_fresh (.cells (rnL S0 []).toArray 3) hg
  have qg := set_eq F4 g (.cells (rnL S0 []).toArray 3)
  have q4g := lg _ _ q4
  have n4g : b4 ≠ g := ne_of_fresh hg q4
  generalize hG : F4.set g (.cells (rnL S0 []).toArray 3) = Fg at *
  intro b12 hb12
  refine atI ?_
  have n12g : g ≠ b12 := ne_of_fresh hb12 qg
  have f12 : F4 b12 = none := le_none lg hb12
  have lx := le_set_fresh (.cells #[ns.v, Sl.v ⟨some ⟨g, 0, none⟩, S0.length, S0.length⟩, Value.slice none 0 0] 135) hb12
  have hs : WS F4 (Fg.set b12 (.cells #[ns.v, Sl.v ⟨some ⟨g, 0, none⟩, S0.length, S0.length⟩, Value.slice none 0 0] 135)) b12 g ns S0 [] :=
    ⟨lg.trans lx, .nil, fun x hx => (by cases hx), f12, hg, hr.le l4, ⟨Sl.nil, set_eq _ _ _, .inl ⟨rfl, rfl⟩, fun a ha => by cases ha⟩, lx _ _ qg⟩
  refine (rvisit_spec h0 hf t ht F4 _ [] hs).mono ?_
  rintro _ G ⟨rfl, hs'⟩
  have ev : vis t [] = subs t := rfl
  rw [ev] at *
  obtain ⟨gle, gcl, _, _, _, _, ⟨s, gw, go, gs⟩, _⟩ := hs'
  refine ⟨_, rfl, s, by rw [cell_eq gw]; rfl, ?_⟩
  have h4 := gle _ _ q4
  have hsb : ∀ a, s.base = some a → a.block ≠ b4 := fun a ha e => by
    obtain ⟨cur, hcur⟩ := go.elem ha
    rw [e, h4] at hcur
    simp at hcur
  have hd : DV (del1 G b4) #[s.v, vi (num (subs t) t)] (dia t) := ⟨s, rfl, (go.keep fun a ha => del1_of (hsb a ha)).rd⟩
  exact ret2 (K := fun vres F' => ∃ v, Value.agg vres = .agg v ∧ DV F' v (dia t) ∧ F.le F') hd h4 rfl ⟨_, rfl, hd.le (le_set_new (del1_le _ _) (del1_1 _ _)), le_set_new (l4.trans gle) hb4⟩
end
end Go.Proofs.Ytafojmoeaneedaa
