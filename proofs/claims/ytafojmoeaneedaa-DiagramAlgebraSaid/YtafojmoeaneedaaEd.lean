/-
  The diagrams: the walk that numbers the branches of a builder.
-/
import Derived.Test.YtafojmoeaneedaaEc
namespace Go.Proofs.Ytafojmoeaneedaa
open Go Go.Proofs.Try Tr
set_option maxRecDepth 10000

theorem nodup_length {α : Type} [DecidableEq α] : ∀ (l m : List α), l.Nodup → (∀ x ∈ l, x ∈ m) → l.length ≤ m.length
  | [], _, _, _ => Nat.zero_le _
  | a :: l, m, hn, hs => by
    rw [List.nodup_cons] at hn
    have ha := hs a (by simp)
    have h := nodup_length l (m.erase a) hn.2 (fun x hx => (List.mem_erase_of_ne (by rintro rfl; exact hn.1 hx)).2 (hs x (by simp [hx])))
    rw [List.length_erase_of_mem ha] at h
    have := List.length_pos_of_mem ha
    simp only [List.length_cons]
    omega

theorem cb95 : callableB prog 95 = true := by kernel_rfl

/-- The numbers that the walk has given. -/
def nmS (S0 S : List Tr) (n : Int) : Option Value :=
  if 0 ≤ n ∧ n ≤ (S0.length : Int) + 1 ∧ inn S (tr S0 n.toNat) then some (vi (num S (tr S0 n.toNat) : Int)) else none
theorem nmS_hit {S0 S : List Tr} (h0 : Cl S0) {t : Tr} (ht : inn S0 t) (hi : inn S t) : nmS S0 S (num S0 t) = some (vi (num S t)) := by
  have h1 := num_le ht
  unfold nmS
  rw [Int.toNat_natCast, tr_num h0 ht, if_pos ⟨by omega, by omega, hi⟩]
theorem nmS_miss {S0 S : List Tr} (h0 : Cl S0) {t : Tr} (ht : inn S0 t) (hi : ¬ inn S t) : nmS S0 S (num S0 t) = none := by
  unfold nmS
  rw [Int.toNat_natCast, tr_num h0 ht, if_neg (fun h => hi h.2.2)]
theorem nmS_snoc {S0 S : List Tr} (h0 : Cl S0) (hS : Cl S) {t : Tr} (ht : inn S0 t) (hS' : Cl (S ++ [t])) :
    nmS S0 (S ++ [t]) = fun n => if n = (num S0 t : Int) then some (vi (((S.length + 2 : Nat)) : Int)) else nmS S0 S n := by
  funext n
  by_cases hn : n = (num S0 t : Int)
  · subst hn
    rw [if_pos rfl, nmS_hit h0 ht (.inr (by simp)), num_of_get hS' (k := S.length) (by simp)]
  · rw [if_neg hn]
    unfold nmS
    by_cases hr : 0 ≤ n ∧ n ≤ (S0.length : Int) + 1
    · have hne : tr S0 n.toNat ≠ t := fun e => by
        have := num_tr h0 (n := n.toNat) (by omega)
        rw [e] at this
        omega
      by_cases hi : inn S (tr S0 n.toNat)
      · rw [if_pos ⟨hr.1, hr.2, inn_append hi⟩, if_pos ⟨hr.1, hr.2, hi⟩, num_append hi]
      · rw [if_neg, if_neg (fun h => hi h.2.2)]
        rintro ⟨_, _, h | h⟩
        · exact hi (.inl h)
        · rcases List.mem_append.1 h with h | h
          · exact hi (.inr h)
          · exact hne (List.mem_singleton.1 h)
    · rw [if_neg (fun h => hr ⟨h.1, h.2.1⟩), if_neg (fun h => hr ⟨h.1, h.2.1⟩)]
theorem nmS_nil {S0 : List Tr} (h0 : Cl S0) : nmS S0 [] = fun n => if n = 1 then some (vi 1) else if n = 0 then some (vi 0) else none := by
  funext n
  unfold nmS
  by_cases h1 : n = 1
  · subst h1
    have e : tr S0 (Int.toNat 1) = leaf true := rfl
    rw [if_pos rfl, e, if_pos ⟨by omega, by omega, inn_leaf _ _⟩]
    rfl
  · rw [if_neg h1]
    by_cases h2 : n = 0
    · subst h2
      have e : tr S0 (Int.toNat 0) = leaf false := rfl
      rw [if_pos rfl, e, if_pos ⟨by omega, by omega, inn_leaf _ _⟩]
      rfl
    · rw [if_neg h2, if_neg]
      rintro ⟨a, b, c | c⟩
      · have h3 : inn S0 (tr S0 n.toNat) := tr_inn (by omega)
        have h4 := num_tr h0 (n := n.toNat) (by omega)
        generalize tr S0 n.toNat = t at *
        cases t with
        | leaf x => have := num_leaf_le S0 x; omega
        | node _ _ _ => cases c
      · cases c

/-- The fixed part of the memory of a walk. -/
structure VE (F0 : PH) (b6 b2 b7 b5 M b : Nat) (ns : Sl) (S0 : List Tr) : Prop where
  c6 : F0.cell ⟨b6, 0, none⟩ = some (.map (some M))
  c2 : F0.cell ⟨b2, 0, none⟩ = some (.pointer (some ⟨b, 0, none⟩))
  c7 : F0.cell ⟨b7, 0, none⟩ = some (.func (.func 95) #[] #[.pointer (some ⟨b6, 0, none⟩), .pointer (some ⟨b2, 0, none⟩), .pointer (some ⟨b7, 0, none⟩), .pointer (some ⟨b5, 0, none⟩)])
  cb : F0.cell ⟨b, 0, none⟩ = some ns.v
  rd : RdS F0 ns 3 (bflat (brs S0))
theorem VE.le {F0 G : PH} {b6 b2 b7 b5 M b : Nat} {ns : Sl} {S0 : List Tr} (h : VE F0 b6 b2 b7 b5 M b ns S0) (hl : F0.le G) : VE G b6 b2 b7 b5 M b ns S0 :=
  ⟨le_cell hl h.c6, le_cell hl h.c2, le_cell hl h.c7, le_cell hl h.cb, h.rd.le hl⟩
/-- Its changing part. -/
structure VS (F0 F : PH) (b5 M : Nat) (S0 S : List Tr) : Prop where
  le : F0.le F
  cl : Cl S
  sub : ∀ x ∈ S, x ∈ S0
  n5 : F0 b5 = none
  nM : F0 M = none
  ex : ∃ (s : Sl), F b5 = some (.cells #[s.v, vi 0] 28) ∧ OwnS F 72 3 s (bflat (brs S)) ∧ ∀ a, s.base = some a → F0 a.block = none
  map : ∃ o, F M = some o ∧ MapO encI (nmS S0 S) o

theorem OwnS.upto {F G : PH} {e size : Nat} {s : Sl} {vs : List Value} (h : OwnS F e size s vs) (hl : F.le G) : OwnS G e size s vs := by
  rcases h with h | ⟨b, cur, h1, h2, h3⟩
  · exact .inl h
  · exact .inr ⟨b, cur, h1, hl _ _ h2, h3⟩

theorem visit_spec {b6 b2 b7 b5 M b : Nat} {ns : Sl} {S0 : List Tr} (h0 : Cl S0) (hf : Fit (S0.length + 4)) : ∀ (t : Tr), inn S0 t → ∀ (F0 F : PH) (S : List Tr), VE F0 b6 b2 b7 b5 M b ns S0 → VS F0 F b5 M S0 S →
    Spec prog 95 #[vi (num S0 t), .pointer (some ⟨b6, 0, none⟩), .pointer (some ⟨b2, 0, none⟩), .pointer (some ⟨b7, 0, none⟩), .pointer (some ⟨b5, 0, none⟩)] F
      fun r F' => r = vi (num (vis t S) t) ∧ VS F0 F' b5 M S0 (vis t S) := by
  intro t
  induction t with
  | leaf x =>
    intro ht F0 F S he hs
    have hs' := hs
    obtain ⟨hle, hS, hsub, hn5, hnM, ⟨s, h5, ho, hsb⟩, o, hM, hmo⟩ := hs
    refine c95 ?_
    unfold b95
    have hlk := rdo_lookup (F := F) mtN hM hmo (num S0 (leaf x)) true
    rw [nmS_hit h0 ht (inn_leaf _ _)] at hlk
    exact ⟨_, rfl, _, le_cell hle he.c6, _, _, hlk, fun _ => ⟨rfl, hs'⟩, fun hc => by cases hc⟩
  | node v l h ihl ihh =>
    intro ht F0 F S he hs
    have hs' := hs
    obtain ⟨hle, hS, hsub, hn5, hnM, ⟨s, h5, ho, hsb⟩, o, hM, hmo⟩ := hs
    have htm := inn_mem ht rfl
    obtain ⟨hil, hih⟩ := h0.inn_kids ht
    have hok := h0.inn_ok ht
    refine c95 ?_
    unfold b95
    have hlk := rdo_lookup (F := F) mtN hM hmo (num S0 (node v l h)) true
    by_cases hin : node v l h ∈ S
    · rw [nmS_hit h0 ht (.inr hin)] at hlk
      have e : vis (node v l h) S = S := vis_inn (.inr hin)
      rw [e]
      exact ⟨_, rfl, _, le_cell hle he.c6, _, _, hlk, fun _ => ⟨rfl, hs'⟩, fun hc => by cases hc⟩
    · have hnin : ¬ inn S (node v l h) := by
        rintro (hc | hc)
        · cases hc
        · exact hin hc
      rw [nmS_miss h0 ht hnin] at hlk
      have hw := w64m2 (n := num S0 (node v l h)) (by have := num_le ht; omega) (num_ge rfl)
      have hnl := num_le ht
      have hng := num_ge (S := S0) (t := node v l h) rfl
      obtain ⟨a, ha, hrow, _⟩ := rdb (he.rd.le hle) (brs_get (num_get htm rfl))
      have hns := he.rd.blen
      rw [brs_length] at hns
      refine ⟨_, rfl, _, le_cell hle he.c6, _, _, hlk, fun hc => (by cases hc), fun _ => ?_⟩
      refine ⟨_, rfl, _, le_cell hle he.c2, _, rfl, ns, le_cell hle he.cb, a, ha, by rw [hw]; omega, by rw [hw]; omega, barr (br S0 (node v l h)), rfl, by rw [hw]; exact hrow, ?_⟩
      intro b9 hb9
      refine atI ?_
      refine stW (set_eq _ _ _) rfl rfl (st_barr _) ?_
      rw [set_twice]
      have h90 : F0 b9 = none := le_none hle hb9
      -- the memory with the local variable
      have he9 : VE (F0.set b9 (.cells (barr (br S0 (node v l h))) 72)) b6 b2 b7 b5 M b ns S0 := he.le (le_set_fresh _ h90)
      have ne95 : b5 ≠ b9 := ne_of_fresh hb9 h5
      have ne9M : M ≠ b9 := ne_of_fresh hb9 hM
      have hle9 : (F0.set b9 (.cells (barr (br S0 (node v l h))) 72)).le (F.set b9 (.cells (barr (br S0 (node v l h))) 72)) := fun x ob hx => by
        by_cases hxb : x = b9
        · subst hxb; rw [set_eq] at hx ⊢; exact hx
        · rw [set_ne _ _ hxb] at hx ⊢; exact hle _ _ hx
      have hs9 : VS (F0.set b9 (.cells (barr (br S0 (node v l h))) 72)) (F.set b9 (.cells (barr (br S0 (node v l h))) 72)) b5 M S0 S := by
        refine ⟨hle9, hS, hsub, by rw [set_ne _ _ ne95]; exact hn5, by rw [set_ne _ _ ne9M]; exact hnM, ⟨s, by rw [set_ne _ _ ne95]; exact h5, ho.upto (le_set_fresh _ hb9), fun a ha => ?_⟩, o, by rw [set_ne _ _ ne9M]; exact hM, hmo⟩
        obtain ⟨cur, hcur⟩ := ho.elem ha
        rw [set_ne _ _ (ne_of_fresh hb9 hcur)]
        exact hsb a ha
      have hle0 : F0.le (F0.set b9 (.cells (barr (br S0 (node v l h))) 72)) := le_set_fresh _ h90
      have hc9 : (F0.set b9 (.cells (barr (br S0 (node v l h))) 72)) b9 = some (.cells (barr (br S0 (node v l h))) 72) := set_eq _ _ _
      generalize F0.set b9 (.cells (barr (br S0 (node v l h))) 72) = G0 at *
      generalize F.set b9 (.cells (barr (br S0 (node v l h))) 72) = F1 at *
      refine ⟨_, rfl, _, le_cell hs9.le he9.c7, _, by rw [cell_eq (hs9.le _ _ hc9)]; rfl, _, _, _, rfl, cb95, ?_⟩
      refine (ihl hil G0 F1 S he9 hs9).mono ?_
      rintro _ F2 ⟨rfl, hs2⟩
      refine ⟨_, rfl, _, le_cell hs2.le he9.c7, _, by rw [cell_eq (hs2.le _ _ hc9)]; rfl, _, _, _, rfl, cb95, ?_⟩
      refine (ihh hih G0 F2 _ he9 hs2).mono ?_
      rintro _ F3 ⟨rfl, hs3⟩
      have hs3' := hs3
      obtain ⟨hle3, hS3, hsub3, hn53, hnM3, ⟨s3, h53, ho3, hsb3⟩, o3, hM3, hmo3⟩ := hs3
      obtain ⟨fl1, fl2, X, fl3, fl4⟩ := vis_facts l S hok.2.2.2.2.1 hS
      obtain ⟨fh1, fh2, Y, fh3, fh4⟩ := vis_facts h (vis l S) hok.2.2.2.2.2 fl1
      have hnl' : num (vis l S) l = num (vis h (vis l S)) l := by rw [fh3, num_append fl2]
      have evis : vis (node v l h) S = vis h (vis l S) ++ [node v l h] := by
        conv => lhs; unfold vis
        rw [if_neg hin]
      obtain ⟨hSv, _, _⟩ := vis_facts (node v l h) S hok hS
      rw [evis] at hSv ⊢
      rw [hnl']
      have hil3 : inn (vis h (vis l S)) l := by rw [fh3]; exact inn_append fl2
      generalize vis h (vis l S) = T at *
      refine ⟨_, rfl, _, rfl, s3, by rw [cell_eq h53]; rfl, _, by rw [cell_eq (hle3 _ _ hc9)]; rfl, rfl, fun b43 hb43 => ?_⟩
      refine atI ?_
      have hb430 : G0 b43 = none := le_none hle3 hb43
      have hTl : T.length ≤ S0.length := nodup_length T S0 hS3.nodup hsub3
      have hlen := ho3.rd.blen
      rw [brs_length] at hlen
      have ex : (#[vi (v : Int), vi (num T l : Int), vi (num T h : Int)] : Array Value) = barr ⟨(v : Int), (num T l : Int), (num T h : Int)⟩ := rfl
      have hle43 := le_set_fresh (.cells (barr ⟨(v : Int), (num T l : Int), (num T h : Int)⟩) 72) hb43
      have h43 := set_eq F3 b43 (.cells (barr ⟨(v : Int), (num T l : Int), (num T h : Int)⟩) 72)
      show runs prog _ (F3.set b43 (.cells (barr ⟨(v : Int), (num T l : Int), (num T h : Int)⟩) 72)) _
      replace hle3 : G0.le (F3.set b43 (.cells (barr ⟨(v : Int), (num T l : Int), (num T h : Int)⟩) 72)) := fun x ob hx => hle43 _ _ (hle3 _ _ hx)
      replace ho3 := ho3.upto hle43
      replace h53 := hle43 _ _ h53
      replace hM3 := hle43 _ _ hM3
      generalize F3.set b43 (.cells (barr ⟨(v : Int), (num T l : Int), (num T h : Int)⟩) 72) = F4 at *
      refine own_app underlying26 sz72 zr72 rfl (by decide) hle3 ho3 hsb3 (x := ⟨some ⟨b43, 0, none⟩, 1, 1⟩) (news := bcells ⟨(v : Int), (num T l : Int), (num T h : Int)⟩) (RdS.new h43 rfl rfl (Nat.le_refl _))
        (fun x hx => st_bflat [⟨(v : Int), (num T l : Int), (num T h : Int)⟩] x (by simpa [bflat] using hx)) (by simp only [hlen]; omega) (by simp only [hlen]; omega) ?_
      intro s5 F5 hle5 ho5 hlen5 hsb5 hk5 _
      have ne5 : ∀ a, s3.base = some a → a.block ≠ b5 := fun a ha e => by
        obtain ⟨cur, hcur⟩ := ho3.elem ha
        rw [e, h53] at hcur
        cases hcur
      have neM : ∀ a, s3.base = some a → a.block ≠ M := fun a ha e => by
        obtain ⟨cur, hcur⟩ := ho3.elem ha
        obtain ⟨es, c, L, rfl, _⟩ := hmo3
        rw [e, hM3] at hcur
        cases hcur
      replace h53 := hk5 _ _ h53 (fun ⟨a, ha, e⟩ => ne5 a ha e)
      replace hM3 := hk5 _ _ hM3 (fun ⟨a, ha, e⟩ => neM a ha e)
      have n5M : b5 ≠ M := fun e => by
        obtain ⟨es, c, L, rfl, _⟩ := hmo3
        rw [e, hM3] at h53
        cases h53
      have hsb6 : ∀ a, s5.base = some a → a.block ≠ b5 ∧ a.block ≠ M := fun a ha => by
        obtain ⟨cur, hcur⟩ := ho5.elem ha
        refine ⟨fun e => ?_, fun e => ?_⟩
        · rw [e, h53] at hcur; cases hcur
        · obtain ⟨es, c, L, rfl, _⟩ := hmo3
          rw [e, hM3] at hcur; cases hcur
      refine ⟨s5, rfl, ?_⟩
      refine st1 h53 (by simp) ?_
      rw [show (#[s3.v, vi 0].setIfInBounds 0 s5.v : Array Value) = #[s5.v, vi 0] from rfl]
      have hle6 : G0.le (F5.set b5 (.cells #[s5.v, vi 0] 28)) := le_set_new hle5 hn53
      have h56 := set_eq F5 b5 (.cells #[s5.v, vi 0] 28)
      have hM6 : (F5.set b5 (.cells #[s5.v, vi 0] 28)) M = some o3 := by rw [set_ne _ _ n5M.symm]; exact hM3
      have ho6 : OwnS (F5.set b5 (.cells #[s5.v, vi 0] 28)) 72 3 s5 _ := ho5.keep fun a ha => set_ne _ _ (hsb6 a ha).1
      generalize F5.set b5 (.cells #[s5.v, vi 0] 28) = F6 at *
      have hlen6 : s5.len = T.length + 1 := by rw [hlen5, hlen]
      have hw6 : IntKind.i64.wrap ((s5.len : Int) + 1) = ((T.length + 2 : Nat) : Int) := by rw [hlen6, w64_eq (by omega) (by omega)]; omega
      refine ⟨_, le_cell hle6 he9.c6, s5, by rw [cell_eq h56]; rfl, ?_⟩
      rw [hw6]
      refine runs_mapUpdate mtN hM6 hmo3 (num S0 (node v l h) : Int) _ fun o' ho' => ?_
      rw [← nmS_snoc h0 hS3 ht hSv] at ho'
      have hle7 : G0.le (F6.set M o') := le_set_new hle6 hnM3
      have hlk7 := rdo_lookup (F := F6.set M o') mtN (set_eq F6 M o') ho' (num S0 (node v l h)) false
      rw [nmS_hit h0 ht (.inr (by simp))] at hlk7
      refine ⟨_, le_cell hle7 he9.c6, _, hlk7, rfl, fun x ob hx => hle7 _ _ (hle0 _ _ hx), hSv, fun x hx => ?_, hn5, hnM, ⟨s5, by rw [set_ne _ _ n5M]; exact h56, ?_, fun a ha => le_none hle0 (hsb5 a ha)⟩, o', set_eq _ _ _, ho'⟩
      · rcases List.mem_append.1 hx with hx | hx
        · exact hsub3 x hx
        · rw [List.mem_singleton.1 hx]; exact htm
      · have e3 : bflat (brs (T ++ [node v l h])) = bflat (brs T) ++ bcells ⟨(v : Int), (num T l : Int), (num T h : Int)⟩ := by
          rw [brs_snoc hS3 hil3 fh2, bflat_append]
          simp [bflat]
        rw [e3]
        exact ho6.keep fun a ha => set_ne _ _ (hsb6 a ha).2
end Go.Proofs.Ytafojmoeaneedaa
