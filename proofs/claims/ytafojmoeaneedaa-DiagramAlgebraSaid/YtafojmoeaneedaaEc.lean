/-
  The diagrams: equality, the builder.
-/
import Derived.Test.YtafojmoeaneedaaEb
namespace Go.Proofs.Ytafojmoeaneedaa
open Go Go.Proofs.Try Tr
set_option maxRecDepth 10000

/-! equality of diagrams -/
theorem equal_spec {F : PH} {a b : Sl} {x y : List Br} (ha : RdS F a 3 (bflat x)) (hb : RdS F b 3 (bflat y)) (hl : Fit x.length) :
    Spec prog 65 #[a.v, b.v] F fun v F' => v = .bool (decide (x = y)) ∧ F' = F := by
  have hal := ha.blen
  have hbl := hb.blen
  refine c65 ?_
  unfold b65
  refine ⟨fun h => ?_, fun h => ?_⟩
  · refine ⟨?_, rfl⟩
    have : ¬ x = y := by intro e; subst e; omega
    simp [this]
  · have hlen : x.length = y.length := by omega
    refine ⟨fun m i F' => ∃ k : Nat, i = k ∧ k ≤ x.length ∧ m = x.length - k ∧ F' = F ∧ x.take k = y.take k, x.length, ⟨0, rfl, by omega, rfl, rfl, rfl⟩, ?_⟩
    rintro m i F' ⟨k, rfl, hk, rfl, rfl, htake⟩
    unfold b65L1
    refine ⟨fun hlt => ?_, fun hge => ?_⟩
    · have hkx : k < x.length := by omega
      have hky : k < y.length := by omega
      obtain ⟨p, hp, hpr, _⟩ := rdb ha (List.getElem?_eq_getElem hkx)
      obtain ⟨q, hq, hqr, _⟩ := rdb hb (List.getElem?_eq_getElem hky)
      refine ⟨p, hp, by omega, hlt, barr x[k], rfl, by simpa using hpr, q, hq, by omega, by omega, barr y[k], rfl, by simpa using hqr, decide (x[k] = y[k]), fun F => eqBr x[k] y[k] F, fun hne => ?_, fun heq => ?_⟩
      · refine ⟨?_, rfl⟩
        have : ¬ x = y := by rintro rfl; simp at hne
        simp [this]
      · refine ⟨x.length - (k + 1), by omega, k + 1, w64s (by omega), by omega, rfl, rfl, ?_⟩
        rw [List.take_succ_eq_append_getElem hkx, List.take_succ_eq_append_getElem hky, htake]
        simp at heq
        rw [heq]
    · refine ⟨?_, rfl⟩
      have hk' : k = x.length := by omega
      rw [hk', List.take_length, hlen, List.take_length] at htake
      simp [htake]
theorem same_spec {F : PH} {v w : Array Value} {d e : Dia} (hd : DV F v d) (he : DV F w e) (hl : Fit d.1.length) :
    Spec prog 24 #[.agg v, .agg w] F fun r F' => r = .bool (decide (d = e)) ∧ F.le F' := by
  obtain ⟨s, rfl, hr⟩ := hd
  obtain ⟨t, rfl, ht⟩ := he
  refine c24 ?_
  unfold b24
  intro b2 hb2
  refine atI ?_
  have hle2 := le_set_fresh (.cells #[s.v, vi d.2] 28) hb2
  intro b3 hb3
  refine atI ?_
  have hle3 := le_set_fresh (.cells #[t.v, vi e.2] 28) hb3
  have hle : F.le _ := fun b o h => hle3 b o (hle2 b o h)
  have hc2 := hle3 _ _ (set_eq F b2 (.cells #[s.v, vi d.2] 28))
  have hc3 := set_eq (F.set b2 (.cells #[s.v, vi d.2] 28)) b3 (.cells #[t.v, vi e.2] 28)
  generalize (F.set b2 (.cells #[s.v, vi d.2] 28)).set b3 (.cells #[t.v, vi e.2] 28) = G at *
  refine ⟨_, by rw [cell_eq hc2]; rfl, _, by rw [cell_eq hc3]; rfl, fun h => ?_, fun h => ?_⟩
  · refine ⟨s, by rw [cell_eq hc2]; rfl, t, by rw [cell_eq hc3]; rfl, ?_⟩
    refine (equal_spec (hr.le hle) (ht.le hle) hl).mono ?_
    rintro _ F' ⟨rfl, rfl⟩
    refine ⟨_, rfl, ?_, hle⟩
    obtain ⟨d1, d2⟩ := d
    obtain ⟨e1, e2⟩ := e
    simp only at h
    simp [h]
  · refine ⟨?_, hle⟩
    have : ¬ d = e := by rintro rfl; exact h rfl
    simp [this]

/-! the builder -/
/-- What the builder knows: the numbers of its branches. -/
def mpS (S : List Tr) (x : Br) : Option Value := if x ∈ brs S then some (vi (((brs S).idxOf x + 2 : Nat) : Int)) else none
/-- The builder at b (its map at m) holds the branches of S; its blocks are not in F0. -/
structure BD (F0 F : PH) (b m : Nat) (S : List Tr) : Prop where
  le : F0.le F
  cl : Cl S
  nb : F0 b = none
  nm : F0 m = none
  ex : ∃ s : Sl, F b = some (.cells #[s.v, .map (some m)] 84) ∧ OwnS F 72 3 s (bflat (brs S)) ∧ ∀ a, s.base = some a → F0 a.block = none
  map : ∃ o, F m = some o ∧ MapO encB (mpS S) o

theorem OwnS.elem {F : PH} {e size : Nat} {s : Sl} {vs : List Value} (h : OwnS F e size s vs) {a : Addr} (ha : s.base = some a) : ∃ cur, F a.block = some (.cells cur e (0, 0)) := by
  rcases h with ⟨rfl, rfl⟩ | ⟨b, cur, h1, h2, _⟩
  · cases ha
  · rw [h1] at ha
    cases ha
    exact ⟨cur, h2⟩

theorem newBuilder_spec (F : PH) : Spec prog 96 #[] F fun r F' => ∃ b m, r = .pointer (some ⟨b, 0, none⟩) ∧ b ≠ m ∧ BD F F' b m [] := by
  refine c96 ?_
  unfold b96
  intro b1 hb1
  refine atI ?_
  intro b3 hb3
  refine atI ?_
  have hle1 := le_set_fresh (.map #[] 0) hb1
  have hle3 := le_set_fresh (.cells #[Value.slice none 0 0, Value.map (some b1)] 84) hb3
  have hne : b3 ≠ b1 := fun e => by rw [e, set_eq] at hb3; cases hb3
  refine ⟨b3, b1, rfl, hne, fun b o h => hle3 b o (hle1 b o h), .nil, le_none hle1 hb3, hb1, ⟨Sl.nil, set_eq _ _ _, .inl ⟨rfl, rfl⟩, fun a ha => by cases ha⟩, _, hle3 _ _ (set_eq _ _ _), ?_⟩
  have : mpS [] = fun _ => none := by
    funext x
    simp [mpS, brs]
  rw [this]
  exact MapO.empty encB

/-! branch -/
instance (S : List Tr) (t : Tr) : Decidable (inn S t) := inferInstanceAs (Decidable (t.isL = true ∨ t ∈ S))
def addT (S : List Tr) (t : Tr) : List Tr := if inn S t then S else S ++ [t]
theorem addT_vis {S : List Tr} (hS : Cl S) {v : Nat} {l h : Tr} (hk : v < 64 ∧ v < l.top ∧ v < h.top ∧ l.ok ∧ h.ok) : addT (vis h (vis l S)) (mk v l h) = vis (mk v l h) S := by
  obtain ⟨h0, h1, h2, h3, h4⟩ := hk
  obtain ⟨a1, a2, X, a3, a4⟩ := vis_facts l S h3 hS
  obtain ⟨b1, b2, Y, b3, b4⟩ := vis_facts h (vis l S) h4 a1
  unfold mk
  split
  · rename_i e
    subst e
    rw [vis_inn a2]
    unfold addT
    rw [if_pos a2]
  · rename_i e
    conv => rhs; unfold vis
    unfold addT
    by_cases hm : node v l h ∈ S
    · have hl := (hS.inn_kids (.inr hm)).1
      have hh := (hS.inn_kids (.inr hm)).2
      rw [if_pos hm, vis_inn hl, vis_inn hh, if_pos (.inr hm)]
    · rw [if_neg hm, if_neg]
      rintro (hc | hc)
      · cases hc
      · rw [b3, a3] at hc
        rcases List.mem_append.1 hc with hc | hc
        · rcases List.mem_append.1 hc with hc | hc
          · exact hm hc
          · have := a4 _ hc; simp only [sz] at this; omega
        · have := b4 _ hc; simp only [sz] at this; omega
theorem idxOf_map {α β : Type} [DecidableEq α] [DecidableEq β] (f : α → β) (x : α) : ∀ (l : List α), x ∈ l → (∀ y ∈ l, f y = f x → y = x) → (l.map f).idxOf (f x) = l.idxOf x
  | [], h, _ => by cases h
  | a :: l, h, hi => by
    simp only [List.map_cons, List.idxOf_cons]
    by_cases ha : a = x
    · subst ha
      simp
    · have h1 : ¬ f a = f x := fun e => ha (hi a (by simp) e)
      have h2 : (a == x) = false := by simpa using ha
      have h3 : (f a == f x) = false := by simpa using h1
      rw [h2, h3]
      simp only [cond_false]
      rw [idxOf_map f x l (by simpa [Ne.symm ha] using h) (fun y hy => hi y (by simp [hy]))]
theorem mem_brs {S : List Tr} (hS : Cl S) {v : Nat} {l h : Tr} (hl : inn S l) (hh : inn S h) : br S (node v l h) ∈ brs S ↔ node v l h ∈ S := by
  constructor
  · intro hm
    obtain ⟨u, hu, he⟩ := List.mem_map.1 hm
    obtain ⟨_, v', l', h', rfl, hl', hh'⟩ := hS.mem u hu
    simp only [br, Br.mk.injEq] at he
    obtain ⟨e1, e2, e3⟩ := he
    rw [← num_inj hl' hl (by omega), ← num_inj hh' hh (by omega), ← show v' = v by omega]
    exact hu
  · intro hm
    exact List.mem_map_of_mem hm
theorem idxOf_brs {S : List Tr} (hS : Cl S) {v : Nat} {l h : Tr} (hm : node v l h ∈ S) : (brs S).idxOf (br S (node v l h)) + 2 = num S (node v l h) := by
  unfold brs
  rw [idxOf_map _ _ _ hm (fun y hy e => br_inj hS hy hm e)]
  rfl
theorem mpS_snoc {S : List Tr} (hS : Cl S) {v : Nat} {l h : Tr} (hl : inn S l) (hh : inn S h) (hn : node v l h ∉ S) :
    mpS (S ++ [node v l h]) = fun x => if x = br S (node v l h) then some (vi (((S.length + 2 : Nat) : Int))) else mpS S x := by
  have hb : br S (node v l h) ∉ brs S := fun hm => hn ((mem_brs hS hl hh).1 hm)
  have hbr : br S (node v l h) = ⟨(v : Int), (num S l : Int), (num S h : Int)⟩ := rfl
  funext x
  unfold mpS
  rw [brs_snoc hS hl hh, ← hbr]
  by_cases hx : x = br S (node v l h)
  · subst hx
    rw [if_pos rfl, if_pos (by simp), List.idxOf_append, if_neg hb]
    simp [brs_length]
  · rw [if_neg hx]
    by_cases hm : x ∈ brs S
    · rw [if_pos hm, if_pos (by simp [hm]), List.idxOf_append, if_pos hm]
    · rw [if_neg hm, if_neg (by simp [hm, hx])]

section
variable {F0 F : PH} {b m : Nat} {S : List Tr}
theorem branch_spec (hd : BD F0 F b m S) {v : Nat} {l h : Tr} (hl : inn S l) (hh : inn S h) (hv : v < 64 ∧ v < l.top ∧ v < h.top) (hf : Fit (S.length + 2)) :
    Spec prog 99 #[.pointer (some ⟨b, 0, none⟩), vi v, vi (num S l), vi (num S h)] F fun r F' => r = vi (num (addT S (mk v l h)) (mk v l h)) ∧ BD F0 F' b m (addT S (mk v l h)) := by
  have hd' := hd
  obtain ⟨hle, hS, hb0, hm0, ⟨s, hb, ho, hs0⟩, ob, hm, hmp⟩ := hd
  refine c99 ?_
  unfold b99
  refine ⟨fun he => ?_, fun he => ?_⟩
  · obtain rfl := num_inj hl hh (by omega)
    have e : mk v l l = l := by simp [mk]
    rw [e]
    have e2 : addT S l = S := by unfold addT; rw [if_pos hl]
    rw [e2]
    exact ⟨rfl, hd'⟩
  have hlh : l ≠ h := fun e => he (by rw [e])
  have emk : mk v l h = node v l h := by simp [mk, hlh]
  have hok : (node v l h).ok := ⟨hv.1, hv.2.1, hv.2.2, hlh, hS.inn_ok hl, hS.inn_ok hh⟩
  rw [emk]
  intro b9 hb9
  refine atI ?_
  refine stW (set_eq _ _ _) rfl rfl (st_barr ⟨v, num S l, num S h⟩) ?_
  rw [set_twice]
  have hle9 := le_set_fresh (.cells (barr ⟨v, num S l, num S h⟩) 72) hb9
  have h9 := set_eq F b9 (.cells (barr ⟨v, num S l, num S h⟩) 72)
  have hbr : br S (node v l h) = ⟨(v : Int), (num S l : Int), (num S h : Int)⟩ := rfl
  rw [← hbr] at h9 hle9
  show ∃ b0a_ : Addr, _
  rw [show (#[vi v, vi (num S l), vi (num S h)] : Array Value) = barr (br S (node v l h)) from rfl]
  replace hb := hle9 _ _ hb
  replace hm := hle9 _ _ hm
  have hle1 : F0.le (F.set b9 (.cells (barr (br S (node v l h))) 72)) := fun x o hx => hle9 x o (hle x o hx)
  have ne9 : ∀ a, s.base = some a → a.block ≠ b9 := fun a ha e => by
    obtain ⟨cur, hcur⟩ := ho.elem ha
    rw [e, hb9] at hcur
    cases hcur
  have hbase : ∀ a, s.base = some a → (∃ cur, (F.set b9 (.cells (barr (br S (node v l h))) 72)) a.block = some (.cells cur 72 (0, 0))) := fun a ha => by
    obtain ⟨cur, hcur⟩ := ho.elem ha
    exact ⟨cur, hle9 _ _ hcur⟩
  replace ho : OwnS (F.set b9 (.cells (barr (br S (node v l h))) 72)) 72 3 s (bflat (brs S)) := ho.keep fun a ha => by
    obtain ⟨cur, hcur⟩ := ho.elem ha
    rw [hcur, hle9 _ _ hcur]
  generalize F.set b9 (.cells (barr (br S (node v l h))) 72) = F1 at *
  refine ⟨_, rfl, some m, by simp only [add_mk]; rw [cell_eq hb]; rfl, barr (br S (node v l h)), rfl, row_whole h9, ?_⟩
  have hlk := rdo_lookup (F := F1) mtB hm hmp (br S (node v l h)) true
  by_cases hmem : node v l h ∈ S
  · have hx := (mem_brs hS hl hh).2 hmem
    have e1 : mpS S (br S (node v l h)) = some (vi (num S (node v l h))) := by
      unfold mpS
      rw [if_pos hx, idxOf_brs hS hmem]
    rw [e1] at hlk
    refine ⟨_, _, hlk, fun hc => (by cases hc), fun _ => ?_⟩
    have e2 : addT S (node v l h) = S := by unfold addT; rw [if_pos (.inr hmem)]
    rw [e2]
    exact ⟨rfl, hle1, hS, hb0, hm0, ⟨s, hb, ho, hs0⟩, ob, hm, hmp⟩
  · have hx : br S (node v l h) ∉ brs S := fun hx => hmem ((mem_brs hS hl hh).1 hx)
    have e1 : mpS S (br S (node v l h)) = none := by
      unfold mpS
      rw [if_neg hx]
    rw [e1] at hlk
    have e2 : addT S (node v l h) = S ++ [node v l h] := by
      unfold addT
      rw [if_neg]
      rintro (hc | hc)
      · cases hc
      · exact hmem hc
    rw [e2]
    have hS' : Cl (S ++ [node v l h]) := .snoc hS hl hh hok hmem
    refine ⟨_, _, hlk, fun _ => ?_, fun hc => (by cases hc)⟩
    refine ⟨s, by rw [cell_eq hb]; rfl, barr (br S (node v l h)), rfl, row_whole h9, rfl, fun b37 hb37 => ?_⟩
    refine atI ?_
    have hle37 := le_set_fresh (.cells (barr (br S (node v l h))) 72) hb37
    have h37 := set_eq F1 b37 (.cells (barr (br S (node v l h))) 72)
    replace hb := hle37 _ _ hb
    replace hm := hle37 _ _ hm
    replace h9 := hle37 _ _ h9
    have hle2 : F0.le (F1.set b37 (.cells (barr (br S (node v l h))) 72)) := fun x o hx => hle37 x o (hle1 x o hx)
    replace ho : OwnS (F1.set b37 (.cells (barr (br S (node v l h))) 72)) 72 3 s (bflat (brs S)) := ho.keep fun a ha => by
      obtain ⟨cur, hcur⟩ := hbase a ha
      rw [hcur, hle37 _ _ hcur]
    generalize F1.set b37 (.cells (barr (br S (node v l h))) 72) = F2 at *
    have hlen := ho.rd.blen
    rw [brs_length] at hlen
    refine own_app underlying26 sz72 zr72 rfl (by decide) hle2 ho hs0 (x := ⟨some ⟨b37, 0, none⟩, 1, 1⟩) (news := bcells (br S (node v l h))) (RdS.new h37 rfl rfl (Nat.le_refl _)) (fun x hx => st_bflat [br S (node v l h)] x (by simpa [bflat] using hx)) (by simp only [hlen]; omega) (by simp only [hlen]; omega) ?_
    intro s' F3 hle3 ho3 hlen3 hs3 hk3 hfr3
    have neB : ∀ a, s.base = some a → a.block ≠ b := fun a ha e => by
      obtain ⟨cur, hcur⟩ := ho.elem ha
      rw [e, hb] at hcur
      cases hcur
    have neM : ∀ a, s.base = some a → a.block ≠ m := fun a ha e => by
      obtain ⟨cur, hcur⟩ := ho.elem ha
      obtain ⟨es, c, L, rfl, _⟩ := hmp
      rw [e, hm] at hcur
      cases hcur
    replace hb := hk3 _ _ hb (fun ⟨a, ha, e⟩ => neB a ha e)
    replace hm := hk3 _ _ hm (fun ⟨a, ha, e⟩ => neM a ha e)
    replace h9 := hk3 _ _ h9 (fun ⟨a, ha, e⟩ => ne9 a ha e)
    refine ⟨s', rfl, ?_⟩
    refine st1 hb (by simp) ?_
    have hbm : b ≠ m := fun e => by
      obtain ⟨es, c, L, rfl, _⟩ := hmp
      rw [e, hm] at hb
      cases hb
    have h9b : b9 ≠ b := fun e => by rw [e, hb] at h9; cases h9
    have hsb : ∀ a, s'.base = some a → a.block ≠ b ∧ a.block ≠ m := fun a ha => by
      obtain ⟨cur, hcur⟩ := ho3.elem ha
      refine ⟨fun e => ?_, fun e => ?_⟩
      · rw [e, hb] at hcur; cases hcur
      · obtain ⟨es, c, L, rfl, _⟩ := hmp
        rw [e, hm] at hcur; cases hcur
    have hle4 : F0.le (F3.set b (.cells (#[s'.v, Value.map (some m)] : Array Value) 84)) := le_set_new hle3 hb0
    have hb4 := set_eq F3 b (.cells (#[s'.v, Value.map (some m)] : Array Value) 84)
    have hm4 : (F3.set b (.cells (#[s'.v, Value.map (some m)] : Array Value) 84)) m = some ob := by rw [set_ne _ _ hbm.symm]; exact hm
    have h94 : (F3.set b (.cells (#[s'.v, Value.map (some m)] : Array Value) 84)) b9 = some (.cells (barr (br S (node v l h))) 72) := by rw [set_ne _ _ h9b]; exact h9
    have ho4 : OwnS (F3.set b (.cells (#[s'.v, Value.map (some m)] : Array Value) 84)) 72 3 s' (bflat (brs S) ++ bcells (br S (node v l h))) := ho3.keep fun a ha => set_ne _ _ (hsb a ha).1
    rw [show (#[s.v, Value.map (some m)].setIfInBounds 0 s'.v : Array Value) = #[s'.v, Value.map (some m)] from rfl]
    generalize F3.set b (.cells (#[s'.v, Value.map (some m)] : Array Value) 84) = F4 at *
    have hlen4 : s'.len = S.length + 1 := by rw [hlen3, hlen]
    refine ⟨s', by rw [cell_eq hb4]; rfl, some m, by simp only [add_mk]; rw [cell_eq hb4]; rfl, barr (br S (node v l h)), rfl, row_whole h94, ?_⟩
    refine runs_mapUpdate mtB hm4 hmp (br S (node v l h)) _ fun o' ho' => ?_
    have hw : IntKind.i64.wrap ((s'.len : Int) + 1) = ((S.length + 2 : Nat) : Int) := by rw [hlen4, w64_eq (by omega) (by omega)]; omega
    rw [hw] at ho' ⊢
    refine ⟨?_, le_set_new hle4 hm0, hS', hb0, hm0, ⟨s', by rw [set_ne _ _ hbm]; exact hb4, ?_, hs3⟩, o', set_eq _ _ _, by rw [mpS_snoc hS hl hh hmem]; exact ho'⟩
    · have hl2 := num_of_get hS' (k := S.length) (t := node v l h) (by simp)
      rw [hl2]
    · have e3 : bflat (brs (S ++ [node v l h])) = bflat (brs S) ++ bcells (br S (node v l h)) := by
        rw [brs_snoc hS hl hh, ← hbr, bflat_append]
        simp [bflat]
      rw [e3]
      exact ho4.keep fun a ha => set_ne _ _ (hsb a ha).2
end
end Go.Proofs.Ytafojmoeaneedaa
