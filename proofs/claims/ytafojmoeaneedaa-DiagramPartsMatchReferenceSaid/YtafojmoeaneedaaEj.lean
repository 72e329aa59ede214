/-
  The diagrams: complement, intersection, union, symmetric difference, choice.
-/
import Derived.Test.YtafojmoeaneedaaEe
import Derived.Test.YtafojmoeaneedaaGb
namespace Go.Proofs.Ytafojmoeaneedaa
open Go Go.Proofs.Try Tr
set_option maxRecDepth 10000

def Valid (d : Dia) : Prop := ∃ t : Tr, t.ok ∧ d = dia t
open Classical in
noncomputable def chk (d : Dia) : Int := if 4096 < d.1.length then 2 else if Valid d then 0 else 20

/-- A branch that may come behind those of S. -/
def Fits (S : List Tr) (b : Br) : Prop := ∃ (v : Nat) (l h : Tr), b = ⟨(v : Int), (num S l : Int), (num S h : Int)⟩ ∧ inn S l ∧ inn S h ∧ (node v l h).ok ∧ node v l h ∉ S

theorem cl_get {T : List Tr} (hT : Cl T) : ∀ k, k < T.length → Cl (T.take k) ∧ ∃ v l h, T[k]? = some (node v l h) ∧ inn (T.take k) l ∧ inn (T.take k) h ∧ (node v l h).ok ∧ node v l h ∉ T.take k := by
  induction hT with
  | nil => intro k hk; simp at hk
  | @snoc S v l h hS hl hh hok hn ih =>
    intro k hk
    by_cases hks : k < S.length
    · obtain ⟨h1, v', l', h', h2, h3, h4, h5, h6⟩ := ih k hks
      rw [List.take_append_of_le_length (by omega)]
      exact ⟨h1, v', l', h', by rw [List.getElem?_append_left hks]; exact h2, h3, h4, h5, h6⟩
    · have e : k = S.length := by simp at hk; omega
      subst e
      rw [List.take_left' rfl]
      exact ⟨hS, v, l, h, by simp, hl, hh, hok, hn⟩
theorem num_take {T : List Tr} {k : Nat} {t : Tr} (h : inn (T.take k) t) : num T t = num (T.take k) t := by
  have := num_append (X := T.drop k) h
  rw [List.take_append_drop] at this
  exact this
theorem brs_take {T : List Tr} (hT : Cl T) (k : Nat) : brs (T.take k) = (brs T).take k := by
  by_cases hk : k < T.length
  · have h := brs_append (X := T.drop k) (cl_get hT k hk).1
    rw [List.take_append_drop] at h
    rw [h, List.take_left' (by rw [brs_length, List.length_take]; omega)]
  · rw [List.take_of_length_le (by omega), List.take_of_length_le (by rw [brs_length]; omega)]
theorem vis_sub {S0 : List Tr} (h0 : Cl S0) : ∀ (t : Tr) (S : List Tr), inn S0 t → (∀ x ∈ S, x ∈ S0) → ∀ x ∈ vis t S, x ∈ S0
  | leaf _, _, _, hs => hs
  | node v l h, S, ht, hs => by
    obtain ⟨hl, hh⟩ := h0.inn_kids ht
    unfold vis
    split
    · exact hs
    · intro x hx
      rcases List.mem_append.1 hx with hx | hx
      · exact vis_sub h0 h _ hh (vis_sub h0 l S hl hs) x hx
      · rw [List.mem_singleton.1 hx]
        exact inn_mem ht rfl
theorem subs_le {S0 : List Tr} (h0 : Cl S0) {t : Tr} (ht : inn S0 t) : (subs t).length ≤ S0.length :=
  nodup_length _ _ (subs_cl (h0.inn_ok ht)).nodup (vis_sub h0 t [] ht (fun x hx => by cases hx))

theorem fits_of_valid {d : Dia} (hv : Valid d) {S : List Tr} (hS : Cl S) {k : Nat} (hk : S.length = k) (hkd : k < d.1.length) (hb : brs S = d.1.take k) : Fits S d.1[k] := by
  obtain ⟨t, ht, rfl⟩ := hv
  have hT := subs_cl ht
  have hl : k < (subs t).length := by simpa [dia, brs_length] using hkd
  obtain ⟨h1, v, l, h, h2, h3, h4, h5, h6⟩ := cl_get hT k hl
  have e : S = (subs t).take k := brs_inj hS h1 (by rw [hb, brs_take hT]; rfl)
  subst e
  refine ⟨v, l, h, ?_, h3, h4, h5, h6⟩
  have hg := brs_get h2
  have e2 : (brs (subs t))[k]? = some (dia t).1[k] := List.getElem?_eq_getElem (by simpa [dia] using hkd)
  rw [e2] at hg
  rw [Option.some.inj hg]
  simp only [br]
  rw [num_take h3, num_take h4]

theorem fits_facts {S : List Tr} (hS : Cl S) {b : Br} (h : Fits S b) : 0 ≤ b.v ∧ b.v ≤ 63 ∧ 0 ≤ b.l ∧ 0 ≤ b.h ∧ b.l ≤ S.length + 1 ∧ b.h ≤ S.length + 1 ∧ b.l ≠ b.h ∧ b ∉ brs S ∧
    b.v < (tr S b.l.toNat).top ∧ b.v < (tr S b.h.toNat).top := by
  obtain ⟨v, l, h, rfl, hl, hh, ⟨o1, o2, o3, o4, o5, o6⟩, hn⟩ := h
  have h1 := num_le hl
  have h2 := num_le hh
  refine ⟨by simp, by simp only; omega, by simp, by simp, by simp only; omega, by simp only; omega, fun e => o4 (num_inj hl hh (by simp only at e; omega)), fun hm => hn ((mem_brs hS hl hh).1 hm), ?_, ?_⟩
  · simp only [Int.toNat_natCast, tr_num hS hl]; omega
  · simp only [Int.toNat_natCast, tr_num hS hh]; omega
theorem fits_of {S : List Tr} (hS : Cl S) {b : Br} (h1 : 0 ≤ b.v) (h2 : b.v ≤ 63) (h3 : 0 ≤ b.l) (h4 : 0 ≤ b.h) (h5 : b.l ≤ S.length + 1) (h6 : b.h ≤ S.length + 1) (h7 : b.l ≠ b.h) (h8 : b ∉ brs S)
    (h9 : b.v < (tr S b.l.toNat).top) (h10 : b.v < (tr S b.h.toNat).top) : Fits S b := by
  have il : inn S (tr S b.l.toNat) := tr_inn (by omega)
  have ih : inn S (tr S b.h.toNat) := tr_inn (by omega)
  have nl := num_tr hS (n := b.l.toNat) (by omega)
  have nh := num_tr hS (n := b.h.toNat) (by omega)
  have e : b = ⟨((b.v.toNat : Nat) : Int), ((num S (tr S b.l.toNat) : Nat) : Int), ((num S (tr S b.h.toNat) : Nat) : Int)⟩ := by
    rw [nl, nh]
    obtain ⟨x, y, z⟩ := b
    simp only [Br.mk.injEq]
    simp only at *
    omega
  refine ⟨b.v.toNat, _, _, e, il, ih, ⟨by omega, by omega, by omega, fun he => ?_, hS.inn_ok il, hS.inn_ok ih⟩, fun hm => h8 ?_⟩
  · rw [he] at nl; omega
  · rw [e]
    exact (mem_brs hS il ih).2 hm

def kmS (S : List Tr) (x : Br) : Option Value := if x ∈ brs S then some (.bool true) else none
theorem kmS_snoc {S : List Tr} {b : Br} {S' : List Tr} (h : brs S' = brs S ++ [b]) : kmS S' = fun x => if x = b then some (.bool true) else kmS S x := by
  funext x
  unfold kmS
  rw [h]
  by_cases hx : x = b <;> by_cases hm : x ∈ brs S <;> simp [hx, hm]

section
variable {F : PH} {v : Array Value} {d : Dia}
theorem check_spec (hd : DV F v d) : Spec prog 23 #[.agg v] F fun r F' => r = vi (chk d) ∧ F.le F' := by
  have hd' := hd
  obtain ⟨s, rfl, hr⟩ := hd
  have hlen := hr.blen
  refine c23 ?_
  unfold b23
  intro b1 hb1
  refine atI ?_
  have l1 := le_set_fresh (.cells #[s.v, vi d.2] 28) hb1
  have h1 := set_eq F b1 (.cells #[s.v, vi d.2] 28)
  generalize F.set b1 (.cells #[s.v, vi d.2] 28) = G at *
  refine ⟨s, by rw [cell_eq h1]; rfl, fun hbig => ?_, fun hbig => ?_⟩
  · refine ⟨?_, l1⟩
    unfold chk
    rw [if_pos (by omega)]
  have hsm : d.1.length ≤ 4096 := by omega
  intro b11 hb11
  refine atI ?_
  refine ⟨s, by rw [cell_eq (le_set_fresh _ hb11 _ _ h1)]; rfl, ?_⟩
  have fin : ∀ {F' : PH}, G.le F' → ¬ Valid d → (vi 20 = vi (chk d) ∧ F.le F') := fun {F'} hl hn => by
    refine ⟨?_, l1.trans hl⟩
    unfold chk
    rw [if_neg (by omega), if_neg hn]
  refine ⟨fun m i F' => ∃ (k : Nat) (S : List Tr), i = k ∧ k ≤ d.1.length ∧ m = d.1.length - k ∧ Cl S ∧ S.length = k ∧ brs S = d.1.take k ∧ G.le F' ∧ ∃ o, F' b11 = some o ∧ MapO encB (kmS S) o, d.1.length,
    ⟨0, [], rfl, by omega, rfl, .nil, rfl, rfl, le_set_fresh _ hb11, _, set_eq _ _ _, MapO.empty encB⟩, ?_⟩
  rintro m i F1 ⟨k, S, rfl, hk, rfl, hS, hSk, hSb, hle, o, hm, hmo⟩
  unfold b23L1
  refine ⟨fun hlt => ?_, fun hge => ?_⟩
  · have hkd : k < d.1.length := by omega
    obtain ⟨a, ha, hrow, _⟩ := rdb (hr.le (l1.trans hle)) (List.getElem?_eq_getElem hkd)
    have hbad : ¬ Fits S d.1[k] → ¬ Valid d := fun hn hv => hn (fits_of_valid hv hS hSk hkd hSb)
    have hfits := fits_facts hS (b := d.1[k])
    have hof := fits_of hS (b := d.1[k])
    refine ⟨a, ha, by omega, hlt, barr d.1[k], rfl, by simpa using hrow, ?_⟩
    generalize hB : d.1[k] = B at *
    intro b5 hb5
    refine atI ?_
    refine stW (set_eq _ _ _) rfl rfl (st_barr _) ?_
    rw [set_twice]
    have l5 := le_set_fresh (.cells (barr B) 72) hb5
    have h5 := set_eq F1 b5 (.cells (barr B) 72)
    replace hm := l5 _ _ hm
    replace hle := hle.trans l5
    generalize F1.set b5 (.cells (barr B) 72) = F2 at *
    have c0 : F2.cell ⟨b5, 0, none⟩ = some (vi B.v) := by rw [cell_eq h5]; rfl
    have c1 : F2.cell ⟨b5, 1, none⟩ = some (vi B.l) := by rw [cell_eq h5]; rfl
    have c2 : F2.cell ⟨b5, 2, none⟩ = some (vi B.h) := by rw [cell_eq h5]; rfl
    refine ⟨_, c0, fun h => fin hle (hbad fun hf => ?_), fun g1 => ?_⟩
    · have := (hfits hf).1; omega
    refine ⟨_, c0, fun h => fin hle (hbad fun hf => ?_), fun g2 => ?_⟩
    · have := (hfits hf).2.1; omega
    refine ⟨_, c1, fun h => fin hle (hbad fun hf => ?_), fun g3 => ?_⟩
    · have := (hfits hf).2.2.1; omega
    refine ⟨_, c2, fun h => fin hle (hbad fun hf => ?_), fun g4 => ?_⟩
    · have := (hfits hf).2.2.2.1; omega
    have hw : IntKind.i64.wrap ((k : Int) + 1) = ((k + 1 : Nat) : Int) := w64s (by omega)
    rw [hw]
    refine ⟨_, c1, fun h => fin hle (hbad fun hf => ?_), fun g5 => ?_⟩
    · have := (hfits hf).2.2.2.2.1; omega
    refine ⟨_, c2, fun h => fin hle (hbad fun hf => ?_), fun g6 => ?_⟩
    · have := (hfits hf).2.2.2.2.2.1; omega
    refine ⟨_, c1, _, c2, fun h => fin hle (hbad fun hf => ?_), fun g7 => ?_⟩
    · exact (hfits hf).2.2.2.2.2.2.1 h
    have hlk := rdo_lookup (F := F2) mtK hm hmo B false
    refine ⟨barr B, rfl, row_whole h5, decide (B ∈ brs S), ?_, fun h => fin hle (hbad fun hf => ?_), fun g8 => ?_⟩
    · unfold kmS at hlk
      by_cases hx : B ∈ brs S
      · rw [if_pos hx] at hlk
        simpa [hx] using hlk
      · rw [if_neg hx] at hlk
        simpa [hx] using hlk
    · exact (hfits hf).2.2.2.2.2.2.2.1 (by simpa using h)
    have g8' : B ∉ brs S := by simpa using g8
    have hpre : brs S <+: d.1 := by rw [hSb]; exact List.take_prefix _ _
    have il : inn S (tr S B.l.toNat) := tr_inn (by omega)
    have ih : inn S (tr S B.h.toNat) := tr_inn (by omega)
    have nl := num_tr hS (n := B.l.toNat) (by omega)
    have nh := num_tr hS (n := B.h.toNat) (by omega)
    have el : Value.int .i64 B.l = vi (num S (tr S B.l.toNat)) := by rw [nl]; congr 1; omega
    have eh : Value.int .i64 B.h = vi (num S (tr S B.h.toNat)) := by rw [nh]; congr 1; omega
    refine ⟨_, rfl, row_whole (hle _ _ h1), _, c1, _, c0, ?_⟩
    rw [el]
    refine (level_spec (hd'.le (l1.trans hle)) hpre il (by omega)).mono ?_
    rintro _ F3 ⟨rfl, l3⟩
    refine ⟨_, rfl, le_cell l3 c0, fun h => fin (hle.trans l3) (hbad fun hf => ?_), fun g9 => ?_⟩
    · have := (hfits hf).2.2.2.2.2.2.2.2.1; omega
    refine ⟨_, rfl, row_whole ((hle.trans l3) _ _ h1), _, le_cell l3 c2, _, le_cell l3 c0, ?_⟩
    rw [eh]
    refine (level_spec (hd'.le (l1.trans (hle.trans l3))) hpre ih (by omega)).mono ?_
    rintro _ F4 ⟨rfl, l4⟩
    refine ⟨_, rfl, le_cell l4 (le_cell l3 c0), le_cell l4 (le_cell l3 c0), fun h => fin ((hle.trans l3).trans l4) (hbad fun hf => ?_), fun g10 => ?_⟩
    · have := (hfits hf).2.2.2.2.2.2.2.2.2; omega
    have hF := hof (by omega) (by omega) (by omega) (by omega) (by omega) (by omega) g7 g8' (by omega) (by omega)
    refine ⟨barr B, rfl, row_whole (l4 _ _ (l3 _ _ h5)), ?_⟩
    refine runs_mapUpdate mtK (l4 _ _ (l3 _ _ hm)) hmo B _ fun o' ho' => ?_
    obtain ⟨v, l, h, e, hl, hh, hok, hn⟩ := hF
    have e2 : brs (S ++ [node v l h]) = brs S ++ [B] := by rw [brs_snoc hS hl hh, e]
    rw [← kmS_snoc e2] at ho'
    have hg11 : G b11 = none := hb11
    refine ⟨d.1.length - (k + 1), by omega, k + 1, S ++ [node v l h], rfl, by omega, rfl, .snoc hS hl hh hok hn, by simp [hSk], ?_, le_set_new ((hle.trans l3).trans l4) hg11, o', set_eq _ _ _, ho'⟩
    rw [e2, hSb, List.take_succ_eq_append_getElem hkd, hB]
  · unfold b23j1
    have hk' : k = d.1.length := by omega
    have hSd : brs S = d.1 := by rw [hSb, hk', List.take_length]
    have cr : F1.cell ⟨b1, 1, none⟩ = some (vi d.2) := by rw [cell_eq (hle _ _ h1)]; rfl
    have cs : F1.cell ⟨b1, 0, none⟩ = some s.v := by rw [cell_eq (hle _ _ h1)]; rfl
    have key : ∀ t, t.ok → d = dia t → S = subs t ∧ d.2 = num S t := fun t ht e => by
      subst e
      have := brs_inj hS (subs_cl ht) hSd
      exact ⟨this, by rw [this]; rfl⟩
    have hrange : Valid d → 0 ≤ d.2 ∧ d.2 ≤ (d.1.length : Int) + 1 := by
      rintro ⟨t, ht, e⟩
      obtain ⟨h1, h2⟩ := key t ht e
      have h3 : inn S t := by rw [h1]; exact subs_inn ht
      have := num_le h3
      omega
    refine ⟨_, cr, fun h => fin hle (fun hv => by have := (hrange hv).1; omega), fun g1 => ?_⟩
    have hw : IntKind.i64.wrap ((s.len : Int) + 1) = ((d.1.length + 1 : Nat) : Int) := by rw [hlen]; exact w64s (by omega)
    refine ⟨_, cr, s, cs, ?_⟩
    rw [hw]
    refine ⟨fun h => fin hle (fun hv => by have := (hrange hv).2; omega), fun g2 => ?_⟩
    refine ⟨s, cs, ?_⟩
    intro b98 hb98
    refine atI ?_
    have l98 := le_set_fresh (.cells #[s.v, Value.map none] 84) hb98
    have h98 := set_eq F1 b98 (.cells #[s.v, Value.map none] 84)
    replace hle := hle.trans l98
    generalize F1.set b98 (.cells #[s.v, Value.map none] 84) = F2 at *
    refine ⟨_, le_cell l98 cr, ?_⟩
    have it : inn S (tr S d.2.toNat) := tr_inn (by omega)
    have nt := num_tr hS (n := d.2.toNat) (by omega)
    have et : Value.int .i64 d.2 = vi (num S (tr S d.2.toNat)) := by rw [nt]; congr 1; omega
    rw [et]
    refine (diagram_spec (by rw [cell_eq h98]; rfl) (by rw [hSd]; exact hr.le (l1.trans hle)) hS it (by omega)).mono ?_
    rintro _ F3 ⟨w, rfl, hw, l3⟩
    refine ⟨_, rfl, ?_⟩
    intro b6 hb6
    refine atI ?_
    refine stW (set_eq _ _ _) hw.size rfl hw.st ?_
    rw [set_twice]
    have l6 := le_set_fresh (.cells w 28) hb6
    have h6 := set_eq F3 b6 (.cells w 28)
    replace hle := (hle.trans l3).trans l6
    replace hw := hw.le l6
    generalize F3.set b6 (.cells w 28) = F4 at *
    refine ⟨w, hw.size, row_whole h6, _, rfl, row_whole (hle _ _ h1), ?_⟩
    have hok := hS.inn_ok it
    refine (same_spec hw (hd'.le (l1.trans hle)) (by
      have := subs_le hS it
      simp only [dia, brs_length]
      omega)).mono ?_
    rintro _ F5 ⟨rfl, l5⟩
    refine ⟨_, rfl, fun h => fin (hle.trans l5) ?_, fun h => ?_⟩
    · rintro ⟨t, ht, e⟩
      obtain ⟨k1, k2⟩ := key t ht e
      have : tr S d.2.toNat = t := by
        rw [k2, Int.toNat_natCast]
        exact tr_num hS (by rw [k1]; exact subs_inn ht)
      rw [this, ← e] at h
      simp at h
    · refine ⟨?_, l1.trans (hle.trans l5)⟩
      have : dia (tr S d.2.toNat) = d := by simpa using h
      unfold chk
      rw [if_neg (by omega), if_pos ⟨_, hok, this.symm⟩]
end
theorem cb97 : callableB prog 97 = true := by kernel_rfl

theorem BD.weaken {F0 F1 F : PH} {b m : Nat} {S : List Tr} (h : BD F1 F b m S) (hl : F0.le F1) : BD F0 F b m S := by
  obtain ⟨h1, h2, h3, h4, ⟨s, h5, h6, h7⟩, h8⟩ := h
  exact ⟨hl.trans h1, h2, le_none hl h3, le_none hl h4, ⟨s, h5, h6, fun a ha => le_none hl (h7 a ha)⟩, h8⟩
theorem BD.upto {F0 F G : PH} {b m : Nat} {S : List Tr} (h : BD F0 F b m S) (hl : F.le G) : BD F0 G b m S := by
  obtain ⟨h1, h2, h3, h4, ⟨s, h5, h6, h7⟩, o, h8, h9⟩ := h
  exact ⟨h1.trans hl, h2, h3, h4, ⟨s, hl _ _ h5, h6.upto hl, h7⟩, o, hl _ _ h8, h9⟩
/-- A block beside the builder's joins what is fixed. -/
theorem BD.grow {F0 G F : PH} {b m x : Nat} {o : Obj} {S : List Tr} (h : BD F0 G b m S) (hl : G.le F) (hx : G x = none) (ho : F x = some o) : BD (F0.set x o) F b m S := by
  obtain ⟨h1, h2, h3, h4, ⟨s, h5, h6, h7⟩, o', h8, h9⟩ := h
  refine ⟨fun y oy hy => ?_, h2, ?_, ?_, ⟨s, hl _ _ h5, h6.upto hl, fun a ha => ?_⟩, o', hl _ _ h8, h9⟩
  · by_cases hyx : y = x
    · subst hyx; rw [set_eq] at hy; rw [ho]; exact hy
    · rw [set_ne _ _ hyx] at hy; exact hl _ _ (h1 _ _ hy)
  · rw [set_ne _ _ (ne_of_fresh hx h5)]; exact h3
  · rw [set_ne _ _ (ne_of_fresh hx h8)]; exact h4
  · obtain ⟨cur, hcur⟩ := h6.elem ha
    rw [set_ne _ _ (ne_of_fresh hx hcur)]
    exact h7 a ha
/-- A block beside the builder's changes. -/
theorem BD.other {F0 F : PH} {b m x : Nat} {o : Obj} {S : List Tr} (h : BD F0 F b m S) (h0 : F0 x = none) (hb : b ≠ x) (hm : m ≠ x) (hc : ∀ c e fr, F x ≠ some (.cells c e fr)) : BD F0 (F.set x o) b m S := by
  obtain ⟨h1, h2, h3, h4, ⟨s, h5, h6, h7⟩, o', h8, h9⟩ := h
  refine ⟨le_set_new h1 h0, h2, h3, h4, ⟨s, by rw [set_ne _ _ hb]; exact h5, h6.keep fun a ha => set_ne _ _ (fun e => ?_), h7⟩, o', by rw [set_ne _ _ hm]; exact h8, h9⟩
  obtain ⟨cur, hcur⟩ := h6.elem ha
  rw [e] at hcur
  exact hc _ _ _ hcur

structure AP where
  b3 : Nat
  b6 : Nat
  b2 : Nat
  b7 : Nat
  b5 : Nat
  bb : Nat
  mm : Nat
  b9 : Nat
  opv : Value
  o : Op3
  dd : Nat → Dia
  SS : Nat → List Tr

def AP.key (p : AP) (t : Nat → Tr) : Int × Int × Int := ((num (p.SS 0) (t 0) : Int), (num (p.SS 1) (t 1) : Int), (num (p.SS 2) (t 2) : Int))
noncomputable def AP.res (p : AP) (t : Nat → Tr) : Tr := ap p.o (t 0) (t 1) (t 2)
def AP.inK (p : AP) (t : Nat → Tr) : Prop := inn (p.SS 0) (t 0) ∧ inn (p.SS 1) (t 1) ∧ inn (p.SS 2) (t 2)
def AP.caps (p : AP) : Array Value := #[.pointer (some ⟨p.b3, 0, none⟩), .pointer (some ⟨p.b6, 0, none⟩), .pointer (some ⟨p.b2, 0, none⟩), .pointer (some ⟨p.b7, 0, none⟩), .pointer (some ⟨p.b5, 0, none⟩)]

/-- A function value that computes o. -/
def OpV (F0 : PH) (v : Value) (o : Op3) : Prop := ∃ (k : Nat) (fst cap : Array Value), v = .func (.func k) fst cap ∧ callableB prog k = true ∧
  ∀ (x y z : Bool) (F : PH), F0.le F → Spec prog k (fst ++ [Value.bool x, Value.bool y, Value.bool z].toArray ++ cap) F fun r F' => r = .bool (o x y z) ∧ F.le F'
theorem OpV.le {F0 G : PH} {v : Value} {o : Op3} (h : OpV F0 v o) (hl : F0.le G) : OpV G v o := by
  obtain ⟨k, f, c, h1, h2, h3⟩ := h
  exact ⟨k, f, c, h1, h2, fun x y z F hF => h3 x y z F (hl.trans hF)⟩

structure AF (p : AP) : Prop where
  cl : ∀ i, i < 3 → Cl (p.SS i)
  pre : ∀ i, i < 3 → brs (p.SS i) <+: (p.dd i).1
  fit : ∀ i, i < 3 → Fit ((p.dd i).1.length + 2)
structure AE (F0 : PH) (p : AP) : Prop where
  c3 : F0.cell ⟨p.b3, 0, none⟩ = some p.opv
  c6 : F0.cell ⟨p.b6, 0, none⟩ = some (.map (some p.b9))
  c2 : ∀ i, i < 3 → ∃ w, F0.row ⟨p.b2, i * 2, none⟩ w ∧ DV F0 w (p.dd i)
  c7 : F0.cell ⟨p.b7, 0, none⟩ = some (.func (.func 97) #[] p.caps)
  c5 : F0.cell ⟨p.b5, 0, none⟩ = some (.pointer (some ⟨p.bb, 0, none⟩))
  op : OpV F0 p.opv p.o
theorem row_le {F G : PH} (h : F.le G) {a : Addr} {cs : Array Value} (hr : F.row a cs) : G.row a cs := fun i hi => le_cell h (hr i hi)
theorem AE.le {F0 G : PH} {p : AP} (h : AE F0 p) (hl : F0.le G) : AE G p :=
  ⟨le_cell hl h.c3, le_cell hl h.c6, fun i hi => by
    obtain ⟨w, h1, h2⟩ := h.c2 i hi
    exact ⟨w, row_le hl h1, h2.le hl⟩, le_cell hl h.c7, le_cell hl h.c5, h.op.le hl⟩

def memoOK (p : AP) (S : List Tr) (m3 : Int × Int × Int → Option Value) : Prop := ∀ k v, m3 k = some v → ∃ t, p.inK t ∧ k = p.key t ∧ inn S (p.res t) ∧ v = vi (num S (p.res t))
structure AS (F0 F : PH) (p : AP) (S : List Tr) : Prop where
  bd : BD F0 F p.bb p.mm S
  n9 : F0 p.b9 = none
  ne : p.mm ≠ p.b9
  memo : ∃ o m3, F p.b9 = some o ∧ MapO enc3 m3 o ∧ memoOK p S m3
theorem AS.upto {F0 F G : PH} {p : AP} {S : List Tr} (h : AS F0 F p S) (hl : F.le G) : AS F0 G p S := by
  obtain ⟨h1, h2, h3, o, m3, h4, h5⟩ := h
  exact ⟨h1.upto hl, h2, h3, o, m3, hl _ _ h4, h5⟩
theorem AS.weaken {F0 F1 F : PH} {p : AP} {S : List Tr} (h : AS F1 F p S) (hl : F0.le F1) : AS F0 F p S := by
  obtain ⟨h1, h2, h3, h4⟩ := h
  exact ⟨h1.weaken hl, le_none hl h2, h3, h4⟩
theorem AS.grow {F0 G F : PH} {p : AP} {S : List Tr} {x : Nat} {o : Obj} (h : AS F0 G p S) (hl : G.le F) (hx : G x = none) (ho : F x = some o) : AS (F0.set x o) F p S := by
  obtain ⟨h1, h2, h3, o', m3, h4, h5⟩ := h
  exact ⟨h1.grow hl hx ho, by rw [set_ne _ _ (ne_of_fresh hx h4)]; exact h2, h3, o', m3, hl _ _ h4, h5⟩

theorem key_inj {p : AP} {t u : Nat → Tr} (ht : p.inK t) (hu : p.inK u) (h : p.key t = p.key u) : p.res t = p.res u := by
  unfold AP.key at h
  simp only [Prod.mk.injEq] at h
  obtain ⟨h1, h2, h3⟩ := h
  unfold AP.res
  rw [num_inj ht.1 hu.1 (by omega), num_inj ht.2.1 hu.2.1 (by omega), num_inj ht.2.2 hu.2.2 (by omega)]

theorem vis_grow (t : Tr) (S : List Tr) : S.length ≤ (vis t S).length := by
  induction t generalizing S with
  | leaf b => exact Nat.le_refl _
  | node v l h ihl ihh =>
    unfold vis
    split
    · exact Nat.le_refl _
    · have h1 := ihl S
      have h2 := ihh (vis l S)
      simp only [List.length_append]
      omega
theorem addT_le (S : List Tr) (t : Tr) : S.length ≤ (addT S t).length := by
  unfold addT
  split <;> simp

def szs (t : Nat → Tr) : Nat := (t 0).sz + (t 1).sz + (t 2).sz
def AtSpec (p : AP) (t : Nat → Tr) : Prop := ∀ (F0 F : PH) (S : List Tr), AE F0 p → AS F0 F p S → Fit ((vis (p.res t) S).length + 4) →
  Spec prog 97 (#[.agg (arr3 (p.key t))] ++ p.caps) F fun r F' => r = vi (num (vis (p.res t) S) (p.res t)) ∧ AS F0 F' p (vis (p.res t) S)

/-- What the trees are, below their least condition. -/
structure Down (p : AP) (t : Nat → Tr) (v : Nat) : Prop where
  hv : v = top3 (t 0) (t 1) (t 2)
  lt : v < 64
  il : p.inK (fun i => lo v (t i))
  ih : p.inK (fun i => hi v (t i))
  sl : szs (fun i => lo v (t i)) < szs t
  sh : szs (fun i => hi v (t i)) < szs t
  tl : v < (p.res (fun i => lo v (t i))).top
  th : v < (p.res (fun i => hi v (t i))).top
  ol : (p.res (fun i => lo v (t i))).ok
  oh : (p.res (fun i => hi v (t i))).ok
  res : p.res t = mk v (p.res (fun i => lo v (t i))) (p.res (fun i => hi v (t i)))
theorem down {p : AP} (hf : AF p) {t : Nat → Tr} (ht : p.inK t) (hv : top3 (t 0) (t 1) (t 2) < 64) : Down p t (top3 (t 0) (t 1) (t 2)) := by
  have h0 := (hf.cl 0 (by omega)).inn_ok ht.1
  have h1 := (hf.cl 1 (by omega)).inn_ok ht.2.1
  have h2 := (hf.cl 2 (by omega)).inn_ok ht.2.2
  have hs := ap_step (o := p.o) h0 h1 h2 hv
  have v1 : top3 (t 0) (t 1) (t 2) ≤ (t 0).top := by unfold top3; omega
  have v2 : top3 (t 0) (t 1) (t 2) ≤ (t 1).top := by unfold top3; omega
  have v3 : top3 (t 0) (t 1) (t 2) ≤ (t 2).top := by unfold top3; omega
  have hcase : top3 (t 0) (t 1) (t 2) = (t 0).top ∨ top3 (t 0) (t 1) (t 2) = (t 1).top ∨ top3 (t 0) (t 1) (t 2) = (t 2).top := by unfold top3; omega
  generalize hw : top3 (t 0) (t 1) (t 2) = v at *
  have nl : ∀ {t : Tr}, v = t.top → t.isL = false := fun {t} e => by
    cases t with
    | leaf b => simp only [top] at e; omega
    | node _ _ _ => rfl
  obtain ⟨al1, al2, al3, al4, al5⟩ := lo_facts h0 v1
  obtain ⟨bl1, bl2, bl3, bl4, bl5⟩ := lo_facts h1 v2
  obtain ⟨dl1, dl2, dl3, dl4, dl5⟩ := lo_facts h2 v3
  obtain ⟨ah1, ah2, ah3, ah4, ah5⟩ := hi_facts h0 v1
  obtain ⟨bh1, bh2, bh3, bh4, bh5⟩ := hi_facts h1 v2
  obtain ⟨dh1, dh2, dh3, dh4, dh5⟩ := hi_facts h2 v3
  obtain ⟨l1, l2, l3⟩ := ap_facts (o := p.o) al1 bl1 dl1
  obtain ⟨g1, g2, g3⟩ := ap_facts (o := p.o) ah1 bh1 dh1
  refine ⟨hw.symm, hv, ⟨(hf.cl 0 (by omega)).inn_lo ht.1 v, (hf.cl 1 (by omega)).inn_lo ht.2.1 v, (hf.cl 2 (by omega)).inn_lo ht.2.2 v⟩,
    ⟨(hf.cl 0 (by omega)).inn_hi ht.1 v, (hf.cl 1 (by omega)).inn_hi ht.2.1 v, (hf.cl 2 (by omega)).inn_hi ht.2.2 v⟩, ?_, ?_, ?_, ?_, l1, g1, hs⟩
  · simp only [szs]
    rcases hcase with e | e | e
    · have := al4 e.symm (nl e); omega
    · have := bl4 e.symm (nl e); omega
    · have := dl4 e.symm (nl e); omega
  · simp only [szs]
    rcases hcase with e | e | e
    · have := ah4 e.symm (nl e); omega
    · have := bh4 e.symm (nl e); omega
    · have := dh4 e.symm (nl e); omega
  · have := al2 hv; have := bl2 hv; have := dl2 hv; unfold top3 at l2; show v < (ap p.o (lo v (t 0)) (lo v (t 1)) (lo v (t 2))).top; omega
  · have := ah2 hv; have := bh2 hv; have := dh2 hv; unfold top3 at g2; show v < (ap p.o (hi v (t 0)) (hi v (t 1)) (hi v (t 2))).top; omega
theorem numI_lt2 {S : List Tr} {t : Tr} : ((num S t : Int) < 2) ↔ t.isL = true := by
  constructor
  · intro h
    exact num_lt2 (S := S) (by omega)
  · intro h
    cases t with
    | leaf b => have := num_leaf_le S b; omega
    | node _ _ _ => cases h

section
variable {p : AP} {t : Nat → Tr} {F0 F : PH} {S : List Tr} {n6 : Nat}

theorem at_leaf (he : AE F0 p) (hs : AS F0 F p S) (h6 : F0 n6 = some (.cells (arr3 (p.key t)) 114)) (h0 : (t 0).isL = true) (h1 : (t 1).isL = true) (h2 : (t 2).isL = true) {R : Value → PH → Prop}
    (hR : ∀ F', F.le F' → R (vi (num S (p.res t))) F') :
    b97j1 (some ⟨p.b3, 0, none⟩) (some ⟨p.b6, 0, none⟩) (some ⟨p.b2, 0, none⟩) (some ⟨p.b7, 0, none⟩) (some ⟨p.b5, 0, none⟩) n6 true R F := by
  unfold b97j1
  obtain ⟨k, fst, cap, hop, hcb, hsp⟩ := he.op
  have hle := hs.bd.le
  have h6' := hle _ _ h6
  refine ⟨fun _ => ?_, fun hc => by cases hc⟩
  refine ⟨_, rfl, _, le_cell hle he.c3, by omega, by omega, _, by simp only [add_mk]; rw [cell_eq h6']; rfl, by omega, by omega, _, by simp only [add_mk]; rw [cell_eq h6']; rfl, by omega, by omega, _, by simp only [add_mk]; rw [cell_eq h6']; rfl, k, fst, cap, hop, hcb, ?_⟩
  generalize ht0 : t 0 = x0 at *
  generalize ht1 : t 1 = x1 at *
  generalize ht2 : t 2 = x2 at *
  cases x0 with
  | node _ _ _ => cases h0
  | leaf a =>
    cases x1 with
    | node _ _ _ => cases h1
    | leaf b =>
      cases x2 with
      | node _ _ _ => cases h2
      | leaf c =>
        have e : ∀ (S : List Tr) (x : Bool), decide ((num S (leaf x) : Int) = 1) = x := fun S x => by cases x <;> simp [num]
        simp only [AP.key, ht0, ht1, ht2, e]
        refine (hsp a b c F hle).mono ?_
        rintro _ F' ⟨rfl, hle'⟩
        have hres : p.res t = leaf (p.o a b c) := by unfold AP.res; rw [ht0, ht1, ht2]; exact ap_leaf _ _ _ _
        have hR' := hR F' hle'
        rw [hres] at hR'
        refine ⟨_, rfl, fun h => ?_, fun h => ?_⟩
        · rw [h] at hR'; exact hR'
        · rw [h] at hR'; exact hR'

theorem at_rest (hf : AF p) (ht : p.inK t) (ih : ∀ u, p.inK u → szs u < szs t → AtSpec p u) (he : AE F0 p) (hs : AS F0 F p S) (h6 : F0 n6 = some (.cells (arr3 (p.key t)) 114))
    (hfit : Fit ((vis (p.res t) S).length + 4)) (hn : ¬ ((t 0).isL = true ∧ (t 1).isL = true ∧ (t 2).isL = true)) {R : Value → PH → Prop}
    (hR : ∀ F', AS F0 F' p (vis (p.res t) S) → R (vi (num (vis (p.res t) S) (p.res t))) F') :
    b97j1 (some ⟨p.b3, 0, none⟩) (some ⟨p.b6, 0, none⟩) (some ⟨p.b2, 0, none⟩) (some ⟨p.b7, 0, none⟩) (some ⟨p.b5, 0, none⟩) n6 false R F := by
  have hv : top3 (t 0) (t 1) (t 2) < 64 := by
    have k0 := fun hl => top_lt ((hf.cl 0 (by omega)).inn_ok ht.1) hl
    have k1 := fun hl => top_lt ((hf.cl 1 (by omega)).inn_ok ht.2.1) hl
    have k2 := fun hl => top_lt ((hf.cl 2 (by omega)).inn_ok ht.2.2) hl
    unfold top3
    cases e0 : (t 0).isL with
    | false => have := k0 e0; omega
    | true =>
      cases e1 : (t 1).isL with
      | false => have := k1 e1; omega
      | true =>
        cases e2 : (t 2).isL with
        | false => have := k2 e2; omega
        | true => exact absurd ⟨e0, e1, e2⟩ hn
  have D := down hf ht hv
  unfold b97j1
  have hle := hs.bd.le
  have h6' := hle _ _ h6
  obtain ⟨om, m3, hm, hmo, hok⟩ := hs.memo
  refine ⟨fun hc => (by cases hc), fun _ => ?_⟩
  have hlk := rdo_lookup (F := F) mt3 hm hmo (p.key t) true
  refine ⟨_, rfl, _, le_cell hle he.c6, arr3 (p.key t), rfl, row_whole h6', ?_⟩
  cases hmk : m3 (p.key t) with
  | some v =>
    rw [hmk] at hlk
    obtain ⟨u, hu, hk, hi, rfl⟩ := hok _ _ hmk
    have e := key_inj ht hu hk
    rw [← e] at hi hlk
    have hvi := vis_inn hi
    refine ⟨_, _, hlk, fun _ => ?_, fun hc => by cases hc⟩
    have := hR F (by rw [hvi]; exact hs)
    rw [hvi] at this
    exact this
  | none =>
    rw [hmk] at hlk
    refine ⟨_, _, hlk, fun hc => (by cases hc), fun _ => ?_⟩
    obtain ⟨w0, r0, d0⟩ := he.c2 0 (by omega)
    obtain ⟨w1, r1, d1⟩ := he.c2 1 (by omega)
    obtain ⟨w2, r2, d2⟩ := he.c2 2 (by omega)
    have c6 : ∀ {G : PH}, F.le G → G.cell ⟨n6, 0, none⟩ = some (vi (num (p.SS 0) (t 0))) ∧ G.cell ⟨n6, 1, none⟩ = some (vi (num (p.SS 1) (t 1))) ∧ G.cell ⟨n6, 2, none⟩ = some (vi (num (p.SS 2) (t 2))) := fun {G} hl => by
      rw [cell_eq (hl _ _ h6'), cell_eq (hl _ _ h6'), cell_eq (hl _ _ h6')]
      exact ⟨rfl, rfl, rfl⟩
    have rr : ∀ {G : PH}, F.le G → G.row (Addr.add ⟨p.b2, 0, none⟩ (Int.toNat 0 * 2)) w0 ∧ G.row (Addr.add ⟨p.b2, 0, none⟩ (Int.toNat 1 * 2)) w1 ∧ G.row (Addr.add ⟨p.b2, 0, none⟩ (Int.toNat 2 * 2)) w2 := fun {G} hl => by
      simp only [add_mk]
      exact ⟨row_le (hle.trans hl) r0, row_le (hle.trans hl) r1, row_le (hle.trans hl) r2⟩
    have cc : ∀ {G : PH}, F.le G → G.cell (Addr.add ⟨n6, 0, none⟩ (Int.toNat 0 * 1)) = some (vi (num (p.SS 0) (t 0))) ∧ G.cell (Addr.add ⟨n6, 0, none⟩ (Int.toNat 1 * 1)) = some (vi (num (p.SS 1) (t 1))) ∧ G.cell (Addr.add ⟨n6, 0, none⟩ (Int.toNat 2 * 1)) = some (vi (num (p.SS 2) (t 2))) := fun {G} hl => by
      simp only [add_mk]
      exact c6 hl
    have hFF : F.le F := PH.le_rfl
    refine ⟨_, rfl, by omega, by omega, w0, d0.size, (rr hFF).1, by omega, by omega, _, (cc hFF).1, by omega, by omega, w1, d1.size, (rr hFF).2.1, by omega, by omega, _, (cc hFF).2.1, by omega, by omega, w2, d2.size, (rr hFF).2.2, by omega, by omega, _, (cc hFF).2.2, ?_⟩
    refine (level_spec (d0.le hle) (hf.pre 0 (by omega)) ht.1 (hf.fit 0 (by omega))).mono ?_
    rintro _ G1 ⟨rfl, l1⟩
    refine ⟨_, rfl, (cc l1).2.2, (rr l1).2.2, (cc l1).2.1, (rr l1).2.1, ?_⟩
    refine (level_spec (d1.le (hle.trans l1)) (hf.pre 1 (by omega)) ht.2.1 (hf.fit 1 (by omega))).mono ?_
    rintro _ G2 ⟨rfl, l2⟩
    replace l2 := l1.trans l2
    refine ⟨_, rfl, (cc l2).2.2, (rr l2).2.2, ?_⟩
    refine (level_spec (d2.le (hle.trans l2)) (hf.pre 2 (by omega)) ht.2.2 (hf.fit 2 (by omega))).mono ?_
    rintro _ G ⟨rfl, l3⟩
    replace l3 := l2.trans l3
    refine ⟨_, rfl, ?_⟩
    have hmin : (min (min ((t 0).top : Int) ((t 1).top : Int)) ((t 2).top : Int)) = ((top3 (t 0) (t 1) (t 2) : Nat) : Int) := by unfold top3; omega
    generalize top3 (t 0) (t 1) (t 2) = v at *
    intro b11 hb11
    refine atI ?_
    intro b12 hb12
    refine atI ?_
    have n12 : b11 ≠ b12 := ne_of_fresh hb12 (set_eq _ _ _)
    have g12 : G b12 = none := by rw [set_ne _ _ n12.symm] at hb12; exact hb12
    let A (k : Nat) (f : Nat → Nat) : Array Value := #[if 0 < k then vi (f 0) else vi 0, if 1 < k then vi (f 1) else vi 0, if 2 < k then vi (f 2) else vi 0]
    let fl : Nat → Nat := fun i => num (p.SS i) (lo v (t i))
    let fh : Nat → Nat := fun i => num (p.SS i) (hi v (t i))
    have hA : ∀ k f, k < 3 → (A k f).setIfInBounds k (vi (f k)) = A (k + 1) f := by
      intro k f hk
      match k, hk with
      | 0, _ => simp [A]
      | 1, _ => simp [A]
      | 2, _ => simp [A]
    refine ⟨fun m i F' => ∃ k : Nat, i = k ∧ k ≤ 3 ∧ m = 3 - k ∧ G.le F' ∧ F' b11 = some (.cells (A k fl) 114) ∧ F' b12 = some (.cells (A k fh) 114), 3,
      ⟨0, rfl, by omega, rfl, (le_set_fresh _ hb11).trans (le_set_fresh _ hb12), by rw [set_ne _ _ n12, set_eq]; rfl, by rw [set_eq]; rfl⟩, ?_⟩
    rintro m i F1 ⟨k, rfl, hk, rfl, hG, h11, h12⟩
    unfold b97L1
    rw [hmin]
    refine ⟨fun hlt => ?_, fun hge => ?_⟩
    · have hk3 : k < 3 := by omega
      obtain ⟨w, rw', dw⟩ := he.c2 k hk3
      have hFG : F.le F1 := l3.trans hG
      have hin : inn (p.SS k) (t k) := by
        match k, hk3 with
        | 0, _ => exact ht.1
        | 1, _ => exact ht.2.1
        | 2, _ => exact ht.2.2
      have hc : F1.cell (Addr.add ⟨n6, 0, none⟩ (Int.toNat (k : Int) * 1)) = some (vi (num (p.SS k) (t k))) := by
        match k, hk3 with
        | 0, _ => exact (cc hFG).1
        | 1, _ => exact (cc hFG).2.1
        | 2, _ => exact (cc hFG).2.2
      refine ⟨by omega, by omega, w, dw.size, by simpa using row_le (hle.trans hFG) rw', by omega, by omega, _, hc, ?_⟩
      refine (sides_spec (dw.le (hle.trans hFG)) (hf.pre k hk3) hin (hf.fit k hk3) D.lt).mono ?_
      rintro _ F2 ⟨rfl, l4⟩
      refine ⟨_, _, rfl, by omega, by omega, ?_⟩
      refine st1' (b := b11) (o := k) (by simp) (l4 _ _ h11) (by simp [A]; omega) ?_
      rw [hA k fl hk3]
      refine ⟨by omega, by omega, ?_⟩
      refine st1' (b := b12) (o := k) (by simp) (by rw [set_ne _ _ n12.symm]; exact l4 _ _ h12) (by simp [A]; omega) ?_
      rw [hA k fh hk3]
      refine ⟨3 - (k + 1), by omega, k + 1, w64s (by omega), by omega, rfl, le_set_new (le_set_new (hG.trans l4) hb11) g12, ?_, set_eq _ _ _⟩
      rw [set_ne _ _ n12, set_eq]
    · obtain rfl : k = 3 := by omega
      have e11 : A 3 fl = arr3 (p.key fun i => lo v (t i)) := rfl
      have e12 : A 3 fh = arr3 (p.key fun i => hi v (t i)) := rfl
      rw [e11] at h11
      rw [e12] at h12
      clear hA hge hk
      clear_value A fl fh
      unfold b97j2
      rw [hmin]
      have hs1 := (hs.upto l3).grow (F := G.set b11 (.cells (arr3 (p.key fun i => lo v (t i))) 114)) (le_set_fresh _ hb11) hb11 (set_eq _ _ _)
      have lx : (G.set b11 (.cells (arr3 (p.key fun i => lo v (t i))) 114)).le F1 := fun x ob hx => by
        by_cases hxb : x = b11
        · subst hxb; rw [set_eq] at hx; rw [h11]; exact hx
        · rw [set_ne _ _ hxb] at hx; exact hG _ _ hx
      have hs2 := hs1.grow lx (by rw [set_ne _ _ n12.symm]; exact g12) h12
      have f11 : F0 b11 = none := le_none (hle.trans l3) hb11
      have f12 : F0 b12 = none := le_none (hle.trans l3) g12
      have l0 : F0.le ((F0.set b11 (.cells (arr3 (p.key fun i => lo v (t i))) 114)).set b12 (.cells (arr3 (p.key fun i => hi v (t i))) 114)) := le_set_new (le_set_new PH.le_rfl f11) f12
      have q11 : ((F0.set b11 (.cells (arr3 (p.key fun i => lo v (t i))) 114)).set b12 (.cells (arr3 (p.key fun i => hi v (t i))) 114)) b11 = some (.cells (arr3 (p.key fun i => lo v (t i))) 114) := by rw [set_ne _ _ n12, set_eq]
      have q12 : ((F0.set b11 (.cells (arr3 (p.key fun i => lo v (t i))) 114)).set b12 (.cells (arr3 (p.key fun i => hi v (t i))) 114)) b12 = some (.cells (arr3 (p.key fun i => hi v (t i))) 114) := set_eq _ _ _
      generalize ((F0.set b11 (.cells (arr3 (p.key fun i => lo v (t i))) 114)).set b12 (.cells (arr3 (p.key fun i => hi v (t i))) 114)) = E0 at *
      have he0 := he.le l0
      have hcl := hs.bd.cl
      obtain ⟨a1, a2, X, a3, a4⟩ := vis_facts (p.res fun i => lo v (t i)) S D.ol hcl
      obtain ⟨c1, c2, Y, c3, c4⟩ := vis_facts (p.res fun i => hi v (t i)) (vis (p.res fun i => lo v (t i)) S) D.oh a1
      have hadd := addT_vis hcl (v := v) (l := p.res fun i => lo v (t i)) (h := p.res fun i => hi v (t i)) ⟨D.lt, D.tl, D.th, D.ol, D.oh⟩
      rw [← D.res] at hadd
      have g1 := vis_grow (p.res fun i => hi v (t i)) (vis (p.res fun i => lo v (t i)) S)
      have g2 := addT_le (vis (p.res fun i => hi v (t i)) (vis (p.res fun i => lo v (t i)) S)) (p.res t)
      rw [hadd] at g2
      refine ⟨_, rfl, _, le_cell hs2.bd.le he0.c7, arr3 (p.key fun i => lo v (t i)), rfl, row_whole (hs2.bd.le _ _ q11), _, _, _, rfl, cb97, ?_⟩
      refine (ih _ D.il D.sl E0 F1 S he0 hs2 (by omega)).mono ?_
      rintro _ F2 ⟨rfl, hs3⟩
      refine ⟨_, rfl, _, rfl, _, le_cell hs3.bd.le he0.c5, _, le_cell hs3.bd.le he0.c7, arr3 (p.key fun i => hi v (t i)), rfl, row_whole (hs3.bd.le _ _ q12), _, _, _, rfl, cb97, ?_⟩
      refine (ih _ D.ih D.sh E0 F2 _ he0 hs3 (by omega)).mono ?_
      rintro _ F3 ⟨rfl, hs4⟩
      refine ⟨_, rfl, le_cell hs4.bd.le he0.c5, ?_⟩
      obtain ⟨bd4, n94, ne4, o9, m9, hm9, hmo9, hok9⟩ := hs4
      have hnl : num (vis (p.res fun i => lo v (t i)) S) (p.res fun i => lo v (t i)) = num (vis (p.res fun i => hi v (t i)) (vis (p.res fun i => lo v (t i)) S)) (p.res fun i => lo v (t i)) := by
        rw [c3, num_append a2]
      rw [hnl]
      have hil : inn (vis (p.res fun i => hi v (t i)) (vis (p.res fun i => lo v (t i)) S)) (p.res fun i => lo v (t i)) := by rw [c3]; exact inn_append a2
      have hnb : p.bb ≠ p.b9 := fun e => by
        obtain ⟨_, _, _, _, ⟨s, h5, _⟩, _⟩ := bd4
        obtain ⟨es, c, L, rfl, _⟩ := hmo9
        rw [e, hm9] at h5
        cases h5
      have bd4' : BD (E0.set p.b9 o9) F3 p.bb p.mm (vis (p.res fun i => hi v (t i)) (vis (p.res fun i => lo v (t i)) S)) := by
        obtain ⟨k1, k2, k3, k4, ⟨s, k5, k6, k7⟩, k8⟩ := bd4
        refine ⟨fun x ob hx => ?_, k2, by rw [set_ne _ _ hnb]; exact k3, by rw [set_ne _ _ ne4]; exact k4, ⟨s, k5, k6, fun a ha => ?_⟩, k8⟩
        · by_cases hxb : x = p.b9
          · subst hxb; rw [set_eq] at hx; rw [hm9]; exact hx
          · rw [set_ne _ _ hxb] at hx; exact k1 _ _ hx
        · rw [set_ne _ _ (fun e => ?_)]
          · exact k7 a ha
          · obtain ⟨cur, hcur⟩ := k6.elem ha
            obtain ⟨es, c, L, rfl, _⟩ := hmo9
            rw [e, hm9] at hcur
            cases hcur
      refine (branch_spec bd4' hil c2 ⟨D.lt, D.tl, D.th⟩ (by omega)).mono ?_
      rintro _ F4 ⟨rfl, bd5⟩
      rw [← D.res, hadd] at bd5 ⊢
      have hm5 : F4 p.b9 = some o9 := bd5.le _ _ (set_eq _ _ _)
      have h65 : F4 n6 = some (.cells (arr3 (p.key t)) 114) := by
        have hne6 : n6 ≠ p.b9 := fun e => by
          rw [e, hs.n9] at h6; cases h6
        exact bd5.le _ _ (by rw [set_ne _ _ hne6]; exact l0 _ _ h6)
      have bd6 : BD E0 F4 p.bb p.mm (vis (p.res t) S) := bd5.weaken (le_set_new PH.le_rfl n94)
      refine ⟨_, rfl, _, le_cell bd6.le he0.c6, arr3 (p.key t), rfl, row_whole h65, ?_⟩
      refine runs_mapUpdate mt3 hm5 hmo9 (p.key t) _ fun o' ho' => ?_
      refine hR _ ?_
      refine AS.weaken ?_ l0
      have hinT : inn (vis (p.res t) S) (p.res t) := by
        have hokT : (p.res t).ok := by rw [D.res]; exact ok_mk D.lt D.tl D.th D.ol D.oh
        exact (vis_facts _ S hokT hcl).2.1
      refine ⟨bd6.other n94 hnb ne4 (fun c e fr h => ?_), n94, ne4, o', _, set_eq _ _ _, ho', ?_⟩
      · obtain ⟨es, c, L, rfl, _⟩ := hmo9
        rw [hm5] at h
        cases h
      · intro k w hkw
        dsimp only at hkw
        by_cases hk : k = p.key t
        · rw [if_pos hk] at hkw
          exact ⟨t, ht, hk, hinT, (Option.some.inj hkw).symm⟩
        · rw [if_neg hk] at hkw
          obtain ⟨u, u1, u2, u3, u4⟩ := hok9 k w hkw
          refine ⟨u, u1, u2, ?_, ?_⟩
          · rw [← hadd]
            unfold addT
            split
            · exact u3
            · exact inn_append u3
          · rw [u4, ← hadd]
            unfold addT
            split
            · rfl
            · rw [num_append u3]
theorem at_spec (hf : AF p) : ∀ (n : Nat) (t : Nat → Tr), szs t ≤ n → p.inK t → AtSpec p t := by
  intro n
  induction n with
  | zero => intro t hn; have := sz_pos (t 0); unfold szs at hn; omega
  | succ n ih =>
    intro t hn ht F0 F S he hs hfit
    show Spec prog 97 #[.agg (arr3 (p.key t)), _, _, _, _, _] F _
    refine c97 ?_
    unfold b97
    intro n6 hn6
    refine atI ?_
    have hle := hs.bd.le
    have f6 : F0 n6 = none := le_none hle hn6
    have hs1 := hs.grow (F := F.set n6 (.cells (arr3 (p.key t)) 114)) (le_set_fresh _ hn6) hn6 (set_eq _ _ _)
    have l0 : F0.le (F0.set n6 (.cells (arr3 (p.key t)) 114)) := le_set_fresh _ f6
    have he1 := he.le l0
    have h6 := set_eq F0 n6 (.cells (arr3 (p.key t)) 114)
    generalize F0.set n6 (.cells (arr3 (p.key t)) 114) = E0 at *
    generalize F.set n6 (.cells (arr3 (p.key t)) 114) = F1 at *
    have h6' := hs1.bd.le _ _ h6
    have rest : ¬ ((t 0).isL = true ∧ (t 1).isL = true ∧ (t 2).isL = true) → b97j1 (some ⟨p.b3, 0, none⟩) (some ⟨p.b6, 0, none⟩) (some ⟨p.b2, 0, none⟩) (some ⟨p.b7, 0, none⟩) (some ⟨p.b5, 0, none⟩) n6 false
        (fun r F' => r = vi (num (vis (p.res t) S) (p.res t)) ∧ AS F0 F' p (vis (p.res t) S)) F1 := fun hn' =>
      at_rest hf ht (fun u hu hlt => ih u (by omega) hu) he1 hs1 h6 hfit hn' fun F' h => ⟨rfl, h.weaken l0⟩
    refine ⟨by omega, by omega, _, by simp only [add_mk]; rw [cell_eq h6']; rfl, fun h0 => ?_, fun h0 => ?_⟩
    · refine ⟨by omega, by omega, _, by simp only [add_mk]; rw [cell_eq h6']; rfl, fun h1 => ?_, fun h1 => ?_⟩
      · refine ⟨by omega, by omega, _, by simp only [add_mk]; rw [cell_eq h6']; rfl, ?_⟩
        have k0 := numI_lt2.1 h0
        have k1 := numI_lt2.1 h1
        by_cases h2 : (t 2).isL = true
        · have e : decide ((p.key t).2.2 < 2) = true := decide_eq_true (numI_lt2.2 h2)
          rw [e]
          have hl : (p.res t).isL = true := by
            unfold AP.res
            generalize t 0 = x0 at *
            generalize t 1 = x1 at *
            generalize t 2 = x2 at *
            cases x0 with
            | node _ _ _ => cases k0
            | leaf a =>
              cases x1 with
              | node _ _ _ => cases k1
              | leaf b =>
                cases x2 with
                | node _ _ _ => cases h2
                | leaf c => rw [ap_leaf]; rfl
          have hvi : vis (p.res t) S = S := vis_inn (.inl hl)
          rw [hvi]
          exact at_leaf he1 hs1 h6 k0 k1 h2 fun F' h => ⟨rfl, (hs1.upto h).weaken l0⟩
        · have e : decide ((p.key t).2.2 < 2) = false := decide_eq_false (fun h => h2 (numI_lt2.1 h))
          rw [e]
          exact rest fun hc => h2 hc.2.2
      · exact rest fun hc => h1 (numI_lt2.2 hc.2.1)
    · exact rest fun hc => h0 (numI_lt2.2 hc.1)
end
/-! how many branches the result of an operation has -/
def subsL (t : Tr) : List Tr := leaf false :: leaf true :: subs t
theorem inn_subsL {t x : Tr} (h : inn (subs t) x) : x ∈ subsL t := by
  unfold subsL
  cases x with
  | leaf b => cases b <;> simp
  | node v l r => simp [inn_mem h rfl]
noncomputable def apL (o : Op3) (a b d : Tr) : List Tr := (subsL a).flatMap fun x => (subsL b).flatMap fun y => (subsL d).map fun z => ap o x y z
theorem apL_length (o : Op3) (a b d : Tr) : (apL o a b d).length = ((subs a).length + 2) * (((subs b).length + 2) * ((subs d).length + 2)) := by
  unfold apL
  simp only [List.length_flatMap, List.length_map, List.map_const', List.sum_replicate_nat]
  simp [subsL]
theorem vis_ap {o : Op3} {a b d : Tr} (ha : a.ok) (hb : b.ok) (hd : d.ok) : ∀ (n : Nat) (x y z : Tr) (S : List Tr), x.sz + y.sz + z.sz ≤ n → inn (subs a) x → inn (subs b) y → inn (subs d) z → Cl S →
    ∀ u ∈ vis (ap o x y z) S, u ∈ S ∨ u ∈ apL o a b d := by
  intro n
  induction n with
  | zero => intro x y z S hn; have := sz_pos x; omega
  | succ n ih =>
    intro x y z S hn hx hy hz hS u hu
    have kx := (subs_cl ha).inn_ok hx
    have ky := (subs_cl hb).inn_ok hy
    have kz := (subs_cl hd).inn_ok hz
    have hmem : ap o x y z ∈ apL o a b d := List.mem_flatMap.2 ⟨x, inn_subsL hx, List.mem_flatMap.2 ⟨y, inn_subsL hy, List.mem_map.2 ⟨z, inn_subsL hz, rfl⟩⟩⟩
    by_cases hv : top3 x y z < 64
    · have hst := ap_step (o := o) kx ky kz hv
      have v1 : top3 x y z ≤ x.top := by unfold top3; omega
      have v2 : top3 x y z ≤ y.top := by unfold top3; omega
      have v3 : top3 x y z ≤ z.top := by unfold top3; omega
      have hcase : top3 x y z = x.top ∨ top3 x y z = y.top ∨ top3 x y z = z.top := by unfold top3; omega
      generalize top3 x y z = v at *
      have nl : ∀ {t : Tr}, v = t.top → t.isL = false := fun {t} e => by
        cases t with
        | leaf b => simp only [top] at e; omega
        | node _ _ _ => rfl
      obtain ⟨al1, al2, al3, al4, al5⟩ := lo_facts kx v1
      obtain ⟨bl1, bl2, bl3, bl4, bl5⟩ := lo_facts ky v2
      obtain ⟨dl1, dl2, dl3, dl4, dl5⟩ := lo_facts kz v3
      obtain ⟨ah1, ah2, ah3, ah4, ah5⟩ := hi_facts kx v1
      obtain ⟨bh1, bh2, bh3, bh4, bh5⟩ := hi_facts ky v2
      obtain ⟨dh1, dh2, dh3, dh4, dh5⟩ := hi_facts kz v3
      have hsl : (lo v x).sz + (lo v y).sz + (lo v z).sz ≤ n := by
        rcases hcase with e | e | e
        · have := al4 e.symm (nl e); omega
        · have := bl4 e.symm (nl e); omega
        · have := dl4 e.symm (nl e); omega
      have hsh : (hi v x).sz + (hi v y).sz + (hi v z).sz ≤ n := by
        rcases hcase with e | e | e
        · have := ah4 e.symm (nl e); omega
        · have := bh4 e.symm (nl e); omega
        · have := dh4 e.symm (nl e); omega
      obtain ⟨l1, l2, l3⟩ := ap_facts (o := o) al1 bl1 dl1
      obtain ⟨g1, g2, g3⟩ := ap_facts (o := o) ah1 bh1 dh1
      have l2' : v < (ap o (lo v x) (lo v y) (lo v z)).top := by have := al2 hv; have := bl2 hv; have := dl2 hv; unfold top3 at l2; omega
      have g2' : v < (ap o (hi v x) (hi v y) (hi v z)).top := by have := ah2 hv; have := bh2 hv; have := dh2 hv; unfold top3 at g2; omega
      have hadd := addT_vis hS (v := v) ⟨hv, l2', g2', l1, g1⟩
      rw [← hst] at hadd
      rw [← hadd] at hu
      have c1 := (vis_facts _ S l1 hS).1
      have key : u ∈ vis (ap o (hi v x) (hi v y) (hi v z)) (vis (ap o (lo v x) (lo v y) (lo v z)) S) → u ∈ S ∨ u ∈ apL o a b d := fun hu => by
        rcases ih _ _ _ _ hsh ((subs_cl ha).inn_hi hx v) ((subs_cl hb).inn_hi hy v) ((subs_cl hd).inn_hi hz v) c1 u hu with h | h
        · exact ih _ _ _ _ hsl ((subs_cl ha).inn_lo hx v) ((subs_cl hb).inn_lo hy v) ((subs_cl hd).inn_lo hz v) hS u h
        · exact .inr h
      unfold addT at hu
      split at hu
      · exact key hu
      · rcases List.mem_append.1 hu with hu | hu
        · exact key hu
        · rw [List.mem_singleton.1 hu]
          exact .inr hmem
    · have isl : ∀ {t : Tr}, t.ok → 64 ≤ t.top → ∃ b, t = leaf b := fun {t} ht h64 => leaf_of_top ht h64
      unfold top3 at hv
      obtain ⟨p, rfl⟩ := isl kx (by omega)
      obtain ⟨q, rfl⟩ := isl ky (by omega)
      obtain ⟨r, rfl⟩ := isl kz (by omega)
      rw [ap_leaf] at hu
      exact .inl hu
theorem ap_length {o : Op3} {a b d : Tr} (ha : a.ok) (hb : b.ok) (hd : d.ok) : (subs (ap o a b d)).length ≤ ((subs a).length + 2) * (((subs b).length + 2) * ((subs d).length + 2)) := by
  rw [← apL_length o a b d]
  refine nodup_length _ _ (subs_cl (ap_ok ha hb hd)).nodup fun x hx => ?_
  rcases vis_ap ha hb hd _ a b d [] (Nat.le_refl _) (subs_inn ha) (subs_inn hb) (subs_inn hd) .nil x hx with h | h
  · cases h
  · exact h

/-! combine -/
def pick3 {α : Type} (a b c : α) : Nat → α
  | 0 => a
  | 1 => b
  | _ => c

/-- A result is stored and returned. -/
theorem ret2 {F : PH} {b e1 : Nat} {c4 : Array Value} {K : Array Value → PH → Prop} {G : PH} {d : Dia} {cs : Array Value} (hd : DV G cs d) (h4 : F b = some (.cells c4 e1 (0, 0))) (hc4 : c4.size = 2) (hk : K cs (F.set b (.cells cs e1))) :
    cs.size = 2 ∧ (∀ v ∈ cs.toList, storable v) ∧ ∃ c e, F (Addr.mk b 0 none).block = some (.cells c e (0, 0)) ∧ (Addr.mk b 0 none).spot = none ∧ (Addr.mk b 0 none).off + 2 ≤ c.size ∧
      atF (F.set (Addr.mk b 0 none).block (.cells (wr c (Addr.mk b 0 none).off cs.toList) e)) fun F => ∃ vres : Array Value, vres.size = 2 ∧ F.row (Addr.mk b 0 none) vres ∧ K vres F :=
  stW h4 hd.size hc4 hd.st ⟨cs, hd.size, row_whole (set_eq _ _ _), hk⟩

theorem OpV.cells {F : PH} {v : Value} {o : Op3} (h : OpV F v o) : v.cells = #[v] := by
  obtain ⟨k, f, c, rfl, _⟩ := h
  rfl

/-- F without a block. -/
def del1 (F : PH) (a : Nat) : PH := fun x => if x = a then none else F x
theorem del1_le (F : PH) (a : Nat) : (del1 F a).le F := fun x o h => by
  unfold del1 at h
  split at h
  · cases h
  · exact h
theorem del1_of {F : PH} {a x : Nat} (h : x ≠ a) : del1 F a x = F x := by simp [del1, h]
theorem del1_1 (F : PH) (a : Nat) : del1 F a a = none := by simp [del1]
theorem le_del1 {F G : PH} {a : Nat} (h : F.le G) (ha : F a = none) : F.le (del1 G a) := fun x o hx => by
  have h1 : x ≠ a := fun e => by rw [e, ha] at hx; cases hx
  rw [del1_of h1]
  exact h _ _ hx
/-- A call that does not know a block. -/
theorem Spec.avoid {P : Program} {f : FuncId} {args : Array Value} {F : PH} {x : Nat} {o : Obj} {R : Value → PH → Prop} (h : Spec P f args (del1 F x) R) (hx : F x = some o) :
    Spec P f args F fun v F' => ∃ G, R v G ∧ G.le F' ∧ F' x = some o ∧ G x = none :=
  (h.upon (del1_le F x)).mono fun v F' ⟨G, hr, hl, hb⟩ => by
    obtain ⟨h1, h2⟩ := hb x o (del1_1 F x) hx
    exact ⟨G, hr, hl, h1, h2⟩
theorem le_avoid {F G F' : PH} {x : Nat} {o : Obj} (h : (del1 F x).le G) (hl : G.le F') (hx : F' x = some o) (hF : F x = some o) : F.le F' := fun b ob hb => by
  by_cases hbx : b = x
  · subst hbx
    rw [hF] at hb
    rw [hx]
    exact hb
  · exact hl _ _ (h _ _ (by rw [del1_of hbx]; exact hb))

section
variable {F : PH} {s0 s1 s2 : Sl} {t0 t1 t2 : Tr} {opv : Value} {o : Op3}
theorem combine_spec (h0 : RdS F s0 3 (bflat (dia t0).1)) (h1 : RdS F s1 3 (bflat (dia t1).1)) (h2 : RdS F s2 3 (bflat (dia t2).1)) (k0 : t0.ok) (k1 : t1.ok) (k2 : t2.ok)
    (f0 : Fit ((subs t0).length + 2)) (f1 : Fit ((subs t1).length + 2)) (f2 : Fit ((subs t2).length + 2)) (hf : Fit ((subs (ap o t0 t1 t2)).length + 4)) (hop : OpV F opv o) :
    Spec prog 70 #[.agg #[s0.v, vi (dia t0).2, s1.v, vi (dia t1).2, s2.v, vi (dia t2).2], opv] F fun r F' => ∃ w, r = .agg w ∧ DV F' w (dia (ap o t0 t1 t2)) ∧ F.le F' := by
  refine c70 ?_
  unfold b70
  intro b2 hb2
  refine atI ?_
  have l2 := le_set_fresh (.cells #[s0.v, vi (dia t0).2, s1.v, vi (dia t1).2, s2.v, vi (dia t2).2] 89) hb2
  have q2 := set_eq F b2 (.cells #[s0.v, vi (dia t0).2, s1.v, vi (dia t1).2, s2.v, vi (dia t2).2] 89)
  generalize F.set b2 (.cells #[s0.v, vi (dia t0).2, s1.v, vi (dia t1).2, s2.v, vi (dia t2).2] 89) = F2 at *
  refine ⟨hop.cells, fun b3 hb3 => ?_⟩
  refine atI ?_
  have lx := le_set_fresh (.cells #[opv] 90) hb3
  have q3 := set_eq F2 b3 (.cells #[opv] 90)
  replace q2 := lx _ _ q2
  have l3 := l2.trans lx
  clear lx
  generalize F2.set b3 (.cells #[opv] 90) = F3 at *
  intro b4 hb4
  refine atI ?_
  have f4 : F b4 = none := le_none l3 hb4
  have lx := le_set_fresh (.cells #[Value.slice none 0 0, Value.int .i64 0] 28) hb4
  have q4 := set_eq F3 b4 (.cells #[Value.slice none 0 0, Value.int .i64 0] 28)
  replace q2 := lx _ _ q2
  replace q3 := lx _ _ q3
  have l4 := l3.trans lx
  clear lx
  generalize F3.set b4 (.cells #[Value.slice none 0 0, Value.int .i64 0] 28) = F4 at *
  refine (newBuilder_spec F4).mono ?_
  rintro _ G ⟨bb, mm, rfl, hne, bd⟩
  refine ⟨_, rfl, ?_⟩
  intro b5 hb5
  refine atI ?_
  refine st1 (set_eq _ _ _) (by simp) ?_
  rw [set_twice, show (#[Value.pointer none].setIfInBounds (Addr.mk b5 0 none).off (Value.pointer (some ⟨bb, 0, none⟩)) : Array Value) = #[Value.pointer (some ⟨bb, 0, none⟩)] from rfl]
  have g5 : F4 b5 = none := le_none bd.le hb5
  have bd5 := bd.grow (F := G.set b5 (.cells #[Value.pointer (some ⟨bb, 0, none⟩)] 81)) (le_set_fresh _ hb5) hb5 (set_eq _ _ _)
  have e5 := set_eq F4 b5 (.cells #[Value.pointer (some ⟨bb, 0, none⟩)] 81)
  have l5 := le_set_fresh (.cells #[Value.pointer (some ⟨bb, 0, none⟩)] 81) g5
  generalize F4.set b5 (.cells #[Value.pointer (some ⟨bb, 0, none⟩)] 81) = E5 at *
  generalize G.set b5 (.cells #[Value.pointer (some ⟨bb, 0, none⟩)] 81) = G5 at *
  intro b9 hb9
  refine atI ?_
  have bd9 := bd5.upto (le_set_fresh (.map #[] 0) hb9)
  have g9 : E5 b9 = none := le_none bd5.le hb9
  have hmo := MapO.empty enc3
  have e9 := set_eq G5 b9 (.map #[] 0)
  have hnm : mm ≠ b9 := by
    obtain ⟨om, hom, _⟩ := bd5.map
    exact ne_of_fresh hb9 hom
  generalize G5.set b9 (.map #[] 0) = G9 at *
  intro b6 hb6
  refine atI ?_
  refine st1 (set_eq _ _ _) (by simp) ?_
  rw [set_twice, show (#[Value.map none].setIfInBounds (Addr.mk b6 0 none).off (Value.map (some b9)) : Array Value) = #[Value.map (some b9)] from rfl]
  intro b7 hb7
  refine atI ?_
  refine st1 (set_eq _ _ _) (by simp) ?_
  rw [set_twice]
  let p : AP := ⟨b3, b6, b2, b7, b5, bb, mm, b9, opv, o, pick3 (dia t0) (dia t1) (dia t2), pick3 (subs t0) (subs t1) (subs t2)⟩
  have hs0 : AS E5 G9 p [] := ⟨bd9, g9, hnm, _, _, e9, hmo, fun k v hkv => by cases hkv⟩
  have hs1 := hs0.grow (F := G9.set b6 (.cells #[Value.map (some b9)] 112)) (le_set_fresh _ hb6) hb6 (set_eq _ _ _)
  have hs2 := hs1.grow (F := (G9.set b6 (.cells #[Value.map (some b9)] 112)).set b7 (.cells #[.func (.func 97) #[] p.caps] 113)) (le_set_fresh _ hb7) hb7 (set_eq _ _ _)
  have g6 : E5 b6 = none := le_none bd9.le hb6
  have g7 : (E5.set b6 (.cells #[Value.map (some b9)] 112)) b7 = none := le_none hs1.bd.le hb7
  have l6 := le_set_fresh (.cells #[Value.map (some b9)] 112) g6
  have l7 := le_set_fresh (.cells #[.func (.func 97) #[] p.caps] 113) g7
  have e6 := l7 _ _ (set_eq E5 b6 (.cells #[Value.map (some b9)] 112))
  have e7 := set_eq (E5.set b6 (.cells #[Value.map (some b9)] 112)) b7 (.cells #[.func (.func 97) #[] p.caps] 113)
  have lE : F4.le ((E5.set b6 (.cells #[Value.map (some b9)] 112)).set b7 (.cells #[.func (.func 97) #[] p.caps] 113)) := l5.trans (l6.trans l7)
  replace e5 := (l6.trans l7) _ _ e5
  rw [show (#[Value.nilFunc].setIfInBounds 0 (Value.func (.func 97) #[] #[.pointer (some ⟨b3, 0, none⟩), .pointer (some ⟨b6, 0, none⟩), .pointer (some ⟨b2, 0, none⟩), .pointer (some ⟨b7, 0, none⟩), .pointer (some ⟨b5, 0, none⟩)]) : Array Value) = #[.func (.func 97) #[] p.caps] from rfl]
  generalize (E5.set b6 (.cells #[Value.map (some b9)] 112)).set b7 (.cells #[.func (.func 97) #[] p.caps] 113) = E7 at *
  generalize (G9.set b6 (.cells #[Value.map (some b9)] 112)).set b7 (.cells #[.func (.func 97) #[] p.caps] 113) = G7 at *
  have lF := l4.trans lE
  have he : AE E7 p := by
    refine ⟨?_, ?_, fun i hi => ?_, ?_, ?_, hop.le lF⟩
    · show E7.cell ⟨b3, 0, none⟩ = some opv
      rw [cell_eq (lE _ _ q3)]; rfl
    · show E7.cell ⟨b6, 0, none⟩ = some _
      rw [cell_eq e6]; rfl
    · have row : ∀ (j : Nat) (s : Sl) (r : Int), (#[s0.v, vi (dia t0).2, s1.v, vi (dia t1).2, s2.v, vi (dia t2).2] : Array Value)[j]? = some s.v → (#[s0.v, vi (dia t0).2, s1.v, vi (dia t1).2, s2.v, vi (dia t2).2] : Array Value)[j + 1]? = some (vi r) →
          E7.row ⟨b2, j, none⟩ #[s.v, vi r] := fun j s r h1 h2 i hi => by
        simp only [add_mk]
        rw [cell_eq (lE _ _ q2)]
        match i, hi with
        | 0, _ => simpa using h1
        | 1, _ => simpa using h2
      match i, hi with
      | 0, _ => exact ⟨_, row 0 s0 _ rfl rfl, s0, rfl, h0.le lF⟩
      | 1, _ => exact ⟨_, row 2 s1 _ rfl rfl, s1, rfl, h1.le lF⟩
      | 2, _ => exact ⟨_, row 4 s2 _ rfl rfl, s2, rfl, h2.le lF⟩
    · show E7.cell ⟨b7, 0, none⟩ = some _
      rw [cell_eq e7]; rfl
    · show E7.cell ⟨b5, 0, none⟩ = some _
      rw [cell_eq e5]; rfl
  have hfa : AF p := by
    refine ⟨fun i hi => ?_, fun i hi => ?_, fun i hi => ?_⟩
    · match i, hi with
      | 0, _ => exact subs_cl k0
      | 1, _ => exact subs_cl k1
      | 2, _ => exact subs_cl k2
    · match i, hi with
      | 0, _ => exact List.prefix_refl _
      | 1, _ => exact List.prefix_refl _
      | 2, _ => exact List.prefix_refl _
    · match i, hi with
      | 0, _ => show Fit ((brs (subs t0)).length + 2); rw [brs_length]; exact f0
      | 1, _ => show Fit ((brs (subs t1)).length + 2); rw [brs_length]; exact f1
      | 2, _ => show Fit ((brs (subs t2)).length + 2); rw [brs_length]; exact f2
  have q2' := hs2.bd.le _ _ (lE _ _ q2)
  refine ⟨_, le_cell hs2.bd.le he.c5, _, le_cell hs2.bd.le he.c7, by omega, by omega, (dia t0).2, by simp only [add_mk]; rw [cell_eq q2']; rfl, by omega, by omega, (dia t1).2, by simp only [add_mk]; rw [cell_eq q2']; rfl,
    by omega, by omega, (dia t2).2, by simp only [add_mk]; rw [cell_eq q2']; rfl, _, _, _, rfl, cb97, ?_⟩
  have hres : p.res (pick3 t0 t1 t2) = ap o t0 t1 t2 := rfl
  have hat := at_spec hfa _ (pick3 t0 t1 t2) (Nat.le_refl _) ⟨subs_inn k0, subs_inn k1, subs_inn k2⟩ E7 G7 [] he hs2 (by rw [hres]; exact hf)
  rw [hres] at hat
  refine hat.mono ?_
  rintro _ F5 ⟨rfl, hs3⟩
  have q2'' := hs3.bd.le _ _ (lE _ _ q2)
  refine ⟨_, rfl, by simp only [add_mk]; rw [cell_eq q2'']; rfl, by simp only [add_mk]; rw [cell_eq q2'']; rfl, by simp only [add_mk]; rw [cell_eq q2'']; rfl, le_cell hs3.bd.le he.c5, ?_⟩
  have hkT := ap_ok (o := o) k0 k1 k2
  obtain ⟨_, hcl, _, _, ⟨sb, hbb, hob, _⟩, _⟩ := hs3.bd
  have hle3 := hs3.bd.le
  clear hs3
  have ev : vis (ap o t0 t1 t2) [] = subs (ap o t0 t1 t2) := rfl
  rw [ev] at *
  have h45 := hle3 _ _ (lE _ _ q4)
  replace hbb : F5 bb = some (.cells #[sb.v, Value.map (some mm)] 84) := hbb
  have nbb : bb ≠ b4 := fun e => by rw [e, h45] at hbb; simp at hbb
  have hob' : OwnS (del1 F5 b4) 72 3 sb (bflat (brs (subs (ap o t0 t1 t2)))) := hob.keep fun a ha => by
    obtain ⟨cur, hcur⟩ := hob.elem ha
    refine del1_of (fun e => ?_)
    rw [e, h45] at hcur
    cases hcur
  refine (Spec.avoid (diagram_spec (b := bb) (F := del1 F5 b4) (ns := sb) (by rw [cell_eq ((del1_of nbb).trans hbb)]; rfl) hob'.rd hcl (subs_inn hkT) hf) h45).mono ?_
  rintro _ F6 ⟨G6, ⟨w, rfl, hw, l6'⟩, lg, h46, hg4⟩
  have l56 := le_avoid l6' lg h46 h45
  have q2f := l56 _ _ q2''
  refine ⟨_, rfl, by simp only [add_mk]; rw [cell_eq q2f]; rfl, by simp only [add_mk]; rw [cell_eq q2f]; rfl, by simp only [add_mk]; rw [cell_eq q2f]; rfl, ?_⟩
  exact ret2 (K := fun vres F' => ∃ w, Value.agg vres = .agg w ∧ DV F' w (dia (ap o t0 t1 t2)) ∧ F.le F') hw h46 rfl ⟨w, rfl, hw.le (le_set_new lg hg4), le_set_new (lF.trans (hle3.trans l56)) f4⟩
end
abbrev none0 : Dia := ([], 0)
/-- A diagram and an error. -/
abbrev DR := Dia × Int
noncomputable def chkL : List Dia → Int
  | [] => 0
  | d :: r => if chk d ≠ 0 then chk d else chkL r
open Classical in
noncomputable def tre (d : Dia) : Tr := if h : Valid d then h.choose else leaf false
theorem tre_dia {t : Tr} (h : t.ok) : tre (dia t) = t := by
  have hv : Valid (dia t) := ⟨t, h, rfl⟩
  unfold tre
  rw [dif_pos hv]
  exact (dia_inj h hv.choose_spec.1 hv.choose_spec.2).symm
theorem chk0 {d : Dia} (h : chk d = 0) : (tre d).ok ∧ d = dia (tre d) ∧ d.1.length ≤ 4096 := by
  unfold chk at h
  split at h
  · cases h
  · rename_i hl
    split at h
    · rename_i hv
      unfold tre
      rw [dif_pos hv]
      exact ⟨hv.choose_spec.1, hv.choose_spec.2, by omega⟩
    · cases h
theorem chk_dia {t : Tr} (h : t.ok) (hl : (subs t).length ≤ 4096) : chk (dia t) = 0 := by
  unfold chk
  rw [if_neg (by simp only [dia, brs_length]; omega), if_pos ⟨t, h, rfl⟩]
theorem subs_tre {d : Dia} (h : chk d = 0) : (subs (tre d)).length ≤ 4096 := by
  obtain ⟨_, h2, h3⟩ := chk0 h
  rw [h2] at h3
  simpa [dia, brs_length] using h3
def lim (d : Dia) : DR := if 4096 < d.1.length then (none0, 2) else (d, 0)
abbrev Op2 := Bool → Bool → Bool
noncomputable def bin (o : Op2) (a b : Dia) : DR := if chkL [a, b] ≠ 0 then (none0, chkL [a, b]) else lim (dia (ap (fun x y _ => o x y) (tre a) (tre b) (leaf false)))
noncomputable def cho (c a b : Dia) : DR := if chkL [c, a, b] ≠ 0 then (none0, chkL [c, a, b]) else lim (dia (ap (fun x y z => x && y || !x && z) (tre c) (tre a) (tre b)))

def DRV (F : PH) (v : Value) (x : DR) : Prop := ∃ w, v = .tuple #[.agg w, vi x.2] ∧ DV F w x.1
theorem DRV.le {F G : PH} {v : Value} {x : DR} (h : DRV F v x) (hl : F.le G) : DRV G v x := by
  obtain ⟨w, h1, h2⟩ := h
  exact ⟨w, h1, h2.le hl⟩
theorem DV.none (F : PH) : DV F #[Value.slice none 0 0, Value.int .i64 0] none0 := ⟨Sl.nil, rfl, RdS.nil F 3⟩

theorem checkL_spec {F : PH} {x : Nat} {dd : List Dia} {n : Nat} (hn : n = dd.length) (hs : n ≤ 100) (h : ∀ i (hi : i < dd.length), ∃ w, F.row ⟨x, i * 2, none⟩ w ∧ DV F w dd[i]) :
    Spec prog 68 #[(Sl.mk (some ⟨x, 0, none⟩) n n).v] F fun r F' => r = vi (chkL dd) ∧ F.le F' := by
  subst hn
  refine c68 ?_
  unfold b68
  refine ⟨fun m i F' => ∃ k : Nat, i = k ∧ k ≤ dd.length ∧ m = dd.length - k ∧ F.le F' ∧ chkL dd = chkL (dd.drop k), dd.length, ⟨0, rfl, by omega, rfl, PH.le_rfl, rfl⟩, ?_⟩
  rintro m i F1 ⟨k, rfl, hk, rfl, hle, hch⟩
  unfold b68L1
  refine ⟨fun hlt => ?_, fun hge => ?_⟩
  · have hkd : k < dd.length := by simpa using hlt
    obtain ⟨w, hr, hd⟩ := h k hkd
    refine ⟨_, rfl, by omega, hlt, w, hd.size, by simpa using row_le hle hr, ?_⟩
    intro b4 hb4
    refine atI ?_
    refine stW (set_eq _ _ _) hd.size rfl hd.st ?_
    rw [set_twice]
    have l4 := le_set_fresh (.cells w 28) hb4
    refine ⟨w, hd.size, row_whole (set_eq _ _ _), ?_⟩
    refine (check_spec (hd.le (hle.trans l4))).mono ?_
    rintro _ F2 ⟨rfl, l5⟩
    rw [List.drop_eq_getElem_cons hkd] at hch
    refine ⟨_, rfl, fun hne => ?_, fun he => ?_⟩
    · refine ⟨?_, (hle.trans l4).trans l5⟩
      rw [hch]
      unfold chkL
      rw [if_pos hne]
    · refine ⟨dd.length - (k + 1), by omega, k + 1, w64s (by omega), by omega, rfl, (hle.trans l4).trans l5, ?_⟩
      rw [hch]
      conv => lhs; unfold chkL
      rw [if_neg he]
  · unfold b68j1
    have hk' : k = dd.length := by
      have : ¬ k < dd.length := by simpa using hge
      omega
    refine ⟨?_, hle⟩
    rw [hch, hk', List.drop_length]
    rfl

theorem limited_spec {F : PH} {v : Array Value} {d : Dia} (hd : DV F v d) : Spec prog 69 #[.agg v] F fun r F' => DRV F' r (lim d) ∧ F.le F' := by
  have hd' := hd
  obtain ⟨s, rfl, hr⟩ := hd
  have hlen := hr.blen
  refine c69 ?_
  unfold b69
  intro b1 hb1
  refine atI ?_
  have l1 := le_set_fresh (.cells #[s.v, vi d.2] 28) hb1
  have h1 := set_eq F b1 (.cells #[s.v, vi d.2] 28)
  generalize F.set b1 (.cells #[s.v, vi d.2] 28) = F1 at *
  intro b2 hb2
  refine atI ?_
  have l2 := l1.trans (le_set_fresh (.cells #[Value.slice none 0 0, Value.int .i64 0] 28) hb2)
  have n12 : b1 ≠ b2 := ne_of_fresh hb2 h1
  have f2 : F b2 = none := le_none l1 hb2
  refine ⟨s, by rw [cell_eq ((set_ne _ _ n12).trans h1)]; rfl, fun h => ?_, fun h => ?_⟩
  · refine ret2 (K := fun vres F' => DRV F' (.tuple #[.agg vres, vi 2]) (lim d) ∧ F.le F') (DV.none F) (set_eq _ _ _) rfl ⟨?_, le_set_new l2 f2⟩
    unfold lim
    rw [if_pos (by omega)]
    exact ⟨_, rfl, DV.none _⟩
  · refine ⟨#[s.v, vi d.2], rfl, row_whole ((set_ne _ _ n12).trans h1), ?_⟩
    refine ret2 (K := fun vres F' => DRV F' (.tuple #[.agg vres, vi 0]) (lim d) ∧ F.le F') hd' (set_eq _ _ _) rfl ⟨?_, le_set_new l2 f2⟩
    unfold lim
    rw [if_neg (by omega)]
    exact ⟨_, rfl, hd'.le (le_set_new l2 f2)⟩

/-! two diagrams -/
def OpV2 (F0 : PH) (v : Value) (o : Op2) : Prop := ∃ (k : Nat) (fst cap : Array Value), v = .func (.func k) fst cap ∧ callableB prog k = true ∧
  ∀ (x y : Bool) (F : PH), F0.le F → Spec prog k (fst ++ [Value.bool x, Value.bool y].toArray ++ cap) F fun r F' => r = .bool (o x y) ∧ F.le F'
theorem cb94 : callableB prog 94 = true := by kernel_rfl
theorem opv_of2 {F0 : PH} {b : Nat} {v : Value} {o : Op2} (hb : F0.cell ⟨b, 0, none⟩ = some v) (h : OpV2 F0 v o) : OpV F0 (.func (.func 94) #[] #[.pointer (some ⟨b, 0, none⟩)]) (fun x y _ => o x y) := by
  refine ⟨94, #[], #[.pointer (some ⟨b, 0, none⟩)], rfl, cb94, fun x y z F hle => ?_⟩
  obtain ⟨k, fst, cap, rfl, hcb, hsp⟩ := h
  refine c94 ?_
  unfold b94
  refine ⟨_, rfl, _, le_cell hle hb, k, fst, cap, rfl, hcb, ?_⟩
  refine (hsp x y F hle).mono ?_
  rintro _ F' ⟨rfl, hl⟩
  exact ⟨_, rfl, rfl, hl⟩

theorem prod_fit {a b c : Nat} (ha : a ≤ 4096) (hb : b ≤ 4096) (hc : c ≤ 4096) : (a + 2) * ((b + 2) * (c + 2)) ≤ 68820189192 := by
  calc (a + 2) * ((b + 2) * (c + 2)) ≤ 4098 * (4098 * 4098) := Nat.mul_le_mul (by omega) (Nat.mul_le_mul (by omega) (by omega))
    _ ≤ 68820189192 := by decide
theorem chkL2 {a b : Dia} (h : ¬ chkL [a, b] ≠ 0) : chk a = 0 ∧ chk b = 0 := by
  unfold chkL at h
  split at h
  · exact absurd (by assumption) h
  · rename_i ha
    unfold chkL at h
    split at h
    · exact absurd (by assumption) h
    · rename_i hb
      omega
section
variable {F : PH} {v w : Array Value} {a b : Dia} {opv : Value} {o : Op2}
theorem binary_spec (ha : DV F v a) (hb : DV F w b) (hop : OpV2 F opv o) : Spec prog 60 #[.agg v, .agg w, opv] F fun r F' => DRV F' r (bin o a b) ∧ F.le F' := by
  have ha' := ha
  have hb' := hb
  obtain ⟨s, rfl, hr⟩ := ha
  obtain ⟨t, rfl, ht⟩ := hb
  refine c60 ?_
  unfold b60
  intro b3 hb3
  refine atI ?_
  have l3 := le_set_fresh (.cells #[s.v, vi a.2] 28) hb3
  have q3 := set_eq F b3 (.cells #[s.v, vi a.2] 28)
  generalize F.set b3 (.cells #[s.v, vi a.2] 28) = F3 at *
  intro b4 hb4
  refine atI ?_
  have lx := le_set_fresh (.cells #[t.v, vi b.2] 28) hb4
  have q4 := set_eq F3 b4 (.cells #[t.v, vi b.2] 28)
  replace q3 := lx _ _ q3
  have l4 := l3.trans lx
  clear lx
  generalize F3.set b4 (.cells #[t.v, vi b.2] 28) = F4 at *
  refine ⟨by obtain ⟨k, f, c, rfl, _⟩ := hop; rfl, fun b5 hb5 => ?_⟩
  refine atI ?_
  have lx := le_set_fresh (.cells #[opv] 78) hb5
  have q5 := set_eq F4 b5 (.cells #[opv] 78)
  replace q3 := lx _ _ q3
  replace q4 := lx _ _ q4
  have l5 := l4.trans lx
  clear lx
  generalize F4.set b5 (.cells #[opv] 78) = F5 at *
  intro b6 hb6
  refine atI ?_
  have f6 : F b6 = none := le_none l5 hb6
  have n3 : b3 ≠ b6 := ne_of_fresh hb6 q3
  have n4 : b4 ≠ b6 := ne_of_fresh hb6 q4
  have n5 : b5 ≠ b6 := ne_of_fresh hb6 q5
  have lx := le_set_fresh (.cells #[Value.slice none 0 0, Value.int .i64 0] 28) hb6
  have q6 := set_eq F5 b6 (.cells #[Value.slice none 0 0, Value.int .i64 0] 28)
  replace q3 := lx _ _ q3
  replace q4 := lx _ _ q4
  replace q5 := lx _ _ q5
  have l6 := l5.trans lx
  clear lx
  generalize F5.set b6 (.cells #[Value.slice none 0 0, Value.int .i64 0] 28) = F6 at *
  refine ⟨#[s.v, vi a.2], rfl, row_whole q3, #[t.v, vi b.2], rfl, row_whole q4, rfl, rfl, fun b11 hb11 => ?_⟩
  refine atI ?_
  have e11 : wr (wr (#[Value.slice none 0 0, Value.int .i64 0, Value.slice none 0 0, Value.int .i64 0] : Array Value) 0 (#[s.v, vi a.2] : Array Value).toList) 2 (#[t.v, vi b.2] : Array Value).toList = #[s.v, vi a.2, t.v, vi b.2] := rfl
  rw [e11]
  have lx := le_set_fresh (.cells #[s.v, vi a.2, t.v, vi b.2] 28) hb11
  have q11 := set_eq F6 b11 (.cells #[s.v, vi a.2, t.v, vi b.2] 28)
  replace q3 := lx _ _ q3
  replace q4 := lx _ _ q4
  replace q5 := lx _ _ q5
  replace q6 := lx _ _ q6
  have l11 := l6.trans lx
  clear lx
  generalize F6.set b11 (.cells #[s.v, vi a.2, t.v, vi b.2] 28) = F7 at *
  refine (checkL_spec (F := F7) (x := b11) (dd := [a, b]) (n := 2) rfl (by omega) (fun i hi => ?_)).mono ?_
  · have row : ∀ (j : Nat) (s' : Sl) (r : Int), (#[s.v, vi a.2, t.v, vi b.2] : Array Value)[j]? = some s'.v → (#[s.v, vi a.2, t.v, vi b.2] : Array Value)[j + 1]? = some (vi r) → F7.row ⟨b11, j, none⟩ #[s'.v, vi r] := fun j s' r h1 h2 i hi => by
      simp only [add_mk]
      rw [cell_eq q11]
      match i, hi with
      | 0, _ => simpa using h1
      | 1, _ => simpa using h2
    match i, hi with
    | 0, _ => exact ⟨_, row 0 s _ rfl rfl, ha'.le l11⟩
    | 1, _ => exact ⟨_, row 2 t _ rfl rfl, hb'.le l11⟩
  rintro _ F8 ⟨rfl, l8⟩
  replace q3 := l8 _ _ q3
  replace q4 := l8 _ _ q4
  replace q5 := l8 _ _ q5
  replace q6 := l8 _ _ q6
  replace l8 := l11.trans l8
  refine ⟨_, rfl, fun h => ?_, fun h => ?_⟩
  · refine ret2 (K := fun vres F' => DRV F' (.tuple #[.agg vres, vi (chkL [a, b])]) (bin o a b) ∧ F.le F') (DV.none F) q6 rfl ⟨?_, le_set_new l8 f6⟩
    unfold bin
    rw [if_pos h]
    exact ⟨_, rfl, DV.none _⟩
  · obtain ⟨hca, hcb⟩ := chkL2 h
    obtain ⟨ka, ea, la⟩ := chk0 hca
    obtain ⟨kb, eb, lb⟩ := chk0 hcb
    have sa := subs_tre hca
    have sb := subs_tre hcb
    have hlen := ap_length (o := fun x y _ => o x y) ka kb (d := leaf false) trivial
    have hpf := prod_fit sa sb (c := (subs (leaf false)).length) (by simp [subs, vis])
    refine ⟨#[s.v, vi a.2], rfl, row_whole q3, #[t.v, vi b.2], rfl, row_whole q4, rfl, rfl, rfl, ?_⟩
    have hbin : bin o a b = lim (dia (ap (fun x y _ => o x y) (tre a) (tre b) (leaf false))) := by unfold bin; rw [if_neg h]
    rw [hbin]
    have ld : F.le (del1 F8 b6) := le_del1 l8 f6
    have hc := combine_spec (F := del1 F8 b6) (s0 := s) (s1 := t) (s2 := Sl.nil) (t0 := tre a) (t1 := tre b) (t2 := leaf false) (opv := .func (.func 94) #[] #[.pointer (some ⟨b5, 0, none⟩)]) (o := fun x y _ => o x y)
      (by rw [← ea]; exact hr.le ld) (by rw [← eb]; exact ht.le ld) (RdS.nil _ _) ka kb trivial (by omega) (by omega) (by simp [subs, vis]) (by omega)
      (opv_of2 (b := b5) (v := opv) (by rw [cell_eq ((del1_of n5).trans q5)]; rfl) (by
        obtain ⟨k, f, c, h1, h2, h3⟩ := hop
        exact ⟨k, f, c, h1, h2, fun x y G hG => h3 x y G (ld.trans hG)⟩))
    rw [← ea, ← eb] at hc
    refine (Spec.avoid hc q6).mono ?_
    rintro _ F9 ⟨G, ⟨w, rfl, hw, lg⟩, lG, q6', g6⟩
    have l9 := le_avoid lg lG q6' q6
    refine ⟨_, rfl, ?_⟩
    have hw' : DV (del1 F9 b6) w (dia (ap (fun x y _ => o x y) (tre a) (tre b) (leaf false))) := hw.le (fun x ob hx => by rw [del1_of (fun e => by rw [e, g6] at hx; cases hx)]; exact lG _ _ hx)
    refine (Spec.avoid (limited_spec hw') q6').mono ?_
    rintro _ F10 ⟨G', ⟨⟨w', rfl, hw''⟩, lg'⟩, lG', q6'', g6'⟩
    have l10 := le_avoid lg' lG' q6'' q6'
    refine ⟨_, _, rfl, ?_⟩
    exact ret2 (K := fun vres F' => DRV F' (.tuple #[.agg vres, vi _]) (lim (dia (ap (fun x y _ => o x y) (tre a) (tre b) (leaf false)))) ∧ F.le F') hw'' q6'' rfl ⟨⟨_, rfl, hw''.le (le_set_new lG' g6')⟩, le_set_new (l8.trans (l9.trans l10)) f6⟩
end
end Go.Proofs.Ytafojmoeaneedaa
