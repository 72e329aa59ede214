/-
  The diagrams: Check. A diagram is valid exactly if it is that of a tree.
-/
import Derived.Test.YtafojmoeaneedaaEe
import Derived.Test.YtafojmoeaneedaaGb
namespace Go.Proofs.Ytafojmoeaneedaa
open Go Go.Proofs.Try Tr
set_option maxRecDepth 10000

def Valid (d : Dia) : Prop := ∃ t : Tr, t.ok ∧ d = dia t
open Classical in
noncomputable def chk (d : Dia) : Int := if 4096 < d.1.length then 2 else if Valid d then 0 else 20

/-- A branch that may come behind those of S. -/
def Fits (S : List Tr) (b : Br) : Prop := ∃ (v : Nat) (l h : Tr), b = ⟨(v : Int), (num S l : Int), (num S h : Int)⟩ ∧ inn S l ∧ inn S h ∧ (node v l h).ok ∧ node v l h ∉ S

theorem cl_get {T : List Tr} (hT : Cl T) : ∀ k, k < T.length → Cl (T.take k) ∧ ∃ v l h, T[k]? = some (node v l h) ∧ inn (T.take k) l ∧ inn (T.take k) h ∧ (node v l h).ok ∧ node v l h ∉ T.take k := by
  induction hT with
  | nil => intro k hk; simp at hk
  | @snoc S v l h hS hl hh hok hn ih =>
    intro k hk
    by_cases hks : k < S.length
    · obtain ⟨h1, v', l', h', h2, h3, h4, h5, h6⟩ := ih k hks
      rw [List.take_append_of_le_length (by omega)]
      exact ⟨h1, v', l', h', by rw [List.getElem?_append_left hks]; exact h2, h3, h4, h5, h6⟩
    · have e : k = S.length := by simp at hk; omega
      subst e
      rw [List.take_left' rfl]
      exact ⟨hS, v, l, h, by simp, hl, hh, hok, hn⟩
theorem num_take {T : List Tr} {k : Nat} {t : Tr} (h : inn (T.take k) t) : num T t = num (T.take k) t := by
  have := num_append (X := T.drop k) h
  rw [List.take_append_drop] at this
  exact this
theorem brs_take {T : List Tr} (hT : Cl T) (k : Nat) : brs (T.take k) = (brs T).take k := by
  by_cases hk : k < T.length
  · have h := brs_append (X := T.drop k) (cl_get hT k hk).1
    rw [List.take_append_drop] at h
    rw [h, List.take_left' (by rw [brs_length, List.length_take]; omega)]
  · rw [List.take_of_length_le (by omega), List.take_of_length_le (by rw [brs_length]; omega)]
theorem vis_sub {S0 : List Tr} (h0 : Cl S0) : ∀ (t : Tr) (S : List Tr), inn S0 t → (∀ x ∈ S, x ∈ S0) → ∀ x ∈ vis t S, x ∈ S0
  | leaf _, _, _, hs => hs
  | node v l h, S, ht, hs => by
    obtain ⟨hl, hh⟩ := h0.inn_kids ht
    unfold vis
    split
    · exact hs
    · intro x hx
      rcases List.mem_append.1 hx with hx | hx
      · exact vis_sub h0 h _ hh (vis_sub h0 l S hl hs) x hx
      · rw [List.mem_singleton.1 hx]
        exact inn_mem ht rfl
theorem subs_le {S0 : List Tr} (h0 : Cl S0) {t : Tr} (ht : inn S0 t) : (subs t).length ≤ S0.length :=
  nodup_length _ _ (subs_cl (h0.inn_ok ht)).nodup (vis_sub h0 t [] ht (fun x hx => by cases hx))

theorem fits_of_valid {d : Dia} (hv : Valid d) {S : List Tr} (hS : Cl S) {k : Nat} (hk : S.length = k) (hkd : k < d.1.length) (hb : brs S = d.1.take k) : Fits S d.1[k] := by
  obtain ⟨t, ht, rfl⟩ := hv
  have hT := subs_cl ht
  have hl : k < (subs t).length := by simpa [dia, brs_length] using hkd
  obtain ⟨h1, v, l, h, h2, h3, h4, h5, h6⟩ := cl_get hT k hl
  have e : S = (subs t).take k := brs_inj hS h1 (by rw [hb, brs_take hT]; rfl)
  subst e
  refine ⟨v, l, h, ?_, h3, h4, h5, h6⟩
  have hg := brs_get h2
  have e2 : (brs (subs t))[k]? = some (dia t).1[k] := List.getElem?_eq_getElem (by simpa [dia] using hkd)
  rw [e2] at hg
  rw [Option.some.inj hg]
  simp only [br]
  rw [num_take h3, num_take h4]

theorem fits_facts {S : List Tr} (hS : Cl S) {b : Br} (h : Fits S b) : 0 ≤ b.v ∧ b.v ≤ 63 ∧ 0 ≤ b.l ∧ 0 ≤ b.h ∧ b.l ≤ S.length + 1 ∧ b.h ≤ S.length + 1 ∧ b.l ≠ b.h ∧ b ∉ brs S ∧
    b.v < (tr S b.l.toNat).top ∧ b.v < (tr S b.h.toNat).top := by
  obtain ⟨v, l, h, rfl, hl, hh, ⟨o1, o2, o3, o4, o5, o6⟩, hn⟩ := h
  have h1 := num_le hl
  have h2 := num_le hh
  refine ⟨by simp, by simp only; omega, by simp, by simp, by simp only; omega, by simp only; omega, fun e => o4 (num_inj hl hh (by simp only at e; omega)), fun hm => hn ((mem_brs hS hl hh).1 hm), ?_, ?_⟩
  · simp only [Int.toNat_natCast, tr_num hS hl]; omega
  · simp only [Int.toNat_natCast, tr_num hS hh]; omega
theorem fits_of {S : List Tr} (hS : Cl S) {b : Br} (h1 : 0 ≤ b.v) (h2 : b.v ≤ 63) (h3 : 0 ≤ b.l) (h4 : 0 ≤ b.h) (h5 : b.l ≤ S.length + 1) (h6 : b.h ≤ S.length + 1) (h7 : b.l ≠ b.h) (h8 : b ∉ brs S)
    (h9 : b.v < (tr S b.l.toNat).top) (h10 : b.v < (tr S b.h.toNat).top) : Fits S b := by
  have il : inn S (tr S b.l.toNat) := tr_inn (by omega)
  have ih : inn S (tr S b.h.toNat) := tr_inn (by omega)
  have nl := num_tr hS (n := b.l.toNat) (by omega)
  have nh := num_tr hS (n := b.h.toNat) (by omega)
  have e : b = ⟨((b.v.toNat : Nat) : Int), ((num S (tr S b.l.toNat) : Nat) : Int), ((num S (tr S b.h.toNat) : Nat) : Int)⟩ := by
    rw [nl, nh]
    obtain ⟨x, y, z⟩ := b
    simp only [Br.mk.injEq]
    simp only at *
    omega
  refine ⟨b.v.toNat, _, _, e, il, ih, ⟨by omega, by omega, by omega, fun he => ?_, hS.inn_ok il, hS.inn_ok ih⟩, fun hm => h8 ?_⟩
  · rw [he] at nl; omega
  · rw [e]
    exact (mem_brs hS il ih).2 hm

def kmS (S : List Tr) (x : Br) : Option Value := if x ∈ brs S then some (.bool true) else none
theorem kmS_snoc {S : List Tr} {b : Br} {S' : List Tr} (h : brs S' = brs S ++ [b]) : kmS S' = fun x => if x = b then some (.bool true) else kmS S x := by
  funext x
  unfold kmS
  rw [h]
  by_cases hx : x = b <;> by_cases hm : x ∈ brs S <;> simp [hx, hm]

section
variable {F : PH} {v : Array Value} {d : Dia}
theorem check_spec (hd : DV F v d) : Spec prog 23 #[.agg v] F fun r F' => r = vi (chk d) ∧ F.le F' := by
  have hd' := hd
  obtain ⟨s, rfl, hr⟩ := hd
  have hlen := hr.blen
  refine c23 ?_
  unfold b23
  intro b1 hb1
  refine atI ?_
  have l1 := le_set_fresh (.cells #[s.v, vi d.2] 28) hb1
  have h1 := set_eq F b1 (.cells #[s.v, vi d.2] 28)
  generalize F.set b1 (.cells #[s.v, vi d.2] 28) = G at *
  refine ⟨s, by rw [cell_eq h1]; rfl, fun hbig => ?_, fun hbig => ?_⟩
  · refine ⟨?_, l1⟩
    unfold chk
    rw [if_pos (by omega)]
  have hsm : d.1.length ≤ 4096 := by omega
  intro b11 hb11
  refine atI ?_
  refine ⟨s, by rw [cell_eq (le_set_fresh _ hb11 _ _ h1)]; rfl, ?_⟩
  have fin : ∀ {F' : PH}, G.le F' → ¬ Valid d → (vi 20 = vi (chk d) ∧ F.le F') := fun {F'} hl hn => by
    refine ⟨?_, l1.trans hl⟩
    unfold chk
    rw [if_neg (by omega), if_neg hn]
  refine ⟨fun m i F' => ∃ (k : Nat) (S : List Tr), i = k ∧ k ≤ d.1.length ∧ m = d.1.length - k ∧ Cl S ∧ S.length = k ∧ brs S = d.1.take k ∧ G.le F' ∧ ∃ o, F' b11 = some o ∧ MapO encB (kmS S) o, d.1.length,
    ⟨0, [], rfl, by omega, rfl, .nil, rfl, rfl, le_set_fresh _ hb11, _, set_eq _ _ _, MapO.empty encB⟩, ?_⟩
  rintro m i F1 ⟨k, S, rfl, hk, rfl, hS, hSk, hSb, hle, o, hm, hmo⟩
  unfold b23L1
  refine ⟨fun hlt => ?_, fun hge => ?_⟩
  · have hkd : k < d.1.length := by omega
    obtain ⟨a, ha, hrow, _⟩ := rdb (hr.le (l1.trans hle)) (List.getElem?_eq_getElem hkd)
    have hbad : ¬ Fits S d.1[k] → ¬ Valid d := fun hn hv => hn (fits_of_valid hv hS hSk hkd hSb)
    have hfits := fits_facts hS (b := d.1[k])
    have hof := fits_of hS (b := d.1[k])
    refine ⟨a, ha, by omega, hlt, barr d.1[k], rfl, by simpa using hrow, ?_⟩
    generalize hB : d.1[k] = B at *
    intro b5 hb5
    refine atI ?_
    refine stW (set_eq _ _ _) rfl rfl (st_barr _) ?_
    rw [set_twice]
    have l5 := le_set_fresh (.cells (barr B) 72) hb5
    have h5 := set_eq F1 b5 (.cells (barr B) 72)
    replace hm := l5 _ _ hm
    replace hle := hle.trans l5
    generalize F1.set b5 (.cells (barr B) 72) = F2 at *
    have c0 : F2.cell ⟨b5, 0, none⟩ = some (vi B.v) := by rw [cell_eq h5]; rfl
    have c1 : F2.cell ⟨b5, 1, none⟩ = some (vi B.l) := by rw [cell_eq h5]; rfl
    have c2 : F2.cell ⟨b5, 2, none⟩ = some (vi B.h) := by rw [cell_eq h5]; rfl
    refine ⟨_, c0, fun h => fin hle (hbad fun hf => ?_), fun g1 => ?_⟩
    · have := (hfits hf).1; omega
    refine ⟨_, c0, fun h => fin hle (hbad fun hf => ?_), fun g2 => ?_⟩
    · have := (hfits hf).2.1; omega
    refine ⟨_, c1, fun h => fin hle (hbad fun hf => ?_), fun g3 => ?_⟩
    · have := (hfits hf).2.2.1; omega
    refine ⟨_, c2, fun h => fin hle (hbad fun hf => ?_), fun g4 => ?_⟩
    · have := (hfits hf).2.2.2.1; omega
    have hw : IntKind.i64.wrap ((k : Int) + 1) = ((k + 1 : Nat) : Int) := w64s (by omega)
    rw [hw]
    refine ⟨_, c1, fun h => fin hle (hbad fun hf => ?_), fun g5 => ?_⟩
    · have := (hfits hf).2.2.2.2.1; omega
    refine ⟨_, c2, fun h => fin hle (hbad fun hf => ?_), fun g6 => ?_⟩
    · have := (hfits hf).2.2.2.2.2.1; omega
    refine ⟨_, c1, _, c2, fun h => fin hle (hbad fun hf => ?_), fun g7 => ?_⟩
    · exact (hfits hf).2.2.2.2.2.2.1 h
    have hlk := rdo_lookup (F := F2) mtK hm hmo B false
    refine ⟨barr B, rfl, row_whole h5, decide (B ∈ brs S), ?_, fun h => fin hle (hbad fun hf => ?_), fun g8 => ?_⟩
    · unfold kmS at hlk
      by_cases hx : B ∈ brs S
      · rw [if_pos hx] at hlk
        simpa [hx] using hlk
      · rw [if_neg hx] at hlk
        simpa [hx] using hlk
    · exact (hfits hf).2.2.2.2.2.2.2.1 (by simpa using h)
    have g8' : B ∉ brs S := by simpa using g8
    have hpre : brs S <+: d.1 := by rw [hSb]; exact List.take_prefix _ _
    have il : inn S (tr S B.l.toNat) := tr_inn (by omega)
    have ih : inn S (tr S B.h.toNat) := tr_inn (by omega)
    have nl := num_tr hS (n := B.l.toNat) (by omega)
    have nh := num_tr hS (n := B.h.toNat) (by omega)
    have el : Value.int .i64 B.l = vi (num S (tr S B.l.toNat)) := by rw [nl]; congr 1; omega
    have eh : Value.int .i64 B.h = vi (num S (tr S B.h.toNat)) := by rw [nh]; congr 1; omega
    refine ⟨_, rfl, row_whole (hle _ _ h1), _, c1, _, c0, ?_⟩
    rw [el]
    refine (level_spec (hd'.le (l1.trans hle)) hpre il (by omega)).mono ?_
    rintro _ F3 ⟨rfl, l3⟩
    refine ⟨_, rfl, le_cell l3 c0, fun h => fin (hle.trans l3) (hbad fun hf => ?_), fun g9 => ?_⟩
    · have := (hfits hf).2.2.2.2.2.2.2.2.1; omega
    refine ⟨_, rfl, row_whole ((hle.trans l3) _ _ h1), _, le_cell l3 c2, _, le_cell l3 c0, ?_⟩
    rw [eh]
    refine (level_spec (hd'.le (l1.trans (hle.trans l3))) hpre ih (by omega)).mono ?_
    rintro _ F4 ⟨rfl, l4⟩
    refine ⟨_, rfl, le_cell l4 (le_cell l3 c0), le_cell l4 (le_cell l3 c0), fun h => fin ((hle.trans l3).trans l4) (hbad fun hf => ?_), fun g10 => ?_⟩
    · have := (hfits hf).2.2.2.2.2.2.2.2.2; omega
    have hF := hof (by omega) (by omega) (by omega) (by omega) (by omega) (by omega) g7 g8' (by omega) (by omega)
    refine ⟨barr B, rfl, row_whole (l4 _ _ (l3 _ _ h5)), ?_⟩
    refine runs_mapUpdate mtK (l4 _ _ (l3 _ _ hm)) hmo B _ fun o' ho' => ?_
    obtain ⟨v, l, h, e, hl, hh, hok, hn⟩ := hF
    have e2 : brs (S ++ [node v l h]) = brs S ++ [B] := by rw [brs_snoc hS hl hh, e]
    rw [← kmS_snoc e2] at ho'
    have hg11 : G b11 = none := hb11
    refine ⟨d.1.length - (k + 1), by omega, k + 1, S ++ [node v l h], rfl, by omega, rfl, .snoc hS hl hh hok hn, by simp [hSk], ?_, le_set_new ((hle.trans l3).trans l4) hg11, o', set_eq _ _ _, ho'⟩
    rw [e2, hSb, List.take_succ_eq_append_getElem hkd, hB]
  · unfold b23j1
    have hk' : k = d.1.length := by omega
    have hSd : brs S = d.1 := by rw [hSb, hk', List.take_length]
    have cr : F1.cell ⟨b1, 1, none⟩ = some (vi d.2) := by rw [cell_eq (hle _ _ h1)]; rfl
    have cs : F1.cell ⟨b1, 0, none⟩ = some s.v := by rw [cell_eq (hle _ _ h1)]; rfl
    have key : ∀ t, t.ok → d = dia t → S = subs t ∧ d.2 = num S t := fun t ht e => by
      subst e
      have := brs_inj hS (subs_cl ht) hSd
      exact ⟨this, by rw [this]; rfl⟩
    have hrange : Valid d → 0 ≤ d.2 ∧ d.2 ≤ (d.1.length : Int) + 1 := by
      rintro ⟨t, ht, e⟩
      obtain ⟨h1, h2⟩ := key t ht e
      have h3 : inn S t := by rw [h1]; exact subs_inn ht
      have := num_le h3
      omega
    refine ⟨_, cr, fun h => fin hle (fun hv => by have := (hrange hv).1; omega), fun g1 => ?_⟩
    have hw : IntKind.i64.wrap ((s.len : Int) + 1) = ((d.1.length + 1 : Nat) : Int) := by rw [hlen]; exact w64s (by omega)
    refine ⟨_, cr, s, cs, ?_⟩
    rw [hw]
    refine ⟨fun h => fin hle (fun hv => by have := (hrange hv).2; omega), fun g2 => ?_⟩
    refine ⟨s, cs, ?_⟩
    intro b98 hb98
    refine atI ?_
    have l98 := le_set_fresh (.cells #[s.v, Value.map none] 84) hb98
    have h98 := set_eq F1 b98 (.cells #[s.v, Value.map none] 84)
    replace hle := hle.trans l98
    generalize F1.set b98 (.cells #[s.v, Value.map none] 84) = F2 at *
    refine ⟨_, le_cell l98 cr, ?_⟩
    have it : inn S (tr S d.2.toNat) := tr_inn (by omega)
    have nt := num_tr hS (n := d.2.toNat) (by omega)
    have et : Value.int .i64 d.2 = vi (num S (tr S d.2.toNat)) := by rw [nt]; congr 1; omega
    rw [et]
    refine (diagram_spec (by rw [cell_eq h98]; rfl) (by rw [hSd]; exact hr.le (l1.trans hle)) hS it (by omega)).mono ?_
    rintro _ F3 ⟨w, rfl, hw, l3⟩
    refine ⟨_, rfl, ?_⟩
    intro b6 hb6
    refine atI ?_
    refine stW (set_eq _ _ _) hw.size rfl hw.st ?_
    rw [set_twice]
    have l6 := le_set_fresh (.cells w 28) hb6
    have h6 := set_eq F3 b6 (.cells w 28)
    replace hle := (hle.trans l3).trans l6
    replace hw := hw.le l6
    generalize F3.set b6 (.cells w 28) = F4 at *
    refine ⟨w, hw.size, row_whole h6, _, rfl, row_whole (hle _ _ h1), ?_⟩
    have hok := hS.inn_ok it
    refine (same_spec hw (hd'.le (l1.trans hle)) (by
      have := subs_le hS it
      simp only [dia, brs_length]
      omega)).mono ?_
    rintro _ F5 ⟨rfl, l5⟩
    refine ⟨_, rfl, fun h => fin (hle.trans l5) ?_, fun h => ?_⟩
    · rintro ⟨t, ht, e⟩
      obtain ⟨k1, k2⟩ := key t ht e
      have : tr S d.2.toNat = t := by
        rw [k2, Int.toNat_natCast]
        exact tr_num hS (by rw [k1]; exact subs_inn ht)
      rw [this, ← e] at h
      simp at h
    · refine ⟨?_, l1.trans (hle.trans l5)⟩
      have : dia (tr S d.2.toNat) = d := by simpa using h
      unfold chk
      rw [if_neg (by omega), if_pos ⟨_, hok, this.symm⟩]
end
end Go.Proofs.Ytafojmoeaneedaa
