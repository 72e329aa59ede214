/-
  The diagrams: complement, intersection, union, symmetric difference, choice.
-/
import Derived.Test.YtafojmoeaneedaaEi
namespace Go.Proofs.Ytafojmoeaneedaa
open Go Go.Proofs.Try Tr
set_option maxRecDepth 10000

abbrev none0 : Dia := ([], 0)
/-- A diagram and an error. -/
abbrev DR := Dia × Int
noncomputable def chkL : List Dia → Int
  | [] => 0
  | d :: r => if chk d ≠ 0 then chk d else chkL r
open Classical in
noncomputable def tre (d : Dia) : Tr := if h : Valid d then h.choose else leaf false
theorem tre_dia {t : Tr} (h : t.ok) : tre (dia t) = t := by
  have hv : Valid (dia t) := ⟨t, h, rfl⟩
  unfold tre
  rw [dif_pos hv]
  exact (dia_inj h hv.choose_spec.1 hv.choose_spec.2).symm
theorem chk0 {d : Dia} (h : chk d = 0) : (tre d).ok ∧ d = dia (tre d) ∧ d.1.length ≤ 4096 := by
  unfold chk at h
  split at h
  · cases h
  · rename_i hl
    split at h
    · rename_i hv
      unfold tre
      rw [dif_pos hv]
      exact ⟨hv.choose_spec.1, hv.choose_spec.2, by omega⟩
    · cases h
theorem chk_dia {t : Tr} (h : t.ok) (hl : (subs t).length ≤ 4096) : chk (dia t) = 0 := by
  unfold chk
  rw [if_neg (by simp only [dia, brs_length]; omega), if_pos ⟨t, h, rfl⟩]
theorem subs_tre {d : Dia} (h : chk d = 0) : (subs (tre d)).length ≤ 4096 := by
  obtain ⟨_, h2, h3⟩ := chk0 h
  rw [h2] at h3
  simpa [dia, brs_length] using h3
def lim (d : Dia) : DR := if 4096 < d.1.length then (none0, 2) else (d, 0)
abbrev Op2 := Bool → Bool → Bool
noncomputable def bin (o : Op2) (a b : Dia) : DR := if chkL [a, b] ≠ 0 then (none0, chkL [a, b]) else lim (dia (ap (fun x y _ => o x y) (tre a) (tre b) (leaf false)))
noncomputable def cho (c a b : Dia) : DR := if chkL [c, a, b] ≠ 0 then (none0, chkL [c, a, b]) else lim (dia (ap (fun x y z => x && y || !x && z) (tre c) (tre a) (tre b)))

def DRV (F : PH) (v : Value) (x : DR) : Prop := ∃ w, v = .tuple #[.agg w, vi x.2] ∧ DV F w x.1
theorem DRV.le {F G : PH} {v : Value} {x : DR} (h : DRV F v x) (hl : F.le G) : DRV G v x := by
  obtain ⟨w, h1, h2⟩ := h
  exact ⟨w, h1, h2.le hl⟩
theorem DV.none (F : PH) : DV F #[Value.slice none 0 0, Value.int .i64 0] none0 := ⟨Sl.nil, rfl, RdS.nil F 3⟩

theorem checkL_spec {F : PH} {x : Nat} {dd : List Dia} {n : Nat} (hn : n = dd.length) (hs : n ≤ 100) (h : ∀ i (hi : i < dd.length), ∃ w, F.row ⟨x, i * 2, none⟩ w ∧ DV F w dd[i]) :
    Spec prog 68 #[(Sl.mk (some ⟨x, 0, none⟩) n n).v] F fun r F' => r = vi (chkL dd) ∧ F.le F' := by
  subst hn
  refine c68 ?_
  unfold b68
  refine ⟨fun m i F' => ∃ k : Nat, i = k ∧ k ≤ dd.length ∧ m = dd.length - k ∧ F.le F' ∧ chkL dd = chkL (dd.drop k), dd.length, ⟨0, rfl, by omega, rfl, PH.le_rfl, rfl⟩, ?_⟩
  rintro m i F1 ⟨k, rfl, hk, rfl, hle, hch⟩
  unfold b68L1
  refine ⟨fun hlt => ?_, fun hge => ?_⟩
  · have hkd : k < dd.length := by simpa using hlt
    obtain ⟨w, hr, hd⟩ := h k hkd
    refine ⟨_, rfl, by omega, hlt, w, hd.size, by simpa using row_le hle hr, ?_⟩
    intro b4 hb4
    refine atI ?_
    refine stW (set_eq _ _ _) hd.size rfl hd.st ?_
    rw [set_twice]
    have l4 := le_set_fresh (.cells w 28) hb4
    refine ⟨w, hd.size, row_whole (set_eq _ _ _), ?_⟩
    refine (check_spec (hd.le (hle.trans l4))).mono ?_
    rintro _ F2 ⟨rfl, l5⟩
    rw [List.drop_eq_getElem_cons hkd] at hch
    refine ⟨_, rfl, fun hne => ?_, fun he => ?_⟩
    · refine ⟨?_, (hle.trans l4).trans l5⟩
      rw [hch]
      unfold chkL
      rw [if_pos hne]
    · refine ⟨dd.length - (k + 1), by omega, k + 1, w64s (by omega), by omega, rfl, (hle.trans l4).trans l5, ?_⟩
      rw [hch]
      conv => lhs; unfold chkL
      rw [if_neg he]
  · unfold b68j1
    have hk' : k = dd.length := by
      have : ¬ k < dd.length := by simpa using hge
      omega
    refine ⟨?_, hle⟩
    rw [hch, hk', List.drop_length]
    rfl

theorem limited_spec {F : PH} {v : Array Value} {d : Dia} (hd : DV F v d) : Spec prog 69 #[.agg v] F fun r F' => DRV F' r (lim d) ∧ F.le F' := by
  have hd' := hd
  obtain ⟨s, rfl, hr⟩ := hd
  have hlen := hr.blen
  refine c69 ?_
  unfold b69
  intro b1 hb1
  refine atI ?_
  have l1 := le_set_fresh (.cells #[s.v, vi d.2] 28) hb1
  have h1 := set_eq F b1 (.cells #[s.v, vi d.2] 28)
  generalize F.set b1 (.cells #[s.v, vi d.2] 28) = F1 at *
  intro b2 hb2
  refine atI ?_
  have l2 := l1.trans (le_set_fresh (.cells #[Value.slice none 0 0, Value.int .i64 0] 28) hb2)
  have n12 : b1 ≠ b2 := ne_of_fresh hb2 h1
  have f2 : F b2 = none := le_none l1 hb2
  refine ⟨s, by rw [cell_eq ((set_ne _ _ n12).trans h1)]; rfl, fun h => ?_, fun h => ?_⟩
  · refine ret2 (K := fun vres F' => DRV F' (.tuple #[.agg vres, vi 2]) (lim d) ∧ F.le F') (DV.none F) (set_eq _ _ _) rfl ⟨?_, le_set_new l2 f2⟩
    unfold lim
    rw [if_pos (by omega)]
    exact ⟨_, rfl, DV.none _⟩
  · refine ⟨#[s.v, vi d.2], rfl, row_whole ((set_ne _ _ n12).trans h1), ?_⟩
    refine ret2 (K := fun vres F' => DRV F' (.tuple #[.agg vres, vi 0]) (lim d) ∧ F.le F') hd' (set_eq _ _ _) rfl ⟨?_, le_set_new l2 f2⟩
    unfold lim
    rw [if_neg (by omega)]
    exact ⟨_, rfl, hd'.le (le_set_new l2 f2)⟩

/-! two diagrams -/
def OpV2 (F0 : PH) (v : Value) (o : Op2) : Prop := ∃ (k : Nat) (fst cap : Array Value), v = .func (.func k) fst cap ∧ callableB prog k = true ∧
  ∀ (x y : Bool) (F : PH), F0.le F → Spec prog k (fst ++ [Value.bool x, Value.bool y].toArray ++ cap) F fun r F' => r = .bool (o x y) ∧ F.le F'
theorem cb94 : callableB prog 94 = true := by kernel_rfl
theorem opv_of2 {F0 : PH} {b : Nat} {v : Value} {o : Op2} (hb : F0.cell ⟨b, 0, none⟩ = some v) (h : OpV2 F0 v o) : OpV F0 (.func (.func 94) #[] #[.pointer (some ⟨b, 0, none⟩)]) (fun x y _ => o x y) := by
  refine ⟨94, #[], #[.pointer (some ⟨b, 0, none⟩)], rfl, cb94, fun x y z F hle => ?_⟩
  obtain ⟨k, fst, cap, rfl, hcb, hsp⟩ := h
  refine c94 ?_
  unfold b94
  refine ⟨_, rfl, _, le_cell hle hb, k, fst, cap, rfl, hcb, ?_⟩
  refine (hsp x y F hle).mono ?_
  rintro _ F' ⟨rfl, hl⟩
  exact ⟨_, rfl, rfl, hl⟩

theorem prod_fit {a b c : Nat} (ha : a ≤ 4096) (hb : b ≤ 4096) (hc : c ≤ 4096) : (a + 2) * ((b + 2) * (c + 2)) ≤ 68820189192 := by
  calc (a + 2) * ((b + 2) * (c + 2)) ≤ 4098 * (4098 * 4098) := Nat.mul_le_mul (by omega) (Nat.mul_le_mul (by omega) (by omega))
    _ ≤ 68820189192 := by decide
theorem chkL2 {a b : Dia} (h : ¬ chkL [a, b] ≠ 0) : chk a = 0 ∧ chk b = 0 := by
  unfold chkL at h
  split at h
  · exact absurd (by assumption) h
  · rename_i ha
    unfold chkL at h
    split at h
    · exact absurd (by assumption) h
    · rename_i hb
      omega
section
variable {F : PH} {v w : Array Value} {a b : Dia} {opv : Value} {o : Op2}
theorem binary_spec (ha : DV F v a) (hb : DV F w b) (hop : OpV2 F opv o) : Spec prog 60 #[.agg v, .agg w, opv] F fun r F' => DRV F' r (bin o a b) ∧ F.le F' := by
  have ha' := ha
  have hb' := hb
  obtain ⟨s, rfl, hr⟩ := ha
  obtain ⟨t, rfl, ht⟩ := hb
  refine c60 ?_
  unfold b60
  intro b3 hb3
  refine atI ?_
  have l3 := le_set_fresh (.cells #[s.v, vi a.2] 28) hb3
  have q3 := set_eq F b3 (.cells #[s.v, vi a.2] 28)
  generalize F.set b3 (.cells #[s.v, vi a.2] 28) = F3 at *
  intro b4 hb4
  refine atI ?_
  have lx := le_set_fresh (.cells #[t.v, vi b.2] 28) hb4
  have q4 := set_eq F3 b4 (.cells #[t.v, vi b.2] 28)
  replace q3 := lx _ _ q3
  have l4 := l3.trans lx
  clear lx
  generalize F3.set b4 (.cells #[t.v, vi b.2] 28) = F4 at *
  refine ⟨by obtain ⟨k, f, c, rfl, _⟩ := hop; rfl, fun b5 hb5 => ?_⟩
  refine atI ?_
  have lx := le_set_fresh (.cells #[opv] 78) hb5
  have q5 := set_eq F4 b5 (.cells #[opv] 78)
  replace q3 := lx _ _ q3
  replace q4 := lx _ _ q4
  have l5 := l4.trans lx
  clear lx
  generalize F4.set b5 (.cells #[opv] 78) = F5 at *
  intro b6 hb6
  refine atI ?_
  have f6 : F b6 = none := le_none l5 hb6
  have n3 : b3 ≠ b6 := ne_of_fresh hb6 q3
  have n4 : b4 ≠ b6 := ne_of_fresh hb6 q4
  have n5 : b5 ≠ b6 := ne_of_fresh hb6 q5
  have lx := le_set_fresh (.cells #[Value.slice none 0 0, Value.int .i64 0] 28) hb6
  have q6 := set_eq F5 b6 (.cells #[Value.slice none 0 0, Value.int .i64 0] 28)
  replace q3 := lx _ _ q3
  replace q4 := lx _ _ q4
  replace q5 := lx _ _ q5
  have l6 := l5.trans lx
  clear lx
  generalize F5.set b6 (.cells #[Value.slice none 0 0, Value.int .i64 0] 28) = F6 at *
  refine ⟨#[s.v, vi a.2], rfl, row_whole q3, #[t.v, vi b.2], rfl, row_whole q4, rfl, rfl, fun b11 hb11 => ?_⟩
  refine atI ?_
  have e11 : wr (wr (#[Value.slice none 0 0, Value.int .i64 0, Value.slice none 0 0, Value.int .i64 0] : Array Value) 0 (#[s.v, vi a.2] : Array Value).toList) 2 (#[t.v, vi b.2] : Array Value).toList = #[s.v, vi a.2, t.v, vi b.2] := rfl
  rw [e11]
  have lx := le_set_fresh (.cells #[s.v, vi a.2, t.v, vi b.2] 28) hb11
  have q11 := set_eq F6 b11 (.cells #[s.v, vi a.2, t.v, vi b.2] 28)
  replace q3 := lx _ _ q3
  replace q4 := lx _ _ q4
  replace q5 := lx _ _ q5
  replace q6 := lx _ _ q6
  have l11 := l6.trans lx
  clear lx
  generalize F6.set b11 (.cells #[s.v, vi a.2, t.v, vi b.2] 28) = F7 at *
  refine (checkL_spec (F := F7) (x := b11) (dd := [a, b]) (n := 2) rfl (by omega) (fun i hi => ?_)).mono ?_
  · have row : ∀ (j : Nat) (s' : Sl) (r : Int), (#[s.v, vi a.2, t.v, vi b.2] : Array Value)[j]? = some s'.v → (#[s.v, vi a.2, t.v, vi b.2] : Array Value)[j + 1]? = some (vi r) → F7.row ⟨b11, j, none⟩ #[s'.v, vi r] := fun j s' r h1 h2 i hi => by
      simp only [add_mk]
      rw [cell_eq q11]
      match i, hi with
      | 0, _ => simpa using h1
      | 1, _ => simpa using h2
    match i, hi with
    | 0, _ => exact ⟨_, row 0 s _ rfl rfl, ha'.le l11⟩
    | 1, _ => exact ⟨_, row 2 t _ rfl rfl, hb'.le l11⟩
  rintro _ F8 ⟨rfl, l8⟩
  replace q3 := l8 _ _ q3
  replace q4 := l8 _ _ q4
  replace q5 := l8 _ _ q5
  replace q6 := l8 _ _ q6
  replace l8 := l11.trans l8
  refine ⟨_, rfl, fun h => ?_, fun h => ?_⟩
  · refine ret2 (K := fun vres F' => DRV F' (.tuple #[.agg vres, vi (chkL [a, b])]) (bin o a b) ∧ F.le F') (DV.none F) q6 rfl ⟨?_, le_set_new l8 f6⟩
    unfold bin
    rw [if_pos h]
    exact ⟨_, rfl, DV.none _⟩
  · obtain ⟨hca, hcb⟩ := chkL2 h
    obtain ⟨ka, ea, la⟩ := chk0 hca
    obtain ⟨kb, eb, lb⟩ := chk0 hcb
    have sa := subs_tre hca
    have sb := subs_tre hcb
    have hlen := ap_length (o := fun x y _ => o x y) ka kb (d := leaf false) trivial
    have hpf := prod_fit sa sb (c := (subs (leaf false)).length) (by simp [subs, vis])
    refine ⟨#[s.v, vi a.2], rfl, row_whole q3, #[t.v, vi b.2], rfl, row_whole q4, rfl, rfl, rfl, ?_⟩
    have hbin : bin o a b = lim (dia (ap (fun x y _ => o x y) (tre a) (tre b) (leaf false))) := by unfold bin; rw [if_neg h]
    rw [hbin]
    have ld : F.le (del1 F8 b6) := le_del1 l8 f6
    have hc := combine_spec (F := del1 F8 b6) (s0 := s) (s1 := t) (s2 := Sl.nil) (t0 := tre a) (t1 := tre b) (t2 := leaf false) (opv := .func (.func 94) #[] #[.pointer (some ⟨b5, 0, none⟩)]) (o := fun x y _ => o x y)
      (by rw [← ea]; exact hr.le ld) (by rw [← eb]; exact ht.le ld) (RdS.nil _ _) ka kb trivial (by omega) (by omega) (by simp [subs, vis]) (by omega)
      (opv_of2 (b := b5) (v := opv) (by rw [cell_eq ((del1_of n5).trans q5)]; rfl) (by
        obtain ⟨k, f, c, h1, h2, h3⟩ := hop
        exact ⟨k, f, c, h1, h2, fun x y G hG => h3 x y G (ld.trans hG)⟩))
    rw [← ea, ← eb] at hc
    refine (Spec.avoid hc q6).mono ?_
    rintro _ F9 ⟨G, ⟨w, rfl, hw, lg⟩, lG, q6', g6⟩
    have l9 := le_avoid lg lG q6' q6
    refine ⟨_, rfl, ?_⟩
    have hw' : DV (del1 F9 b6) w (dia (ap (fun x y _ => o x y) (tre a) (tre b) (leaf false))) := hw.le (fun x ob hx => by rw [del1_of (fun e => by rw [e, g6] at hx; cases hx)]; exact lG _ _ hx)
    refine (Spec.avoid (limited_spec hw') q6').mono ?_
    rintro _ F10 ⟨G', ⟨⟨w', rfl, hw''⟩, lg'⟩, lG', q6'', g6'⟩
    have l10 := le_avoid lg' lG' q6'' q6'
    refine ⟨_, _, rfl, ?_⟩
    exact ret2 (K := fun vres F' => DRV F' (.tuple #[.agg vres, vi _]) (lim (dia (ap (fun x y _ => o x y) (tre a) (tre b) (leaf false)))) ∧ F.le F') hw'' q6'' rfl ⟨⟨_, rfl, hw''.le (le_set_new lG' g6')⟩, le_set_new (l8.trans (l9.trans l10)) f6⟩
end
end Go.Proofs.Ytafojmoeaneedaa
